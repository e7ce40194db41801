/-
  Closed facts on the types, fields and functions of this seat, each reckoned by the kernel (printed by a program: facts.py). No condition.
  The memory of package heap as plain data: a space, and what is done to it. Nothing of the program is named here. No condition.
  The plain machine of the heap: words by their addresses, in functions; what each method does to it. Nothing of the program is named here. No condition.
  The plain machine: what is in order, while words are forwarded. Nothing of the program is named here. No condition.
  The plain machine: an object is moved, a word is forwarded; order is kept. Nothing of the program is named here. No condition.
  The plain machine: what addresses stand for (objects without addresses), while words are forwarded. Nothing of the program is named here. No condition.
  The plain machine: words are forwarded in their places; lists of them. Nothing of the program is named here. No condition.
  The plain machine: lists of words are forwarded, new objects looked through; the young objects that are reached. Nothing of the program is named here. No condition.
  The plain machine: what is in order between the methods; Minor keeps it. Nothing of the program is named here. No condition.
-/
import Derived.Test.YtmhmpjgkkpbnnaaRows
import Derived.Test.YtmhmpjgkkpbnnaaM2
namespace Go.Proofs.Ytmhmpjgkkpbnnaa
open Go.Ck
namespace Fx
theorem mixed : Try.prog.follows .mixedOrders = true := by kernel_rfl
theorem sz3 : Sz Try.prog 3 1 := fun _ => by kernel_rfl
theorem sz4 : Sz Try.prog 4 1 := fun _ => by kernel_rfl
theorem sz22 : Sz Try.prog 22 1 := fun _ => by kernel_rfl
theorem sz27 : Sz Try.prog 27 1 := fun _ => by kernel_rfl
theorem sz28 : Sz Try.prog 28 1 := fun _ => by kernel_rfl
theorem sz34 : Sz Try.prog 34 1 := fun _ => by kernel_rfl
theorem sz38 : Sz Try.prog 38 5 := fun _ => by kernel_rfl
theorem sz40 : Sz Try.prog 40 1 := fun _ => by kernel_rfl
theorem sz42 : Sz Try.prog 42 3 := fun _ => by kernel_rfl
theorem sz46 : Sz Try.prog 46 4 := fun _ => by kernel_rfl
theorem sz50 : Sz Try.prog 50 1 := fun _ => by kernel_rfl
theorem sz52 : Sz Try.prog 52 13 := fun _ => by kernel_rfl
theorem sz54 : Sz Try.prog 54 3 := fun _ => by kernel_rfl
theorem sz62 : Sz Try.prog 62 1 := fun _ => by kernel_rfl
theorem sz73 : Sz Try.prog 73 1 := fun _ => by kernel_rfl
theorem sz78 : Sz Try.prog 78 4 := fun _ => by kernel_rfl
theorem sz89 : Sz Try.prog 89 2 := fun _ => by kernel_rfl
theorem sz95 : Sz Try.prog 95 1 := fun _ => by kernel_rfl
theorem sz97 : Sz Try.prog 97 1 := fun _ => by kernel_rfl
theorem sz98 : Sz Try.prog 98 1 := fun _ => by kernel_rfl
theorem sz100 : Sz Try.prog 100 9 := fun _ => by kernel_rfl
theorem sz117 : Sz Try.prog 117 4 := fun _ => by kernel_rfl
theorem sz131 : Sz Try.prog 131 2 := fun _ => by kernel_rfl
theorem sz140 : Sz Try.prog 140 3 := fun _ => by kernel_rfl
theorem sz151 : Sz Try.prog 151 2 := fun _ => by kernel_rfl
theorem sz161 : Sz Try.prog 161 2 := fun _ => by kernel_rfl
theorem sz169 : Sz Try.prog 169 1 := fun _ => by kernel_rfl
theorem sz171 : Sz Try.prog 171 3 := fun _ => by kernel_rfl
theorem sz172 : Sz Try.prog 172 30 := fun _ => by kernel_rfl
theorem sz174 : Sz Try.prog 174 1 := fun _ => by kernel_rfl
theorem sz175 : Sz Try.prog 175 1 := fun _ => by kernel_rfl
theorem sl22 : SlE Try.prog 22 73 1 := ⟨Try.underlying22, sz73⟩
theorem sl23 : SlE Try.prog 23 38 5 := ⟨Try.underlying23, sz38⟩
theorem sl34 : SlE Try.prog 34 3 1 := ⟨Try.underlying34, sz3⟩
theorem sl40 : SlE Try.prog 40 34 1 := ⟨Try.underlying40, sz34⟩
theorem sl50 : SlE Try.prog 50 161 2 := ⟨Try.underlying50, sz161⟩
theorem sl62 : SlE Try.prog 62 78 4 := ⟨Try.underlying62, sz78⟩
theorem sl66 : SlE Try.prog 66 28 1 := ⟨Try.underlying66, sz28⟩
theorem sl73 : SlE Try.prog 73 4 1 := ⟨Try.underlying73, sz4⟩
theorem sl79 : SlE Try.prog 79 62 1 := ⟨Try.underlying79, sz62⟩
theorem sl87 : SlE Try.prog 87 89 2 := ⟨Try.underlying87, sz89⟩
theorem sl98 : SlE Try.prog 98 131 2 := ⟨Try.underlying98, sz131⟩
theorem sl147 : SlE Try.prog 147 151 2 := ⟨Try.underlying147, sz151⟩
theorem sl178 : SlE Try.prog 178 95 1 := ⟨Try.underlying178, sz95⟩
theorem mp97 : MpT Try.prog 97 3 3 := ⟨Try.underlying97, Try.underlying3⟩
theorem mp174 : MpT Try.prog 174 3 4 := ⟨Try.underlying174, Try.underlying3⟩
theorem inf3 : Inf Try.prog 3 (.int .i64 0) 1 8 := by unfold Inf; kernel_rfl
theorem inf4 : Inf Try.prog 4 (.bool false) 1 1 := by unfold Inf; kernel_rfl
theorem inf28 : Inf Try.prog 28 (.int .i64 0) 1 8 := by unfold Inf; kernel_rfl
theorem inf34 : Inf Try.prog 34 (.slice none 0 0) 1 24 := by unfold Inf; kernel_rfl
theorem inf38 : Inf Try.prog 38 (.agg #[.int .i64 0, .int .i64 0, .int .i64 0, .int .i64 0, .slice none 0 0]) 5 56 := by unfold Inf; kernel_rfl
theorem inf62 : Inf Try.prog 62 (.slice none 0 0) 1 24 := by unfold Inf; kernel_rfl
theorem inf73 : Inf Try.prog 73 (.slice none 0 0) 1 24 := by unfold Inf; kernel_rfl
theorem inf78 : Inf Try.prog 78 (.agg #[.int .i64 0, .int .i64 0, .int .i64 0, .int .i64 0]) 4 32 := by unfold Inf; kernel_rfl
theorem inf89 : Inf Try.prog 89 (.agg #[.int .i64 0, .int .i64 0]) 2 16 := by unfold Inf; kernel_rfl
theorem inf95 : Inf Try.prog 95 (.pointer none) 1 8 := by unfold Inf; kernel_rfl
theorem inf131 : Inf Try.prog 131 (.agg #[.int .i64 0, .int .i64 0]) 2 16 := by unfold Inf; kernel_rfl
theorem inf151 : Inf Try.prog 151 (.agg #[.int .i64 0, .slice none 0 0]) 2 32 := by unfold Inf; kernel_rfl
theorem inf161 : Inf Try.prog 161 (.agg #[.int .i64 0, .int .i64 0]) 2 16 := by unfold Inf; kernel_rfl
theorem pt27 : PtT Try.prog 27 100 := Try.underlying27
theorem pt31 : PtT Try.prog 31 52 := Try.underlying31
theorem pt95 : PtT Try.prog 95 117 := Try.underlying95
theorem ld3 : Ld1 Try.prog 3 := Ld1.of Try.underlying3 rfl
theorem ld4 : Ld1 Try.prog 4 := Ld1.of Try.underlying4 rfl
theorem ld22 : Ld1 Try.prog 22 := Ld1.of Try.underlying22 rfl
theorem ld27 : Ld1 Try.prog 27 := Ld1.of Try.underlying27 rfl
theorem ld28 : Ld1 Try.prog 28 := Ld1.of Try.underlying28 rfl
theorem ld34 : Ld1 Try.prog 34 := Ld1.of Try.underlying34 rfl
theorem ld38 : LdN Try.prog 38 5 := LdN.of Try.underlying38 sz38
theorem ld40 : Ld1 Try.prog 40 := Ld1.of Try.underlying40 rfl
theorem ld42 : LdN Try.prog 42 3 := LdN.of Try.underlying42 sz42
theorem ld46 : LdN Try.prog 46 4 := LdN.of Try.underlying46 sz46
theorem ld50 : Ld1 Try.prog 50 := Ld1.of Try.underlying50 rfl
theorem ld54 : LdN Try.prog 54 3 := LdN.of Try.underlying54 sz54
theorem ld62 : Ld1 Try.prog 62 := Ld1.of Try.underlying62 rfl
theorem ld73 : Ld1 Try.prog 73 := Ld1.of Try.underlying73 rfl
theorem ld78 : LdN Try.prog 78 4 := LdN.of Try.underlying78 sz78
theorem ld89 : LdN Try.prog 89 2 := LdN.of Try.underlying89 sz89
theorem ld95 : Ld1 Try.prog 95 := Ld1.of Try.underlying95 rfl
theorem ld97 : Ld1 Try.prog 97 := Ld1.of Try.underlying97 rfl
theorem ld98 : Ld1 Try.prog 98 := Ld1.of Try.underlying98 rfl
theorem ld100 : LdN Try.prog 100 9 := LdN.of Try.underlying100 sz100
theorem ld131 : LdN Try.prog 131 2 := LdN.of Try.underlying131 sz131
theorem ld151 : LdN Try.prog 151 2 := LdN.of Try.underlying151 sz151
theorem ld169 : Ld1 Try.prog 169 := Ld1.of Try.underlying169 rfl
theorem ld171 : LdN Try.prog 171 3 := LdN.of Try.underlying171 sz171
theorem ld174 : Ld1 Try.prog 174 := Ld1.of Try.underlying174 rfl
theorem ld175 : Ld1 Try.prog 175 := Ld1.of Try.underlying175 rfl
theorem fa38_0 : Fa Try.prog 38 0 0 := fun _ _ _ => by kernel_rfl
theorem fa38_1 : Fa Try.prog 38 1 1 := fun _ _ _ => by kernel_rfl
theorem fa38_2 : Fa Try.prog 38 2 2 := fun _ _ _ => by kernel_rfl
theorem fa38_3 : Fa Try.prog 38 3 3 := fun _ _ _ => by kernel_rfl
theorem fa38_4 : Fa Try.prog 38 4 4 := fun _ _ _ => by kernel_rfl
theorem fa42_0 : Fa Try.prog 42 0 0 := fun _ _ _ => by kernel_rfl
theorem fa42_1 : Fa Try.prog 42 1 1 := fun _ _ _ => by kernel_rfl
theorem fa42_2 : Fa Try.prog 42 2 2 := fun _ _ _ => by kernel_rfl
theorem fa46_0 : Fa Try.prog 46 0 0 := fun _ _ _ => by kernel_rfl
theorem fa46_1 : Fa Try.prog 46 1 3 := fun _ _ _ => by kernel_rfl
theorem fa52_0 : Fa Try.prog 52 0 0 := fun _ _ _ => by kernel_rfl
theorem fa52_1 : Fa Try.prog 52 1 1 := fun _ _ _ => by kernel_rfl
theorem fa52_2 : Fa Try.prog 52 2 2 := fun _ _ _ => by kernel_rfl
theorem fa52_3 : Fa Try.prog 52 3 3 := fun _ _ _ => by kernel_rfl
theorem fa52_4 : Fa Try.prog 52 4 4 := fun _ _ _ => by kernel_rfl
theorem fa52_5 : Fa Try.prog 52 5 5 := fun _ _ _ => by kernel_rfl
theorem fa52_6 : Fa Try.prog 52 6 6 := fun _ _ _ => by kernel_rfl
theorem fa52_7 : Fa Try.prog 52 7 7 := fun _ _ _ => by kernel_rfl
theorem fa52_8 : Fa Try.prog 52 8 8 := fun _ _ _ => by kernel_rfl
theorem fa52_9 : Fa Try.prog 52 9 9 := fun _ _ _ => by kernel_rfl
theorem fa52_10 : Fa Try.prog 52 10 10 := fun _ _ _ => by kernel_rfl
theorem fa52_11 : Fa Try.prog 52 11 11 := fun _ _ _ => by kernel_rfl
theorem fa52_12 : Fa Try.prog 52 12 12 := fun _ _ _ => by kernel_rfl
theorem fa54_0 : Fa Try.prog 54 0 0 := fun _ _ _ => by kernel_rfl
theorem fa54_1 : Fa Try.prog 54 1 1 := fun _ _ _ => by kernel_rfl
theorem fa54_2 : Fa Try.prog 54 2 2 := fun _ _ _ => by kernel_rfl
theorem fa78_0 : Fa Try.prog 78 0 0 := fun _ _ _ => by kernel_rfl
theorem fa78_1 : Fa Try.prog 78 1 1 := fun _ _ _ => by kernel_rfl
theorem fa78_2 : Fa Try.prog 78 2 2 := fun _ _ _ => by kernel_rfl
theorem fa78_3 : Fa Try.prog 78 3 3 := fun _ _ _ => by kernel_rfl
theorem fa100_0 : Fa Try.prog 100 0 0 := fun _ _ _ => by kernel_rfl
theorem fa100_1 : Fa Try.prog 100 1 1 := fun _ _ _ => by kernel_rfl
theorem fa100_2 : Fa Try.prog 100 2 2 := fun _ _ _ => by kernel_rfl
theorem fa100_3 : Fa Try.prog 100 3 3 := fun _ _ _ => by kernel_rfl
theorem fa100_4 : Fa Try.prog 100 4 4 := fun _ _ _ => by kernel_rfl
theorem fa100_5 : Fa Try.prog 100 5 5 := fun _ _ _ => by kernel_rfl
theorem fa100_6 : Fa Try.prog 100 6 6 := fun _ _ _ => by kernel_rfl
theorem fa100_7 : Fa Try.prog 100 7 7 := fun _ _ _ => by kernel_rfl
theorem fa100_8 : Fa Try.prog 100 8 8 := fun _ _ _ => by kernel_rfl
theorem fa115_0 : Fa Try.prog 115 0 0 := fun _ _ _ => by kernel_rfl
theorem fa115_1 : Fa Try.prog 115 1 1 := fun _ _ _ => by kernel_rfl
theorem fa115_2 : Fa Try.prog 115 2 2 := fun _ _ _ => by kernel_rfl
theorem fa117_0 : Fa Try.prog 117 0 0 := fun _ _ _ => by kernel_rfl
theorem fa117_1 : Fa Try.prog 117 1 3 := fun _ _ _ => by kernel_rfl
theorem fa131_0 : Fa Try.prog 131 0 0 := fun _ _ _ => by kernel_rfl
theorem fa131_1 : Fa Try.prog 131 1 1 := fun _ _ _ => by kernel_rfl
theorem fa140_0 : Fa Try.prog 140 0 0 := fun _ _ _ => by kernel_rfl
theorem fa140_1 : Fa Try.prog 140 1 1 := fun _ _ _ => by kernel_rfl
theorem fa140_2 : Fa Try.prog 140 2 2 := fun _ _ _ => by kernel_rfl
theorem fa151_0 : Fa Try.prog 151 0 0 := fun _ _ _ => by kernel_rfl
theorem fa151_1 : Fa Try.prog 151 1 1 := fun _ _ _ => by kernel_rfl
theorem fa171_0 : Fa Try.prog 171 0 0 := fun _ _ _ => by kernel_rfl
theorem fa171_1 : Fa Try.prog 171 1 1 := fun _ _ _ => by kernel_rfl
theorem fa171_2 : Fa Try.prog 171 2 2 := fun _ _ _ => by kernel_rfl
theorem al3 : Al Try.prog 3 [.int .i64 0] := fun _ => by kernel_rfl
theorem al4 : Al Try.prog 4 [.bool false] := fun _ => by kernel_rfl
theorem al27 : Al Try.prog 27 [.pointer none] := fun _ => by kernel_rfl
theorem al34 : Al Try.prog 34 [.slice none 0 0] := fun _ => by kernel_rfl
theorem al38 : Al Try.prog 38 [.int .i64 0, .int .i64 0, .int .i64 0, .int .i64 0, .slice none 0 0] := fun _ => by kernel_rfl
theorem al42 : Al Try.prog 42 [.slice none 0 0, .slice none 0 0, .slice none 0 0] := fun _ => by kernel_rfl
theorem al46 : Al Try.prog 46 [.slice none 0 0, .slice none 0 0, .slice none 0 0, .int .i64 0] := fun _ => by kernel_rfl
theorem al52 : Al Try.prog 52 [.slice none 0 0, .int .i64 0, .int .i64 0, .slice none 0 0, .slice none 0 0, .slice none 0 0, .int .i64 0, .int .i64 0, .bool false, .bool false, .int .i64 0, .int .i64 0, .slice none 0 0] := fun _ => by kernel_rfl
theorem al54 : Al Try.prog 54 [.int .i64 0, .int .i64 0, .int .i64 0] := fun _ => by kernel_rfl
theorem al78 : Al Try.prog 78 [.int .i64 0, .int .i64 0, .int .i64 0, .int .i64 0] := fun _ => by kernel_rfl
theorem al95 : Al Try.prog 95 [.pointer none] := fun _ => by kernel_rfl
theorem al97 : Al Try.prog 97 [.map none] := fun _ => by kernel_rfl
theorem al100 : Al Try.prog 100 [.slice none 0 0, .pointer none, .pointer none, .pointer none, .slice none 0 0, .bool false, .int .i64 0, .map none, .int .i64 0] := fun _ => by kernel_rfl
theorem al117 : Al Try.prog 117 [.slice none 0 0, .int .i64 0, .int .i64 0, .slice none 0 0] := fun _ => by kernel_rfl
theorem al131 : Al Try.prog 131 [.int .i64 0, .int .i64 0] := fun _ => by kernel_rfl
theorem al140 : Al Try.prog 140 [.pointer none, .slice none 0 0, .bool false] := fun _ => by kernel_rfl
theorem al151 : Al Try.prog 151 [.int .i64 0, .slice none 0 0] := fun _ => by kernel_rfl
theorem al171 : Al Try.prog 171 [.nilFunc, .bool false, .bool false] := fun _ => by kernel_rfl
theorem al172 : Al Try.prog 172 [.nilFunc, .bool false, .bool false, .nilFunc, .bool false, .bool false, .nilFunc, .bool false, .bool false, .nilFunc, .bool false, .bool false, .nilFunc, .bool false, .bool false, .nilFunc, .bool false, .bool false, .nilFunc, .bool false, .bool false, .nilFunc, .bool false, .bool false, .nilFunc, .bool false, .bool false, .nilFunc, .bool false, .bool false] := fun _ => by kernel_rfl
theorem al174 : Al Try.prog 174 [.map none] := fun _ => by kernel_rfl
theorem al175 : Al Try.prog 175 [.nilFunc] := fun _ => by kernel_rfl
theorem en12 : Enters Try.prog 12 := fun _ _ => by kernel_rfl
theorem en13 : Enters Try.prog 13 := fun _ _ => by kernel_rfl
theorem en14 : Enters Try.prog 14 := fun _ _ => by kernel_rfl
theorem en15 : Enters Try.prog 15 := fun _ _ => by kernel_rfl
theorem en16 : Enters Try.prog 16 := fun _ _ => by kernel_rfl
theorem en17 : Enters Try.prog 17 := fun _ _ => by kernel_rfl
theorem en18 : Enters Try.prog 18 := fun _ _ => by kernel_rfl
theorem en19 : Enters Try.prog 19 := fun _ _ => by kernel_rfl
theorem en20 : Enters Try.prog 20 := fun _ _ => by kernel_rfl
theorem en21 : Enters Try.prog 21 := fun _ _ => by kernel_rfl
theorem en22 : Enters Try.prog 22 := fun _ _ => by kernel_rfl
theorem en23 : Enters Try.prog 23 := fun _ _ => by kernel_rfl
theorem en24 : Enters Try.prog 24 := fun _ _ => by kernel_rfl
theorem en25 : Enters Try.prog 25 := fun _ _ => by kernel_rfl
theorem en26 : Enters Try.prog 26 := fun _ _ => by kernel_rfl
theorem en27 : Enters Try.prog 27 := fun _ _ => by kernel_rfl
theorem en28 : Enters Try.prog 28 := fun _ _ => by kernel_rfl
theorem en29 : Enters Try.prog 29 := fun _ _ => by kernel_rfl
theorem en30 : Enters Try.prog 30 := fun _ _ => by kernel_rfl
theorem en31 : Enters Try.prog 31 := fun _ _ => by kernel_rfl
theorem en32 : Enters Try.prog 32 := fun _ _ => by kernel_rfl
theorem en33 : Enters Try.prog 33 := fun _ _ => by kernel_rfl
theorem en34 : Enters Try.prog 34 := fun _ _ => by kernel_rfl
theorem en35 : Enters Try.prog 35 := fun _ _ => by kernel_rfl
theorem en36 : Enters Try.prog 36 := fun _ _ => by kernel_rfl
theorem en37 : Enters Try.prog 37 := fun _ _ => by kernel_rfl
theorem en38 : Enters Try.prog 38 := fun _ _ => by kernel_rfl
theorem en39 : Enters Try.prog 39 := fun _ _ => by kernel_rfl
theorem en40 : Enters Try.prog 40 := fun _ _ => by kernel_rfl
theorem en41 : Enters Try.prog 41 := fun _ _ => by kernel_rfl
theorem en42 : Enters Try.prog 42 := fun _ _ => by kernel_rfl
theorem en43 : Enters Try.prog 43 := fun _ _ => by kernel_rfl
theorem en44 : Enters Try.prog 44 := fun _ _ => by kernel_rfl
theorem en45 : Enters Try.prog 45 := fun _ _ => by kernel_rfl
theorem en46 : Enters Try.prog 46 := fun _ _ => by kernel_rfl
theorem en47 : Enters Try.prog 47 := fun _ _ => by kernel_rfl
theorem en48 : Enters Try.prog 48 := fun _ _ => by kernel_rfl
theorem en49 : Enters Try.prog 49 := fun _ _ => by kernel_rfl
theorem en50 : Enters Try.prog 50 := fun _ _ => by kernel_rfl
theorem en51 : Enters Try.prog 51 := fun _ _ => by kernel_rfl
theorem en52 : Enters Try.prog 52 := fun _ _ => by kernel_rfl
theorem en53 : Enters Try.prog 53 := fun _ _ => by kernel_rfl
theorem en54 : Enters Try.prog 54 := fun _ _ => by kernel_rfl
theorem en55 : Enters Try.prog 55 := fun _ _ => by kernel_rfl
theorem en56 : Enters Try.prog 56 := fun _ _ => by kernel_rfl
theorem en57 : Enters Try.prog 57 := fun _ _ => by kernel_rfl
theorem en58 : Enters Try.prog 58 := fun _ _ => by kernel_rfl
theorem en59 : Enters Try.prog 59 := fun _ _ => by kernel_rfl
theorem en60 : Enters Try.prog 60 := fun _ _ => by kernel_rfl
theorem en61 : Enters Try.prog 61 := fun _ _ => by kernel_rfl
theorem en62 : Enters Try.prog 62 := fun _ _ => by kernel_rfl
theorem en63 : Enters Try.prog 63 := fun _ _ => by kernel_rfl
theorem en64 : Enters Try.prog 64 := fun _ _ => by kernel_rfl
theorem en65 : Enters Try.prog 65 := fun _ _ => by kernel_rfl
theorem en66 : Enters Try.prog 66 := fun _ _ => by kernel_rfl
theorem en67 : Enters Try.prog 67 := fun _ _ => by kernel_rfl
theorem en68 : Enters Try.prog 68 := fun _ _ => by kernel_rfl
theorem en69 : Enters Try.prog 69 := fun _ _ => by kernel_rfl
theorem en70 : Enters Try.prog 70 := fun _ _ => by kernel_rfl
theorem en71 : Enters Try.prog 71 := fun _ _ => by kernel_rfl
theorem en72 : Enters Try.prog 72 := fun _ _ => by kernel_rfl
theorem en73 : Enters Try.prog 73 := fun _ _ => by kernel_rfl
theorem en74 : Enters Try.prog 74 := fun _ _ => by kernel_rfl
theorem en75 : Enters Try.prog 75 := fun _ _ => by kernel_rfl
theorem en76 : Enters Try.prog 76 := fun _ _ => by kernel_rfl
theorem en77 : Enters Try.prog 77 := fun _ _ => by kernel_rfl
theorem en78 : Enters Try.prog 78 := fun _ _ => by kernel_rfl
theorem en79 : Enters Try.prog 79 := fun _ _ => by kernel_rfl
theorem en80 : Enters Try.prog 80 := fun _ _ => by kernel_rfl
theorem en81 : Enters Try.prog 81 := fun _ _ => by kernel_rfl
theorem en82 : Enters Try.prog 82 := fun _ _ => by kernel_rfl
theorem en83 : Enters Try.prog 83 := fun _ _ => by kernel_rfl
theorem en84 : Enters Try.prog 84 := fun _ _ => by kernel_rfl
theorem en85 : Enters Try.prog 85 := fun _ _ => by kernel_rfl
theorem en86 : Enters Try.prog 86 := fun _ _ => by kernel_rfl
theorem en87 : Enters Try.prog 87 := fun _ _ => by kernel_rfl
theorem en88 : Enters Try.prog 88 := fun _ _ => by kernel_rfl
theorem en89 : Enters Try.prog 89 := fun _ _ => by kernel_rfl
theorem en90 : Enters Try.prog 90 := fun _ _ => by kernel_rfl
theorem en91 : Enters Try.prog 91 := fun _ _ => by kernel_rfl
theorem en92 : Enters Try.prog 92 := fun _ _ => by kernel_rfl
theorem en93 : Enters Try.prog 93 := fun _ _ => by kernel_rfl
theorem en94 : Enters Try.prog 94 := fun _ _ => by kernel_rfl
theorem en95 : Enters Try.prog 95 := fun _ _ => by kernel_rfl
theorem en96 : Enters Try.prog 96 := fun _ _ => by kernel_rfl
theorem en97 : Enters Try.prog 97 := fun _ _ => by kernel_rfl
theorem en98 : Enters Try.prog 98 := fun _ _ => by kernel_rfl
theorem en99 : Enters Try.prog 99 := fun _ _ => by kernel_rfl
theorem en100 : Enters Try.prog 100 := fun _ _ => by kernel_rfl
theorem en101 : Enters Try.prog 101 := fun _ _ => by kernel_rfl
theorem en102 : Enters Try.prog 102 := fun _ _ => by kernel_rfl
theorem en103 : Enters Try.prog 103 := fun _ _ => by kernel_rfl
theorem en104 : Enters Try.prog 104 := fun _ _ => by kernel_rfl
theorem en105 : Enters Try.prog 105 := fun _ _ => by kernel_rfl
theorem en106 : Enters Try.prog 106 := fun _ _ => by kernel_rfl
theorem en107 : Enters Try.prog 107 := fun _ _ => by kernel_rfl
theorem en108 : Enters Try.prog 108 := fun _ _ => by kernel_rfl
theorem en109 : Enters Try.prog 109 := fun _ _ => by kernel_rfl
theorem en110 : Enters Try.prog 110 := fun _ _ => by kernel_rfl
theorem en111 : Enters Try.prog 111 := fun _ _ => by kernel_rfl
theorem en112 : Enters Try.prog 112 := fun _ _ => by kernel_rfl
theorem en113 : Enters Try.prog 113 := fun _ _ => by kernel_rfl
theorem en114 : Enters Try.prog 114 := fun _ _ => by kernel_rfl
theorem en115 : Enters Try.prog 115 := fun _ _ => by kernel_rfl
theorem en116 : Enters Try.prog 116 := fun _ _ => by kernel_rfl
theorem en117 : Enters Try.prog 117 := fun _ _ => by kernel_rfl
theorem en118 : Enters Try.prog 118 := fun _ _ => by kernel_rfl
theorem en119 : Enters Try.prog 119 := fun _ _ => by kernel_rfl
theorem en120 : Enters Try.prog 120 := fun _ _ => by kernel_rfl
theorem en121 : Enters Try.prog 121 := fun _ _ => by kernel_rfl
theorem en122 : Enters Try.prog 122 := fun _ _ => by kernel_rfl
theorem en123 : Enters Try.prog 123 := fun _ _ => by kernel_rfl
theorem en124 : Enters Try.prog 124 := fun _ _ => by kernel_rfl
theorem en125 : Enters Try.prog 125 := fun _ _ => by kernel_rfl
theorem en126 : Enters Try.prog 126 := fun _ _ => by kernel_rfl
theorem en127 : Enters Try.prog 127 := fun _ _ => by kernel_rfl
theorem en128 : Enters Try.prog 128 := fun _ _ => by kernel_rfl
theorem en129 : Enters Try.prog 129 := fun _ _ => by kernel_rfl
theorem en130 : Enters Try.prog 130 := fun _ _ => by kernel_rfl
theorem en131 : Enters Try.prog 131 := fun _ _ => by kernel_rfl
theorem en132 : Enters Try.prog 132 := fun _ _ => by kernel_rfl
theorem en133 : Enters Try.prog 133 := fun _ _ => by kernel_rfl
end Fx
end Go.Proofs.Ytmhmpjgkkpbnnaa
namespace Go.Hm

/-- A space: its words, the number of the first one, how many are taken, which ones begin an object. -/
structure Sp where
  ws : List Int
  fr : Nat
  us : Nat
  st : List Bool
structure Sp.Ok (s : Sp) : Prop where
  st : s.st.length = s.ws.length
  us : s.us ≤ s.ws.length
  fr : s.fr ≤ 1000000
  ws : s.ws.length ≤ 1000000
def Sp.has (s : Sp) (t : Int) : Bool := decide ((s.fr : Int) ≤ t) && decide (t < (s.fr : Int) + (s.us : Int))
def Sp.begins (s : Sp) (t : Int) : Bool := s.has t && s.st.getD (t - s.fr).toNat false
def Sp.wd (s : Sp) (t : Int) : Int := s.ws.getD (t - s.fr).toNat 0
def Sp.setw (s : Sp) (i : Nat) (v : Int) : Sp := { s with ws := s.ws.set i v }
def spl {α : Type} (l : List α) (o : Nat) (vs : List α) : List α := l.take o ++ vs ++ l.drop (o + vs.length)
def Sp.take (s : Sp) (n : Nat) : Sp := { s with ws := spl s.ws s.us (List.replicate n 0), us := s.us + n }
def Sp.next (s : Sp) : Int := (s.fr : Int) + (s.us : Int)
/-- An object of n words, its first one its shape. -/
def Sp.lay (s : Sp) (n : Nat) (sh : Int) : Sp := { s with ws := (spl s.ws s.us (List.replicate n 0)).set s.us sh, us := s.us + n, st := s.st.set s.us true }
def Sp.empty (s : Sp) : Sp := { s with us := 0, st := List.replicate s.st.length false }
def Sp.new (fr n : Nat) : Sp := ⟨List.replicate n 0, fr, 0, List.replicate n false⟩
/-- Words are laid as an object. -/
def Sp.move (s : Sp) (src : List Int) : Sp := { s with ws := spl s.ws s.us src, us := s.us + src.length, st := s.st.set s.us true }
def Sp.obj (s : Sp) (t : Int) (n : Nat) : List Int := (s.ws.drop (t - s.fr).toNat).take n

theorem spl_length {α : Type} (l : List α) (o : Nat) (vs : List α) (h : o + vs.length ≤ l.length) : (spl l o vs).length = l.length := by
  simp [spl]; omega
theorem Sp.has_iff {s : Sp} {t : Int} : s.has t = true ↔ (s.fr : Int) ≤ t ∧ t < (s.fr : Int) + (s.us : Int) := by simp [Sp.has]
theorem spl_get {α : Type} (l : List α) (o : Nat) (vs : List α) (k : Nat) (h : o + vs.length ≤ l.length) : (spl l o vs)[k]? = if k < o then l[k]? else if k < o + vs.length then vs[k - o]? else l[k]? := by
  unfold spl
  by_cases h1 : k < o
  · rw [List.append_assoc, List.getElem?_append_left (by simp; omega), List.getElem?_take, if_pos h1, if_pos h1]
  · rw [if_neg h1]
    by_cases h2 : k < o + vs.length
    · rw [if_pos h2, List.append_assoc, List.getElem?_append_right (by simp; omega), List.getElem?_append_left (by simp; omega)]
      simp [Nat.min_eq_left (show o ≤ l.length by omega)]
    · rw [if_neg h2, List.getElem?_append_right (by simp; omega), List.getElem?_drop]
      congr 1
      simp; omega
theorem spl_lay (l : List Int) (o k : Nat) (x : Int) (vs : List Int) (hk : vs.length = k) (h : o + k ≤ l.length) (h0 : 0 < k) : spl ((spl l o (List.replicate k 0)).set o x) o vs = spl l o vs := by
  subst hk
  have hl : (spl l o (List.replicate vs.length 0)).length = l.length := spl_length _ _ _ (by simpa using h)
  apply List.ext_getElem?
  intro i
  rw [spl_get _ _ _ _ (by rw [List.length_set, hl]; exact h), spl_get _ _ _ _ h]
  by_cases h1 : i < o
  · rw [if_pos h1, if_pos h1, List.getElem?_set_ne (by omega), spl_get _ _ _ _ (by simpa using h), if_pos h1]
  · rw [if_neg h1, if_neg h1]
    by_cases h2 : i < o + vs.length
    · rw [if_pos h2, if_pos h2]
    · rw [if_neg h2, if_neg h2, List.getElem?_set_ne (by omega), spl_get _ _ _ _ (by simpa using h), if_neg h1, if_neg (by simpa using h2)]
theorem obj_length {s : Sp} {t : Int} {n : Nat} (h : (t - s.fr).toNat + n ≤ s.ws.length) : (s.obj t n).length = n := by
  unfold Sp.obj; simp; omega
end Go.Hm
namespace Go.Hm

def fup (f : Int → Int) (t v : Int) : Int → Int := fun x => if x = t then v else f x
theorem fup_same (f : Int → Int) (t v : Int) : fup f t v t = v := by simp [fup]
theorem fup_other {f : Int → Int} {t v x : Int} (h : x ≠ t) : fup f t v x = f x := by simp [fup, h]

/-- The plain machine. -/
structure AM where
  sh : List (List Bool)
  Y : Int
  H : Int
  word : Int → Int
  head : Int → Int
  moved : Int → Int
  new : Int
  old : Int
  up : Bool
  busy : Bool
  scan : Int
  left : Int
  rem : List (Int × Int)

namespace AM
def base (m : AM) : Int := if m.up then m.Y + m.H + 1 else m.Y + 1
def former (m : AM) : Int := if m.up then m.Y + 1 else m.Y + m.H + 1
def isY (m : AM) (t : Int) : Bool := decide (1 ≤ t) && decide (t ≤ m.Y)
def isO (m : AM) (t : Int) : Bool := decide (m.base ≤ t) && decide (t ≤ m.base + m.H - 1)
def isF (m : AM) (t : Int) : Bool := decide (m.former ≤ t) && decide (t ≤ m.former + m.H - 1)
def cur (m : AM) (t : Int) : Bool := (m.isY t || m.isO t) && decide (0 < m.head t)
/-- The shape of the object at an address. -/
def row (m : AM) (t : Int) : List Bool := m.sh.getD (m.head t - 1).toNat []
def size (m : AM) (t : Int) : Int := 1 + (m.row t).length
/-- The fields of a row that refer, from the j-th one on. -/
def refsFrom : Nat → List Bool → List Int
  | _, [] => []
  | j, b :: t => if b then (j : Int) :: refsFrom (j + 1) t else refsFrom (j + 1) t
/-- The places of the fields of an object that refer. -/
def pl (m : AM) (t : Int) : List Int := (refsFrom 0 (m.row t)).map (t + 1 + ·)

def new' (sh : List (List Bool)) (half young : Int) : AM :=
  { sh := sh, Y := young, H := half, word := fun _ => 0, head := fun _ => 0, moved := fun _ => 0, new := 1, old := young + 1, up := false, busy := false, scan := 0, left := 0, rem := [] }

def alloc (m : AM) (s : Int) : Int × Int × AM :=
  if decide (s < 0) || decide ((m.sh.length : Int) ≤ s) then (0, 1, m) else
  let n : Int := 1 + (m.sh.getD s.toNat []).length
  if decide (m.Y < m.new + n - 1) then (0, 14, m) else
  (m.new, 0, { m with head := fup m.head m.new (s + 1), new := m.new + n })
def shapeOf (m : AM) (t : Int) : Int × Int := if m.cur t then (m.head t - 1, 0) else (0, 5)

def move (m : AM) (a : Int) : Int × AM :=
  (m.old, { m with
    word := fun x => if decide (m.old ≤ x) && decide (x < m.old + m.size a) then m.word (a + (x - m.old)) else m.word x
    head := fup m.head m.old (m.head a)
    moved := fup m.moved a m.old
    old := m.old + m.size a
    left := if m.isF a then m.left - m.size a else m.left })
def ours (m : AM) (y : Bool) (v : Int) : Bool := if y then m.isY v else m.isF v
def fwd (m : AM) (y : Bool) (v : Int) : Int × AM :=
  if m.ours y v then (if 0 < m.moved v then (m.moved v, m) else m.move v) else (v, m)
def put (m : AM) (p v : Int) : AM := { m with word := fup m.word p v }
/-- A word is forwarded in its place. -/
def fwdAt (m : AM) (y : Bool) (p : Int) : AM := (m.fwd y (m.word p)).2.put p (m.fwd y (m.word p)).1
def fwdL (y : Bool) : List Int → AM → List Int × AM
  | [], m => ([], m)
  | v :: t, m => ((m.fwd y v).1 :: (fwdL y t (m.fwd y v).2).1, (fwdL y t (m.fwd y v).2).2)
def fwdP (y : Bool) : List Int → AM → AM
  | [], m => m
  | p :: t, m => fwdP y t (m.fwdAt y p)

/-- The error of an object and a field. -/
def fe (m : AM) (t k : Int) : Int := if !m.cur t then 5 else if decide (k < 0) || decide (((m.row t).length : Int) ≤ k) then 1 else 0
def ref (m : AM) (t k : Int) : Bool := (m.row t).getD k.toNat false
def get (m : AM) (t k : Int) : Int × Int × AM :=
  if m.fe t k ≠ 0 then (0, m.fe t k, m) else
  let m' := if m.ref t k && m.busy then m.fwdAt false (t + 1 + k) else m
  (m'.word (t + 1 + k), 0, m')
def set (m : AM) (t k v : Int) : Int × AM :=
  if m.fe t k ≠ 0 then (m.fe t k, m) else
  if (m.ref t k && v != 0) && !m.cur v then (5, m) else
  let m' := m.put (t + 1 + k) v
  (0, if (((m.ref t k && m.isO t) && m.isY v)) && !m.rem.contains (t, k) then { m' with rem := m.rem ++ [(t, k)] } else m')

def bad (m : AM) (r : Int) : Bool := r != 0 && !m.cur r
def rooted (m : AM) (l : List Int) : Int := if decide (200 < (l.length : Int)) then 3 else if l.any m.bad then 5 else 0
def meet (m : AM) (l : List Int) (t : Int) : List Int := if m.isY t && !l.contains t then l ++ [t] else l
def remP (m : AM) : List Int := m.rem.map fun k => k.1 + 1 + k.2
/-- The young objects that are reached: a list that grows while it is looked through. -/
def close (m : AM) : Nat → Nat → List Int → List Int
  | 0, _, l => l
  | f + 1, i, l => if h : i < l.length then close m f (i + 1) (((m.pl l[i]).map m.word).foldl m.meet l) else l
def reach (m : AM) (roots : List Int) : List Int := m.close (m.Y.toNat + 1) 0 ((m.remP.map m.word).foldl m.meet (roots.foldl m.meet []))
def sum (f : Int → Int) (l : List Int) : Int := (l.map f).sum
def needed (m : AM) (roots : List Int) : Int := sum m.size (m.reach roots)
/-- New objects are looked through. -/
def look (y : Bool) : Nat → Int → AM → AM
  | 0, _, m => m
  | f + 1, a, m => if a < m.old then look y f (a + m.size a) (fwdP y (m.pl a) m) else m
def clear (m : AM) (lo n : Int) : AM :=
  let z := fun (f : Int → Int) x => if decide (lo ≤ x) && decide (x < lo + n) then 0 else f x
  { m with word := z m.word, head := z m.head, moved := z m.moved }
def minorErr (m : AM) (roots : List Int) : Int :=
  if m.rooted roots ≠ 0 then m.rooted roots else if m.base + m.H - m.old - m.left < m.needed roots then 14 else 0
def minorRun (m : AM) (roots : List Int) : List Int × AM :=
  let r := fwdL true roots m
  let m3 := look true m.H.toNat m.old (fwdP true m.remP r.2)
  (r.1, { m3.clear 1 m3.Y with new := 1, rem := [] })
def minor (m : AM) (roots : List Int) : List Int × Int × AM :=
  if m.minorErr roots ≠ 0 then ([], m.minorErr roots, m) else ((m.minorRun roots).1, 0, (m.minorRun roots).2)
def turn (m : AM) : AM :=
  let m1 := { m with left := m.old - m.base, up := !m.up }
  { m1 with old := m1.base, scan := m1.base, busy := true }
def flip (m : AM) (roots : List Int) : List Int × Int × AM :=
  if m.busy then ([], 12, m) else
  let r := m.minor roots
  if r.2.1 ≠ 0 then ([], r.2.1, r.2.2) else
  let q := fwdL false r.1 r.2.2.turn
  (q.1, 0, q.2)

/-- The object in which a place lies: k places ahead at most. -/
def obj (m : AM) : Nat → Int → Int
  | 0, t => t
  | k + 1, t => if m.head t = 0 then obj m k (t - 1) else t
def isRef (m : AM) (t : Int) : Bool :=
  let o := m.obj m.H.toNat t
  decide (o < t) && m.ref o (t - o - 1)
def step1 (m : AM) : AM := let m' := if m.isRef m.scan then m.fwdAt false m.scan else m; { m' with scan := m'.scan + 1 }
def steps : Nat → AM → AM
  | 0, m => m
  | k + 1, m => if m.scan < m.old then steps k m.step1 else m
def fin (m : AM) : AM := { m.clear m.former m.H with busy := false, left := 0 }
def step (m : AM) (w : Int) : Int × Int × AM :=
  if decide (w < 0) then (0, 1, m) else if !m.busy then (0, 0, m) else
  let m' := steps w.toNat m
  if m'.scan < m'.old then (m'.old - m'.scan, 0, m') else (0, 0, m'.fin)
def room (m : AM) : Int × Int × Int := (m.new - 1, m.old - m.base, m.left)
def seen (m : AM) (t : Int) : Int := if m.isF t && decide (0 < m.moved t) then m.moved t else t

/-! ### Objects one behind the other -/
/-- The objects from lo to hi, by their sizes. -/
def Tl (sz : Int → Int) : Int → Int → List Int → Prop
  | lo, hi, [] => lo = hi
  | lo, hi, a :: l => a = lo ∧ 1 ≤ sz a ∧ Tl sz (lo + sz a) hi l
theorem Tl.le {sz : Int → Int} {hi : Int} : ∀ {l : List Int} {lo : Int}, Tl sz lo hi l → lo ≤ hi
  | [], _, h => by simp only [Tl] at h; omega
  | a :: l, lo, h => by obtain ⟨_, h2, h3⟩ := h; have := Tl.le h3; omega
theorem Tl.mem {sz : Int → Int} {hi : Int} : ∀ {l : List Int} {lo : Int}, Tl sz lo hi l → ∀ a ∈ l, lo ≤ a ∧ 1 ≤ sz a ∧ a + sz a ≤ hi
  | [], _, _, a, ha => by simp at ha
  | b :: l, lo, h, a, ha => by
    obtain ⟨h1, h2, h3⟩ := h
    rcases List.mem_cons.1 ha with h4 | h4
    · have := Tl.le h3; subst h4; omega
    · have := Tl.mem h3 a h4; omega
theorem Tl.apart {sz : Int → Int} {hi : Int} : ∀ {l : List Int} {lo : Int}, Tl sz lo hi l → ∀ a ∈ l, ∀ b ∈ l, a ≠ b → a + sz a ≤ b ∨ b + sz b ≤ a
  | [], _, _, a, ha => by simp at ha
  | c :: l, lo, h, a, ha => by
    obtain ⟨h1, h2, h3⟩ := h
    intro b hb hne
    rcases List.mem_cons.1 ha with h4 | h4
    · rcases List.mem_cons.1 hb with h5 | h5
      · exact absurd (h4.trans h5.symm) hne
      · have := Tl.mem h3 b h5; subst h4; omega
    · rcases List.mem_cons.1 hb with h5 | h5
      · have := Tl.mem h3 a h4; subst h5; omega
      · exact Tl.apart h3 a h4 b h5 hne
theorem Tl.cover {sz : Int → Int} {hi : Int} : ∀ {l : List Int} {lo : Int}, Tl sz lo hi l → ∀ t, lo ≤ t → t < hi → ∃ a ∈ l, a ≤ t ∧ t < a + sz a
  | [], _, h, t, h1, h2 => by simp only [Tl] at h; omega
  | b :: l, lo, h, t, h1, h2 => by
    obtain ⟨e, g2, g3⟩ := h
    by_cases ht : t < lo + sz b
    · exact ⟨b, List.mem_cons_self .., by omega, by omega⟩
    · obtain ⟨a, ha, g⟩ := Tl.cover g3 t (by omega) h2
      exact ⟨a, List.mem_cons_of_mem _ ha, g⟩
theorem Tl.congr {sz sz' : Int → Int} {hi : Int} : ∀ {l : List Int} {lo : Int}, (∀ a ∈ l, sz' a = sz a) → Tl sz lo hi l → Tl sz' lo hi l
  | [], _, _, h => h
  | a :: l, lo, he, h => by
    obtain ⟨h1, h2, h3⟩ := h
    have ha := he a (List.mem_cons_self ..)
    exact ⟨h1, by omega, by rw [ha]; exact Tl.congr (fun b hb => he b (List.mem_cons_of_mem _ hb)) h3⟩
theorem Tl.snoc {sz : Int → Int} {hi : Int} (h1 : 1 ≤ sz hi) : ∀ {l : List Int} {lo : Int}, Tl sz lo hi l → Tl sz lo (hi + sz hi) (l ++ [hi])
  | [], lo, h => by simp only [Tl] at h; subst h; exact ⟨rfl, h1, rfl⟩
  | a :: l, lo, h => ⟨h.1, h.2.1, Tl.snoc h1 h.2.2⟩
theorem Tl.sum {sz : Int → Int} {hi : Int} : ∀ {l : List Int} {lo : Int}, Tl sz lo hi l → AM.sum sz l = hi - lo
  | [], _, h => by simp only [Tl] at h; simp [AM.sum]; omega
  | a :: l, lo, h => by
    have := Tl.sum h.2.2
    simp only [AM.sum, List.map_cons, List.sum_cons] at this ⊢
    omega
theorem Tl.nodup {sz : Int → Int} {hi : Int} : ∀ {l : List Int} {lo : Int}, Tl sz lo hi l → l.Nodup
  | [], _, _ => List.nodup_nil
  | a :: l, lo, h => List.nodup_cons.2 ⟨fun ha => by have := Tl.mem h.2.2 a ha; have := h.1; have := h.2.1; omega, Tl.nodup h.2.2⟩
/-- Objects among objects. -/
theorem Tl.inside {sz : Int → Int} {lo hi : Int} {l : List Int} (h : Tl sz lo hi l) {a b : Int} (ha : a ∈ l) (hb : b ∈ l) (h1 : a ≤ b) (h2 : b < a + sz a) : a = b := by
  by_cases hne : a = b
  · exact hne
  · have h3 := h.mem b hb
    rcases h.apart a ha b hb hne with h | h <;> omega
end AM
end Go.Hm
namespace Go.Hm
namespace AM

theorem mem_refsFrom {i : Int} : ∀ {r : List Bool} {j : Nat}, i ∈ refsFrom j r ↔ ∃ k : Nat, r[k]? = some true ∧ i = ((j + k : Nat) : Int)
  | [], j => by simp [refsFrom]
  | b :: r, j => by
    unfold refsFrom
    have ih := mem_refsFrom (i := i) (r := r) (j := j + 1)
    constructor
    · intro h
      split at h
      · rename_i hb
        rcases List.mem_cons.1 h with h | h
        · exact ⟨0, by simp [hb], by simp [h]⟩
        · obtain ⟨k, h1, h2⟩ := ih.1 h; exact ⟨k + 1, by simpa using h1, by rw [h2]; congr 1; omega⟩
      · obtain ⟨k, h1, h2⟩ := ih.1 h; exact ⟨k + 1, by simpa using h1, by rw [h2]; congr 1; omega⟩
    · rintro ⟨k, h1, h2⟩
      cases k with
      | zero =>
        have hb : b = true := by simpa using h1
        rw [if_pos hb]; simp [h2]
      | succ k =>
        have : i ∈ refsFrom (j + 1) r := ih.2 ⟨k, by simpa using h1, by rw [h2]; congr 1; omega⟩
        split
        · exact List.mem_cons_of_mem _ this
        · exact this
theorem mem_pl {m : AM} {t p : Int} : p ∈ m.pl t ↔ ∃ k : Nat, (m.row t)[k]? = some true ∧ p = t + 1 + k := by
  unfold pl
  simp only [List.mem_map, mem_refsFrom]
  constructor
  · rintro ⟨i, ⟨k, h1, h2⟩, h3⟩; exact ⟨k, h1, by rw [← h3, h2]; simp⟩
  · rintro ⟨k, h1, h2⟩; exact ⟨(k : Int), ⟨k, h1, by simp⟩, h2.symm⟩
theorem pl_bd {m : AM} {t p : Int} (h : p ∈ m.pl t) : t < p ∧ p < t + m.size t := by
  obtain ⟨k, h1, h2⟩ := mem_pl.1 h
  have := (List.getElem?_eq_some_iff.1 h1).1
  unfold size; omega
theorem size_pos (m : AM) (t : Int) : 1 ≤ m.size t := by unfold size; omega

/-! ### Sums -/
theorem sum_nil (f : Int → Int) : sum f [] = 0 := rfl
theorem sum_cons (f : Int → Int) (a : Int) (l : List Int) : sum f (a :: l) = f a + sum f l := by simp [sum]
theorem sum_append (f : Int → Int) (l k : List Int) : sum f (l ++ k) = sum f l + sum f k := by simp [sum]
theorem sum_congr {f g : Int → Int} : ∀ {l : List Int}, (∀ a ∈ l, f a = g a) → sum f l = sum g l
  | [], _ => rfl
  | a :: l, h => by rw [sum_cons, sum_cons, h a (List.mem_cons_self ..), sum_congr fun b hb => h b (List.mem_cons_of_mem _ hb)]
theorem sum_nonneg {f : Int → Int} : ∀ {l : List Int}, (∀ a ∈ l, 0 ≤ f a) → 0 ≤ sum f l
  | [], _ => by simp [sum]
  | a :: l, h => by have := h a (List.mem_cons_self ..); have := sum_nonneg fun b hb => h b (List.mem_cons_of_mem _ hb); rw [sum_cons]; omega
theorem sum_mem_le {f : Int → Int} : ∀ {l : List Int}, (∀ a ∈ l, 0 ≤ f a) → ∀ a ∈ l, f a ≤ sum f l
  | [], _, a, h => by simp at h
  | b :: l, h, a, ha => by
    have hn := sum_nonneg (f := f) (l := l) fun c hc => h c (List.mem_cons_of_mem _ hc)
    have hb := h b (List.mem_cons_self ..)
    rw [sum_cons]
    rcases List.mem_cons.1 ha with rfl | ha
    · omega
    · have := sum_mem_le (fun c hc => h c (List.mem_cons_of_mem _ hc)) a ha; omega
/-- One of the numbers changes. -/
theorem sum_one {f g : Int → Int} {a : Int} : ∀ {l : List Int}, l.Nodup → a ∈ l → (∀ b ∈ l, b ≠ a → f b = g b) → sum f l = sum g l - g a + f a
  | [], _, h, _ => by simp at h
  | b :: l, hn, h, he => by
    rw [List.nodup_cons] at hn
    rw [sum_cons, sum_cons]
    by_cases hb : b = a
    · subst hb
      rw [sum_congr (f := f) (g := g) fun c hc => he c (List.mem_cons_of_mem _ hc) fun e => hn.1 (e ▸ hc)]
      omega
    · have ha : a ∈ l := by
        rcases List.mem_cons.1 h with h | h
        · exact absurd h.symm hb
        · exact h
      rw [sum_one hn.2 ha fun c hc => he c (List.mem_cons_of_mem _ hc), he b (List.mem_cons_self ..) hb]
      omega

/-- The words of objects that are not moved. -/
def us (m : AM) (a : Int) : Int := if m.moved a = 0 then m.size a else 0
def usum (m : AM) (l : List Int) : Int := sum m.us l
theorem us_nonneg (m : AM) (a : Int) : 0 ≤ m.us a := by have := m.size_pos a; unfold us; split <;> omega
theorem usum_le {m : AM} {l : List Int} {a : Int} (ha : a ∈ l) (hm : m.moved a = 0) : m.size a ≤ m.usum l := by
  have := sum_mem_le (fun b _ => m.us_nonneg b) a ha
  unfold us at this; rw [if_pos hm] at this; exact this
theorem usum_nonneg (m : AM) (l : List Int) : 0 ≤ m.usum l := sum_nonneg fun b _ => m.us_nonneg b

/-- A region's objects. -/
structure Reg (m : AM) (lo hi lim : Int) (l : List Int) : Prop where
  tl : Tl m.size lo hi l
  hd : ∀ t, lo ≤ t → t ≤ lim → (0 < m.head t ↔ t ∈ l)
  ok : ∀ t ∈ l, m.head t ≤ m.sh.length
structure Sz (m : AM) : Prop where
  Y0 : 1 ≤ m.Y
  Y1 : m.Y ≤ 400000
  H0 : 1 ≤ m.H
  H1 : m.H ≤ 100000
  n : m.sh.length ≤ 100
  w : ∀ l ∈ m.sh, l.length ≤ 100
/-- All is in order, while words that refer to objects N, or lf, are forwarded. -/
structure Gd (m : AM) (ly ln lf N rl : List Int) (sp : Int) (rs : List Int) : Prop where
  sz : Sz m
  y : Reg m 1 m.new m.Y ly
  yl : m.new ≤ m.Y + 1
  o : Reg m m.base m.old (m.base + m.H - 1) ln
  f : ∃ fe, fe ≤ m.former + m.H ∧ Reg m m.former fe (m.former + m.H - 1) lf
  hn : ∀ t, 0 ≤ m.head t
  nb : m.busy = false → lf = []
  left : m.left = m.usum lf
  room : m.old + m.left + m.usum rs ≤ m.base + m.H
  sc : m.busy = true → m.base ≤ m.scan ∧ m.scan ≤ m.old
  mv : ∀ t, m.moved t ≠ 0 → (t ∈ N ∨ t ∈ lf) ∧ m.moved t ∈ ln ∧ m.head (m.moved t) = m.head t
  mi : ∀ t t', m.moved t = m.moved t' → m.moved t ≠ 0 → t = t'
  wy : ∀ t ∈ ly, ∀ p ∈ m.pl t, m.word p = 0 ∨ m.word p ∈ ly ∨ m.word p ∈ ln
  wN : ∀ t ∈ N, ∀ p ∈ m.pl t, m.word p ∈ ly → m.word p ∈ N
  NY : ∀ t ∈ N, t ∈ ly
  Nn : N.Nodup
  wo : ∀ t ∈ ln, ∀ p ∈ m.pl t, m.word p = 0 ∨ m.word p ∈ ln ∨ (m.word p ∈ N ∧ (p ∈ rl ∨ sp ≤ p)) ∨ (m.word p ∈ lf ∧ m.scan ≤ p)
  wf : ∀ t ∈ lf, ∀ p ∈ m.pl t, m.word p = 0 ∨ m.word p ∈ lf
  fz : ∀ t, m.new ≤ t → t ≤ m.Y → m.word t = 0

section
variable {m : AM} {ly ln lf N rl rs : List Int} {sp a : Int}
theorem base_former (m : AM) : (m.base = m.Y + 1 ∧ m.former = m.Y + m.H + 1) ∨ (m.base = m.Y + m.H + 1 ∧ m.former = m.Y + 1) := by
  unfold base former; cases m.up <;> simp
theorem Gd.ybd (h : Gd m ly ln lf N rl sp rs) {t : Int} (ht : t ∈ ly) : 1 ≤ t ∧ t + m.size t ≤ m.new ∧ 1 ≤ m.size t := by have := h.y.tl.mem t ht; omega
theorem Gd.obd (h : Gd m ly ln lf N rl sp rs) {t : Int} (ht : t ∈ ln) : m.base ≤ t ∧ t + m.size t ≤ m.old ∧ 1 ≤ m.size t := by have := h.o.tl.mem t ht; omega
theorem Gd.fbd (h : Gd m ly ln lf N rl sp rs) {t : Int} (ht : t ∈ lf) : m.former ≤ t ∧ t + m.size t ≤ m.former + m.H ∧ 1 ≤ m.size t := by
  obtain ⟨fe, h1, h2⟩ := h.f
  have := h2.tl.mem t ht; omega
theorem Gd.oldle (h : Gd m ly ln lf N rl sp rs) : m.base ≤ m.old ∧ m.old + m.left ≤ m.base + m.H ∧ 0 ≤ m.left := by
  have h1 := h.o.tl.le
  have h2 := h.room
  have h3 := m.usum_nonneg rs
  have h4 := h.left
  have h5 := m.usum_nonneg lf
  omega
theorem Gd.newle (h : Gd m ly ln lf N rl sp rs) : 1 ≤ m.new := h.y.tl.le
theorem Gd.hfit (h : Gd m ly ln lf N rl sp rs) (ha : a ∈ lf) (hm : m.moved a = 0) : m.old + m.size a ≤ m.base + m.H := by
  have := usum_le ha hm; have := h.left; have := h.oldle; omega
theorem Gd.nfit (h : Gd m ly ln lf N rl sp rs) (ha : a ∈ rs) (hm : m.moved a = 0) : m.old + m.size a ≤ m.base + m.H := by
  have := usum_le ha hm; have := h.room; have := h.oldle; omega
theorem Gd.isY_iff (h : Gd m ly ln lf N rl sp rs) {t : Int} (hc : 0 < m.head t) : m.isY t = true ↔ t ∈ ly := by
  unfold isY
  simp only [Bool.and_eq_true, decide_eq_true_eq]
  constructor
  · rintro ⟨h1, h2⟩; exact (h.y.hd t h1 h2).1 hc
  · intro ht; have := h.ybd ht; have := h.yl; omega
theorem Gd.yhead (h : Gd m ly ln lf N rl sp rs) {t : Int} (ht : t ∈ ly) : 0 < m.head t := by have := h.ybd ht; have := h.yl; exact (h.y.hd t (by omega) (by omega)).2 ht
theorem Gd.ohead (h : Gd m ly ln lf N rl sp rs) {t : Int} (ht : t ∈ ln) : 0 < m.head t := by have := h.obd ht; have := h.oldle; exact (h.o.hd t (by omega) (by omega)).2 ht
theorem Gd.fhead (h : Gd m ly ln lf N rl sp rs) {t : Int} (ht : t ∈ lf) : 0 < m.head t := by
  obtain ⟨fe, h1, h2⟩ := h.f
  have := h2.tl.mem t ht; exact (h2.hd t (by omega) (by omega)).2 ht
theorem Gd.cur_iff (h : Gd m ly ln lf N rl sp rs) {t : Int} : m.cur t = true ↔ t ∈ ly ∨ t ∈ ln := by
  unfold cur isY isO
  simp only [Bool.and_eq_true, Bool.or_eq_true, decide_eq_true_eq]
  constructor
  · rintro ⟨h1 | h1, h2⟩
    · exact .inl ((h.y.hd t h1.1 h1.2).1 h2)
    · exact .inr ((h.o.hd t h1.1 h1.2).1 h2)
  · rintro (ht | ht)
    · have := h.ybd ht; have := h.yl; exact ⟨.inl (by omega), h.yhead ht⟩
    · have := h.obd ht; have := h.oldle; exact ⟨.inr (by omega), h.ohead ht⟩
theorem Gd.oy (h : Gd m ly ln lf N rl sp rs) {t : Int} (h1 : t ∈ ln) : t ∉ ly := fun h2 => by
  have := h.obd h1; have := h.ybd h2; have := h.yl; have := m.base_former; have := h.sz.H0; omega
theorem Gd.of (h : Gd m ly ln lf N rl sp rs) {t : Int} (h1 : t ∈ ln) : t ∉ lf := fun h2 => by
  have := h.obd h1; have := h.fbd h2; have := h.oldle; have := m.base_former; omega
theorem Gd.fy (h : Gd m ly ln lf N rl sp rs) {t : Int} (h1 : t ∈ lf) : t ∉ ly := fun h2 => by
  have := h.fbd h1; have := h.ybd h2; have := h.yl; have := m.base_former; have := h.sz.H0; omega
theorem Gd.mpos (h : Gd m ly ln lf N rl sp rs) (t : Int) : m.moved t ≠ 0 → 0 < m.moved t := fun hm => by
  have := h.obd (h.mv t hm).2.1; have := m.base_former; have := h.sz.Y0; have := h.sz.H0; omega
/-- The sum, when one is moved. -/
theorem usum_move {m' : AM} {l : List Int} (hs : ∀ t ∈ l, m'.size t = m.size t) (hm : m.moved a = 0) (h1 : ∀ t ∈ l, t ≠ a → m'.moved t = m.moved t) (h2 : m'.moved a ≠ 0) (hn : l.Nodup) : m'.usum l = if a ∈ l then m.usum l - m.size a else m.usum l := by
  by_cases ha : a ∈ l
  · rw [if_pos ha]
    unfold usum
    rw [sum_one (g := m.us) hn ha fun b hb hne => by unfold us; rw [h1 b hb hne, hs b hb]]
    unfold us; rw [if_pos hm, if_neg h2]; omega
  · rw [if_neg ha]
    exact sum_congr fun b hb => by unfold us; rw [h1 b hb fun e => ha (e ▸ hb), hs b hb]
end
end AM
end Go.Hm
namespace Go.Hm
namespace AM

/-- m' is m with more objects behind the others of the present half. -/
structure Ext (m m' : AM) : Prop where
  sh : m'.sh = m.sh
  Y : m'.Y = m.Y
  H : m'.H = m.H
  new : m'.new = m.new
  up : m'.up = m.up
  busy : m'.busy = m.busy
  scan : m'.scan = m.scan
  rem : m'.rem = m.rem
  old : m.old ≤ m'.old
  word : ∀ x, x < m.old ∨ m'.old ≤ x → m'.word x = m.word x
  head : ∀ x, x < m.old ∨ m'.old ≤ x → m'.head x = m.head x
  mv : ∀ t, m.moved t ≠ 0 → m'.moved t = m.moved t
theorem Ext.refl (m : AM) : Ext m m := ⟨rfl, rfl, rfl, rfl, rfl, rfl, rfl, rfl, by omega, fun _ _ => rfl, fun _ _ => rfl, fun _ _ => rfl⟩
theorem Ext.trans {a b c : AM} (h : Ext a b) (k : Ext b c) : Ext a c := by
  have h1 := h.old; have h2 := k.old
  exact ⟨k.sh.trans h.sh, k.Y.trans h.Y, k.H.trans h.H, k.new.trans h.new, k.up.trans h.up, k.busy.trans h.busy, k.scan.trans h.scan, k.rem.trans h.rem, by omega,
    fun x hx => (k.word x (by omega)).trans (h.word x (by omega)), fun x hx => (k.head x (by omega)).trans (h.head x (by omega)),
    fun t ht => by have := h.mv t ht; rw [← this] at ht; rw [k.mv t ht, this]⟩
theorem Ext.base {m m' : AM} (h : Ext m m') : m'.base = m.base := by unfold AM.base; rw [h.up, h.Y, h.H]
theorem Ext.former {m m' : AM} (h : Ext m m') : m'.former = m.former := by unfold AM.former; rw [h.up, h.Y, h.H]
theorem Ext.row {m m' : AM} (h : Ext m m') {t : Int} (ht : t < m.old ∨ m'.old ≤ t) : m'.row t = m.row t := by unfold AM.row; rw [h.sh, h.head t ht]
theorem Ext.size {m m' : AM} (h : Ext m m') {t : Int} (ht : t < m.old ∨ m'.old ≤ t) : m'.size t = m.size t := by unfold AM.size; rw [h.row ht]
theorem Ext.pl {m m' : AM} (h : Ext m m') {t : Int} (ht : t < m.old ∨ m'.old ≤ t) : m'.pl t = m.pl t := by unfold AM.pl; rw [h.row ht]
theorem Ext.isY {m m' : AM} (h : Ext m m') (t : Int) : m'.isY t = m.isY t := by unfold AM.isY; rw [h.Y]
theorem Ext.isF {m m' : AM} (h : Ext m m') (t : Int) : m'.isF t = m.isF t := by unfold AM.isF; rw [h.former, h.H]
theorem Ext.isO {m m' : AM} (h : Ext m m') (t : Int) : m'.isO t = m.isO t := by unfold AM.isO; rw [h.base, h.H]

theorem move_ext {m : AM} {a : Int} (h0 : m.moved a = 0) : Ext m (m.move a).2 := by
  have hs := m.size_pos a
  refine ⟨rfl, rfl, rfl, rfl, rfl, rfl, rfl, rfl, by show m.old ≤ m.old + m.size a; omega, fun x hx => ?_, fun x hx => ?_, fun t ht => ?_⟩
  · have hx' : x < m.old ∨ m.old + m.size a ≤ x := hx
    show (if _ then _ else _) = _
    rw [if_neg]; simp; omega
  · have hx' : x < m.old ∨ m.old + m.size a ≤ x := hx
    exact fup_other (by omega)
  · exact fup_other (fun e => ht (e ▸ h0))
theorem move_head (m : AM) (a : Int) : (m.move a).2.head m.old = m.head a := fup_same ..
theorem move_row (m : AM) (a : Int) : (m.move a).2.row m.old = m.row a := by show m.sh.getD ((m.move a).2.head m.old - 1).toNat [] = _; rw [move_head]; rfl
theorem move_size (m : AM) (a : Int) : (m.move a).2.size m.old = m.size a := by unfold size; rw [move_row]
theorem move_word {m : AM} {a j : Int} (h0 : 0 ≤ j) (h1 : j < m.size a) : (m.move a).2.word (m.old + j) = m.word (a + j) := by
  show (if _ then _ else _) = _
  rw [if_pos (by simp; omega)]; congr 1; omega
theorem move_moved (m : AM) (a : Int) : (m.move a).2.moved a = m.old := fup_same ..
theorem move_moved_ne (m : AM) {a t : Int} (h : t ≠ a) : (m.move a).2.moved t = m.moved t := fup_other h
theorem move_pl (m : AM) (a : Int) : (m.move a).2.pl m.old = (m.pl a).map fun p => p - a + m.old := by
  unfold pl; rw [move_row, List.map_map]
  apply List.map_congr_left
  intro i _; simp; omega
theorem isF_iff {m : AM} {t : Int} : m.isF t = true ↔ m.former ≤ t ∧ t ≤ m.former + m.H - 1 := by simp [isF]
theorem isY_iff' {m : AM} {t : Int} : m.isY t = true ↔ 1 ≤ t ∧ t ≤ m.Y := by simp [isY]
theorem isO_iff {m : AM} {t : Int} : m.isO t = true ↔ m.base ≤ t ∧ t ≤ m.base + m.H - 1 := by simp [isO]

section
variable {m : AM} {ly ln lf N rl rs : List Int} {sp a : Int}
theorem Gd.outside (h : Gd m ly ln lf N rl sp rs) {a t : Int} (ha : m.old + m.size a ≤ m.base + m.H) (ht : t ∈ ly ∨ t ∈ ln ∨ t ∈ lf) : t + m.size t ≤ m.old ∨ m.old + m.size a ≤ t := by
  have hb := m.base_former; have h0 := h.oldle
  rcases ht with ht | ht | ht
  · have := h.ybd ht; have := h.yl; have := h.sz.H0; omega
  · have := h.obd ht; omega
  · have := h.fbd ht; omega
/-- An object is moved. -/
theorem Gd.move (h : Gd m ly ln lf N rl sp rs) (ha : (a ∈ N ∧ a ∈ rs) ∨ a ∈ lf) (hm : m.moved a = 0) (hsp : a ∈ N → sp ≤ m.old) (hrs : rs = [] ∨ rs = N) : Gd (m.move a).2 ly (ln ++ [m.old]) lf N rl sp rs := by
  have hx := move_ext (m := m) (a := a) hm
  have hb := m.base_former; have h0 := h.oldle; have hs := m.size_pos a; have hH := h.sz.H0; have hY := h.sz.Y0; have hyl := h.yl; have hn1 := h.newle
  have hal : a ∈ ly ∨ a ∈ ln ∨ a ∈ lf := by
    rcases ha with ⟨ha, _⟩ | ha
    · exact .inl (h.NY a ha)
    · exact .inr (.inr ha)
  have hfit : m.old + m.size a ≤ m.base + m.H := by
    rcases ha with ⟨_, ha⟩ | ha
    · exact h.nfit ha hm
    · exact h.hfit ha hm
  have hno : ∀ t, m.moved t ≠ m.old := fun t ht => by
    have := h.obd (h.mv t (by omega)).2.1; omega
  have hout : ∀ {t : Int}, t ∈ ly ∨ t ∈ ln ∨ t ∈ lf → t + m.size t ≤ m.old ∨ (m.move a).2.old ≤ t := fun {t} ht => h.outside hfit ht
  have hane : a ≠ m.old := fun e => by
    rcases hout hal with h1 | h1
    · omega
    · have h1' : m.old + m.size a ≤ a := h1; omega
  have hrow : ∀ {t : Int}, t ∈ ly ∨ t ∈ ln ∨ t ∈ lf → (m.move a).2.row t = m.row t := fun {t} ht => hx.row (by have := hout ht; have := m.size_pos t; omega)
  have hsz : ∀ {t : Int}, t ∈ ly ∨ t ∈ ln ∨ t ∈ lf → (m.move a).2.size t = m.size t := fun {t} ht => by unfold size; rw [hrow ht]
  have hpl : ∀ {t : Int}, t ∈ ly ∨ t ∈ ln ∨ t ∈ lf → (m.move a).2.pl t = m.pl t := fun {t} ht => by unfold pl; rw [hrow ht]
  have hwd : ∀ {t p : Int}, t ∈ ly ∨ t ∈ ln ∨ t ∈ lf → p ∈ m.pl t → (m.move a).2.word p = m.word p := fun {t p} ht hp => hx.word p (by have := hout ht; have := pl_bd hp; omega)
  have hhd : ∀ t, t ≠ m.old → (m.move a).2.head t = m.head t := fun t ht => fup_other ht
  have hpos : 0 < m.head a := by
    rcases hal with h1 | h1 | h1
    · exact h.yhead h1
    · exact h.ohead h1
    · exact h.fhead h1
  have hokA : m.head a ≤ m.sh.length := by
    rcases hal with h1 | h1 | h1
    · exact h.y.ok a h1
    · exact h.o.ok a h1
    · obtain ⟨fe, _, h2⟩ := h.f; exact h2.ok a h1
  have hMF : ∀ t ∈ lf, m.isF t = true := fun t ht => by have := h.fbd ht; rw [isF_iff]; omega
  have hMY : ∀ t ∈ ly, m.isF t = false := fun t ht => by
    have := h.ybd ht
    cases hq : m.isF t with
    | false => rfl
    | true => rw [isF_iff] at hq; omega
  have hnlf : lf.Nodup := by obtain ⟨fe, _, h2⟩ := h.f; exact h2.tl.nodup
  have hm2 : (m.move a).2.moved a ≠ 0 := by rw [move_moved]; omega
  have hul : (m.move a).2.usum lf = if a ∈ lf then m.usum lf - m.size a else m.usum lf := usum_move (fun t ht => hsz (.inr (.inr ht))) hm (fun t _ hne => move_moved_ne m hne) hm2 hnlf
  have hleft : (m.move a).2.left = if a ∈ lf then m.left - m.size a else m.left := by
    show (if m.isF a then _ else _) = _
    by_cases hf : a ∈ lf
    · rw [if_pos (hMF a hf), if_pos hf]
    · have hY' : a ∈ ly := by
        rcases ha with ⟨ha, _⟩ | ha
        · exact h.NY a ha
        · exact absurd ha hf
      rw [if_neg (by rw [hMY a hY']; simp), if_neg hf]
  have hur : (m.move a).2.usum rs = if a ∈ rs then m.usum rs - m.size a else m.usum rs := by
    rcases hrs with rfl | rfl
    · simp [usum, sum]
    · exact usum_move (fun t ht => hsz (.inl (h.NY t ht))) hm (fun t _ hne => move_moved_ne m hne) hm2 h.Nn
  refine ⟨⟨h.sz.Y0, h.sz.Y1, h.sz.H0, h.sz.H1, h.sz.n, h.sz.w⟩, ⟨?_, ?_, ?_⟩, h.yl, ⟨?_, ?_, ?_⟩, ?_, ?_, h.nb, ?_, ?_, ?_, ?_, ?_, ?_, ?_, h.NY, h.Nn, ?_, ?_, ?_⟩
  · exact h.y.tl.congr fun t ht => hsz (.inl ht)
  · intro t h1 h2
    have h2' : t ≤ m.Y := h2
    rw [hhd t (by omega)]; exact h.y.hd t h1 h2
  · intro t ht
    rw [hhd t (by have := h.ybd ht; omega)]; exact h.y.ok t ht
  · have h1 : Tl (m.move a).2.size m.base m.old ln := h.o.tl.congr fun t ht => hsz (.inr (.inl ht))
    have := Tl.snoc (by rw [move_size]; exact hs) h1
    rw [move_size] at this
    exact this
  · intro t h1 h2
    have h1' : m.base ≤ t := h1
    have h2' : t ≤ m.base + m.H - 1 := h2
    rw [List.mem_append, List.mem_singleton]
    by_cases ht : t = m.old
    · subst ht; rw [move_head]; exact ⟨fun _ => .inr rfl, fun _ => hpos⟩
    · rw [hhd t ht, h.o.hd t h1' h2']; simp [ht]
  · intro t ht
    rcases List.mem_append.1 ht with ht | ht
    · rw [hhd t (by have := h.obd ht; omega)]; exact h.o.ok t ht
    · rw [List.mem_singleton.1 ht, move_head]; exact hokA
  · obtain ⟨fe, h1, h2⟩ := h.f
    refine ⟨fe, h1, h2.tl.congr fun t ht => hsz (.inr (.inr ht)), fun t g1 g2 => ?_, fun t ht => ?_⟩
    · have g1' : m.former ≤ t := g1
      have g2' : t ≤ m.former + m.H - 1 := g2
      rw [hhd t (by omega)]; exact h2.hd t g1 g2
    · rw [hhd t (by have := h.fbd ht; omega)]; exact h2.ok t ht
  · intro t
    by_cases ht : t = m.old
    · subst ht; rw [move_head]; omega
    · rw [hhd t ht]; exact h.hn t
  · rw [hleft, hul, h.left]
  · show m.old + m.size a + (m.move a).2.left + (m.move a).2.usum rs ≤ m.base + m.H
    rw [hleft, hur]
    have hr := h.room
    rcases ha with ⟨h1, h2⟩ | h1
    · have h3 : a ∉ lf := fun h3 => h.fy h3 (h.NY a h1)
      rw [if_neg h3, if_pos h2]; omega
    · have h3 : a ∉ rs := fun h3 => by
        rcases hrs with rfl | rfl
        · simp at h3
        · exact h.fy h1 (h.NY a h3)
      rw [if_pos h1, if_neg h3]; omega
  · intro hbz
    obtain ⟨h1, h2⟩ := h.sc hbz
    exact ⟨h1, by show m.scan ≤ m.old + m.size a; omega⟩
  · intro t ht
    by_cases hta : t = a
    · subst hta
      rw [move_moved, move_head]
      exact ⟨ha.imp And.left id, by simp, by rw [hhd t hane]⟩
    · rw [move_moved_ne m hta] at ht ⊢
      obtain ⟨h1, h2, h3⟩ := h.mv t ht
      refine ⟨h1, List.mem_append_left _ h2, ?_⟩
      have hin : t ∈ ly ∨ t ∈ ln ∨ t ∈ lf := h1.elim (fun h1 => .inl (h.NY t h1)) (fun h1 => .inr (.inr h1))
      have := h.obd h2
      rw [hhd _ (by omega), hhd t (by have := hout hin; rcases this with h | h; have := m.size_pos t; omega; have h' : m.old + m.size a ≤ t := h; omega), h3]
  · intro t t' he ht
    by_cases hta : t = a
    · by_cases hta' : t' = a
      · rw [hta, hta']
      · rw [hta, move_moved, move_moved_ne m hta'] at he
        exact absurd he.symm (hno t')
    · by_cases hta' : t' = a
      · rw [hta', move_moved, move_moved_ne m hta] at he
        exact absurd he (hno t)
      · rw [move_moved_ne m hta, move_moved_ne m hta'] at he
        rw [move_moved_ne m hta] at ht
        exact h.mi t t' he ht
  · intro t ht p hp
    rw [hpl (.inl ht)] at hp
    rw [hwd (.inl ht) hp]
    rcases h.wy t ht p hp with h1 | h1 | h1
    · exact .inl h1
    · exact .inr (.inl h1)
    · exact .inr (.inr (List.mem_append_left _ h1))
  · intro t ht p hp
    have ht' := h.NY t ht
    rw [hpl (.inl ht')] at hp
    rw [hwd (.inl ht') hp]
    exact h.wN t ht p hp
  · intro t ht p hp
    rcases List.mem_append.1 ht with ht | ht
    · rw [hpl (.inr (.inl ht))] at hp
      rw [hwd (.inr (.inl ht)) hp]
      rcases h.wo t ht p hp with h1 | h1 | h1 | h1
      · exact .inl h1
      · exact .inr (.inl (List.mem_append_left _ h1))
      · exact .inr (.inr (.inl h1))
      · exact .inr (.inr (.inr h1))
    · rw [List.mem_singleton.1 ht, move_pl] at hp
      obtain ⟨q, hq, rfl⟩ := List.mem_map.1 hp
      have hqb := pl_bd hq
      have hwq : (m.move a).2.word (q - a + m.old) = m.word q := by
        rw [show q - a + m.old = m.old + (q - a) by omega, move_word (by omega) (by omega)]; congr 1; omega
      rw [hwq]
      rcases ha with ⟨h1, _⟩ | h1
      · rcases h.wy a (h.NY a h1) q hq with h2 | h2 | h2
        · exact .inl h2
        · exact .inr (.inr (.inl ⟨h.wN a h1 q hq h2, .inr (by have := hsp h1; omega)⟩))
        · exact .inr (.inl (List.mem_append_left _ h2))
      · rcases h.wf a h1 q hq with h2 | h2
        · exact .inl h2
        · refine .inr (.inr (.inr ⟨h2, ?_⟩))
          have hbz : m.busy = true := by
            cases hq : m.busy with
            | true => rfl
            | false => rw [h.nb hq] at h1; simp at h1
          have := (h.sc hbz).2
          show m.scan ≤ _
          omega
  · intro t ht p hp
    rw [hpl (.inr (.inr ht))] at hp
    rw [hwd (.inr (.inr ht)) hp]
    exact h.wf t ht p hp
  · intro t h1 h2
    have h1' : m.new ≤ t := h1
    have h2' : t ≤ m.Y := h2
    rw [hx.word t (.inl (by omega))]; exact h.fz t h1 h2
/-- What forwarding does. -/
structure Fwd (m : AM) (ly ln lf N rl : List Int) (sp : Int) (rs : List Int) (y : Bool) (v : Int) (ln' : List Int) : Prop where
  gd : Gd (m.fwd y v).2 ly ln' lf N rl sp rs
  ext : Ext m (m.fwd y v).2
  sub : ∀ t ∈ ln, t ∈ ln'
  same : v ∉ ly ∧ v ∉ lf → (m.fwd y v) = (v, m)
  out : (if y then v ∈ N else v ∈ lf) → (m.fwd y v).1 ∈ ln' ∧ (m.fwd y v).2.moved v = (m.fwd y v).1
theorem Gd.fwd (h : Gd m ly ln lf N rl sp rs) (y : Bool) {v : Int} (hv : m.ours y v = true → if y then v ∈ N ∧ v ∈ rs else v ∈ lf) (hsp : y = true → sp ≤ m.old) (hrs : rs = [] ∨ rs = N) : ∃ ln', Fwd m ly ln lf N rl sp rs y v ln' := by
  have hour : (if y then v ∈ N else v ∈ lf) → m.ours y v = true := fun hq => by
    unfold ours
    cases y with
    | true => have := h.ybd (h.NY v (by simpa using hq)); have := h.yl; simp [isY]; omega
    | false => have := h.fbd (show v ∈ lf by simpa using hq); simp [isF]; omega
  by_cases ho : m.ours y v = true
  · have hvv := hv ho
    by_cases hm : m.moved v = 0
    · have he : m.fwd y v = m.move v := by unfold AM.fwd; rw [if_pos ho, if_neg (by omega)]
      refine ⟨ln ++ [m.old], ?_, ?_, fun t ht => List.mem_append_left _ ht, fun ⟨h1, h2⟩ => ?_, fun _ => ?_⟩
      · rw [he]
        cases y with
        | true => exact h.move (.inl (by simpa using hvv)) hm (fun _ => hsp rfl) hrs
        | false =>
          have hvf : v ∈ lf := by simpa using hvv
          exact h.move (.inr hvf) hm (fun hN => absurd (h.NY v hN) (h.fy hvf)) hrs
      · rw [he]; exact move_ext hm
      · cases y with
        | true => exact absurd (h.NY v (show v ∈ N ∧ v ∈ rs by simpa using hvv).1) h1
        | false => exact absurd (by simpa using hvv) h2
      · rw [he]; exact ⟨by show m.old ∈ _; simp, move_moved m v⟩
    · have hp := h.mpos v hm
      have he : m.fwd y v = (m.moved v, m) := by unfold AM.fwd; rw [if_pos ho, if_pos hp]
      refine ⟨ln, by rw [he]; exact h, by rw [he]; exact Ext.refl m, fun t ht => ht, fun ⟨h1, h2⟩ => ?_, fun _ => by rw [he]; exact ⟨(h.mv v hm).2.1, rfl⟩⟩
      rcases (h.mv v hm).1 with h3 | h3
      · exact absurd (h.NY v h3) h1
      · exact absurd h3 h2
  · have he : m.fwd y v = (v, m) := by unfold AM.fwd; rw [if_neg ho]
    exact ⟨ln, by rw [he]; exact h, by rw [he]; exact Ext.refl m, fun t ht => ht, fun _ => he, fun hq => absurd (hour hq) ho⟩
end
end AM
end Go.Hm
namespace Go.Hm
namespace AM

/-- Objects without addresses: a shape, and fields: of those that refer 1 more than the number of an object, or 0. -/
abbrev Store := List (Int × List Int)
/-- What an address stands for. -/
def V (φ : Int → Option Nat) (w x : Int) : Prop := (w = 0 ∧ x = 0) ∨ ∃ j, φ w = some j ∧ x = (j : Int) + 1
def Le (φ φ' : Int → Option Nat) : Prop := ∀ t i, φ t = some i → φ' t = some i
theorem Le.refl (φ : Int → Option Nat) : Le φ φ := fun _ _ h => h
theorem Le.trans {φ φ' φ'' : Int → Option Nat} (h : Le φ φ') (k : Le φ' φ'') : Le φ φ'' := fun t i ht => k t i (h t i ht)
theorem V.mono {φ φ' : Int → Option Nat} {w x : Int} (h : V φ w x) (hl : Le φ φ') : V φ' w x := h.imp id fun ⟨j, h1, h2⟩ => ⟨j, hl _ _ h1, h2⟩
/-- Each object that stands for one has its shape and its fields. -/
structure Sim (m : AM) (ly ln lf : List Int) (φ : Int → Option Nat) (A : Store) : Prop where
  dom : ∀ t i, φ t = some i → t ∈ ly ∨ t ∈ ln ∨ t ∈ lf
  shp : ∀ t i, φ t = some i → ∃ fs : List Int, A[i]? = some (m.head t - 1, fs) ∧ fs.length = (m.row t).length ∧ (m.moved t = 0 → ∀ k : Nat, k < fs.length → if (m.row t).getD k false then V φ (m.word (t + 1 + k)) (fs.getD k 0) else m.word (t + 1 + k) = fs.getD k 0)
  mvd : ∀ t i, φ t = some i → m.moved t ≠ 0 → φ (m.moved t) = some i
  inj : ∀ t t' i, φ t = some i → φ t' = some i → m.moved t = 0 → m.moved t' = 0 → t = t'
theorem Sim.none (m : AM) (ly ln lf : List Int) (A : Store) : Sim m ly ln lf (fun _ => Option.none) A := ⟨fun _ _ h => (by cases h), fun _ _ h => (by cases h), fun _ _ h => (by cases h), fun _ _ _ h => (by cases h)⟩

section
variable {m : AM} {ly ln lf N rl rs : List Int} {sp a : Int} {φ : Int → Option Nat} {A : Store}
theorem Gd.omoved (h : Gd m ly ln lf N rl sp rs) {t : Int} (ht : t ∈ ln) : m.moved t = 0 := by
  by_cases hm : m.moved t = 0
  · exact hm
  · rcases (h.mv t hm).1 with h1 | h1
    · exact absurd (h.NY t h1) (h.oy ht)
    · exact absurd h1 (h.of ht)
theorem Gd.newmoved (h : Gd m ly ln lf N rl sp rs) : m.old ∉ ly ∧ m.old ∉ ln ∧ (m.old < m.base + m.H → m.old ∉ lf ∧ m.moved m.old = 0) := by
  have hb := m.base_former; have h0 := h.oldle; have hH := h.sz.H0
  have h1 : m.old ∉ ly := fun h1 => by have := h.ybd h1; have := h.yl; omega
  refine ⟨h1, fun h1 => by have := h.obd h1; omega, fun hlt => ?_⟩
  have h3 : m.old ∉ lf := fun h3 => by have := h.fbd h3; omega
  refine ⟨h3, ?_⟩
  by_cases hm : m.moved m.old = 0
  · exact hm
  · rcases (h.mv _ hm).1 with h4 | h4
    · exact absurd (h.NY _ h4) h1
    · exact absurd h4 h3
theorem Sim.move (h : Gd m ly ln lf N rl sp rs) (hs : Sim m ly ln lf φ A) (ha : (a ∈ N ∧ a ∈ rs) ∨ a ∈ lf) (hm : m.moved a = 0) :
    Sim (m.move a).2 ly (ln ++ [m.old]) lf (fun t => if t = m.old then φ a else φ t) A ∧ Le φ (fun t => if t = m.old then φ a else φ t) := by
  have hfit : m.old + m.size a ≤ m.base + m.H := by
    rcases ha with ⟨_, ha⟩ | ha
    · exact h.nfit ha hm
    · exact h.hfit ha hm
  have hsp := m.size_pos a
  have hx := move_ext (m := m) (a := a) hm
  obtain ⟨n1, n2, n3⟩ := h.newmoved
  obtain ⟨n3, n4⟩ := n3 (by omega)
  have hal : a ∈ ly ∨ a ∈ ln ∨ a ∈ lf := by
    rcases ha with ⟨ha, _⟩ | ha
    · exact .inl (h.NY a ha)
    · exact .inr (.inr ha)
  have hane : a ≠ m.old := fun e => by subst e; exact hal.elim n1 (fun h => h.elim n2 n3)
  have hold : φ m.old = Option.none := by
    cases hq : φ m.old with
    | none => rfl
    | some i => exact absurd (hs.dom _ _ hq) (by simp [n1, n2, n3])
  have hle : Le φ (fun t => if t = m.old then φ a else φ t) := fun t i ht => by
    show (if t = m.old then φ a else φ t) = some i
    rw [if_neg (fun e => by rw [e, hold] at ht; cases ht)]; exact ht
  have hout : ∀ {t : Int}, t ∈ ly ∨ t ∈ ln ∨ t ∈ lf → t + m.size t ≤ m.old ∨ (m.move a).2.old ≤ t := fun {t} ht => h.outside hfit ht
  have hrow : ∀ {t : Int}, t ∈ ly ∨ t ∈ ln ∨ t ∈ lf → (m.move a).2.row t = m.row t := fun {t} ht => hx.row (by have := hout ht; have := m.size_pos t; omega)
  have hhd : ∀ t, t ≠ m.old → (m.move a).2.head t = m.head t := fun t ht => fup_other ht
  refine ⟨⟨fun t i ht => ?_, fun t i ht => ?_, fun t i ht hmt => ?_, fun t t' i ht ht' hmt hmt' => ?_⟩, hle⟩
  · by_cases hto : t = m.old
    · exact .inr (.inl (by simp [hto]))
    · rw [if_neg hto] at ht
      rcases hs.dom t i ht with h1 | h1 | h1
      · exact .inl h1
      · exact .inr (.inl (List.mem_append_left _ h1))
      · exact .inr (.inr h1)
  · by_cases hto : t = m.old
    · rw [if_pos hto] at ht
      obtain ⟨fs, h1, h2, h3⟩ := hs.shp a i ht
      subst hto
      refine ⟨fs, by rw [move_head]; exact h1, by rw [move_row]; exact h2, fun _ k hk => ?_⟩
      have h4 := h3 hm k hk
      have hw : (m.move a).2.word (m.old + 1 + k) = m.word (a + 1 + k) := by
        rw [show m.old + 1 + (k : Int) = m.old + (1 + k) by omega, move_word (by omega) (by unfold AM.size; omega)]; congr 1; omega
      rw [move_row, hw]
      split
      · rename_i hr; rw [if_pos hr] at h4; exact h4.mono hle
      · rename_i hr; rw [if_neg hr] at h4; exact h4
    · rw [if_neg hto] at ht
      obtain ⟨fs, h1, h2, h3⟩ := hs.shp t i ht
      have hd := hs.dom t i ht
      refine ⟨fs, by rw [hhd t hto]; exact h1, by rw [hrow hd]; exact h2, fun hmt k hk => ?_⟩
      have hta : t ≠ a := fun e => by rw [e, move_moved] at hmt; have := h.oldle; have := m.base_former; have := h.sz.Y0; have := h.sz.H0; omega
      rw [move_moved_ne m hta] at hmt
      have h4 := h3 hmt k hk
      have hw : (m.move a).2.word (t + 1 + k) = m.word (t + 1 + k) := hx.word _ (by have := hout hd; unfold AM.size at this; omega)
      rw [hrow hd, hw]
      split
      · rename_i hr; rw [if_pos hr] at h4; exact h4.mono hle
      · rename_i hr; rw [if_neg hr] at h4; exact h4
  · by_cases hta : t = a
    · subst hta
      rw [move_moved]
      rw [if_neg hane] at ht
      rw [if_pos rfl]; exact ht
    · rw [move_moved_ne m hta] at hmt ⊢
      by_cases hto : t = m.old
      · subst hto; exact absurd n4 hmt
      · rw [if_neg hto] at ht
        exact hle _ _ (hs.mvd t i ht hmt)
  · have key : ∀ {t : Int}, (if t = m.old then φ a else φ t) = some i → (m.move a).2.moved t = 0 → (t = m.old ∧ φ a = some i) ∨ (t ≠ m.old ∧ t ≠ a ∧ φ t = some i ∧ m.moved t = 0) := fun {t} ht hmt => by
      by_cases hto : t = m.old
      · rw [if_pos hto] at ht; exact .inl ⟨hto, ht⟩
      · rw [if_neg hto] at ht
        have hta : t ≠ a := fun e => by rw [e, move_moved] at hmt; have := h.oldle; have := m.base_former; have := h.sz.Y0; have := h.sz.H0; omega
        rw [move_moved_ne m hta] at hmt
        exact .inr ⟨hto, hta, ht, hmt⟩
    rcases key ht hmt with ⟨h1, h2⟩ | ⟨h1, h2, h3, h4⟩
    · rcases key ht' hmt' with ⟨g1, g2⟩ | ⟨g1, g2, g3, g4⟩
      · rw [h1, g1]
      · exact absurd (hs.inj t' a i g3 h2 g4 hm) g2
    · rcases key ht' hmt' with ⟨g1, g2⟩ | ⟨g1, g2, g3, g4⟩
      · exact absurd (hs.inj t a i h3 g2 h4 hm) h2
      · exact hs.inj t t' i h3 g3 h4 g4

/-- All of it: the order, and what addresses stand for. -/
structure J (m : AM) (ly ln lf N rl : List Int) (sp : Int) (rs : List Int) (φ : Int → Option Nat) (A : Store) : Prop where
  g : Gd m ly ln lf N rl sp rs
  s : Sim m ly ln lf φ A
/-- m' comes of m by moving. -/
structure Grow (m m' : AM) (ln ln' : List Int) (φ φ' : Int → Option Nat) : Prop where
  sh : m'.sh = m.sh
  Y : m'.Y = m.Y
  H : m'.H = m.H
  new : m'.new = m.new
  up : m'.up = m.up
  busy : m'.busy = m.busy
  rem : m'.rem = m.rem
  old : m.old ≤ m'.old
  head : ∀ x, x < m.old ∨ m'.old ≤ x → m'.head x = m.head x
  ln : ∃ k, ln' = ln ++ k
  le : Le φ φ'
  bk : ∀ x, x < m.old ∨ m'.old ≤ x → φ' x = φ x
theorem Grow.refl (m : AM) (ln : List Int) (φ : Int → Option Nat) : Grow m m ln ln φ φ := ⟨rfl, rfl, rfl, rfl, rfl, rfl, rfl, by omega, fun _ _ => rfl, ⟨[], by simp⟩, Le.refl _, fun _ _ => rfl⟩
theorem Grow.trans {a b c : AM} {l1 l2 l3 : List Int} {φ1 φ2 φ3 : Int → Option Nat} (h : Grow a b l1 l2 φ1 φ2) (k : Grow b c l2 l3 φ2 φ3) : Grow a c l1 l3 φ1 φ3 := by
  have h1 := h.old; have h2 := k.old
  refine ⟨k.sh.trans h.sh, k.Y.trans h.Y, k.H.trans h.H, k.new.trans h.new, k.up.trans h.up, k.busy.trans h.busy, k.rem.trans h.rem, by omega, fun x hx => (k.head x (by omega)).trans (h.head x (by omega)), ?_, h.le.trans k.le, fun x hx => (k.bk x (by omega)).trans (h.bk x (by omega))⟩
  obtain ⟨x, hx⟩ := h.ln; obtain ⟨y, hy⟩ := k.ln
  exact ⟨x ++ y, by rw [hy, hx, List.append_assoc]⟩
theorem Grow.sub {m m' : AM} {ln ln' : List Int} {φ φ' : Int → Option Nat} (h : Grow m m' ln ln' φ φ') {t : Int} (ht : t ∈ ln) : t ∈ ln' := by obtain ⟨k, rfl⟩ := h.ln; exact List.mem_append_left _ ht
theorem Grow.row {m m' : AM} {ln ln' : List Int} {φ φ' : Int → Option Nat} (h : Grow m m' ln ln' φ φ') {t : Int} (ht : t < m.old ∨ m'.old ≤ t) : m'.row t = m.row t := by unfold AM.row; rw [h.sh, h.head t ht]
theorem Grow.pl {m m' : AM} {ln ln' : List Int} {φ φ' : Int → Option Nat} (h : Grow m m' ln ln' φ φ') {t : Int} (ht : t < m.old ∨ m'.old ≤ t) : m'.pl t = m.pl t := by unfold AM.pl; rw [h.row ht]
theorem Grow.size {m m' : AM} {ln ln' : List Int} {φ φ' : Int → Option Nat} (h : Grow m m' ln ln' φ φ') {t : Int} (ht : t < m.old ∨ m'.old ≤ t) : m'.size t = m.size t := by unfold AM.size; rw [h.row ht]
theorem Grow.base {m m' : AM} {ln ln' : List Int} {φ φ' : Int → Option Nat} (h : Grow m m' ln ln' φ φ') : m'.base = m.base := by unfold AM.base; rw [h.up, h.Y, h.H]

theorem ours_of (h : Gd m ly ln lf N rl sp rs) {y : Bool} {v : Int} (hq : if y then v ∈ N else v ∈ lf) : m.ours y v = true := by
  unfold ours
  cases y with
  | true => have := h.ybd (h.NY v (by simpa using hq)); have := h.yl; simp [isY]; omega
  | false => have := h.fbd (show v ∈ lf by simpa using hq); simp [isF]; omega
/-- A word is forwarded. -/
theorem J.fwd (h : J m ly ln lf N rl sp rs φ A) (y : Bool) {v : Int} (hv : m.ours y v = true → if y then v ∈ N ∧ v ∈ rs else v ∈ lf) (hsp : y = true → sp ≤ m.old) (hrs : rs = [] ∨ rs = N) :
    ∃ ln' φ', J (m.fwd y v).2 ly ln' lf N rl sp rs φ' A ∧ Grow m (m.fwd y v).2 ln ln' φ φ' ∧ Ext m (m.fwd y v).2 ∧ ((if y then v ∈ N else v ∈ lf) → (m.fwd y v).1 ∈ ln' ∧ (m.fwd y v).2.moved v = (m.fwd y v).1) ∧ (¬ m.ours y v = true → m.fwd y v = (v, m)) ∧ (∀ i, φ v = some i → φ' (m.fwd y v).1 = some i) := by
  by_cases ho : m.ours y v = true
  · have hvv := hv ho
    by_cases hm : m.moved v = 0
    · have he : m.fwd y v = m.move v := by unfold AM.fwd; rw [if_pos ho, if_neg (by omega)]
      have hav : (v ∈ N ∧ v ∈ rs) ∨ v ∈ lf := by
        cases y with
        | true => exact .inl (by simpa using hvv)
        | false => exact .inr (by simpa using hvv)
      have hx := move_ext (m := m) (a := v) hm
      obtain ⟨h1, h2⟩ := Sim.move h.g h.s hav hm
      rw [he]
      refine ⟨_, _, ⟨h.g.move hav hm (fun hN => ?_) hrs, h1⟩, ⟨hx.sh, hx.Y, hx.H, hx.new, hx.up, hx.busy, hx.rem, hx.old, hx.head, ⟨_, rfl⟩, h2, fun x hx' => if_neg (by have : x < m.old ∨ m.old + m.size v ≤ x := hx'; have := m.size_pos v; omega)⟩, hx, fun _ => ⟨by show m.old ∈ _; simp, move_moved m v⟩, fun hn => absurd ho hn, fun i hi => by show (if m.old = m.old then _ else _) = _; rw [if_pos rfl]; exact hi⟩
      cases y with
      | true => exact hsp rfl
      | false => exact absurd (h.g.NY v hN) (h.g.fy (by simpa using hvv))
    · have hp := h.g.mpos v hm
      have he : m.fwd y v = (m.moved v, m) := by unfold AM.fwd; rw [if_pos ho, if_pos hp]
      rw [he]
      exact ⟨ln, φ, h, Grow.refl m ln φ, Ext.refl m, fun _ => ⟨(h.g.mv v hm).2.1, rfl⟩, fun hn => absurd ho hn, fun i hi => h.s.mvd v i hi hm⟩
  · have he : m.fwd y v = (v, m) := by unfold AM.fwd; rw [if_neg ho]
    rw [he]
    exact ⟨ln, φ, h, Grow.refl m ln φ, Ext.refl m, fun hq => absurd (ours_of h.g hq) ho, fun _ => rfl, fun i hi => hi⟩

/-! ### A word is put -/
/-- Two objects of one region that have a place in common are one. -/
theorem Gd.same (h : Gd m ly ln lf N rl sp rs) {t t' p : Int} (ht : t ∈ ly ∨ t ∈ ln ∨ t ∈ lf) (ht' : t' ∈ ly ∨ t' ∈ ln ∨ t' ∈ lf) (h1 : t ≤ p) (h2 : p < t + m.size t) (h3 : t' ≤ p) (h4 : p < t' + m.size t') : t = t' := by
  have hb := m.base_former; have h0 := h.oldle; have hyl := h.yl; have hH := h.sz.H0
  obtain ⟨fe, hf1, hf2⟩ := h.f
  rcases ht with ht | ht | ht <;> rcases ht' with ht' | ht' | ht'
  · by_cases hne : t = t'
    · exact hne
    · have := h.y.tl.apart t ht t' ht' hne; omega
  · have := h.ybd ht; have := h.obd ht'; omega
  · have := h.ybd ht; have := h.fbd ht'; omega
  · have := h.obd ht; have := h.ybd ht'; omega
  · by_cases hne : t = t'
    · exact hne
    · have := h.o.tl.apart t ht t' ht' hne; omega
  · have := h.obd ht; have := h.fbd ht'; omega
  · have := h.fbd ht; have := h.ybd ht'; omega
  · have := h.fbd ht; have := h.obd ht'; omega
  · by_cases hne : t = t'
    · exact hne
    · have := hf2.tl.apart t ht t' ht' hne; omega
/-- A field of a current object is put. -/
theorem Gd.put (h : Gd m ly ln lf N rl sp rs) {t : Int} {k : Nat} {v : Int} {rl' : List Int} {sp' : Int} (ht : t ∈ ly ∨ t ∈ ln) (hk : k < (m.row t).length)
    (hvy : t ∈ ly → (m.row t)[k]? = some true → v = 0 ∨ v ∈ ly ∨ v ∈ ln) (hvN : t ∈ N → (m.row t)[k]? = some true → v ∈ ly → v ∈ N)
    (hvo : t ∈ ln → (m.row t)[k]? = some true → v = 0 ∨ v ∈ ln ∨ (v ∈ N ∧ (t + 1 + (k : Int) ∈ rl' ∨ sp' ≤ t + 1 + k)) ∨ (v ∈ lf ∧ m.scan ≤ t + 1 + k))
    (hrl : ∀ q, q ≠ t + 1 + k → (q ∈ rl ∨ sp ≤ q) → (q ∈ rl' ∨ sp' ≤ q)) : Gd (m.put (t + 1 + k) v) ly ln lf N rl' sp' rs := by
  have hin : t ∈ ly ∨ t ∈ ln ∨ t ∈ lf := ht.imp id .inl
  have hsz : t + 1 + (k : Int) < t + m.size t := by unfold size; omega
  have hwd : ∀ {t' p : Int}, t' ∈ ly ∨ t' ∈ ln ∨ t' ∈ lf → p ∈ m.pl t' → (p = t + 1 + k ∧ t' = t ∧ (m.row t)[k]? = some true ∧ (m.put (t + 1 + k) v).word p = v) ∨ (p ≠ t + 1 + k ∧ (m.put (t + 1 + k) v).word p = m.word p) := fun {t' p} ht' hp => by
    by_cases hpe : p = t + 1 + k
    · have hb := pl_bd hp
      have := h.same ht' hin (p := p) (by omega) (by omega) (by omega) (by omega)
      subst this
      obtain ⟨k', h1, h2⟩ := mem_pl.1 hp
      have : k' = k := by omega
      subst this
      exact .inl ⟨hpe, rfl, h1, by rw [hpe]; exact fup_same ..⟩
    · exact .inr ⟨hpe, fup_other hpe⟩
  refine ⟨⟨h.sz.Y0, h.sz.Y1, h.sz.H0, h.sz.H1, h.sz.n, h.sz.w⟩, ⟨h.y.tl, h.y.hd, h.y.ok⟩, h.yl, ⟨h.o.tl, h.o.hd, h.o.ok⟩, ?_, h.hn, h.nb, h.left, h.room, h.sc, h.mv, h.mi, fun t' ht' p hp => ?_, fun t' ht' p hp hw => ?_, h.NY, h.Nn, fun t' ht' p hp => ?_, fun t' ht' p hp => ?_, fun q h1 h2 => ?_⟩
  · obtain ⟨fe, h1, h2⟩ := h.f; exact ⟨fe, h1, h2.tl, h2.hd, h2.ok⟩
  · rcases hwd (.inl ht') hp with ⟨h1, h2, h3, h4⟩ | ⟨_, h4⟩
    · rw [h4]; subst h2; exact hvy ht' h3
    · rw [h4]; exact h.wy t' ht' p hp
  · rcases hwd (.inl (h.NY _ ht')) hp with ⟨h1, h2, h3, h4⟩ | ⟨_, h4⟩
    · rw [h4] at hw ⊢; subst h2; exact hvN ht' h3 hw
    · rw [h4] at hw ⊢; exact h.wN t' ht' p hp hw
  · rcases hwd (.inr (.inl ht')) hp with ⟨h1, h2, h3, h4⟩ | ⟨h3, h4⟩
    · rw [h4]; subst h2 h1; exact hvo ht' h3
    · rw [h4]
      rcases h.wo t' ht' p hp with g | g | g | g
      · exact .inl g
      · exact .inr (.inl g)
      · exact .inr (.inr (.inl ⟨g.1, hrl p h3 g.2⟩))
      · exact .inr (.inr (.inr g))
  · rcases hwd (.inr (.inr ht')) hp with ⟨h1, h2, h3, h4⟩ | ⟨h3, h4⟩
    · exfalso
      subst h2
      rcases ht with ht | ht
      · exact h.fy ht' ht
      · exact h.of ht ht'
    · rw [h4]; exact h.wf t' ht' p hp
  · have h1' : m.new ≤ q := h1
    have h2' : q ≤ m.Y := h2
    have : q ≠ t + 1 + k := by
      have hb := m.base_former; have := h.sz.H0
      rcases ht with ht | ht
      · have := h.ybd ht; omega
      · have := h.obd ht; omega
    show fup m.word _ v q = 0
    rw [fup_other this]; exact h.fz q h1 h2
/-- .. for the same: what it stands for stays. -/
theorem Sim.put (h : Gd m ly ln lf N rl sp rs) (hs : Sim m ly ln lf φ A) {t : Int} {k : Nat} {v : Int} {A' : Store} (ht : t ∈ ly ∨ t ∈ ln) (hk : k < (m.row t).length) (hmt : m.moved t = 0)
    (hA : ∀ t' i, φ t' = some i → t' ≠ t → (m.moved t' = 0 → A'[i]? = A[i]?) ∧ (A'[i]?).map (fun q => (q.1, q.2.length)) = (A[i]?).map fun q => (q.1, q.2.length))
    (hv : ∀ i fs, φ t = some i → A[i]? = some (m.head t - 1, fs) → ∃ x, A'[i]? = some (m.head t - 1, fs.set k x) ∧ if (m.row t).getD k false then V φ v x else v = x) : Sim (m.put (t + 1 + k) v) ly ln lf φ A' := by
  have hin : t ∈ ly ∨ t ∈ ln ∨ t ∈ lf := ht.imp id .inl
  refine ⟨hs.dom, fun t' i hi => ?_, hs.mvd, hs.inj⟩
  obtain ⟨fs, h1, h2, h3⟩ := hs.shp t' i hi
  by_cases he : t' = t
  · subst he
    obtain ⟨x, hx, hvx⟩ := hv i fs hi h1
    refine ⟨fs.set k x, hx, by rw [List.length_set]; exact h2, fun _ j hj => ?_⟩
    rw [List.length_set] at hj
    by_cases hjk : j = k
    · subst hjk
      rw [show (m.put (t' + 1 + j) v).word (t' + 1 + j) = v from fup_same .., show (fs.set j x).getD j 0 = x by simp [List.getD_eq_getElem?_getD, hj]]
      exact hvx
    · rw [show (m.put (t' + 1 + k) v).word (t' + 1 + j) = m.word (t' + 1 + j) from fup_other (by omega), show (fs.set k x).getD j 0 = fs.getD j 0 by simp [List.getD_eq_getElem?_getD, List.getElem?_set_ne (Ne.symm hjk)]]
      exact h3 hmt j hj
  · obtain ⟨hA1, hA2⟩ := hA t' i hi he
    by_cases hm' : m.moved t' = 0
    · refine ⟨fs, by rw [hA1 hm']; exact h1, h2, fun _ j hj => ?_⟩
      have hne : t' + 1 + (j : Int) ≠ t + 1 + k := fun e => he (h.same (hs.dom t' i hi) hin (p := t + 1 + k) (by omega) (by unfold size; omega) (by omega) (by unfold size; omega))
      rw [show (m.put (t + 1 + k) v).word (t' + 1 + j) = m.word (t' + 1 + j) from fup_other hne]
      exact h3 hm' j hj
    · rw [h1] at hA2
      simp only [Option.map_some, Option.map_eq_some_iff, Prod.mk.injEq] at hA2
      obtain ⟨⟨s, fs'⟩, g1, g2, g3⟩ := hA2
      exact ⟨fs', by rw [g1]; simp at g2; rw [g2]; rfl, g3.trans h2, fun hm => absurd hm hm'⟩
end
end AM
end Go.Hm
namespace Go.Hm
namespace AM
section
variable {m : AM} {ly ln lf N rl rs : List Int} {sp a : Int} {φ : Int → Option Nat} {A : Store}
theorem Gd.weak (h : Gd m ly ln lf N rl sp rs) {rl' : List Int} {sp' : Int} (hw : ∀ t ∈ ln, ∀ p ∈ m.pl t, (p ∈ rl ∨ sp ≤ p) → (p ∈ rl' ∨ sp' ≤ p)) : Gd m ly ln lf N rl' sp' rs :=
  ⟨h.sz, h.y, h.yl, h.o, h.f, h.hn, h.nb, h.left, h.room, h.sc, h.mv, h.mi, h.wy, h.wN, h.NY, h.Nn, fun t ht p hp => by
    rcases h.wo t ht p hp with g | g | g | g
    · exact .inl g
    · exact .inr (.inl g)
    · exact .inr (.inr (.inl ⟨g.1, hw t ht p hp g.2⟩))
    · exact .inr (.inr (.inr g)), h.wf, h.fz⟩
theorem Gd.notY0 (h : Gd m ly ln lf N rl sp rs) : (0 : Int) ∉ ly ∧ (0 : Int) ∉ ln ∧ (0 : Int) ∉ lf := by
  have hb := m.base_former; have := h.sz.Y0; have := h.sz.H0
  exact ⟨fun h1 => by have := h.ybd h1; omega, fun h1 => by have := h.obd h1; omega, fun h1 => by have := h.fbd h1; omega⟩
theorem Gd.isYn (h : Gd m ly ln lf N rl sp rs) {t : Int} (ht : t = 0 ∨ t ∈ ln ∨ t ∈ lf) : m.isY t = false := by
  have hb := m.base_former; have := h.sz.Y0; have := h.sz.H0
  cases hq : m.isY t with
  | false => rfl
  | true =>
    rw [isY_iff'] at hq
    rcases ht with ht | ht | ht
    · omega
    · have := h.obd ht; omega
    · have := h.fbd ht; omega
theorem Gd.isFn (h : Gd m ly ln lf N rl sp rs) {t : Int} (ht : t = 0 ∨ t ∈ ly ∨ t ∈ ln) : m.isF t = false := by
  have hb := m.base_former; have := h.sz.Y0; have := h.sz.H0; have := h.oldle; have := h.yl
  cases hq : m.isF t with
  | false => rfl
  | true =>
    rw [isF_iff] at hq
    rcases ht with ht | ht | ht
    · omega
    · have := h.ybd ht; omega
    · have := h.obd ht; omega
/-- A field is forwarded in its place. -/
theorem J.fwdAt (h : J m ly ln lf N rl sp rs φ A) (y : Bool) {t p : Int} {rl' : List Int} {sp' : Int} (ht : t ∈ ln ∨ (y = false ∧ t ∈ ly)) (hp : p ∈ m.pl t) (hyr : y = true → rs = N ∧ sp ≤ m.old) (hfr : y = false → rs = [])
    (hrl : ∀ q, (y = true → q ≠ p) → (q ∈ rl ∨ sp ≤ q) → (q ∈ rl' ∨ sp' ≤ q)) :
    ∃ ln' φ', J (m.fwdAt y p) ly ln' lf N rl' sp' rs φ' A ∧ Grow m (m.fwdAt y p) ln ln' φ φ' ∧ (m.fwdAt y p).scan = m.scan ∧ (∀ x, x < m.old ∨ (m.fwdAt y p).old ≤ x → x ≠ p → (m.fwdAt y p).word x = m.word x) ∧
      ((m.fwdAt y p).word p = 0 ∨ (m.fwdAt y p).word p ∈ ly ∨ (m.fwdAt y p).word p ∈ ln' ∨ (y = true ∧ (m.fwdAt y p).word p ∈ lf)) := by
  have htt : t ∈ ly ∨ t ∈ ln := ht.elim .inr fun h => .inl h.2
  have hw : m.word p = 0 ∨ m.word p ∈ ln ∨ (t ∈ ly ∧ m.word p ∈ ly) ∨ (m.word p ∈ N ∧ (p ∈ rl ∨ sp ≤ p)) ∨ (m.word p ∈ lf ∧ m.scan ≤ p ∧ t ∈ ln) := by
    rcases htt with ht | ht
    · rcases h.g.wy t ht p hp with g | g | g
      · exact .inl g
      · exact .inr (.inr (.inl ⟨ht, g⟩))
      · exact .inr (.inl g)
    · rcases h.g.wo t ht p hp with g | g | g | g
      · exact .inl g
      · exact .inr (.inl g)
      · exact .inr (.inr (.inr (.inl g)))
      · exact .inr (.inr (.inr (.inr ⟨g.1, g.2, ht⟩)))
  have hour : m.ours y (m.word p) = true → if y then m.word p ∈ N ∧ m.word p ∈ rs else m.word p ∈ lf := fun ho => by
    cases y with
    | true =>
      have hY : m.isY (m.word p) = true := ho
      have hrs := (hyr rfl).1
      rcases hw with g | g | g | g | g
      · rw [h.g.isYn (.inl g)] at hY; cases hY
      · rw [h.g.isYn (.inr (.inl g))] at hY; cases hY
      · exfalso
        rcases ht with h1 | h1
        · exact h.g.oy h1 g.1
        · cases h1.1
      · rw [hrs]; simpa using g.1
      · rw [h.g.isYn (.inr (.inr g.1))] at hY; cases hY
    | false =>
      have hF : m.isF (m.word p) = true := ho
      rcases hw with g | g | g | g | g
      · rw [h.g.isFn (.inl g)] at hF; cases hF
      · rw [h.g.isFn (.inr (.inr g))] at hF; cases hF
      · rw [h.g.isFn (.inr (.inl g.2))] at hF; cases hF
      · rw [h.g.isFn (.inr (.inl (h.g.NY _ g.1)))] at hF; cases hF
      · simpa using g.1
  have hrs' : rs = [] ∨ rs = N := by
    cases y with
    | true => exact .inr (hyr rfl).1
    | false => exact .inl (hfr rfl)
  obtain ⟨ln', φ', hJ, hG, hE, hin, hsame, hφ⟩ := h.fwd y hour (fun hy => (hyr hy).2) hrs'
  obtain ⟨k, hk, hpk⟩ := mem_pl.1 hp
  have hkl := (List.getElem?_eq_some_iff.1 hk).1
  have hpb := pl_bd hp
  have h0 := h.g.oldle
  have hb := m.base_former
  have htlt : t < m.old ∨ (m.fwd y (m.word p)).2.old ≤ t := by
    rcases htt with h1 | h1
    · have := h.g.ybd h1; have := h.g.yl; have := h.g.sz.H0; omega
    · have := h.g.obd h1; omega
  have hplt : p < m.old := by
    rcases htt with h1 | h1
    · have := h.g.ybd h1; have := h.g.yl; have := h.g.sz.H0; omega
    · have := h.g.obd h1; omega
  have hrow := hE.row htlt
  have htt' : t ∈ ly ∨ t ∈ ln' := htt.imp id hG.sub
  have hmt : (m.fwd y (m.word p)).2.moved t = 0 ∨ t ∈ ly := htt'.elim .inr fun h1 => .inl (hJ.g.omoved h1)
  have hout : m.ours y (m.word p) = true → (m.fwd y (m.word p)).1 ∈ ln' := fun ho => (hin (by have := hour ho; cases y with | true => (exact (show _ ∧ _ by simpa using this).1) | false => simpa using this)).1
  have hv : ((m.fwd y (m.word p)).1 = 0 ∨ (m.fwd y (m.word p)).1 ∈ ln' ∨ (t ∈ ly ∧ (m.fwd y (m.word p)).1 ∈ ly) ∨ (y = false ∧ (m.fwd y (m.word p)).1 ∈ N ∧ (p ∈ rl ∨ sp ≤ p)) ∨ (y = true ∧ (m.fwd y (m.word p)).1 ∈ lf ∧ m.scan ≤ p ∧ t ∈ ln)) := by
    by_cases ho : m.ours y (m.word p) = true
    · exact .inr (.inl (hout ho))
    · rw [hsame ho]
      rcases hw with g | g | g | g | g
      · exact .inl g
      · exact .inr (.inl (hG.sub g))
      · exact .inr (.inr (.inl g))
      · cases y with
        | true => exact absurd (ours_of (y := true) h.g g.1) ho
        | false => exact .inr (.inr (.inr (.inl ⟨rfl, g.1, g.2⟩)))
      · cases y with
        | true => exact .inr (.inr (.inr (.inr ⟨rfl, g⟩)))
        | false => exact absurd (ours_of (y := false) h.g g.1) ho
  have hgp : Gd (m.fwdAt y p) ly ln' lf N rl' sp' rs := by
    unfold AM.fwdAt
    have := hJ.g.put (t := t) (k := k) (v := (m.fwd y (m.word p)).1) (rl' := rl') (sp' := sp') htt' (by rw [hrow]; exact hkl) (fun h1 _ => ?_) (fun h1 _ h2 => ?_) (fun h1 _ => ?_) (fun q hq => hrl q (fun _ => by rw [hpk]; exact hq))
    · rw [hpk]; rw [hpk] at this; exact this
    · rcases hv with g | g | g | g | g
      · exact .inl g
      · exact .inr (.inr g)
      · exact .inr (.inl g.2)
      · exact .inr (.inl (h.g.NY _ g.2.1))
      · exact absurd h1 (h.g.oy g.2.2.2)
    · have h1y := h.g.NY t h1
      rcases hv with g | g | g | g | g
      · rw [g] at h2; exact absurd h2 h.g.notY0.1
      · exact absurd h2 (hJ.g.oy g)
      · -- the word of a young object stays
        by_cases ho : m.ours y (m.word p) = true
        · exact absurd h2 (hJ.g.oy (hout ho))
        · rw [hsame ho] at h2 ⊢; exact h.g.wN t h1 p hp h2
      · exact g.2.1
      · exact absurd h1y (h.g.oy g.2.2.2)
    · have hty : t ∉ ly := hJ.g.oy h1
      rcases hv with g | g | g | g | g
      · exact .inl g
      · exact .inr (.inl g)
      · exact absurd g.1 hty
      · exact .inr (.inr (.inl ⟨g.2.1, by rw [← hpk]; exact hrl p (fun hy => by rw [g.1] at hy; cases hy) g.2.2⟩))
      · exact .inr (.inr (.inr ⟨g.2.1, by rw [← hpk]; show (m.fwd y (m.word p)).2.scan ≤ p; rw [hE.scan]; exact g.2.2.1⟩))
  refine ⟨ln', φ', ⟨hgp, ?_⟩, ⟨hG.sh, hG.Y, hG.H, hG.new, hG.up, hG.busy, hG.rem, hG.old, hG.head, hG.ln, hG.le, hG.bk⟩, hE.scan, fun x hx hxp => (fup_other hxp).trans (hE.word x hx), ?_⟩
  · unfold AM.fwdAt
    by_cases hmt0 : (m.fwd y (m.word p)).2.moved t = 0
    · have := Sim.put (A' := A) hJ.g hJ.s (t := t) (k := k) (v := (m.fwd y (m.word p)).1) htt' (by rw [hrow]; exact hkl) hmt0 (fun _ _ _ _ => ⟨fun _ => rfl, rfl⟩) (fun i fs hi hA => ?_)
      · rw [hpk]; rw [hpk] at this; exact this
      · refine ⟨fs.getD k 0, ?_, ?_⟩
        · rw [hA]; congr 2
          apply List.ext_getElem?
          intro j
          rw [List.getElem?_set]
          split
          · rename_i hj; subst hj
            split
            · rename_i hl; simp [List.getD_eq_getElem?_getD, hl]
            · rename_i hl; rw [List.getElem?_eq_none (by omega)]
          · rfl
        · have hi' : φ t = some i := by rw [← hG.bk t htlt]; exact hi
          obtain ⟨fs0, g1, g2, g3⟩ := h.s.shp t i hi'
          have hmm : m.moved t = 0 := by
            by_cases hm : m.moved t = 0
            · exact hm
            · rw [hE.mv t hm] at hmt0; exact hmt0
          have hkr : (m.row t).getD k false = true := by simp [List.getD_eq_getElem?_getD, hk]
          have hAA := g1
          have hfs : fs = fs0 := by
            have hhd := hE.head t htlt
            rw [hhd] at hA
            rw [hA] at g1; injection g1 with g1; exact (Prod.mk.injEq .. ▸ g1).2
          have g4 := g3 hmm k (by omega)
          rw [if_pos hkr, ← hpk] at g4
          rw [hrow, if_pos hkr, hfs]
          rcases g4 with ⟨g4, g5⟩ | ⟨j, g4, g5⟩
          · left
            refine ⟨?_, g5⟩
            by_cases ho : m.ours y (m.word p) = true
            · exfalso
              have := hour ho
              rw [g4] at this
              have hn := h.g.notY0
              cases y with
              | true => exact hn.1 (h.g.NY _ (show _ ∧ _ by simpa using this).1)
              | false => exact hn.2.2 (by simpa using this)
            · rw [hsame ho]; exact g4
          · exact .inr ⟨j, hφ j g4, g5⟩
    · -- a moved young object: its words do not matter
      have hty : t ∈ ly := hmt.resolve_left hmt0
      have hyf : y = false := by
        rcases ht with h1 | h1
        · exact absurd hty (h.g.oy h1)
        · exact h1.1
      have hno : ¬ m.ours y (m.word p) = true := fun ho => by
        have := hour ho
        rw [hyf] at this
        rcases h.g.wy t hty p hp with g | g | g
        · rw [g] at this; exact h.g.notY0.2.2 (by simpa using this)
        · exact h.g.fy (show _ ∈ lf by simpa using this) g
        · exact h.g.of g (by simpa using this)
      have he : (m.fwd y (m.word p)) = (m.word p, m) := hsame hno
      have hput : (m.put p (m.word p)) = m := by
        unfold AM.put
        have : fup m.word p (m.word p) = m.word := by funext x; unfold fup; split; rename_i hx; rw [hx]; rfl
        rw [this]
      have hs' := hJ.s
      rw [he] at hs' ⊢
      rw [hput]; exact hs'
  · show (fup (m.fwd y (m.word p)).2.word p (m.fwd y (m.word p)).1 p = 0) ∨ _
    rw [show (m.fwdAt y p).word p = (m.fwd y (m.word p)).1 from fup_same .., fup_same]
    rcases hv with g | g | g | g | g
    · exact .inl g
    · exact .inr (.inr (.inl g))
    · exact .inr (.inl g.2)
    · exact .inr (.inl (h.g.NY _ g.2.1))
    · exact .inr (.inr (.inr ⟨g.1, g.2.1⟩))
end
end AM
end Go.Hm
namespace Go.Hm
namespace AM
section
variable {m : AM} {ly ln lf N rl rs : List Int} {sp a : Int} {φ : Int → Option Nat} {A : Store}
theorem Grow.scan_base {m m' : AM} {l l' : List Int} (h : Grow m m' l l' φ φ) : m'.base = m.base := h.base
/-- Places of the present half, one behind the other. -/
theorem J.fwdP : ∀ (ps : List Int) {m : AM} {ln : List Int} {φ : Int → Option Nat}, J m ly ln lf N ps sp N φ A → sp ≤ m.old → (∀ p ∈ ps, ∃ t ∈ ln, p ∈ m.pl t) →
    ∃ ln' φ', J (AM.fwdP true ps m) ly ln' lf N [] sp N φ' A ∧ Grow m (AM.fwdP true ps m) ln ln' φ φ' ∧ (AM.fwdP true ps m).scan = m.scan ∧ (∀ x, x < m.old ∨ (AM.fwdP true ps m).old ≤ x → x ∉ ps → (AM.fwdP true ps m).word x = m.word x)
  | [], m, ln, φ, h, _, _ => ⟨ln, φ, h, Grow.refl .., rfl, fun _ _ _ => rfl⟩
  | p :: ps, m, ln, φ, h, hsp, hps => by
    obtain ⟨t, ht, hp⟩ := hps p (List.mem_cons_self ..)
    obtain ⟨ln1, φ1, h1, g1, s1, w1, _⟩ := h.fwdAt true (rl' := ps) (sp' := sp) (.inl ht) hp (fun _ => ⟨rfl, hsp⟩) (fun hq => by cases hq) (fun q hq hqq => by
      rcases hqq with g | g
      · rcases List.mem_cons.1 g with g | g
        · exact absurd g (hq rfl)
        · exact .inl g
      · exact .inr g)
    have ho := g1.old
    obtain ⟨ln2, φ2, h2, g2, s2, w2⟩ := J.fwdP ps h1 (by omega) (fun q hq => by
      obtain ⟨t', ht', hq'⟩ := hps q (List.mem_cons_of_mem _ hq)
      refine ⟨t', g1.sub ht', ?_⟩
      rw [g1.pl (.inl (by have := h.g.obd ht'; omega))]; exact hq')
    have ho2 := g2.old
    refine ⟨ln2, φ2, h2, g1.trans g2, s2.trans s1, fun x hx hxp => ?_⟩
    have hx' : x < m.old ∨ (AM.fwdP true ps (m.fwdAt true p)).old ≤ x := hx
    exact (w2 x (by omega) fun hq => hxp (List.mem_cons_of_mem _ hq)).trans (w1 x (by omega) fun hq => hxp (by rw [hq]; exact List.mem_cons_self ..))
/-- A list of words. -/
theorem J.fwdL (y : Bool) : ∀ (vs : List Int) {m : AM} {ln : List Int} {φ : Int → Option Nat}, J m ly ln lf N rl sp rs φ A → (y = true → rs = N ∧ sp ≤ m.old) → (y = false → rs = []) →
    (∀ v ∈ vs, m.ours y v = true → if y then v ∈ N else v ∈ lf) →
    ∃ ln' φ', J (AM.fwdL y vs m).2 ly ln' lf N rl sp rs φ' A ∧ Grow m (AM.fwdL y vs m).2 ln ln' φ φ' ∧ (AM.fwdL y vs m).2.scan = m.scan ∧ (∀ x, x < m.old ∨ (AM.fwdL y vs m).2.old ≤ x → (AM.fwdL y vs m).2.word x = m.word x) ∧
      (AM.fwdL y vs m).1.length = vs.length ∧ (∀ i (h : i < vs.length) (h' : i < (AM.fwdL y vs m).1.length), (if m.ours y vs[i] then (AM.fwdL y vs m).1[i] ∈ ln' else (AM.fwdL y vs m).1[i] = vs[i]) ∧ ∀ x, V φ vs[i] x → V φ' (AM.fwdL y vs m).1[i] x)
  | [], m, ln, φ, h, _, _, _ => ⟨ln, φ, h, Grow.refl .., rfl, fun _ _ => rfl, rfl, fun i hi => by simp at hi⟩
  | v :: vs, m, ln, φ, h, hy, hf, hv => by
    have hrs : rs = [] ∨ rs = N := by
      cases y with
      | true => exact .inr (hy rfl).1
      | false => exact .inl (hf rfl)
    obtain ⟨ln1, φ1, h1, g1, e1, i1, s1, p1⟩ := h.fwd y (fun ho => by
      have := hv v (List.mem_cons_self ..) ho
      cases y with
      | true => rw [(hy rfl).1]; simpa using this
      | false => simpa using this) (fun hq => (hy hq).2) hrs
    have ho := g1.old
    have hours : ∀ q, (m.fwd y v).2.ours y q = m.ours y q := fun q => by unfold AM.ours; rw [e1.isY, e1.isF]
    obtain ⟨ln2, φ2, h2, g2, s2, w2, len2, r2⟩ := J.fwdL y vs h1 (fun hq => ⟨(hy hq).1, by have := (hy hq).2; omega⟩) hf (fun q hq ho => hv q (List.mem_cons_of_mem _ hq) (by rw [← hours]; exact ho))
    have ho2 := g2.old
    have hlen : (AM.fwdL y (v :: vs) m).1 = (m.fwd y v).1 :: (AM.fwdL y vs (m.fwd y v).2).1 := rfl
    refine ⟨ln2, φ2, h2, g1.trans g2, s2.trans e1.scan, fun x hx => ?_, by rw [hlen]; simp [len2], fun i hi hi' => ?_⟩
    · have hx' : x < m.old ∨ (AM.fwdL y vs (m.fwd y v).2).2.old ≤ x := hx
      exact (w2 x (by omega)).trans (e1.word x (by omega))
    · cases i with
      | zero =>
        show (if m.ours y v then (m.fwd y v).1 ∈ ln2 else (m.fwd y v).1 = v) ∧ ∀ x, V φ v x → V φ2 (m.fwd y v).1 x
        refine ⟨?_, fun x hx => ?_⟩
        · split
          · rename_i hou
            exact g2.sub (i1 (by have := hv v (List.mem_cons_self ..) hou; exact this)).1
          · rename_i hou
            rw [s1 hou]
        · rcases hx with ⟨h3, h4⟩ | ⟨j, h3, h4⟩
          · left
            refine ⟨?_, h4⟩
            have hn0 : ¬ m.ours y v = true := fun hou => by
              have := hv v (List.mem_cons_self ..) hou
              have hn := h.g.notY0
              rw [h3] at this
              cases y with
              | true => exact hn.1 (h.g.NY _ (by simpa using this))
              | false => exact hn.2.2 (by simpa using this)
            rw [s1 hn0]; exact h3
          · exact .inr ⟨j, g2.le _ _ (p1 j h3), h4⟩
      | succ i =>
        have hi2 : i < vs.length := by simpa using hi
        obtain ⟨r3, r4⟩ := r2 i hi2 (by omega)
        rw [hours] at r3
        exact ⟨r3, fun x hx => r4 x (hx.mono g1.le)⟩
theorem Tl.next {sz : Int → Int} {hi : Int} : ∀ {l : List Int} {lo : Int}, Tl sz lo hi l → ∀ a ∈ l, a + sz a ∈ l ∨ a + sz a = hi
  | [], _, _, a, ha => by simp at ha
  | b :: l, lo, h, a, ha => by
    obtain ⟨h1, h2, h3⟩ := h
    rcases List.mem_cons.1 ha with h4 | h4
    · subst h4
      cases l with
      | nil => simp only [Tl] at h3; right; omega
      | cons c l => left; have := h3.1; rw [this, ← h1]; simp
    · rcases Tl.next h3 a h4 with h5 | h5
      · exact .inl (List.mem_cons_of_mem _ h5)
      · exact .inr h5
/-- New objects are looked through, from one of them on. -/
theorem J.look : ∀ (f : Nat) {m : AM} {ln : List Int} {φ : Int → Option Nat} {a : Int}, J m ly ln lf N [] a N φ A → (a ∈ ln ∨ a = m.old) → m.base + m.H ≤ a + f →
    ∃ ln' φ', J (AM.look true f a m) ly ln' lf N [] (AM.look true f a m).old N φ' A ∧ Grow m (AM.look true f a m) ln ln' φ φ' ∧ (AM.look true f a m).scan = m.scan ∧ (∀ x, x < a → (AM.look true f a m).word x = m.word x)
  | 0, m, ln, φ, a, h, ha, hf => by
    have h0 := h.g.oldle
    have he : a = m.old := by
      rcases ha with h1 | h1
      · have := h.g.obd h1; omega
      · exact h1
    subst he
    exact ⟨ln, φ, h, Grow.refl .., rfl, fun _ _ => rfl⟩
  | f + 1, m, ln, φ, a, h, ha, hf => by
    by_cases hlt : a < m.old
    · have ha' : a ∈ ln := ha.resolve_right (by omega)
      have hab := h.g.obd ha'
      have h' : J m ly ln lf N (m.pl a) (a + m.size a) N φ A := ⟨h.g.weak fun t ht p hp hq => by
        rcases hq with hq | hq
        · simp at hq
        · by_cases hpa : p < a + m.size a
          · left
            have hpb := pl_bd hp
            have := h.g.same (.inr (.inl ht)) (.inr (.inl ha')) (p := p) (by omega) (by omega) hq hpa
            subst this; exact hp
          · right; omega, h.s⟩
      obtain ⟨ln1, φ1, h1, g1, s1, w1⟩ := J.fwdP (m.pl a) h' (by omega) (fun p hp => ⟨a, ha', hp⟩)
      have ho := g1.old
      have hsz : (AM.fwdP true (m.pl a) m).size a = m.size a := g1.size (.inl hlt)
      have hnext : a + m.size a ∈ ln1 ∨ a + m.size a = (AM.fwdP true (m.pl a) m).old := by
        have := Tl.next h1.g.o.tl a (g1.sub ha')
        rw [hsz] at this; exact this
      have hb1 := g1.base
      obtain ⟨ln2, φ2, h2, g2, s2, w2⟩ := J.look f h1 hnext (by rw [hb1, g1.H]; omega)
      have he : AM.look true (f + 1) a m = AM.look true f (a + m.size a) (AM.fwdP true (m.pl a) m) := by
        show (if a < m.old then _ else _) = _
        rw [if_pos hlt]
      rw [he]
      refine ⟨ln2, φ2, h2, g1.trans g2, s2.trans s1, fun x hx => (w2 x (by omega)).trans (w1 x (by omega) fun hq => ?_)⟩
      have := pl_bd hq; omega
    · have he : AM.look true (f + 1) a m = m := by
        show (if a < m.old then _ else _) = _
        rw [if_neg hlt]
      have hae : a = m.old := by
        rcases ha with h1 | h1
        · have := h.g.obd h1; omega
        · exact h1
      rw [he, ← hae]
      exact ⟨ln, φ, h, Grow.refl .., rfl, fun _ _ => rfl⟩

/-! ### What is reached -/
theorem meet_sub {m : AM} {l : List Int} {t x : Int} (h : x ∈ l) : x ∈ m.meet l t := by unfold meet; split; exact List.mem_append_left _ h; exact h
theorem meet_has {m : AM} {l : List Int} {t : Int} (h : m.isY t = true) : t ∈ m.meet l t := by
  unfold meet; split
  · simp
  · rename_i hc; rw [h] at hc; simpa using hc
theorem meet_mem {m : AM} {l : List Int} {t x : Int} (h : x ∈ m.meet l t) : x ∈ l ∨ (x = t ∧ m.isY t = true) := by
  unfold meet at h
  split at h
  · rename_i hc
    rcases List.mem_append.1 h with h | h
    · exact .inl h
    · rw [Bool.and_eq_true] at hc
      exact .inr ⟨by simpa using h, hc.1⟩
  · exact .inl h
theorem meet_nodup {m : AM} {l : List Int} {t : Int} (h : l.Nodup) : (m.meet l t).Nodup := by
  unfold meet
  split
  · rename_i hc
    rw [Bool.and_eq_true] at hc
    have hn : t ∉ l := by simpa using hc.2
    exact List.nodup_append.2 ⟨h, by simp, fun x hx y hy e => by simp at hy; subst hy; exact hn (e ▸ hx)⟩
  · exact h
theorem meet_pre (m : AM) (l : List Int) (t : Int) : ∃ k, m.meet l t = l ++ k := by unfold meet; split; exact ⟨_, rfl⟩; exact ⟨[], by simp⟩
theorem meets_pre (m : AM) : ∀ (ts l : List Int), ∃ k, ts.foldl m.meet l = l ++ k
  | [], l => ⟨[], by simp⟩
  | t :: ts, l => by
    obtain ⟨k, hk⟩ := m.meet_pre l t
    obtain ⟨k', hk'⟩ := meets_pre m ts (m.meet l t)
    exact ⟨k ++ k', by rw [List.foldl_cons, hk', hk, List.append_assoc]⟩
theorem meets_nodup (m : AM) : ∀ (ts l : List Int), l.Nodup → (ts.foldl m.meet l).Nodup
  | [], _, h => h
  | t :: ts, l, h => meets_nodup m ts _ (meet_nodup h)
theorem meets_has (m : AM) {x : Int} (hx : m.isY x = true) : ∀ (ts l : List Int), x ∈ ts → x ∈ ts.foldl m.meet l
  | [], _, h => by simp at h
  | t :: ts, l, h => by
    rcases List.mem_cons.1 h with h | h
    · subst h
      obtain ⟨k, hk⟩ := meets_pre m ts (m.meet l x)
      rw [List.foldl_cons, hk]; exact List.mem_append_left _ (meet_has hx)
    · exact meets_has m hx ts _ h
theorem meets_mem (m : AM) {x : Int} : ∀ (ts l : List Int), x ∈ ts.foldl m.meet l → x ∈ l ∨ (x ∈ ts ∧ m.isY x = true)
  | [], _, h => .inl h
  | t :: ts, l, h => by
    rcases meets_mem m ts _ h with h | ⟨h1, h2⟩
    · rcases meet_mem h with h | ⟨h1, h2⟩
      · exact .inl h
      · exact .inr ⟨by rw [h1]; exact List.mem_cons_self .., by rw [h1]; exact h2⟩
    · exact .inr ⟨List.mem_cons_of_mem _ h1, h2⟩
theorem nodup_len {l k : List Int} (hl : l.Nodup) (hs : ∀ x ∈ l, x ∈ k) : l.length ≤ k.length := by
  induction l generalizing k with
  | nil => simp
  | cons a l ih =>
    rw [List.nodup_cons] at hl
    have ha := hs a (List.mem_cons_self ..)
    have h1 := ih hl.2 (k := k.erase a) fun x hx => (List.mem_erase_of_ne (fun e => hl.1 (by rw [← e]; exact hx))).2 (hs x (List.mem_cons_of_mem _ hx))
    rw [List.length_erase_of_mem ha] at h1
    have : 0 < k.length := List.length_pos_of_mem ha
    simp only [List.length_cons]; omega
/-- The closure: all that the met objects refer to is met. -/
theorem close_spec {ly : List Int} (hy : ∀ t ∈ ly, ∀ p ∈ m.pl t, m.isY (m.word p) = true → m.word p ∈ ly) : ∀ (f i : Nat) (l : List Int), ly.length < f + i → l.Nodup → (∀ t ∈ l, t ∈ ly) → i ≤ l.length → (∀ (j : Nat) (hj : j < l.length), j < i → ∀ p ∈ m.pl l[j], m.isY (m.word p) = true → m.word p ∈ l) →
    (∃ k, m.close f i l = l ++ k) ∧ (m.close f i l).Nodup ∧ (∀ t ∈ m.close f i l, t ∈ ly) ∧ ∀ t ∈ m.close f i l, ∀ p ∈ m.pl t, m.isY (m.word p) = true → m.word p ∈ m.close f i l
  | 0, i, l, hf, hn, hs, hi, _ => by have := nodup_len hn hs; omega
  | f + 1, i, l, hf, hn, hs, hi, hc => by
    unfold close
    by_cases h : i < l.length
    · rw [dif_pos h]
      obtain ⟨k, hk⟩ := m.meets_pre ((m.pl l[i]).map m.word) l
      have hget : ∀ (j : Nat) (hj : j < l.length) (hj' : j < (((m.pl l[i]).map m.word).foldl m.meet l).length), (((m.pl l[i]).map m.word).foldl m.meet l)[j] = l[j] := fun j hj hj' => by
        have : (((m.pl l[i]).map m.word).foldl m.meet l)[j]? = l[j]? := by rw [hk, List.getElem?_append_left hj]
        rw [List.getElem?_eq_getElem hj', List.getElem?_eq_getElem hj] at this
        injection this
      have := close_spec hy f (i + 1) (((m.pl l[i]).map m.word).foldl m.meet l) (by omega) (meets_nodup m _ _ hn) (fun t ht => by
          rcases meets_mem m _ _ ht with h1 | ⟨h1, h2⟩
          · exact hs t h1
          · obtain ⟨p, hp, rfl⟩ := List.mem_map.1 h1
            exact hy _ (hs _ (List.getElem_mem h)) p hp h2) (by rw [hk, List.length_append]; omega) (fun j hj hji p hp hY => by
          rcases Nat.lt_or_ge j i with h1 | h1
          · have hjl : j < l.length := by omega
            rw [hget j hjl] at hp
            have := hc j hjl h1 p hp hY
            rw [hk]; exact List.mem_append_left _ this
          · have hji' : j = i := by omega
            subst hji'
            rw [hget j h] at hp
            exact meets_has m hY _ _ (List.mem_map.2 ⟨p, hp, rfl⟩))
      obtain ⟨⟨k2, hk2⟩, h2, h3, h4⟩ := this
      exact ⟨⟨k ++ k2, by rw [hk2, hk, List.append_assoc]⟩, h2, h3, h4⟩
    · rw [dif_neg h]
      refine ⟨⟨[], by simp⟩, hn, hs, fun t ht p hp hY => ?_⟩
      obtain ⟨j, hj, rfl⟩ := List.getElem_of_mem ht
      exact hc j hj (by omega) p hp hY
end
end AM
end Go.Hm
namespace Go.Hm
namespace AM
/-- All is in order. -/
structure Good (m : AM) (ly ln lf : List Int) (φ : Int → Option Nat) (A : Store) : Prop where
  g : Gd m ly ln lf ly m.remP (m.base + m.H) []
  s : Sim m ly ln lf φ A
  ym : ∀ t, m.moved t ≠ 0 → t ∈ lf
  rm : ∀ k ∈ m.rem, k.1 ∈ ln ∧ ∃ j : Nat, k.2 = j ∧ (m.row k.1)[j]? = some true
  rn : m.rem.Nodup
section
variable {m : AM} {ly ln lf N rl rs : List Int} {sp a : Int} {φ : Int → Option Nat} {A : Store}
theorem Tl.split {sz : Int → Int} {hi : Int} : ∀ {l : List Int} {lo : Int} {k : List Int}, Tl sz lo hi (l ++ k) → ∃ mid, Tl sz lo mid l ∧ Tl sz mid hi k
  | [], lo, k, h => ⟨lo, rfl, h⟩
  | a :: l, lo, k, h => by
    obtain ⟨h1, h2, h3⟩ := h
    obtain ⟨mid, h4, h5⟩ := Tl.split h3
    exact ⟨mid, ⟨h1, h2, h4⟩, h5⟩
theorem Grow.at_old {m m' : AM} {ly ln ln' lf N rl rs rl' rs' N' : List Int} {sp sp' : Int} {φ φ' : Int → Option Nat} (h : Gd m ly ln lf N rl sp rs) (h' : Gd m' ly ln' lf N' rl' sp' rs') (g : Grow m m' ln ln' φ φ') : m.old ∈ ln' ∨ m.old = m'.old := by
  obtain ⟨k, hk⟩ := g.ln
  have h1 := h'.o.tl
  rw [hk] at h1
  obtain ⟨mid, h2, h3⟩ := Tl.split h1
  have h4 : Tl m.size m.base mid ln := by
    rw [g.base] at h2
    exact h2.congr fun t ht => (g.size (.inl (by have := h.obd ht; omega))).symm
  have h5 := h4.sum
  have h6 := h.o.tl.sum
  have : mid = m.old := by omega
  subst this
  cases k with
  | nil => simp only [Tl] at h3; exact .inr h3
  | cons b k => left; rw [hk, h3.1]; simp
theorem Good.word_y (h : Good m ly ln lf φ A) {t p : Int} (ht : t ∈ ly) (hp : p ∈ m.pl t) (hY : m.isY (m.word p) = true) : m.word p ∈ ly := by
  rcases h.g.wy t ht p hp with g | g | g
  · rw [h.g.isYn (.inl g)] at hY; cases hY
  · exact g
  · rw [h.g.isYn (.inr (.inl g))] at hY; cases hY
theorem Good.root_y (h : Good m ly ln lf φ A) {r : Int} (hr : r = 0 ∨ r ∈ ly ∨ r ∈ ln) (hY : m.isY r = true) : r ∈ ly := by
  rcases hr with g | g | g
  · rw [h.g.isYn (.inl g)] at hY; cases hY
  · exact g
  · rw [h.g.isYn (.inr (.inl g))] at hY; cases hY
theorem Good.remP_mem (h : Good m ly ln lf φ A) {p : Int} (hp : p ∈ m.remP) : ∃ t ∈ ln, p ∈ m.pl t := by
  obtain ⟨k, hk, rfl⟩ := List.mem_map.1 hp
  obtain ⟨h1, j, h2, h3⟩ := h.rm k hk
  exact ⟨k.1, h1, mem_pl.2 ⟨j, h3, by rw [h2]⟩⟩
theorem Good.rem_y (h : Good m ly ln lf φ A) {p : Int} (hp : p ∈ m.remP) (hY : m.isY (m.word p) = true) : m.word p ∈ ly := by
  obtain ⟨t, ht, hp'⟩ := h.remP_mem hp
  rcases h.g.wo t ht p hp' with g | g | g | g
  · rw [h.g.isYn (.inl g)] at hY; cases hY
  · rw [h.g.isYn (.inr (.inl g))] at hY; cases hY
  · exact g.1
  · rw [h.g.isYn (.inr (.inr g.1))] at hY; cases hY
theorem Good.ylen (h : Good m ly ln lf φ A) : ly.length ≤ m.Y.toNat := by
  have h1 : (ly.length : Int) ≤ AM.sum m.size ly := by
    have : ∀ l : List Int, (l.length : Int) ≤ AM.sum m.size l := by
      intro l
      induction l with
      | nil => simp [AM.sum]
      | cons a l ih => rw [sum_cons]; have := m.size_pos a; simp only [List.length_cons]; omega
    exact this ly
  have h2 := h.g.y.tl.sum
  have := h.g.yl
  omega
structure Reach (m : AM) (ly : List Int) (roots N : List Int) : Prop where
  nd : N.Nodup
  sub : ∀ t ∈ N, t ∈ ly
  cl : ∀ t ∈ N, ∀ p ∈ m.pl t, m.isY (m.word p) = true → m.word p ∈ N
  ro : ∀ r ∈ roots, m.isY r = true → r ∈ N
  re : ∀ p ∈ m.remP, m.isY (m.word p) = true → m.word p ∈ N
theorem Good.reach (h : Good m ly ln lf φ A) {roots : List Int} (hr : ∀ r ∈ roots, r = 0 ∨ r ∈ ly ∨ r ∈ ln) : Reach m ly roots (m.reach roots) := by
  have hl := h.ylen
  have hn1 := meets_nodup m roots [] List.nodup_nil
  have hn2 := meets_nodup m (m.remP.map m.word) _ hn1
  obtain ⟨⟨k, hk⟩, h2, h3, h4⟩ := close_spec (m := m) (ly := ly) (fun t ht p hp hY => h.word_y ht hp hY) (m.Y.toNat + 1) 0 ((m.remP.map m.word).foldl m.meet (roots.foldl m.meet [])) (by omega) hn2 (fun t ht => by
    rcases meets_mem m _ _ ht with g | ⟨g, g2⟩
    · rcases meets_mem m _ _ g with g | ⟨g, g2⟩
      · simp at g
      · exact h.root_y (hr t g) g2
    · obtain ⟨p, hp, rfl⟩ := List.mem_map.1 g
      exact h.rem_y hp g2) (by omega) (fun j hj hj0 => by omega)
  refine ⟨h2, h3, h4, fun r hr' hY => ?_, fun p hp hY => ?_⟩
  · unfold AM.reach; rw [hk]
    obtain ⟨k2, hk2⟩ := m.meets_pre (m.remP.map m.word) (roots.foldl m.meet [])
    rw [hk2]
    exact List.mem_append_left _ (List.mem_append_left _ (meets_has m hY _ _ hr'))
  · unfold AM.reach; rw [hk]
    exact List.mem_append_left _ (meets_has m hY _ _ (List.mem_map.2 ⟨p, hp, rfl⟩))
theorem Good.usum_reach (h : Good m ly ln lf φ A) {roots N : List Int} (hN : Reach m ly roots N) : m.usum N = AM.sum m.size N :=
  sum_congr fun a ha => by
    unfold us
    rw [if_pos]
    by_cases hm : m.moved a = 0
    · exact hm
    · exact absurd (hN.sub a ha) (h.g.fy (h.ym a hm))
/-- Before Minor. -/
theorem Good.start (h : Good m ly ln lf φ A) {roots N : List Int} (hN : Reach m ly roots N) (hroom : AM.sum m.size N ≤ m.base + m.H - m.old - m.left) : J m ly ln lf N m.remP m.old N φ A := by
  have h0 := h.g.oldle
  refine ⟨⟨h.g.sz, h.g.y, h.g.yl, h.g.o, h.g.f, h.g.hn, h.g.nb, h.g.left, ?_, h.g.sc, fun t ht => ?_, h.g.mi, h.g.wy, fun t ht p hp hw => ?_, hN.sub, hN.nd, fun t ht p hp => ?_, h.g.wf, h.g.fz⟩, h.s⟩
  · rw [h.usum_reach hN]; omega
  · obtain ⟨h1, h2, h3⟩ := h.g.mv t ht
    exact ⟨.inr (h.ym t ht), h2, h3⟩
  · exact hN.cl t ht p hp (by rw [isY_iff']; have := h.g.ybd hw; have := h.g.yl; omega)
  · rcases h.g.wo t ht p hp with g | g | ⟨g, g2⟩ | g
    · exact .inl g
    · exact .inr (.inl g)
    · have hpb := pl_bd hp
      have := h.g.obd ht
      have hpr : p ∈ m.remP := g2.resolve_right (by omega)
      exact .inr (.inr (.inl ⟨hN.re p hpr (by rw [isY_iff']; have := h.g.ybd g; have := h.g.yl; omega), .inl hpr⟩))
    · exact .inr (.inr (.inr g))
/-- The young space is emptied. -/
def young0 (m : AM) : AM := { m.clear 1 m.Y with new := 1, rem := [] }
theorem clear_other {m : AM} {lo n x : Int} (h : x < lo ∨ lo + n ≤ x) : (m.clear lo n).word x = m.word x ∧ (m.clear lo n).head x = m.head x ∧ (m.clear lo n).moved x = m.moved x := by
  have : ¬ ((decide (lo ≤ x) && decide (x < lo + n)) = true) := by simp; omega
  refine ⟨if_neg this, if_neg this, if_neg this⟩
theorem clear_in {m : AM} {lo n x : Int} (h : lo ≤ x) (h' : x < lo + n) : (m.clear lo n).word x = 0 ∧ (m.clear lo n).head x = 0 ∧ (m.clear lo n).moved x = 0 := by
  have : ((decide (lo ≤ x) && decide (x < lo + n)) = true) := by simp; omega
  refine ⟨if_pos this, if_pos this, if_pos this⟩
theorem J.young0 (h : J m ly ln lf N [] m.old N φ A) (hb : ∀ t, m.moved t ≠ 0 → t ∈ ly ∨ t ∈ lf) : Good m.young0 [] ln lf (fun t => if t ∈ ly then none else φ t) A := by
  have h0 := h.g.oldle; have hb' := m.base_former; have hY := h.g.sz.Y0; have hH := h.g.sz.H0
  have hout : ∀ {t p : Int}, t ∈ ln ∨ t ∈ lf → t ≤ p → p < t + m.size t → p < 1 ∨ 1 + m.Y ≤ p := fun {t p} ht h1 h2 => by
    rcases ht with ht | ht
    · have := h.g.obd ht; omega
    · have := h.g.fbd ht; omega
  have hrow : ∀ {t : Int}, t ∈ ln ∨ t ∈ lf → m.young0.row t = m.row t := fun {t} ht => by
    show m.sh.getD ((m.clear 1 m.Y).head t - 1).toNat [] = _
    rw [(clear_other (hout ht (Int.le_refl _) (by have := m.size_pos t; omega))).2.1]; rfl
  have hsz : ∀ {t : Int}, t ∈ ln ∨ t ∈ lf → m.young0.size t = m.size t := fun {t} ht => by unfold size; rw [hrow ht]
  have hpl : ∀ {t : Int}, t ∈ ln ∨ t ∈ lf → m.young0.pl t = m.pl t := fun {t} ht => by unfold pl; rw [hrow ht]
  have hhd : ∀ {t : Int}, t ∈ ln ∨ t ∈ lf → m.young0.head t = m.head t := fun {t} ht => (clear_other (hout ht (Int.le_refl _) (by have := m.size_pos t; omega))).2.1
  have hmv : ∀ {t : Int}, t ∈ ln ∨ t ∈ lf → m.young0.moved t = m.moved t := fun {t} ht => (clear_other (hout ht (Int.le_refl _) (by have := m.size_pos t; omega))).2.2
  have hwd : ∀ {t p : Int}, t ∈ ln ∨ t ∈ lf → p ∈ m.pl t → m.young0.word p = m.word p := fun {t p} ht hp => (clear_other (hout ht (by have := pl_bd hp; omega) (pl_bd hp).2)).1
  have hgt : ∀ x, x < 1 ∨ 1 + m.Y ≤ x → m.young0.head x = m.head x ∧ m.young0.moved x = m.moved x := fun x hx => ⟨(clear_other hx).2.1, (clear_other hx).2.2⟩
  have hmz : ∀ t, m.young0.moved t ≠ 0 → t ∈ lf ∧ m.young0.moved t = m.moved t := fun t ht => by
    by_cases hin : 1 ≤ t ∧ t < 1 + m.Y
    · exact absurd (clear_in hin.1 hin.2).2.2 ht
    · have he := (hgt t (by omega)).2
      rw [he] at ht
      refine ⟨?_, he⟩
      rcases hb t ht with h1 | h1
      · have := h.g.ybd h1; have := h.g.yl; omega
      · exact h1
  have hwo : ∀ t ∈ ln, ∀ p ∈ m.pl t, m.word p = 0 ∨ m.word p ∈ ln ∨ (m.word p ∈ lf ∧ m.scan ≤ p) := fun t ht p hp => by
    rcases h.g.wo t ht p hp with g | g | ⟨g, g2⟩ | g
    · exact .inl g
    · exact .inr (.inl g)
    · have := pl_bd hp; have := h.g.obd ht
      rcases g2 with g2 | g2
      · simp at g2
      · omega
    · exact .inr (.inr g)
  obtain ⟨fe, hf1, hf2⟩ := h.g.f
  have hny : ∀ {w : Int}, w = 0 ∨ w ∈ ln ∨ w ∈ lf → w ∉ ly := fun {w} hw hy => by
    rcases hw with g | g | g
    · rw [g] at hy; exact h.g.notY0.1 hy
    · exact h.g.oy g hy
    · exact h.g.fy g hy
  have hVr : ∀ {w x : Int}, V φ w x → w ∉ ly → V (fun t => if t ∈ ly then none else φ t) w x := fun {w x} hv hw => by
    rcases hv with hv | ⟨j, h1, h2⟩
    · exact .inl hv
    · exact .inr ⟨j, by show (if w ∈ ly then none else φ w) = some j; rw [if_neg hw]; exact h1, h2⟩
  refine ⟨⟨⟨h.g.sz.Y0, h.g.sz.Y1, h.g.sz.H0, h.g.sz.H1, h.g.sz.n, h.g.sz.w⟩, ⟨rfl, fun t h1 h2 => ?_, fun t ht => by simp at ht⟩, by show (1 : Int) ≤ m.Y + 1; omega, ⟨?_, fun t h1 h2 => ?_, fun t ht => ?_⟩, ⟨fe, hf1, ?_, fun t h1 h2 => ?_, fun t ht => ?_⟩, fun t => ?_, h.g.nb, ?_, ?_, h.g.sc, fun t ht => ?_, fun t t' he ht => ?_, fun t ht => by simp at ht, fun t ht => by simp at ht, fun t ht => by simp at ht, List.nodup_nil, fun t ht p hp => ?_, fun t ht p hp => ?_, fun t h1 h2 => ?_⟩, ⟨fun t i hi => ?_, fun t i hi => ?_, fun t i hi hm => ?_, fun t t' i hi hi' hm hm' => ?_⟩, fun t ht => (hmz t ht).1, fun k hk => by simp [AM.young0] at hk, List.nodup_nil⟩
  · have h2' : t ≤ m.Y := h2
    have : m.young0.head t = 0 := (clear_in (m := m) (lo := 1) (n := m.Y) h1 (by omega)).2.1
    rw [this]; simp
  · exact h.g.o.tl.congr fun t ht => hsz (.inl ht)
  · have h1' : m.base ≤ t := h1
    rw [(hgt t (by omega)).1]; exact h.g.o.hd t h1 h2
  · rw [hhd (.inl ht)]; exact h.g.o.ok t ht
  · exact hf2.tl.congr fun t ht => hsz (.inr ht)
  · have h1' : m.former ≤ t := h1
    rw [(hgt t (by omega)).1]; exact hf2.hd t h1 h2
  · rw [hhd (.inr ht)]; exact hf2.ok t ht
  · by_cases hin : 1 ≤ t ∧ t < 1 + m.Y
    · rw [show m.young0.head t = 0 from (clear_in hin.1 hin.2).2.1]; omega
    · rw [(hgt t (by omega)).1]; exact h.g.hn t
  · show m.left = _
    rw [h.g.left]
    exact (sum_congr fun a ha => by unfold us; rw [hmv (.inr ha), hsz (.inr ha)]).symm
  · show m.old + m.left + AM.usum _ [] ≤ m.base + m.H
    have : m.young0.usum [] = 0 := rfl
    rw [this]; omega
  · obtain ⟨h1, h2⟩ := hmz t ht
    rw [h2] at ht ⊢
    obtain ⟨_, h4, h5⟩ := h.g.mv t ht
    exact ⟨.inr h1, h4, by rw [hhd (.inl h4), hhd (.inr h1)]; exact h5⟩
  · obtain ⟨h1, h2⟩ := hmz t ht
    have ht2 := ht
    rw [he] at ht2
    obtain ⟨h3, h4⟩ := hmz t' ht2
    rw [h2] at he ht
    rw [h4] at he
    exact h.g.mi t t' he ht
  · rw [hpl (.inl ht)] at hp
    rw [hwd (.inl ht) hp]
    rcases hwo t ht p hp with g | g | g
    · exact .inl g
    · exact .inr (.inl g)
    · exact .inr (.inr (.inr g))
  · rw [hpl (.inr ht)] at hp
    rw [hwd (.inr ht) hp]
    exact h.g.wf t ht p hp
  · have h1' : (1 : Int) ≤ t := h1
    have h2' : t ≤ m.Y := h2
    exact (clear_in (m := m) (lo := 1) (n := m.Y) h1 (by omega)).1
  · by_cases hty : t ∈ ly
    · rw [if_pos hty] at hi; cases hi
    · rw [if_neg hty] at hi
      rcases h.s.dom t i hi with g | g
      · exact absurd g hty
      · exact .inr g
  · by_cases hty : t ∈ ly
    · rw [if_pos hty] at hi; cases hi
    · rw [if_neg hty] at hi
      have hd := (h.s.dom t i hi).resolve_left hty
      obtain ⟨fs, h1, h2, h3⟩ := h.s.shp t i hi
      refine ⟨fs, by rw [hhd hd]; exact h1, by rw [hrow hd]; exact h2, fun hm k hk => ?_⟩
      rw [hmv hd] at hm
      have h4 := h3 hm k hk
      have hkw : m.young0.word (t + 1 + k) = m.word (t + 1 + k) := (clear_other (hout hd (by omega) (by unfold size; omega))).1
      rw [hrow hd, hkw]
      split
      · rename_i hr
        rw [if_pos hr] at h4
        refine hVr h4 ?_
        have hkl : k < (m.row t).length := by omega
        have hp : t + 1 + (k : Int) ∈ m.pl t := mem_pl.2 ⟨k, by rw [List.getElem?_eq_getElem hkl]; simpa [List.getD_eq_getElem?_getD, hkl] using hr, rfl⟩
        rcases hd with hd | hd
        · exact hny (by rcases hwo t hd _ hp with g | g | g; exact .inl g; exact .inr (.inl g); exact .inr (.inr g.1))
        · exact hny (by rcases h.g.wf t hd _ hp with g | g; exact .inl g; exact .inr (.inr g))
      · rename_i hr; rw [if_neg hr] at h4; exact h4
  · by_cases hty : t ∈ ly
    · rw [if_pos hty] at hi; cases hi
    · rw [if_neg hty] at hi
      obtain ⟨h1, h2⟩ := hmz t hm
      rw [h2] at hm ⊢
      rw [if_neg (h.g.oy (h.g.mv t hm).2.1)]
      exact h.s.mvd t i hi hm
  · by_cases hty : t ∈ ly
    · rw [if_pos hty] at hi; cases hi
    · by_cases hty' : t' ∈ ly
      · rw [if_pos hty'] at hi'; cases hi'
      · rw [if_neg hty] at hi
        rw [if_neg hty'] at hi'
        have hd := (h.s.dom t i hi).resolve_left hty
        have hd' := (h.s.dom t' i hi').resolve_left hty'
        rw [hmv hd] at hm
        rw [hmv hd'] at hm'
        exact h.s.inj t t' i hi hi' hm hm'
/-- What holds of roots behind something. -/
def Roots (ln : List Int) (φ φ' : Int → Option Nat) (a b : List Int) : Prop := b.length = a.length ∧ ∀ i (h : i < a.length) (h' : i < b.length), (b[i] = 0 ∨ b[i] ∈ ln) ∧ ∀ x, V φ a[i] x → V φ' b[i] x
theorem Good.minorRun (h : Good m ly ln lf φ A) {roots : List Int} (hr : ∀ r ∈ roots, r = 0 ∨ r ∈ ly ∨ r ∈ ln) (hroom : m.needed roots ≤ m.base + m.H - m.old - m.left) :
    ∃ ln' φ', Good (m.minorRun roots).2 [] ln' lf φ' A ∧ Roots ln' φ φ' roots (m.minorRun roots).1 ∧ (m.minorRun roots).2.sh = m.sh ∧ (m.minorRun roots).2.Y = m.Y ∧ (m.minorRun roots).2.H = m.H ∧ (m.minorRun roots).2.up = m.up ∧ (m.minorRun roots).2.busy = m.busy ∧
      (m.minorRun roots).2.new = 1 ∧ m.old ≤ (m.minorRun roots).2.old ∧ (m.minorRun roots).2.scan = m.scan := by
  have hN := h.reach hr
  have hJ := h.start hN hroom
  have h0 := h.g.oldle
  obtain ⟨ln1, φ1, h1, g1, s1, w1, len1, r1⟩ := hJ.fwdL true roots (fun _ => ⟨rfl, Int.le_refl _⟩) (fun hq => by cases hq) (fun v hv ho => hN.ro v hv ho)
  have ho1 := g1.old
  obtain ⟨ln2, φ2, h2, g2, s2, w2⟩ := J.fwdP m.remP h1 ho1 (fun p hp => by
    obtain ⟨t, ht, hp'⟩ := h.remP_mem hp
    exact ⟨t, g1.sub ht, by rw [g1.pl (.inl (by have := h.g.obd ht; omega))]; exact hp'⟩)
  have g12 := g1.trans g2
  obtain ⟨ln3, φ3, h3, g3, s3, w3⟩ := J.look m.H.toNat h2 (Grow.at_old h.g h2.g g12) (by rw [g12.base, g12.H]; have := h.g.sz.H0; omega)
  have g13 := g12.trans g3
  have hG := h3.young0 (fun t ht => ((h3.g.mv t ht).1).imp (h3.g.NY t) id)
  have he : (m.minorRun roots).2 = (AM.look true m.H.toNat m.old (AM.fwdP true m.remP (AM.fwdL true roots m).2)).young0 := rfl
  refine ⟨ln3, fun t => if t ∈ ly then none else φ3 t, by rw [he]; exact hG, ⟨len1, fun i hi hi' => ?_⟩, g13.sh, g13.Y, g13.H, g13.up, g13.busy, rfl, g13.old, s3.trans (s2.trans s1)⟩
  obtain ⟨r2, r3⟩ := r1 i hi hi'
  have hri := hr _ (List.getElem_mem hi)
  have hb : (AM.fwdL true roots m).1[i] = 0 ∨ (AM.fwdL true roots m).1[i] ∈ ln3 := by
    by_cases ho : m.ours true roots[i] = true
    · rw [if_pos ho] at r2; exact .inr (g3.sub (g2.sub r2))
    · rw [if_neg ho] at r2
      rw [r2]
      rcases hri with g | g | g
      · exact .inl g
      · exfalso; apply ho; show m.isY _ = true; rw [isY_iff']; have := h.g.ybd g; have := h.g.yl; omega
      · exact .inr (g13.sub g)
  refine ⟨hb, fun x hx => ?_⟩
  have hv := (r3 x hx).mono (g2.le.trans g3.le)
  have hny : (AM.fwdL true roots m).1[i] ∉ ly := fun hy => by
    rcases hb with g | g
    · rw [g] at hy; exact h.g.notY0.1 hy
    · exact h3.g.oy g hy
  rcases hv with hv | ⟨j, e1, e2⟩
  · exact .inl hv
  · exact .inr ⟨j, by show (if (AM.fwdL true roots m).1[i] ∈ ly then none else φ3 (AM.fwdL true roots m).1[i]) = some j; rw [if_neg hny]; exact e1, e2⟩
end
end AM
end Go.Hm
