/-
  Closed facts on the types, fields and functions of this seat, each reckoned by the kernel (printed by a program: facts.py). No condition.
  A row that a slice owns, opened and shut. Generic: nothing of the program is named here. No condition.
  Rows of elements: rows that are only read (Row), rows that are owned, wherever they begin (VR); contracts over many resources as one. Generic: nothing of the program is named here. No condition.
  Rules over rows of elements: loads, stores, slices, append; a row of which one element is looked at; a list of resources of which one is looked at. Generic: nothing of the program is named here. No condition.
  The yard in the machine's memory: as data that is read (yardR), and as rows that are owned (YO, YS). Nothing of the program but its types' numbers is named here. No condition.
-/
import Derived.Test.YtboepbencndobaaGreatRows
import Derived.Test.YtboepbencndobaaGreatM2
import Derived.ArgAppend
import Derived.Test.YtboepbencndobaaGreatM3
set_option linter.unusedVariables false
set_option linter.unusedSimpArgs false
namespace Go.Proofs.YtboepbencndobaaGreat
open Go.Ck
namespace Fx
theorem mixed : Tryz.prog.follows .mixedOrders = true := by kernel_rfl
theorem sz3 : Sz Tryz.prog 3 1 := fun _ => by kernel_rfl
theorem sz4 : Sz Tryz.prog 4 1 := fun _ => by kernel_rfl
theorem sz22 : Sz Tryz.prog 22 1 := fun _ => by kernel_rfl
theorem sz25 : Sz Tryz.prog 25 1 := fun _ => by kernel_rfl
theorem sz27 : Sz Tryz.prog 27 2 := fun _ => by kernel_rfl
theorem sz28 : Sz Tryz.prog 28 1 := fun _ => by kernel_rfl
theorem sz32 : Sz Tryz.prog 32 3 := fun _ => by kernel_rfl
theorem sz43 : Sz Tryz.prog 43 1 := fun _ => by kernel_rfl
theorem sz62 : Sz Tryz.prog 62 1 := fun _ => by kernel_rfl
theorem sz73 : Sz Tryz.prog 73 1 := fun _ => by kernel_rfl
theorem sz74 : Sz Tryz.prog 74 1 := fun _ => by kernel_rfl
theorem sz75 : Sz Tryz.prog 75 1 := fun _ => by kernel_rfl
theorem sz77 : Sz Tryz.prog 77 9 := fun _ => by kernel_rfl
theorem sz79 : Sz Tryz.prog 79 2 := fun _ => by kernel_rfl
theorem sz81 : Sz Tryz.prog 81 5 := fun _ => by kernel_rfl
theorem sz92 : Sz Tryz.prog 92 1 := fun _ => by kernel_rfl
theorem sz96 : Sz Tryz.prog 96 2 := fun _ => by kernel_rfl
theorem sz108 : Sz Tryz.prog 108 1 := fun _ => by kernel_rfl
theorem sz110 : Sz Tryz.prog 110 3 := fun _ => by kernel_rfl
theorem sz117 : Sz Tryz.prog 117 2 := fun _ => by kernel_rfl
theorem sz118 : Sz Tryz.prog 118 1 := fun _ => by kernel_rfl
theorem sz120 : Sz Tryz.prog 120 5 := fun _ => by kernel_rfl
theorem sz161 : Sz Tryz.prog 161 4 := fun _ => by kernel_rfl
theorem sz179 : Sz Tryz.prog 179 1 := fun _ => by kernel_rfl
theorem sz187 : Sz Tryz.prog 187 1 := fun _ => by kernel_rfl
theorem sz188 : Sz Tryz.prog 188 1 := fun _ => by kernel_rfl
theorem sl22 : SlE Tryz.prog 22 108 1 := ⟨Tryz.underlying22, sz108⟩
theorem sl25 : SlE Tryz.prog 25 77 9 := ⟨Tryz.underlying25, sz77⟩
theorem sl43 : SlE Tryz.prog 43 3 1 := ⟨Tryz.underlying43, sz3⟩
theorem sl54 : SlE Tryz.prog 54 62 1 := ⟨Tryz.underlying54, sz62⟩
theorem sl62 : SlE Tryz.prog 62 81 5 := ⟨Tryz.underlying62, sz81⟩
theorem sl73 : SlE Tryz.prog 73 120 5 := ⟨Tryz.underlying73, sz120⟩
theorem sl74 : SlE Tryz.prog 74 79 2 := ⟨Tryz.underlying74, sz79⟩
theorem sl75 : SlE Tryz.prog 75 161 4 := ⟨Tryz.underlying75, sz161⟩
theorem sl92 : SlE Tryz.prog 92 74 1 := ⟨Tryz.underlying92, sz74⟩
theorem sl108 : SlE Tryz.prog 108 110 3 := ⟨Tryz.underlying108, sz110⟩
theorem sl118 : SlE Tryz.prog 118 117 2 := ⟨Tryz.underlying118, sz117⟩
theorem mp200 : MpT Tryz.prog 200 3 199 := ⟨Tryz.underlying200, Tryz.underlying3⟩
theorem inf3 : Inf Tryz.prog 3 (.int .i64 0) 1 8 := by unfold Inf; kernel_rfl
theorem inf28 : Inf Tryz.prog 28 (.int .i64 0) 1 8 := by unfold Inf; kernel_rfl
theorem inf62 : Inf Tryz.prog 62 (.slice none 0 0) 1 24 := by unfold Inf; kernel_rfl
theorem inf74 : Inf Tryz.prog 74 (.slice none 0 0) 1 24 := by unfold Inf; kernel_rfl
theorem inf77 : Inf Tryz.prog 77 (.agg #[.slice none 0 0, .slice none 0 0, .int .i64 0, .int .i64 0, .bool false, .slice none 0 0, .int .i64 0, .int .i64 0, .slice none 0 0]) 9 136 := by unfold Inf; kernel_rfl
theorem inf79 : Inf Tryz.prog 79 (.agg #[.int .i64 0, .int .i64 0]) 2 16 := by unfold Inf; kernel_rfl
theorem inf81 : Inf Tryz.prog 81 (.agg #[.int .i64 0, .int .i64 0, .int .i64 0, .bool false, .bool false]) 5 32 := by unfold Inf; kernel_rfl
theorem inf108 : Inf Tryz.prog 108 (.slice none 0 0) 1 24 := by unfold Inf; kernel_rfl
theorem inf110 : Inf Tryz.prog 110 (.agg #[.int .i64 0, .int .i64 0, .int .i64 0]) 3 24 := by unfold Inf; kernel_rfl
theorem inf117 : Inf Tryz.prog 117 (.agg #[.int .i64 0, .bool false]) 2 16 := by unfold Inf; kernel_rfl
theorem inf120 : Inf Tryz.prog 120 (.agg #[.int .i64 0, .int .i64 0, .slice none 0 0, .bool false, .bool false]) 5 48 := by unfold Inf; kernel_rfl
theorem inf161 : Inf Tryz.prog 161 (.agg #[.int .i64 0, .int .i64 0, .int .i64 0, .bool false]) 4 32 := by unfold Inf; kernel_rfl
theorem inf199 : Inf Tryz.prog 199 (.nilFunc) 1 8 := by unfold Inf; kernel_rfl
theorem pt202 : PtT Tryz.prog 202 120 := Tryz.underlying202
theorem ld3 : Ld1 Tryz.prog 3 := Ld1.of Tryz.underlying3 rfl
theorem ld4 : Ld1 Tryz.prog 4 := Ld1.of Tryz.underlying4 rfl
theorem ld22 : Ld1 Tryz.prog 22 := Ld1.of Tryz.underlying22 rfl
theorem ld25 : Ld1 Tryz.prog 25 := Ld1.of Tryz.underlying25 rfl
theorem ld27 : LdN Tryz.prog 27 2 := LdN.of Tryz.underlying27 sz27
theorem ld28 : Ld1 Tryz.prog 28 := Ld1.of Tryz.underlying28 rfl
theorem ld32 : LdN Tryz.prog 32 3 := LdN.of Tryz.underlying32 sz32
theorem ld43 : Ld1 Tryz.prog 43 := Ld1.of Tryz.underlying43 rfl
theorem ld62 : Ld1 Tryz.prog 62 := Ld1.of Tryz.underlying62 rfl
theorem ld63 : Ld1 Tryz.prog 63 := Ld1.of Tryz.underlying63 rfl
theorem ld73 : Ld1 Tryz.prog 73 := Ld1.of Tryz.underlying73 rfl
theorem ld74 : Ld1 Tryz.prog 74 := Ld1.of Tryz.underlying74 rfl
theorem ld75 : Ld1 Tryz.prog 75 := Ld1.of Tryz.underlying75 rfl
theorem ld77 : LdN Tryz.prog 77 9 := LdN.of Tryz.underlying77 sz77
theorem ld79 : LdN Tryz.prog 79 2 := LdN.of Tryz.underlying79 sz79
theorem ld81 : LdN Tryz.prog 81 5 := LdN.of Tryz.underlying81 sz81
theorem ld92 : Ld1 Tryz.prog 92 := Ld1.of Tryz.underlying92 rfl
theorem ld96 : LdN Tryz.prog 96 2 := LdN.of Tryz.underlying96 sz96
theorem ld108 : Ld1 Tryz.prog 108 := Ld1.of Tryz.underlying108 rfl
theorem ld110 : LdN Tryz.prog 110 3 := LdN.of Tryz.underlying110 sz110
theorem ld117 : LdN Tryz.prog 117 2 := LdN.of Tryz.underlying117 sz117
theorem ld118 : Ld1 Tryz.prog 118 := Ld1.of Tryz.underlying118 rfl
theorem ld120 : LdN Tryz.prog 120 5 := LdN.of Tryz.underlying120 sz120
theorem ld123 : Ld1 Tryz.prog 123 := Ld1.of Tryz.underlying123 rfl
theorem ld126 : Ld1 Tryz.prog 126 := Ld1.of Tryz.underlying126 rfl
theorem ld149 : Ld1 Tryz.prog 149 := Ld1.of Tryz.underlying149 rfl
theorem ld161 : LdN Tryz.prog 161 4 := LdN.of Tryz.underlying161 sz161
theorem ld168 : Ld1 Tryz.prog 168 := Ld1.of Tryz.underlying168 rfl
theorem ld177 : Ld1 Tryz.prog 177 := Ld1.of Tryz.underlying177 rfl
theorem ld179 : LdN Tryz.prog 179 1 := LdN.of Tryz.underlying179 sz179
theorem ld187 : Ld1 Tryz.prog 187 := Ld1.of Tryz.underlying187 rfl
theorem ld188 : Ld1 Tryz.prog 188 := Ld1.of Tryz.underlying188 rfl
theorem ld190 : Ld1 Tryz.prog 190 := Ld1.of Tryz.underlying190 rfl
theorem ld191 : Ld1 Tryz.prog 191 := Ld1.of Tryz.underlying191 rfl
theorem ld192 : Ld1 Tryz.prog 192 := Ld1.of Tryz.underlying192 rfl
theorem ld205 : Ld1 Tryz.prog 205 := Ld1.of Tryz.underlying205 rfl
theorem fa27_0 : Fa Tryz.prog 27 0 0 := fun _ _ _ => by kernel_rfl
theorem fa27_1 : Fa Tryz.prog 27 1 1 := fun _ _ _ => by kernel_rfl
theorem fa32_0 : Fa Tryz.prog 32 0 0 := fun _ _ _ => by kernel_rfl
theorem fa32_1 : Fa Tryz.prog 32 1 2 := fun _ _ _ => by kernel_rfl
theorem fa77_0 : Fa Tryz.prog 77 0 0 := fun _ _ _ => by kernel_rfl
theorem fa77_1 : Fa Tryz.prog 77 1 1 := fun _ _ _ => by kernel_rfl
theorem fa77_2 : Fa Tryz.prog 77 2 2 := fun _ _ _ => by kernel_rfl
theorem fa77_3 : Fa Tryz.prog 77 3 3 := fun _ _ _ => by kernel_rfl
theorem fa77_4 : Fa Tryz.prog 77 4 4 := fun _ _ _ => by kernel_rfl
theorem fa77_5 : Fa Tryz.prog 77 5 5 := fun _ _ _ => by kernel_rfl
theorem fa77_6 : Fa Tryz.prog 77 6 6 := fun _ _ _ => by kernel_rfl
theorem fa77_7 : Fa Tryz.prog 77 7 7 := fun _ _ _ => by kernel_rfl
theorem fa77_8 : Fa Tryz.prog 77 8 8 := fun _ _ _ => by kernel_rfl
theorem fa79_0 : Fa Tryz.prog 79 0 0 := fun _ _ _ => by kernel_rfl
theorem fa79_1 : Fa Tryz.prog 79 1 1 := fun _ _ _ => by kernel_rfl
theorem fa81_0 : Fa Tryz.prog 81 0 0 := fun _ _ _ => by kernel_rfl
theorem fa81_1 : Fa Tryz.prog 81 1 2 := fun _ _ _ => by kernel_rfl
theorem fa96_0 : Fa Tryz.prog 96 0 0 := fun _ _ _ => by kernel_rfl
theorem fa96_1 : Fa Tryz.prog 96 1 1 := fun _ _ _ => by kernel_rfl
theorem fa110_0 : Fa Tryz.prog 110 0 0 := fun _ _ _ => by kernel_rfl
theorem fa110_1 : Fa Tryz.prog 110 1 1 := fun _ _ _ => by kernel_rfl
theorem fa110_2 : Fa Tryz.prog 110 2 2 := fun _ _ _ => by kernel_rfl
theorem fa117_0 : Fa Tryz.prog 117 0 0 := fun _ _ _ => by kernel_rfl
theorem fa117_1 : Fa Tryz.prog 117 1 1 := fun _ _ _ => by kernel_rfl
theorem fa120_0 : Fa Tryz.prog 120 0 0 := fun _ _ _ => by kernel_rfl
theorem fa120_1 : Fa Tryz.prog 120 1 2 := fun _ _ _ => by kernel_rfl
theorem fa120_2 : Fa Tryz.prog 120 2 3 := fun _ _ _ => by kernel_rfl
theorem fa120_3 : Fa Tryz.prog 120 3 4 := fun _ _ _ => by kernel_rfl
theorem fa161_0 : Fa Tryz.prog 161 0 0 := fun _ _ _ => by kernel_rfl
theorem fa161_1 : Fa Tryz.prog 161 1 1 := fun _ _ _ => by kernel_rfl
theorem fa161_2 : Fa Tryz.prog 161 2 3 := fun _ _ _ => by kernel_rfl
theorem fa179_0 : Fa Tryz.prog 179 0 0 := fun _ _ _ => by kernel_rfl
theorem al3 : Al Tryz.prog 3 [.int .i64 0] := fun _ => by kernel_rfl
theorem al4 : Al Tryz.prog 4 [.bool false] := fun _ => by kernel_rfl
theorem al27 : Al Tryz.prog 27 [.slice none 0 0, .slice none 0 0] := fun _ => by kernel_rfl
theorem al28 : Al Tryz.prog 28 [.int .i64 0] := fun _ => by kernel_rfl
theorem al32 : Al Tryz.prog 32 [.slice none 0 0, .slice none 0 0, .int .i64 0] := fun _ => by kernel_rfl
theorem al77 : Al Tryz.prog 77 [.slice none 0 0, .slice none 0 0, .int .i64 0, .int .i64 0, .bool false, .slice none 0 0, .int .i64 0, .int .i64 0, .slice none 0 0] := fun _ => by kernel_rfl
theorem al79 : Al Tryz.prog 79 [.int .i64 0, .int .i64 0] := fun _ => by kernel_rfl
theorem al81 : Al Tryz.prog 81 [.int .i64 0, .int .i64 0, .int .i64 0, .bool false, .bool false] := fun _ => by kernel_rfl
theorem al96 : Al Tryz.prog 96 [.slice none 0 0, .int .i64 0] := fun _ => by kernel_rfl
theorem al110 : Al Tryz.prog 110 [.int .i64 0, .int .i64 0, .int .i64 0] := fun _ => by kernel_rfl
theorem al117 : Al Tryz.prog 117 [.int .i64 0, .bool false] := fun _ => by kernel_rfl
theorem al120 : Al Tryz.prog 120 [.int .i64 0, .int .i64 0, .slice none 0 0, .bool false, .bool false] := fun _ => by kernel_rfl
theorem al161 : Al Tryz.prog 161 [.int .i64 0, .int .i64 0, .int .i64 0, .bool false] := fun _ => by kernel_rfl
theorem al187 : Al Tryz.prog 187 [.nilFunc] := fun _ => by kernel_rfl
theorem al188 : Al Tryz.prog 188 [.nilFunc] := fun _ => by kernel_rfl
theorem en12 : Enters Tryz.prog 12 := fun _ _ => by kernel_rfl
theorem en13 : Enters Tryz.prog 13 := fun _ _ => by kernel_rfl
theorem en14 : Enters Tryz.prog 14 := fun _ _ => by kernel_rfl
theorem en15 : Enters Tryz.prog 15 := fun _ _ => by kernel_rfl
theorem en16 : Enters Tryz.prog 16 := fun _ _ => by kernel_rfl
theorem en17 : Enters Tryz.prog 17 := fun _ _ => by kernel_rfl
theorem en18 : Enters Tryz.prog 18 := fun _ _ => by kernel_rfl
theorem en19 : Enters Tryz.prog 19 := fun _ _ => by kernel_rfl
theorem en20 : Enters Tryz.prog 20 := fun _ _ => by kernel_rfl
theorem en22 : Enters Tryz.prog 22 := fun _ _ => by kernel_rfl
theorem en24 : Enters Tryz.prog 24 := fun _ _ => by kernel_rfl
theorem en26 : Enters Tryz.prog 26 := fun _ _ => by kernel_rfl
theorem en28 : Enters Tryz.prog 28 := fun _ _ => by kernel_rfl
theorem en29 : Enters Tryz.prog 29 := fun _ _ => by kernel_rfl
theorem en31 : Enters Tryz.prog 31 := fun _ _ => by kernel_rfl
theorem en32 : Enters Tryz.prog 32 := fun _ _ => by kernel_rfl
theorem en34 : Enters Tryz.prog 34 := fun _ _ => by kernel_rfl
theorem en38 : Enters Tryz.prog 38 := fun _ _ => by kernel_rfl
theorem en39 : Enters Tryz.prog 39 := fun _ _ => by kernel_rfl
theorem en40 : Enters Tryz.prog 40 := fun _ _ => by kernel_rfl
theorem en41 : Enters Tryz.prog 41 := fun _ _ => by kernel_rfl
theorem en42 : Enters Tryz.prog 42 := fun _ _ => by kernel_rfl
theorem en48 : Enters Tryz.prog 48 := fun _ _ => by kernel_rfl
theorem en49 : Enters Tryz.prog 49 := fun _ _ => by kernel_rfl
theorem en50 : Enters Tryz.prog 50 := fun _ _ => by kernel_rfl
theorem en51 : Enters Tryz.prog 51 := fun _ _ => by kernel_rfl
theorem en52 : Enters Tryz.prog 52 := fun _ _ => by kernel_rfl
theorem en53 : Enters Tryz.prog 53 := fun _ _ => by kernel_rfl
theorem en54 : Enters Tryz.prog 54 := fun _ _ => by kernel_rfl
theorem en55 : Enters Tryz.prog 55 := fun _ _ => by kernel_rfl
theorem en56 : Enters Tryz.prog 56 := fun _ _ => by kernel_rfl
theorem en57 : Enters Tryz.prog 57 := fun _ _ => by kernel_rfl
theorem en58 : Enters Tryz.prog 58 := fun _ _ => by kernel_rfl
theorem en59 : Enters Tryz.prog 59 := fun _ _ => by kernel_rfl
theorem en60 : Enters Tryz.prog 60 := fun _ _ => by kernel_rfl
theorem en61 : Enters Tryz.prog 61 := fun _ _ => by kernel_rfl
theorem en62 : Enters Tryz.prog 62 := fun _ _ => by kernel_rfl
theorem en63 : Enters Tryz.prog 63 := fun _ _ => by kernel_rfl
theorem en64 : Enters Tryz.prog 64 := fun _ _ => by kernel_rfl
theorem en65 : Enters Tryz.prog 65 := fun _ _ => by kernel_rfl
theorem en66 : Enters Tryz.prog 66 := fun _ _ => by kernel_rfl
theorem en67 : Enters Tryz.prog 67 := fun _ _ => by kernel_rfl
theorem en68 : Enters Tryz.prog 68 := fun _ _ => by kernel_rfl
theorem en70 : Enters Tryz.prog 70 := fun _ _ => by kernel_rfl
theorem en71 : Enters Tryz.prog 71 := fun _ _ => by kernel_rfl
theorem en72 : Enters Tryz.prog 72 := fun _ _ => by kernel_rfl
theorem en73 : Enters Tryz.prog 73 := fun _ _ => by kernel_rfl
theorem en74 : Enters Tryz.prog 74 := fun _ _ => by kernel_rfl
theorem en75 : Enters Tryz.prog 75 := fun _ _ => by kernel_rfl
theorem en76 : Enters Tryz.prog 76 := fun _ _ => by kernel_rfl
theorem en77 : Enters Tryz.prog 77 := fun _ _ => by kernel_rfl
theorem en80 : Enters Tryz.prog 80 := fun _ _ => by kernel_rfl
theorem en81 : Enters Tryz.prog 81 := fun _ _ => by kernel_rfl
theorem en82 : Enters Tryz.prog 82 := fun _ _ => by kernel_rfl
theorem en83 : Enters Tryz.prog 83 := fun _ _ => by kernel_rfl
theorem en84 : Enters Tryz.prog 84 := fun _ _ => by kernel_rfl
theorem en85 : Enters Tryz.prog 85 := fun _ _ => by kernel_rfl
theorem en86 : Enters Tryz.prog 86 := fun _ _ => by kernel_rfl
theorem en87 : Enters Tryz.prog 87 := fun _ _ => by kernel_rfl
theorem en88 : Enters Tryz.prog 88 := fun _ _ => by kernel_rfl
theorem en89 : Enters Tryz.prog 89 := fun _ _ => by kernel_rfl
theorem en90 : Enters Tryz.prog 90 := fun _ _ => by kernel_rfl
theorem en91 : Enters Tryz.prog 91 := fun _ _ => by kernel_rfl
theorem en102 : Enters Tryz.prog 102 := fun _ _ => by kernel_rfl
theorem en103 : Enters Tryz.prog 103 := fun _ _ => by kernel_rfl
theorem en104 : Enters Tryz.prog 104 := fun _ _ => by kernel_rfl
theorem en105 : Enters Tryz.prog 105 := fun _ _ => by kernel_rfl
theorem en106 : Enters Tryz.prog 106 := fun _ _ => by kernel_rfl
theorem en107 : Enters Tryz.prog 107 := fun _ _ => by kernel_rfl
theorem en108 : Enters Tryz.prog 108 := fun _ _ => by kernel_rfl
theorem en109 : Enters Tryz.prog 109 := fun _ _ => by kernel_rfl
theorem en110 : Enters Tryz.prog 110 := fun _ _ => by kernel_rfl
theorem en111 : Enters Tryz.prog 111 := fun _ _ => by kernel_rfl
theorem en112 : Enters Tryz.prog 112 := fun _ _ => by kernel_rfl
theorem en113 : Enters Tryz.prog 113 := fun _ _ => by kernel_rfl
theorem en114 : Enters Tryz.prog 114 := fun _ _ => by kernel_rfl
theorem en115 : Enters Tryz.prog 115 := fun _ _ => by kernel_rfl
theorem en116 : Enters Tryz.prog 116 := fun _ _ => by kernel_rfl
theorem en117 : Enters Tryz.prog 117 := fun _ _ => by kernel_rfl
theorem en118 : Enters Tryz.prog 118 := fun _ _ => by kernel_rfl
theorem en119 : Enters Tryz.prog 119 := fun _ _ => by kernel_rfl
theorem en120 : Enters Tryz.prog 120 := fun _ _ => by kernel_rfl
theorem en121 : Enters Tryz.prog 121 := fun _ _ => by kernel_rfl
theorem en122 : Enters Tryz.prog 122 := fun _ _ => by kernel_rfl
theorem en123 : Enters Tryz.prog 123 := fun _ _ => by kernel_rfl
theorem en124 : Enters Tryz.prog 124 := fun _ _ => by kernel_rfl
theorem en125 : Enters Tryz.prog 125 := fun _ _ => by kernel_rfl
theorem en126 : Enters Tryz.prog 126 := fun _ _ => by kernel_rfl
theorem en127 : Enters Tryz.prog 127 := fun _ _ => by kernel_rfl
theorem en128 : Enters Tryz.prog 128 := fun _ _ => by kernel_rfl
theorem en129 : Enters Tryz.prog 129 := fun _ _ => by kernel_rfl
theorem en130 : Enters Tryz.prog 130 := fun _ _ => by kernel_rfl
theorem en131 : Enters Tryz.prog 131 := fun _ _ => by kernel_rfl
theorem en132 : Enters Tryz.prog 132 := fun _ _ => by kernel_rfl
theorem en133 : Enters Tryz.prog 133 := fun _ _ => by kernel_rfl
theorem en134 : Enters Tryz.prog 134 := fun _ _ => by kernel_rfl
theorem en135 : Enters Tryz.prog 135 := fun _ _ => by kernel_rfl
theorem en136 : Enters Tryz.prog 136 := fun _ _ => by kernel_rfl
theorem en137 : Enters Tryz.prog 137 := fun _ _ => by kernel_rfl
theorem en138 : Enters Tryz.prog 138 := fun _ _ => by kernel_rfl
theorem en139 : Enters Tryz.prog 139 := fun _ _ => by kernel_rfl
theorem en140 : Enters Tryz.prog 140 := fun _ _ => by kernel_rfl
theorem en141 : Enters Tryz.prog 141 := fun _ _ => by kernel_rfl
theorem en142 : Enters Tryz.prog 142 := fun _ _ => by kernel_rfl
theorem en143 : Enters Tryz.prog 143 := fun _ _ => by kernel_rfl
theorem en144 : Enters Tryz.prog 144 := fun _ _ => by kernel_rfl
theorem en145 : Enters Tryz.prog 145 := fun _ _ => by kernel_rfl
theorem en146 : Enters Tryz.prog 146 := fun _ _ => by kernel_rfl
theorem en147 : Enters Tryz.prog 147 := fun _ _ => by kernel_rfl
theorem en148 : Enters Tryz.prog 148 := fun _ _ => by kernel_rfl
theorem en149 : Enters Tryz.prog 149 := fun _ _ => by kernel_rfl
theorem en150 : Enters Tryz.prog 150 := fun _ _ => by kernel_rfl
theorem en151 : Enters Tryz.prog 151 := fun _ _ => by kernel_rfl
theorem en152 : Enters Tryz.prog 152 := fun _ _ => by kernel_rfl
theorem en153 : Enters Tryz.prog 153 := fun _ _ => by kernel_rfl
theorem en154 : Enters Tryz.prog 154 := fun _ _ => by kernel_rfl
theorem en155 : Enters Tryz.prog 155 := fun _ _ => by kernel_rfl
theorem en156 : Enters Tryz.prog 156 := fun _ _ => by kernel_rfl
theorem en157 : Enters Tryz.prog 157 := fun _ _ => by kernel_rfl
theorem en158 : Enters Tryz.prog 158 := fun _ _ => by kernel_rfl
theorem en159 : Enters Tryz.prog 159 := fun _ _ => by kernel_rfl
theorem en160 : Enters Tryz.prog 160 := fun _ _ => by kernel_rfl
theorem en161 : Enters Tryz.prog 161 := fun _ _ => by kernel_rfl
theorem en162 : Enters Tryz.prog 162 := fun _ _ => by kernel_rfl
theorem en163 : Enters Tryz.prog 163 := fun _ _ => by kernel_rfl
theorem en164 : Enters Tryz.prog 164 := fun _ _ => by kernel_rfl
theorem en165 : Enters Tryz.prog 165 := fun _ _ => by kernel_rfl
theorem en166 : Enters Tryz.prog 166 := fun _ _ => by kernel_rfl
theorem en167 : Enters Tryz.prog 167 := fun _ _ => by kernel_rfl
theorem en168 : Enters Tryz.prog 168 := fun _ _ => by kernel_rfl
theorem en169 : Enters Tryz.prog 169 := fun _ _ => by kernel_rfl
theorem en170 : Enters Tryz.prog 170 := fun _ _ => by kernel_rfl
theorem en171 : Enters Tryz.prog 171 := fun _ _ => by kernel_rfl
theorem en172 : Enters Tryz.prog 172 := fun _ _ => by kernel_rfl
theorem en173 : Enters Tryz.prog 173 := fun _ _ => by kernel_rfl
theorem en174 : Enters Tryz.prog 174 := fun _ _ => by kernel_rfl
theorem en175 : Enters Tryz.prog 175 := fun _ _ => by kernel_rfl
theorem en176 : Enters Tryz.prog 176 := fun _ _ => by kernel_rfl
theorem en177 : Enters Tryz.prog 177 := fun _ _ => by kernel_rfl
theorem en178 : Enters Tryz.prog 178 := fun _ _ => by kernel_rfl
theorem en179 : Enters Tryz.prog 179 := fun _ _ => by kernel_rfl
theorem en180 : Enters Tryz.prog 180 := fun _ _ => by kernel_rfl
theorem en181 : Enters Tryz.prog 181 := fun _ _ => by kernel_rfl
theorem en182 : Enters Tryz.prog 182 := fun _ _ => by kernel_rfl
theorem en183 : Enters Tryz.prog 183 := fun _ _ => by kernel_rfl
theorem en184 : Enters Tryz.prog 184 := fun _ _ => by kernel_rfl
theorem en185 : Enters Tryz.prog 185 := fun _ _ => by kernel_rfl
theorem en186 : Enters Tryz.prog 186 := fun _ _ => by kernel_rfl
theorem en187 : Enters Tryz.prog 187 := fun _ _ => by kernel_rfl
theorem en188 : Enters Tryz.prog 188 := fun _ _ => by kernel_rfl
theorem en189 : Enters Tryz.prog 189 := fun _ _ => by kernel_rfl
theorem en190 : Enters Tryz.prog 190 := fun _ _ => by kernel_rfl
theorem en191 : Enters Tryz.prog 191 := fun _ _ => by kernel_rfl
end Fx
end Go.Proofs.YtboepbencndobaaGreat
namespace Go.Ck
open Go Go.RowKit

def OpenRow (v : Value) (sz n : Nat) (l : List Value) (b cp : Nat) (j : List Value) : Prop := v = .slice (some ⟨b, 0, none⟩) n cp ∧ l.length = n * sz ∧ n ≤ cp ∧ cp ≤ maxLen ∧ (l ++ j).length = cp * sz
section
variable {c : Cx} {Q : Exit → Act → World → Prop} {e : Env} {h h' : SH} {x : Code} {v : Value} {E : TypeId} {sz n : Nat} {l l' : List Value}
end
end Go.Ck
namespace Go.Ck
open Go Go.RowKit

/-! ## Rows that are read -/
def Row {α : Type} (S : Res) (sz : Nat) (X : List Value → α → Prop) (v : Value) (l : List α) : Prop :=
 ∃ a cap, v = .slice a l.length cap ∧ l.length ≤ cap ∧ cap ≤ maxLen ∧ (a = none → cap = 0) ∧ ∀ i x, l[i]? = some x → ∃ b o us, a = some ⟨b, o, none⟩ ∧ us.length = sz ∧ Rds S b (o + i * sz) us ∧ X us x
section
variable {α : Type} {S S' : Res} {sz : Nat} {X X' : List Value → α → Prop} {v : Value} {l : List α}
theorem Row.mono (h : Row S sz X v l) (hr : ∀ p u, Rd S p u → Rd S' p u) (hx : ∀ us x, x ∈ l → X us x → X' us x) : Row S' sz X' v l := by
 obtain ⟨a, cap, h1, h2, h3, h4, h5⟩ := h
 refine ⟨a, cap, h1, h2, h3, h4, fun i x hi => ?_⟩
 obtain ⟨b, o, us, g1, g2, g3, g4⟩ := h5 i x hi
 exact ⟨b, o, us, g1, g2, fun j hj => hr _ _ (g3 j hj), hx _ _ (List.mem_of_getElem? hi) g4⟩
theorem Row.nil : Row S sz X (.slice none 0 0) [] := ⟨none, 0, rfl, Nat.le_refl _, Nat.zero_le _, fun _ => rfl, fun i x h => by simp at h⟩
theorem Row.at (h : Row S sz X v l) {i : Nat} {x : α} (hi : l[i]? = some x) : ∃ b o cap us, v = .slice (some ⟨b, o, none⟩) l.length cap ∧ us.length = sz ∧ Rds S b (o + i * sz) us ∧ X us x := by
 obtain ⟨a, cap, h1, h2, h3, h4, h5⟩ := h
 obtain ⟨b, o, us, g1, g2, g3, g4⟩ := h5 i x hi
 exact ⟨b, o, cap, us, by rw [h1, g1], g2, g3, g4⟩
theorem Row.one (h : Row S sz X v l) : v.oneCell' = true := by obtain ⟨a, cap, rfl, _⟩ := h; rfl
theorem Row.lenle (h : Row S sz X v l) : l.length ≤ maxLen := by obtain ⟨a, cap, _, h2, h3, _⟩ := h; omega
end
theorem Row.at1 {α : Type} {S : Res} {X : List Value → α → Prop} {v : Value} {l : List α} (h : Row S 1 X v l) {i : Nat} {x : α} (hi : l[i]? = some x) : ∃ b o cap u, v = .slice (some ⟨b, o, none⟩) l.length cap ∧ Rd S ⟨b, o + i * 1, none⟩ u ∧ X [u] x := by
 obtain ⟨b, o, cap, us, h1, h2, h3, h4⟩ := h.at hi
 match us, h2 with
 | [u], _ => exact ⟨b, o, cap, u, h1, by simpa using h3 0 (by simp), h4⟩
theorem rds_at {r : Res} {b o k : Nat} {us : List Value} {v : Value} (h : Rds r b o us) (hv : us[k]? = some v) : Rd r ⟨b, o + k, none⟩ v := by
 obtain ⟨hk, hv⟩ := List.getElem?_eq_some_iff.1 hv
 subst hv; exact h k hk
theorem rds_sub {r : Res} {b o k : Nat} {us vs : List Value} (h : Rds r b o us) (hv : (us.drop k).take vs.length = vs) : Rds r b (o + k) vs := fun i hi => by
 have h1 : us[k + i]? = some vs[i] := by
  have : vs[i]? = some vs[i] := List.getElem?_eq_getElem hi
  rw [← this, ← hv, List.getElem?_take, if_pos (by have := congrArg List.length hv; simp at this; omega), List.getElem?_drop]
 rw [Nat.add_assoc]; exact rds_at h h1
theorem rd_in {k : SH} {r : Res} {k' : SH} (s : Sel k r k') (p : Addr) (v : Value) (h : Rd r p v) : Rd (Res.star k) p v := rd_star s h

/-! ## Contracts over many resources as one -/
theorem holds_star1 {w : World} {L hr : SH} : Holds w (Res.star L :: hr) ↔ Holds w (L ++ hr) := star_iff
theorem reads_star {P : Program} {k : FuncId} {args : Array Value} {L : SH} {v : Value} (h : Reads P k args [Res.star L] v) : Reads P k args L v := fun hr w hh =>
 (h hr w (holds_star1.2 hh)).mono fun _ _ ⟨u, h', he, ⟨hu, hh'⟩, hH, hS⟩ => ⟨u, L, he, ⟨hu, rfl⟩, by subst hh'; exact holds_star1.1 hH, hS⟩
theorem reads_one {P : Program} {k : FuncId} {args : Array Value} {L : SH} {v : Value} (h : Reads P k args L v) : Reads P k args [Res.star L] v := fun hr w hh =>
 (h hr w (holds_star1.1 hh)).mono fun _ _ ⟨u, h', he, ⟨hu, hh'⟩, hH, hS⟩ => ⟨u, _, he, ⟨hu, rfl⟩, by subst hh'; exact holds_star1.2 hH, hS⟩
def CtN (P : Program) (k : FuncId) (args : Array Value) (hf : SH) (Q : Value → Res → Prop) : Prop := Ct P k args hf fun u h' => ∃ T, h' = T :: hf ∧ Q u T
theorem ctn_star {P : Program} {k : FuncId} {args : Array Value} {L : SH} {Q : Value → Res → Prop} (h : CtN P k args [Res.star L] Q) : CtN P k args L Q := fun hr w hh =>
 (h hr w (holds_star1.2 hh)).mono fun _ _ ⟨u, h', he, ⟨T, hT, hQ⟩, hH, hS⟩ => ⟨u, T :: L, he, ⟨T, rfl, hQ⟩, by
  subst hT
  have h1 : Holds _ (T :: Res.star L :: hr) := hH
  have h2 : Holds _ (Res.star L :: T :: hr) := h1.perm (.swap _ _ _)
  exact (holds_star1.1 h2).perm List.perm_middle, hS⟩
theorem CtN.mono {P : Program} {k : FuncId} {args : Array Value} {hf : SH} {Q Q' : Value → Res → Prop} (h : CtN P k args hf Q) (hq : ∀ u T, Q u T → Q' u T) : CtN P k args hf Q' := Ct.mono h fun _ _ ⟨T, h1, h2⟩ => ⟨T, h1, hq _ _ h2⟩

/-! ## Rows that are owned -/
def VR (v : Value) (E : TypeId) (sz : Nat) (rows : List (List Value)) : Res where
 dom b := ∃ o m cp, v = .slice (some ⟨b, o, none⟩) m cp
 ok f := (∀ r ∈ rows, r.length = sz) ∧ ((v = .slice none 0 0 ∧ rows = []) ∨ ∃ b o cp pre j, v = .slice (some ⟨b, o, none⟩) rows.length cp ∧ f b = some (cl (pre ++ (rows.flatten ++ j)) E) ∧ pre.length = o ∧ rows.length ≤ cp ∧ cp ≤ maxLen ∧ cp * sz ≤ (rows.flatten ++ j).length)
 loc f g he := fun ⟨h1, h2⟩ => ⟨h1, h2.imp id fun ⟨b, o, cp, pre, j, hv, hb, hr⟩ => ⟨b, o, cp, pre, j, hv, by rw [← he b ⟨o, _, cp, hv⟩]; exact hb, hr⟩⟩
 pres f := fun ⟨_, h2⟩ b ⟨o, m, cp, hv⟩ => by
  rcases h2 with ⟨h3, _⟩ | ⟨b', o', cp', pre, j, h3, hb, _⟩
  ·rw [h3] at hv; cases hv
  ·rw [h3] at hv; cases hv; rw [hb]; rfl
section
variable {v : Value} {E : TypeId} {sz : Nat} {rows : List (List Value)} {f : Nat → Option Obj}
theorem VR.form (h : (VR v E sz rows).ok f) : (v = .slice none 0 0 ∧ rows = []) ∨ ∃ b o cp, v = .slice (some ⟨b, o, none⟩) rows.length cp ∧ rows.length ≤ cp ∧ cp ≤ maxLen := by
 rcases h.2 with h | ⟨b, o, cp, _, _, h1, _, _, h2, h3, _⟩
 ·exact .inl h
 ·exact .inr ⟨b, o, cp, h1, h2, h3⟩
theorem VR.one (h : (VR v E sz rows).ok f) : v.oneCell' = true := by rcases VR.form h with ⟨rfl, _⟩ | ⟨_, _, _, rfl, _⟩ <;> rfl
theorem VR.nil : (VR (.slice none 0 0) E sz []).ok f := ⟨by simp, .inl ⟨rfl, rfl⟩⟩
theorem flatten_at {rows : List (List Value)} {sz m k : Nat} {r : List Value} {x : Value} (h : ∀ r ∈ rows, r.length = sz) (hm : rows[m]? = some r) (hk : r[k]? = some x) : rows.flatten[m * sz + k]? = some x := by
 induction rows generalizing m with
 | nil => simp at hm
 | cons q t ih =>
  have hq := h q (by simp)
  cases m with
  | zero =>
   simp only [List.getElem?_cons_zero, Option.some.injEq] at hm
   subst hm
   rw [List.flatten_cons, Nat.zero_mul, Nat.zero_add, List.getElem?_append_left (List.getElem?_eq_some_iff.1 hk).1]; exact hk
  | succ m =>
   rw [List.getElem?_cons_succ] at hm
   rw [List.flatten_cons, List.getElem?_append_right (by rw [hq, Nat.succ_mul]; omega), hq, ← ih (fun r hr => h r (by simp [hr])) hm]
   congr 1
   rw [Nat.succ_mul]; omega
theorem flatten_set {rows : List (List Value)} {sz m k : Nat} {r : List Value} {x : Value} (h : ∀ r ∈ rows, r.length = sz) (hm : rows[m]? = some r) (hk : k < sz) : rows.flatten.set (m * sz + k) x = (rows.set m (r.set k x)).flatten := by
 induction rows generalizing m with
 | nil => simp at hm
 | cons q t ih =>
  have hq := h q (by simp)
  cases m with
  | zero =>
   simp only [List.getElem?_cons_zero, Option.some.injEq] at hm
   subst hm
   rw [List.flatten_cons, Nat.zero_mul, Nat.zero_add, List.set_append_left _ _ (by omega), List.set_cons_zero, List.flatten_cons]
  | succ m =>
   rw [List.getElem?_cons_succ] at hm
   rw [List.flatten_cons, List.set_append_right _ _ (by rw [hq, Nat.succ_mul]; omega), hq, List.set_cons_succ, List.flatten_cons, ← ih (fun r hr => h r (by simp [hr])) hm]
   congr 2
   rw [Nat.succ_mul]; omega
theorem flatten_len {rows : List (List Value)} {sz : Nat} (h : ∀ r ∈ rows, r.length = sz) : rows.flatten.length = rows.length * sz := by
 induction rows with
 | nil => simp
 | cons q t ih => rw [List.flatten_cons, List.length_append, h q (by simp), ih (fun r hr => h r (by simp [hr])), List.length_cons, Nat.succ_mul]; omega
theorem flatten_inv {rows : List (List Value)} {sz j : Nat} {x : Value} (h : ∀ r ∈ rows, r.length = sz) (hj : rows.flatten[j]? = some x) : ∃ m k r, j = m * sz + k ∧ rows[m]? = some r ∧ r[k]? = some x := by
 induction rows generalizing j with
 | nil => simp at hj
 | cons q t ih =>
  have hq := h q (by simp)
  rw [List.flatten_cons] at hj
  by_cases hjq : j < q.length
  ·rw [List.getElem?_append_left hjq] at hj
   exact ⟨0, j, q, by simp, rfl, hj⟩
  ·rw [List.getElem?_append_right (by omega)] at hj
   obtain ⟨m, k, r, h1, h2, h3⟩ := ih (fun r hr => h r (by simp [hr])) hj
   exact ⟨m + 1, k, r, by rw [Nat.succ_mul]; omega, h2, h3⟩
theorem Row.cells {α : Type} {S : Res} {X : List Value → α → Prop} {a : Option Addr} {n cp : Nat} : ∀ {l : List α}, Row S sz X (.slice a n cp) l → ∃ rows : List (List Value), rows.length = l.length ∧ (∀ r ∈ rows, r.length = sz) ∧ (∀ (i : Nat) us x, rows[i]? = some us → l[i]? = some x → X us x) ∧
  ∀ j u, rows.flatten[j]? = some u → ∃ b o, a = some ⟨b, o, none⟩ ∧ Rd S ⟨b, o + j, none⟩ u := fun {l} h => by
 obtain ⟨a', cap, h1, _, _, _, h5⟩ := h
 cases h1
 have key : ∀ (k : Nat), k ≤ l.length → ∃ rows : List (List Value), rows.length = k ∧ ∀ (i : Nat) us, rows[i]? = some us → ∃ x b o, l[i]? = some x ∧ a = some ⟨b, o, none⟩ ∧ us.length = sz ∧ Rds S b (o + i * sz) us ∧ X us x := by
  intro k
  induction k with
  | zero => exact fun _ => ⟨[], rfl, fun i us h => by simp at h⟩
  | succ k ih =>
   intro hk
   obtain ⟨rows, g1, g2⟩ := ih (by omega)
   obtain ⟨b, o, us, e1, e2, e3, e4⟩ := h5 k l[k] (List.getElem?_eq_getElem (by omega))
   refine ⟨rows ++ [us], by simp [g1], fun i us' hi => ?_⟩
   by_cases hik : i < rows.length
   ·rw [List.getElem?_append_left hik] at hi; exact g2 i us' hi
   ·rw [List.getElem?_append_right (by omega)] at hi
    have hi0 : i - rows.length = 0 := by
     have := (List.getElem?_eq_some_iff.1 hi).1
     simp at this; omega
    rw [hi0] at hi
    simp only [List.getElem?_cons_zero, Option.some.injEq] at hi
    subst hi
    have : i = k := by omega
    subst this
    exact ⟨l[i], b, o, List.getElem?_eq_getElem (by omega), e1, e2, e3, e4⟩
 obtain ⟨rows, g1, g2⟩ := key l.length (Nat.le_refl _)
 have hsz : ∀ r ∈ rows, r.length = sz := fun r hr => by
  obtain ⟨i, hi, rfl⟩ := List.mem_iff_getElem.1 hr
  obtain ⟨_, _, _, _, _, e2, _⟩ := g2 i _ (List.getElem?_eq_getElem hi)
  exact e2
 refine ⟨rows, g1, hsz, fun i us x hi hx => ?_, fun j u hj => ?_⟩
 ·obtain ⟨x', b, o, e0, _, _, _, e4⟩ := g2 i us hi
  rw [hx] at e0; cases e0; exact e4
 ·obtain ⟨m, k, r, rfl, e1, e2⟩ := flatten_inv hsz hj
  obtain ⟨x, b, o, _, e3, e4, e5, _⟩ := g2 m r e1
  exact ⟨b, o, e3, by have := rds_at e5 e2; rwa [Nat.add_assoc] at this⟩
theorem rds_vr {b o n cp m : Nat} {r : List Value} (hm : rows[m]? = some r) : Rds (VR (.slice (some ⟨b, o, none⟩) n cp) E sz rows) b (o + m * sz) r := fun i hi w hw => by
 obtain ⟨h1, h2⟩ := hw
 rcases h2 with ⟨h3, _⟩ | ⟨b', o', cp', pre, j, h3, hb, hp, _⟩
 ·cases h3
 ·cases h3
  have hb' : w.heap[b]? = _ := hb
  have h4 := flatten_at h1 hm (List.getElem?_eq_getElem hi)
  have hlt := (List.getElem?_eq_some_iff.1 h4).1
  simp only [World.cell?, hb', cl, List.getElem?_toArray, Option.isSome_none, Bool.false_eq_true, if_false]
  rw [List.getElem?_append_right (by omega), hp, show o + m * sz + i - o = m * sz + i by omega, List.getElem?_append_left hlt, h4]
theorem row_vr {α : Type} {X : List Value → α → Prop} {l : List α} {S : Res} (hok : ∃ f, (VR v E sz rows).ok f) (hl : rows.length = l.length) (hr : ∀ p u, Rd (VR v E sz rows) p u → Rd S p u) (hx : ∀ (i : Nat) us x, rows[i]? = some us → l[i]? = some x → X us x) : Row S sz X v l := by
 obtain ⟨f, hf⟩ := hok
 rcases VR.form hf with ⟨rfl, h1⟩ | ⟨b, o, cp, rfl, h1, h2⟩
 ·have hl0 : l = [] := List.eq_nil_of_length_eq_zero (by rw [← hl, h1]; rfl)
  subst hl0; exact Row.nil
 ·refine ⟨some ⟨b, o, none⟩, cp, by rw [hl], by omega, h2, (fun h => by cases h), fun i x hi => ?_⟩
  have hlt : i < rows.length := by rw [hl]; exact (List.getElem?_eq_some_iff.1 hi).1
  have hri : rows[i]? = some rows[i] := List.getElem?_eq_getElem hlt
  exact ⟨b, o, rows[i], rfl, hf.1 _ (List.getElem_mem hlt), fun j hj => hr _ _ (rds_vr hri j hj), hx i _ _ hri hi⟩
end

/-! ### What is done to them -/
section
variable {w : World} {v : Value} {E : TypeId} {sz : Nat} {rows : List (List Value)} {h : SH}
theorem Holds.vr_nil (hh : Holds w h) (E : TypeId) (sz : Nat) : Holds w (VR (.slice none 0 0) E sz [] :: h) := ⟨VR.nil, (fun _ ⟨_, _, _, hv⟩ => by cases hv), hh⟩
theorem Holds.vr_set {b o n cp m k : Nat} {r : List Value} {x : Value} (hh : Holds w (VR (.slice (some ⟨b, o, none⟩) n cp) E sz rows :: h)) (hm : rows[m]? = some r) (hk : k < sz) :
  (∃ l, w.heap[b]? = some (cl l E) ∧ o + m * sz + k < l.length) ∧ Holds (w.setCell ⟨b, o + m * sz + k, none⟩ x) (VR (.slice (some ⟨b, o, none⟩) n cp) E sz (rows.set m (r.set k x)) :: h) := by
 obtain ⟨⟨h1, h2⟩, hd, ht⟩ := hh
 rcases h2 with ⟨h3, _⟩ | ⟨b', o', cp', pre, j, h3, hb, hp, hc1, hc2, hc3⟩
 ·cases h3
 ·cases h3
  have hr := h1 r (List.mem_of_getElem? hm)
  have h4 := flatten_at (k := k) h1 hm (List.getElem?_eq_getElem (by omega))
  have hlt := (List.getElem?_eq_some_iff.1 h4).1
  refine ⟨⟨_, hb, by simp only [List.length_append]; omega⟩, ?_⟩
  have hpt : Holds w (pt b (cl (pre ++ (rows.flatten ++ j)) E) :: h) := ⟨hb, fun c hc => by rw [show c = b from hc]; exact hd b ⟨o, _, cp, rfl⟩, ht⟩
  have hset := Holds.setCell (off := o + m * sz + k) hpt x
  have hl : (pre ++ (rows.flatten ++ j)).set (o + m * sz + k) x = pre ++ ((rows.set m (r.set k x)).flatten ++ j) := by
   rw [List.set_append_right _ _ (by omega), hp, show o + m * sz + k - o = m * sz + k by omega, List.set_append_left _ _ hlt, flatten_set h1 hm hk]
  rw [hl] at hset
  refine ⟨⟨fun q hq => ?_, .inr ⟨b, o, cp, pre, j, by rw [List.length_set], hset.1, hp, by rw [List.length_set]; exact hc1, hc2, ?_⟩⟩, fun c hc => hd c hc, hset.2.2⟩
  ·rcases List.mem_or_eq_of_mem_set hq with hq | rfl
   ·exact h1 q hq
   ·rw [List.length_set]; exact hr
  ·have : (rows.set m (r.set k x)).flatten.length = rows.flatten.length := by rw [← flatten_set h1 hm hk, List.length_set]
   rw [List.length_append, this, ← List.length_append]; exact hc3
theorem Holds.vr_tail {b o n cp m : Nat} (hh : Holds w (VR (.slice (some ⟨b, o, none⟩) n cp) E sz rows :: h)) (hm : m ≤ rows.length) :
  Holds w (VR (.slice (some ⟨b, if cp = m then o else o + m * sz, none⟩) (n - m) (cp - m)) E sz (rows.drop m) :: h) := by
 obtain ⟨⟨h1, h2⟩, hd, ht⟩ := hh
 rcases h2 with ⟨h3, _⟩ | ⟨b', o', cp', pre, j, h3, hb, hp, hc1, hc2, hc3⟩
 ·cases h3
 ·cases h3
  have hsp : rows.flatten = (rows.take m).flatten ++ (rows.drop m).flatten := by rw [← List.flatten_append, List.take_append_drop]
  have htl : (rows.take m).flatten.length = m * sz := by rw [flatten_len (fun r hr => h1 r (List.mem_of_mem_take hr)), List.length_take, Nat.min_eq_left hm]
  refine ⟨⟨fun q hq => h1 q (List.mem_of_mem_drop hq), .inr ?_⟩, fun c ⟨o', m', cp', hv⟩ => ?_, ht⟩
  ·by_cases hcm : cp = m
   ·have hn : rows.drop m = [] := List.drop_of_length_le (by omega)
    refine ⟨b, o, cp - m, pre, rows.flatten ++ j, by rw [if_pos hcm, List.length_drop], by rw [hn]; exact hb, hp, by rw [hn]; exact Nat.zero_le _, by omega, by subst hcm; simp⟩
   ·refine ⟨b, o + m * sz, cp - m, pre ++ (rows.take m).flatten, j, by rw [if_neg hcm, List.length_drop], by rw [hb, hsp]; simp, by rw [List.length_append, hp, htl], by rw [List.length_drop]; omega, by omega, ?_⟩
    rw [hsp, List.length_append, List.length_append, htl] at hc3
    rw [List.length_append, Nat.sub_mul]; omega
  ·cases hv; exact hd _ ⟨_, _, _, rfl⟩
theorem Holds.vr_take {b o n cp m : Nat} (hh : Holds w (VR (.slice (some ⟨b, o, none⟩) n cp) E sz rows :: h)) (hm : m ≤ rows.length) :
  Holds w (VR (.slice (some ⟨b, o, none⟩) m cp) E sz (rows.take m) :: h) := by
 obtain ⟨⟨h1, h2⟩, hd, ht⟩ := hh
 rcases h2 with ⟨h3, _⟩ | ⟨b', o', cp', pre, j, h3, hb, hp, hc1, hc2, hc3⟩
 ·cases h3
 ·cases h3
  have hsp : rows.flatten = (rows.take m).flatten ++ (rows.drop m).flatten := by rw [← List.flatten_append, List.take_append_drop]
  refine ⟨⟨fun q hq => h1 q (List.mem_of_mem_take hq), .inr ⟨b, o, cp, pre, (rows.drop m).flatten ++ j, by rw [List.length_take, Nat.min_eq_left hm], by rw [hb, hsp, List.append_assoc], hp, by rw [List.length_take]; omega, hc2, ?_⟩⟩, fun c ⟨o', m', cp', hv⟩ => ?_, ht⟩
  ·rw [← List.append_assoc, ← hsp]; exact hc3
  ·cases hv; exact hd _ ⟨_, _, _, rfl⟩
theorem Holds.vr_of {b n : Nat} {cells : List Value} (hh : Holds w (pt b (cl cells E) :: h)) (hc : cells = rows.flatten) (h1 : ∀ r ∈ rows, r.length = sz) (hn : rows.length = n) (hm : n ≤ maxLen) : Holds w (VR (.slice (some ⟨b, 0, none⟩) n n) E sz rows :: h) := by
 subst hn hc
 refine ⟨⟨h1, .inr ⟨b, 0, _, [], [], rfl, ?_, rfl, Nat.le_refl _, hm, by rw [List.append_nil, flatten_len h1]; exact Nat.le_refl _⟩⟩, fun c ⟨o', m', cp', hv⟩ => ?_, hh.2.2⟩
 ·have := hh.1
  simpa [pt] using this
 ·cases hv; exact hh.2.1 _ rfl

theorem run_append_vr {P : Program} {t : TypeId} (ty : TypeId) {z : Value} {bytes : Nat} (ht : P.underlying t = some (.slice E)) (hE : Inf P E z sz bytes) (hzs : z.cells.size = sz) (hsz : 0 < sz)
  (hh : Holds w (VR v E sz rows :: h)) {src : Addr} {m cp : Nat} {news : List (List Value)} (hn1 : ∀ r ∈ news, r.length = sz) (hl : news.length = m)
  (hnews : ∀ j u, news.flatten[j]? = some u → w.cell? (src.add j) = some u) (h1 : ∀ u ∈ news.flatten, u.oneCell' = true) (hb : (rows.length + m) * bytes ≤ 140737488355328) (h63 : rows.length + m ≤ 9223372036854775807) :
  ∃ v' w', (Builtin.append_ #[t, t] ty #[v, .slice (some src) m cp]).run P w = .ok v' w' ∧ Holds w' (VR v' E sz (rows ++ news) :: h) ∧ Same w w' ∧ (v' = .slice none 0 0 ↔ v = .slice none 0 0 ∧ m = 0) := by
 obtain ⟨i, hi, hz, hisz, hiby⟩ := hE.parts
 subst hisz hiby
 have hok : (VR v E i.size rows).ok (hp w) := hh.1
 have hmax : maxLen = 9223372036854775807 := rfl
 have hall : ∀ r ∈ rows ++ news, r.length = i.size := fun r hr => (List.mem_append.1 hr).elim (hok.1 r) (hn1 r)
 have hnl : news.flatten.length = m * i.size := by rw [flatten_len hn1, hl]
 have hrl : rows.flatten.length = rows.length * i.size := flatten_len hok.1
 have newrow : ∀ (old : Nat), old < rows.length + m → ∀ w1 : World, w1 = w.drew.alloc (.cells (rows.flatten.toArray ++ news.flatten.toArray ++ Builtin.zeroCells z.cells (grownCap w (rows.length + m) old E - (rows.length + m))) E) →
   Holds w1 (VR (.slice (some ⟨w.heap.size, 0, none⟩) (rows.length + m) (grownCap w (rows.length + m) old E)) E i.size (rows ++ news) :: h) ∧ Same w w1 := by
  intro old ho w1 hw1
  have hge := grownCap_ge w (rows.length + m) old E
  have hcm : grownCap w (rows.length + m) old E ≤ maxLen := grownCap_le_maxLen w (rows.length + m) old E (by rw [hmax]; exact h63)
  have hH : Holds w.drew h := Holds.grew hh.2.2 (Grew.drawn w _)
  have hA := Holds.alloc hH (.cells (rows.flatten.toArray ++ news.flatten.toArray ++ Builtin.zeroCells z.cells (grownCap w (rows.length + m) old E - (rows.length + m))) E)
  have hobj : (Obj.cells (rows.flatten.toArray ++ news.flatten.toArray ++ Builtin.zeroCells z.cells (grownCap w (rows.length + m) old E - (rows.length + m))) E) = cl ([] ++ ((rows ++ news).flatten ++ (Builtin.zeroCells z.cells (grownCap w (rows.length + m) old E - (rows.length + m))).toList)) E := by
   simp only [cl, Obj.cells.injEq, and_true]
   apply Array.ext'
   simp
  rw [hobj] at hA
  refine ⟨?_, ?_⟩
  ·rw [hw1, hobj]
   refine ⟨⟨hall, .inr ⟨w.heap.size, 0, _, [], _, by rw [List.length_append, hl], hA.1, rfl, by rw [List.length_append, hl]; exact hge, hcm, ?_⟩⟩, fun b ⟨o', m', cp', hv⟩ => ?_, hA.2.2⟩
   ·have hzl : (Builtin.zeroCells z.cells (grownCap w (rows.length + m) old E - (rows.length + m))).toList.length = (grownCap w (rows.length + m) old E - (rows.length + m)) * i.size := by rw [Array.length_toList, size_zeroCells, hzs]
    rw [List.length_append, flatten_len hall, List.length_append, hl, hzl, ← Nat.add_mul]
    apply Nat.mul_le_mul_right; omega
   ·cases hv; exact hA.2.1 _ rfl
  ·rw [hw1]; exact (Grew.drawn w _).toSame.trans (Grew.alloc _ _ rfl).toSame
 rcases hok.2 with ⟨rfl, rfl⟩ | ⟨g, o, cap, pre, j, rfl, hg, hpo, hnc, hcm, hcs⟩
 ·by_cases hm : m = 0
  ·subst hm
   have hn : news = [] := List.eq_nil_of_length_eq_zero hl
   subst hn
   refine ⟨.slice none 0 0, w, ?_, hh, Same.refl w, by simp⟩
   simp [Builtin.append_, run_underlying ht, sizeOf, typeInfo, hi, Builtin.lenOf, Builtin.firstCells, loadCells, loadCellsFrom]
  ·have hr := run_append_nil (P := P) w t ty E i z ht hi hz src m cp news.flatten hnl hnews (by omega) (by simp only [List.length_nil] at h63; omega) (by simp only [List.length_nil, Nat.zero_add] at hb; omega)
   have := newrow 0 (by omega) _ rfl
   simp only [List.length_nil, Nat.zero_add, List.nil_append, List.flatten_nil, Array.empty_append] at this hr ⊢
   exact ⟨_, _, hr, this.1, this.2, by simp [hm]⟩
 ·have hg' : w.heap[g]? = some (.cells (pre ++ (rows.flatten ++ j)).toArray E (0, 0)) := hg
  by_cases hroom : rows.length + m ≤ cap
  ·have hfit : o + rows.length * i.size + 0 + news.flatten.length ≤ (pre ++ (rows.flatten ++ j)).toArray.size := by
    rw [hnl, List.size_toArray, List.length_append, hpo]
    have : (rows.length + m) * i.size ≤ cap * i.size := Nat.mul_le_mul_right _ hroom
    rw [Nat.add_mul] at this
    omega
   have hst := run_storeCells_at P g (o + rows.length * i.size) E news.flatten 0 _ w hg' hfit h1
   simp only [Nat.add_zero] at hst
   have hfc := run_firstCells_some (P := P) w i.size m src m cp news.flatten hnl hnews
   have hr : (Builtin.append_ #[t, t] ty #[.slice (some ⟨g, o, none⟩) rows.length cap, .slice (some src) m cp]).run P w = .ok (.slice (some ⟨g, o, none⟩) (rows.length + m) cap) (w.setRow g ((pre ++ (rows.flatten ++ j)).toArray.toList.take (o + rows.length * i.size) ++ news.flatten ++ (pre ++ (rows.flatten ++ j)).toArray.toList.drop (o + rows.length * i.size + news.flatten.length)).toArray) := by
    simp [Builtin.append_, run_underlying ht, sizeOf, typeInfo, hi, Builtin.lenOf, hroom, hfc, Addr.add_lit, hst]
   have hset := setRow_heap w g (pre ++ (rows.flatten ++ j)).toArray ((pre ++ (rows.flatten ++ j)).toArray.toList.take (o + rows.length * i.size) ++ news.flatten ++ (pre ++ (rows.flatten ++ j)).toArray.toList.drop (o + rows.length * i.size + news.flatten.length)).toArray E (0, 0) hg'
   refine ⟨_, _, hr, ?_, ⟨rfl, rfl, rfl, by simp, fz_one (b := g) (fun o ho => by rw [hg'] at ho; cases ho; rfl) (fun o ho => by rw [hset] at ho; cases ho; rfl) fun c hc => setRow_other w g c _ hc⟩, by simp⟩
   have htk : (pre ++ (rows.flatten ++ j)).take (o + rows.length * i.size) = pre ++ rows.flatten := by
    rw [← List.append_assoc, List.take_left' (by rw [List.length_append, hpo, hrl])]
   have hdr : (pre ++ (rows.flatten ++ j)).drop (o + rows.length * i.size + news.flatten.length) = j.drop news.flatten.length := by
    rw [← List.drop_drop, ← List.append_assoc, List.drop_left' (by rw [List.length_append, hpo, hrl])]
   simp only [htk, hdr] at hset ⊢
   refine ⟨⟨hall, .inr ⟨g, o, cap, pre, j.drop news.flatten.length, by rw [List.length_append, hl], ?_, hpo, by rw [List.length_append, hl]; exact hroom, hcm, ?_⟩⟩, fun b ⟨o', m', cp', hv⟩ => ?_, ?_⟩
   ·show w.setRow g _ |>.heap[g]? = _
    rw [hset]; simp [cl]
   ·rw [List.length_append, List.length_drop, flatten_len hall, List.length_append, hl, hnl]
    rw [List.length_append, hrl] at hcs
    have h5 : (rows.length + m) * i.size ≤ cap * i.size := Nat.mul_le_mul_right _ hroom
    rw [Nat.add_mul] at h5 ⊢
    omega
   ·cases hv; exact hh.2.1 _ ⟨_, _, _, rfl⟩
   ·exact HoldsF.loc hh.2.2 fun b hb => (setRow_other w g b _ (fun e => hh.2.1 b ⟨o, rows.length, cap, by rw [e]⟩ hb)).symm
  ·have holds : ∀ k u, rows.flatten[k]? = some u → w.cell? ((⟨g, o, none⟩ : Addr).add k) = some u := fun k u hu => by
    rw [Addr.add_lit]
    have hlt := (List.getElem?_eq_some_iff.1 hu).1
    simp only [World.cell?, hg', List.getElem?_toArray, Option.isSome_none, Bool.false_eq_true, if_false]
    rw [List.getElem?_append_right (by omega), hpo, show o + k - o = k by omega, List.getElem?_append_left hlt, hu]
   have hr := run_append_grow (P := P) w t ty E i z ht hi hz ⟨g, o, none⟩ rows.length cap rows.flatten hrl holds src m cp news.flatten hnl hnews (by omega) (by omega) (growslice_fits (by omega) hb)
   have := newrow cap (by omega) _ rfl
   exact ⟨_, _, hr, this.1, this.2, by simp⟩
end
end Go.Ck
namespace Go.Ck
open Go Go.RowKit

section
variable {P : Program} {e : Env} {h h' : SH} {ty : TypeId}
theorem rd_vrk {b o n cp m k sz : Nat} {E : TypeId} {rows : List (List Value)} {r : List Value} {v : Value} (hm : rows[m]? = some r) (hk : r[k]? = some v) : Rd (VR (.slice (some ⟨b, o, none⟩) n cp) E sz rows) ⟨b, o + m * sz + k, none⟩ v := rds_at (rds_vr hm) hk
theorem v_sliceTail {T E : TypeId} {x y : Operand} {b o n cp lo sz : Nat} {i : Int} {k : IntKind} (hx : e.ev? x = some (.slice (some ⟨b, o, none⟩) n cp)) (hy : e.ev? y = some (.int k i)) (hT : SlE P T E sz)
  (hi' : i = (lo : Int)) (h1 : lo ≤ n) (hc : n ≤ cp) : Vop P e h (.slice T x (some y) none none) ty (.slice (some ⟨b, if cp = lo then o else o + lo * sz, none⟩) (n - lo) (cp - lo)) :=
 ⟨by simp, by simp, fun ρ w d pos after g hρ _ => by
  subst hi'
  have hT' : P.underlying T = some (.slice (P.elem T)) := by simp [Program.elem, hT.1]
  have he : P.elem T = E := by simp [Program.elem, hT.1]
  have hr := run_slice_l (P := P) w T (some ⟨b, o, none⟩) n cp hT' k lo (by omega) (by omega)
  have hs : sliced (some ⟨b, o, none⟩) lo n cp sz = .slice (some ⟨b, if cp = lo then o else o + lo * sz, none⟩) (n - lo) (cp - lo) := by
   unfold sliced; by_cases hcl : cp = lo <;> simp [hcl, Addr.add_lit]
  simp only [he, hT.2 w, Result.andThen_ok, Int.toNat_natCast, hs] at hr
  simp only [execOp, hρ x _ hx, Option.map_some, Option.map_none, hρ y _ hy, Sem.run_bind, run_sliceAt_slice w T _ _ _ _ hT', hr, Result.andThen_ok, Sem.run_pure]⟩
theorem v_sliceHead {T E : TypeId} {x y : Operand} {b o n cp hi sz : Nat} {i : Int} {k : IntKind} (hx : e.ev? x = some (.slice (some ⟨b, o, none⟩) n cp)) (hy : e.ev? y = some (.int k i)) (hT : SlE P T E sz)
  (hi' : i = (hi : Int)) (h1 : hi ≤ cp) : Vop P e h (.slice T x none (some y) none) ty (.slice (some ⟨b, o, none⟩) hi cp) :=
 ⟨by simp, by simp, fun ρ w d pos after g hρ _ => by
  subst hi'
  have hT' : P.underlying T = some (.slice (P.elem T)) := by simp [Program.elem, hT.1]
  have he : P.elem T = E := by simp [Program.elem, hT.1]
  have hr := run_slice_h (P := P) w T (some ⟨b, o, none⟩) n cp hT' k hi (by omega) (by omega)
  have hs : sliced (some ⟨b, o, none⟩) 0 hi cp sz = .slice (some ⟨b, o, none⟩) hi cp := by
   unfold sliced; by_cases hcl : cp = 0 <;> simp [hcl, Addr.add_lit]
  simp only [he, hT.2 w, Result.andThen_ok, Int.toNat_natCast, Int.toNat_zero, hs] at hr
  simp only [execOp, hρ x _ hx, Option.map_some, Option.map_none, hρ y _ hy, Sem.run_bind, run_sliceAt_slice w T _ _ _ _ hT', hr, Result.andThen_ok, Sem.run_pure]⟩
end

/-! ## What is known without a step -/
section
variable {c : Cx} {ops : Array Oper} {K : Act → World → Prop} {rest : List Oper} {e : Env} {h h' : SH} {Q : Exit → Act → World → Prop} {x : Code} {ex : Exit} {r : Res}
theorem cd_ok (s : Sel h r h') (hc : (∃ f, r.ok f) → Cd c x Q e h) : Cd c x Q e h := fun a w hk hh hw => hc ⟨_, (hh.sel s).1⟩ a w hk hh hw
theorem st_ok (s : Sel h r h') (hc : (∃ f, r.ok f) → St c ops K rest e h) : St c ops K rest e h := fun a w hk hh hw => hc ⟨_, (hh.sel s).1⟩ a w hk hh hw
theorem xt_ok (s : Sel h r h') (hc : (∃ f, r.ok f) → Xt c ex Q e h) : Xt c ex Q e h := fun a w hk hh hw => hc ⟨_, (hh.sel s).1⟩ a w hk hh hw
def Vw (h h' : SH) : Prop := ∀ w : World, Holds w h → Holds w h'
theorem cd_vw (hv : Vw h h') (hc : Cd c x Q e h') : Cd c x Q e h := fun a w hk hh hw => hc a w hk (hv w hh) hw
theorem st_vw (hv : Vw h h') (hc : St c ops K rest e h') : St c ops K rest e h := fun a w hk hh hw => hc a w hk (hv w hh) hw
theorem xt_vw (hv : Vw h h') (hc : Xt c ex Q e h') : Xt c ex Q e h := fun a w hk hh hw => hc a w hk (hv w hh) hw
theorem Vw.sel {k : SH} (s : Sel h r h') (hv : Vw (r :: h') k) : Vw h k := fun w hh => hv w (hh.sel s)
theorem Vw.pk {k hr m : SH} (p : Pk h k hr) (hv : Vw (k ++ hr) m) : Vw h m := fun w hh => hv w (hh.pk p)
theorem Vw.trans {a b d : SH} (p : Vw a b) (q : Vw b d) : Vw a d := fun w h => q w (p w h)
theorem Vw.refl : Vw h h := fun _ hh => hh
theorem Vw.frame {a b : SH} (hv : Vw a b) (hl : ∀ w : World, Holds w a → ∀ x, SH.dom b x → SH.dom a x) {k : SH} : Vw (a ++ k) (b ++ k) := fun w hh => by
 obtain ⟨h1, h2, h3⟩ := HoldsF.append.1 hh
 exact HoldsF.append.2 ⟨hv w h1, h2, fun x hx => h3 x (hl w h1 x hx)⟩
theorem vw_star {L k : SH} : Vw (Res.star L :: k) (L ++ k) := fun _ hh => holds_star1.1 hh
theorem vw_unstar {L k : SH} : Vw (L ++ k) (Res.star L :: k) := fun _ hh => holds_star1.2 hh
end

/-! ## Rows -/
section
variable {v : Value} {E : TypeId} {sz : Nat} {rows rows' : List (List Value)} {h h' : SH}
theorem vw_tail {b o n cp m : Nat} (hm : m ≤ rows.length) : Vw (VR (.slice (some ⟨b, o, none⟩) n cp) E sz rows :: h) (VR (.slice (some ⟨b, if cp = m then o else o + m * sz, none⟩) (n - m) (cp - m)) E sz (rows.drop m) :: h) := fun _ hh => hh.vr_tail hm
theorem vw_take {b o n cp m : Nat} (hm : m ≤ rows.length) : Vw (VR (.slice (some ⟨b, o, none⟩) n cp) E sz rows :: h) (VR (.slice (some ⟨b, o, none⟩) m cp) E sz (rows.take m) :: h) := fun _ hh => hh.vr_take hm
theorem vw_of {b n : Nat} {cells : List Value} (rows : List (List Value)) (hc : cells = rows.flatten) (h1 : ∀ r ∈ rows, r.length = sz) (hn : rows.length = n) (hm : n ≤ maxLen) : Vw (pt b (cl cells E) :: h) (VR (.slice (some ⟨b, 0, none⟩) n n) E sz rows :: h) := fun _ hh => hh.vr_of hc h1 hn hm
theorem vw_nil (E : TypeId) (sz : Nat) : Vw h (VR (.slice none 0 0) E sz [] :: h) := fun _ hh => hh.vr_nil E sz
end
section
variable {c : Cx} {ops : Array Oper} {K : Act → World → Prop} {rest : List Oper} {e : Env} {h h' : SH} {Q : Exit → Act → World → Prop} {x : Code} {ex : Exit}
variable {v : Value} {E : TypeId} {sz : Nat} {rows rows' : List (List Value)}
theorem cd_row (s : Sel h (VR v E sz rows) h') (h0 : v = .slice none 0 0 → rows = [] → Cd c x Q e h) (h1 : ∀ b o cp, v = .slice (some ⟨b, o, none⟩) rows.length cp → rows.length ≤ cp → cp ≤ maxLen → Cd c x Q e h) : Cd c x Q e h :=
 cd_ok s fun ⟨_, hf⟩ => (VR.form hf).elim (fun ⟨a, b⟩ => h0 a b) fun ⟨b, o, cp, h2, h3, h4⟩ => h1 b o cp h2 h3 h4
theorem st_row (s : Sel h (VR v E sz rows) h') (h0 : v = .slice none 0 0 → rows = [] → St c ops K rest e h) (h1 : ∀ b o cp, v = .slice (some ⟨b, o, none⟩) rows.length cp → rows.length ≤ cp → cp ≤ maxLen → St c ops K rest e h) : St c ops K rest e h :=
 st_ok s fun ⟨_, hf⟩ => (VR.form hf).elim (fun ⟨a, b⟩ => h0 a b) fun ⟨b, o, cp, h2, h3, h4⟩ => h1 b o cp h2 h3 h4
theorem cd_rowf (s : Sel h (VR v E sz rows) h') (hc : ∀ a cp, v = .slice a rows.length cp → rows.length ≤ cp → cp ≤ maxLen → Cd c x Q e h) : Cd c x Q e h :=
 cd_row s (fun h1 h2 => hc none 0 (by rw [h1, h2]; rfl) (by rw [h2]; exact Nat.le_refl _) (Nat.zero_le _)) fun b o cp h1 h2 h3 => hc _ cp h1 h2 h3
theorem st_rowf (s : Sel h (VR v E sz rows) h') (hc : ∀ a cp, v = .slice a rows.length cp → rows.length ≤ cp → cp ≤ maxLen → St c ops K rest e h) : St c ops K rest e h :=
 st_row s (fun h1 h2 => hc none 0 (by rw [h1, h2]; rfl) (by rw [h2]; exact Nat.le_refl _) (Nat.zero_le _)) fun b o cp h1 h2 h3 => hc _ cp h1 h2 h3
theorem st_vr {T : TypeId} {x y : Operand} {ty : TypeId} {pos : String} {after : Array Edge} {b o n cp m k : Nat} {r : List Value} {u : Value}
  (hx : e.ev? x = some (.pointer (some ⟨b, o + m * sz + k, none⟩))) (hy : e.ev? y = some u) (hT : Sz c.P T 1) (hv : u.oneCell' = true) (hm : rows[m]? = some r) (hk : k < sz) (hl : rows.set m (r.set k u) = rows') (hs : Sel h (VR (.slice (some ⟨b, o, none⟩) n cp) E sz rows) h')
  (hn : St c ops K rest e (VR (.slice (some ⟨b, o, none⟩) n cp) E sz rows' :: h')) :
  St c ops K (⟨none, .store T x y, ty, pos, after, none⟩ :: rest) e h :=
 st_any (by simp) fun a w hk' hh hs' => by
  obtain ⟨⟨l, h1, h2⟩, h3⟩ := (hh.sel hs).vr_set (x := u) hm hk
  have hr := run_store1 hT hv (E := E) (l := l) h1 h2
  simp only [execOp, hk'.ev hx, hk'.ev hy, Sem.run_bind, hr, Result.andThen_ok, Sem.run_pure]
  rw [hl] at h3
  exact hn _ _ hk' h3 (hs'.trans (Same.setCell _ _ _))
theorem st_appA {d : Nat} {t ty : TypeId} {x y : Operand} {pos : String} {after : Array Edge} {z : Value} {bytes m cp : Nat} {src : Addr} (news : List (List Value))
  (hx : e.ev? x = some v) (hy : e.ev? y = some (.slice (some src) m cp)) (ht : c.P.underlying t = some (.slice E)) (hE : Inf c.P E z sz bytes) (hzs : z.cells.size = sz) (hsz : 0 < sz)
  (hs : Sel h (VR v E sz rows) h') (hn1 : ∀ r ∈ news, r.length = sz) (hl : news.length = m) (hnews : ∀ j u, news.flatten[j]? = some u → At h (src.add j) u) (h1 : ∀ u ∈ news.flatten, u.oneCell' = true)
  (hb : (rows.length + m) * bytes ≤ 140737488355328) (h63 : rows.length + m ≤ 9223372036854775807) (hd : d < c.n)
  (hnx : ∀ v', v'.oneCell' = true → (v' = .slice none 0 0 ↔ v = .slice none 0 0 ∧ m = 0) → St c ops K rest ((d, v') :: e) (VR v' E sz (rows ++ news) :: h')) :
  St c ops K (⟨some d, .call { callee := .builtin .append, args := #[x, y], argTypes := #[t, t] }, ty, pos, after, none⟩ :: rest) e h :=
 st_any (by simp) fun a w hk hh hw => by
  obtain ⟨v', w', hr, hH, hS, hv⟩ := run_append_vr (P := c.P) ty ht hE hzs hsz (hh.sel hs) (src := src) (cp := cp) hn1 hl (fun j u hu => (hnews j u hu).cell hh) h1 hb h63
  simp only [execOp, resolve, invoke, builtin, hk.ev hx, hk.ev hy, Sem.run_bind, Sem.run_pure, Result.andThen_ok, List.map_toArray, List.map_cons, List.map_nil, hr]
  exact hnx v' (VR.one hH.1) hv _ w' (hk.put _ hd) hH (hw.trans hS)
theorem st_app {d : Nat} {t ty : TypeId} {x y : Operand} {pos : String} {after : Array Edge} {z : Value} {bytes sb so m cp : Nat} (news : List (List Value))
  (hx : e.ev? x = some v) (hy : e.ev? y = some (.slice (some ⟨sb, so, none⟩) m cp)) (ht : c.P.underlying t = some (.slice E)) (hE : Inf c.P E z sz bytes) (hzs : z.cells.size = sz) (hsz : 0 < sz)
  (hs : Sel h (VR v E sz rows) h') (hn1 : ∀ r ∈ news, r.length = sz) (hl : news.length = m) (hnews : ∀ j u, news.flatten[j]? = some u → At h ⟨sb, so + j, none⟩ u) (h1 : ∀ u ∈ news.flatten, u.oneCell' = true)
  (hb : (rows.length + m) * bytes ≤ 140737488355328) (h63 : rows.length + m ≤ 9223372036854775807) (hd : d < c.n)
  (hnx : ∀ v', v'.oneCell' = true → (v' = .slice none 0 0 ↔ v = .slice none 0 0 ∧ m = 0) → St c ops K rest ((d, v') :: e) (VR v' E sz (rows ++ news) :: h')) :
  St c ops K (⟨some d, .call { callee := .builtin .append, args := #[x, y], argTypes := #[t, t] }, ty, pos, after, none⟩ :: rest) e h :=
 st_appA news hx hy ht hE hzs hsz hs hn1 hl (fun j u hu => by rw [Addr.add_lit]; exact hnews j u hu) h1 hb h63 hd hnx
theorem st_bs0 {d : Nat} {T ty : TypeId} {pos : String} {after : Array Edge} {z : Value} {bytes : Nat} (hT : c.P.underlying T = some (.slice E)) (hE : Inf c.P E z sz bytes)
  (hnx : ∀ b, St c ops K rest ((d, .slice (some ⟨b, 0, none⟩) 0 0) :: e) (VR (.slice (some ⟨b, 0, none⟩) 0 0) E sz [] :: h)) (hd : d < c.n := by exact ltn rfl) :
  St c ops K (⟨some d, .buildSlice T 0 #[], ty, pos, after, none⟩ :: rest) e h :=
 st_buildSlice0 (sz := sz) hT hE hd fun b => fun a w hk hh hw => hnx b a w hk (by
  obtain ⟨h1, h2, h3⟩ := hh
  rcases h1.2 with ⟨h4, _⟩ | ⟨b', cp, j, h4, h5, _⟩
  ·cases h4
  ·cases h4
   exact ⟨⟨by simp, .inr ⟨b, 0, 0, [], j, rfl, by simpa using h5, rfl, Nat.le_refl _, Nat.zero_le _, by simp⟩⟩, fun x ⟨o, m, cp, hv⟩ => (by cases hv; exact h2 _ ⟨_, _, rfl⟩), h3⟩) hw
end

/-! ## One of many -/
def upd {α : Type} (f : Nat → α) (i : Nat) (x : α) : Nat → α := fun k => if k = i then x else f k
theorem upd_same {α : Type} (f : Nat → α) (i : Nat) (x : α) : upd f i x i = x := if_pos rfl
theorem upd_ne {α : Type} (f : Nat → α) {i k : Nat} (x : α) (h : k ≠ i) : upd f i x k = f k := if_neg h
theorem upd_self {α : Type} (f : Nat → α) (i : Nat) : upd f i (f i) = f := funext fun k => by unfold upd; split <;> simp_all
def foc {α : Type} (n i : Nat) (c : α) (g : Nat → α) : List α := (List.range n).map (upd g i c)
theorem foc_get {α : Type} {n i : Nat} {c : α} {g : Nat → α} (hi : i < n) : (foc n i c g)[i]? = some c := by simp [foc, List.getElem?_map, List.getElem?_range, hi, upd_same]
theorem foc_set {α : Type} {n i : Nat} {c c' : α} {g : Nat → α} : (foc n i c g).set i c' = foc n i c' g := by
 apply List.ext_getElem?
 intro k
 simp only [foc, List.getElem?_set, List.length_map, List.length_range, List.getElem?_map]
 by_cases hk : i = k
 ·subst hk
  rw [if_pos rfl]
  by_cases hn : i < n <;> simp [hn, upd_same, List.getElem?_range]
 ·rw [if_neg hk]
  by_cases hn : k < n <;> simp [hn, upd_ne _ _ (Ne.symm hk), List.getElem?_range]
theorem foc_self {α : Type} (n i : Nat) (g : Nat → α) : (List.range n).map g = foc n i (g i) g := by rw [foc, upd_self]
theorem foc_upd {α : Type} (n i : Nat) (c : α) (g : Nat → α) : foc n i c g = (List.range n).map (upd g i c) := rfl
def others (n i : Nat) : List Nat := (List.range n).filter fun k => decide (k ≠ i)
def RSx (n i : Nat) (R : Nat → Res) : Res := Res.star ((others n i).map R)
def RS (n : Nat) (R : Nat → Res) : Res := Res.star ((List.range n).map R)
theorem filter_ne_perm : ∀ (l : List Nat) (i : Nat), l.Nodup → i ∈ l → l.Perm (i :: l.filter fun k => decide (k ≠ i))
 | [], i, _, h => by simp at h
 | a :: t, i, hn, h => by
  rw [List.nodup_cons] at hn
  by_cases ha : a = i
  ·subst ha
   have : (t.filter fun k => decide (k ≠ a)) = t := List.filter_eq_self.2 fun x hx => by simp; exact fun e => hn.1 (e ▸ hx)
   rw [List.filter_cons_of_neg (by simp), this]
  ·rw [List.filter_cons_of_pos (by simp [ha])]
   have hm : i ∈ t := by rcases List.mem_cons.1 h with h | h; exact absurd h.symm ha; exact h
   exact ((filter_ne_perm t i hn.2 hm).cons a).trans (.swap _ _ _)
theorem RSx_congr {n i : Nat} {R R' : Nat → Res} (h : ∀ k, k ≠ i → R k = R' k) : RSx n i R = RSx n i R' := by
 unfold RSx
 congr 1
 refine List.map_congr_left fun k hk => ?_
 have := (List.mem_filter.1 hk).2
 simp at this
 exact h k this
theorem vw_foc {n i : Nat} {R : Nat → Res} {h : SH} (hi : i < n) : Vw (RS n R :: h) (R i :: RSx n i R :: h) := fun w hh => by
 have hp := (filter_ne_perm (List.range n) i List.nodup_range (by simpa using hi)).map R
 have h1 : Holds w ((List.range n).map R ++ h) := holds_star1.1 hh
 have h2 : Holds w (R i :: ((others n i).map R ++ h)) := h1.perm (hp.append_right h)
 have h3 : Holds w (((others n i).map R) ++ (R i :: h)) := h2.perm List.perm_middle.symm
 have h4 : Holds w (RSx n i R :: R i :: h) := holds_star1.2 h3
 exact h4.perm (.swap _ _ _)
theorem vw_unfoc {n i : Nat} {R : Nat → Res} {h : SH} (hi : i < n) : Vw (R i :: RSx n i R :: h) (RS n R :: h) := fun w hh => by
 have hp := (filter_ne_perm (List.range n) i List.nodup_range (by simpa using hi)).map R
 have h1 : Holds w (RSx n i R :: R i :: h) := hh.perm (.swap _ _ _)
 have h2 : Holds w ((others n i).map R ++ (R i :: h)) := holds_star1.1 h1
 have h3 : Holds w (R i :: ((others n i).map R ++ h)) := h2.perm List.perm_middle
 have h4 : Holds w ((List.range n).map R ++ h) := h3.perm ((hp.append_right h).symm)
 exact holds_star1.2 h4
theorem vw_unfoc' {n i : Nat} {R R' : Nat → Res} {h : SH} (hi : i < n) (hne : ∀ k, k ≠ i → R k = R' k) : Vw (R' i :: RSx n i R :: h) (RS n R' :: h) := by
 rw [RSx_congr hne]; exact vw_unfoc hi
theorem RS_in {n i : Nat} {R : Nat → Res} (hi : i < n) (p : Addr) (v : Value) (h : Rd (R i) p v) : Rd (RS n R) p v := fun w hw => by
 have h1 : HoldsF (hp w) ((List.range n).map R ++ []) := by simpa [RS, Res.star] using hw
 have h2 : Holds w (RS n R :: []) := holds_star1.2 h1
 exact h w (vw_foc hi w h2).1
section
variable {P : Program} {e : Env} {h : SH} {ty : TypeId}
theorem vY {T : TypeId} {x : Operand} {p : Addr} {v : Value} (hx : e.ev? x = some (.pointer (some p))) (hT : Ld1 P T)
  (ha : At h p v := by repeat (first | exact at_here (rd_cl (by rfl)) | exact at_here (rds_at (by assumption) (by rfl)) | exact at_here (rd_vrk (foc_get (by assumption)) (by rfl)) | exact at_here (rd_vrk (by rfl) (by rfl)) | exact at_here (by assumption) | apply at_there)) : Vop P e h (.load T x) ty v := v_load hx hT ha
theorem v_ldn {T : TypeId} {x : Operand} {b o n : Nat} {vs : List Value} {r : Res} {h' : SH} (hx : e.ev? x = some (.pointer (some ⟨b, o, none⟩))) (hT : LdN P T n) (hl : vs.length = n) (hr : Rds r b o vs) (s : Sel h r h' := by repeat (first | exact Sel.here | apply Sel.there)) :
  Vop P e h (.load T x) ty (.agg vs.toArray) := v_loadR hx hT hl s hr
end
section
variable {c : Cx} {ops : Array Oper} {K : Act → World → Prop} {rest : List Oper} {e : Env} {h k k' hr : SH} {Q : Exit → Act → World → Prop} {x : Code} {ex : Exit}
theorem cd_pv (hv : ∀ t, Vw (k ++ t) (k' ++ t)) (hc : Cd c x Q e (k' ++ hr)) (p : Pk h k hr := by repeat (first | exact Pk.nil | (apply Pk.cons; (repeat (first | exact Sel.here | apply Sel.there))))) : Cd c x Q e h := cd_vw (Vw.pk p (hv hr)) hc
theorem st_pv (hv : ∀ t, Vw (k ++ t) (k' ++ t)) (hc : St c ops K rest e (k' ++ hr)) (p : Pk h k hr := by repeat (first | exact Pk.nil | (apply Pk.cons; (repeat (first | exact Sel.here | apply Sel.there))))) : St c ops K rest e h := st_vw (Vw.pk p (hv hr)) hc
theorem xt_pv (hv : ∀ t, Vw (k ++ t) (k' ++ t)) (hc : Xt c ex Q e (k' ++ hr)) (p : Pk h k hr := by repeat (first | exact Pk.nil | (apply Pk.cons; (repeat (first | exact Sel.here | apply Sel.there))))) : Xt c ex Q e h := xt_vw (Vw.pk p (hv hr)) hc
theorem pv_eq {a b : Res} (he : a = b) : ∀ t, Vw ([a] ++ t) ([b] ++ t) := fun t => by rw [he]; exact Vw.refl
theorem pv_of {b n : Nat} {E : TypeId} {sz : Nat} {cells : List Value} (rows : List (List Value)) (hc : cells = rows.flatten) (h1 : ∀ r ∈ rows, r.length = sz) (hn : rows.length = n) (hm : n ≤ maxLen) : ∀ t, Vw ([pt b (cl cells E)] ++ t) ([VR (.slice (some ⟨b, 0, none⟩) n n) E sz rows] ++ t) := fun t => vw_of rows hc h1 hn hm
theorem pv_snoc {L : SH} {r : Res} : ∀ t, Vw ([Res.star L, r] ++ t) ([Res.star (L ++ [r])] ++ t) := fun t w hh => by
 refine holds_star1.2 ?_
 have h1 := holds_star1.1 hh
 rw [List.append_assoc]; exact h1
theorem pv_add {r : Res} (ht : ∀ (w : World) (h : SH), Holds w h → Holds w (r :: h)) : ∀ t, Vw ([] ++ t) ([r] ++ t) := fun t w hh => ht w t hh
theorem pv_pack {L : SH} : ∀ t, Vw (L ++ t) ([Res.star L] ++ t) := fun t => vw_unstar
theorem pv_unpack {L : SH} : ∀ t, Vw ([Res.star L] ++ t) (L ++ t) := fun t => vw_star
end
end Go.Ck
namespace Go.Wt
open Go Go.RowKit Go.Ck
def mC (m : Move) : List Value := [.int .i64 m.1, .int .i64 m.2.1, .int .i64 m.2.2]
def kC (k : Key) : List Value := [.int .i64 k.1, .int .i64 k.2]
def aC (a : Ask) : List Value := [.int .i64 a.1, .bool a.2]
def holdC (h : Hold) : List Value := [.int .i64 h.1, .int .i64 h.2.1.1, .int .i64 h.2.1.2, .bool h.2.2]
def dC (d : Did) : List Value := [.int .i64 d.1.1, .int .i64 d.1.2, .int .i64 d.2.1, .bool d.2.2.1, .bool d.2.2.2]
def lC (av : Value) (l : Line) : List Value := [.int .i64 l.key.1, .int .i64 l.key.2, av, .bool l.closed, .bool l.broken]
def pC (lv pv hv dv : Value) (p : Proc) : List Value := [lv, pv, .int .i64 p.job, .int .i64 p.pc, .bool p.waited, hv, .int .i64 p.waits, .int .i64 p.made, dv]
def eqC {α : Type} (f : α → List Value) : List Value → α → Prop := fun us x => us = f x
def lineR (S : Res) (us : List Value) (l : Line) : Prop := ∃ av, us = lC av l ∧ Row S 2 (eqC aC) av l.asks
def procR (S : Res) (us : List Value) (p : Proc) : Prop := ∃ lv pv hv dv, us = pC lv pv hv dv p ∧ Row S 5 (lineR S) lv p.lines ∧ Row S 2 (eqC kC) pv p.puts ∧ Row S 4 (eqC holdC) hv p.holds ∧ Row S 5 (eqC dC) dv p.did
def jobR (S : Res) (us : List Value) (l : List Move) : Prop := ∃ v, us = [v] ∧ Row S 3 (eqC mC) v l
def yardR (S : Res) (us : List Value) (y : Yard) : Prop := ∃ jv pv, us = [jv, pv] ∧ Row S 1 (jobR S) jv y.jobs ∧ Row S 9 (procR S) pv y.procs
section
variable {S S' : Res} (hr : ∀ p u, Rd S p u → Rd S' p u)
include hr
theorem lineR.mono {us : List Value} {l : Line} (h : lineR S us l) : lineR S' us l := let ⟨av, h1, h2⟩ := h; ⟨av, h1, h2.mono hr fun _ _ _ h => h⟩
theorem procR.mono {us : List Value} {p : Proc} (h : procR S us p) : procR S' us p :=
 let ⟨lv, pv, hv, dv, h1, h2, h3, h4, h5⟩ := h; ⟨lv, pv, hv, dv, h1, h2.mono hr fun _ _ _ h => lineR.mono hr h, h3.mono hr fun _ _ _ h => h, h4.mono hr fun _ _ _ h => h, h5.mono hr fun _ _ _ h => h⟩
theorem jobR.mono {us : List Value} {l : List Move} (h : jobR S us l) : jobR S' us l := let ⟨v, h1, h2⟩ := h; ⟨v, h1, h2.mono hr fun _ _ _ h => h⟩
theorem jobsR.mono {v : Value} {l : List (List Move)} (h : Row S 1 (jobR S) v l) : Row S' 1 (jobR S') v l := h.mono hr fun _ _ _ h => jobR.mono hr h
theorem procsR.mono {v : Value} {l : List Proc} (h : Row S 9 (procR S) v l) : Row S' 9 (procR S') v l := h.mono hr fun _ _ _ h => procR.mono hr h
theorem yardR.mono {us : List Value} {y : Yard} (h : yardR S us y) : yardR S' us y := let ⟨jv, pv, h1, h2, h3⟩ := h; ⟨jv, pv, h1, jobsR.mono hr h2, procsR.mono hr h3⟩
end

/-! ## Owned -/
structure PH where
 lv : Value
 pv : Value
 hv : Value
 dv : Value
 av : List Value
def pureR (φ : Prop) : Res := ⟨fun _ => False, fun _ => φ, fun _ _ _ h => h, fun _ _ _ h => h.elim⟩
theorem vw_pure {φ : Prop} {h : SH} (hp : φ) : Vw h (pureR φ :: h) := fun _ hh => ⟨hp, fun _ hb => hb.elim, hh⟩
theorem pureR_ok {φ : Prop} (h : ∃ f, (pureR φ).ok f) : φ := h.elim fun _ h => h
def lrows (avs : List Value) (ls : List Line) : List (List Value) := List.zipWith lC avs ls
def arows (avs : List Value) (ls : List Line) : List Res := List.zipWith (fun v l => VR v 117 2 (l.asks.map aC)) avs ls
def prl (H : PH) (p : Proc) : SH := [VR H.lv 120 5 (lrows H.av p.lines), VR H.pv 79 2 (p.puts.map kC), VR H.hv 161 4 (p.holds.map holdC), VR H.dv 81 5 (p.did.map dC), Res.star (arows H.av p.lines), pureR (H.av.length = p.lines.length)]
def PR (H : PH) (p : Proc) : Res := Res.star (prl H p)
def hpC (H : PH) (p : Proc) : List Value := pC H.lv H.pv H.hv H.dv p
def YO (pv : Value) (n : Nat) (H : Nat → PH) (f : Nat → Proc) : SH := [VR pv 77 9 ((List.range n).map fun k => hpC (H k) (f k)), RS n fun k => PR (H k) (f k)]
def YS (yb : Nat) (jv pv : Value) (n : Nat) (H : Nat → PH) (f : Nat → Proc) : SH := pt yb (cl [jv, pv] 27) :: YO pv n H f

theorem HoldsF.get {f : Nat → Option Obj} {L : SH} (h : HoldsF f L) {r : Res} (hr : r ∈ L) : r.ok f := by
 induction L with
 | nil => cases hr
 | cons a t ih =>
  rcases List.mem_cons.1 hr with rfl | hr
  ·exact h.1
  ·exact ih h.2.2 hr
theorem rd_mem {L : SH} {r : Res} (hr : r ∈ L) (p : Addr) (v : Value) (h : Rd r p v) : Rd (Res.star L) p v := fun w hw => h w (HoldsF.get hw hr)
theorem prl_procR {H : PH} {p : Proc} {S : Res} (hok : ∃ g, (PR H p).ok g) (hr : ∀ a u, Rd (PR H p) a u → Rd S a u) : procR S (hpC H p) p := by
 obtain ⟨g, hg⟩ := hok
 have hm : ∀ r ∈ prl H p, r.ok g := fun r h => HoldsF.get hg h
 have hrd : ∀ r ∈ prl H p, ∀ a u, Rd r a u → Rd S a u := fun r h a u hu => hr a u (rd_mem h a u hu)
 have hlen : H.av.length = p.lines.length := hm (pureR _) (by simp [prl])
 have ha : HoldsF g (arows H.av p.lines) := hm (Res.star (arows H.av p.lines)) (by simp [prl])
 refine ⟨H.lv, H.pv, H.hv, H.dv, rfl, ?_, ?_, ?_, ?_⟩
 ·refine row_vr (E := 120) (rows := lrows H.av p.lines) ⟨g, hm _ (by simp [prl])⟩ (by simp [lrows, hlen]) (hrd _ (by simp [prl])) fun i us l h1 h2 => ?_
  have hli : i < p.lines.length := (List.getElem?_eq_some_iff.1 h2).1
  have hai : H.av[i]? = some H.av[i] := List.getElem?_eq_getElem (by omega)
  have h3 : us = lC H.av[i] l := by
   have : (lrows H.av p.lines)[i]? = some (lC H.av[i] l) := by simp [lrows, List.getElem?_zipWith, hai, h2]
   rw [this] at h1; exact (Option.some.inj h1).symm
  have hmem : VR H.av[i] 117 2 (l.asks.map aC) ∈ arows H.av p.lines := List.mem_of_getElem? (i := i) (by simp [arows, List.getElem?_zipWith, hai, h2])
  exact ⟨H.av[i], h3, row_vr (E := 117) (rows := l.asks.map aC) ⟨g, HoldsF.get ha hmem⟩ (by simp) (fun a u hu => hrd (Res.star (arows H.av p.lines)) (by simp [prl]) a u (rd_mem hmem a u hu)) fun i us x g1 g2 => by
   simp [List.getElem?_map, g2] at g1; exact g1.symm⟩
 ·exact row_vr (E := 79) (rows := p.puts.map kC) ⟨g, hm _ (by simp [prl])⟩ (by simp) (hrd _ (by simp [prl])) fun i us x g1 g2 => by simp [List.getElem?_map, g2] at g1; exact g1.symm
 ·exact row_vr (E := 161) (rows := p.holds.map holdC) ⟨g, hm _ (by simp [prl])⟩ (by simp) (hrd _ (by simp [prl])) fun i us x g1 g2 => by simp [List.getElem?_map, g2] at g1; exact g1.symm
 ·exact row_vr (E := 81) (rows := p.did.map dC) ⟨g, hm _ (by simp [prl])⟩ (by simp) (hrd _ (by simp [prl])) fun i us x g1 g2 => by simp [List.getElem?_map, g2] at g1; exact g1.symm
theorem YO_row {pv : Value} {n : Nat} {H : Nat → PH} {f : Nat → Proc} {S : Res} (hok : ∃ g, HoldsF g (YO pv n H f)) (hr : ∀ r ∈ YO pv n H f, ∀ a u, Rd r a u → Rd S a u) : Row S 9 (procR S) pv ((List.range n).map f) := by
 obtain ⟨g, hg⟩ := hok
 have h2 : HoldsF g ((List.range n).map fun k => PR (H k) (f k)) := HoldsF.get hg (r := RS n fun k => PR (H k) (f k)) (by simp [YO])
 refine row_vr (E := 77) (rows := (List.range n).map fun k => hpC (H k) (f k)) ⟨g, HoldsF.get hg (by simp [YO])⟩ (by simp) (hr _ (by simp [YO])) fun i us p h3 h4 => ?_
 have hi : i < n := by have := (List.getElem?_eq_some_iff.1 h4).1; simpa using this
 simp [List.getElem?_map, List.getElem?_range, hi] at h3 h4
 subst h3 h4
 exact prl_procR ⟨g, HoldsF.get h2 (List.mem_map.2 ⟨i, by simpa using hi, rfl⟩)⟩ fun a u hu => hr (RS n fun k => PR (H k) (f k)) (by simp [YO]) a u (RS_in (R := fun k => PR (H k) (f k)) hi a u hu)

/-! ## One processor looked at -/
def FP (pv : Value) (n i : Nat) (H : Nat → PH) (f : Nat → Proc) (cells : List Value) : Res := VR pv 77 9 (foc n i cells fun k => hpC (H k) (f k))
def FX (n i : Nat) (H : Nat → PH) (f : Nat → Proc) : Res := RSx n i fun k => PR (H k) (f k)
theorem vw_focus {pv : Value} {n i : Nat} {H : Nat → PH} {f : Nat → Proc} {h : SH} (hi : i < n) : Vw (YO pv n H f ++ h) (FP pv n i H f (hpC (H i) (f i)) :: prl (H i) (f i) ++ (FX n i H f :: h)) := fun w hh => by
 have h1 : Holds w (VR pv 77 9 ((List.range n).map fun k => hpC (H k) (f k)) :: RS n (fun k => PR (H k) (f k)) :: h) := hh
 have h2 : Holds w (RS n (fun k => PR (H k) (f k)) :: VR pv 77 9 ((List.range n).map fun k => hpC (H k) (f k)) :: h) := h1.perm (.swap _ _ _)
 have h3 := vw_foc hi w h2
 have h4 := vw_star w h3
 rw [foc_self n i] at h4
 exact h4.perm (by
  refine (List.perm_append_comm_assoc _ [FX n i H f] _).trans ?_
  show (FX n i H f :: (prl (H i) (f i) ++ FP pv n i H f (hpC (H i) (f i)) :: h)).Perm _
  refine ((List.perm_middle).cons _).trans ((List.Perm.swap _ _ _).trans ?_)
  exact (List.perm_middle.symm).cons _)
theorem vw_unfocus {pv : Value} {n i : Nat} {H : Nat → PH} {f : Nat → Proc} {h : SH} {G : PH} {p : Proc} (hi : i < n) : Vw (FP pv n i H f (hpC G p) :: prl G p ++ (FX n i H f :: h)) (YO pv n (upd H i G) (upd f i p) ++ h) := fun w hh => by
 have h1 : Holds w (prl G p ++ (FX n i H f :: FP pv n i H f (hpC G p) :: h)) := hh.perm (by
  refine (List.perm_middle (l₁ := prl G p) (a := FP pv n i H f (hpC G p))).symm.trans ?_
  exact (List.Perm.swap _ _ _).append_left _)
 have h2 : Holds w (PR G p :: FX n i H f :: FP pv n i H f (hpC G p) :: h) := vw_unstar w h1
 have h3 := vw_unfoc' (R := fun k => PR (H k) (f k)) (R' := fun k => PR (upd H i G k) (upd f i p k)) (h := FP pv n i H f (hpC G p) :: h) hi (fun k hk => by simp only [upd_ne _ _ hk]) w (by
  simp only [upd_same]; exact h2)
 have h4 := h3.perm (.swap _ _ _)
 have h5 : FP pv n i H f (hpC G p) = VR pv 77 9 ((List.range n).map fun k => hpC (upd H i G k) (upd f i p k)) := by
  unfold FP
  rw [foc_upd]
  congr 2
  funext k
  by_cases hk : k = i
  ·subst hk; simp only [upd_same]
  ·simp only [upd_ne _ _ hk]
 rw [h5] at h4
 exact h4
end Go.Wt
