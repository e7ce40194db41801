/-
  Closed facts on the types,fields and functions of this seat,each reckoned by the kernel (printed by a program: facts.py). No condition.
  A row that a slice owns,opened and shut. Generic: nothing of the program is named here. No condition.
  Types of generic classes as plain data: equal types,depth,parts,formals replaced. No program in sight.
  Systems of generic classes as plain data: right types,right systems,what formals of ancestors are. No program in sight.
  Right systems of generic classes: what formals of ancestors are is the same by every way. No program in sight.
  Which types conform to which: an order; formals replaced. No program in sight.
  Types that conform do so after formals are replaced. No program in sight.
-/
import Derived.Test.YtaohbfnepjjdgaaGreatRows
import Derived.Test.YtaohbfnepjjdgaaGreatM5
import Derived.Test.YtaohbfnepjjdgaaGreatM4
import Derived.Test.YtaohbfnepjjdgaaGreatM2
set_option linter.unusedVariables false
set_option linter.unusedSimpArgs false
namespace Go.Proofs.YtaohbfnepjjdgaaGreat
open Go.Ck
namespace Fx
theorem mixed:Tryz.prog.follows .mixedOrders=true:=by kernel_rfl
theorem sz3:Sz Tryz.prog 3 1:=fun _=>by kernel_rfl
theorem sz4:Sz Tryz.prog 4 1:=fun _=>by kernel_rfl
theorem sz9:Sz Tryz.prog 9 1:=fun _=>by kernel_rfl
theorem sz23:Sz Tryz.prog 23 1:=fun _=>by kernel_rfl
theorem sz25:Sz Tryz.prog 25 5:=fun _=>by kernel_rfl
theorem sz29:Sz Tryz.prog 29 1:=fun _=>by kernel_rfl
theorem sz38:Sz Tryz.prog 38 2:=fun _=>by kernel_rfl
theorem sz48:Sz Tryz.prog 48 1:=fun _=>by kernel_rfl
theorem sz50:Sz Tryz.prog 50 1:=fun _=>by kernel_rfl
theorem sz54:Sz Tryz.prog 54 7:=fun _=>by kernel_rfl
theorem sz61:Sz Tryz.prog 61 2:=fun _=>by kernel_rfl
theorem sz76:Sz Tryz.prog 76 1:=fun _=>by kernel_rfl
theorem sz79:Sz Tryz.prog 79 6:=fun _=>by kernel_rfl
theorem sz85:Sz Tryz.prog 85 2:=fun _=>by kernel_rfl
theorem sz89:Sz Tryz.prog 89 2:=fun _=>by kernel_rfl
theorem sz94:Sz Tryz.prog 94 2:=fun _=>by kernel_rfl
theorem sz123:Sz Tryz.prog 123 2:=fun _=>by kernel_rfl
theorem sz132:Sz Tryz.prog 132 1:=fun _=>by kernel_rfl
theorem sz163:Sz Tryz.prog 163 1:=fun _=>by kernel_rfl
theorem sz165:Sz Tryz.prog 165 2:=fun _=>by kernel_rfl
theorem sz187:Sz Tryz.prog 187 2:=fun _=>by kernel_rfl
theorem sz194:Sz Tryz.prog 194 1:=fun _=>by kernel_rfl
theorem sz205:Sz Tryz.prog 205 1:=fun _=>by kernel_rfl
theorem sz217:Sz Tryz.prog 217 1:=fun _=>by kernel_rfl
theorem sl22:SlE Tryz.prog 22 54 7:=⟨Tryz.underlying22,sz54⟩
theorem sl23:SlE Tryz.prog 23 25 5:=⟨Tryz.underlying23,sz25⟩
theorem sl48:SlE Tryz.prog 48 94 2:=⟨Tryz.underlying48,sz94⟩
theorem sl49:SlE Tryz.prog 49 79 6:=⟨Tryz.underlying49,sz79⟩
theorem sl50:SlE Tryz.prog 50 9 1:=⟨Tryz.underlying50,sz9⟩
theorem sl133:SlE Tryz.prog 133 132 1:=⟨Tryz.underlying133,sz132⟩
theorem sl197:SlE Tryz.prog 197 50 1:=⟨Tryz.underlying197,sz50⟩
theorem sl209:SlE Tryz.prog 209 29 1:=⟨Tryz.underlying209,sz29⟩
theorem sl219:SlE Tryz.prog 219 3 1:=⟨Tryz.underlying219,sz3⟩
theorem mp83:MpS Tryz.prog 83 9 54:=⟨Tryz.underlying83,Tryz.underlying9⟩
theorem mp96:MpS Tryz.prog 96 9 142:=⟨Tryz.underlying96,Tryz.underlying9⟩
theorem mp141:MpS Tryz.prog 141 9 23:=⟨Tryz.underlying141,Tryz.underlying9⟩
theorem mp142:MpS Tryz.prog 142 9 23:=⟨Tryz.underlying142,Tryz.underlying9⟩
theorem mp163:MpS Tryz.prog 163 9 3:=⟨Tryz.underlying163,Tryz.underlying9⟩
theorem mp183:MpS Tryz.prog 183 9 141:=⟨Tryz.underlying183,Tryz.underlying9⟩
theorem mp205:MpS Tryz.prog 205 9 4:=⟨Tryz.underlying205,Tryz.underlying9⟩
theorem inf3:Inf Tryz.prog 3 (.int .i64 0) 1 8:=by unfold Inf; kernel_rfl
theorem inf4:Inf Tryz.prog 4 (.bool false) 1 1:=by unfold Inf; kernel_rfl
theorem inf9:Inf Tryz.prog 9 (.string ⟨#[]⟩) 1 16:=by unfold Inf; kernel_rfl
theorem inf23:Inf Tryz.prog 23 (.slice none 0 0) 1 24:=by unfold Inf; kernel_rfl
theorem inf25:Inf Tryz.prog 25 (.agg #[.int .i64 0,.string ⟨#[]⟩,.slice none 0 0,.bool false,.bool false]) 5 56:=by unfold Inf; kernel_rfl
theorem inf29:Inf Tryz.prog 29 (.int .i64 0) 1 8:=by unfold Inf; kernel_rfl
theorem inf50:Inf Tryz.prog 50 (.slice none 0 0) 1 24:=by unfold Inf; kernel_rfl
theorem inf54:Inf Tryz.prog 54 (.agg #[.string ⟨#[]⟩,.bool false,.slice none 0 0,.slice none 0 0,.slice none 0 0,.slice none 0 0,.slice none 0 0]) 7 144:=by unfold Inf; kernel_rfl
theorem inf79:Inf Tryz.prog 79 (.agg #[.string ⟨#[]⟩,.slice none 0 0,.slice none 0 0,.slice none 0 0,.slice none 0 0,.slice none 0 0]) 6 136:=by unfold Inf; kernel_rfl
theorem inf94:Inf Tryz.prog 94 (.agg #[.string ⟨#[]⟩,.string ⟨#[]⟩]) 2 32:=by unfold Inf; kernel_rfl
theorem inf132:Inf Tryz.prog 132 (.nilFunc) 1 8:=by unfold Inf; kernel_rfl
theorem inf141:Inf Tryz.prog 141 (.map none) 1 8:=by unfold Inf; kernel_rfl
theorem inf142:Inf Tryz.prog 142 (.map none) 1 8:=by unfold Inf; kernel_rfl
theorem ld3:Ld1 Tryz.prog 3:=Ld1.of Tryz.underlying3 rfl
theorem ld4:Ld1 Tryz.prog 4:=Ld1.of Tryz.underlying4 rfl
theorem ld9:Ld1 Tryz.prog 9:=Ld1.of Tryz.underlying9 rfl
theorem ld22:Ld1 Tryz.prog 22:=Ld1.of Tryz.underlying22 rfl
theorem ld23:Ld1 Tryz.prog 23:=Ld1.of Tryz.underlying23 rfl
theorem ld25:LdN Tryz.prog 25 5:=LdN.of Tryz.underlying25 sz25
theorem ld29:Ld1 Tryz.prog 29:=Ld1.of Tryz.underlying29 rfl
theorem ld48:Ld1 Tryz.prog 48:=Ld1.of Tryz.underlying48 rfl
theorem ld49:Ld1 Tryz.prog 49:=Ld1.of Tryz.underlying49 rfl
theorem ld50:Ld1 Tryz.prog 50:=Ld1.of Tryz.underlying50 rfl
theorem ld54:LdN Tryz.prog 54 7:=LdN.of Tryz.underlying54 sz54
theorem ld61:LdN Tryz.prog 61 2:=LdN.of Tryz.underlying61 sz61
theorem ld76:Ld1 Tryz.prog 76:=Ld1.of Tryz.underlying76 rfl
theorem ld79:LdN Tryz.prog 79 6:=LdN.of Tryz.underlying79 sz79
theorem ld83:Ld1 Tryz.prog 83:=Ld1.of Tryz.underlying83 rfl
theorem ld85:LdN Tryz.prog 85 2:=LdN.of Tryz.underlying85 sz85
theorem ld94:LdN Tryz.prog 94 2:=LdN.of Tryz.underlying94 sz94
theorem ld132:Ld1 Tryz.prog 132:=Ld1.of Tryz.underlying132 rfl
theorem ld163:Ld1 Tryz.prog 163:=Ld1.of Tryz.underlying163 rfl
theorem ld165:LdN Tryz.prog 165 2:=LdN.of Tryz.underlying165 sz165
theorem ld205:Ld1 Tryz.prog 205:=Ld1.of Tryz.underlying205 rfl
theorem ld217:Ld1 Tryz.prog 217:=Ld1.of Tryz.underlying217 rfl
theorem fa25_0:Fa Tryz.prog 25 0 0:=fun _ _ _=>by kernel_rfl
theorem fa25_1:Fa Tryz.prog 25 1 1:=fun _ _ _=>by kernel_rfl
theorem fa25_2:Fa Tryz.prog 25 2 2:=fun _ _ _=>by kernel_rfl
theorem fa25_3:Fa Tryz.prog 25 3 3:=fun _ _ _=>by kernel_rfl
theorem fa25_4:Fa Tryz.prog 25 4 4:=fun _ _ _=>by kernel_rfl
theorem fa38_0:Fa Tryz.prog 38 0 0:=fun _ _ _=>by kernel_rfl
theorem fa38_1:Fa Tryz.prog 38 1 1:=fun _ _ _=>by kernel_rfl
theorem fa54_0:Fa Tryz.prog 54 0 0:=fun _ _ _=>by kernel_rfl
theorem fa54_2:Fa Tryz.prog 54 2 2:=fun _ _ _=>by kernel_rfl
theorem fa54_3:Fa Tryz.prog 54 3 3:=fun _ _ _=>by kernel_rfl
theorem fa61_0:Fa Tryz.prog 61 0 0:=fun _ _ _=>by kernel_rfl
theorem fa61_1:Fa Tryz.prog 61 1 1:=fun _ _ _=>by kernel_rfl
theorem fa79_0:Fa Tryz.prog 79 0 0:=fun _ _ _=>by kernel_rfl
theorem fa79_1:Fa Tryz.prog 79 1 1:=fun _ _ _=>by kernel_rfl
theorem fa85_0:Fa Tryz.prog 85 0 0:=fun _ _ _=>by kernel_rfl
theorem fa85_1:Fa Tryz.prog 85 1 1:=fun _ _ _=>by kernel_rfl
theorem fa89_0:Fa Tryz.prog 89 0 0:=fun _ _ _=>by kernel_rfl
theorem fa89_1:Fa Tryz.prog 89 1 1:=fun _ _ _=>by kernel_rfl
theorem fa94_0:Fa Tryz.prog 94 0 0:=fun _ _ _=>by kernel_rfl
theorem fa94_1:Fa Tryz.prog 94 1 1:=fun _ _ _=>by kernel_rfl
theorem fa165_0:Fa Tryz.prog 165 0 0:=fun _ _ _=>by kernel_rfl
theorem fa165_1:Fa Tryz.prog 165 1 1:=fun _ _ _=>by kernel_rfl
theorem fa187_0:Fa Tryz.prog 187 0 0:=fun _ _ _=>by kernel_rfl
theorem fa187_1:Fa Tryz.prog 187 1 1:=fun _ _ _=>by kernel_rfl
theorem fa194_0:Fa Tryz.prog 194 0 0:=fun _ _ _=>by kernel_rfl
theorem al3:Al Tryz.prog 3 [.int .i64 0]:=fun _=>by kernel_rfl
theorem al4:Al Tryz.prog 4 [.bool false]:=fun _=>by kernel_rfl
theorem al23:Al Tryz.prog 23 [.slice none 0 0]:=fun _=>by kernel_rfl
theorem al25:Al Tryz.prog 25 [.int .i64 0,.string ⟨#[]⟩,.slice none 0 0,.bool false,.bool false]:=fun _=>by kernel_rfl
theorem al29:Al Tryz.prog 29 [.int .i64 0]:=fun _=>by kernel_rfl
theorem al38:Al Tryz.prog 38 [.slice none 0 0,.int .i64 0]:=fun _=>by kernel_rfl
theorem al48:Al Tryz.prog 48 [.slice none 0 0]:=fun _=>by kernel_rfl
theorem al50:Al Tryz.prog 50 [.slice none 0 0]:=fun _=>by kernel_rfl
theorem al54:Al Tryz.prog 54 [.string ⟨#[]⟩,.bool false,.slice none 0 0,.slice none 0 0,.slice none 0 0,.slice none 0 0,.slice none 0 0]:=fun _=>by kernel_rfl
theorem al61:Al Tryz.prog 61 [.int .i64 0,.slice none 0 0]:=fun _=>by kernel_rfl
theorem al76:Al Tryz.prog 76 [.nilFunc]:=fun _=>by kernel_rfl
theorem al79:Al Tryz.prog 79 [.string ⟨#[]⟩,.slice none 0 0,.slice none 0 0,.slice none 0 0,.slice none 0 0,.slice none 0 0]:=fun _=>by kernel_rfl
theorem al85:Al Tryz.prog 85 [.map none,.slice none 0 0]:=fun _=>by kernel_rfl
theorem al89:Al Tryz.prog 89 [.int .i64 0,.string ⟨#[]⟩]:=fun _=>by kernel_rfl
theorem al94:Al Tryz.prog 94 [.string ⟨#[]⟩,.string ⟨#[]⟩]:=fun _=>by kernel_rfl
theorem al123:Al Tryz.prog 123 [.slice none 0 0,.int .i64 0]:=fun _=>by kernel_rfl
theorem al163:Al Tryz.prog 163 [.map none]:=fun _=>by kernel_rfl
theorem al165:Al Tryz.prog 165 [.slice none 0 0,.map none]:=fun _=>by kernel_rfl
theorem al187:Al Tryz.prog 187 [.bool false,.int .i64 0]:=fun _=>by kernel_rfl
theorem al194:Al Tryz.prog 194 [.int .i64 0]:=fun _=>by kernel_rfl
theorem al205:Al Tryz.prog 205 [.map none]:=fun _=>by kernel_rfl
theorem al217:Al Tryz.prog 217 [.nilFunc]:=fun _=>by kernel_rfl
theorem en10:Enters Tryz.prog 10:=fun _ _=>by kernel_rfl
theorem en11:Enters Tryz.prog 11:=fun _ _=>by kernel_rfl
theorem en12:Enters Tryz.prog 12:=fun _ _=>by kernel_rfl
theorem en13:Enters Tryz.prog 13:=fun _ _=>by kernel_rfl
theorem en14:Enters Tryz.prog 14:=fun _ _=>by kernel_rfl
theorem en15:Enters Tryz.prog 15:=fun _ _=>by kernel_rfl
theorem en16:Enters Tryz.prog 16:=fun _ _=>by kernel_rfl
theorem en17:Enters Tryz.prog 17:=fun _ _=>by kernel_rfl
theorem en18:Enters Tryz.prog 18:=fun _ _=>by kernel_rfl
theorem en19:Enters Tryz.prog 19:=fun _ _=>by kernel_rfl
theorem en20:Enters Tryz.prog 20:=fun _ _=>by kernel_rfl
theorem en21:Enters Tryz.prog 21:=fun _ _=>by kernel_rfl
theorem en22:Enters Tryz.prog 22:=fun _ _=>by kernel_rfl
theorem en23:Enters Tryz.prog 23:=fun _ _=>by kernel_rfl
theorem en24:Enters Tryz.prog 24:=fun _ _=>by kernel_rfl
theorem en25:Enters Tryz.prog 25:=fun _ _=>by kernel_rfl
theorem en28:Enters Tryz.prog 28:=fun _ _=>by kernel_rfl
theorem en29:Enters Tryz.prog 29:=fun _ _=>by kernel_rfl
theorem en30:Enters Tryz.prog 30:=fun _ _=>by kernel_rfl
theorem en31:Enters Tryz.prog 31:=fun _ _=>by kernel_rfl
theorem en32:Enters Tryz.prog 32:=fun _ _=>by kernel_rfl
theorem en35:Enters Tryz.prog 35:=fun _ _=>by kernel_rfl
theorem en37:Enters Tryz.prog 37:=fun _ _=>by kernel_rfl
theorem en39:Enters Tryz.prog 39:=fun _ _=>by kernel_rfl
theorem en42:Enters Tryz.prog 42:=fun _ _=>by kernel_rfl
theorem en43:Enters Tryz.prog 43:=fun _ _=>by kernel_rfl
theorem en44:Enters Tryz.prog 44:=fun _ _=>by kernel_rfl
theorem en45:Enters Tryz.prog 45:=fun _ _=>by kernel_rfl
theorem en46:Enters Tryz.prog 46:=fun _ _=>by kernel_rfl
theorem en47:Enters Tryz.prog 47:=fun _ _=>by kernel_rfl
theorem en48:Enters Tryz.prog 48:=fun _ _=>by kernel_rfl
theorem en49:Enters Tryz.prog 49:=fun _ _=>by kernel_rfl
theorem en50:Enters Tryz.prog 50:=fun _ _=>by kernel_rfl
theorem en51:Enters Tryz.prog 51:=fun _ _=>by kernel_rfl
theorem en52:Enters Tryz.prog 52:=fun _ _=>by kernel_rfl
theorem en53:Enters Tryz.prog 53:=fun _ _=>by kernel_rfl
theorem en54:Enters Tryz.prog 54:=fun _ _=>by kernel_rfl
theorem en55:Enters Tryz.prog 55:=fun _ _=>by kernel_rfl
theorem en56:Enters Tryz.prog 56:=fun _ _=>by kernel_rfl
theorem en57:Enters Tryz.prog 57:=fun _ _=>by kernel_rfl
theorem en58:Enters Tryz.prog 58:=fun _ _=>by kernel_rfl
theorem en59:Enters Tryz.prog 59:=fun _ _=>by kernel_rfl
theorem en60:Enters Tryz.prog 60:=fun _ _=>by kernel_rfl
theorem en61:Enters Tryz.prog 61:=fun _ _=>by kernel_rfl
theorem en62:Enters Tryz.prog 62:=fun _ _=>by kernel_rfl
theorem en63:Enters Tryz.prog 63:=fun _ _=>by kernel_rfl
theorem en64:Enters Tryz.prog 64:=fun _ _=>by kernel_rfl
theorem en65:Enters Tryz.prog 65:=fun _ _=>by kernel_rfl
theorem en66:Enters Tryz.prog 66:=fun _ _=>by kernel_rfl
theorem en67:Enters Tryz.prog 67:=fun _ _=>by kernel_rfl
theorem en69:Enters Tryz.prog 69:=fun _ _=>by kernel_rfl
theorem en70:Enters Tryz.prog 70:=fun _ _=>by kernel_rfl
theorem en72:Enters Tryz.prog 72:=fun _ _=>by kernel_rfl
theorem en75:Enters Tryz.prog 75:=fun _ _=>by kernel_rfl
theorem en76:Enters Tryz.prog 76:=fun _ _=>by kernel_rfl
theorem en79:Enters Tryz.prog 79:=fun _ _=>by kernel_rfl
theorem en80:Enters Tryz.prog 80:=fun _ _=>by kernel_rfl
theorem en81:Enters Tryz.prog 81:=fun _ _=>by kernel_rfl
theorem en82:Enters Tryz.prog 82:=fun _ _=>by kernel_rfl
theorem en83:Enters Tryz.prog 83:=fun _ _=>by kernel_rfl
theorem en84:Enters Tryz.prog 84:=fun _ _=>by kernel_rfl
theorem en85:Enters Tryz.prog 85:=fun _ _=>by kernel_rfl
theorem en86:Enters Tryz.prog 86:=fun _ _=>by kernel_rfl
theorem en87:Enters Tryz.prog 87:=fun _ _=>by kernel_rfl
theorem en88:Enters Tryz.prog 88:=fun _ _=>by kernel_rfl
theorem en89:Enters Tryz.prog 89:=fun _ _=>by kernel_rfl
theorem en90:Enters Tryz.prog 90:=fun _ _=>by kernel_rfl
theorem en91:Enters Tryz.prog 91:=fun _ _=>by kernel_rfl
theorem en92:Enters Tryz.prog 92:=fun _ _=>by kernel_rfl
theorem en93:Enters Tryz.prog 93:=fun _ _=>by kernel_rfl
theorem en94:Enters Tryz.prog 94:=fun _ _=>by kernel_rfl
theorem en95:Enters Tryz.prog 95:=fun _ _=>by kernel_rfl
theorem en96:Enters Tryz.prog 96:=fun _ _=>by kernel_rfl
theorem en97:Enters Tryz.prog 97:=fun _ _=>by kernel_rfl
theorem en98:Enters Tryz.prog 98:=fun _ _=>by kernel_rfl
theorem en99:Enters Tryz.prog 99:=fun _ _=>by kernel_rfl
theorem en100:Enters Tryz.prog 100:=fun _ _=>by kernel_rfl
theorem en101:Enters Tryz.prog 101:=fun _ _=>by kernel_rfl
theorem en102:Enters Tryz.prog 102:=fun _ _=>by kernel_rfl
theorem en103:Enters Tryz.prog 103:=fun _ _=>by kernel_rfl
theorem en104:Enters Tryz.prog 104:=fun _ _=>by kernel_rfl
theorem en105:Enters Tryz.prog 105:=fun _ _=>by kernel_rfl
theorem en106:Enters Tryz.prog 106:=fun _ _=>by kernel_rfl
theorem en107:Enters Tryz.prog 107:=fun _ _=>by kernel_rfl
theorem en108:Enters Tryz.prog 108:=fun _ _=>by kernel_rfl
theorem en109:Enters Tryz.prog 109:=fun _ _=>by kernel_rfl
theorem en110:Enters Tryz.prog 110:=fun _ _=>by kernel_rfl
theorem en111:Enters Tryz.prog 111:=fun _ _=>by kernel_rfl
theorem en112:Enters Tryz.prog 112:=fun _ _=>by kernel_rfl
theorem en113:Enters Tryz.prog 113:=fun _ _=>by kernel_rfl
theorem en114:Enters Tryz.prog 114:=fun _ _=>by kernel_rfl
theorem en115:Enters Tryz.prog 115:=fun _ _=>by kernel_rfl
theorem en116:Enters Tryz.prog 116:=fun _ _=>by kernel_rfl
theorem en117:Enters Tryz.prog 117:=fun _ _=>by kernel_rfl
theorem en118:Enters Tryz.prog 118:=fun _ _=>by kernel_rfl
theorem en119:Enters Tryz.prog 119:=fun _ _=>by kernel_rfl
theorem en122:Enters Tryz.prog 122:=fun _ _=>by kernel_rfl
theorem en123:Enters Tryz.prog 123:=fun _ _=>by kernel_rfl
theorem en125:Enters Tryz.prog 125:=fun _ _=>by kernel_rfl
theorem en126:Enters Tryz.prog 126:=fun _ _=>by kernel_rfl
theorem en127:Enters Tryz.prog 127:=fun _ _=>by kernel_rfl
theorem en128:Enters Tryz.prog 128:=fun _ _=>by kernel_rfl
theorem en129:Enters Tryz.prog 129:=fun _ _=>by kernel_rfl
theorem en130:Enters Tryz.prog 130:=fun _ _=>by kernel_rfl
theorem en131:Enters Tryz.prog 131:=fun _ _=>by kernel_rfl
theorem en132:Enters Tryz.prog 132:=fun _ _=>by kernel_rfl
theorem en133:Enters Tryz.prog 133:=fun _ _=>by kernel_rfl
theorem en134:Enters Tryz.prog 134:=fun _ _=>by kernel_rfl
theorem en135:Enters Tryz.prog 135:=fun _ _=>by kernel_rfl
theorem en136:Enters Tryz.prog 136:=fun _ _=>by kernel_rfl
theorem en137:Enters Tryz.prog 137:=fun _ _=>by kernel_rfl
theorem en138:Enters Tryz.prog 138:=fun _ _=>by kernel_rfl
theorem en139:Enters Tryz.prog 139:=fun _ _=>by kernel_rfl
theorem en140:Enters Tryz.prog 140:=fun _ _=>by kernel_rfl
theorem en141:Enters Tryz.prog 141:=fun _ _=>by kernel_rfl
theorem en142:Enters Tryz.prog 142:=fun _ _=>by kernel_rfl
theorem en143:Enters Tryz.prog 143:=fun _ _=>by kernel_rfl
theorem en144:Enters Tryz.prog 144:=fun _ _=>by kernel_rfl
theorem en145:Enters Tryz.prog 145:=fun _ _=>by kernel_rfl
theorem en146:Enters Tryz.prog 146:=fun _ _=>by kernel_rfl
theorem en147:Enters Tryz.prog 147:=fun _ _=>by kernel_rfl
theorem en148:Enters Tryz.prog 148:=fun _ _=>by kernel_rfl
theorem en150:Enters Tryz.prog 150:=fun _ _=>by kernel_rfl
theorem en151:Enters Tryz.prog 151:=fun _ _=>by kernel_rfl
theorem en152:Enters Tryz.prog 152:=fun _ _=>by kernel_rfl
theorem en153:Enters Tryz.prog 153:=fun _ _=>by kernel_rfl
theorem en154:Enters Tryz.prog 154:=fun _ _=>by kernel_rfl
theorem en156:Enters Tryz.prog 156:=fun _ _=>by kernel_rfl
theorem en157:Enters Tryz.prog 157:=fun _ _=>by kernel_rfl
theorem en158:Enters Tryz.prog 158:=fun _ _=>by kernel_rfl
theorem en159:Enters Tryz.prog 159:=fun _ _=>by kernel_rfl
theorem en160:Enters Tryz.prog 160:=fun _ _=>by kernel_rfl
theorem en161:Enters Tryz.prog 161:=fun _ _=>by kernel_rfl
theorem en162:Enters Tryz.prog 162:=fun _ _=>by kernel_rfl
theorem en163:Enters Tryz.prog 163:=fun _ _=>by kernel_rfl
theorem en164:Enters Tryz.prog 164:=fun _ _=>by kernel_rfl
theorem en165:Enters Tryz.prog 165:=fun _ _=>by kernel_rfl
theorem en166:Enters Tryz.prog 166:=fun _ _=>by kernel_rfl
theorem en167:Enters Tryz.prog 167:=fun _ _=>by kernel_rfl
theorem en168:Enters Tryz.prog 168:=fun _ _=>by kernel_rfl
theorem en169:Enters Tryz.prog 169:=fun _ _=>by kernel_rfl
theorem en170:Enters Tryz.prog 170:=fun _ _=>by kernel_rfl
theorem en171:Enters Tryz.prog 171:=fun _ _=>by kernel_rfl
theorem en172:Enters Tryz.prog 172:=fun _ _=>by kernel_rfl
theorem en173:Enters Tryz.prog 173:=fun _ _=>by kernel_rfl
theorem en174:Enters Tryz.prog 174:=fun _ _=>by kernel_rfl
theorem en175:Enters Tryz.prog 175:=fun _ _=>by kernel_rfl
theorem en176:Enters Tryz.prog 176:=fun _ _=>by kernel_rfl
theorem en177:Enters Tryz.prog 177:=fun _ _=>by kernel_rfl
theorem en178:Enters Tryz.prog 178:=fun _ _=>by kernel_rfl
end Fx
end Go.Proofs.YtaohbfnepjjdgaaGreat
namespace Go.Ck
open Go Go.RowKit

def OpenRow (v:Value) (sz n:Nat) (l:List Value) (b cp:Nat) (j:List Value):Prop:=v = .slice (some ⟨b,0,none⟩) n cp∧l.length=n * sz∧n≤cp∧cp≤maxLen∧(l++j).length=cp * sz
section
variable {c:Cx} {Q:Exit→Act→World→Prop} {e:Env} {h h':SH} {x:Code} {v:Value} {E:TypeId} {sz n:Nat} {l l':List Value}
end
end Go.Ck
namespace Go.Hr
open Go
inductive Kt
 | mk (kind:Int) (name:Nm) (args:List Kt) (void sep:Bool)
namespace Kt
def kind:Kt→Int | .mk k _ _ _ _=>k
def name:Kt→Nm | .mk _ n _ _ _=>n
def args:Kt→List Kt | .mk _ _ az _ _=>az
def void:Kt→Bool | .mk _ _ _ v _=>v
def sep:Kt→Bool | .mk _ _ _ _ s=>s
end Kt
mutual
def Kt.same:Kt→Kt→Bool
 | .mk k n az v s,.mk k' n' az' v' s'=>k == k' && n == n' && v == v' && s == s' && sames az az'
def sames:List Kt→List Kt→Bool
 | [],[]=>true
 | a::t,b::u=>a.same b && sames t u
 | [],_::_=>false
 | _::_,[]=>false
end
mutual
theorem same_iff:∀ (a b:Kt),a.same b=true↔a=b
 | .mk k n az v s,.mk k' n' az' v' s'=>by
  simp only [Kt.same,Bool.and_eq_true,beq_iff_eq,sames_iff az az',Kt.mk.injEq]
  constructor
  ·rintro ⟨⟨⟨⟨h1,h2⟩,h3⟩,h4⟩,h5⟩; exact ⟨h1,h2,h5,h3,h4⟩
  ·rintro ⟨h1,h2,h5,h3,h4⟩; exact ⟨⟨⟨⟨h1,h2⟩,h3⟩,h4⟩,h5⟩
theorem sames_iff:∀ (a b:List Kt),sames a b=true↔a=b
 | [],[]=>by simp [sames]
 | a::t,b::u=>by simp only [sames,Bool.and_eq_true,same_iff a b,sames_iff t u,List.cons.injEq]
 | [],_::_=>by simp [sames]
 | _::_,[]=>by simp [sames]
end
instance:DecidableEq Kt:=fun a b=>decidable_of_iff _ (same_iff a b)
mutual
def Kt.depth:Kt→Nat
 | .mk _ _ az _ _=>depths az+1
def depths:List Kt→Nat
 | []=>0
 | a::t=>max a.depth (depths t)
end
theorem depths_mem:∀ {l:List Kt} {t:Kt},t∈l→t.depth≤depths l
 | a::l,t,h=>by
  unfold depths
  rcases List.mem_cons.1 h with rfl | h
  ·omega
  ·have:=depths_mem h; omega
theorem depth_args {t a:Kt} (h:a∈t.args):a.depth<t.depth:=by
 cases t
 have:=depths_mem h
 simp only [Kt.args] at this
 show a.depth<depths _+1; omega
mutual
def Kt.parts:Kt→Nat
 | .mk _ _ az _ _=>1+partss az
def partss:List Kt→Nat
 | []=>0
 | a::t=>a.parts+partss t
end
theorem partss_append:∀ (a b:List Kt),partss (a++b)=partss a+partss b
 | [],b=>by simp [partss]
 | x::a,b=>by simp only [List.cons_append,partss,partss_append a b]; omega
structure Fm where
 name:Nm
 bound:Nm
def fidx (F:List Fm) (n:Nm):Option Nat:=F.findIdx? fun f=>f.name == n
def Kt.flag (t:Kt) (v s:Bool):Kt:=.mk t.kind t.name t.args (t.void || v) (t.sep || s)
def Kt.with (t:Kt) (v s:Bool):Kt:=.mk t.kind t.name t.args v s
def actOf (F:List Fm) (A:List Kt) (n:Nm):Option Kt:=(fidx F n).bind fun i=>A[i]?
mutual
def Kt.subst (F:List Fm) (A:List Kt):Kt→Kt
 | .mk k n az v s=>if k=4 then (match actOf F A n with | some t=>t.flag v s | none=>.mk k n az v s) else if k=3 then .mk k n (substs F A az) v s else .mk k n az v s
def substs (F:List Fm) (A:List Kt):List Kt→List Kt
 | []=>[]
 | a::t=>a.subst F A::substs F A t
end
section
variable {F G:List Fm} {A B:List Kt}
theorem substs_map:∀ (l:List Kt),substs F A l=l.map (Kt.subst F A)
 | []=>rfl
 | a::t=>by rw [substs,substs_map t]; rfl
theorem flag_flag (t:Kt) (v s v' s':Bool):(t.flag v s).flag v' s'=t.flag (v || v') (s || s'):=by simp [Kt.flag,Kt.kind,Kt.name,Kt.args,Kt.void,Kt.sep,Bool.or_assoc]
theorem flag_none (t:Kt):t.flag false false=t:=by cases t; simp [Kt.flag,Kt.kind,Kt.name,Kt.args,Kt.void,Kt.sep]
theorem subst_formal {n:Nm} {az:List Kt} {v s:Bool}:Kt.subst F A (.mk 4 n az v s)=(match actOf F A n with | some t=>t.flag v s | none=>.mk 4 n az v s):=by
 rw [Kt.subst,if_pos rfl]
theorem subst_class {n:Nm} {az:List Kt} {v s:Bool}:Kt.subst F A (.mk 3 n az v s) = .mk 3 n (az.map (Kt.subst F A)) v s:=by
 rw [Kt.subst,if_neg (by decide),if_pos rfl,substs_map]
theorem subst_other {k:Int} {n:Nm} {az:List Kt} {v s:Bool} (h4:k≠4) (h3:k≠3):Kt.subst F A (.mk k n az v s) = .mk k n az v s:=by
 rw [Kt.subst,if_neg h4,if_neg h3]
theorem subst_flag (t:Kt) (v s:Bool):(t.flag v s).subst F A=(t.subst F A).flag v s:=by
 obtain ⟨k,n,az,v',s'⟩:=t
 show Kt.subst F A (.mk k n az (v' || v) (s' || s))=_
 by_cases h4:k=4
 ·subst h4
  rw [subst_formal,subst_formal]
  cases actOf F A n with
  | none=>rfl
  | some t=>simp only []; rw [flag_flag]
 ·by_cases h3:k=3
  ·subst h3; rw [subst_class,subst_class]; rfl
  ·rw [subst_other h4 h3,subst_other h4 h3]; rfl
inductive Cl (F:List Fm) (m:Nat):Kt→Prop
 | fml {n:Nm} {v s:Bool} {i:Nat}:fidx F n=some i→i<m→Cl F m (.mk 4 n [] v s)
 | cls {n:Nm} {az:List Kt} {v s:Bool}:(∀ a∈az,Cl F m a)→Cl F m (.mk 3 n az v s)
theorem actOf_some {n:Nm} {i:Nat} (h:fidx F n=some i) (hi:i<A.length):actOf F A n=some A[i]:=by
 unfold actOf; rw [h,Option.bind_some,List.getElem?_eq_getElem hi]
theorem subst_subst {t:Kt} (h:Cl G B.length t):(t.subst G B).subst F A=t.subst G (B.map (Kt.subst F A)):=by
 induction h with
 | @fml n v s i hi hl =>
  rw [subst_formal,subst_formal,actOf_some hi hl,actOf_some hi (by simpa using hl)]
  simp only [List.getElem_map]
  rw [subst_flag]
 | @cls n az v s _ ih =>
  rw [subst_class,subst_class,subst_class,List.map_map]
  congr 1
  exact List.map_congr_left fun a ha=>ih a ha
theorem Cl.subst {t:Kt} {m:Nat} (h:Cl G B.length t) (hB:∀ b∈B,Cl F m b):Cl F m (t.subst G B):=by
 induction h with
 | @fml n v s i hi hl =>
  rw [subst_formal,actOf_some hi hl]
  have:=hB B[i] (List.getElem_mem hl)
  generalize B[i]=b at this
  cases this with
  | fml h1 h2=>exact .fml h1 h2
  | cls h1=>exact .cls h1
 | @cls n az v s _ ih =>
  rw [subst_class]
  refine .cls fun a ha=>?_
  obtain ⟨a',h1,rfl⟩:=List.mem_map.1 ha
  exact ih a' h1
def ownT (F:List Fm):List Kt:=F.map fun f=>.mk 4 f.name [] false false
theorem fidx_nodup (hn:(F.map (·.name)).Nodup) {i:Nat} (hi:i<F.length):fidx F (F[i]).name=some i:=by
 unfold fidx
 rw [List.findIdx?_eq_some_iff_getElem]
 refine ⟨hi,by simp,fun j hj=>?_⟩
 have:=(List.pairwise_iff_getElem.1 (List.nodup_iff_pairwise_ne.1 hn)) j i (by simp; omega) (by simpa using hi) hj
 simpa using this
theorem own_subst (hn:(F.map (·.name)).Nodup) (hl:A.length=F.length):(ownT F).map (Kt.subst F A)=A:=by
 apply List.ext_getElem
 ·simp [ownT,hl]
 ·intro i h1 h2
  have hi:i<F.length:=by omega
  simp only [ownT,List.getElem_map]
  rw [subst_formal,actOf_some (fidx_nodup hn hi) h2]
  exact flag_none _
theorem own_cl (hn:(F.map (·.name)).Nodup):∀ t∈ownT F,Cl F F.length t:=fun t ht=>by
 obtain ⟨i,hi,rfl⟩:=List.getElem_of_mem ht
 have hi':i<F.length:=by simpa [ownT] using hi
 simp only [ownT,List.getElem_map]
 exact .fml (fidx_nodup hn hi') hi'
end
end Go.Hr
namespace Go.Hr
open Go
structure Kp where
 name:Nm
 args:List Kt
structure KC where
 name:Nm
 formals:List Fm
 parents:List Kp
 feats:Nat
abbrev KS:=List KC
def KC.cls (x:KC):Cls:=⟨x.name,x.parents.map (·.name),x.feats⟩
def ksys (l:KS):Sys:=l.map KC.cls
def kfind (l:KS) (c:Nm):Option KC:=List.find? (fun x=>x.name == c) l
def fmsOf (l:KS) (c:Nm):List Fm:=((kfind l c).map (·.formals)).getD []
def root : Nm := "ANY".toUTF8.data.toList
section
variable {l:KS} {c:Nm} {x:KC}
theorem kfind_find:find (ksys l) c=(kfind l c).map KC.cls:=by
 unfold find kfind ksys
 rw [List.find?_map]
 rfl
theorem kfind_isC:(kfind l c).isSome=isC (ksys l) c:=by
 unfold isC; rw [kfind_find]; cases kfind l c <;> rfl
theorem kfind_some (h:kfind l c=some x):x.name=c∧x∈l:=⟨by simpa using List.find?_some h,List.mem_of_find?_eq_some h⟩
theorem kfind_mem (hR:Right (ksys l)) (hx:x∈l):kfind l x.name=some x:=by
 have hu:=hR.uniq
 obtain ⟨i,hi,rfl⟩:=List.getElem_of_mem hx
 unfold kfind
 rw [List.find?_eq_some_iff_getElem]
 refine ⟨by simp,i,hi,rfl,fun j hj=>?_⟩
 have:=(List.pairwise_iff_getElem.1 (List.nodup_iff_pairwise_ne.1 hu)) j i (by simp [nms,ksys]; omega) (by simp [nms,ksys]; omega) hj
 simpa [nms,ksys,KC.cls] using this
theorem ksys_mem (hx:x∈l):x.cls∈ksys l:=List.mem_map_of_mem hx
theorem kpar (hR:Right (ksys l)) (h:kfind l c=some x):par (ksys l) c=x.parents.map (·.name):=by
 obtain ⟨rfl,hx⟩:=kfind_some h
 exact hR.par_eq (ksys_mem hx)
theorem fmsOf_some (h:kfind l c=some x):fmsOf l c=x.formals:=by unfold fmsOf; rw [h]; rfl
end
/-! ## Right types -/
def boundOf (F:List Fm) (n:Nm):Nm:=(((fidx F n).bind (F[·]?)).map (·.bound)).getD []
def ctName (F:List Fm) (t:Kt):Nm:=if t.kind=4 then boundOf F t.name else t.name
def under (l:KS) (c b:Nm):Bool:=b == root || (c != root && has (ksys l) c b)
def isNmd (t:Kt):Bool:=t.kind == 3 || t.kind == 4
mutual
def Kt.inner (l : KS) (F : List Fm) : Kt → Int
 | .mk k n az v s =>
  if k=0∨k=1∨k=2 then (if n=[]∧az.length=0∧v=false∧s=false then 0 else 2)
  else if k=4 then (if az.length=0∧s=false then (if (fidx F n).isSome then 0 else 5) else 2)
  else if k=3 then (match kfind l n with
   | none=>if n=root then (if az.length=0 then 0 else 8) else 5
   | some x=>if az.length=x.formals.length then inners l F az (x.formals.map (·.bound)) else 8)
  else 2
def inners (l:KS) (F:List Fm):List Kt→List Nm→Int
 | [],_=>0
 | _::_,[]=>0
 | a::az,b::bs =>
  if isNmd a=false∨a.void=true∨a.sep=true then 8
  else if a.inner l F≠0 then a.inner l F
  else if under l (ctName F a) b=false then 8
  else inners l F az bs
end
def actE (l:KS) (F:List Fm) (a:Kt) (b:Nm):Int :=
 if isNmd a=false∨a.void=true∨a.sep=true then 8
 else if a.inner l F≠0 then a.inner l F
 else if under l (ctName F a) b=false then 8 else 0
theorem inners_cons {l : KS} {F : List Fm} {a : Kt} {az : List Kt} {b : Nm} {bs : List Nm} : inners l F (a :: az) (b :: bs) = if actE l F a b ≠ 0 then actE l F a b else inners l F az bs := by
 rw [inners]
 unfold actE
 by_cases h1:isNmd a=false∨a.void=true∨a.sep=true
 ·simp only [if_pos h1]; rfl
 ·simp only [if_neg h1]
  by_cases h2:a.inner l F≠0
  ·simp only [if_pos h2]
  ·simp only [if_neg h2]
   by_cases h3:under l (ctName F a) b=false
   ·simp only [if_pos h3]; rfl
   ·simp only [if_neg h3]; rfl
def rightK (l:KS) (F:List Fm) (t:Kt):Int:=if 40<t.depth then 3 else t.inner l F
structure ActOk (l:KS) (F:List Fm) (a:Kt) (b:Nm):Prop where
 nmd:isNmd a=true
 void:a.void=false
 sep:a.sep=false
 inn:a.inner l F=0
 und:under l (ctName F a) b=true
theorem actE_zero {l : KS} {F : List Fm} {a : Kt} {b : Nm} : actE l F a b = 0 ↔ ActOk l F a b := by
 unfold actE
 constructor
 ·intro h
  split at h
  ·cases h
  ·rename_i h1
   simp only [not_or,Bool.not_eq_false,Bool.not_eq_true] at h1
   split at h
   ·rename_i h2; exact absurd h h2
   ·rename_i h2
    split at h
    ·cases h
    ·rename_i h3
     exact ⟨h1.1,h1.2.1,h1.2.2,Classical.not_not.1 h2,by simpa using h3⟩
 ·rintro ⟨h1,h2,h3,h4,h5⟩
  simp [h1,h2,h3,h4,h5]
theorem inners_zero {l : KS} {F : List Fm} : ∀ {az : List Kt} {bs : List Nm}, az.length = bs.length → (inners l F az bs = 0 ↔ ∀ (i : Nat) a b, az[i]? = some a → bs[i]? = some b → ActOk l F a b)
 | [],[],_=>by simp [inners]
 | a :: az, b :: bs, h => by
  have ih:=inners_zero (l:=l) (F:=F) (az:=az) (bs:=bs) (by simpa using h)
  rw [inners_cons]
  constructor
  ·intro he
   split at he
   ·rename_i h1; exact absurd he h1
   ·rename_i h1
    have h1:=actE_zero.1 (Classical.not_not.1 h1)
    intro i a' b' ha hb
    cases i with
    | zero=>simp at ha hb; subst ha hb; exact h1
    | succ i=>exact ih.1 he i a' b' (by simpa using ha) (by simpa using hb)
  ·intro hall
   rw [actE_zero.2 (hall 0 a b rfl rfl),if_neg (by decide)]
   exact ih.2 fun i a' b' ha hb=>hall (i+1) a' b' (by simpa using ha) (by simpa using hb)
 | [],_::_,h=>by simp at h
 | _::_,[],h=>by simp at h
theorem inner_class {l : KS} {F : List Fm} {n : Nm} {az : List Kt} {v s : Bool} (h : Kt.inner l F (.mk 3 n az v s) = 0) :
  (kfind l n=none∧n=root∧az=[])∨∃ x,kfind l n=some x∧az.length=x.formals.length∧∀ (i:Nat) a f,az[i]? = some a→x.formals[i]? = some f→ActOk l F a f.bound:=by
 rw [Kt.inner,if_neg (by decide),if_neg (by decide),if_pos rfl] at h
 cases hk:kfind l n with
 | none =>
  rw [hk] at h
  simp only [] at h
  split at h
  ·rename_i h1
   split at h
   ·rename_i h2; exact .inl ⟨rfl,h1,List.eq_nil_of_length_eq_zero h2⟩
   ·cases h
  ·cases h
 | some x =>
  rw [hk] at h
  simp only [] at h
  split at h
  ·rename_i h1
   refine .inr ⟨x,rfl,h1,fun i a f ha hf=>?_⟩
   exact (inners_zero (by simpa using h1)).1 h i a f.bound ha (by rw [List.getElem?_map,hf]; rfl)
  ·cases h
theorem inner_formal {l : KS} {F : List Fm} {n : Nm} {az : List Kt} {v s : Bool} (h : Kt.inner l F (.mk 4 n az v s) = 0) : az = [] ∧ s = false ∧ ∃ i, fidx F n = some i ∧ i < F.length := by
 rw [Kt.inner,if_neg (by decide),if_pos rfl] at h
 split at h
 ·rename_i h1
  split at h
  ·rename_i h2
   obtain ⟨i,hi⟩:=Option.isSome_iff_exists.1 h2
   exact ⟨List.eq_nil_of_length_eq_zero h1.1,h1.2,i,hi,(List.findIdx?_eq_some_iff_getElem.1 hi).1⟩
  ·cases h
 ·cases h
theorem inner_cl {l : KS} {F : List Fm} : ∀ (d : Nat) (t : Kt), t.depth ≤ d → isNmd t = true → t.inner l F = 0 → Cl F F.length t
 | 0,t,hd,_,_=>by cases t; simp [Kt.depth] at hd
 | d + 1, .mk k n az v s, hd, hn, hi => by
  have hk:k=3∨k=4:=by simpa [isNmd,Kt.kind] using hn
  rcases hk with rfl | rfl
  ·refine .cls fun a ha=>?_
   have hda:a.depth≤d:=by have:=depth_args (t:=.mk 3 n az v s) ha; omega
   rcases inner_class hi with ⟨_,_,rfl⟩ | ⟨x,_,hlen,hall⟩
   ·cases ha
   ·obtain ⟨i,hi2,rfl⟩:=List.getElem_of_mem ha
    have:=hall i _ (x.formals[i]'(by omega)) (List.getElem?_eq_getElem hi2) (List.getElem?_eq_getElem _)
    exact inner_cl d _ hda this.nmd this.inn
  ·obtain ⟨rfl,_,i,h1,h2⟩:=inner_formal hi
   exact .fml h1 h2
/-! ## Right systems -/
def fmE (l:KS) (F:List Fm) (i:Nat) (f:Fm):Int :=
 if named f.name=false then 4
 else if (kfind l f.name).isSome∨(fidx (F.take i) f.name).isSome then 6
 else if (kfind l f.bound).isSome=false∧f.bound≠root then 5
 else if (fmsOf l f.bound).length≠0 then 8 else 0
def firstE:List Int→Int
 | []=>0
 | e::t=>if e≠0 then e else firstE t
def formalsE (l:KS) (x:KC):Int:=if 3<x.formals.length then 3 else firstE (x.formals.zipIdx.map fun q=>fmE l x.formals q.2 q.1)
def argE (l:KS) (F:List Fm) (a:Kt) (b:Nm):Int:=if 40<a.depth then 3 else actE l F a b
def parentE (l:KS) (x:KC) (p:Kp):Int:=if p.args.length≠(fmsOf l p.name).length then 8 else firstE ((p.args.zip ((fmsOf l p.name).map (·.bound))).map fun q=>argE l x.formals q.1 q.2)
def parentsE (l:KS) (x:KC):Int:=firstE (x.parents.map (parentE l x))
theorem firstE_zero : ∀ {es : List Int}, firstE es = 0 ↔ ∀ e ∈ es, e = 0
 | []=>by simp [firstE]
 | e::t=>by
  unfold firstE
  split
  ·rename_i h; simp [h]
  ·rename_i h
   have h:=Classical.not_not.1 h
   rw [firstE_zero]; simp [h]
/-! ## Tables -/
abbrev Own:=Nm→Option (List Kt)
def oupd (o:Own) (a:Nm) (ts:List Kt):Own:=fun y=>if y=a then some ts else o y
def seenT (l:KS) (all:List (Nm×Own)) (p:Kp) (a:Nm):List Kt:=(((alook all p.name).bind (· a)).getD []).map (Kt.subst (fmsOf l p.name) p.args)
def clash (o:Own) (a:Nm) (ts:List Kt):Bool:=match o a with | some was=>decide (was≠ts) | none=>false
def ownGo (l:KS) (all:List (Nm×Own)):List (Kp×Nm)→Own→Except Int Own
 | [],o=>.ok o
 | (p,a)::t,o=>if 400<partss (seenT l all p a) then .error 3 else if clash o a (seenT l all p a) then .error 10 else ownGo l all t (oupd o a (seenT l all p a))
def pairs (l:KS) (x:KC):List (Kp×Nm):=x.parents.flatMap fun p=>(above (ksys l) p.name).map fun a=>(p,a)
def own0 (x:KC):Own:=oupd (fun _=>none) x.name (ownT x.formals)
def tabGo (l : KS) : List Nm → List (Nm × Own) → Except (Int × Nm) (List (Nm × Own))
 | [],all=>.ok all
 | c::t,all=>match kfind l c with
  | none=>.ok all
  | some x=>match ownGo l all (pairs l x) (own0 x) with
   | .error e=>.error (e,c)
   | .ok o=>tabGo l t (all++[(c,o)])
def tabs (l:KS):Except (Int×Nm) (List (Nm×Own)):=tabGo l (order (ksys l)) []
def kcheck (l : KS) : Int × Nm :=
 if (check (ksys l)).1≠0 then check (ksys l) else
 match List.find? (fun x=>formalsE l x != 0) l with
 | some x=>(formalsE l x,x.name)
 | none=>match List.find? (fun x=>parentsE l x != 0) l with
  | some x=>(parentsE l x,x.name)
  | none=>match tabs l with
   | .error e=>e
   | .ok _=>(0,[])
end Go.Hr
namespace Go.Hr
open Go
theorem Tp.pre {l : Sys} {a b : List Nm} (h : Tp l (a ++ b)) : Tp l a := by
 generalize ho:a++b=o at h
 induction h generalizing a b with
 | nil=>rw [(List.append_eq_nil_iff.1 ho).1]; exact .nil
 | @snoc o c h1 h2 h3 ih =>
  rcases List.eq_nil_or_concat b with rfl | ⟨b',c',rfl⟩
  ·rw [List.append_nil] at ho
   subst ho
   exact .snoc h1 h2 h3
  ·rw [List.concat_eq_append,← List.append_assoc] at ho
   exact ih (List.append_inj' ho rfl).1
theorem Tp.mid {l:Sys} {a t:List Nm} {c:Nm} (h:Tp l (a++c::t)):c ∉ a∧∀ p∈Hr.par l c,p∈a:=by
 have h1:Tp l (a++[c]):=Tp.pre (b:=t) (by rw [List.append_assoc]; exact h)
 generalize ho:a++[c]=o at h1
 cases h1 with
 | nil=>simp at ho
 | snoc h1 h2 h3 =>
  obtain ⟨h4,h5⟩:=List.append_inj' ho rfl
  simp only [List.cons.injEq,and_true] at h5
  subst h4 h5
  exact ⟨h2,h3⟩
theorem alook_append {α : Type} {F G:List (Nm × α)} {k:Nm}:alook (F++G) k=(alook F k).or (alook G k):=by
 unfold alook
 rw [List.find?_append]
 cases List.find? (fun x=>x.1 == k) F <;> rfl
section
variable {l:KS} {all:List (Nm×Own)}
theorem oupd_same {o:Own} {a:Nm} {ts:List Kt}:oupd o a ts a=some ts:=if_pos rfl
theorem clash_false {o:Own} {a:Nm} {ts:List Kt} (h:clash o a ts=false) {was:List Kt} (hw:o a=some was):was=ts:=by
 unfold clash at h; rw [hw] at h; simpa using h
theorem ownGo_spec : ∀ {ps : List (Kp × Nm)} {o o' : Own}, ownGo l all ps o = .ok o' →
  (∀ a ts,o a=some ts→o' a=some ts)∧(∀ q∈ps,o' q.2=some (seenT l all q.1 q.2))∧(∀ a,(o' a).isSome→(o a).isSome∨∃ q∈ps,q.2=a)
 | [],o,o',h=>by
  simp only [ownGo,Except.ok.injEq] at h
  subst h
  exact ⟨fun _ _ h=>h,(fun q h=>absurd h List.not_mem_nil),fun _ h=>.inl h⟩
 | (p, a) :: t, o, o', h => by
  rw [ownGo] at h
  split at h
  ·cases h
  ·split at h
   ·cases h
   ·rename_i h1 h2
    have h2:clash o a (seenT l all p a)=false:=by simpa using h2
    obtain ⟨g1,g2,g3⟩:=ownGo_spec h
    have hk:∀ b ts,o b=some ts→oupd o a (seenT l all p a) b=some ts:=fun b ts hb=>by
     unfold oupd
     split
     ·rename_i e; subst e; rw [clash_false h2 hb]
     ·exact hb
    refine ⟨fun b ts hb=>g1 b ts (hk b ts hb),fun q hq=>?_,fun b hb=>?_⟩
    ·rcases List.mem_cons.1 hq with rfl | hq
     ·exact g1 a _ oupd_same
     ·exact g2 q hq
    ·rcases g3 b hb with h3 | ⟨q,hq,rfl⟩
     ·unfold oupd at h3
      split at h3
      ·rename_i e; exact .inr ⟨(p,a),by simp,e.symm⟩
      ·exact .inl h3
     ·exact .inr ⟨q,by simp [hq],rfl⟩
theorem ownGo_err : ∀ {ps : List (Kp × Nm)} {o : Own} {e : Int}, ownGo l all ps o = .error e → e = 3 ∨ e = 10
 | [],o,e,h=>by simp [ownGo] at h
 | (p,a)::t,o,e,h=>by
  rw [ownGo] at h
  split at h
  ·simp at h; exact .inl h.symm
  ·split at h
   ·simp at h; exact .inr h.symm
   ·exact ownGo_err h
theorem tabGo_err : ∀ {cs : List Nm} {all : List (Nm × Own)} {e : Int × Nm}, tabGo l cs all = .error e → e.1 ≠ 0
 | [],all,e,h=>by simp [tabGo] at h
 | c :: t, all, e, h => by
  rw [tabGo] at h
  split at h
  ·cases h
  ·split at h
   ·rename_i h1
    simp only [Except.error.injEq] at h
    subst h
    rcases ownGo_err h1 with rfl | rfl
    ·exact (by decide:(3:Int)≠0)
    ·exact (by decide:(10:Int)≠0)
   ·exact tabGo_err h
structure OwnOk (l:KS) (all:List (Nm×Own)) (c:Nm) (x:KC) (o:Own):Prop where
 dom:∀ a,(o a).isSome=has (ksys l) c a
 own:o c=some (ownT x.formals)
 par:∀ p∈x.parents,∀ a,has (ksys l) p.name a=true→o a=some (seenT l all p a)
def TabOk (l:KS) (all:List (Nm×Own)):Prop:=∀ c o,alook all c=some o→∃ x,kfind l c=some x∧OwnOk l all c x o
theorem tabGo_spec (hR : Right (ksys l)) : ∀ {cs : List Nm} {all all' : List (Nm × Own)}, tabGo l cs all = .ok all' → Tp (ksys l) (all.map (·.1) ++ cs) → (∀ c ∈ cs, isC (ksys l) c = true) → TabOk l all →
  TabOk l all'∧all'.map (·.1)=all.map (·.1)++cs
 | [],all,all',h,_,_,hT=>by
  simp only [tabGo,Except.ok.injEq] at h
  subst h
  exact ⟨hT,by simp⟩
 | c :: t, all, all', h, hTp, hC, hT => by
  rw [tabGo] at h
  have hc:=hC c (by simp)
  rw [← kfind_isC] at hc
  obtain ⟨x,hx⟩:=Option.isSome_iff_exists.1 hc
  rw [hx] at h
  simp only [] at h
  split at h
  ·cases h
  ·rename_i o ho
   obtain ⟨hn,hp⟩:=hTp.mid
   have hlk:∀ d,alook (all++[(c,o)]) d=if d=c then some o else alook all d:=fun d=>by
    rw [alook_append]
    by_cases hd:d=c
    ·subst hd; rw [if_pos rfl,alook_none.2 hn,Option.none_or]; simp [alook]
    ·have:¬ c=d:=fun e=>hd e.symm
     rw [if_neg hd,alook_cons,if_neg this]
     cases alook all d <;> rfl
   have hse:∀ (p:Kp) a,p.name≠c→seenT l (all++[(c,o)]) p a=seenT l all p a:=fun p a hpc=>by
    unfold seenT; rw [hlk,if_neg hpc]
   have hpar:=kpar hR hx
   have hnew : OwnOk l (all ++ [(c, o)]) c x o := by
    obtain ⟨g1,g2,g3⟩:=ownGo_spec ho
    have hxc:=(kfind_some hx).1
    refine ⟨fun a=>?_,?_,fun p hpm a ha=>?_⟩
    ·rw [Bool.eq_iff_iff]
     constructor
     ·intro h1
      rcases g3 a h1 with h2 | ⟨q,hq,rfl⟩
      ·unfold own0 oupd at h2
       split at h2
       ·rename_i e; rw [e,hxc]; exact has_refl _ _
       ·cases h2
      ·obtain ⟨p,hpm,hq⟩:=List.mem_flatMap.1 hq
       obtain ⟨a,ha,rfl⟩:=List.mem_map.1 hq
       exact has_trans (has_par (by rw [hpar]; exact List.mem_map_of_mem hpm)) (((above_spec hR.acyc p.name).2 a).1 ha)
     ·intro h1
      rcases has_cases h1 with rfl | ⟨p,hp2,h2⟩
      ·rw [g1 c _ (by unfold own0; rw [hxc]; exact oupd_same)]; rfl
      ·rw [hpar] at hp2
       obtain ⟨p,hpm,rfl⟩:=List.mem_map.1 hp2
       rw [g2 (p,a) (List.mem_flatMap.2 ⟨p,hpm,List.mem_map.2 ⟨a,((above_spec hR.acyc p.name).2 a).2 h2,rfl⟩⟩)]; rfl
    ·exact g1 c _ (by unfold own0; rw [hxc]; exact oupd_same)
    ·rw [hse p a (fun e=>hn (e ▸ hp p.name (by rw [hpar]; exact List.mem_map_of_mem hpm)))]
     exact g2 (p,a) (List.mem_flatMap.2 ⟨p,hpm,List.mem_map.2 ⟨a,((above_spec hR.acyc p.name).2 a).2 ha,rfl⟩⟩)
   have hT' : TabOk l (all ++ [(c, o)]) := fun d o' hd => by
    rw [hlk] at hd
    split at hd
    ·rename_i e
     subst e
     cases hd
     exact ⟨x,hx,hnew⟩
    ·obtain ⟨y,hy,k1,k2,k3⟩:=hT d o' hd
     refine ⟨y,hy,k1,k2,fun p hpm a ha=>?_⟩
     rw [hse p a (fun e=>?_)]
     ·exact k3 p hpm a ha
     ·have hdm:d∈all.map (·.1):=alook_mem hd
      have hpd:p.name∈Hr.par (ksys l) d:=by rw [kpar hR hy]; exact List.mem_map_of_mem hpm
      have:=(hTp.pre).par hdm hpd
      exact hn (e ▸ this)
   obtain ⟨r1,r2⟩:=tabGo_spec hR h (by simpa using hTp) (fun d hd=>hC d (by simp [hd])) hT'
   exact ⟨r1,by rw [r2]; simp⟩
structure HRight (l:KS):Prop where
 right:Right (ksys l)
 fms:∀ x∈l,formalsE l x=0
structure KRight (l:KS) (all:List (Nm×Own)):Prop where
 right:Right (ksys l)
 fms:∀ x∈l,formalsE l x=0
 prs:∀ x∈l,parentsE l x=0
 tab:tabs l = .ok all
theorem kcheck_zero : (kcheck l).1 = 0 ↔ ∃ all, KRight l all := by
 unfold kcheck
 constructor
 ·intro h
  split at h
  ·rename_i h1; exact absurd h h1
  ·rename_i h1
   have hR:=check_zero.1 (Classical.not_not.1 h1)
   split at h
   ·rename_i x hx
    have:=List.find?_some hx
    simp only [bne_iff_ne,ne_eq] at this
    exact absurd h this
   ·rename_i hf
    split at h
    ·rename_i x hx
     have:=List.find?_some hx
     simp only [bne_iff_ne,ne_eq] at this
     exact absurd h this
    ·rename_i hp
     split at h
     ·rename_i e he; exact absurd h (tabGo_err he)
     ·rename_i all hall
      exact ⟨all,hR,fun x hx=>by simpa using List.find?_eq_none.1 hf x hx,fun x hx=>by simpa using List.find?_eq_none.1 hp x hx,hall⟩
 ·rintro ⟨all,h1,h2,h3,h4⟩
  rw [if_neg (by rw [check_zero.2 h1]; decide)]
  have hf:List.find? (fun x=>formalsE l x != 0) l=none:=List.find?_eq_none.2 fun x hx=>by rw [h2 x hx]; decide
  have hp:List.find? (fun x=>parentsE l x != 0) l=none:=List.find?_eq_none.2 fun x hx=>by rw [h3 x hx]; decide
  rw [hf,hp,h4]
section
variable (h:HRight l)
include h
theorem HRight.fm_len {x:KC} (hx:x∈l):x.formals.length≤3:=by
 have:=h.fms x hx
 unfold formalsE at this
 split at this
 ·cases this
 ·omega
theorem HRight.fm_zero {x:KC} (hx:x∈l) {i:Nat} {f:Fm} (hf:x.formals[i]? = some f):fmE l x.formals i f=0:=by
 have:=h.fms x hx
 unfold formalsE at this
 split at this
 ·cases this
 ·refine firstE_zero.1 this _ (List.mem_map.2 ⟨(f,i),?_,rfl⟩)
  rw [List.mem_zipIdx_iff_getElem?]; exact hf
theorem HRight.fm_at {x : KC} (hx : x ∈ l) {i : Nat} {f : Fm} (hf : x.formals[i]? = some f) : named f.name = true ∧ kfind l f.name = none ∧ fidx (x.formals.take i) f.name = none ∧ ((kfind l f.bound).isSome = true ∨ f.bound = root) ∧ (fmsOf l f.bound) = [] := by
 have:=h.fm_zero hx hf
 unfold fmE at this
 split at this
 ·cases this
 ·rename_i h1
  split at this
  ·cases this
  ·rename_i h2
   split at this
   ·cases this
   ·rename_i h3
    split at this
    ·cases this
    ·rename_i h4
     simp only [not_or,Option.not_isSome_iff_eq_none] at h2
     refine ⟨by simpa using h1,h2.1,h2.2,?_,List.eq_nil_of_length_eq_zero (Classical.not_not.1 h4)⟩
     by_cases hb:(kfind l f.bound).isSome=true
     ·exact .inl hb
     ·right
      exact Classical.byContradiction fun hne=>h3 ⟨by simpa using hb,hne⟩
theorem HRight.fm_nodup {x:KC} (hx:x∈l):(x.formals.map (·.name)).Nodup:=by
 rw [List.nodup_iff_pairwise_ne,List.pairwise_iff_getElem]
 intro i j hi hj hij
 simp only [List.length_map] at hi hj
 rw [List.getElem_map,List.getElem_map]
 intro e
 have:=(h.fm_at hx (List.getElem?_eq_getElem hj)).2.2.1
 unfold fidx at this
 rw [List.findIdx?_eq_none_iff] at this
 have h2:=this x.formals[i] (List.mem_take_iff_getElem.2 ⟨i,by omega,rfl⟩)
 rw [e] at h2
 simp at h2
theorem HRight.no_root:kfind l root=none:=by
 cases hk:kfind l root with
 | none=>rfl
 | some x =>
  obtain ⟨h1,h2⟩:=kfind_some hk
  have:=h.right.nam _ (ksys_mem h2)
  rw [show x.cls.name=root from h1] at this
  have hn:named root=false:=by decide +kernel
  rw [hn] at this; cases this
end
def insT (all:List (Nm×Own)) (c a:Nm):List Kt:=((alook all c).bind (· a)).getD []
section
variable (h:KRight l all)
include h
theorem KRight.head:HRight l:=⟨h.right,h.fms⟩
theorem KRight.fm_at {x:KC} (hx:x∈l) {i:Nat} {f:Fm} (hf:x.formals[i]? = some f):named f.name=true∧kfind l f.name=none∧fidx (x.formals.take i) f.name=none∧((kfind l f.bound).isSome=true∨f.bound=root)∧(fmsOf l f.bound)=[]:=h.head.fm_at hx hf
theorem KRight.fm_nodup {x:KC} (hx:x∈l):(x.formals.map (·.name)).Nodup:=h.head.fm_nodup hx
theorem KRight.no_root:kfind l root=none:=h.head.no_root
theorem KRight.tabOk:TabOk l all∧all.map (·.1)=order (ksys l):=by
 obtain ⟨h1,h2⟩:=order_spec h.right.acyc h.right.uniq
 have:=tabGo_spec h.right h.tab (by simpa using h1) (fun c hc=>isC_iff.2 ((h2 c).1 hc)) (fun c o hc=>by simp [alook] at hc)
 simpa using this
theorem KRight.own {c:Nm} {x:KC} (hx:kfind l c=some x):∃ o,alook all c=some o∧OwnOk l all c x o:=by
 obtain ⟨hT,hm⟩:=h.tabOk
 have hc:c∈all.map (·.1):=by
  rw [hm,(order_spec h.right.acyc h.right.uniq).2,← isC_iff,← kfind_isC,hx]; rfl
 cases hl:alook all c with
 | none=>exact absurd hc (alook_none.1 hl)
 | some o =>
  obtain ⟨y,hy,hO⟩:=hT c o hl
  rw [hx] at hy
  cases hy
  exact ⟨o,rfl,hO⟩
theorem KRight.ins_own {c:Nm} {x:KC} (hx:kfind l c=some x):insT all c c=ownT x.formals:=by
 obtain ⟨o,h1,h2⟩:=h.own hx
 unfold insT; rw [h1,Option.bind_some,h2.own]; rfl
theorem KRight.ins_par {c a:Nm} {x:KC} (hx:kfind l c=some x) {p:Kp} (hp:p∈x.parents) (ha:has (ksys l) p.name a=true):insT all c a=(insT all p.name a).map (Kt.subst (fmsOf l p.name) p.args):=by
 obtain ⟨o,h1,h2⟩:=h.own hx
 unfold insT; rw [h1,Option.bind_some,h2.par p hp a ha]; rfl
theorem KRight.look_some {c a:Nm} {x:KC} (hx:kfind l c=some x):((alook all c).bind (· a)).isSome=has (ksys l) c a:=by
 obtain ⟨o,h1,h2⟩:=h.own hx
 rw [h1,Option.bind_some,h2.dom]
theorem KRight.par_at {x : KC} (hx : x ∈ l) {p : Kp} (hp : p ∈ x.parents) : ∃ y, kfind l p.name = some y ∧ y ∈ l ∧ p.args.length = y.formals.length ∧ ∀ (i : Nat) a f, p.args[i]? = some a → y.formals[i]? = some f → ActOk l x.formals a f.bound ∧ a.depth ≤ 40 := by
 have h1:=h.prs x hx
 unfold parentsE at h1
 have h2:=firstE_zero.1 h1 _ (List.mem_map_of_mem hp)
 have hc:isC (ksys l) p.name=true:=h.right.all _ (ksys_mem hx) _ (List.mem_map_of_mem hp)
 rw [← kfind_isC] at hc
 obtain ⟨y,hy⟩:=Option.isSome_iff_exists.1 hc
 unfold parentE at h2
 rw [fmsOf_some hy] at h2
 split at h2
 ·cases h2
 ·rename_i h3
  have h3:=Classical.not_not.1 h3
  refine ⟨y,hy,(kfind_some hy).2,h3,fun i a f ha hf=>?_⟩
  have h4:=firstE_zero.1 h2 (argE l x.formals a f.bound) (List.mem_map.2 ⟨(a,f.bound),?_,rfl⟩)
  ·unfold argE at h4
   split at h4
   ·cases h4
   ·exact ⟨actE_zero.1 h4,by omega⟩
  ·exact List.mem_of_getElem? (i:=i) (by rw [List.getElem?_zip_eq_some]; exact ⟨ha,by rw [List.getElem?_map,hf]; rfl⟩)
theorem KRight.par_cl {x:KC} (hx:x∈l) {p:Kp} (hp:p∈x.parents):∀ a∈p.args,Cl x.formals x.formals.length a:=fun a ha=>by
 obtain ⟨y,_,_,hl,hall⟩:=h.par_at hx hp
 obtain ⟨i,hi,rfl⟩:=List.getElem_of_mem ha
 obtain ⟨h1,_⟩:=hall i _ (y.formals[i]'(by omega)) (List.getElem?_eq_getElem hi) (List.getElem?_eq_getElem _)
 exact inner_cl _ _ (Nat.le_refl _) h1.nmd h1.inn
theorem KRight.ind {P:Nm→KC→Prop} (hs:∀ c x,kfind l c=some x→(∀ p∈x.parents,∀ y,kfind l p.name=some y→P p.name y)→P c x):∀ c x,kfind l c=some x→P c x:=by
 have key:=rk_ind (l:=ksys l) h.right.acyc (P:=fun c=>∀ x,kfind l c=some x→P c x) (fun c ih x hx=>hs c x hx fun p hp y hy=>ih p.name (by rw [kpar h.right hx]; exact List.mem_map_of_mem hp) y hy)
 exact key
theorem KRight.ins_cl:∀ c x,kfind l c=some x→∀ a,has (ksys l) c a=true→∀ t∈insT all c a,Cl x.formals x.formals.length t:=h.ind fun c x hx ih a ha t ht=>by
 have hxl:=(kfind_some hx).2
 rcases has_cases ha with rfl | ⟨p,hp,h2⟩
 ·rw [h.ins_own hx] at ht
  exact own_cl (h.fm_nodup hxl) t ht
 ·rw [kpar h.right hx] at hp
  obtain ⟨p,hpm,rfl⟩:=List.mem_map.1 hp
  rw [h.ins_par hx hpm h2] at ht
  obtain ⟨t',ht',rfl⟩:=List.mem_map.1 ht
  obtain ⟨y,hy,_,hl,_⟩:=h.par_at hxl hpm
  have:=ih p hpm y hy a h2 t' ht'
  rw [fmsOf_some hy]
  rw [← hl] at this
  exact this.subst (h.par_cl hxl hpm)
end
/-! ## Along a way -/
def parArgs (l:KS) (c p:Nm):List Kt:=(((kfind l c).bind fun x=>x.parents.find? fun q=>q.name == p).map (·.args)).getD []
def along (l:KS):List Nm→List Kt→List Kt
 | c::p::t,A=>along l (p::t) ((parArgs l c p).map (Kt.subst (fmsOf l c) A))
 | _,A=>A
theorem along_one {c:Nm} {A:List Kt}:along l [c] A=A:=by simp [along]
theorem along_nil {A:List Kt}:along l [] A=A:=by simp [along]
theorem parArgs_at (hR:Right (ksys l)) {c:Nm} {x:KC} (hx:kfind l c=some x) {p:Nm} (hp:p∈par (ksys l) c):∃ q∈x.parents,q.name=p∧parArgs l c p=q.args:=by
 rw [kpar hR hx] at hp
 unfold parArgs
 rw [hx,Option.bind_some]
 cases hf:x.parents.find? fun q=>q.name == p with
 | none =>
  obtain ⟨q,hq,rfl⟩:=List.mem_map.1 hp
  have:=List.find?_eq_none.1 hf q hq
  simp at this
 | some q=>exact ⟨q,List.mem_of_find?_eq_some hf,by simpa using List.find?_some hf,rfl⟩
theorem KRight.along (h:KRight l all) {a:Nm}:∀ {way:List Nm} {c:Nm} {x:KC} {A:List Kt},Way (ksys l) a way c→kfind l c=some x→A.length=x.formals.length→along l way A=(insT all c a).map (Kt.subst x.formals A)
 | [],c,x,A,hw,_,_=>hw.elim
 | [d],c,x,A,hw,hx,hA=>by
  obtain ⟨rfl,rfl⟩:=hw
  rw [along_one,h.ins_own hx,own_subst (h.fm_nodup (kfind_some hx).2) hA]
 | d::p::t,c,x,A,hw,hx,hA=>by
  obtain ⟨rfl,hp,hw⟩:=hw
  obtain ⟨q,hq,rfl,hpa⟩:=parArgs_at h.right hx hp
  have hxl:=(kfind_some hx).2
  obtain ⟨y,hy,_,hl,_⟩:=h.par_at hxl hq
  obtain ⟨k,_,hk⟩:=way_W hw
  have hha:has (ksys l) q.name a=true:=has_iff.2 ⟨k,hk⟩
  rw [Hr.along,hpa,fmsOf_some hx,h.along hw hy (by rw [List.length_map]; exact hl),h.ins_par hx hq hha,List.map_map,fmsOf_some hy]
  refine List.map_congr_left fun t ht=>?_
  exact (subst_subst (by rw [hl]; exact h.ins_cl q.name y hy a hha t ht)).symm
end
end Go.Hr
namespace Go.Hr
open Go
def plainK (k:Int):Bool:=k == 1 || k == 2
def ctArgs (t:Kt):List Kt:=if t.kind=4 then [] else t.args
def anc (all:List (Nm×Own)) (c a:Nm):Bool:=((alook all c).bind (· a)).isSome
def instA (l:KS) (all:List (Nm×Own)) (c a:Nm) (A:List Kt):List Kt:=(insT all c a).map (Kt.subst (fmsOf l c) A)
def whyE (l:KS) (all:List (Nm×Own)) (F:List Fm) (s t:Kt):Int :=
 if s.kind=t.kind∧plainK s.kind=true then 1
 else if s.kind=0∧t.void=true then 2
 else if plainK s.kind=true∨plainK t.kind=true∨t.kind=0 then 13
 else if (s.kind=0∨s.void=true)∧t.void=false then 11
 else if s.sep=true∧t.sep=false then 12
 else if t.kind=3∧t.name=root then 3
 else if t.kind=4∧s.kind=4∧s.name=t.name then 4
 else if t.kind=4 then 13
 else if anc all (ctName F s) t.name=false then 14
 else if instA l all (ctName F s) t.name (ctArgs s)=t.args then 5 else 15
def Up (l:KS) (all:List (Nm×Own)) (F:List Fm) (s t:Kt):Prop :=
 (t.kind=3∧t.name=root)∨(t.kind=4∧s.kind=4∧s.name=t.name)∨(t.kind=3∧anc all (ctName F s) t.name=true∧instA l all (ctName F s) t.name (ctArgs s)=t.args)
def Goes (l:KS) (all:List (Nm×Own)) (F:List Fm) (s t:Kt):Prop :=
 (s.kind=t.kind∧plainK s.kind=true)∨(s.kind=0∧isNmd t=true∧t.void=true)∨(isNmd s=true∧isNmd t=true∧(s.void=true→t.void=true)∧(s.sep=true→t.sep=true)∧Up l all F s t)
section
variable {l:KS} {all:List (Nm×Own)} {F F':List Fm} {s t u:Kt}
theorem nmd_iff:isNmd t=true↔t.kind=3∨t.kind=4:=by simp [isNmd]
end
section
variable {l:KS} (h:HRight l) {x:KC} (hx:x∈l) {s:Kt}
include h hx
theorem HRight.ct (hs : s.inner l x.formals = 0) (hn : isNmd s = true) : (ctName x.formals s = root ∧ ctArgs s = []) ∨ ∃ y, kfind l (ctName x.formals s) = some y ∧ (ctArgs s).length = y.formals.length := by
 obtain ⟨k,n,az,v,p⟩:=s
 rcases nmd_iff.1 hn with e | e <;> (simp only [Kt.kind] at e; subst e)
 ·rcases inner_class hs with ⟨_,rfl,rfl⟩ | ⟨y,hy,hl,_⟩
  ·exact .inl ⟨rfl,rfl⟩
  ·exact .inr ⟨y,hy,hl⟩
 ·obtain ⟨rfl,_,i,h1,h2⟩:=inner_formal hs
  have hb:ctName x.formals (.mk 4 n [] v p)=(x.formals[i]).bound:=by
   show boundOf x.formals n=_
   unfold boundOf
   rw [h1,Option.bind_some,List.getElem?_eq_getElem h2]; rfl
  rw [hb]
  obtain ⟨_,_,_,h3,h4⟩:=h.fm_at hx (List.getElem?_eq_getElem h2)
  rcases h3 with h3 | h3
  ·obtain ⟨y,hy⟩:=Option.isSome_iff_exists.1 h3
   rw [fmsOf_some hy] at h4
   exact .inr ⟨y,hy,by rw [h4]; rfl⟩
  ·exact .inl ⟨h3,rfl⟩
end
section
variable {l:KS} {all:List (Nm×Own)} (h:KRight l all) {x x':KC} (hx:x∈l) {s t u:Kt}
include h
include hx
theorem KRight.ct (hs:s.inner l x.formals=0) (hn:isNmd s=true):(ctName x.formals s=root∧ctArgs s=[])∨∃ y,kfind l (ctName x.formals s)=some y∧(ctArgs s).length=y.formals.length:=h.head.ct hx hs hn
end
end Go.Hr
namespace Go.Hr
open Go
section
variable {l:KS} {F F':List Fm} {A:List Kt} {t:Kt}
def Fits (l:KS) (F' F:List Fm) (A:List Kt):Prop:=A.length=F.length∧∀ (i:Nat) a f,A[i]? = some a→F[i]? = some f→ActOk l F' a f.bound
theorem depths_le {D:Nat}:∀ {az:List Kt},(∀ a∈az,a.depth≤D)→depths az≤D
 | [],_=>by simp [depths]
 | a::t,h=>by
  unfold depths
  have h1:=h a (by simp)
  have h2:=depths_le (az:=t) fun b hb=>h b (by simp [hb])
  omega
end
section
variable {l:KS} {all:List (Nm×Own)} (h:KRight l all) {x x':KC} (hx:x∈l) (hx':x'∈l) {A:List Kt} {s t:Kt}
include h hx hx'
end
end Go.Hr
