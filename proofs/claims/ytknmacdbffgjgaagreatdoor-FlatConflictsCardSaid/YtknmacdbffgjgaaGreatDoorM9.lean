/-
  The classes of a right system looked at one behind the other,in any order in which each stands behind its ancestors: what is built,the first conflict. No program in sight.
-/
import Derived.Test.YtknmacdbffgjgaaGreatDoorM8
import Derived.Shelf.Lays
import Derived.Shelf.Sort.Plain
import Derived.Shelf.Slices.In.SortNone
import Derived.RangeFuncNested
import Derived.Test.YtknmacdbffgjgaaGreatDoorM6
import Derived.Test.YtknmacdbffgjgaaGreatDoorM5
import Derived.JoinedCond
import Derived.SizedLaws
import Derived.Test.YtknmacdbffgjgaaGreatDoorM1
set_option linter.unusedVariables false
set_option linter.unusedSimpArgs false
set_option maxRecDepth 100000
set_option maxHeartbeats 16000000
namespace Go.Hr
open Go Go.RowKit Go.Ck Go.Proofs Go.Proofs.Tryz Go.Proofs.YtknmacdbffgjgaaGreatDoor Fx
def Fj:Go.Shelf.Ren:={
 f:=fun | 190=>265 | 125=>202 | 258=>295 | 128=>258 | 129=>259 | 302=>305 | 303=>306 | 304=>307 | 305=>308 | 306=>309 | 307=>310 | 308=>311 | 309=>312 | 310=>313 | 333=>317 | 329=>290 | 330=>291 | 334=>318 | 335=>319 | 336=>203 | 344=>320 | n=>n
 t:=fun | 31=>40 | 9=>9 | 3=>3 | 46=>275 | 0=>0 | 51=>322 | 53=>324 | 4=>4 | 183=>316 | 182=>315 | 131=>222 | 5=>5 | 218=>345 | 222=>349 | 228=>365 | 229=>366 | n=>n
 g:=fun n=>n }
theorem JY:Go.Proofs.Lays.n190 prog Fj:={
 mixed:=rfl
 f125:=func202.trans (congrArg some (by kernel_rfl))
 f128:=func258.trans (congrArg some (by kernel_rfl))
 f129:=func259.trans (congrArg some (by kernel_rfl))
 f190:=func265.trans (congrArg some (by kernel_rfl))
 f258:=func295.trans (congrArg some (by kernel_rfl))
 f302:=func305.trans (congrArg some (by kernel_rfl))
 f303:=func306.trans (congrArg some (by kernel_rfl))
 f304:=func307.trans (congrArg some (by kernel_rfl))
 f305:=func308.trans (congrArg some (by kernel_rfl))
 f306:=func309.trans (congrArg some (by kernel_rfl))
 f307:=func310.trans (congrArg some (by kernel_rfl))
 f308:=func311.trans (congrArg some (by kernel_rfl))
 f309:=func312.trans (congrArg some (by kernel_rfl))
 f310:=func313.trans (congrArg some (by kernel_rfl))
 f329:=func290.trans (congrArg some (by kernel_rfl))
 f330:=func291.trans (congrArg some (by kernel_rfl))
 f333:=func317.trans (congrArg some (by kernel_rfl))
 f334:=func318.trans (congrArg some (by kernel_rfl))
 f335:=func319.trans (congrArg some (by kernel_rfl))
 f336:=func203.trans (congrArg some (by kernel_rfl))
 f344:=func320.trans (congrArg some (by kernel_rfl))
 t0:=underlying0
 a0:=isAgg0
 z0:=sizeOf0
 v0:=zeroValue0
 t3:=underlying3
 a3:=isAgg3
 z3:=sizeOf3
 v3:=zeroValue3
 t4:=underlying4
 a4:=isAgg4
 z4:=sizeOf4
 v4:=zeroValue4
 t5:=underlying5
 a5:=isAgg5
 z5:=sizeOf5
 v5:=zeroValue5
 t9:=underlying9
 a9:=isAgg9
 z9:=sizeOf9
 v9:=zeroValue9
 t31:=underlying40
 a31:=isAgg40
 z31:=sizeOf40
 v31:=zeroValue40
 t46:=underlying275
 a46:=isAgg275
 z46:=sizeOf275
 v46:=zeroValue275
 t51:=underlying322
 a51:=isAgg322
 z51:=sizeOf322
 v51:=zeroValue322
 t53:=underlying324
 a53:=isAgg324
 z53:=sizeOf324
 v53:=zeroValue324
 t131:=underlying222
 a131:=isAgg222
 z131:=sizeOf222
 v131:=zeroValue222
 t182:=underlying315
 a182:=isAgg315
 z182:=sizeOf315
 v182:=zeroValue315
 t183:=underlying316
 a183:=isAgg316
 z183:=sizeOf316
 v183:=zeroValue316
 t218:=underlying345
 a218:=isAgg345
 z218:=sizeOf345
 v218:=zeroValue345
 t222:=underlying349
 a222:=isAgg349
 z222:=sizeOf349
 v222:=zeroValue349
 t228:=underlying365
 a228:=isAgg365
 z228:=sizeOf365
 v228:=zeroValue365
 t229:=underlying366
 a229:=isAgg366
 z229:=sizeOf366
 v229:=zeroValue366 }
theorem Fp:∀ a b:Nm,lt a b=decide (a<b)
 | [],[]=>by simp [lt,Op.bytesLess]
 | [],_::_=>by simp [lt,Op.bytesLess]
 | _::_,[]=>by simp [lt,Op.bytesLess]
 | a::x,b::y=>by
  have ih:=Fp x y
  unfold lt at ih ⊢
  rw [Op.bytesLess,ih,Bool.eq_iff_iff]
  simp only [Bool.or_eq_true,Bool.and_eq_true,decide_eq_true_eq,beq_iff_eq,List.cons_lt_cons_iff,UInt8.lt_iff_toNat_lt]
def leB (x y:Nm):Bool:=decide (x≤y)
theorem D7 (x y:Nm):leB x y = !lt y x:=by
 unfold leB
 rw [Fp,← decide_not]
 rfl
theorem Fq {xs:List Nm} (hn:xs.Nodup):(xs.mergeSort fun x y=>decide (x≤y))=srt xs:=by
 have hp:=List.mergeSort_perm xs leB
 refine srt_eq (hp.nodup_iff.2 hn) ?_ fun x=>hp.mem_iff
 have:=List.pairwise_mergeSort (le:=leB) (fun a b c h1 h2=>?_) (fun a b=>?_) xs
 ·exact this.imp fun {a b} h=>by rw [D7] at h; simpa using h
 ·rw [D7] at h1 h2 ⊢
  simp only [Bool.not_eq_true'] at h1 h2 ⊢
  cases h:lt c a with
  | false=>rfl
  | true =>
   rcases dP a b with h3 | h3 | h3
   ·rw [lt_trans h h3] at h2; cases h2
   ·rw [h3,h2] at h; cases h
   ·rw [h1] at h3; cases h3
 ·rw [D7,D7]
  cases h:lt b a with
  | false=>simp
  | true=>rw [iB h]; simp
theorem KL {ys xs:List Nm} {pre j:List Value} (hl:ys.length=xs.length):Sort.putCells encStr pre.length ys.toArray (pre++(xs.map sv++j)).toArray=(pre++(ys.map sv++j)).toArray:=by
 apply Array.ext
 ·simp [Sort.putCells,hl]
 ·intro k h1 h2
  simp only [Sort.putCells,Array.getElem_mapIdx,List.size_toArray,List.getElem_toArray,List.getElem_append,List.length_map,List.getElem_map]
  by_cases hk:k<pre.length
  ·have h3:¬ (pre.length≤k∧k<pre.length+ys.length):=by omega
   simp only [hk,h3,dite_true,if_false]
  ·by_cases hk2:k - pre.length<ys.length
   ·have h3:pre.length≤k∧k<pre.length+ys.length:=by omega
    simp only [hk,h3,hk2,dite_true,dite_false,if_true,and_self]
    rw [getElem!_pos ys.toArray _ (by simpa using hk2)]
    simp [encStr]
   ·have h3:¬ (pre.length≤k∧k<pre.length+ys.length):=by omega
    have h4:¬ k - pre.length<xs.length:=by omega
    simp only [hk,hk2,h4,dite_false,hl]
    rw [hl] at h3
    rw [if_neg h3]
section
variable {v:Value}
theorem Sort_ct {xs:List Nm} (hn:xs.Nodup) (hl:xs.length≤1099511627776):Ct prog 265 #[v] [NR v xs] fun u h'=>u = .tuple #[]∧h'=[NR v (srt xs)]:=by
 intro hr w hh
 have hv:=hh.1
 rcases hv.2 with ⟨rfl,h0⟩ | ⟨b,o,cp,pre,j,rfl,hb,hpre,hc1,hc2,hc3⟩
 ·have hx:xs=[]:=List.map_eq_nil_iff.1 h0
  subst hx
  exact (Any.slices_Sort_string_none JY none 0 w).mono fun e w' ⟨h1,h2⟩=>⟨.tuple #[],_,h1,⟨Z,Z⟩,by rw [h2]; exact hh,by rw [h2]; exact Same.refl w⟩
 ·rw [mo] at hb
  have hb:w.heap[b]? = some (cl (pre++(xs.map sv++j)) 9):=hb
  have hlt:b<w.heap.size:=(Array.getElem?_eq_some_iff.1 hb).1
  have hH:Sort.Holds encStr w b o xs.toArray:=fun i hi=>by
   have hi:i<xs.length:=by simpa using hi
   refine ⟨?_,by simp [World.frozen?,hb,cl]⟩
   rw [getElem!_pos xs.toArray i (by simpa using hi)]
   simp only [World.cell?,hb,cl,Option.isSome_none,Bool.false_eq_true,if_false,List.getElem?_toArray]
   rw [← hpre,List.getElem?_append_right (by omega),Nat.add_sub_cancel_left,List.getElem?_append_left (by simpa using hi),List.getElem?_map,List.getElem?_eq_getElem hi]
   rfl
  have hc:=Any.slices_Sort_string JY b o cp xs w hH hlt (by omega)
  rw [show (xs.map nC).length=xs.length by simp] at *
  refine Calls.mono hc fun e w' ⟨h1,n,os,h2⟩=>⟨.tuple #[],_,h1,⟨Z,Z⟩,?_,?_⟩
  all_goals rw [Fq hn] at h2
  ·have hsl:(srt xs).length=xs.length:=by
    rw [← Fq hn]; exact List.length_mergeSort xs
   have hb':w'.heap[b]? = some (cl (pre++((srt xs).map sv++j)) 9):=by
    rw [h2]
    show ((w.heap.modify b (Sort.onCells (Sort.putCells encStr o (srt xs).toArray)))++os)[b]? = _
    rw [Array.getElem?_append_left (by simpa using hlt),Array.getElem?_modify,if_pos rfl,hb]
    simp only [Option.map_some,Sort.onCells,cl]
    rw [← hpre,KL hsl]
   have ho:∀ c,c≠b→c<w.heap.size→w'.heap[c]? = w.heap[c]? := fun c hc hlt2=>by
    rw [h2]
    show ((w.heap.modify b (Sort.onCells (Sort.putCells encStr o (srt xs).toArray)))++os)[c]? = _
    rw [Array.getElem?_append_left (by simpa using hlt2),Array.getElem?_modify,if_neg (fun e=>hc e.symm)]
   refine ⟨⟨by simp [nC],.inr ⟨b,o,cp,pre,j,by simp [hsl],by rw [mo]; exact hb',hpre,by simpa [hsl] using hc1,hc2,?_⟩⟩,fun c ⟨o',m',cp',he⟩=>?_,bf.loc hh.2.2 fun c hc=>?_⟩
   ·rw [mo]
    rw [mo] at hc3
    simpa [hsl] using hc3
   ·cases he
    exact hh.2.1 b ⟨o,_,cp,Z⟩
   ·exact (ho c (fun e=>hh.2.1 b ⟨o,_,cp,Z⟩ (e ▸ hc)) (Holds.lt (h:=hr) hh.2.2 hc)).symm
  ·refine ⟨by rw [h2]; rfl, by rw [h2]; rfl, by rw [h2]; rfl, by rw [h2]; exact Nat.le_add_right _ _, ?_, fun a ha => ?_⟩
   ·rw [h2]
    show w.heap.size≤((w.heap.modify b (Sort.onCells (Sort.putCells encStr o (srt xs).toArray)))++os).size
    simp
   ·rw [h2]
    unfold World.frozen?
    have:(Sort.grow (Sort.putRow encStr (Sort.ahead w n) b o (srt xs).toArray) os).heap[a.block]? = (w.heap[a.block]?).map fun q=>if b=a.block then Sort.onCells (Sort.putCells encStr o (srt xs).toArray) q else q:=by
     show ((w.heap.modify b (Sort.onCells (Sort.putCells encStr o (srt xs).toArray)))++os)[a.block]? = _
     rw [Array.getElem?_append_left (by simpa using ha),Array.getElem?_modify]
     split
     ·rename_i e; subst e; simp
     ·simp [*]
    rw [this]
    by_cases e:b=a.block
    ·simp only [e,if_true]
     rw [← e,hb]
     rfl
    ·simp [e]
end
end Go.Hr
namespace Go.Ck
open Go Go.RowKit
/-! ## Structs of texts -/
def isStr:Option TypeDesc→Bool
 | some .string=>true
 | _=>false
def D8 (P:Program):List Field→Nat→Bool
 | [],_=>true
 | f :: t, i => (f.name != "_") && isStr (P.underlying f.type) && Nat.beq f.offset i && D8 P t (i + 1)
def EqS (P:Program) (T:TypeId) (n:Nat):Prop:=P.eqGuardType P.depth T=false∧∀ (xs ys:List Bs) (w:World),xs.length=n→ys.length=n →
 (Op.equalIn 10000 T (.agg (xs.map sv).toArray) (.agg (ys.map sv).toArray)).run P w = .ok (xs == ys) w
theorem Ni {o:Option TypeDesc} (h:isStr o=true):o=some .string:=by
 unfold isStr at h; split at h
 ·rfl
 ·cases h
theorem uX {P:Program} {T:TypeId} (hu:P.underlying T=some .string) {xs:List Bs} {i:Nat} {x:Bs} (hx:xs[i]? = some x) (w:World):(part T (xs.map sv).toArray i).run P w = .ok (sv x) w:=by
 have hi:(isAgg T).run P w = .ok false w:=by
  unfold isAgg
  simp only [Sem.run_bind,run_underlying hu,Result.andThen_ok]
  rfl
 unfold part
 have:(xs.map sv).toArray[i]? = some (sv x):=by simp [hx]
 simp only [Sem.run_bind,hi,Result.andThen_ok,Bool.false_eq_true,if_false,this,Sem.run_pure]
theorem sP {P : Program} {d : Nat} {xs ys : List Bs} {w : World} : ∀ (fs : List Field) (i : Nat), D8 P fs i = true → xs.length = i + fs.length → ys.length = i + fs.length →
  (Op.eqFields (d+1) (xs.map sv).toArray (ys.map sv).toArray fs).run P w = .ok (xs.drop i == ys.drop i) w
 | [],i,_,hx,hy=>by
  have h1:xs.drop i=[]:=List.drop_of_length_le (by simp at hx; omega)
  have h2:ys.drop i=[]:=List.drop_of_length_le (by simp at hy; omega)
  rw [h1,h2]
  simp [Op.eqFields]
 | f::t,i,h,hx,hy=>by
  simp only [D8,Bool.and_eq_true,bne_iff_ne] at h
  obtain ⟨⟨⟨h1,h2⟩,h3⟩,h4⟩:=h
  have h3':=Nat.eq_of_beq_eq_true h3
  simp only [List.length_cons] at hx hy
  have hxi:i<xs.length:=by omega
  have hyi:i<ys.length:=by omega
  have hu:P.underlying f.type=some .string:=Ni h2
  unfold Op.eqFields
  rw [if_pos h1,h3']
  simp only [Sem.run_bind,uX hu (List.getElem?_eq_getElem hxi),uX hu (List.getElem?_eq_getElem hyi),Result.andThen_ok,run_equalIn_string w d f.type _ _ hu,iW]
  have hb:(xs.drop i == ys.drop i)=(xs[i] == ys[i] && (xs.drop (i+1) == ys.drop (i+1))):=by
   rw [List.drop_eq_getElem_cons hxi,List.drop_eq_getElem_cons hyi]; rfl
  rw [hb]
  by_cases he:xs[i]=ys[i]
  ·rw [if_neg (by simp [he]),sP t (i+1) h4 (by omega) (by omega),he]
   simp only [beq_self_eq_true,Bool.true_and]
  ·rw [if_pos (by simp [he]),beq_eq_false_iff_ne.2 he]
   rfl
theorem EqS.of {P:Program} {T:TypeId} {fs:Array Field} {n:Nat} (h1:P.underlying T=some (.struct fs)) (h2:P.stoodInHeld T=false) (h3:P.eqGuardType P.depth T=false) (h4:D8 P fs.toList 0=true) (hn:fs.size=n):EqS P T n:=by
 refine ⟨h3,fun xs ys w hx hy=>?_⟩
 have hf:P.fieldsOf T=fs:=by simp [Program.fieldsOf,h1]
 rw [run_equalIn_struct w 9999 T _ _ (by rw [hf]; exact h1) h2,hf,sP fs.toList 0 h4 (by simp [hx,hn]) (by simp [hy,hn])]
 simp
section
variable {P:Program} {e:Env} {h h':SH} {ty:TypeId}
theorem jG {T t':TypeId} {x y:Operand} {a b c d:Bs} (hE:EqS P T 2) (hx:e.ev? x=some (.agg #[sv a,sv b])) (hy:e.ev? y=some (.agg #[sv c,sv d])) :
  Vop P e h (.binOp .eql T x y t') ty (.bool ([a,b] == [c,d])):=
 ⟨by simp,by simp,fun ρ w dd pos after g hρ _=>by
  have hq:(Op.equalIn 10000 T (.agg #[sv a,sv b]) (.agg #[sv c,sv d])).run P w = .ok ([a,b] == [c,d]) w:=hE.2 [a,b] [c,d] w rfl rfl
  simp only [execOp,hρ x _ hx,hρ y _ hy,Sem.run_bind,run_eqGuard_agg w .eql T x y _ _ hE.1,Result.andThen_ok,run_eql_struct,hq,Sem.run_pure]⟩
theorem Cc {T t':TypeId} {x y:Operand} {a b c d:Bs} (hE:EqS P T 2) (hx:e.ev? x=some (.agg #[sv a,sv b])) (hy:e.ev? y=some (.agg #[sv c,sv d])) :
  Vop P e h (.binOp .neq T x y t') ty (.bool (!([a,b] == [c,d]))):=
 ⟨by simp,by simp,fun ρ w dd pos after g hρ _=>by
  have hq:(Op.equalIn 10000 T (.agg #[sv a,sv b]) (.agg #[sv c,sv d])).run P w = .ok ([a,b] == [c,d]) w:=hE.2 [a,b] [c,d] w rfl rfl
  simp only [execOp,hρ x _ hx,hρ y _ hy,Sem.run_bind,run_eqGuard_agg w .neq T x y _ _ hE.1,Result.andThen_ok,run_neq_struct,hq,Sem.run_pure]⟩
end
theorem JZ {a b c d:Bs}:([a,b] == [c,d])=(a == c && b == d):=by
 rw [Bool.eq_iff_iff]
 simp
end Go.Ck
namespace Go.Ck
open Go Go.RowKit Go.ChangeShapes Go.WideShapes
theorem cells_one {v:Value} (h:v.oneCell'=true):v.cells.toList=[v]:=by
 cases v <;> first | rfl | (simp [Value.oneCell'] at h)
theorem row_of {α : Type} {r:Res} {t:Ty} {v:Value} (f:t.D → α) (X:List Value → α → Prop) (hX:∀ us x,Rep r t us x→X us (f x)) {y:(Ty.slice t).D} (h:Rep r (.slice t) [v] y):Row r t.sz X v ((show List t.D from y).map f):=by
 unfold Rep at h
 obtain ⟨a,cap,h1,hl,hm,hn,h2⟩:=h
 refine ⟨a,cap,by rw [List.length_map]; exact (List.cons.inj h1).1,by rw [List.length_map]; exact hl,hm,hn,fun i x hi=>?_⟩
 rw [List.getElem?_map] at hi
 cases hy:(show List t.D from y)[i]? with
 | none=>rw [hy] at hi; cases hi
 | some z =>
  rw [hy] at hi
  obtain rfl:=Option.some.inj hi
  rcases h2 with h0 | ⟨b,o,h3,h4⟩
  ·rw [show (show List t.D from y)=[] from h0] at hy; simp at hy
  ·obtain ⟨us,h5,h6,h7⟩:=h4 i z hy
   exact ⟨b,o,us,h3,h5,h6,hX _ _ h7⟩
theorem one_cell {us:List Value} (h:us.length=1):∃ u,us=[u]:=by
 match us,h with
 | [u],_=>exact ⟨u,rfl⟩
end Go.Ck
namespace Go.Hr
open Go Go.RowKit Go.ChangeShapes Go.WideShapes Go.Ck
def Fs:List TypeId:=[3,4,9,25,59,62,185,186,188,189,191,192,194,196,198,201,203]
def Ak:Ty:=.struct [.str,.slice (.any 5 Fs),.slice (.any 2 Fs),.slice .str,.slice .str,.slice .str]
def yz:Ty:=.struct [.str,.bool,.slice (.any 2 Fs),.slice Ak,.slice .str,.slice (.any 15 Fs),.slice (.any 5 Fs)]
def nmOf (s:ByteArray):Nm:=s.data.toList
def parOf (x:Ak.D):Nm:=nmOf (show ByteArray from x.1)
def clsOf (x:yz.D):Cls:=⟨nmOf (show ByteArray from x.1),(show List Ak.D from x.2.2.2.1).map parOf,(show List Unit from x.2.2.2.2.2.1).length⟩
def sysOf (y:(Ty.slice yz).D):Sys:=(show List yz.D from y).map clsOf
theorem parC_of {r:Res} {us:List Value} {x:Ak.D} (h:Rep r Ak us x):parC us (parOf x):=by
 obtain ⟨x1,x2,x3,x4,x5,x6,x7⟩:=x
 simp only [Ak,Rep,Reps] at h
 obtain ⟨u1,us1,e1,l1,r1,h⟩:=h
 obtain ⟨u2,us2,e2,l2,r2,h⟩:=h
 obtain ⟨u3,us3,e3,l3,r3,h⟩:=h
 obtain ⟨u4,us4,e4,l4,r4,h⟩:=h
 obtain ⟨u5,us5,e5,l5,r5,h⟩:=h
 obtain ⟨u6,us6,e6,l6,r6,h⟩:=h
 have r1:=r1.1
 obtain ⟨a2,c2,g2,_⟩:=r2
 obtain ⟨a3,c3,g3,_⟩:=r3
 obtain ⟨a4,c4,g4,_⟩:=r4
 obtain ⟨a5,c5,g5,_⟩:=r5
 obtain ⟨a6,c6,g6,_⟩:=r6
 subst h r1 g2 g3 g4 g5 g6 e6 e5 e4 e3 e2
 exact ⟨_,_,_,_,_,e1,Z⟩
theorem cls_of {r:Res} {us:List Value} {x:yz.D} (h:Rep r yz us x):clsC r us (clsOf x):=by
 obtain ⟨x1,x2,x3,x4,x5,x6,x7,x8⟩:=x
 simp only [yz,Rep,Reps] at h
 obtain ⟨u1,us1,e1,l1,r1,h⟩:=h
 obtain ⟨u2,us2,e2,l2,r2,h⟩:=h
 obtain ⟨u3,us3,e3,l3,r3,h⟩:=h
 obtain ⟨u4,us4,e4,l4,r4,h⟩:=h
 obtain ⟨u5,us5,e5,l5,r5,h⟩:=h
 obtain ⟨u6,us6,e6,l6,r6,h⟩:=h
 obtain ⟨u7,us7,e7,l7,r7,h⟩:=h
 obtain ⟨p4,rfl⟩:=one_cell l4
 have s4:Rep r (.slice Ak) [p4] x4:=by simp only [Rep]; exact r4
 have r1:=r1.1
 obtain ⟨a3,c3,g3,_⟩:=r3
 obtain ⟨a4,c4,g4,_⟩:=r4
 obtain ⟨a5,c5,g5,_⟩:=r5
 obtain ⟨a6,c6,g6,_⟩:=r6
 obtain ⟨a7,c7,g7,_⟩:=r7
 have g4:=(List.cons.inj g4).1
 subst h r1 r2 g3 g4 g5 g6 g7 e7 e6 e5 e4 e3 e2
 exact ⟨_,_,_,_,_,_,_,e1,Z,row_of parOf parC (fun _ _ h=>parC_of h) s4⟩
theorem xe {r:Res} {v:Value} {y:(Ty.slice yz).D} (h:Rep r (.slice yz) [v] y):lU r v (sysOf y):=row_of clsOf (clsC r) (fun _ _ h=>cls_of h) h
def nmsOf (y:(Ty.slice .str).D):List Nm:=(show List ByteArray from y).map nmOf
end Go.Hr
namespace Go.Ck
open Go Go.RowKit Go.ChangeShapes Go.WideShapes
section
variable {H:Type}
theorem pQ {P:Program} {e:TypeId}:∀ {ds:List (DataW H)} {d:DataW H},d∈ds→∀ n∈d.weights P e,n∈DataW.weightsAll P e ds
 | d0::ds,d,hd,n,hn=>by
  simp only [DataW.weightsAll,List.mem_append]
  rcases List.mem_cons.1 hd with rfl | hd
  ·exact .inl hn
  ·exact .inr (pQ hd n hn)
variable (enc:TypeId×Value→H) (P:Program) (W:World)
def Gd (n:Nat) (t:TypeId) (cs:List Value):Prop:=∃ x,DataW.trod enc P W 0 (fun _=>true) true n t cs=some x∧∀ m∈x.1.weights P t,m≤reachBytes
variable {enc P W}
theorem Gd.slice {n : Nat} {t e : TypeId} {cs : List Value} (h : Gd enc P W n t cs) (hu : P.underlying t = some (.slice e)) (hsz : 0 < P.cellsOf e) :
  cs=[.slice none 0 0]∨∃ a len cap m,n=m+1∧cs=[.slice (some a) len cap]∧len≤cap∧cap≤maxLen∧len * P.bytesOf e≤reachBytes ∧
   ∀ i,i<len→∃ b o us,a=⟨b,o,none⟩∧us.length=P.cellsOf e∧Rds (old W) b (o+i * P.cellsOf e) us∧Gd enc P W m e us:=by
 obtain ⟨x,h,hz⟩:=h
 rcases DataW.trod_slice hu h with ⟨h0,_⟩ | ⟨a,len,cap,elems,rest,m,hn,h1,hx,_,hl,hc,hlen,hel,_⟩
 ·exact .inl h0
 ·refine .inr ⟨a, len, cap, m, hn, h1, hl, hc, ?_, fun i hi => ?_⟩
  ·have:=hz ((elems.length+rest.length) * P.bytesOf e) (by rw [hx]; simp [DataW.weights,hu])
   rw [hlen] at this
   exact Nat.le_trans (Nat.mul_le_mul_right _ (Nat.le_add_right _ _)) this
  ·have h2:=hel i hi
   rw [List.getElem?_eq_getElem (by omega),Option.bind_eq_some_iff] at h2
   obtain ⟨us,h3,h4⟩:=h2
   obtain ⟨h5,h6⟩:=wQ h3
   have hspot:a.spot=none:=by
    have g2:=hel 0 (by omega)
    rw [List.getElem?_eq_getElem (by omega),Option.bind_eq_some_iff] at g2
    obtain ⟨us0,g3,_⟩:=g2
    obtain ⟨g5,g6⟩:=wQ g3
    have:=g6 0 (by omega)
    simp only [Nat.zero_mul,Addr.add,if_true] at this
    exact (cell_spot this).1
   obtain ⟨ab,ao,asp⟩:=a
   simp only at hspot
   subst hspot
   refine ⟨ab,ao,us,Z,h5,fun j hj=>?_,elems[i]'(by omega),h4,fun k hk=>hz k ?_⟩
   ·have:=h6 j hj
    rw [Addr.add_lit,Addr.add_lit] at this
    exact Ms (cell_spot this).2 this
   ·rw [hx]
    simp only [DataW.weights,hu]
    exact List.mem_cons_of_mem _ (List.mem_append_left _ (pQ (List.mem_map.2 ⟨_,List.getElem_mem (by omega),Z⟩) _ hk))
theorem Gd.struct {n:Nat} {t:TypeId} {fs:Array Field} {cs:List Value} (h:Gd enc P W n t cs) (hu:P.underlying t=some (.struct fs)) :
  ∃ m,n=m+1∧cs.length=P.cellsOf t∧∀ (i:Nat) (f:Field),fs[i]? = some f→Gd enc P W m f.type ((cs.drop f.offset).take (P.cellsOf f.type)):=by
 obtain ⟨x,h,hz⟩:=h
 obtain ⟨xs,m,hn,hx,hcl,hxl,hfe⟩:=DataW.trod_struct hu h
 refine ⟨m,hn,hcl,fun i f hf=>?_⟩
 have h1:=hfe i f hf
 have hlt:i<xs.length:=by rw [hxl]; exact (Array.getElem?_eq_some_iff.1 hf).1
 rw [List.getElem?_eq_getElem hlt] at h1
 refine ⟨xs[i],h1,fun k hk=>hz k ?_⟩
 rw [hx]
 simp only [DataW.weights,hu]
 exact DataW.weights_mem_each (j:=i) (by rw [List.getElem?_map]; simp [hf]) (by rw [List.getElem?_map,List.getElem?_eq_getElem hlt]; rfl) _ hk
end
end Go.Ck
namespace Go.Ck
open Go Go.RowKit
theorem Nj {z:Array Value} {sz n:Nat} (hz:z.size=sz) (h0:0<sz):(madeCells z (n * sz)).toList=(List.replicate n z.toList).flatten:=by
 have hfl:((List.replicate n z.toList).flatten).length=n * sz:=by simp [hz]
 apply List.ext_getElem?
 intro i
 rcases Nat.lt_or_ge i (n * sz) with h | h
 ·have h1:i / sz<n:=Nat.div_lt_of_lt_mul (by rw [Nat.mul_comm]; exact h)
  have h2:=Nat.mod_lt i h0
  have h3:=oN (rows:=List.replicate n z.toList) (sz:=sz) (m:=i / sz) (k:=i % sz) (r:=z.toList) (x:=z[i % sz]'(by omega)) (fun r hr=>by rw [List.eq_of_mem_replicate hr]; simpa using hz) (by simp [h1]) (by simp [hz,h2])
  rw [Nat.div_add_mod' i sz] at h3
  rw [h3]
  simp [madeCells,h,hz,h2]
 ·rw [List.getElem?_eq_none (by simp [madeCells]; omega),List.getElem?_eq_none (by omega)]
section
variable {c:Cx} {ops:Array Oper} {K:Act→World→Prop} {rest:List Oper} {e:Env} {h:SH}
theorem Nk {d : Nat} {T E ty : TypeId} {x y : Operand} {pos : String} {after : Array Edge} {z : Value} {sz bytes n : Nat} {i : Int} (hx : e.ev? x = some (.int .i64 i)) (hy : e.ev? y = some (.int .i64 i)) (hn : i = (n : Int))
  (hT:c.P.underlying T=some (.slice E)) (hE:Inf c.P E z sz bytes) (hz:z.cells.size=sz) (h0:0<sz) (hb:bytes * n≤281474976710656) (h63:n≤maxLen) (hd:d<c.n)
  (hnx:∀ b,St c ops K rest ((d,.slice (some ⟨b,0,none⟩) n n)::e) (pt b (cl ((List.replicate n z.cells.toList).flatten) E)::h)) :
  St c ops K (⟨some d,.makeSlice T x y,ty,pos,after,none⟩::rest) e h :=
 dY (by simp) fun a w hk hh hs=>by
  obtain ⟨ie,h1,h2,h3,h4⟩:=hE.parts
  have hml:maxLen=9223372036854775807:=rfl
  subst hn
  have hm:=run_make (P:=c.P) w T E ie z hT h1 h2 .i64 .i64 n n (by omega) (by omega) (by rw [h4]; have h:=Int.ofNat_le.2 hb; rw [Int.natCast_mul] at h; omega) (by omega)
  have hcl:(Obj.cells (madeCells z.cells ((n:Int).toNat * ie.size)) E)=cl ((List.replicate n z.cells.toList).flatten) E:=by
   simp only [cl,h3,Int.toNat_natCast,Obj.cells.injEq,and_true]
   apply Array.ext'
   rw [Nj hz h0]
  rw [hcl] at hm
  simp only [Int.toNat_natCast] at hm
  simp only [execOp,hk.ev hx,hk.ev hy,Sem.run_bind,hm,Result.andThen_ok,Sem.run_pure]
  exact hnx _ _ _ (hk.put _ hd) (Holds.alloc hh _) (hs.trans (Grew.alloc _ _ Z).toSame)
theorem Am {sz:Nat}:∀ {rows:List (List Value)},(∀ r∈rows,r.length=sz)→rows.flatten.length=rows.length * sz
 | [],_=>by simp
 | r::t,h=>by
  rw [List.flatten_cons,List.length_append,h r (by simp),Am (rows:=t) fun q hq=>h q (by simp [hq]),List.length_cons,Nat.succ_mul]; omega
theorem mq {sz:Nat} {vs:List Value} (hv:vs.length=sz):∀ {rows:List (List Value)} {m:Nat},(∀ r∈rows,r.length=sz)→m<rows.length→splice rows.flatten (m * sz) vs=(rows.set m vs).flatten
 | [],m,_,hm=>by simp at hm
 | r::t,0,h,_=>by
  have hr:=h r (by simp)
  simp [splice,hv,← hr]
 | r::t,m+1,h,hm=>by
  have hr:=h r (by simp)
  have ih:=mq hv (rows:=t) (m:=m) (fun q hq=>h q (by simp [hq])) (by simpa using hm)
  have ht:=Am (sz:=sz) (rows:=t) fun q hq=>h q (by simp [hq])
  rw [List.set_cons_succ,List.flatten_cons,List.flatten_cons,← ih]
  unfold splice
  rw [Nat.succ_mul,show m * sz+sz=r.length+m * sz by omega]
  rw [List.take_length_add_append,show r.length+m * sz+vs.length=r.length+(m * sz+vs.length) by omega,List.drop_length_add_append]
  simp
end
end Go.Ck
namespace Go.Ck
open Go Go.RowKit Go.ChangeShapes Go.WideShapes
def oneB (P:Program) (L:List TypeId):Bool:=L.all fun t=>match P.underlying t with
 | some (.int _)=>true
 | some .bool=>true
 | some .string=>true
 | some (.slice _)=>true
 | some (.struct fs)=>(List.range (P.cellsOf t)).all fun k=>fs.toList.any fun f=>L.contains f.type && Nat.ble f.offset k && Nat.blt k (f.offset+P.cellsOf f.type)
 | _=>false
theorem Gd.one {H : Type} {enc : TypeId × Value → H} {P : Program} {W : World} {L : List TypeId} (hL : oneB P L = true) : ∀ (n : Nat) (t : TypeId) (cs : List Value), t ∈ L → Gd enc P W n t cs → ∀ u ∈ cs, u.oneCell' = true
 | 0,t,cs,_,⟨x,h,_⟩=>by simp [DataW.trod] at h
 | n + 1, t, cs, ht, hg => by
  have hc:=List.all_eq_true.1 hL t ht
  obtain ⟨x,h,hz⟩:=id hg
  cases hu:P.underlying t with
  | none=>rw [hu] at hc; cases hc
  | some d =>
   rw [hu] at hc
   cases d with
   | int k=>obtain ⟨q,rfl,_⟩:=DataW.trod_int hu h; intro u hm; simp at hm; subst hm; rfl
   | bool=>obtain ⟨q,rfl,_⟩:=DataW.trod_bool hu h; intro u hm; simp at hm; subst hm; rfl
   | string=>obtain ⟨q,rfl,_⟩:=DataW.trod_string hu h; intro u hm; simp at hm; subst hm; rfl
   | slice e =>
    rcases DataW.trod_slice hu h with ⟨rfl,_⟩ | ⟨a,len,cap,_,_,_,_,rfl,_⟩ <;> (intro u hm; simp at hm; subst hm; rfl)
   | struct fs =>
    obtain ⟨m,hm,hcl,hf⟩:=hg.struct hu
    obtain rfl:n=m:=by omega
    intro u hu2
    obtain ⟨k,hk,rfl⟩:=List.getElem_of_mem hu2
    have h1:=List.all_eq_true.1 hc k (List.mem_range.2 (by omega))
    obtain ⟨f,hfm,h2⟩:=List.any_eq_true.1 h1
    simp only [Bool.and_eq_true] at h2
    obtain ⟨⟨h3,h4⟩,h5⟩:=h2
    have h4:=Nat.le_of_ble_eq_true h4
    have h5:k<f.offset+P.cellsOf f.type:=Nat.lt_of_succ_le (by simpa [Nat.blt] using h5)
    obtain ⟨i,hi⟩:=List.getElem?_of_mem hfm
    refine Gd.one hL n f.type _ (by simpa using h3) (hf i f (by simpa using hi)) _ ?_
    refine List.mem_iff_getElem?.2 ⟨k - f.offset,?_⟩
    rw [List.getElem?_take,if_pos (by omega),List.getElem?_drop,show f.offset+(k - f.offset)=k by omega,List.getElem?_eq_getElem hk]
   | _=>cases hc
/-! ## The same, out of any resource -/
section
variable (P:Program)
def Gr (S:Res):Nat→TypeId→List Value→Prop
 | 0,_,_=>False
 | n+1,t,cs=>match P.underlying t with
  | some (.int _)=>∃ v,cs=[v]∧v.oneCell'=true
  | some .bool=>∃ v,cs=[v]∧v.oneCell'=true
  | some .string=>∃ v,cs=[v]∧v.oneCell'=true
  | some (.slice e)=>∃ (l:List Unit) (v:Value),cs=[v]∧Row S (P.cellsOf e) (fun us _=>Gr S n e us) v l∧l.length * P.bytesOf e≤reachBytes
  | some (.struct fs)=>cs.length=P.cellsOf t∧∀ (i:Nat) (f:Field),fs[i]? = some f→Gr S n f.type ((cs.drop f.offset).take (P.cellsOf f.type))
  | _=>False
def kinB (L:List TypeId):Bool:=L.all fun t=>match P.underlying t with
 | some (.int _)=>true
 | some .bool=>true
 | some .string=>true
 | some (.slice e)=>L.contains e && Nat.blt 0 (P.cellsOf e)
 | some (.struct fs)=>fs.toList.all fun f=>L.contains f.type
 | _=>false
def flatB (L:List TypeId):Bool:=L.all fun t=>match P.underlying t with
 | some (.int _)=>true
 | some .bool=>true
 | some .string=>true
 | some (.struct fs)=>fs.toList.all fun f=>L.contains f.type
 | _=>false
inductive Gall (S:Res) (n:Nat) (cs:List Value):List Field→Prop
 | nil:Gall S n cs []
 | cons {f:Field} {fs:List Field}:Gr P S n f.type ((cs.drop f.offset).take (P.cellsOf f.type))→Gall S n cs fs→Gall S n cs (f::fs)
end
section
variable {P:Program} {S T:Res}
theorem Gr.row {n:Nat} {t e:TypeId} {v:Value} (h:Gr P S n t [v]) (hu:P.underlying t=some (.slice e)):∃ (m:Nat) (l:List Unit),n=m+1∧Row S (P.cellsOf e) (fun us _=>Gr P S m e us) v l∧l.length * P.bytesOf e≤reachBytes:=by
 cases n with
 | zero=>exact h.elim
 | succ n =>
  simp only [Gr,hu] at h
  obtain ⟨l,v',h1,h2,h3⟩:=h
  cases h1
  exact ⟨n,l,Z,h2,h3⟩
theorem Gr.slice {n : Nat} {t e : TypeId} {v : Value} (h : Gr P S n t [v]) (hu : P.underlying t = some (.slice e)) (_ : 0 < P.cellsOf e) :
  [v]=[Value.slice none 0 0]∨∃ a len cap m,n=m+1∧[v]=[Value.slice (some a) len cap]∧len≤cap∧cap≤maxLen∧len * P.bytesOf e≤reachBytes ∧
   ∀ i,i<len→∃ b o us,a=⟨b,o,none⟩∧us.length=P.cellsOf e∧Rds S b (o+i * P.cellsOf e) us∧Gr P S m e us:=by
 obtain ⟨m,l,hm,⟨a,cap,rfl,h1,h2,h3,h4⟩,hb⟩:=h.row hu
 cases a with
 | none =>
  have hc:=h3 rfl
  subst hc
  rw [show l.length=0 by omega]
  exact .inl Z
 | some a =>
  refine .inr ⟨a,l.length,cap,m,hm,Z,h1,h2,hb,fun i hi=>?_⟩
  obtain ⟨b,o,us,e1,e2,e3,e4⟩:=h4 i _ (List.getElem?_eq_getElem hi)
  exact ⟨b,o,us,Option.some.inj e1,e2,e3,e4⟩
theorem Gr.struct {n:Nat} {t:TypeId} {fs:Array Field} {cs:List Value} (h:Gr P S n t cs) (hu:P.underlying t=some (.struct fs)) :
  ∃ m,n=m+1∧cs.length=P.cellsOf t∧∀ (i:Nat) (f:Field),fs[i]? = some f→Gr P S m f.type ((cs.drop f.offset).take (P.cellsOf f.type)):=by
 cases n with
 | zero=>exact h.elim
 | succ n =>
  simp only [Gr,hu] at h
  exact ⟨n,Z,h⟩
theorem Gall.at {n:Nat} {cs:List Value}:∀ {fs:List Field},Gall P S n cs fs→∀ (i:Nat) (f:Field),fs[i]? = some f→Gr P S n f.type ((cs.drop f.offset).take (P.cellsOf f.type))
 | _,.nil,i,f,h=>by simp at h
 | _,.cons h _,0,f,hf=>by simp at hf; subst hf; exact h
 | _,.cons _ ht,i+1,f,hf=>ht.at i f (by simpa using hf)
theorem Gr.mk {n k:Nat} {t:TypeId} {fs:Array Field} {cs:List Value} (hu:P.underlying t=some (.struct fs)) (hk:P.cellsOf t=k) (hl:cs.length=k) (h:Gall P S n cs fs.toList):Gr P S (n+1) t cs:=by
 subst hk
 simp only [Gr,hu]
 exact ⟨hl,fun i f hf=>h.at i f (by simpa using hf)⟩
theorem Gr.mono (hr : ∀ p u, Rd S p u → Rd T p u) : ∀ {n : Nat} {t : TypeId} {cs : List Value}, Gr P S n t cs → Gr P T n t cs
 | 0,_,_,h=>h.elim
 | n + 1, t, cs, h => by
  unfold Gr at h ⊢
  cases hu:P.underlying t with
  | none=>rw [hu] at h; exact h.elim
  | some d =>
   rw [hu] at h
   cases d with
   | int k=>exact h
   | bool=>exact h
   | string=>exact h
   | slice e =>
    obtain ⟨l,v,h1,h2,h3⟩:=h
    exact ⟨l,v,h1,h2.mono hr fun _ _ _ h=>Gr.mono hr h,h3⟩
   | struct fs=>exact ⟨h.1,fun i f hf=>Gr.mono hr (h.2 i f hf)⟩
   | _=>exact h.elim
theorem Gr.up : ∀ {n : Nat} {t : TypeId} {cs : List Value}, Gr P S n t cs → Gr P S (n + 1) t cs
 | 0,_,_,h=>h.elim
 | n + 1, t, cs, h => by
  unfold Gr at h ⊢
  cases hu:P.underlying t with
  | none=>rw [hu] at h; exact h.elim
  | some d =>
   rw [hu] at h
   cases d with
   | int k=>exact h
   | bool=>exact h
   | string=>exact h
   | slice e =>
    obtain ⟨l,v,h1,h2,h3⟩:=h
    exact ⟨l,v,h1,h2.mono (fun _ _ h=>h) fun _ _ _ h=>Gr.up h,h3⟩
   | struct fs=>exact ⟨h.1,fun i f hf=>Gr.up (h.2 i f hf)⟩
   | _=>exact h.elim
theorem Gr.flat {L : List TypeId} (hL : flatB P L = true) : ∀ {n : Nat} {t : TypeId} {cs : List Value}, L.contains t = true → Gr P S n t cs → Gr P T n t cs
 | 0,_,_,_,h=>h.elim
 | n+1,t,cs,ht,h=>by
  have hc:=List.all_eq_true.1 hL t (by simpa using ht)
  unfold Gr at h ⊢
  cases hu:P.underlying t with
  | none=>rw [hu] at h; exact h.elim
  | some d =>
   rw [hu] at h hc
   cases d with
   | int k=>exact h
   | bool=>exact h
   | string=>exact h
   | slice e=>cases hc
   | struct fs=>exact ⟨h.1,fun i f hf=>Gr.flat hL (List.all_eq_true.1 hc f (List.mem_of_getElem? (i:=i) (by simpa using hf))) (h.2 i f hf)⟩
   | _=>exact h.elim
theorem Gr.one {L : List TypeId} (hL : oneB P L = true) : ∀ (n : Nat) (t : TypeId) (cs : List Value), t ∈ L → Gr P S n t cs → ∀ u ∈ cs, u.oneCell' = true
 | 0,t,cs,_,h=>h.elim
 | n + 1, t, cs, ht, hg => by
  have hc:=List.all_eq_true.1 hL t ht
  have h:=hg
  unfold Gr at h
  cases hu:P.underlying t with
  | none=>rw [hu] at hc; cases hc
  | some d =>
   rw [hu] at hc h
   cases d with
   | int k=>obtain ⟨q,rfl,hq⟩:=h; intro u hm; simp at hm; subst hm; exact hq
   | bool=>obtain ⟨q,rfl,hq⟩:=h; intro u hm; simp at hm; subst hm; exact hq
   | string=>obtain ⟨q,rfl,hq⟩:=h; intro u hm; simp at hm; subst hm; exact hq
   | slice e =>
    obtain ⟨l,v,rfl,⟨a,cap,rfl,_⟩,_⟩:=h
    intro u hm; simp at hm; subst hm; rfl
   | struct fs =>
    obtain ⟨hcl,hf⟩:=h
    intro u hu2
    obtain ⟨k,hk,rfl⟩:=List.getElem_of_mem hu2
    have h1:=List.all_eq_true.1 hc k (List.mem_range.2 (by omega))
    obtain ⟨f,hfm,h2⟩:=List.any_eq_true.1 h1
    simp only [Bool.and_eq_true] at h2
    obtain ⟨⟨h3,h4⟩,h5⟩:=h2
    have h4:=Nat.le_of_ble_eq_true h4
    have h5:k<f.offset+P.cellsOf f.type:=Nat.lt_of_succ_le (by simpa [Nat.blt] using h5)
    obtain ⟨i,hi⟩:=List.getElem?_of_mem hfm
    refine Gr.one hL n f.type _ (by simpa using h3) (hf i f (by simpa using hi)) _ ?_
    refine List.mem_iff_getElem?.2 ⟨k - f.offset,?_⟩
    rw [List.getElem?_take,if_pos (by omega),List.getElem?_drop,show f.offset+(k - f.offset)=k by omega,List.getElem?_eq_getElem hk]
   | _=>cases hc
theorem Gr.keep {L:List TypeId} (hL:flatB P L=true) {n o k:Nat} {t:TypeId} {us us':List Value} (h:Gr P S n t ((us.drop o).take (P.cellsOf t))) (ht:L.contains t=true) (hk:P.cellsOf t=k) (he:(us.drop o).take k=(us'.drop o).take k):Gr P T n t ((us'.drop o).take (P.cellsOf t)):=by
 rw [hk] at h ⊢
 rw [← he]
 exact Gr.flat hL ht h
theorem Gr.cut {n o k:Nat} {t:TypeId} {us vs:List Value} (h:Gr P S n t vs) (hk:P.cellsOf t=k) (he:(us.drop o).take k=vs):Gr P S n t ((us.drop o).take (P.cellsOf t)):=by
 rw [hk,he]; exact h
end
end Go.Ck
namespace Go.Fl
open Go Go.Hr
inductive Ex
 | mk (kind:Int) (name:Nm) (n:Int) (kids:List Ex)
namespace Ex
def kind:Ex→Int | .mk k _ _ _=>k
def name:Ex→Nm | .mk _ n _ _=>n
def num:Ex→Int | .mk _ _ n _=>n
def kids:Ex→List Ex | .mk _ _ _ l=>l
end Ex
mutual
def Ex.same:Ex→Ex→Bool
 | .mk k n i l,.mk k' n' i' l'=>k == k' && n == n' && i == i' && exs l l'
def exs:List Ex→List Ex→Bool
 | [],[]=>true
 | a::t,b::u=>a.same b && exs t u
 | [],_::_=>false
 | _::_,[]=>false
end
mutual
theorem Nl:∀ (a b:Ex),a.same b=true↔a=b
 | .mk k n i l,.mk k' n' i' l'=>by
  simp only [Ex.same,Bool.and_eq_true,beq_iff_eq,J2 l l',Ex.mk.injEq]
  constructor
  ·rintro ⟨⟨⟨h1,h2⟩,h3⟩,h4⟩; exact ⟨h1,h2,h3,h4⟩
  ·rintro ⟨h1,h2,h3,h4⟩; exact ⟨⟨⟨h1,h2⟩,h3⟩,h4⟩
theorem J2:∀ (a b:List Ex),exs a b=true↔a=b
 | [],[]=>by simp [exs]
 | a::t,b::u=>by simp only [exs,Bool.and_eq_true,Nl a b,J2 t u,List.cons.injEq]
 | [],_::_=>by simp [exs]
 | _::_,[]=>by simp [exs]
end
instance:DecidableEq Ex:=fun a b=>decidable_of_iff _ (Nl a b)
mutual
def Ex.depth:Ex→Nat
 | .mk _ _ _ l=>exds l+1
def exds:List Ex→Nat
 | []=>0
 | a::t=>max a.depth (exds t)
end
theorem uY:∀ {l:List Ex} {t:Ex},t∈l→t.depth≤exds l
 | a::l,t,h=>by
  unfold exds
  rcases List.mem_cons.1 h with rfl | h
  ·omega
  ·have:=uY h; omega
theorem sQ {t a:Ex} (h:a∈t.kids):a.depth<t.depth:=by
 cases t
 have:=uY h
 simp only [Ex.kids] at this
 show a.depth<exds _+1; omega
structure Cla where
 tag:Nm
 ex:Ex
 deriving DecidableEq
structure Grp where
 cls:Nm
 cs:List Cla
 deriving DecidableEq
structure Vr where
 name:Nm
 ty:Kt
 deriving DecidableEq
structure Sd where
 cls:Nm
 name:Nm
 deriving DecidableEq
structure Og where
 par:Nm
 name:Nm
 deriving DecidableEq
structure Mb where
 name:Nm
 kind:Int
 seeds:List Sd
 impl:Sd
 args:List Vr
 ty:Kt
 clients:List Nm
 pre:List Grp
 post:List Grp
 deriving DecidableEq
structure Fl where
 name:Nm
 dfd:Bool
 mems:List Mb
 inv:List Grp
 deriving DecidableEq
structure Fe where
 kind:Int
 name:Nm
 clients:List Nm
 args:List Vr
 ty:Kt
 req:List Cla
 ens:List Cla
structure Pn where
 fro:Nm
 to:Nm
structure Pt where
 name:Nm
 args:List Kt
 ren:List Pn
 und:List Nm
 red:List Nm
 sel:List Nm
structure FC where
 name:Nm
 dfd:Bool
 forms:List Fm
 pars:List Pt
 feats:List Fe
 inv:List Cla
abbrev FS:=List FC
def FC.cls (c:FC):Cls:={ name:=c.name,parents:=c.pars.map (·.name),feats:=c.feats.length }
def bn (l:FS):Hr.Sys:=l.map FC.cls
def bL (l:FS) (n:Nm):Option FC:=l.find? fun c=>c.name == n
def Bq:FC:=⟨[],false,[],[],[],[]⟩
def mb0:Mb:=⟨[],0,[],⟨[],[]⟩,[],.mk 0 [] [] false false,[],[],[]⟩
def fl0:Fl:=⟨[],false,[],[]⟩
def ae (l:FS) (n:Nm):FC:=(bL l n).getD Bq
def feat (c:FC) (n:Nm):Option Fe:=c.feats.find? fun f=>f.name == n
def dR (l:List Mb) (n:Nm):Option Mb:=l.find? fun m=>m.name == n
mutual
def cO (F:List Fm) (A:List Kt):Kt→Kt
 | .mk k n az v s=>match (if k=4 then nL F A n else none) with
  | some t=>t.flag v s
  | none=>.mk k n (J3 F A az) v s
def J3 (F:List Fm) (A:List Kt):List Kt→List Kt
 | []=>[]
 | a::t=>cO F A a::J3 F A t
end
theorem Ce {F:List Fm} {A:List Kt}:∀ (l:List Kt),J3 F A l=l.map (cO F A)
 | []=>rfl
 | a::t=>by rw [J3,Ce t]; rfl
structure Cm where
 og:Og
 par:Nat
 mem:Mb
 was:Int
 deriving DecidableEq
def Cm.dfd (x:Cm):Bool:=x.mem.kind == 3
def bK (p:Pt) (n:Nm):Nm:=match p.ren.find? fun x=>x.fro == n with
 | some x=>x.to
 | none=>n
def qL (F:List Fm) (i:Nat) (p:Pt) (m:Mb):Cm :=
 { og:=⟨p.name,m.name⟩,par:=i,was:=m.kind,mem:={ m with name:=bK p m.name,kind:=if p.und.contains (bK p m.name) then 3 else m.kind,args:=m.args.map fun a=>{ a with ty:=cO F p.args a.ty },ty:=cO F p.args m.ty } }
def comes (fl:Nm→Fl) (l:FS) (c:FC):List Cm:=c.pars.zipIdx.flatMap fun q=>(fl q.1.name).mems.map (qL (ae l q.1.name).forms q.2 q.1)
def under (cs:List Cm) (n:Nm):List Cm:=cs.filter fun x=>x.mem.name == n
def slt (a b:Sd):Bool:=lt a.cls b.cls || (a.cls == b.cls && lt a.name b.name)
def yU:List Sd→Sd→List Sd
 | [],x=>[x]
 | y::t,x=>if slt x y then x::y::t else if x=y then y::t else y::yU t x
def qM (xs:List Sd):List Sd:=xs.foldl yU []
def uZ (o:List Grp) (g:Grp):List Grp:=if o.contains g then o else o++[g]
def qN (o l:List Grp):List Grp:=l.foldl uZ o
def groups (ls:List (List Grp)):List Grp:=ls.foldl qN []
def joined (l:List Cm):Mb :=
 let m:=match l.find? (fun (x:Cm) => !x.dfd) with
  | some x=>x.mem
  | none=>(l.head?.map fun (x:Cm)=>x.mem).getD mb0
 { m with seeds:=qM (l.flatMap fun (x:Cm)=>x.mem.seeds),pre:=l.foldl (fun (o:List Grp) (x:Cm)=>groups [o,x.mem.pre]) [],post:=l.foldl (fun (o:List Grp) (x:Cm)=>groups [o,x.mem.post]) [] }
def jH (c:FC) (f:Fe) (l:List Cm):Mb :=
 let pre:List Grp:=[⟨c.name,f.req⟩]
 let post:List Grp:=if f.ens=[] then [] else [⟨c.name,f.ens⟩]
 let m:Mb:={ name:=f.name,kind:=f.kind,seeds:=[⟨c.name,f.name⟩],impl:=⟨c.name,f.name⟩,args:=f.args,ty:=f.ty,clients:=f.clients,pre:=pre,post:=post }
 if l=[] then m else { m with seeds:=(joined l).seeds,pre:=groups [(joined l).pre,if f.req=[] then [] else pre],post:=groups [(joined l).post,post] }
def yV:List Mb→Mb→List Mb
 | [],x=>[x]
 | y::t,x=>if lt x.name y.name then x::y::t else y::yV t x
def qO (xs:List Mb):List Mb:=xs.foldl yV []
def keys (cs:List Cm):List Nm:=dd [] (cs.map fun x=>x.mem.name)
def members (cs:List Cm) (c:FC):List Mb :=
 qO (((keys cs).filter fun n=>(feat c n).isNone).map (fun n=>joined (under cs n))++c.feats.map fun f=>jH c f (under cs f.name))
mutual
def tpw:Kt→Int
 | .mk _ _ az _ _=>tpws 1 az
def tpws:Int→List Kt→Int
 | n,[]=>n
 | n,a::t=>tpws (IntKind.i64.wrap (n+tpw a)) t
end
def over (l:List Mb):Bool:=decide (60<l.length) || l.any fun m=>decide (400<tpw m.ty) || m.args.any fun v=>decide (400<tpw v.ty)
def flatOf (l:FS) (c:FC) (ms:List Mb):Fl :=
 { name:=c.name,dfd:=c.dfd,mems:=ms,inv:=(above (bn l) c.name).filterMap fun a=>if (ae l a).inv=[] then none else some ⟨a,(ae l a).inv⟩ }
def aY (l:List Mb) (s:Sd):List Nm:=(l.filter fun m=>m.seeds.contains s).map (·.name)
def jV:List Nm→Nm
 | []=>[]
 | [a]=>a
 | a::b::t=>a++32::jV (b::t)
def having (cs:List Cm) (s:Sd):List Cm:=cs.filter fun x=>x.mem.seeds.contains s
def dC (c:FC) (i:Nat):Pt:=(c.pars[i]?).getD ⟨[],[],[],[],[],[]⟩
def picked (c:FC) (xs:List Cm):List Nm:=dd [] ((xs.filter fun x=>(dC c x.par).sel.contains x.mem.name).map fun x=>x.mem.name)
def ddn (o xs:List Nat):List Nat:=xs.foldl (fun o i=>if o.contains i then o else o++[i]) o
def bW (xs:List Cm):List Nat:=ddn [] (xs.map fun x=>x.par)
theorem J4 : ∀ {xs o : List Nat} {i : Nat}, i ∈ ddn o xs ↔ i ∈ o ∨ i ∈ xs
 | [],o,i=>by simp [ddn]
 | x::t,o,i=>by
  show i∈ddn (if o.contains x then o else o++[x]) t↔_
  rw [J4]
  split
  ·rename_i h
   have h:x∈o:=by simpa using h
   simp only [List.mem_cons]
   exact ⟨fun h2=>h2.elim .inl fun h2=>.inr (.inr h2),fun h2=>h2.elim .inl fun h2=>h2.elim (fun e=>.inl (e ▸ h)) .inr⟩
  ·simp [or_assoc]
theorem oO {xs:List Cm} {i:Nat}:i∈bW xs↔∃ x∈xs,x.par=i:=by
 unfold bW
 rw [J4,List.mem_map]
 simp
def eF (fl : Nm → Fl) (l : FS) : Nat → FC → List Mb → Sd → Nm × Bool
 | n, c, ms, s => match aY ms s with
  | [a]=>(a,true)
  | _ =>
   let xs:=having (comes fl l c) s
   if picked c xs≠[]∨(bW xs).length≠1 then (jV (picked c xs),(picked c xs).length == 1)
   else match bW xs, n with
    | i::_,n+1 =>
     let p:=dC c i
     if 1<(aY (fl p.name).mems s).length then
      let r:=eF fl l n (ae l p.name) (fl p.name).mems s
      (bK p r.1,r.2)
     else ([],false)
    | _,_=>([],false)
structure Cf where
 kind:Int
 cls:Nm
 name:Nm
 other:Nm
 a:Og
 b:Og
 deriving DecidableEq
def og0:Og:=⟨[],[]⟩
def cf0:Cf:=⟨0,[],[],[],og0,og0⟩
structure Sk where
 fl:Nm→Fl
 l:FS
 c:FC
 ms:List Mb
 all:Bool
namespace Sk
section
variable (s:Sk)
def cs:List Cm:=comes s.fl s.l s.c
def cf (k:Int) (n:Nm) (a b:Og):Cf:=⟨k,s.c.name,n,[],a,b⟩
def fro (i:Nat) (n:Nm):List Cm:=(under s.cs n).filter fun x=>x.par == i
def pairs {α : Type} (l:List α) (is : α → α → Bool) (f : α → α → Cf):List Cf :=
 l.zipIdx.flatMap fun a=>l.zipIdx.flatMap fun b=>if a.2=b.2∨(s.all=false∧b.2<a.2)∨is a.1 b.1=false then [] else [f a.1 b.1]
def cut (r:List Cf):List Cf:=if s.all then r else r.take 1
def cpairs (l:List Cm) (k:Int) (is:Cm→Cm→Bool):List Cf:=s.cut (s.pairs l is fun a b=>s.cf k a.mem.name a.og b.og)
def pz:List (Pt×Nat):=s.c.pars.zipIdx
def lost:List Cf :=
 (s.pz.flatMap fun p=>(p.1.ren.flatMap fun r=>if (dR (s.fl p.1.name).mems r.fro).isNone then [s.cf 1 r.fro ⟨p.1.name,r.fro⟩ og0] else []) ++
  (p.1.und++p.1.red++p.1.sel).flatMap fun n=>if s.fro p.2 n=[] then [s.cf 1 n ⟨p.1.name,n⟩ og0] else []) ++
 (s.c.pars.flatMap fun p=>p.und.flatMap fun n=>if p.red.contains n then [s.cf 2 n ⟨p.name,n⟩ og0] else []) ++
 (s.pz.flatMap fun p=>(s.fl p.1.name).mems.flatMap fun m=>if 1<(s.fro p.2 (bK p.1 m.name)).length then s.cpairs (s.fro p.2 (bK p.1 m.name)) 3 (fun _ _=>true) else []) ++
 (s.pz.flatMap fun p=>p.1.und.flatMap fun n=>(s.fro p.2 n).flatMap fun x=>if x.was≠2 then [s.cf 4 n x.og og0] else []) ++
 (s.c.pars.flatMap fun p=>p.red.flatMap fun n=>if (feat s.c n).isNone then [s.cf 5 n ⟨p.name,n⟩ og0] else [])
def skeys:List Nm:=srt (keys s.cs)
def redK (f:Fe) (x:Cm):Nat→Bool
 | 0=>x.mem.kind == 1
 | 1 => !x.dfd && !(dC s.c x.par).red.contains f.name
 | _=>f.kind == 3 && !x.dfd
def redeclared:List Cf:=[0,1,2].flatMap fun k=>s.skeys.flatMap fun n=>match feat s.c n with
 | none=>[]
 | some f=>(under s.cs n).flatMap fun x=>if s.redK f x k then [s.cf (6+k) n x.og og0] else []
def sameTy (a b:Mb):Bool:=decide (a.args=b.args) && decide (a.ty=b.ty)
def same (a b:Mb):Bool:=(decide (a.impl=b.impl) && decide (a.seeds=b.seeds)) && sameTy a b
def typed : List Cf :=
 (s.skeys.flatMap fun n=>(under s.cs n).flatMap fun x=>match feat s.c n with
  | none=>let y:=((under s.cs n).head?).getD x
   if sameTy y.mem x.mem then [] else [s.cf 9 n y.og x.og]
  | some f=>if decide (f.args=x.mem.args) && ((f.ty.kind == 0) == (x.mem.ty.kind == 0)) then [] else [s.cf 9 n ⟨[],n⟩ x.og]) ++
 (s.skeys.flatMap fun n=>if (feat s.c n).isSome then [] else s.cpairs (under s.cs n) 10 fun a b=>(!a.dfd && !b.dfd) && !same a.mem b.mem)
def seeds:List Sd:=qM (s.ms.flatMap fun m=>m.seeds)
def sel (d:Sd):Nm×Bool:=eF s.fl s.l s.l.length s.c s.ms d
def chosen:List Cf :=
 (s.seeds.flatMap fun d=>if (s.sel d).2 then [] else s.cut (s.pairs (aY s.ms d) (fun _ _=>true) fun a b=>⟨11,s.c.name,a,b,⟨d.cls,d.name⟩,og0⟩)) ++
 (s.pz.flatMap fun p=>p.1.sel.flatMap fun n=>if s.fro p.2 n≠[]∧(((dR s.ms n).getD mb0).seeds.any fun d=>decide (1<(aY s.ms d).length))=false then [s.cf 12 n ⟨p.1.name,n⟩ og0] else []) ++
 (s.ms.flatMap fun m=>if s.c.dfd=false∧m.kind=3 then [s.cf 13 m.name og0 og0] else [])
def apart:List Cf:=s.seeds.flatMap fun d=>s.pairs (s.ms.filter fun m=>m.seeds.contains d) (fun a b => !sameTy a b) fun a b=>⟨14,s.c.name,a.name,b.name,⟨d.cls,d.name⟩,og0⟩
def conflicts:List Cf:=s.lost++(s.redeclared++(s.typed++(s.chosen++s.apart)))
end
end Sk
structure Bd where
 order:List Nm
 fl:Nm→Fl
 clash:Cf
 err:Int
def look (fs:List (Nm×Fl)) (n:Nm):Fl:=((fs.find? fun p=>p.1 == n).map (·.2)).getD fl0
def lu (l:FS) (fs:List (Nm×Fl)) (n:Nm):List Mb:=members (comes (look fs) l (ae l n)) (ae l n)
def qP (l:FS) (fs:List (Nm×Fl)) (n:Nm) (all:Bool):Sk:=⟨look fs,l,ae l n,lu l fs n,all⟩
def lw (l:FS):List Nm→List (Nm×Fl)→List (Nm×Fl)×Cf×Int
 | [],fs=>(fs,cf0,0)
 | n::t,fs=>match (qP l fs n false).conflicts with
  | x::_=>(fs,x,10)
  | []=>if over (lu l fs n) then (fs,cf0,3) else lw l t (fs++[(n,flatOf l (ae l n) (lu l fs n))])
def build (l:FS):List (Nm×Fl)×Cf×Int:=lw l (order (bn l)) []
def flF (l:FS):Nat→Nm→Fl
 | 0,_=>fl0
 | n+1,c=>flatOf l (ae l c) (members (comes (flF l n) l (ae l c)) (ae l c))
def FL (l:FS) (c:Nm):Fl:=flF l (l.length+1) c
def msF (l:FS) (c:Nm):List Mb:=members (comes (FL l) l (ae l c)) (ae l c)
def skF (l:FS) (c:Nm) (all:Bool):Sk:=⟨FL l,l,ae l c,msF l c,all⟩
def iY (l:FS) (c:Nm) (all:Bool):List Cf:=(skF l c all).conflicts
section
variable {l:FS}
theorem jW:(bn l).length=l.length:=by simp [bn]
theorem Cg (c:Nm):Hr.find (bn l) c=(bL l c).map FC.cls:=by
 unfold Hr.find bn bL
 rw [List.find?_map]; rfl
theorem dW (c:Nm):isC (bn l) c=(bL l c).isSome:=by unfold isC; rw [Cg]; cases bL l c <;> rfl
theorem lD {c:Nm} {x:FC} (h:bL l c=some x):x.name=c:=by simpa using List.find?_some h
theorem fZ {c:Nm} {x:FC} (h:bL l c=some x):ae l c=x:=by unfold ae; rw [h]; rfl
theorem ve {c:Nm} (h:bL l c=none):ae l c=Bq:=by unfold ae; rw [h]; rfl
theorem KM (c:Nm):pars (bn l) c=(ae l c).pars.map fun p=>p.name:=by
 unfold pars; rw [Cg]
 cases h:bL l c with
 | none=>rw [ve h]; rfl
 | some x=>rw [fZ h]; rfl
theorem Ao (hr:Right (bn l)) (c:Nm):par (bn l) c=(ae l c).pars.map fun p=>p.name:=by rw [← hr.pars_eq,KM]
theorem eT (hr:Right (bn l)) {c:Nm} {p:Pt} (hp:p∈(ae l c).pars):p.name∈par (bn l) c:=by rw [Ao hr]; exact List.mem_map.2 ⟨p,hp,rfl⟩
theorem zl {α : Type} {xs:List α} {q : α × Nat} (h:q∈xs.zipIdx):q.1∈xs:=by
 obtain ⟨x,i⟩:=q
 exact List.mem_of_getElem? (List.mem_zipIdx_iff_getElem?.1 h)
theorem dD {α β : Type} {f g : α → List β}:∀ {xs:List α},(∀ x∈xs,f x=g x)→xs.flatMap f=xs.flatMap g
 | [],_=>rfl
 | a::t,h=>by rw [List.flatMap_cons,List.flatMap_cons,h a (by simp),dD fun x hx=>h x (by simp [hx])]
theorem nU {α β : Type} {f g : α → Option β}:∀ {xs:List α},(∀ x∈xs,f x=g x)→xs.filterMap f=xs.filterMap g
 | [],_=>rfl
 | a::t,h=>by rw [List.filterMap_cons,List.filterMap_cons,h a (by simp),nU fun x hx=>h x (by simp [hx])]
theorem qQ (ha:gz (bn l)) {c p:Nm} (h:p∈par (bn l) c):has (bn l) c p=true∧p≠c:=⟨rq h,fun e=>by have:=il ha h; rw [e] at this; omega⟩
theorem Fu (ha:gz (bn l)) {c p a:Nm} (h:p∈par (bn l) c) (h2:has (bn l) p a=true):has (bn l) c a=true∧a≠c:=⟨mY (rq h) h2,fun e=>by
 have:=il ha h
 rcases has_rk ha h2 with h3 | h3
 ·rw [e] at h3; rw [h3] at this; omega
 ·rw [e] at h3; omega⟩
theorem iZ {fl:Nm→Fl} {c:FC} {x:Cm} (h:x∈comes fl l c):∃ p,c.pars[x.par]? = some p∧∃ m∈(fl p.name).mems,x=qL (ae l p.name).forms x.par p m:=by
 unfold comes at h
 obtain ⟨⟨p,i⟩,hq,hx⟩:=List.mem_flatMap.1 h
 obtain ⟨m,hm,rfl⟩:=List.mem_map.1 hx
 exact ⟨p,List.mem_zipIdx_iff_getElem?.1 hq,m,hm,rfl⟩
theorem qR {fl:Nm→Fl} {c:FC} {s:Sd} {i:Nat} (h:i∈bW (having (comes fl l c) s)):dC c i∈c.pars:=by
 obtain ⟨x,hx,rfl⟩:=oO.1 h
 obtain ⟨p,hp,_⟩:=iZ (List.mem_filter.1 hx).1
 unfold dC; rw [hp]
 exact List.mem_of_getElem? hp
theorem ja {fl fl':Nm→Fl} {c:FC} (h:∀ p∈c.pars,fl p.name=fl' p.name):comes fl l c=comes fl' l c:=by
 unfold comes
 refine dD fun q hq=>?_
 rw [h q.1 (zl hq)]
theorem Fv (hr : Right (bn l)) : ∀ (f g : Nat) (c : Nm), rk (bn l) c < f → rk (bn l) c < g → flF l f c = flF l g c
 | 0,_,_,h,_=>by omega
 | _+1,0,_,_,h=>by omega
 | f+1,g+1,c,h1,h2=>by
  have:comes (flF l f) l (ae l c)=comes (flF l g) l (ae l c):=ja fun p hp=>by
   have:=il hr.acyc (eT hr hp)
   exact Fv hr f g p.name (by omega) (by omega)
  unfold flF
  rw [this]
theorem Ch (hr:Right (bn l)) (c:Nm):FL l c=flatOf l (ae l c) (msF l c):=by
 have:comes (flF l l.length) l (ae l c)=comes (FL l) l (ae l c):=ja fun p hp=>by
  have h1:=il hr.acyc (eT hr hp)
  have h2:=qh (bn l) c
  rw [jW] at h2
  exact Fv hr _ _ _ (by omega) (by omega)
 show flatOf l (ae l c) (members (comes (flF l l.length) l (ae l c)) (ae l c))=_
 rw [this]; rfl
theorem jl (hr:Right (bn l)) (c:Nm):(FL l c).mems=msF l c:=by rw [Ch hr]; rfl
theorem FL_name (hr:Right (bn l)) (c:Nm):(FL l c).name=(ae l c).name:=by rw [Ch hr]; rfl

/-! ### What a class's conflicts depend on -/
theorem sS (hr : Right (bn l)) {fl fl' : Nm → Fl} : ∀ (n : Nat) (c : Nm) (ms : List Mb) (s : Sd), (∀ a, has (bn l) c a = true → a ≠ c → fl a = fl' a) → eF fl l n (ae l c) ms s = eF fl' l n (ae l c) ms s
 | 0, c, ms, s, h => by
  have hc:comes fl l (ae l c)=comes fl' l (ae l c):=ja fun p hp=>h _ (qQ hr.acyc (eT hr hp)).1 (qQ hr.acyc (eT hr hp)).2
  unfold eF
  rw [hc]
  split
  ·rfl
  ·simp only []
   split
   ·rfl
   ·split
    ·rename_i h2; cases h2
    ·rfl
 | n + 1, c, ms, s, h => by
  have hp1:∀ p∈(ae l c).pars,fl p.name=fl' p.name:=fun p hp=>h _ (qQ hr.acyc (eT hr hp)).1 (qQ hr.acyc (eT hr hp)).2
  have hc:comes fl l (ae l c)=comes fl' l (ae l c):=ja hp1
  unfold eF
  rw [hc]
  split
  ·rfl
  ·simp only []
   split
   ·rfl
   ·split
    ·rename_i i t n' h1 h2
     cases h2
     have hi:i∈bW (having (comes fl' l (ae l c)) s):=by rw [h1]; simp
     have hpm:dC (ae l c) i∈(ae l c).pars:=qR hi
     have hpp:=eT hr hpm
     rw [hp1 _ hpm,sS hr n (dC (ae l c) i).name _ s fun a ha hne=>h a (Fu hr.acyc hpp ha).1 (Fu hr.acyc hpp ha).2]
    ·rfl
end
section
variable {l:FS}
theorem Ci {fl fl' : Nm → Fl} {l' : FS} {c : FC} {ms : List Mb} {all : Bool} (hc : comes fl l c = comes fl' l' c) (hp1 : ∀ p ∈ c.pars, fl p.name = fl' p.name) (h6 : ∀ d, (Sk.mk fl l c ms all).sel d = (Sk.mk fl' l' c ms all).sel d) :
  (Sk.mk fl l c ms all).conflicts=(Sk.mk fl' l' c ms all).conflicts:=by
 have h1:(Sk.mk fl l c ms all).cs=(Sk.mk fl' l' c ms all).cs:=hc
 have h2:∀ i n,(Sk.mk fl l c ms all).fro i n=(Sk.mk fl' l' c ms all).fro i n:=fun i n=>by unfold Sk.fro; rw [h1]
 have h3 : (Sk.mk fl l c ms all).lost = (Sk.mk fl' l' c ms all).lost := by
  have k1:∀ p∈c.pars.zipIdx,fl p.1.name=fl' p.1.name:=fun p hp=>hp1 _ (zl hp)
  unfold Sk.lost
  congr 1
  ·congr 1
   ·congr 1
    ·congr 1
     refine dD fun p hp=>?_
     have:=k1 p hp
     simp only [h2,this]
     rfl
    ·refine dD fun p hp=>?_
     have:=k1 p hp
     simp only [h2,this]
     rfl
   ·refine dD fun p hp=>?_
    simp only [h2]
    rfl
 have h4:(Sk.mk fl l c ms all).redeclared=(Sk.mk fl' l' c ms all).redeclared:=by
  unfold Sk.redeclared Sk.skeys
  simp only [h1]
  rfl
 have h5:(Sk.mk fl l c ms all).typed=(Sk.mk fl' l' c ms all).typed:=by
  unfold Sk.typed Sk.skeys
  simp only [h1]
  rfl
 have h7:(Sk.mk fl l c ms all).chosen=(Sk.mk fl' l' c ms all).chosen:=by
  unfold Sk.chosen
  simp only [h6,h2]
  rfl
 unfold Sk.conflicts
 rw [h3,h4,h5,h7]; rfl
theorem Hq (hr:Right (bn l)) {fl fl':Nm→Fl} {c:Nm} {ms:List Mb} {all:Bool} (h:∀ a,has (bn l) c a=true→a≠c→fl a=fl' a):(Sk.mk fl l (ae l c) ms all).conflicts=(Sk.mk fl' l (ae l c) ms all).conflicts :=
 have hp1:∀ p∈(ae l c).pars,fl p.name=fl' p.name:=fun p hp=>h _ (qQ hr.acyc (eT hr hp)).1 (qQ hr.acyc (eT hr hp)).2
 Ci (ja hp1) hp1 fun d=>sS hr _ c ms d h
def forms (l:FS) (o:List Nm):List (Nm×Fl):=o.map fun n=>(n,FL l n)
theorem oP {o:List Nm} {n:Nm} (h:n∈o):look (forms l o) n=FL l n:=by
 unfold look forms
 rw [List.find?_map]
 cases hf:o.find? ((fun p:Nm×Fl=>p.1 == n) ∘ fun n=>(n,FL l n)) with
 | none =>
  have:=List.find?_eq_none.1 hf n h
  simp at this
 | some x =>
  have hx:=List.find?_some hf
  simp only [Function.comp_apply,beq_iff_eq] at hx
  subst hx; rfl
theorem KN {o:List Nm} {n:Nm} (h:n ∉ o):look (forms l o) n=fl0:=by
 unfold look forms
 rw [List.find?_map]
 cases hf:o.find? ((fun p:Nm×Fl=>p.1 == n) ∘ fun n=>(n,FL l n)) with
 | none=>rfl
 | some x =>
  have hx:=List.find?_some hf
  simp only [Function.comp_apply,beq_iff_eq] at hx
  exact absurd (hx ▸ List.mem_of_find?_eq_some hf) h
def Upto (l:FS) (o:List Nm) (n:Nm):Prop:=∀ a,has (bn l) n a=true→a≠n→a∈o
theorem D9 (ha:gz (bn l)) {d t:List Nm} {n:Nm} (h:Tp (bn l) (d++n::t)):Upto l d n:=fun a h1 h2=>by
 have hn:n∈d++n::t:=by simp
 have hm:=h.has hn h1
 rcases List.mem_append.1 hm with hm | hm
 ·exact hm
 rcases List.mem_cons.1 hm with hm | hm
 ·exact absurd hm h2
 ·obtain ⟨j,hj,rfl⟩:=List.getElem_of_mem hm
  have h3:=h.ahead d.length (d.length+1+j) (by omega) (by simp; omega)
  rw [List.getElem_append_right (by omega),List.getElem_append_right (by omega)] at h3
  simp only [Nat.sub_self,List.getElem_cons_zero,show d.length+1+j - d.length=j+1 by omega,List.getElem_cons_succ] at h3
  rw [h1] at h3; cases h3
theorem Ap (hr:Right (bn l)) {o:List Nm} {n:Nm} (h:Upto l o n):lu l (forms l o) n=msF l n:=by
 unfold lu msF
 rw [ja (fl':=FL l) fun p hp=>oP (h _ (qQ hr.acyc (eT hr hp)).1 (qQ hr.acyc (eT hr hp)).2)]
theorem sU (hr:Right (bn l)) {o:List Nm} {n:Nm} {all:Bool} (h:Upto l o n):(qP l (forms l o) n all).conflicts=iY l n all:=by
 unfold qP iY skF
 rw [Ap hr h]
 exact Hq hr fun a h1 h2=>oP (h a h1 h2)
def scan (l:FS):List Nm→List Nm×Cf×Int
 | []=>([],cf0,0)
 | n::t=>match iY l n false with
  | x::_=>([],x,10)
  | []=>if over (msF l n) then ([],cf0,3) else (n::(scan l t).1,(scan l t).2)
theorem Cj (hr : Right (bn l)) : ∀ (t d : List Nm), Tp (bn l) (d ++ t) → lw l t (forms l d) = (forms l (d ++ (scan l t).1), (scan l t).2)
 | [],d,_=>by simp [lw,scan]
 | n :: t, d, h => by
  have hu:=D9 hr.acyc h
  have h':Tp (bn l) (d++[n]++t):=by rw [List.append_assoc]; exact h
  unfold lw scan
  rw [sU hr hu,Ap hr hu]
  cases hc:iY l n false with
  | cons x _=>simp only [List.append_nil]
  | nil =>
   simp only []
   split
   ·simp only [List.append_nil]
   ·rw [← Ch hr,show forms l d++[(n,FL l n)]=forms l (d++[n]) by simp [forms],Cj hr t (d++[n]) h',List.append_assoc]
    rfl
theorem Aq (hr:Right (bn l)):build l=(forms l (scan l (order (bn l))).1,(scan l (order (bn l))).2):=by
 have:=Cj hr (order (bn l)) [] (iJ hr.acyc hr.uniq).1
 rw [List.nil_append] at this
 exact this
def okF (l:FS) (n:Nm):Prop:=iY l n false=[]∧over (msF l n)=false
theorem J5 {o:List Nm} (h:(scan l o).2.2=0):(scan l o).1=o∧(scan l o).2.1=cf0∧∀ n∈o,okF l n:=by
 induction o with
 | nil=>exact ⟨rfl,rfl,by simp⟩
 | cons n t ih =>
  unfold scan at h ⊢
  cases hc:iY l n false with
  | cons x _=>rw [hc] at h; cases h
  | nil =>
   rw [hc] at h
   simp only [] at h ⊢
   split at h
   ·cases h
   ·rename_i ho
    obtain ⟨h1,h2,h3⟩:=ih h
    rw [if_neg ho]
    refine ⟨by rw [h1],h2,fun m hm=>?_⟩
    rcases List.mem_cons.1 hm with rfl | hm
    ·exact ⟨hc,by simpa using ho⟩
    ·exact h3 m hm
theorem Fy {o:List Nm} (h:∀ n∈o,okF l n):scan l o=(o,cf0,0):=by
 induction o with
 | nil=>rfl
 | cons n t ih =>
  obtain ⟨h1,h2⟩:=h n (by simp)
  unfold scan
  rw [h1,h2,ih fun m hm=>h m (by simp [hm])]
  rfl
theorem Ht {o:List Nm} (h:(scan l o).2.2=10):∃ d n t x xs,o=d++n::t∧iY l n false=x::xs∧(scan l o).2.1=x∧∀ m∈d,okF l m:=by
 induction o with
 | nil=>cases h
 | cons n t ih =>
  unfold scan at h ⊢
  cases hc:iY l n false with
  | cons x xs=>exact ⟨[],n,t,x,xs,rfl,hc,rfl,by simp⟩
  | nil =>
   rw [hc] at h
   simp only [] at h ⊢
   split at h
   ·cases h
   ·rename_i ho
    rw [if_neg ho]
    obtain ⟨d,m,t',x,xs,h1,h2,h3,h4⟩:=ih h
    refine ⟨n::d,m,t',x,xs,by rw [h1]; rfl,h2,h3,fun k hk=>?_⟩
    rcases List.mem_cons.1 hk with rfl | hk
    ·exact ⟨hc,by simpa using ho⟩
    ·exact h4 k hk
theorem Nn (o:List Nm):(scan l o).2.2=0∨(scan l o).2.2=3∨(scan l o).2.2=10:=by
 induction o with
 | nil=>exact .inl rfl
 | cons n t ih =>
  unfold scan
  cases iY l n false with
  | cons x _=>exact .inr (.inr rfl)
  | nil =>
   simp only []
   split
   ·exact .inr (.inl rfl)
   ·exact ih
end
end Go.Fl
