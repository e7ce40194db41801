/-
  Package flat: typed yields conflicts of the kinds CnTypes and CnMany. Conditions: what is read; sizes.
-/
import Derived.Test.YtknmacdbffgjgaaGreatDoorP8
import Derived.Test.YtknmacdbffgjgaaGreatDoorP6
import Derived.Shelf.Strings.FuncGrows
import Derived.Shelf.Strings.Fields
set_option linter.unusedVariables false
set_option linter.unusedSimpArgs false
set_option maxRecDepth 100000
set_option maxHeartbeats 16000000
namespace Go.Fl
open Go Go.RowKit Go.Ck Go.Proofs Go.Proofs.Tryz Go.Proofs.YtknmacdbffgjgaaGreatDoor Fx Go.Hr
attribute [local irreducible] Go.Ck.Sub St Cd Xt Nx DrL LsW
def Ij:Go.Shelf.Ren:={
 f:=λ| 17=>225 | 15=>270 | 20=>297 | n=>n
 t:=λ| 9=>9 | 23=>290 | 4=>4 | 3=>3 | 0=>0 | 21=>21 | n=>n
 g:=λn=>n }
theorem lays17g:Go.Proofs.LaysGw.n17 prog Ij:={
 mixed:=rfl
 f15:=func270.trans<|congrArg some Zz
 f17:=func225.trans<|congrArg some Zz
 f20:=func297.trans<|congrArg some Zz
 t0:=underlying0
 a0:=isAgg0
 z0:=sizeOf0
 v0:=zeroValue0
 i0:=Zz
 t3:=underlying3
 a3:=isAgg3
 z3:=sizeOf3
 v3:=zeroValue3
 i3:=Zz
 t4:=underlying4
 a4:=isAgg4
 z4:=sizeOf4
 v4:=zeroValue4
 i4:=Zz
 t9:=underlying9
 a9:=isAgg9
 z9:=sizeOf9
 v9:=zeroValue9
 i9:=Zz
 t21:=underlying21
 a21:=isAgg21
 z21:=sizeOf21
 v21:=zeroValue21
 i21:=Zz
 t23:=underlying290
 a23:=isAgg290
 z23:=sizeOf290
 v23:=zeroValue290
 i23:=by kernel_rfl }
def Ik:Go.Shelf.Ren:={
 f:=λ| 157=>231 | 229=>273 | 199=>274 | 261=>298 | 311=>314 | 312=>315 | n=>n
 t:=λ| 9=>9 | 31=>40 | 3=>3 | 5=>5 | 4=>4 | 119=>335 | 0=>0 | 40=>290 | 152=>355 | 21=>21 | 154=>357 | 51=>322 | 141=>359 | 196=>376 | 193=>373 | 198=>379 | 49=>377 | 194=>374 | 201=>382 | 226=>387 | 46=>275 | 227=>388 | n=>n
 g:=λ| 0=>0 | 6=>1 | n=>n }
theorem lays157:Go.Proofs.Lays.n157 prog Ik:={
 mixed:=rfl
 f157:=func231.trans<|congrArg some Zz
 f199:=func274.trans<|congrArg some Zz
 f229:=func273.trans<|congrArg some Zz
 f261:=func298.trans<|congrArg some Zz
 f311:=func314.trans<|congrArg some Zz
 f312:=func315.trans<|congrArg some Zz
 t0:=underlying0
 a0:=isAgg0
 z0:=sizeOf0
 v0:=zeroValue0
 t3:=underlying3
 a3:=isAgg3
 z3:=sizeOf3
 v3:=zeroValue3
 t4:=underlying4
 a4:=isAgg4
 z4:=sizeOf4
 v4:=zeroValue4
 t5:=underlying5
 a5:=isAgg5
 z5:=sizeOf5
 v5:=zeroValue5
 t9:=underlying9
 a9:=isAgg9
 z9:=sizeOf9
 v9:=zeroValue9
 t21:=underlying21
 a21:=isAgg21
 z21:=sizeOf21
 v21:=zeroValue21
 t31:=underlying40
 a31:=isAgg40
 z31:=sizeOf40
 v31:=zeroValue40
 t40:=underlying290
 a40:=isAgg290
 z40:=sizeOf290
 v40:=zeroValue290
 t46:=underlying275
 a46:=isAgg275
 z46:=sizeOf275
 v46:=zeroValue275
 t49:=underlying377
 a49:=isAgg377
 z49:=sizeOf377
 v49:=zeroValue377
 t51:=underlying322
 a51:=isAgg322
 z51:=sizeOf322
 v51:=zeroValue322
 t119:=underlying335
 a119:=isAgg335
 z119:=sizeOf335
 t141:=underlying359
 a141:=isAgg359
 z141:=sizeOf359
 v141:=zeroValue359
 t152:=underlying355
 a152:=isAgg355
 z152:=sizeOf355
 v152:=zeroValue355
 t154:=underlying357
 a154:=isAgg357
 z154:=sizeOf357
 v154:=zeroValue357
 t193:=underlying373
 a193:=isAgg373
 z193:=sizeOf373
 v193:=zeroValue373
 t194:=underlying374
 a194:=isAgg374
 z194:=sizeOf374
 v194:=zeroValue374
 t196:=underlying376
 a196:=isAgg376
 z196:=sizeOf376
 v196:=zeroValue376
 t198:=underlying379
 a198:=isAgg379
 z198:=sizeOf379
 v198:=zeroValue379
 t201:=underlying382
 a201:=isAgg382
 z201:=sizeOf382
 v201:=zeroValue382
 t226:=underlying387
 a226:=isAgg387
 z226:=sizeOf387
 v226:=zeroValue387
 t227:=underlying388
 a227:=isAgg388
 z227:=sizeOf388
 v227:=zeroValue388
 g0:=Zz
 g6:=by kernel_rfl }
def okR (x:Nat):Bool:=(decide (97<=x) && decide (x<=122) || (decide (48<=x) && decide (x<=57))) || x == 95
theorem Fz {x:Nat} (h:128<=x):okR x=false:=by
 unfold okR
 rw [decide_eq_false (show ¬ x<=122 by omega),decide_eq_false (show ¬ x<=57 by omega),Bool.and_false,Bool.and_false]
 simp; omega
theorem okS_ge {b:UInt8} (h:128<=b.toNat):okS b=false:=Fz h
theorem O6 (s:ByteArray) (i:Nat):okR (Utf8.decode s i).1=okS (s.get! i)/\(okS (s.get! i)=true->(Utf8.decode s i).2=1):=by
 unfold Utf8.decode
 simp only [Nat.add_zero]
 by_cases h:(s.get! i).toNat<128
 .rw [if_pos h]; exact ⟨rfl,λ_=>rfl⟩
 .rw [if_neg h, okS_ge (by omega)]
  refine ⟨?_,λh=>by cases h⟩
  have he:okR Utf8.runeError=false:=by decide
  split
  .split
   .rename_i h2; exact Fz h2
   .exact he
  .split
   .split
    .rename_i h2; rw [Bool.and_eq_true,decide_eq_true_eq] at h2; exact Fz (by omega)
    .exact he
   .split
    .split
     .rename_i h2; rw [Bool.and_eq_true,decide_eq_true_eq] at h2; exact Fz (by omega)
     .exact he
    .exact he
theorem O7 (s : ByteArray) : ∀ (f pos : Nat), s.size <= pos + f -> (0 <= Lib.idxFuncFrom (λx => !okR x) true s f pos ↔ ∃ j, pos <= j /\ j < s.size /\ okS (s.get! j) = false)
 | 0,pos,h=>by
  show 0<=(-1:Int)↔_
  exact ⟨λh=>by omega,λ⟨j,h1,h2,_⟩=>by omega⟩
 | f + 1, pos, h => by
  unfold Lib.idxFuncFrom
  by_cases hp:pos<s.size
  .rw [if_pos hp, (O6 s pos).1]
   cases hk:okS (s.get! pos) with
   | true =>
    rw [if_neg (by simp),(O6 s pos).2 hk,O7 s f (pos+1) (by omega)]
    refine ⟨λ⟨j,h1,h2⟩=>⟨j,by omega,h2⟩,λ⟨j,h1,h2,h3⟩=>⟨j,?_,h2,h3⟩⟩
    rcases Nat.lt_or_ge pos j with h4 | h4
    .exact h4
    .have:j=pos:=by omega
     subst this
     rw [hk] at h3; cases h3
   | false=>rw [if_pos (by simp)]; exact ⟨λ_=>⟨pos,Nat.le_refl _,hp,hk⟩,λ_=>by omega⟩
  .rw [if_neg hp]
   exact ⟨λh=>by omega,λ⟨j,h1,h2,_⟩=>by omega⟩
theorem has_bad (n:Nm):decide (0<=Lib.idxFunc (λx => !okR x) true ⟨⟨n⟩⟩) = !n.all okS:=by
 have hsz:(⟨⟨n⟩⟩:ByteArray).size=n.length:=rfl
 have hg:∀ j (hj:j<n.length),(⟨⟨n⟩⟩:ByteArray).get! j=n[j]:=λj hj=>by
  show (Array.mk n)[j]! = _
  rw [getElem!_pos (Array.mk n) j Zg]; rfl
 unfold Lib.idxFunc
 rw [Bool.eq_iff_iff,decide_eq_true_eq,O7 _ _ _ (by omega),Bool.not_eq_true',List.all_eq_false]
 constructor
 .rintro ⟨j,_,h2,h3⟩
  rw [hsz] at h2
  exact ⟨n[j],List.getElem_mem h2,by rw [<- hg j h2,h3]; simp⟩
 .rintro ⟨x,hx,h3⟩
  obtain ⟨j,hj,rfl⟩:=List.getElem_of_mem hx
  exact ⟨j,Nat.zero_le _,hj,by rw [hg j hj]; simpa using h3⟩
theorem D8 : ∀ (s w : Nm), (∀ b ∈ s, Lib.isSp b = (b == 32)) -> rZ s w = Lib.fieldsGo w s
 | [],w,_=>by cases w <;> rfl
 | b::t,w,h=>by
  have hb:=h b<|by simp
  have ht:=λw=>D8 t w λb hb=>h b<|by simp [hb]
  show (if b=32 then (if w=[] then rZ t [] else w::rZ t []) else rZ t (w++[b]))=_
  unfold Lib.fieldsGo
  rw [hb,ht,ht]
  by_cases h32:b=32
  .subst h32
   cases w <;> rfl
  .rw [if_neg h32,if_neg (by simpa using h32)]
theorem kw_sp:∀ b∈qo,Lib.isSp b=(b == 32)/\b.toNat<128:=by
 have h:(qo.all λb=>(Lib.isSp b == (b == 32)) && decide (b.toNat<128))=true:=by decide +kernel
 intro b hb
 have:=List.all_eq_true.1 h b hb
 rw [Bool.and_eq_true,beq_iff_eq,decide_eq_true_eq] at this
 exact this
theorem kws_eq:Lib.fields qo=kws:=(D8 qo [] λb hb=>(kw_sp b hb).1).symm
def Spc (X:Res):Prop:=∀ c:Nat,c<256->Rd X ⟨0,c,none⟩ (.int .u8 (if Lib.isSp (UInt8.ofNat c) then 1 else 0))
theorem Spc.up {X Y:Res} (h:Spc X) (hE:Ext X Y):Spc Y:=λc hc=>hE.rd _ _<|h c hc
section
variable {X:Res}
theorem JH (x:Nat):Reads prog 230 #[.int .i32 x] [] (.bool (!okR x)):=by
 have hok:okR x=(((decide (97<=(x:Int)) && decide ((x:Int)<=122)) || (decide (48<=(x:Int)) && decide ((x:Int)<=57))) || decide ((x:Int)=95)):=by
  unfold okR
  rw [Bool.eq_iff_iff]; simp; omega
 rw [hok]
 refine aJ (n:=22) func230 Z Z (len Z) λhr w0=>?_
 refine cQ<|sA Z<|sN<|nT<|cQ<|sM Z<|sV (qE Z Z)<|sM Z<|bH (k:=6) (d:=8) (v:=.bool (decide (97<=(x:Int)) && decide ((x:Int)<=122))) (λhcut=>aM (b:=(decide (97<=(x:Int)))) true (λhg=>?_)<|λhg=>?_) ?_
 .refine aF Z Z hg ?_
  refine aF Z Z hg ?_
  refine sV (vP (bO Z hg) Z) ?_
  exact hcut _ uG
 .refine sG Z (bG Z hg) (vM Z)<|sG Z (bG Z hg) (CY Z Z)<|sV (vQ (bO Z hg) Z) ?_
  exact hcut _ uG
 refine sM Z<|bH (k:=14) (d:=16) (v:=.bool ((decide (97<=(x:Int)) && decide ((x:Int)<=122)) || (decide (48<=(x:Int)) && decide ((x:Int)<=57)))) (λhcut=>aM (b:=(decide (97<=(x:Int)) && decide ((x:Int)<=122))) false (λhg=>?_)<|λhg=>?_) ?_
 .refine aF Z Z hg ?_
  iterate 2 refine aF rfl rfl hg ?_
  refine cZ Z Z ?_
  refine cZ Z Z ?_
  refine aF Z Z hg ?_
  refine sV (vQ (bO Z hg) Z) ?_
  exact hcut _ uG
 .refine sG Z (bG Z hg) (vM Z)<|sG Z (bG Z hg) (qE Z Z)<|sG Z (bG Z hg) (vM Z)<|bH (k:=13) (d:=15) (v:=.bool (decide (48<=(x:Int)) && decide ((x:Int)<=57))) (λhcut=>aM (b:=(decide (48<=(x:Int)))) true (λhg1=>?_)<|λhg1=>?_) ?_
  .refine aF Z Z hg1 ?_
   refine aF Z Z hg1 ?_
   refine sG Z (bG Z hg) (vP (bO Z hg1) Z) ?_
   exact hcut _<|uH (by first | rfl | (rw [hg1]; rfl) | simp_all)<|uS Z<|uS Z<|uR
  .refine sG Z (bG Z hg1) (vM Z)<|sG Z (bG Z hg1) (CY Z Z)<|sG Z (bG Z hg) (vQ (bO Z hg1) Z) ?_
   exact hcut _<|uH (by first | rfl | (rw [hg1]; rfl) | simp_all)<|uS Z<|uS Z<|uR
  refine sV (vP (bO Z hg) Z) ?_
  exact hcut _<|uH (by first | rfl | (rw [hg]; rfl) | simp_all) (by repeat (first | exact uR | refine uS Z ?_))
 refine sM Z<|bH (k:=18) (d:=20) (v:=.bool (((decide (97<=(x:Int)) && decide ((x:Int)<=122)) || (decide (48<=(x:Int)) && decide ((x:Int)<=57))) || decide ((x:Int)=95))) (λhcut=>aM (b:=((decide (97<=(x:Int)) && decide ((x:Int)<=122)) || (decide (48<=(x:Int)) && decide ((x:Int)<=57)))) false (λhg=>?_)<|λhg=>?_) ?_
 .refine aF Z Z hg ?_
  refine aF Z Z hg ?_
  refine sV (vQ (bO Z hg) Z) ?_
  exact hcut _ uG
 .refine sG Z (bG Z hg) (vM Z)<|sG Z (bG Z hg) (dX Z Z)<|sV (vP (bO Z hg) Z) ?_
  exact hcut _ uG
 refine sV (bg Z)<|sA Z<|sK [2] Z<|cT ?_
 exact aj Z ⟨Z,Z⟩ sbq
theorem O8 {P:Program} {g:FuncId} {args:Array Value} {v:Value} (h:Reads P g args [] v) (w:World):Calls P g args w λe w'=>e = .returned v/\Below w.heap.size w w':=by
 refine (h [old w] w<|wO w).mono ?_
 rintro e w' ⟨u,h',rfl,⟨rfl,rfl⟩,hh,hs⟩
 exact ⟨Z,hs.os,hs.tape,hs.output,hs.size,λk hk=>hh.1 k hk⟩
theorem Il (n:Nm):Ctw prog 225 #[sv n,.func (.func 230) #[] #[]] [] λu h'=>u = .bool (!n.all okS)/\h'=[]:=by
 intro hr w hh
 have hc:=Any.strings_ContainsFunc_grows lays17g 230 #[] (enters_of func230 Zz rfl) (λx => !okR x) ⟨⟨n⟩⟩ w λW x _ _=>O8 (JH x) W
 rw [has_bad] at hc
 exact Calls.mono hc λe w' ⟨h1,h2⟩=>⟨_,[],h1,⟨Z,Z⟩,yB h2 hh,Bo h2⟩
theorem MF (hX:Spc X):Ctw prog 231 #[sv qo] [X] λu h'=>h'=[X,NR u kws]/\wW (NR u kws) u kws:=by
 intro hr w hh
 have hml:maxLen=9223372036854775807:=rfl
 have hkl:kws.length<100:=by decide +kernel
 have hc:=Any.strings_Fields_core lays157 Zz ⟨⟨qo⟩⟩ w (by decide +kernel) (λj b hj=>(kw_sp b<|List.mem_of_getElem? hj).2) λc hc=>hX c hc w hh.1
 rw [show (⟨⟨qo⟩⟩:ByteArray).data.toList=qo from rfl,kws_eq] at hc
 refine Calls.mono hc λe w' ⟨h1,h2⟩=>⟨.slice (some ⟨w.heap.size,0,none⟩) kws.length kws.length,[X,NR (.slice (some ⟨w.heap.size,0,none⟩) kws.length kws.length) kws],h1,?_⟩
 have h9:Holds w' (NR (.slice (some ⟨w.heap.size,0,none⟩) kws.length kws.length) kws::([X]++hr)):=by
  subst h2
  have h3:=Holds.alloc hh<|cl (kws.map sv) 9
  exact vw_of (E:=9) (sz:=1) (n:=kws.length) (kws.map nC) (nk _).symm (λr hr=>by obtain ⟨_,_,rfl⟩:=List.mem_map.1 hr; rfl) (by simp) (by omega) _ h3
 refine ⟨⟨Z,iX ⟨_,h9.1⟩⟩,h9.perm (List.Perm.swap _ _ _),?_⟩
 subst h2
 exact (wy w).trans (Grew.alloc _ _ Z).toSame
def smV (n:Nm):Bool:=(((n == [] || decide ((20:Int)<(n.length:Nat))) || decide (((n.headD 0).toNat:Int)<97)) || decide ((122:Int)<(n.headD 0).toNat)) || !n.all okS
theorem smV_eq (n:Nm):small n=(!smV n && !kws.contains n):=by
 cases n with
 | nil=>rfl
 | cons b t =>
  show (decide ((b::t).length<=20) && lower b && (b::t).all okS && !kws.contains (b::t))=_
  congr 1
  unfold smV lower
  rw [show ((b::t:Nm) == [])=false from rfl,List.headD_cons]
  generalize (b::t).all okS=A
  generalize (b::t).length=L
  generalize b.toNat=c
  have e1:decide ((20:Int)<(L:Nat)) = !decide (L<=20):=by rw [<- decide_not]; exact decide_eq_decide.2 (by omega)
  have e2:decide ((c:Int)<97) = !decide (97<=c):=by rw [<- decide_not]; exact decide_eq_decide.2 (by omega)
  have e3:decide ((122:Int)<(c:Nat)) = !decide (c<=122):=by rw [<- decide_not]; exact decide_eq_decide.2 (by omega)
  rw [e1,e2,e3]
  cases decide (L<=20) <;> cases decide (97<=c) <;> cases decide (c<=122) <;> cases A <;> rfl
theorem at0 {n:Nm} (h:(n == [])=false):n[0]? = some (n.headD 0):=by
 cases n with
 | nil=>cases h
 | cons b t=>rfl
theorem Im (hX:Spc X) (n:Nm):Ctw prog 147 #[sv n] [X] λu h'=>u = .bool (small n)/\h'=[X]:=by
 have hkl:kws.length<=1099511627776:=by
  have:kws.length<100:=by decide +kernel
  omega
 have hfl:=MF hX
 rw [smV_eq]
 unfold smV
 refine gF (n:=28) func147 Z Z (len Z) λhr w0 hw0=>?_
 refine cQ<|sA Z<|sN<|nT<|cS<|cQ<|sM Z<|sV (iM Z Z)<|sM Z<|bH (k:=7) (d:=9) (v:=.bool (n == [] || decide ((20:Int)<(n.length:Nat)))) (λhcut=>aM (b:=(n == [])) false (λhg=>?_)<|λhg=>?_) ?_
 .refine aF Z Z hg ?_
  iterate 2 refine aF rfl rfl hg ?_
  refine sV (vQ (bO Z hg) Z) ?_
  exact hcut _ uG
 .refine sG Z (bG Z hg) (vM Z)<|sG Z (bG Z hg) (Eu Z underlying9)<|sG Z (bG Z hg) (dh Z Z)<|sV (vP (bO Z hg) Z) ?_
  exact hcut _ uG
 refine sM Z<|bH (k:=12) (d:=14) (v:=.bool ((n == [] || decide ((20:Int)<(n.length:Nat))) || decide (((n.headD 0).toNat:Int)<97))) (λhcut=>aM (b:=(n == [] || decide ((20:Int)<(n.length:Nat)))) false (λhg=>?_)<|λhg=>?_) ?_
 .refine aF Z Z hg ?_
  iterate 2 refine aF rfl rfl hg ?_
  refine sV (vQ (bO Z hg) Z) ?_
  exact hcut _ uG
 .refine sG Z (bG Z hg) (vM Z)<|sG Z (bG Z hg) (vE (k:=0) Z Z underlying9 Z (at0 (Bool.or_eq_false_iff.1 hg).1))<|sG Z (bG Z hg) (aO Z Z)<|sV (vP (bO Z hg) Z) ?_
  exact hcut _ uG
 refine sM Z<|bH (k:=17) (d:=19) (v:=.bool (((n == [] || decide ((20:Int)<(n.length:Nat))) || decide (((n.headD 0).toNat:Int)<97)) || decide ((122:Int)<(n.headD 0).toNat))) (λhcut=>aM (b:=((n == [] || decide ((20:Int)<(n.length:Nat))) || decide (((n.headD 0).toNat:Int)<97))) false (λhg=>?_)<|λhg=>?_) ?_
 .refine aF Z Z hg ?_
  iterate 2 refine aF rfl rfl hg ?_
  refine sV (vQ (bO Z hg) Z) ?_
  exact hcut _ uG
 .refine sG Z (bG Z hg) (vM Z)<|sG Z (bG Z hg) (vE (k:=0) Z Z underlying9 Z (at0 (Bool.or_eq_false_iff.1 (Bool.or_eq_false_iff.1 hg).1).1))<|sG Z (bG Z hg) (dh Z Z)<|sV (vP (bO Z hg) Z) ?_
  exact hcut _ uG
 refine sM Z<|bH (k:=21) (d:=23) (v:=.bool ((((n == [] || decide ((20:Int)<(n.length:Nat))) || decide (((n.headD 0).toNat:Int)<97)) || decide ((122:Int)<(n.headD 0).toNat)) || !n.all okS)) (λhcut=>aM (b:=(((n == [] || decide ((20:Int)<(n.length:Nat))) || decide (((n.headD 0).toNat:Int)<97)) || decide ((122:Int)<(n.headD 0).toNat))) false (λhg=>?_)<|λhg=>?_) ?_
 .refine aF Z Z hg ?_
  refine aF Z Z hg ?_
  refine sV (vQ (bO Z hg) Z) ?_
  exact hcut _ uG
 .refine sG Z (bG Z hg) (vM Z)<|lX Z (bG Z hg)<|bW hw0 Z Z en225 Z (Il n) ?_
  rintro u h' ⟨rfl,rfl⟩
  simp only [List.nil_append]
  refine sV (vP (bO Z hg) Z) ?_
  exact hcut _ uG
 refine sK [0,2,23] Z ?_
 generalize ((((n == [] || decide ((20:Int)<(n.length:Nat))) || decide (((n.headD 0).toNat:Int)<97)) || decide ((122:Int)<(n.headD 0).toNat)) || !n.all okS)=bad
 refine cC Z (λhb=>?_)<|λhb=>?_
 .have hb:bad=true:=hb
  subst hb
  refine cQ<|sA Z<|sK [2] Z<|cT<|xR ?_
  exact aj Z ⟨Z,Z⟩ sbq
 .have hb:bad=false:=hb
  subst hb
  refine cK<|xT<|cQ<|bW hw0 Z Z en231 Z (hfl) ?_
  rintro u h' ⟨rfl,hnm⟩
  simp only [lC,lN]
  refine sM Z<|bf Z Z EI Z (fQ hnm n hkl) ?_
  refine sV (bg Z)<|sA Z<|sK [2] Z<|cT ?_
  exact aj Z ⟨Z,Z⟩ sbq
end
end Go.Fl
namespace Go.Ck
open Go Go.RowKit
section
variable {c:Cx} {ops:Array Oper} {K:Act->World->Prop} {rest:List Oper} {e:Env} {h hr:SH}
theorem wz {P : Program} {e : Env} {h : SH} {ty T E : TypeId} {x y : Operand} {a : Option Addr} {n cp hi sz : Nat} {i : Int} {k : IntKind} (hx : e.ev? x = some (.slice a n cp)) (hy : e.ev? y = some (.int k i)) (hT : SlE P T E sz)
  (hi':i=(hi:Int)) (h1:hi<=cp):Vop P e h (.slice T x none (some y) none) ty (.slice a hi cp):=
 ⟨by simp,by simp,λρ w d pos after g hρ _=>by
  subst hi'
  have hT':P.underlying T=some (.slice<|P.elem T):=by simp [Program.elem,hT.1]
  have he:P.elem T=E:=by simp [Program.elem,hT.1]
  have hr:=run_slice_h (P:=P) w T a n cp hT' k hi (by omega)<|by omega
  have hs:sliced a 0 hi cp sz = .slice a hi cp:=by
   unfold sliced; by_cases hcl:cp=0 <;> cases a <;> simp [hcl,Addr.add]
  simp only [he,hT.2 w,Result.andThen_ok,Int.toNat_natCast,Int.toNat_zero,hs] at hr
  simp only [execOp,hρ x _ hx,Option.map_some,Option.map_none,hρ y _ hy,Sem.run_bind,run_sliceAt_slice w T _ _ _ _ hT',hr,Result.andThen_ok,Sem.run_pure]⟩
theorem v_cap {P:Program} {e:Env} {h:SH} {t ty' E:TypeId} {x:Operand} {a:Option Addr} {n cp:Nat} (hx:e.ev? x=some (.slice a n cp)) (ht:P.underlying t=some (.slice E)) :
  Vop P e h (.call { callee:=.builtin .cap,args := #[x],argTypes := #[t] }) ty' (.int .i64 (cp:Nat)):=
 ⟨by simp,by simp,λρ w d pos after g hρ _=>by simp [execOp,resolve,invoke,builtin,hρ x _ hx,Builtin.cap_,run_underlying ht,goInt]⟩
theorem yP {P:Program} {w:World} {t tx E:TypeId} (ty:TypeId) {k:IntKind} {i:TypeInfo} {z:Value} (ht:P.underlying t=some (.slice E)) (htx:P.underlying tx=some (.int k)) (hi:P.info? E=some i) (hz:i.zero=some z) {n:Nat} (h0:0<n) (hs:0<i.size) (hb:n * i.bytes<=140737488355328) (h63:n<=9223372036854775807) :
  (Builtin.append_ #[t,tx] ty #[.slice none 0 0,.int .i64 (n:Nat)]).run P w = .ok (.slice (some ⟨w.heap.size,0,none⟩) n<|grownCap w n 0 E) (w.drew.alloc<|.cells (Builtin.zeroCells z.cells n++Builtin.zeroCells z.cells (grownCap w n 0 E - n)) E):=by
 have e1:IntKind.i64.wrap (n:Int)=(n:Int):=I64.wrap (by unfold I64; omega)
 have e2:¬ ((n:Int)<0):=by omega
 have e3:¬ (281474976710656<(n:Int) * (i.bytes:Nat)):=by
  have:=Int.ofNat_le.2 hb
  rw [Int.natCast_mul] at this
  omega
 have e4:Builtin.nextslicecap n 0=n:=by unfold Builtin.nextslicecap; rw [if_pos (by omega)]
 have e5:¬ (281474976710656<n * i.bytes):=by omega
 have e6:¬ n<=0:=by omega
 have e7:¬ (n=0\/i.size=0):=by omega
 have e8:¬ ((9223372036854775807:Int)<(n:Nat)):=by omega
 have e11:max (n:Int) 0=(n:Int):=by omega
 have e9:n≠0:=by omega
 have e10:i.size≠0:=by omega
 simp [Builtin.append_,run_underlying ht,run_underlying htx,sizeOf,typeInfo,zeroValue,hi,hz,asInt,asIntOf,e1,e2,e3,e4,e5,e6,e7,e8,e9,e10,e11,Builtin.firstCells,Question.forced,newRow,grownCap,IntKind.max,IntKind.signed,IntKind.bits]
 intro hq
 have:=Nat.mul_pos h0 hs
 omega
theorem st_apm {d : Nat} {t tx E ty : TypeId} {x y : Operand} {pos : String} {after : Array Edge} {k : IntKind} {z : Value} {sz bytes n : Nat} (hx : e.ev? x = some (.slice none 0 0)) (hy : e.ev? y = some (.int .i64 (n : Nat)))
  (ht:c.P.underlying t=some (.slice E)) (htx:c.P.underlying tx=some (.int k)) (hE:Inf c.P E z sz bytes) (hzs:z.cells.size=sz) (hsz:0<sz) (h0:0<n) (hb:n * bytes<=140737488355328) (h63:n<=9223372036854775807) (hd:d<c.n)
  (hnx:∀ b cp,n<=cp->St c ops K rest ((d,.slice (some ⟨b,0,none⟩) n cp)::e) (VR (.slice (some ⟨b,0,none⟩) n cp) E sz (List.replicate n z.cells.toList)::h)) :
  St c ops K (⟨some d,.call { callee:=.builtin .append,args := #[x,y],argTypes := #[t,tx] },ty,pos,after,none⟩::rest) e h :=
 eD (by simp) λa w hk hh hw=>by
  obtain ⟨i,hi,hz,hisz,hiby⟩:=hE.parts
  subst hisz hiby
  have hr:=yP (P:=c.P) (w:=w) ty ht htx hi hz h0 hsz hb h63
  simp only [execOp,resolve,invoke,builtin,hk.ev hx,hk.ev hy,Sem.run_bind,Sem.run_pure,Result.andThen_ok,List.map_toArray,List.map_cons,List.map_nil,hr]
  have hmax:maxLen=9223372036854775807:=rfl
  have hge:=grownCap_ge w n 0 E
  have hcm:grownCap w n 0 E<=maxLen:=grownCap_le_maxLen w n 0 E (by rw [hmax]; exact h63)
  have hH:Holds w.drew h:=Holds.grew hh<|Grew.drawn w _
  have hA:=Holds.alloc hH<|.cells (Builtin.zeroCells z.cells n++Builtin.zeroCells z.cells (grownCap w n 0 E - n)) E
  have hall:∀ r∈List.replicate n z.cells.toList,r.length=i.size:=λr hr=>by rw [List.eq_of_mem_replicate hr]; simpa using hzs
  have hobj:(Obj.cells (Builtin.zeroCells z.cells n++Builtin.zeroCells z.cells (grownCap w n 0 E - n)) E)=cl ([]++((List.replicate n z.cells.toList).flatten++(Builtin.zeroCells z.cells (grownCap w n 0 E - n)).toList)) E:=by
   simp only [cl,Obj.cells.injEq,and_true]
   apply Array.ext'
   simp [DR hzs]
  rw [hobj] at hA ⊢
  refine hnx w.heap.size _ hge _ _ (hk.put _ hd) ⟨⟨hall,.inr ⟨w.heap.size,0,_,[],_,by rw [List.length_replicate],hA.1,Z,by rw [List.length_replicate]; exact hge,hcm,?_⟩⟩,λb ⟨o',m',cp',hv⟩=>?_,hA.2.2⟩<|hw.trans<|(Grew.drawn w _).toSame.trans (Grew.alloc _ _ Z).toSame
  .have hzl:(Builtin.zeroCells z.cells (grownCap w n 0 E - n)).toList.length=(grownCap w n 0 E - n) * i.size:=by rw [Array.length_toList,size_zeroCells,hzs]
   rw [List.length_append,jo hall,List.length_replicate,hzl,<- Nat.add_mul]
   apply Nat.mul_le_mul_right; omega
  .cases hv; exact hA.2.1 _ rfl
theorem kQ {d:Nat} {f:Operand} {az:Array Operand} {ts:Array TypeId} {ty:TypeId} {pos:String} {after:Array Edge} {l:Nat} {vs:List Value} {r:Res} {R:Value->SH->Prop} {gu:Option (Nat×Bool)} {gd:Nat}
  (hgu:gu=none\/∃ g want,gu=some (g,want)/\((ops[g]?).bind (·.dst))=some gd/\e.get? gd=some (.bool want))
  (hv:e.ev? f=some (.func (.yield l) #[] #[])) (has:az.toList.mapM e.ev? = some vs) (yc:Yc c.P l vs.toArray [r] R)
  (hn:∀ v h',R v h'->St c ops K rest ((d,v)::e) (h'++hr))
  (pk:Pk h [r] hr:=by repeat (first | exact Pk.nil | (apply Pk.cons; (repeat (first | exact Sel.here | apply Sel.there))))) (hd:d<c.n:=by exact ltn rfl) :
  St c ops K (⟨some d,.call { callee:=.value f,args:=az,argTypes:=ts },ty,pos,after,gu⟩::rest) e h:=ve hgu hv has yc pk hd hn
end
end Go.Ck
namespace Go.Fl
open Go Go.RowKit Go.Ck Go.Proofs Go.Proofs.Tryz Go.Proofs.YtknmacdbffgjgaaGreatDoor Fx Go.Hr
def Yh (yl:Nat) (Φ : List Cf->Res->Prop) (Stop:Cf->Res->Prop):Prop:=∀ x rest r,Φ (x::rest) r->Yc prog yl #[cfV x] [r] λu h'=>(u = .bool true/\∃ r',Φ rest r'/\h'=[r'])\/(u = .bool false/\∃ r',Stop x r'/\h'=[r'])
def Yend (Φ : List Cf->Res->Prop) (Stop:Cf->Res->Prop) (R:List Cf) (u:Value) (r:Res):Prop:=(u = .bool true /\ Φ R r)\/(u = .bool false/\∃ x,Stop x r)
theorem rows_nm {Y:Res} {news:List (List Value)} {xs:List Nm} (h1:news.length=xs.length) (h2:∀ (i:Nat) us x,news[i]? = some us->xs[i]? = some x->Enc.rep Y us x):news=xs.map nC:=by
 refine List.ext_getElem (by rw [List.length_map,h1]) λi g1 g2=>?_
 rw [List.length_map] at g2
 have:news[i]=[sv (xs[i])]:=h2 i _ _ (Zy g1)<|Zy g2
 rw [this,List.getElem_map]; rfl
theorem eO {α β : Type} {f : α -> List β} {xs:List α} {i:Nat} (h:i<xs.length):(xs.drop i).flatMap f=f xs[i]++(xs.drop (i+1)).flatMap f:=by
 rw [List.drop_eq_getElem_cons h,List.flatMap_cons]
theorem dP {α β : Type} {f : α -> List β} {xs:List α}:(xs.drop xs.length).flatMap f=[]:=by rw [List.drop_length]; rfl
theorem kT {α β : Type} {f : α × Nat->List β} {xs:List α} {i:Nat} (h:i<xs.length):(xs.zipIdx.drop i).flatMap f=f (xs[i],i)++(xs.zipIdx.drop (i+1)).flatMap f:=by
 rw [eO Zp]
 simp
theorem nH {α β : Type} {f : α × Nat->List β} {xs:List α}:(xs.zipIdx.drop xs.length).flatMap f=[]:=by
 have:xs.zipIdx.drop xs.length=[]:=List.drop_eq_nil_of_le<|by simp
 rw [this]; rfl
theorem Le {α : Type} {ls:List (List α)} {i:Nat} (h:i<ls.length):(ls.take (i+1)).flatten=(ls.take i).flatten++ls[i]/\(ls.take i).flatten.length+(ls[i]).length<=ls.flatten.length:=by
 have h1:ls=ls.take i++ls[i]::ls.drop (i+1):=by rw [List.getElem_cons_drop,List.take_append_drop]
 have h2:=congrArg (λx=>x.flatten.length) h1
 simp only [List.flatten_append,List.flatten_cons,List.length_append] at h2
 refine ⟨by rw [List.take_succ_eq_append_getElem h,List.flatten_append,List.flatten_cons,List.flatten_nil,List.append_nil],by omega⟩
attribute [local irreducible] Go.Ck.Sub St Cd Xt Nx DrL LsW
section
variable {X Y:Res} {v v':Value} {us us':List Value}
theorem JI {n:Nat} (hb:n * 16<=1099511627776):CtN prog 260 #[.slice none 0 0,.int .i64 (n:Nat)] [] λu T=>u.oneCell'=true/\T=VR u 9 1 []:=by
 refine aJ (n:=27) func260 Z Z (len Z) λhr w0=>?_
 refine cQ<|sA Z<|sN<|nT<|cS<|cQ<|sM Z<|sV (aO Z Z)<|sK [0,1,4,6] Z<|cC Z (λh1=>?_)<|λh1=>?_
 .exfalso
  have:=of_decide_eq_true h1
  omega
 .refine cK<|xT<|cS<|cQ<|sM Z<|sM Z<|sV (v_cap Z underlying40)<|sM Z<|sV (aC Z underlying40)<|sV (gM (show Value.int .i64 (0 - 0)=Value.int .i64 0 from Z)<|xP (a:=0) (b:=0) Z Z (by unfold I64; omega)) ?_
  refine sV (gM (show Value.int .i64 (((n:Nat):Int) - 0)=Value.int .i64 (n:Nat) by rw [Int.sub_zero])<|xP (a:=(n:Nat)) (b:=0) Z Z (by unfold I64; omega)) ?_
  refine sA Z<|sK [0,1,4] Z<|cQ<|sM Z<|sV (dh Z Z)<|sK [0,1,4,16] Z<|cC Z (λh2=>?_)<|λh2=>?_
  .have hpos:0<n:=by have:=of_decide_eq_true h2; omega
   refine cR<|sM Z<|sM Z<|sV (v_cap Z underlying40)<|sV (wz (hi:=0) Z Z jG Z<|Nat.le_refl _)<|sM Z (st_apm Z Z underlying40 underlying3 gp Z (by decide) hpos (by omega) (by omega) (ltn Z) λb cp hcp=>?_)
   refine sM Z<|sV (aC Z underlying40)<|sV (kI (hi:=0) Z Z jG Z<|Nat.zero_le _)<|rQ (zi (m:=0)<|Nat.zero_le _) ?_
   rw [List.take_zero]
   refine sA Z<|sK [0,4] Z<|cQ<|sM Z<|sA Z<|sK [4] Z<|cT ?_
   exact aj Z ⟨_,Z,Z,Z⟩ sbq
  .refine cK<|xT<|cQ<|sM Z<|sA Z<|sK [4] Z<|cT<|jq (dn 9 1) ?_
   exact aj Z ⟨_,Z,Z,Z⟩ sbq
theorem FB {ls:List (List Nm)} (hv:Ls X v ls) (hb:ls.flatten.length * 16<=1099511627776):CtN prog 205 #[v] [X] λu T=>u.oneCell'=true/\T=NR u ls.flatten:=by
 have hml:maxLen=9223372036854775807:=rfl
 obtain ⟨a,cap,rfl,hlc,hcm,_⟩:=id hv.form
 refine aJ (n:=36) func205 Z Z (len Z) λhr w0=>?_
 refine cQ<|sA Z<|sN<|nT<|cQ<|sA Z<|sN<|nT<|cS<|cQ<|sM Z<|sV (aC Z underlying325)<|sM Z ?_
 refine sN<|nT<|cB<|aY (σ := Nat) (λq=>[(0,.slice a ls.length cap),(3,.int .i64 ((ls.take q).flatten.length:Nat)),(9,.slice a ls.length cap),(10,.int .i64 ls.length),(11,.int .i64 (q:Nat))]) (λq=>X::hr) (λq=>q<=ls.length) (λq=>ls.length - q) 0 (Nat.zero_le _) ?_
 intro i hi
 dsimp only
 refine cQ<|sV (aO Z Z)<|sN<|nT<|cS<|cC Z (λhd=>?_)<|λhd=>?_
 .have hlt:i<ls.length:=Zx
  obtain ⟨b,o,cap2,us,e1,hus,hrd,u1,rfl,hu1⟩:=hv.at<|Zy hlt
  cases e1
  have hrd1:Rd X ⟨b,o+i * 1,none⟩ u1:=hrd 0<|by simp
  obtain ⟨htk,hsz⟩:=Le hlt
  generalize ls[i]=xs at hu1 htk hsz
  obtain ⟨ua,uc,rfl,_⟩:=id hu1.form
  refine cK<|xT<|cS<|cB<|cQ<|sV (vI (k:=i) Z Z sl325 Z hlt Z)<|sV (vY Z gq (ha:=⟨_,_,slq,hrd1⟩)) ?_
  refine sA Z<|sK [0,3,5,9,10,11] Z<|cQ<|sM Z<|sM Z<|sV (aC Z underlying40)<|sV (aI Z Z Z0)<|sA Z<|sK [0,3,9,10,11] Z<|cQ<|sM Z<|sV (aO Z Z) ?_
  refine sK [0,3,9,10,11,20] Z<|cC Z (λhneg=>?_)<|λhneg=>?_
  .exfalso
   have:=of_decide_eq_true hneg
   omega
  .refine cK<|xB<|xT<|cR<|sV (aI Z Z Z0)<|sM Z<|sN<|nK [0,3,9,10,11] Z<|ax ?_
   rw [show (((ls.take i).flatten.length:Nat):Int)+(xs.length:Nat)=(((ls.take (i+1)).flatten.length:Nat):Int) by rw [htk,List.length_append]; omega]
   refine aL (i+1) hlt (by show _ - _<_ - _; omega)
 .have hie:i=ls.length:=by
   have:¬ i<ls.length:=Zx
   omega
  subst hie
  rw [List.take_length]
  refine aB<|xE<|xE<|xY<|xT<|cQ<|sM Z<|aH Z Z en260 Z (JI hb) ?_
  rintro u h' ⟨T,rfl,hu,rfl⟩
  simp only [lC,lN]
  refine sA Z<|sK [0,6] Z<|cS<|cQ<|sM Z<|sV (aC Z underlying325)<|sM Z<|sK [6,25,26,27] Z<|cB<|aY (σ := Value×Nat) (λq=>[(6,q.1),(25,.slice a ls.length cap),(26,.int .i64 ls.length),(27,.int .i64 (q.2:Nat))]) (λq=>VR q.1 9 1 ((ls.take q.2).flatten.map nC)::X::hr) (λq=>q.2<=ls.length/\q.1.oneCell'=true) (λq=>ls.length - q.2) (u,0) ⟨Nat.zero_le _,hu⟩ ?_
  rintro ⟨w,i⟩ ⟨hi,hw⟩
  simp only at hi hw
  dsimp only
  refine cQ<|sV (aO Z Z)<|sN<|nT<|cS<|cC Z (λhd2=>?_)<|λhd2=>?_
  .have hlt:i<ls.length:=Zw
   obtain ⟨b,o,cap2,us,e1,hus,hrd,u1,rfl,hu1⟩:=hv.at<|Zy hlt
   cases e1
   have hrd1:Rd X ⟨b,o+i * 1,none⟩ u1:=hrd 0<|by simp
   obtain ⟨htk,hsz⟩:=Le hlt
   generalize ls[i]=xs at hu1 htk hsz
   obtain ⟨ua,uc,rfl,_⟩:=id hu1.form
   refine cK<|xT<|cS<|cB<|cQ<|sV (vI (k:=i) Z Z sl325 Z hlt Z)<|sV (vY Z gq (ha:=⟨_,_,slq,hrd1⟩)) ?_
   refine sA Z<|sK [6,8,25,26,27] Z<|cR<|sM Z<|sM Z (om hu1.1 Z Z underlying40 gp Z (by decide) (show Sel _ (VR w 9 1<|(ls.take i).flatten.map nC) _ from slq) (show Sel _ X _ from slq) (λus x _ hr u hu=>List.all_eq_true.1 (Enc.ones hr) u hu) (by rw [List.length_map]; omega) (by rw [List.length_map]; omega) (ltn Z) λw2 news hw2 hn1 hn2 hn3=>?_)
   rw [rows_nm hn1 hn3,<- List.map_append,<- htk]
   refine sA Z<|sN<|nK [6,25,26,27] Z<|ax<|xB<|xT<|cR<|sV (aI Z Z Z0)<|sM Z<|sN<|nK [6,25,26,27] Z<|ax ?_
   refine aL (w2,i+1) ⟨hlt,hw2⟩ (by dsimp only; omega)
  .have hie:i=ls.length:=by
    have:¬ i<ls.length:=Zw
    omega
   subst hie
   rw [List.take_length]
   refine aB<|xE<|xE<|xY<|xT<|cQ<|sM Z<|sA Z<|sK [2] Z<|cT ?_
   exact aj Z ⟨_,Z,hw,Z⟩ sbq
end
end Go.Fl
namespace Go.Fl
open Go Go.RowKit Go.Ck Go.Proofs Go.Proofs.Tryz Go.Proofs.YtknmacdbffgjgaaGreatDoor Fx Go.Hr
theorem JJ {b:Nat} {x:Cm} {x2 x5 y x11 x12 x13:Value}:Rds (pt b (cl (pE x x2 x5 y x11 x12 x13) 191)) b (0+3) (iC x.mem x2 x5 y x11 x12 x13):=bF (k:=3) ag rfl
theorem oC {b:Nat} {x:Cm} {x2 x5 y x11 x12 x13:Value}:Rds (pt b (cl (pE x x2 x5 y x11 x12 x13) 191)) b (0+0) [sv x.og.par,sv x.og.name]:=bF (k:=0) ag rfl
attribute [local irreducible] Go.Ck.Sub St Cd Xt Nx DrL LsW
section
variable {X Y:Res} {v v':Value} {us us':List Value}
theorem JK {a b:Cm} (h:Enc.rep X us a) (h':Enc.rep X us' b):Reads prog 208 #[.agg us.toArray,.agg us'.toArray] [] (.bool true):=by
 refine aJ (n:=5) func208 Z Z (len Z) λhr w0=>?_
 refine cQ (aV Z Z λb2=>?_)
 refine aV Z Z λb3=>?_
 refine sA Z<|sK [4] Z<|cQ<|sA Z<|sN<|nT<|cT ?_
 exact aj Z ⟨Z,Z⟩ sbq
theorem JL {f:Fe} {x:Cm} (h:Enc.rep X us f) (h':Enc.rep X us' x):Reads prog 209 #[.agg us.toArray,.agg us'.toArray] [] (.bool (x.mem.kind == 1)):=by
 obtain ⟨x2,x5,xy,x11,x12,x13,rfl,_⟩:=iD h'
 unfold pE
 refine aJ (n:=9) func209 Z Z (len Z) λhr w0=>?_
 refine cQ (aV Z Z λb2=>?_)
 refine aV Z Z λb3=>?_
 refine sA Z<|sK [3,4] Z<|cQ<|sV (vF Z ed Z)<|sV (vF Z rO Z)<|sV (vY Z ld3) ?_
 refine sV (dX Z Z)<|sA Z<|sK [4] Z<|cT ?_
 exact aj Z ⟨Z,Z⟩ sbq
theorem JM {f:Fe} {x:Cm} (h:Enc.rep X us f) (h':Enc.rep X us' x):Reads prog 211 #[.agg us.toArray,.agg us'.toArray] [X] (.bool (f.kind == 3 && !x.dfd)):=by
 have hd:=AX h'
 have hl:=Enc.len h'
 obtain ⟨x2,x3,fy,x9,x10,x11,x12,x13,x14,rfl,-⟩:=oz h
 unfold Be
 refine aJ (n:=13) func211 Z Z (len Z) λhr w0=>?_
 refine cQ (aV Z Z λb2=>?_)
 refine aV Z Z λb3=>?_
 refine sA Z<|sK [2,3,4] Z<|cQ<|sV (vF Z vL Z)<|sV (vY Z ld3) ?_
 refine sV (dX Z Z)<|sM Z ?_
 cases hk:f.kind == 3
 .rw [Bool.false_and]
  iterate 3 refine aF rfl rfl rfl ?_
  refine sV (vP Z Z)<|sA Z<|sK [4] Z<|cT ?_
  exact aj Z ⟨Z,Z⟩ sbq
 .rw [Bool.true_and]
  refine sG Z Z (af Z ik hl ag) ?_
  refine bS Z Z Z Z Gg Z (hd) ?_
  refine sG Z Z (bg Z)<|sV (vQ Z Z)<|sA Z<|sK [4] Z<|cT ?_
  exact aj Z ⟨Z,Z⟩ sbq
theorem JN {a b:Cm} (h:Enc.rep X us a) (h':Enc.rep X us' b):Reads prog 217 #[.agg us.toArray,.agg us'.toArray] [X] (.bool ((!a.dfd && !b.dfd) && !Sk.same a.mem b.mem)):=by
 have hd:=AX h
 have hd':=AX h'
 have hl:=Enc.len h
 have hl':=Enc.len h'
 obtain ⟨x2,x5,xy,x11,x12,x13,rfl,hx⟩:=iD h
 obtain ⟨y2,y5,yy,y11,y12,y13,rfl,hy⟩:=iD h'
 have hs:=same_ct (qP hx)<|qP hy
 unfold pE iC at *
 refine aJ (n:=21) func217 Z Z (len Z) λhr w0=>?_
 refine cQ (aV Z Z λb2=>?_)
 refine aV Z Z λb3=>?_
 refine sA Z<|sK [2,3,4] Z<|cQ<|sV (af Z ik hl ag) ?_
 refine bf Z Z Gg Z (hd) ?_
 refine sV (bg Z)<|sM Z ?_
 cases hk:a.dfd
 .rw [Bool.not_false,Bool.true_and]
  refine sG Z Z (af Z ik hl' ag) ?_
  refine bS Z Z Z Z Gg Z (hd') ?_
  refine sG Z Z (bg Z)<|sV (vQ Z Z)<|sM Z ?_
  cases hk2:b.dfd
  .rw [Bool.not_false,Bool.true_and]
   refine sG Z Z (vF Z ed Z)<|sG Z Z (af Z fE Z<|JJ (x:=a)) ?_
   refine sG Z Z (vF Z ed Z)<|sG Z Z (af Z fE Z<|JJ (x:=b)) ?_
   refine bS Z Z Z Z en218 Z (hs) ?_
   refine sG Z Z (bg Z)<|sV (vQ Z Z)<|sA Z<|sK [4] Z<|cT ?_
   exact aj Z ⟨Z,Z⟩ sbq
  .rw [Bool.not_true,Bool.false_and]
   iterate 6 refine aF rfl rfl rfl ?_
   refine sV (vP Z Z)<|sA Z<|sK [4] Z<|cT ?_
   exact aj Z ⟨Z,Z⟩ sbq
 .rw [Bool.not_true,Bool.false_and,Bool.false_and]
  iterate 3 refine aF rfl rfl rfl ?_
  refine sV (vP Z Z)<|sM Z<|aF Z Z Z ?_
  iterate 5 refine aF rfl rfl rfl ?_
  refine sV (vP Z Z)<|sA Z<|sK [4] Z<|cT ?_
  exact aj Z ⟨Z,Z⟩ sbq
theorem JO {m:Mb} {d:Sd} {b1:Nat} (h:Enc.rep X us m) (hrd:Rds X b1 0 [sv d.cls,sv d.name]):Reads prog 269 #[.agg us.toArray,.pointer (some ⟨b1,0,none⟩)] [X] (.bool (!m.seeds.contains d)):=by
 obtain ⟨x2,x5,xy,x11,x12,x13,rfl,hx2,_⟩:=dN h
 obtain ⟨ax2,kx2,rfl,_⟩:=id hx2.form
 unfold iC
 refine aJ (n:=9) func269 Z Z (len Z) λhr w0=>?_
 refine cQ (aV Z Z λb2=>?_)
 refine sA Z<|sK [1,2,3] Z<|cQ<|sV (vF Z eT Z)<|sV (vY Z pW) ?_
 refine sV (af Z iN Z hrd) ?_
 refine bf Z Z en33 Z (ww hx2) ?_
 refine sV (bg Z)<|sA Z<|sK [3] Z<|cT ?_
 exact aj Z ⟨Z,Z⟩ sbq
theorem JP {ms:List Mb} {d:Sd} {b1:Nat} {mv:Value} (h:Enc.rep X us d) (hrd:Rd X ⟨b1,9,none⟩ mv) (hm:Ls X mv ms):Reads prog 220 #[.agg us.toArray,.pointer (some ⟨b1,0,none⟩)] [X] (.bool (decide (1<(aX ms d).length))):=by
 have hus:us=[sv d.cls,sv d.name]:=h
 subst hus
 refine aJ (n:=10) func220 Z Z (len Z) λhr w0=>?_
 refine cQ (aV Z Z λb2=>?_)
 refine sA Z<|sK [1,2,3] Z<|cQ<|sV (vF Z mZ Z)<|sV (vY Z qX (ha:=⟨_,_,slq,hrd⟩)) ?_
 refine sV (af Z iN Z ag) ?_
 refine aH Z Z Gc Z (mi (s:=d) hm) ?_
 rintro u h' ⟨T,rfl,hu,rfl⟩
 simp only [lC,lN]
 unfold NR
 refine jJ (v:=u) (E:=9) (sz:=1) (rows:=(aX ms d).map nC) slq λwa wc hwf hwl hwm=>?_
 rw [List.length_map] at hwf hwl
 subst hwf
 refine sV (aC Z underlying40)<|sV (dh Z Z)<|sA Z<|sK [3] Z<|cT ?_
 rw [show decide ((1:Int)<((aX ms d).length:Nat))=decide (1<(aX ms d).length) by rw [Bool.eq_iff_iff]; simp; omega]
 exact aj Z ⟨Z,Z⟩ sbq
theorem JQ {f:Fe} {x:Cm} {p:Pt} {c:FC} {b2:Nat} {pv:Value} (h:Enc.rep X us f) (h':Enc.rep X us' x) (hrd:Rd X ⟨b2,5,none⟩ pv) (hpv:Ls X pv c.pars) (hp:c.pars[x.par]? = some p) (hl:p.red.length<=1099511627776):Reads prog 210 #[.agg us.toArray,.agg us'.toArray,.pointer (some ⟨b2,0,none⟩)] [X] (.bool (!x.dfd && !p.red.contains f.name)):=by
 have hd:=AX h'
 have hlx:=Enc.len h'
 have hplt:=(List.getElem?_eq_some_iff.1 hp).1
 obtain ⟨x2,x5,xy,x11,x12,x13,rfl,_⟩:=iD h'
 obtain ⟨y2,y3,fy,y9,y10,y11,y12,y13,y14,rfl,-⟩:=oz h
 obtain ⟨pb,po,pcap,pus,rfl,hpus,hprd,hpr⟩:=hpv.at hp
 obtain ⟨pa,pr,pu,pd,pS,rfl,hpa,hpr,hpu,hpd,hpsel⟩:=hpr
 unfold pE Be at *
 have hct:=fQ (Fu hpd) f.name hl
 refine aJ (n:=23) func210 Z Z (len Z) λhr w0=>?_
 refine cQ (aV Z Z λb3=>?_)
 refine aV Z Z λb4=>?_
 refine sA Z<|sK [2,3,4,5] Z<|cS<|bC (ork [(0,1),(1,1),(2,2),(3,2),(4,2),(5,2),(6,1),(7,2),(8,1),(9,2),(10,2),(11,1),(12,2),(13,1),(14,1),(15,2),(16,2),(17,2)] .nil) (λ_=>true) mixed Zz ?_
 refine bu Z (af Z ik hlx ag) ?_
 refine jE Z Z Z Gg Z (hd) ?_
 refine dV Z (bg Z)<|dV Z (vM Z) ?_
 cases hk:x.dfd
 .rw [Bool.not_false,Bool.true_and]
  refine dC Z Z Z (vF Z gY Z)<|dC Z Z Z (vF Z eP Z)<|jl Z Z Z (vY Z lD (ha:=⟨_,_,slq,hrd⟩)) ?_
  refine dC Z Z Z (vF Z zb Z)<|jl Z Z Z (vY Z ld3) ?_
  refine dC Z Z Z (vI (k:=x.par) Z Z lY Z hplt Z)<|dC Z Z Z (vF Z wV Z)<|jl Z Z Z (vY Z gq (ha:=⟨_,_,slq,hprd 4<|by simp⟩)) ?_
  refine dC Z Z Z (vF Z p9 Z)<|jl Z Z Z (vY Z ld9) ?_
  refine yV Z Z Z Z Z EI Z (hct) ?_
  refine dC Z Z Z (bg Z)<|dV Z (vQ Z Z)<|dV Z (vA Z)<|bB<|nK [5] Z<|nT<|cT ?_
  exact aj Z ⟨Z,Z⟩ sbq
 .rw [Bool.not_true,Bool.false_and]
  iterate 2 refine jm rfl rfl rfl rfl ?_
  refine kC Z Z Z Z ?_
  refine jm Z Z Z Z ?_
  refine kC Z Z Z Z ?_
  iterate 2 refine jm rfl rfl rfl rfl ?_
  refine kC Z Z Z Z ?_
  refine jm Z Z Z Z ?_
  iterate 2 refine kC rfl rfl rfl rfl ?_
  refine jm Z Z Z Z ?_
  refine dV Z (vP Z Z)<|dV Z (vA Z)<|bB<|nK [5] Z<|nT<|cT ?_
  exact aj Z ⟨Z,Z⟩ sbq
def lG {α : Type} (S:Sk) (l:List α) (is : α -> α -> Bool) (f : α -> α -> Cf) (a : α × Nat) (k:Nat):List Cf:=(l.zipIdx.drop k).flatMap λb=>if a.2=b.2\/(S.all=false/\b.2<a.2)\/is a.1 b.1=false then [] else [f a.1 b.1]
theorem wB (S:Sk) (x:Cf) (t:List Cf):S.cut (x::t)=x::(if S.all then t else []):=by
 unfold Sk.cut
 cases S.all <;> rfl
theorem FD {α : Type} {S:Sk} {l:List α} {is : α -> α -> Bool} {f : α -> α -> Cf} {a : α × Nat} {k:Nat} (h:k<l.length):lG S l is f a k=(if a.2=k\/(S.all=false/\k<a.2)\/is a.1 l[k]=false then [] else [f a.1 l[k]])++lG S l is f a (k+1):=by
 unfold lG
 rw [kT h]
theorem Bq {α : Type} {S:Sk} {l:List α} {is : α -> α -> Bool} {f : α -> α -> Cf} {a : α × Nat}:lG S l is f a l.length=[]:=by
 unfold lG
 rw [nH]
theorem Io {yl : Nat} {Φ : List Cf -> Res -> Prop} {Stop : Cf -> Res -> Prop} (hy : Yh yl Φ Stop) {S : Sk} {all : Bool} (hall : S.all = all) {l : List Cm} {kf : FuncId} {is : Cm -> Cm -> Bool} (hE : Ck.Enters prog kf) (his : ∀ a ∈ l, ∀ b ∈ l, ∀ us us' : List Value, Enc.rep X us a -> Enc.rep X us' b -> Reads prog kf #[.agg us.toArray, .agg us'.toArray] [X] (.bool (is a b)))
  (hv:Ls X v l) {vv fv ca cb ce cf ci mv bv:Value} (kk:Int) (R:List Cf) (r0:Res) (h0 : Φ (S.cpairs l kk is++R) r0) :
  Ct prog 207 #[.agg (fC vv fv S.c ca cb ce cf ci mv bv all).toArray,v,.int .i64 kk,.func (.func kf) #[] #[],.func (.yield yl) #[] #[]] [X,r0] λu h'=>∃ r,h'=[X,r]/\Yend Φ Stop R u r:=by
 obtain ⟨a,cap,rfl,hlc,hcm,_⟩:=id hv.form
 have hml:maxLen=9223372036854775807:=rfl
 have hcn:=λb=>gD (fv:=fv) (c:=S.c) (v:=vv) (ca:=ca) (cb:=cb) (ce:=ce) (cf:=cf) (ci:=ci) (mv:=mv) (bv:=bv) (all:=all) b
 unfold fC at *
 refine aJ (n:=67) func207 Z Z (len Z) λhr w0=>?_
 refine cQ (aV Z Z λb5=>?_)
 refine sA Z<|sK [1,2,3,4,5,10] Z<|cS<|cQ<|sM Z<|sV (aC Z underlying187)<|sM Z<|sN<|nT<|cB<|aY (σ := Res×Nat) (λq=>[(1,.slice a l.length cap),(2,.int .i64 kk),(3,.func (.func kf) #[] #[]),(4,.func (.yield yl) #[] #[]),(5,.pointer (some ⟨b5,0,none⟩)),(15,.slice a l.length cap),(16,.int .i64 l.length),(17,.int .i64 (q.2:Nat))]) (λq=>pt b5 (cl [vv,fv,sv S.c.name,.bool S.c.dfd,ca,cb,ce,cf,ci,mv,bv,.bool all] 206)::X::q.1::hr) (λq=>q.2<=l.length /\ Φ (S.cut ((l.zipIdx.drop q.2).flatMap λa=>lG S l is (λa b=>S.cf kk a.mem.name a.og b.og) a 0)++R) q.1) (λq=>l.length - q.2) (r0,0) ⟨Nat.zero_le _,h0⟩ ?_
 rintro ⟨r,i⟩ ⟨hi,hΦ⟩
 simp only at hi hΦ
 dsimp only
 refine cQ<|sV (aO Z Z)<|sN<|nT<|cS<|cC Z (λhd=>?_)<|λhd=>?_
 .have hlt:i<l.length:=Zx
  rw [kT hlt] at hΦ
  have hai:=List.getElem_mem hlt
  obtain ⟨ab,ao,acap,aus,e1,haus,hard,hare⟩:=hv.at<|Zy hlt
  obtain ⟨rfl,rfl⟩:a=some ⟨ab,ao,none⟩/\cap=acap:=by cases e1; exact ⟨rfl,rfl⟩
  have hisa:=his _ hai
  generalize hxa:l[i]=x at hΦ hare hisa
  have hone:=Enc.ones hare
  have hre:=hare
  obtain ⟨x2,x5,xy,x11,x12,x13,rfl,hxm⟩:=iD hare
  have hogx:=λb=>oC (b:=b) (x:=x) (x2:=x2) (x5:=x5) (y:=xy) (x11:=x11) (x12:=x12) (x13:=x13)
  unfold pE at *
  refine cK<|xT<|cS<|cB<|cQ<|sM Z<|sV (vI (k:=i) Z Z lZ Z hlt Z)<|sV (af Z ik Z hard) ?_
  refine au rP λb12=>?_
  refine sA Z<|ai Z Z mY Z hone ?_
  refine sK [1,2,3,4,5,11,12,15,16,17] Z<|cQ<|sM Z<|sV (aC Z underlying187)<|sM Z<|sN<|nT<|cB<|aY (σ := Res×Nat) (λq=>[(1,.slice (some ⟨ab,ao,none⟩) l.length cap),(2,.int .i64 kk),(3,.func (.func kf) #[] #[]),(4,.func (.yield yl) #[] #[]),(5,.pointer (some ⟨b5,0,none⟩)),(15,.slice (some ⟨ab,ao,none⟩) l.length cap),(16,.int .i64 l.length),(17,.int .i64 (i:Nat)),(11,.int .i64 (i:Nat)),(12,.pointer (some ⟨b12,0,none⟩)),(22,.slice (some ⟨ab,ao,none⟩) l.length cap),(23,.int .i64 l.length),(24,.int .i64 (q.2:Nat))]) (λq=>pt b12 (cl [sv x.og.par,sv x.og.name,.int .i64 x.par,sv x.mem.name,.int .i64 x.mem.kind,x2,sv x.mem.impl.cls,sv x.mem.impl.name,x5,.int .i64 x.mem.ty.kind,sv x.mem.ty.name,xy,.bool x.mem.ty.void,.bool x.mem.ty.sep,x11,x12,x13,.int .i64 x.was] 191)::pt b5 (cl [vv,fv,sv S.c.name,.bool S.c.dfd,ca,cb,ce,cf,ci,mv,bv,.bool all] 206)::X::q.1::hr) (λq=>q.2<=l.length /\ Φ (S.cut (lG S l is (λa b=>S.cf kk a.mem.name a.og b.og) (x,i) q.2++(l.zipIdx.drop (i+1)).flatMap λa=>lG S l is (λa b=>S.cf kk a.mem.name a.og b.og) a 0)++R) q.1) (λq=>l.length - q.2) (r,0) ⟨Nat.zero_le _,hΦ⟩ ?_
  clear hΦ
  rintro ⟨r,k⟩ ⟨hk,hΦ⟩
  simp only at hk hΦ
  dsimp only
  refine cQ<|sV (aO Z Z)<|sN<|nT<|cS<|cC Z (λhd2=>?_)<|λhd2=>?_
  .have hltk:k<l.length:=Zw
   rw [FD hltk] at hΦ
   have hbi:=List.getElem_mem hltk
   obtain ⟨bb,bo,bcap,bus,e2,hbus,hbrd,hbre⟩:=hv.at<|Zy hltk
   obtain ⟨rfl,rfl⟩:ab=bb/\ao=bo:=by cases e2; exact ⟨rfl,rfl⟩
   have hisb:=λus'=>hisa _ hbi _ us' hre
   generalize l[k]=y at hΦ hbre hisb
   have honeb:=Enc.ones hbre
   have hisy:=hisb _ hbre
   obtain ⟨y2,y5,yy,y11,y12,y13,rfl,hym⟩:=iD hbre
   have hogy:=λb=>oC (b:=b) (x:=y) (x2:=y2) (x5:=y5) (y:=yy) (x11:=y11) (x12:=y12) (x13:=y13)
   unfold pE at *
   refine cK<|xT<|cS<|cB<|cQ<|sM Z<|sV (vI (k:=k) Z Z lZ Z hltk Z)<|sV (af Z ik Z hbrd) ?_
   refine au rP λb14=>?_
   refine sA Z<|ai Z Z mY Z honeb ?_
   refine sK [1,2,3,4,5,11,12,13,14,15,16,17,22,23,24] Z<|cS<|cQ<|sM Z<|sM Z<|sV (dX Z Z)<|sM Z ?_
   by_cases hik:i=k
   .have hq:(((i:Nat):Int) == ((k:Nat):Int))=true:=by rw [hik]; simp
    rw [hq]
    iterate 4 refine aF rfl rfl rfl ?_
    refine cZ Z Z ?_
    refine cZ Z Z ?_
    refine cZ Z Z ?_
    refine aF Z Z Z ?_
    refine sV (vQ Z Z)<|sM Z<|aF Z Z Z ?_
    iterate 4 refine aF rfl rfl rfl ?_
    refine sV (vQ Z Z)<|sK [1,2,3,4,5,11,12,14,15,16,17,22,23,24,48] Z<|aQ Z ?_
    refine aB<|xE<|xY<|xT<|cR<|sV (aI Z Z Z0)<|sM Z<|sN<|nK [1,2,3,4,5,11,12,15,16,17,22,23,24] Z<|ax ?_
    refine aL (r,k+1) ⟨hltk,by rw [if_pos (.inl hik)] at hΦ; exact hΦ⟩ (by dsimp only; omega)
   .have hq:(((i:Nat):Int) == ((k:Nat):Int))=false:=by simp; omega
    rw [hq]
    refine sG Z Z (vF Z qg Z)<|sG Z Z (vY Z ld4) ?_
    refine sG Z Z (bg Z)<|sG Z Z (vM Z) ?_
    cases all
    .refine sG Z Z (vM Z)<|sG Z Z (vM Z)<|sG Z Z (aO Z Z)<|sG Z Z (vQ Z Z)<|sV (vP Z Z)<|sM Z ?_
     by_cases hki:k<i
     .have hq2:decide (((k:Nat):Int)<((i:Nat):Int))=true:=by simp; omega
      rw [hq2]
      iterate 5 refine aF rfl rfl rfl ?_
      refine sV (vQ Z Z)<|sK [1,2,3,4,5,11,12,14,15,16,17,22,23,24,48] Z<|aQ Z ?_
      refine aB<|xE<|xY<|xT<|cR<|sV (aI Z Z Z0)<|sM Z<|sN<|nK [1,2,3,4,5,11,12,15,16,17,22,23,24] Z<|ax ?_
      refine aL (r,k+1) ⟨hltk,by rw [if_pos (.inr<|.inl ⟨hall,hki⟩)] at hΦ; exact hΦ⟩ (by dsimp only; omega)
     .have hq2:decide (((k:Nat):Int)<((i:Nat):Int))=false:=by simp; omega
      rw [hq2]
      refine sG Z Z (vM Z)<|sG Z Z (af Z ik Z ag) ?_
      refine sG Z Z (af Z ik Z ag) ?_
      refine bS Z Z Z Z hE Z (hisy) ?_
      refine sG Z Z (bg Z)<|sV (vP Z Z)<|sK [1,2,3,4,5,11,12,14,15,16,17,22,23,24,48] Z<|cC Z (λhn=>?_)<|λhn=>?_
      .have hn:is x y=false:=Zk
       refine aB<|xE<|xY<|xT<|cR<|sV (aI Z Z Z0)<|sM Z<|sN<|nK [1,2,3,4,5,11,12,15,16,17,22,23,24] Z<|ax ?_
       refine aL (r,k+1) ⟨hltk,by rw [if_pos (.inr<|.inr hn)] at hΦ; exact hΦ⟩ (by dsimp only; omega)
      .have hn:¬ is x y=false:=Zk
       have hΦ3 : Φ (S.cf kk x.mem.name x.og y.og::((if S.all then lG S l is (λa b=>S.cf kk a.mem.name a.og b.og) (x,i) (k+1)++(l.zipIdx.drop (i+1)).flatMap (λa=>lG S l is (λa b=>S.cf kk a.mem.name a.og b.og) a 0) else [])++R)) r:=by
        rw [if_neg (λh=>h.elim hik λh=>h.elim (λh=>hki h.2) hn)] at hΦ
        rw [lC,lN,List.cons_append,wB] at hΦ
        exact hΦ
       refine cK<|xT<|cS<|cQ<|sM Z<|sV (af Z fU Z ag) ?_
       refine sM Z<|sV (vF Z ed Z)<|sV (vF Z eQ Z)<|sV (vY Z ld9) ?_
       refine sV (vF Z jH Z)<|sV (af Z qW Z<|oC (x:=x)) ?_
       refine sV (vF Z jH Z)<|sV (af Z qW Z<|oC (x:=y)) ?_
       refine bf Z Z kG Z (hcn kk x.mem.name x.og y.og) ?_
       refine kQ (gd:=0) (.inl Z) Z Z (hy _ _ _ hΦ3) ?_
       rintro u h' (⟨rfl,r',hΦ4,rfl⟩ | ⟨rfl,r',hst,rfl⟩)
       .simp only [lC,lN]
        refine sV (bg Z)<|sK [1,2,3,4,5,11,12,15,16,17,22,23,24,61] Z<|aG Z ?_
        refine cK<|xT<|cQ<|sV (vF Z qg Z)<|sV (vY Z ld4) ?_
        refine sV (bg Z)<|sK [1,2,3,4,5,11,12,15,16,17,22,23,24,64] Z<|aQ Z ?_
        refine cQ<|sA Z<|sK [10] Z<|cT<|xW<|xR<|xR<|xW<|xW<|xR<|xR<|xW<|xR ?_
        rw [hall] at hΦ4
        exact aj Z ⟨r',Z,.inl ⟨Z,hΦ4⟩⟩ sbq
       .simp only [lC,lN]
        refine sV (bg Z)<|sK [1,2,3,4,5,11,12,15,16,17,22,23,24,61] Z<|aQ Z ?_
        refine cQ<|sA Z<|sK [10] Z<|cT<|xR<|xW<|xR<|xR<|xW<|xW<|xR<|xR<|xW ?_
        refine xR ?_
        exact aj Z ⟨r',Z,.inr ⟨Z,_,hst⟩⟩ sbq
    .iterate 3 refine aF rfl rfl rfl ?_
     refine sG Z Z (vP Z Z)<|sV (vP Z Z)<|sM Z<|sG Z Z (vM Z)<|sG Z Z (af Z ik Z ag) ?_
     refine sG Z Z (af Z ik Z ag) ?_
     refine bS Z Z Z Z hE Z (hisy) ?_
     refine sG Z Z (bg Z)<|sV (vP Z Z)<|sK [1,2,3,4,5,11,12,14,15,16,17,22,23,24,48] Z<|cC Z (λhn=>?_)<|λhn=>?_
     .have hn:is x y=false:=Zk
      refine aB<|xE<|xY<|xT<|cR<|sV (aI Z Z Z0)<|sM Z<|sN<|nK [1,2,3,4,5,11,12,15,16,17,22,23,24] Z<|ax ?_
      refine aL (r,k+1) ⟨hltk,by rw [if_pos (.inr<|.inr hn)] at hΦ; exact hΦ⟩ (by dsimp only; omega)
     .have hn:¬ is x y=false:=Zk
      have hΦ3 : Φ (S.cf kk x.mem.name x.og y.og::((if S.all then lG S l is (λa b=>S.cf kk a.mem.name a.og b.og) (x,i) (k+1)++(l.zipIdx.drop (i+1)).flatMap (λa=>lG S l is (λa b=>S.cf kk a.mem.name a.og b.og) a 0) else [])++R)) r:=by
       rw [if_neg (λh=>h.elim hik λh=>h.elim (λh=>by rw [hall] at h; cases h.1) hn)] at hΦ
       rw [lC,lN,List.cons_append,wB] at hΦ
       exact hΦ
      refine cK<|xT<|cS<|cQ<|sM Z<|sV (af Z fU Z ag) ?_
      refine sM Z<|sV (vF Z ed Z)<|sV (vF Z eQ Z)<|sV (vY Z ld9) ?_
      refine sV (vF Z jH Z)<|sV (af Z qW Z<|oC (x:=x)) ?_
      refine sV (vF Z jH Z)<|sV (af Z qW Z<|oC (x:=y)) ?_
      refine bf Z Z kG Z (hcn kk x.mem.name x.og y.og) ?_
      refine kQ (gd:=0) (.inl Z) Z Z (hy _ _ _ hΦ3) ?_
      rintro u h' (⟨rfl,r',hΦ4,rfl⟩ | ⟨rfl,r',hst,rfl⟩)
      .simp only [lC,lN]
       refine sV (bg Z)<|sK [1,2,3,4,5,11,12,15,16,17,22,23,24,61] Z<|aG Z ?_
       refine cK<|xT<|cQ<|sV (vF Z qg Z)<|sV (vY Z ld4) ?_
       refine sV (bg Z)<|sK [1,2,3,4,5,11,12,15,16,17,22,23,24,64] Z<|aG Z ?_
       refine cK<|xB<|xT<|cR<|sV (aI Z Z Z0)<|sM Z<|sN<|nK [1,2,3,4,5,11,12,15,16,17,22,23,24] Z<|ax ?_
       rw [hall] at hΦ4
       refine aL (r',k+1) ⟨hltk,by unfold Sk.cut; rw [hall]; exact hΦ4⟩ (by dsimp only; omega)
      .simp only [lC,lN]
       refine sV (bg Z)<|sK [1,2,3,4,5,11,12,15,16,17,22,23,24,61] Z<|aQ Z ?_
       refine cQ<|sA Z<|sK [10] Z<|cT<|xR<|xW<|xR<|xR<|xW<|xW<|xR<|xR<|xW ?_
       refine xR ?_
       exact aj Z ⟨r',Z,.inr ⟨Z,_,hst⟩⟩ sbq
  .have hie:k=l.length:=by
    have:¬ k<l.length:=Zw
    omega
   subst hie
   rw [Bq,List.nil_append] at hΦ
   refine aB<|xE<|xE<|xY<|xB<|xT<|cR<|sV (aI Z Z Z0)<|sM Z<|sN<|nK [1,2,3,4,5,15,16,17] Z<|ax ?_
   refine aL (r,i+1) ⟨hlt,hΦ⟩ (by dsimp only; omega)
 .have hie:i=l.length:=by
   have:¬ i<l.length:=Zx
   omega
  subst hie
  rw [nH] at hΦ
  have hΦ : Φ R r:=by
   have:S.cut []=[]:=by unfold Sk.cut; split <;> rfl
   rw [this] at hΦ; exact hΦ
  refine aB<|xE<|xE<|xY<|xT<|cQ<|sA Z<|sK [10] Z<|cT ?_
  exact aj Z ⟨r,Z,.inl ⟨Z,hΦ⟩⟩ sbq
end
end Go.Fl
namespace Go.Fl
open Go Go.RowKit Go.Ck Go.Proofs Go.Proofs.Tryz Go.Proofs.YtknmacdbffgjgaaGreatDoor Fx Go.Hr
structure SkR (X:Res) (S:Sk) (v:Value) (m:List (Nm×Value)) (ca cb ce cf ci mv:Value) (bmp:List (Nm×Value)):Prop where
 l:Ls X v S.l
 a:Ls X ca S.c.forms
 par:Ls X cb S.c.pars
 e:ce.oneCell'=true
 feat:Ls X cf S.c.feats
 inv:Ls X ci S.c.inv
 fl:FlR X m S.fl
 ms:Ls X mv S.ms
 by':∀ n,Ls X ((bR bmp n).getD<|.slice none 0 0) (under S.cs n)
theorem SkR.up {X Y:Res} {S:Sk} {v:Value} {m bmp:List (Nm×Value)} {ca cb ce cf ci mv:Value} (h:SkR X S v m ca cb ce cf ci mv bmp) (he:Ext X Y):SkR Y S v m ca cb ce cf ci mv bmp :=
 ⟨h.l.up he,h.a.up he,h.par.up he,h.e,h.feat.up he,h.inv.up he,h.fl.up he,h.ms.up he,λn=>(h.by' n).up he⟩
theorem SkR.c {X:Res} {S:Sk} {v:Value} {m bmp:List (Nm×Value)} {ca cb ce cf ci mv:Value} (h:SkR X S v m ca cb ce cf ci mv bmp):Enc.rep X [sv S.c.name,.bool S.c.dfd,ca,cb,ce,cf,ci] S.c:=⟨ca,cb,ce,cf,ci,rfl,h.a,h.par,h.e,h.feat,h.inv⟩
theorem ls_cat {Y:Res} {b:Nat} {x y z:Value} {p q s:List Nm} (h1:Ls Y x p) (h2:Ls Y y q) (h3:Ls Y z s):Ls (Res.star [pt b (cl [x,y,z] 40),Y]) (.slice (some ⟨b,0,none⟩) 3 3) [p,q,s]:=
 ⟨⟨some ⟨b,0,none⟩,3,rfl,Nat.le_refl _,by decide,(λh=>by cases h),λi w hi=>by
  match i,hi with
  | 0,hi=>cases hi; exact ⟨b,0,[x],rfl,rfl,λi hi=>by match i,hi with | 0,_=>exact bL .here _ _ (bZ rfl),x,rfl,h1.up' (bL (.there .here))⟩
  | 1,hi=>cases hi; exact ⟨b,0,[y],rfl,rfl,λi hi=>by match i,hi with | 0,_=>exact bL .here _ _ (bZ rfl),y,rfl,h2.up' (bL (.there .here))⟩
  | 2,hi=>cases hi; exact ⟨b,0,[z],rfl,rfl,λi hi=>by match i,hi with | 0,_=>exact bL .here _ _ (bZ rfl),z,rfl,h3.up' (bL (.there .here))⟩⟩,(by show 3 * 24<=reachBytes; decide)⟩
theorem reads_nil {P:Program} {k:FuncId} {args:Array Value} {X:Res} {v:Value} (h:Reads P k args [] v):Reads P k args [X] v:=λhr w hh =>
 (h (X::hr) w hh).mono λ_ _ ⟨u,h',he,⟨hu,hh'⟩,hH,hS⟩=>⟨u,[X],he,⟨hu,rfl⟩,by subst hh'; exact hH,hS⟩
structure SkB (S:Sk):Prop where
 fits:Fits S.l S.fl
 cls:S.c∈S.l
 ms:(S.ms.flatMap λm=>m.seeds).length<=432000
 mf:S.ms.length<=300
theorem SkB.under {S:Sk} (h:SkB S) (n:Nm):(under S.cs n).length<=240:=Nat.le_trans (List.length_filter_le _ _) (h.fits.few<|.inl h.cls)
theorem SkB.fro {S:Sk} (h:SkB S) (i:Nat) (n:Nm):(S.fro i n).length<=240:=Nat.le_trans (List.length_filter_le _ _) (h.under n)
theorem SkB.lists {S:Sk} (h:SkB S) {p:Pt} (hp:p∈S.c.pars):p.ren.length<=12/\p.und.length<=12/\p.red.length<=12/\p.sel.length<=12:=h.fits.lists _ h.cls p hp
namespace Sk
section
variable (s:Sk)
def f1a (p:Pt×Nat) (r:Pn):List Cf:=if (dF (s.fl p.1.name).mems r.fro).isNone then [s.cf 1 r.fro ⟨p.1.name,r.fro⟩ og0] else []
def f1b (p:Pt×Nat) (n:Nm):List Cf:=if s.fro p.2 n=[] then [s.cf 1 n ⟨p.1.name,n⟩ og0] else []
def f1 (p:Pt×Nat):List Cf:=p.1.ren.flatMap (s.f1a p)++[p.1.und,p.1.red,p.1.sel].flatten.flatMap (s.f1b p)
def f2a (p:Pt) (n:Nm):List Cf:=if p.red.contains n then [s.cf 2 n ⟨p.name,n⟩ og0] else []
def f2 (p:Pt):List Cf:=p.und.flatMap (s.f2a p)
def f3a (p:Pt×Nat) (m:Mb):List Cf:=if 1<(s.fro p.2<|bJ p.1 m.name).length then s.cpairs (s.fro p.2<|bJ p.1 m.name) 3 (λ_ _=>true) else []
def f3 (p:Pt×Nat):List Cf:=(s.fl p.1.name).mems.flatMap (s.f3a p)
def f4b (n:Nm) (x:Cm):List Cf:=if x.was≠2 then [s.cf 4 n x.og og0] else []
def f4a (p:Pt×Nat) (n:Nm):List Cf:=(s.fro p.2 n).flatMap (s.f4b n)
def f4 (p:Pt×Nat):List Cf:=p.1.und.flatMap (s.f4a p)
def f5a (p:Pt) (n:Nm):List Cf:=if (feat s.c n).isNone then [s.cf 5 n ⟨p.name,n⟩ og0] else []
def f5 (p:Pt):List Cf:=p.red.flatMap (s.f5a p)
theorem lost_eq (R:List Cf):s.lost++R=s.c.pars.zipIdx.flatMap s.f1++(s.c.pars.flatMap s.f2++(s.c.pars.zipIdx.flatMap s.f3++(s.c.pars.zipIdx.flatMap s.f4++(s.c.pars.flatMap s.f5++R)))):=by
 have h1:∀ p,s.f1 p=(p.1.ren.flatMap λr=>if (dF (s.fl p.1.name).mems r.fro).isNone then [s.cf 1 r.fro ⟨p.1.name,r.fro⟩ og0] else []) ++
   (p.1.und++p.1.red++p.1.sel).flatMap λn=>if s.fro p.2 n=[] then [s.cf 1 n ⟨p.1.name,n⟩ og0] else []:=λp=>by
  unfold f1
  congr 1
  simp only [List.flatten_cons,List.flatten_nil,List.append_nil,List.append_assoc]
  rfl
 have h2:s.c.pars.zipIdx.flatMap s.f1=s.pz.flatMap λp=>(p.1.ren.flatMap λr=>if (dF (s.fl p.1.name).mems r.fro).isNone then [s.cf 1 r.fro ⟨p.1.name,r.fro⟩ og0] else []) ++
   (p.1.und++p.1.red++p.1.sel).flatMap λn=>if s.fro p.2 n=[] then [s.cf 1 n ⟨p.1.name,n⟩ og0] else []:=dM λp _=>h1 p
 rw [h2]
 unfold lost
 simp only [List.append_assoc]
 rfl
end
end Sk
attribute [local irreducible] Go.Ck.Sub St Cd Xt Nx DrL LsW
section
variable {X Y:Res} {v v':Value} {us us':List Value}

theorem lost_ct {yl mb bm : Nat} {Φ : List Cf -> Res -> Prop} {Stop : Cf -> Res -> Prop} (hy : Yh yl Φ Stop) {S : Sk} {all : Bool} (hall : S.all = all) {m bmp : List (Nm × Value)} {ca cb ce cf ci mv : Value} (hK : SkR X S v m ca cb ce cf ci mv bmp) (hB : SkB S) (R : List Cf) (r0 : Res) (h0 : Φ (S.lost ++ R) r0) :
  CtX prog 128 #[.agg (fC v (.map<|some mb) S.c ca cb ce cf ci mv (.map<|some bm) all).toArray,.func (.yield yl) #[] #[]] X [mps mb m,mps bm bmp,r0] λu Y k'=>∃ r,k'=[mps mb m,mps bm bmp,r]/\Yend Φ Stop R u r:=by
 have hml:maxLen=9223372036854775807:=rfl
 obtain ⟨cb,ck,rfl,hckl,hckm,_⟩:=id hK.par.form
 obtain ⟨cf,cfk,rfl,_⟩:=id hK.feat.form
 obtain ⟨mA,mK,rfl,_⟩:=id hK.ms.form
 have hcn:=λb=>gD (fv:=.map<|some mb) (c:=S.c) (v:=v) (ca:=ca) (cb:=.slice cb S.c.pars.length ck) (ce:=ce) (cf:=.slice cf S.c.feats.length cfk) (ci:=ci) (mv:=.slice mA S.ms.length mK) (bv:=.map<|some bm) (all:=all) b
 rw [Sk.lost_eq] at h0
 generalize hT5:S.c.pars.flatMap S.f5++R=T4 at h0
 generalize hT4:S.c.pars.zipIdx.flatMap S.f4++T4=T3 at h0
 generalize hT3:S.c.pars.zipIdx.flatMap S.f3++T3=T2 at h0
 generalize hT2:S.c.pars.flatMap S.f2++T2=T1 at h0
 unfold CtX
 unfold fC at *
 refine aJ (n:=271) func128 Z Z (len Z) λhr w0=>?_
 refine cQ (aV Z Z λb2=>?_)
 refine sA Z<|sK [1,2,4] Z<|cS<|cQ<|sV (vF Z gY Z)<|sV (vF Z eP Z)<|sV (vY Z lD) ?_
 refine sV (aC Z underlying39)<|sM Z<|sK [1,2,4,36,37,38] Z<|cB<|aY (σ := Res×Res×Nat) (λq=>[(1,.func (.yield yl) #[] #[]),(2,.pointer (some ⟨b2,0,none⟩)),(36,.slice cb S.c.pars.length ck),(37,.int .i64 S.c.pars.length),(38,.int .i64 (q.2.2:Nat))]) (λq=>pt b2 (cl [v,.map (some mb),sv S.c.name,.bool S.c.dfd,ca,.slice cb S.c.pars.length ck,ce,.slice cf S.c.feats.length cfk,ci,.slice mA S.ms.length mK,.map (some bm),.bool all] 206)::q.1::mps mb m::mps bm bmp::q.2.1::hr) (λq=>Ext X q.1/\q.2.2<=S.c.pars.length /\ Φ ((S.c.pars.zipIdx.drop q.2.2).flatMap (S.f1)++T1) q.2.1) (λq=>S.c.pars.length - q.2.2) (X,r0,0) ⟨Ext.refl X,Nat.zero_le _,h0⟩ ?_
 clear h0
 rintro ⟨Y,r,i⟩ ⟨hE,hi,hΦ⟩
 simp only at hE hi hΦ
 dsimp only
 refine cQ<|sV (aO Z Z)<|sN<|nT<|cS<|cC Z (λhd=>?_)<|λhd=>?_
 .have hlt:i<S.c.pars.length:=Zx
  rw [kT hlt,List.append_assoc] at hΦ
  have hlis:=hB.lists<|List.getElem_mem hlt
  obtain ⟨pb,po,pcap,pus,e1,hpus,hprd,hp⟩:=(hK.par.up hE).at<|Zy hlt
  obtain ⟨rfl,rfl⟩:cb=some ⟨pb,po,none⟩/\ck=pcap:=by cases e1; exact ⟨rfl,rfl⟩
  generalize S.c.pars[i]=p at hΦ hlis hp
  generalize hA:(S.c.pars.zipIdx.drop (i+1)).flatMap (S.f1)++T1=A at hΦ
  obtain ⟨hlR,hlU,hlD,hlS⟩:=hlis
  have hp0:=hp
  obtain ⟨pa,pr,pu,pd,pS,rfl,hpa,hpR,hpu,hpd,hpsel⟩:=hp
  obtain ⟨aA,kA,rfl,_⟩:=id hpa.form
  obtain ⟨aR,kR,rfl,_⟩:=id hpR.form
  obtain ⟨aU,kU,rfl,_⟩:=id hpu.form
  obtain ⟨aD,kD,rfl,_⟩:=id hpd.form
  obtain ⟨aS,kS,rfl,_⟩:=id hpsel.form
  refine cK<|xT<|cS<|cB<|cQ<|sM Z<|sV (vI (k:=i) Z Z lY Z hlt Z)<|sV (af Z oP Z hprd) ?_
  refine au vO λb6=>?_
  refine sA Z<|ai Z Z qU Z Z ?_
  have hΦ : Φ (p.ren.flatMap (S.f1a (p,i))++([p.und,p.red,p.sel].flatten.flatMap (S.f1b (p,i))++A)) r:=by rw [<- List.append_assoc]; exact hΦ
  generalize hA2:[p.und,p.red,p.sel].flatten.flatMap (S.f1b (p,i))++A=A2 at hΦ
  refine sK [1,2,5,6,36,37,38] Z<|cS<|cQ<|sV (vF Z Ad Z)<|sV (vY Z ld86) ?_
  refine sV (aC Z underlying86)<|sM Z<|sK [1,2,5,6,36,37,38,44,45,46] Z<|cB<|aY (σ := Res×Res×Nat) (λq=>[(1,.func (.yield yl) #[] #[]),(2,.pointer (some ⟨b2,0,none⟩)),(36,.slice (some ⟨pb,po,none⟩) S.c.pars.length ck),(37,.int .i64 S.c.pars.length),(38,.int .i64 (i:Nat)),(5,.int .i64 (i:Nat)),(6,.pointer (some ⟨b6,0,none⟩)),(44,.slice aR p.ren.length kR),(45,.int .i64 p.ren.length),(46,.int .i64 (q.2.2:Nat))]) (λq=>pt b6 (cl [sv p.name,.slice aA p.args.length kA,.slice aR p.ren.length kR,.slice aU p.und.length kU,.slice aD p.red.length kD,.slice aS p.sel.length kS] 88)::pt b2 (cl [v,.map (some mb),sv S.c.name,.bool S.c.dfd,ca,.slice (some ⟨pb,po,none⟩) S.c.pars.length ck,ce,.slice cf S.c.feats.length cfk,ci,.slice mA S.ms.length mK,.map (some bm),.bool all] 206)::q.1::mps mb m::mps bm bmp::q.2.1::hr) (λq=>Ext Y q.1/\q.2.2<=p.ren.length /\ Φ ((p.ren.drop q.2.2).flatMap (S.f1a (p,i))++A2) q.2.1) (λq=>p.ren.length - q.2.2) (Y,r,0) ⟨Ext.refl Y,Nat.zero_le _,hΦ⟩ ?_
  clear hΦ
  rintro ⟨Zq,r,j⟩ ⟨hE2,hj,hΦ⟩
  simp only at hE2 hj hΦ
  dsimp only
  refine cQ<|sV (aO Z Z)<|sN<|nT<|cS<|cC Z (λhd2=>?_)<|λhd2=>?_
  .have hltj:j<p.ren.length:=Zw
   rw [eO hltj,List.append_assoc] at hΦ
   have hEZ:=hE.trans hE2
   obtain ⟨nb,no,ncap,nus,e2,hnus,hnrd,hn⟩:=(hpR.up hE2).at<|Zy hltj
   obtain ⟨rfl,rfl⟩:aR=some ⟨nb,no,none⟩/\kR=ncap:=by cases e2; exact ⟨rfl,rfl⟩
   generalize p.ren[j]=x at hΦ hn
   subst hn
   refine cK<|xT<|cS<|cB<|cQ<|sV (vI (k:=j) Z Z sl86 Z hltj Z)<|sV (af Z rG Z hnrd) ?_
   refine au Gb λb8=>?_
   refine ai Z Z zZ Z Z ?_
   refine sK [1,2,5,6,8,36,37,38,44,45,46] Z<|cQ<|sV (vF Z EG Z)<|sV (vF Z iW Z)<|sV (vY Z qI) ?_
   refine sV (vF Z gV Z)<|sV (vY Z ld9) ?_
   obtain ⟨fus,hfl,hfr2⟩:=(hK.fl.up hEZ) p.name
   obtain ⟨mx,my,rfl,hmx,hmy⟩:=hfr2
   obtain ⟨qA,qK,rfl,_⟩:=id hmx.form
   refine sV (gM hfl<|bP Z Z qG qH slq) ?_
   refine sV (iU (k:=2) Z underlying55 Z isAgg52 Z)<|sV (vF Z y8 Z)<|sV (vY Z ld9) ?_
   refine aH Z Z en169 Z (uE (n:=x.fro) hmx) ?_
   rintro u h' ⟨rfl,gus,rfl,hgr⟩
   simp only [lC,lN]
   have hg14:gus.length=14:=Enc.len hgr
   have hgo:=Enc.ones hgr
   refine sM Z<|sV (ah Z Z)<|sV (ah Z Z) (au jR λb9=>?_)
   refine ai (hl:=by rw [hg14]; rfl) Z Z iH hg14 hgo ?_
   refine sA Z<|sK [1,2,5,6,8,10,36,37,38,44,45,46] Z<|cQ<|sM Z<|sV (bg Z)<|sM Z ?_
   have hmf:((S.fl p.name).mems.find? λc=>c.name == x.fro)=dF (S.fl p.name).mems x.fro:=rfl
   rw [hmf]
   unfold Sk.f1a at hΦ
   dsimp only at hΦ
   cases hq:dF (S.fl p.name).mems x.fro
   .rw [hq] at hΦ
    have hΦ2 : Φ (S.cf 1 x.fro ⟨p.name,x.fro⟩ og0::((p.ren.drop (j+1)).flatMap (S.f1a (p,i))++A2)) r:=hΦ
    refine sG Z Z (vM Z)<|sG Z Z (af Z fU Z ag) ?_
    refine sG Z Z (vF Z y8 Z)<|sG Z Z (vY Z ld9) ?_
    refine sG Z Z (vF Z gV Z)<|sG Z Z (vY Z ld9) ?_
    refine sG Z Z (vF Z y8 Z)<|sG Z Z (vY Z ld9) ?_
    refine sG Z Z (aP (cells:=[sv p.name,sv x.fro]) Z<|λ_=>Zz) ?_
    refine sG Z Z (aP (cells:=[sv [],sv []]) Z<|λ_=>Zz) ?_
    refine bS Z Z Z Z kG Z (hcn 1 x.fro ⟨p.name,x.fro⟩ og0) ?_
    refine kQ (gd:=65) (.inr ⟨_,_,Z,Z,Z⟩) Z Z (hy _ _ _ hΦ2) ?_
    rintro u h' (⟨rfl,r',hΦ4,rfl⟩ | ⟨rfl,r',hst,rfl⟩)
    .simp only [lC,lN]
     refine sG Z Z (bg Z)<|sV (vQ Z Z)<|sK [1,2,5,6,36,37,38,44,45,46,79] Z<|aG Z ?_
     refine cK<|xB<|xT<|cR<|sV (aI Z Z Z0)<|sM Z<|sN<|nK [1,2,5,6,36,37,38,44,45,46] Z<|ax ?_
     refine aL (Zq,r',j+1) ⟨hE2,hltj,hΦ4⟩ (by dsimp only; omega)
    .simp only [lC,lN]
     refine sG Z Z (bg Z)<|sV (vQ Z Z)<|sK [1,2,5,6,36,37,38,44,45,46,79] Z<|aQ Z ?_
     refine cQ<|sA Z<|sK [4] Z<|cT<|xW<|xR<|xR<|xW<|xR<|xW<|xR<|xR<|xW ?_
     refine xR ?_
     exact aj Z ⟨Zq,[mps mb m,mps bm bmp,r'],Z,hEZ,r',Z,.inr ⟨Z,_,hst⟩⟩ sbq
   .rw [hq] at hΦ
    iterate 13 refine aF rfl rfl rfl ?_
    refine sV (vP Z Z)<|sK [1,2,5,6,36,37,38,44,45,46,79] Z<|aG Z ?_
    refine cK<|xB<|xT<|cR<|sV (aI Z Z Z0)<|sM Z<|sN<|nK [1,2,5,6,36,37,38,44,45,46] Z<|ax ?_
    refine aL (Zq,r,j+1) ⟨hE2,hltj,hΦ⟩ (by dsimp only; omega)
  .have hje:j=p.ren.length:=Nat.le_antisymm hj<|Nat.not_lt.1 Zw
   subst hje
   rw [dP,List.nil_append] at hΦ
   generalize hns:[p.und,p.red,p.sel].flatten=ns at hA2
   have hnl:ns.length<=36:=by
    rw [<- hns]
    simp only [List.flatten_cons,List.flatten_nil,List.append_nil,List.length_append]
    omega
   have hcat:∀ b87,CtN prog 205 #[.slice (some ⟨b87,0,none⟩) 3 3] [pt b87 (cl [.slice aU p.und.length kU,.slice aD p.red.length kD,.slice aS p.sel.length kS] 40),Zq] λu T=>u.oneCell'=true/\T=NR u ns:=λb87=>by
    have h:=FB (ls_cat (b:=b87) (hpu.up hE2) (hpd.up hE2)<|hpsel.up hE2) (by rw [hns]; omega)
    rw [hns] at h
    exact kH h
   refine aB<|xE<|xE<|xY<|xT<|cQ<|sV (vF Z wU Z)<|sV (vY Z gq) ?_
   refine sV (vF Z wV Z)<|sV (vY Z gq) ?_
   refine sV (vF Z Ae Z)<|sV (vY Z gq) ?_
   refine ak (cells:=[.slice aU p.und.length kU,.slice aD p.red.length kD,.slice aS p.sel.length kS]) Z underlying325 inf40 Z Z Zz (ltn Z) λb87=>?_
   refine aH Z Z en205 Z (hcat b87) ?_
   rintro u h' ⟨T,rfl,hu,rfl⟩
   simp only [lC,lN]
   unfold NR
   refine jJ (v:=u) (E:=9) (sz:=1) (rows:=ns.map nC) slq λwa wc hwf hwl hwm=>?_
   rw [List.length_map] at hwf hwl
   subst hwf
   refine sV (aC Z underlying40)<|sM Z<|sK [1,2,5,6,36,37,38,88,89,90] Z<|cB ?_
   rw [<- hA2] at hΦ
   refine aY (σ := Res×Res×Nat) (λq=>[(1,.func (.yield yl) #[] #[]),(2,.pointer (some ⟨b2,0,none⟩)),(36,.slice (some ⟨pb,po,none⟩) S.c.pars.length ck),(37,.int .i64 S.c.pars.length),(38,.int .i64 (i:Nat)),(5,.int .i64 (i:Nat)),(6,.pointer (some ⟨b6,0,none⟩)),(88,.slice wa ns.length wc),(89,.int .i64 ns.length),(90,.int .i64 (q.2.2:Nat))]) (λq=>VR (.slice wa ns.length wc) 9 1 (ns.map nC)::pt b6 (cl [sv p.name,.slice aA p.args.length kA,.slice aR p.ren.length kR,.slice aU p.und.length kU,.slice aD p.red.length kD,.slice aS p.sel.length kS] 88)::pt b2 (cl [v,.map (some mb),sv S.c.name,.bool S.c.dfd,ca,.slice (some ⟨pb,po,none⟩) S.c.pars.length ck,ce,.slice cf S.c.feats.length cfk,ci,.slice mA S.ms.length mK,.map (some bm),.bool all] 206)::q.1::mps mb m::mps bm bmp::q.2.1::hr) (λq=>Ext Zq q.1/\q.2.2<=ns.length /\ Φ ((ns.drop q.2.2).flatMap (S.f1b (p,i))++A) q.2.1) (λq=>ns.length - q.2.2) (Zq,r,0) ⟨Ext.refl Zq,Nat.zero_le _,hΦ⟩ ?_
   clear hΦ
   rintro ⟨Y2,r,k⟩ ⟨hE3,hk,hΦ⟩
   simp only at hE3 hk hΦ
   dsimp only
   refine cQ<|sV (aO Z Z)<|sN<|nT<|cS<|cC Z (λhd3=>?_)<|λhd3=>?_
   .have hltk:k<ns.length:=Zr
    rw [eO hltk,List.append_assoc] at hΦ
    have hnx:(ns.map nC)[k]? = some [sv ns[k]]:=by rw [List.getElem?_map,Zy hltk]; rfl
    refine fD (r:=VR (.slice wa ns.length wc) 9 1<|ns.map nC) slq λhok=>?_
    obtain ⟨ab,ao,rfl⟩:∃ ab ao,wa=some ⟨ab,ao,none⟩:=by
     obtain ⟨f0,hf0⟩:=hok
     rcases VR.form hf0 with ⟨h3,h4⟩ | ⟨b,o,cp,h3,-⟩
     .have:=List.map_eq_nil_iff.1 h4
      subst this; simp at hltk
     .rw [List.length_map] at h3; cases h3; exact ⟨b,o,rfl⟩
    generalize ns[k]=n at hΦ hnx
    refine cK<|xT<|cS<|cB<|cQ<|sV (vI (k:=k) Z Z jG Z hltk Z)<|sV (vY Z ld9 (ha:=⟨_,_,slq,dU hnx 0<|by simp⟩)) ?_
    refine sA Z<|sK [1,2,5,6,12,36,37,38,88,89,90] Z<|cQ ?_
    have hK9:=hK.up<|hE.trans<|hE2.trans hE3
    refine sV (af Z fU Z ag) ?_
    refine sM Z<|sM Z<|aH Z Z KN Z (qC (v:=v) (fv:=.map<|some mb) (c:=S.c) (ca:=ca) (cb:=.slice (some ⟨pb,po,none⟩) S.c.pars.length ck) (ce:=ce) (cf:=.slice cf S.c.feats.length cfk) (ci:=ci) (mv:=.slice mA S.ms.length mK) (all:=all) (bm:=bm) (i:=i) (n:=n) (hK9.by' n) (by have:=hB.under n; omega)) ?_
    rintro u h' ⟨Y3,k9,rfl,hE4,rows,hu,hro,rfl⟩
    simp only [lC,lN]
    have hro:Rws Y3 rows (S.fro i<|n):=hro
    have hrl:=hro.1
    have hfl:=hB.fro i<|n
    refine jJ (v:=u) (E:=191) (sz:=18) (rows:=rows) slq λla lc hlf hll hlm=>?_
    rw [hrl] at hlf hll
    subst hlf
    refine sV (aC Z underlying187)<|sV (dX Z Z)<|sM Z ?_
    unfold Sk.f1b at hΦ
    dsimp only at hΦ
    by_cases hq:S.fro i n=[]
    .rw [if_pos hq] at hΦ
     have hΦ2 : Φ (S.cf 1 n ⟨p.name,n⟩ og0::((ns.drop (k+1)).flatMap (S.f1b (p,i))++A)) r:=hΦ
     have hg:(((S.fro i n).length:Int) == 0)=true:=by rw [hq]; rfl
     rw [hg]
     refine sG Z Z (vM Z)<|sG Z Z (af Z fU Z ag) ?_
     refine sG Z Z (vM Z)<|sG Z Z (vF Z gV Z)<|sG Z Z (vY Z ld9) ?_
     refine sG Z Z (vM Z)<|sG Z Z (aP (cells:=[sv p.name,sv n]) Z<|λ_=>Zz) ?_
     refine sG Z Z (aP (cells:=[sv [],sv []]) Z<|λ_=>Zz) ?_
     refine bS Z Z Z Z kG Z (hcn 1 n ⟨p.name,n⟩ og0) ?_
     refine kQ (gd:=100) (.inr ⟨_,_,Z,Z,Z⟩) Z Z (hy _ _ _ hΦ2) ?_
     rintro u h' (⟨rfl,r',hΦ4,rfl⟩ | ⟨rfl,r',hst,rfl⟩)
     .simp only [lC,lN]
      refine sG Z Z (bg Z)<|sV (vQ Z Z)<|sK [1,2,5,6,36,37,38,88,89,90,112] Z<|aG Z ?_
      refine cK<|xB<|xT<|cR<|sV (aI Z Z Z0)<|sM Z<|sN<|nK [1,2,5,6,36,37,38,88,89,90] Z<|ax ?_
      refine aL (Y3,r',k+1) ⟨hE3.trans hE4,hltk,hΦ4⟩ (by dsimp only; omega)
     .simp only [lC,lN]
      refine sG Z Z (bg Z)<|sV (vQ Z Z)<|sK [1,2,5,6,36,37,38,88,89,90,112] Z<|aQ Z ?_
      refine cQ<|sA Z<|sK [4] Z<|cT<|xW<|xR<|xR<|xW<|xW<|xR<|xR<|xW<|xR ?_
      exact aj Z ⟨Y3,[mps mb m,mps bm bmp,r'],Z,hE.trans (hE2.trans<|hE3.trans hE4),r',Z,.inr ⟨Z,_,hst⟩⟩ sbq
    .rw [if_neg hq] at hΦ
     have hg:(((S.fro i n).length:Int) == 0)=false:=by
      have:=List.length_pos_iff.2 hq
      simp only [beq_eq_false_iff_ne,ne_eq]; omega
     rw [hg]
     iterate 11 refine aF rfl rfl rfl ?_
     refine sV (vP Z Z)<|sK [1,2,5,6,36,37,38,88,89,90,112] Z<|aG Z ?_
     refine cK<|xB<|xT<|cR<|sV (aI Z Z Z0)<|sM Z<|sN<|nK [1,2,5,6,36,37,38,88,89,90] Z<|ax ?_
     refine aL (Y3,r,k+1) ⟨hE3.trans hE4,hltk,hΦ⟩ (by dsimp only; omega)
   .have hke:k=ns.length:=Nat.le_antisymm hk<|Nat.not_lt.1 Zr
    subst hke
    rw [dP,List.nil_append] at hΦ
    refine aB<|xE<|xE<|xY<|xB<|xT<|cR<|sV (aI Z Z Z0)<|sM Z<|sN<|nK [1,2,36,37,38] Z<|ax ?_
    refine aL (Y2,r,i+1) ⟨hE.trans (hE2.trans hE3),hlt,by rw [hA]; exact hΦ⟩ (by dsimp only; omega)
 .have hie:i=S.c.pars.length:=Nat.le_antisymm hi<|Nat.not_lt.1 Zx
  subst hie
  rw [nH,List.nil_append] at hΦ
  rw [<- hT2] at hΦ
  refine aB<|xE<|xE<|xY<|xT<|cS<|cQ<|sV (vF Z gY Z)<|sV (vF Z eP Z)<|sV (vY Z lD) ?_
  refine sV (aC Z underlying39)<|sM Z<|sK [1,2,117,118,119] Z<|cB<|aY (σ := Res×Res×Nat) (λq=>[(1,.func (.yield yl) #[] #[]),(2,.pointer (some ⟨b2,0,none⟩)),(117,.slice cb S.c.pars.length ck),(118,.int .i64 S.c.pars.length),(119,.int .i64 (q.2.2:Nat))]) (λq=>pt b2 (cl [v,.map (some mb),sv S.c.name,.bool S.c.dfd,ca,.slice cb S.c.pars.length ck,ce,.slice cf S.c.feats.length cfk,ci,.slice mA S.ms.length mK,.map (some bm),.bool all] 206)::q.1::mps mb m::mps bm bmp::q.2.1::hr) (λq=>Ext X q.1/\q.2.2<=S.c.pars.length /\ Φ ((S.c.pars.drop q.2.2).flatMap (S.f2)++T2) q.2.1) (λq=>S.c.pars.length - q.2.2) (Y,r,0) ⟨hE,Nat.zero_le _,hΦ⟩ ?_
  clear hΦ hE
  clear Y r
  rintro ⟨Y,r,i⟩ ⟨hE,hi,hΦ⟩
  simp only at hE hi hΦ
  dsimp only
  refine cQ<|sV (aO Z Z)<|sN<|nT<|cS<|cC Z (λhd=>?_)<|λhd=>?_
  .have hlt:i<S.c.pars.length:=Zx
   rw [eO hlt,List.append_assoc] at hΦ
   have hlis:=hB.lists<|List.getElem_mem hlt
   obtain ⟨pb,po,pcap,pus,e1,hpus,hprd,hp⟩:=(hK.par.up hE).at<|Zy hlt
   obtain ⟨rfl,rfl⟩:cb=some ⟨pb,po,none⟩/\ck=pcap:=by cases e1; exact ⟨rfl,rfl⟩
   generalize S.c.pars[i]=p at hΦ hlis hp
   generalize hA:(S.c.pars.drop (i+1)).flatMap (S.f2)++T2=A at hΦ
   obtain ⟨hlR,hlU,hlD,hlS⟩:=hlis
   have hp0:=hp
   obtain ⟨pa,pr,pu,pd,pS,rfl,hpa,hpR,hpu,hpd,hpsel⟩:=hp
   obtain ⟨aA,kA,rfl,_⟩:=id hpa.form
   obtain ⟨aR,kR,rfl,_⟩:=id hpR.form
   obtain ⟨aU,kU,rfl,_⟩:=id hpu.form
   obtain ⟨aD,kD,rfl,_⟩:=id hpd.form
   obtain ⟨aS,kS,rfl,_⟩:=id hpsel.form
   refine cK<|xT<|cS<|cB<|cQ<|sV (vI (k:=i) Z Z lY Z hlt Z)<|sV (af Z oP Z hprd) ?_
   refine au vO λb14=>?_
   refine ai Z Z qU Z Z ?_
   have hΦ : Φ (p.und.flatMap (S.f2a p)++A) r:=hΦ
   refine sK [1,2,14,117,118,119] Z<|cQ<|sV (vF Z wU Z)<|sV (vY Z gq) ?_
   refine sV (aC Z underlying40)<|sM Z<|sK [1,2,14,117,118,119,124,125,126] Z<|cB<|aY (σ := Res×Res×Nat) (λq=>[(1,.func (.yield yl) #[] #[]),(2,.pointer (some ⟨b2,0,none⟩)),(117,.slice (some ⟨pb,po,none⟩) S.c.pars.length ck),(118,.int .i64 S.c.pars.length),(119,.int .i64 (i:Nat)),(14,.pointer (some ⟨b14,0,none⟩)),(124,.slice aU p.und.length kU),(125,.int .i64 p.und.length),(126,.int .i64 (q.2.2:Nat))]) (λq=>pt b14 (cl [sv p.name,.slice aA p.args.length kA,.slice aR p.ren.length kR,.slice aU p.und.length kU,.slice aD p.red.length kD,.slice aS p.sel.length kS] 88)::pt b2 (cl [v,.map (some mb),sv S.c.name,.bool S.c.dfd,ca,.slice (some ⟨pb,po,none⟩) S.c.pars.length ck,ce,.slice cf S.c.feats.length cfk,ci,.slice mA S.ms.length mK,.map (some bm),.bool all] 206)::q.1::mps mb m::mps bm bmp::q.2.1::hr) (λq=>Ext Y q.1/\q.2.2<=p.und.length /\ Φ ((p.und.drop q.2.2).flatMap (S.f2a p)++A) q.2.1) (λq=>p.und.length - q.2.2) (Y,r,0) ⟨Ext.refl Y,Nat.zero_le _,hΦ⟩ ?_
   clear hΦ
   rintro ⟨Zq,r,j⟩ ⟨hE2,hj,hΦ⟩
   simp only at hE2 hj hΦ
   dsimp only
   refine cQ<|sV (aO Z Z)<|sN<|nT<|cS<|cC Z (λhd2=>?_)<|λhd2=>?_
   .have hltj:j<p.und.length:=Zw
    rw [eO hltj,List.append_assoc] at hΦ
    have hEZ:=hE.trans hE2
    obtain ⟨nb,no,ncap,nus,e2,hnus,hnrd,hn⟩:=(hpu.up hE2).at<|Zy hltj
    obtain ⟨rfl,rfl⟩:aU=some ⟨nb,no,none⟩/\kU=ncap:=by cases e2; exact ⟨rfl,rfl⟩
    generalize p.und[j]=x at hΦ hn
    subst hn
    refine cK<|xT<|cS<|cB<|cQ<|sV (vI (k:=j) Z Z jG Z hltj Z)<|sV (vY Z ld9 (ha:=⟨_,_,slq,hnrd 0<|by simp⟩)) ?_
    refine sA Z<|sK [1,2,14,16,117,118,119,124,125,126] Z<|cQ<|sV (vF Z wV Z)<|sV (vY Z gq) ?_
    refine sM Z<|bf Z Z EI Z (fQ (Fu<|hpd.up hE2) x<|by omega) ?_
    refine sM Z ?_
    unfold Sk.f2a at hΦ
    cases hq:p.red.contains x
    .rw [hq] at hΦ
     have hΦ : Φ ((p.und.drop (j+1)).flatMap (S.f2a p)++A) r:=hΦ
     iterate 11 refine aF rfl rfl rfl ?_
     refine sV (vP Z Z)<|sK [1,2,14,117,118,119,124,125,126,146] Z<|aG Z ?_
     refine cK<|xB<|xT<|cR<|sV (aI Z Z Z0)<|sM Z<|sN<|nK [1,2,14,117,118,119,124,125,126] Z<|ax ?_
     refine aL (Zq,r,j+1) ⟨hE2,hltj,hΦ⟩ (by dsimp only; omega)
    .rw [hq] at hΦ
     have hΦ2 : Φ (S.cf 2 x ⟨p.name,x⟩ og0::((p.und.drop (j+1)).flatMap (S.f2a p)++A)) r:=hΦ
     refine sG Z Z (vM Z)<|sG Z Z (af Z fU Z ag) ?_
     refine sG Z Z (vM Z)<|sG Z Z (vF Z gV Z)<|sG Z Z (vY Z ld9) ?_
     refine sG Z Z (vM Z)<|sG Z Z (aP (cells:=[sv p.name,sv x]) Z<|λ_=>Zz) ?_
     refine sG Z Z (aP (cells:=[sv [],sv []]) Z<|λ_=>Zz) ?_
     refine bS Z Z Z Z kG Z (hcn 2 x ⟨p.name,x⟩ og0) ?_
     refine kQ (gd:=134) (.inr ⟨_,_,Z,Z,Z⟩) Z Z (hy _ _ _ hΦ2) ?_
     rintro u h' (⟨rfl,r',hΦ4,rfl⟩ | ⟨rfl,r',hst,rfl⟩)
     .simp only [lC,lN]
      refine sG Z Z (bg Z)<|sV (vQ Z Z)<|sK [1,2,14,117,118,119,124,125,126,146] Z<|aG Z ?_
      refine cK<|xB<|xT<|cR<|sV (aI Z Z Z0)<|sM Z<|sN<|nK [1,2,14,117,118,119,124,125,126] Z<|ax ?_
      refine aL (Zq,r',j+1) ⟨hE2,hltj,hΦ4⟩ (by dsimp only; omega)
     .simp only [lC,lN]
      refine sG Z Z (bg Z)<|sV (vQ Z Z)<|sK [1,2,14,117,118,119,124,125,126,146] Z<|aQ Z ?_
      refine cQ<|sA Z<|sK [4] Z<|cT<|xW<|xR<|xR<|xW<|xW<|xR<|xR<|xW<|xR ?_
      exact aj Z ⟨Zq,[mps mb m,mps bm bmp,r'],Z,hEZ,r',Z,.inr ⟨Z,_,hst⟩⟩ sbq
   .have hje:j=p.und.length:=Nat.le_antisymm hj<|Nat.not_lt.1 Zw
    subst hje
    rw [dP,List.nil_append] at hΦ
    refine aB<|xE<|xE<|xY<|xB<|xT<|cR<|sV (aI Z Z Z0)<|sM Z<|sN<|nK [1,2,117,118,119] Z<|ax ?_
    refine aL (Zq,r,i+1) ⟨hE.trans hE2,hlt,by rw [hA]; exact hΦ⟩ (by dsimp only; omega)
  .have hie:i=S.c.pars.length:=Nat.le_antisymm hi<|Nat.not_lt.1 Zx
   subst hie
   rw [dP,List.nil_append] at hΦ
   rw [<- hT3] at hΦ
   refine aB<|xE<|xE<|xY<|xT<|cS<|cQ<|sV (vF Z gY Z)<|sV (vF Z eP Z)<|sV (vY Z lD) ?_
   refine sV (aC Z underlying39)<|sM Z<|sK [1,2,151,152,153] Z<|cB<|aY (σ := Res×Res×Nat) (λq=>[(1,.func (.yield yl) #[] #[]),(2,.pointer (some ⟨b2,0,none⟩)),(151,.slice cb S.c.pars.length ck),(152,.int .i64 S.c.pars.length),(153,.int .i64 (q.2.2:Nat))]) (λq=>pt b2 (cl [v,.map (some mb),sv S.c.name,.bool S.c.dfd,ca,.slice cb S.c.pars.length ck,ce,.slice cf S.c.feats.length cfk,ci,.slice mA S.ms.length mK,.map (some bm),.bool all] 206)::q.1::mps mb m::mps bm bmp::q.2.1::hr) (λq=>Ext X q.1/\q.2.2<=S.c.pars.length /\ Φ ((S.c.pars.zipIdx.drop q.2.2).flatMap (S.f3)++T3) q.2.1) (λq=>S.c.pars.length - q.2.2) (Y,r,0) ⟨hE,Nat.zero_le _,hΦ⟩ ?_
   clear hΦ hE
   clear Y r
   rintro ⟨Y,r,i⟩ ⟨hE,hi,hΦ⟩
   simp only at hE hi hΦ
   dsimp only
   refine cQ<|sV (aO Z Z)<|sN<|nT<|cS<|cC Z (λhd=>?_)<|λhd=>?_
   .have hlt:i<S.c.pars.length:=Zx
    rw [kT hlt,List.append_assoc] at hΦ
    have hlis:=hB.lists<|List.getElem_mem hlt
    obtain ⟨pb,po,pcap,pus,e1,hpus,hprd,hp⟩:=(hK.par.up hE).at<|Zy hlt
    obtain ⟨rfl,rfl⟩:cb=some ⟨pb,po,none⟩/\ck=pcap:=by cases e1; exact ⟨rfl,rfl⟩
    generalize S.c.pars[i]=p at hΦ hlis hp
    generalize hA:(S.c.pars.zipIdx.drop (i+1)).flatMap (S.f3)++T3=A at hΦ
    obtain ⟨hlR,hlU,hlD,hlS⟩:=hlis
    have hp0:=hp
    obtain ⟨pa,pr,pu,pd,pS,rfl,hpa,hpR,hpu,hpd,hpsel⟩:=hp
    obtain ⟨aA,kA,rfl,_⟩:=id hpa.form
    obtain ⟨aR,kR,rfl,_⟩:=id hpR.form
    obtain ⟨aU,kU,rfl,_⟩:=id hpu.form
    obtain ⟨aD,kD,rfl,_⟩:=id hpd.form
    obtain ⟨aS,kS,rfl,_⟩:=id hpsel.form
    refine cK<|xT<|cS<|cB<|cQ<|sM Z<|sV (vI (k:=i) Z Z lY Z hlt Z)<|sV (af Z oP Z hprd) ?_
    refine au vO λb18=>?_
    refine sA Z<|ai Z Z qU Z Z ?_
    have hΦ : Φ ((S.fl p.name).mems.flatMap (S.f3a (p,i))++A) r:=hΦ
    refine sK [1,2,17,18,151,152,153] Z<|cQ<|sV (vF Z EG Z)<|sV (vF Z iW Z)<|sV (vY Z qI) ?_
    refine sV (vF Z gV Z)<|sV (vY Z ld9) ?_
    obtain ⟨fus,hfl,hfr2⟩:=(hK.fl.up hE) p.name
    obtain ⟨mx,my,rfl,hmx,hmy⟩:=hfr2
    obtain ⟨qA,qK,rfl,_⟩:=id hmx.form
    refine sV (gM hfl<|bP Z Z qG qH slq) ?_
    refine sV (iU (k:=2) Z underlying55 Z isAgg52 Z)<|sV (aC Z underlying52)<|sM Z<|sK [1,2,17,18,151,152,153,164,165,166] Z<|cB<|aY (σ := Res×Res×Nat) (λq=>[(1,.func (.yield yl) #[] #[]),(2,.pointer (some ⟨b2,0,none⟩)),(151,.slice (some ⟨pb,po,none⟩) S.c.pars.length ck),(152,.int .i64 S.c.pars.length),(153,.int .i64 (i:Nat)),(18,.pointer (some ⟨b18,0,none⟩)),(17,.int .i64 (i:Nat)),(164,.slice qA (S.fl p.name).mems.length qK),(165,.int .i64 (S.fl p.name).mems.length),(166,.int .i64 (q.2.2:Nat))]) (λq=>pt b18 (cl [sv p.name,.slice aA p.args.length kA,.slice aR p.ren.length kR,.slice aU p.und.length kU,.slice aD p.red.length kD,.slice aS p.sel.length kS] 88)::pt b2 (cl [v,.map (some mb),sv S.c.name,.bool S.c.dfd,ca,.slice (some ⟨pb,po,none⟩) S.c.pars.length ck,ce,.slice cf S.c.feats.length cfk,ci,.slice mA S.ms.length mK,.map (some bm),.bool all] 206)::q.1::mps mb m::mps bm bmp::q.2.1::hr) (λq=>Ext Y q.1/\q.2.2<=(S.fl p.name).mems.length /\ Φ (((S.fl p.name).mems.drop q.2.2).flatMap (S.f3a (p,i))++A) q.2.1) (λq=>(S.fl p.name).mems.length - q.2.2) (Y,r,0) ⟨Ext.refl Y,Nat.zero_le _,hΦ⟩ ?_
    clear hΦ
    rintro ⟨Zq,r,j⟩ ⟨hE2,hj,hΦ⟩
    simp only at hE2 hj hΦ
    dsimp only
    refine cQ<|sV (aO Z Z)<|sN<|nT<|cS<|cC Z (λhd2=>?_)<|λhd2=>?_
    .have hltj:j<(S.fl p.name).mems.length:=Zw
     rw [eO hltj,List.append_assoc] at hΦ
     have hEZ:=hE.trans hE2
     obtain ⟨nb,no,ncap,nus,e2,hnus,hnrd,hn⟩:=(hmx.up hE2).at<|Zy hltj
     obtain ⟨rfl,rfl⟩:qA=some ⟨nb,no,none⟩/\qK=ncap:=by cases e2; exact ⟨rfl,rfl⟩
     generalize (S.fl p.name).mems[j]=x at hΦ hn
     have hxo:=Enc.ones hn
     obtain ⟨x2,x5,xy,x11,x12,x13,rfl,-⟩:=dN hn
     unfold iC at *
     have hK9:=hK.up hEZ
     refine cK<|xT<|cS<|cB<|cQ<|sV (vI (k:=j) Z Z oM Z hltj Z)<|sV (af Z fE Z hnrd) ?_
     refine au jR λb20=>?_
     refine ai Z Z iH Z hxo ?_
     refine sK [1,2,17,18,20,151,152,153,164,165,166] Z<|cS<|bC (ork [(0,1),(1,2),(2,1),(3,2),(4,1),(5,0),(6,0),(7,2)] .nil) (λi => !(Nat.beq i 6)) mixed Zz ?_
     refine bu Z (af Z fU Z ag) ?_
     refine dV Z (vM Z)<|bu Z (af Z oP Z ag) ?_
     refine dV Z (vF Z eQ Z)<|bu Z (vY Z ld9) ?_
     refine aT Z<|aH Z Z en173 Z (uI (n:=x.name)<|Enc.up hE2.rd hp0) ?_
     rintro u h' ⟨rfl,rfl⟩
     simp only [lC,lN]
     refine aW ?_
     refine aT Z<|aH Z Z KN Z (qC (v:=v) (fv:=.map<|some mb) (c:=S.c) (ca:=ca) (cb:=.slice (some ⟨pb,po,none⟩) S.c.pars.length ck) (ce:=ce) (cf:=.slice cf S.c.feats.length cfk) (ci:=ci) (mv:=.slice mA S.ms.length mK) (all:=all) (bm:=bm) (i:=i) (n:=bJ p x.name) (hK9.by'<|bJ p x.name) (by have:=hB.under (bJ p x.name); omega)) ?_
     rintro u h' ⟨Y3,k9,rfl,hE4,rows,hu,hro,rfl⟩
     simp only [lC,lN]
     refine aW ?_
     have hro:Rws Y3 rows (S.fro i<|bJ p x.name):=hro
     have hrl:=hro.1
     have hfl9:=hB.fro i<|bJ p x.name
     unfold Sk.f3a at hΦ
     dsimp only at hΦ
     generalize S.fro i (bJ p x.name)=l at hΦ hro hrl hfl9
     refine dV Z (vA Z)<|bB<|nK [1,2,17,18,21,151,152,153,164,165,166] Z<|nT<|cS (fO (v:=u) (E:=191) (sz:=18) (rows:=rows) slq λla lc hlf hll hlm=>?_)
     rw [hrl] at hlf hll
     subst hlf
     refine fD (r:=VR (.slice la l.length lc) 191 18 rows) slq λhok=>?_
     refine E5 [VR (.slice la l.length lc) 191 18 rows] Y3 λY4 hE5 hsel=>?_
     have hls:Ls Y4 (.slice la l.length lc) l:=Rws.ls (E:=191) (hro.up hE5) hok (hsel _ _ .here) (by show l.length * 280<=reachBytes; have hrb:reachBytes=140737488351232:=rfl; omega)
     have hE6:=hE2.trans<|hE4.trans hE5
     have hEZ4:=hE.trans hE6
     refine cR<|sM Z<|sV (aC Z underlying187)<|sV (dh Z Z)<|sM Z ?_
     by_cases hq:1<l.length
     .rw [if_pos hq] at hΦ
      have hg:decide ((1:Int)<(l.length:Nat))=true:=by simp; omega
      rw [hg]
      refine sG Z Z (af Z fU Z ag) ?_
      refine sG Z Z (vM Z)<|sG Z Z (vM Z)<|lX Z Z<|aH Z Z en207 Z (Io hy hall en208 (is:=λ_ _=>true) (λa _ b _ us us' h h'=>reads_nil<|JK h h') hls 3 _ r hΦ) ?_
      rintro u h' ⟨r',rfl,(⟨rfl,hΦ4⟩ | ⟨rfl,_,hst⟩)⟩
      .simp only [lC,lN]
       refine sG Z Z (bg Z)<|sV (vQ Z Z)<|sK [1,2,17,18,151,152,153,164,165,166,186] Z<|aG Z ?_
       refine cK<|xB<|xT<|cR<|sV (aI Z Z Z0)<|sM Z<|sN<|nK [1,2,17,18,151,152,153,164,165,166] Z<|ax ?_
       refine aL (Y4,r',j+1) ⟨hE6,hltj,hΦ4⟩ (by dsimp only; omega)
      .simp only [lC,lN]
       refine sG Z Z (bg Z)<|sV (vQ Z Z)<|sK [1,2,17,18,151,152,153,164,165,166,186] Z<|aQ Z ?_
       refine cQ<|sA Z<|sK [4] Z<|cT<|xW<|xR<|xR<|xW<|xW<|xR<|xR<|xW<|xR ?_
       exact aj Z ⟨Y4,[mps mb m,mps bm bmp,r'],Z,hEZ4,r',Z,.inr ⟨Z,_,hst⟩⟩ sbq
     .rw [if_neg hq] at hΦ
      have hg:decide ((1:Int)<(l.length:Nat))=false:=by simp; omega
      rw [hg]
      iterate 5 refine aF rfl rfl rfl ?_
      refine sV (vP Z Z)<|sK [1,2,17,18,151,152,153,164,165,166,186] Z<|aG Z ?_
      refine cK<|xB<|xT<|cR<|sV (aI Z Z Z0)<|sM Z<|sN<|nK [1,2,17,18,151,152,153,164,165,166] Z<|ax ?_
      refine aL (Y4,r,j+1) ⟨hE6,hltj,hΦ⟩ (by dsimp only; omega)
    .have hje:j=(S.fl p.name).mems.length:=Nat.le_antisymm hj<|Nat.not_lt.1 Zw
     subst hje
     rw [dP,List.nil_append] at hΦ
     refine aB<|xE<|xE<|xY<|xB<|xT<|cR<|sV (aI Z Z Z0)<|sM Z<|sN<|nK [1,2,151,152,153] Z<|ax ?_
     refine aL (Zq,r,i+1) ⟨hE.trans hE2,hlt,by rw [hA]; exact hΦ⟩ (by dsimp only; omega)
   .have hie:i=S.c.pars.length:=Nat.le_antisymm hi<|Nat.not_lt.1 Zx
    subst hie
    rw [nH,List.nil_append] at hΦ
    rw [<- hT4] at hΦ
    refine aB<|xE<|xE<|xY<|xT<|cS<|cQ<|sV (vF Z gY Z)<|sV (vF Z eP Z)<|sV (vY Z lD) ?_
    refine sV (aC Z underlying39)<|sM Z<|sK [1,2,191,192,193] Z<|cB<|aY (σ := Res×Res×Nat) (λq=>[(1,.func (.yield yl) #[] #[]),(2,.pointer (some ⟨b2,0,none⟩)),(191,.slice cb S.c.pars.length ck),(192,.int .i64 S.c.pars.length),(193,.int .i64 (q.2.2:Nat))]) (λq=>pt b2 (cl [v,.map (some mb),sv S.c.name,.bool S.c.dfd,ca,.slice cb S.c.pars.length ck,ce,.slice cf S.c.feats.length cfk,ci,.slice mA S.ms.length mK,.map (some bm),.bool all] 206)::q.1::mps mb m::mps bm bmp::q.2.1::hr) (λq=>Ext X q.1/\q.2.2<=S.c.pars.length /\ Φ ((S.c.pars.zipIdx.drop q.2.2).flatMap (S.f4)++T4) q.2.1) (λq=>S.c.pars.length - q.2.2) (Y,r,0) ⟨hE,Nat.zero_le _,hΦ⟩ ?_
    clear hΦ hE
    clear Y r
    rintro ⟨Y,r,i⟩ ⟨hE,hi,hΦ⟩
    simp only at hE hi hΦ
    dsimp only
    refine cQ<|sV (aO Z Z)<|sN<|nT<|cS<|cC Z (λhd=>?_)<|λhd=>?_
    .have hlt:i<S.c.pars.length:=Zx
     rw [kT hlt,List.append_assoc] at hΦ
     have hlis:=hB.lists<|List.getElem_mem hlt
     obtain ⟨pb,po,pcap,pus,e1,hpus,hprd,hp⟩:=(hK.par.up hE).at<|Zy hlt
     obtain ⟨rfl,rfl⟩:cb=some ⟨pb,po,none⟩/\ck=pcap:=by cases e1; exact ⟨rfl,rfl⟩
     generalize S.c.pars[i]=p at hΦ hlis hp
     generalize hA:(S.c.pars.zipIdx.drop (i+1)).flatMap (S.f4)++T4=A at hΦ
     obtain ⟨hlR,hlU,hlD,hlS⟩:=hlis
     have hp0:=hp
     obtain ⟨pa,pr,pu,pd,pS,rfl,hpa,hpR,hpu,hpd,hpsel⟩:=hp
     obtain ⟨aA,kA,rfl,_⟩:=id hpa.form
     obtain ⟨aR,kR,rfl,_⟩:=id hpR.form
     obtain ⟨aU,kU,rfl,_⟩:=id hpu.form
     obtain ⟨aD,kD,rfl,_⟩:=id hpd.form
     obtain ⟨aS,kS,rfl,_⟩:=id hpsel.form
     refine cK<|xT<|cS<|cB<|cQ<|sM Z<|sV (vI (k:=i) Z Z lY Z hlt Z)<|sV (af Z oP Z hprd) ?_
     refine au vO λb23=>?_
     refine sA Z<|ai Z Z qU Z Z ?_
     have hΦ : Φ (p.und.flatMap (S.f4a (p,i))++A) r:=hΦ
     refine sK [1,2,22,23,191,192,193] Z<|cQ<|sV (vF Z wU Z)<|sV (vY Z gq) ?_
     refine sV (aC Z underlying40)<|sM Z<|sK [1,2,22,191,192,193,199,200,201] Z<|cB<|aY (σ := Res×Res×Nat) (λq=>[(1,.func (.yield yl) #[] #[]),(2,.pointer (some ⟨b2,0,none⟩)),(191,.slice (some ⟨pb,po,none⟩) S.c.pars.length ck),(192,.int .i64 S.c.pars.length),(193,.int .i64 (i:Nat)),(22,.int .i64 (i:Nat)),(199,.slice aU p.und.length kU),(200,.int .i64 p.und.length),(201,.int .i64 (q.2.2:Nat))]) (λq=>pt b23 (cl [sv p.name,.slice aA p.args.length kA,.slice aR p.ren.length kR,.slice aU p.und.length kU,.slice aD p.red.length kD,.slice aS p.sel.length kS] 88)::pt b2 (cl [v,.map (some mb),sv S.c.name,.bool S.c.dfd,ca,.slice (some ⟨pb,po,none⟩) S.c.pars.length ck,ce,.slice cf S.c.feats.length cfk,ci,.slice mA S.ms.length mK,.map (some bm),.bool all] 206)::q.1::mps mb m::mps bm bmp::q.2.1::hr) (λq=>Ext Y q.1/\q.2.2<=p.und.length /\ Φ ((p.und.drop q.2.2).flatMap (S.f4a (p,i))++A) q.2.1) (λq=>p.und.length - q.2.2) (Y,r,0) ⟨Ext.refl Y,Nat.zero_le _,hΦ⟩ ?_
     clear hΦ
     rintro ⟨Zq,r,j⟩ ⟨hE2,hj,hΦ⟩
     simp only at hE2 hj hΦ
     dsimp only
     refine cQ<|sV (aO Z Z)<|sN<|nT<|cS<|cC Z (λhd2=>?_)<|λhd2=>?_
     .have hltj:j<p.und.length:=Zw
      rw [eO hltj,List.append_assoc] at hΦ
      have hEZ:=hE.trans hE2
      obtain ⟨nb,no,ncap,nus,e2,hnus,hnrd,hn⟩:=(hpu.up hE2).at<|Zy hltj
      obtain ⟨rfl,rfl⟩:aU=some ⟨nb,no,none⟩/\kU=ncap:=by cases e2; exact ⟨rfl,rfl⟩
      generalize p.und[j]=x at hΦ hn
      subst hn
      refine cK<|xT<|cS<|cB<|cQ<|sV (vI (k:=j) Z Z jG Z hltj Z)<|sV (vY Z ld9 (ha:=⟨_,_,slq,hnrd 0<|by simp⟩)) ?_
      refine sA Z<|sK [1,2,22,25,191,192,193,199,200,201] Z<|cQ ?_
      have hK9:=hK.up hEZ
      refine sV (af Z fU Z ag) ?_
      refine sM Z<|sM Z<|aH Z Z KN Z (qC (v:=v) (fv:=.map<|some mb) (c:=S.c) (ca:=ca) (cb:=.slice (some ⟨pb,po,none⟩) S.c.pars.length ck) (ce:=ce) (cf:=.slice cf S.c.feats.length cfk) (ci:=ci) (mv:=.slice mA S.ms.length mK) (all:=all) (bm:=bm) (i:=i) (n:=x) (hK9.by' x) (by have:=hB.under x; omega)) ?_
      rintro u h' ⟨Y3,k9,rfl,hE4,rows,hu,hro,rfl⟩
      simp only [lC,lN]
      have hro:Rws Y3 rows (S.fro i<|x):=hro
      have hrl:=hro.1
      have hfl:=hB.fro i<|x
      refine jJ (v:=u) (E:=191) (sz:=18) (rows:=rows) slq λla lc hlf hll hlm=>?_
      rw [hrl] at hlf hll
      subst hlf
      have hΦ : Φ ((S.fro i x).flatMap (S.f4b x)++((p.und.drop (j+1)).flatMap (S.f4a (p,i))++A)) r:=hΦ
      generalize hA3:(p.und.drop (j+1)).flatMap (S.f4a (p,i))++A=A3 at hΦ
      generalize S.fro i x=l at hΦ hro hrl hfl
      refine ni (r:=VR (.slice la l.length lc) 191 18 rows) slq λhok=>?_
      refine oh [VR (.slice la l.length lc) 191 18 rows] Y3 λY4 hE5 hsel=>?_
      have hls:Ls Y4 (.slice la l.length lc) l:=Rws.ls (E:=191) (hro.up hE5) hok (hsel _ _ .here) (by show l.length * 280<=reachBytes; have hrb:reachBytes=140737488351232:=rfl; omega)
      have hE6:=hE2.trans<|hE4.trans hE5
      have hEZ4:=hE.trans hE6
      refine sV (aC Z underlying187)<|sM Z<|sK [1,2,22,25,191,192,193,199,200,201,208,209,210] Z<|cB<|aY (σ := Res×Nat) (λq=>[(1,.func (.yield yl) #[] #[]),(2,.pointer (some ⟨b2,0,none⟩)),(191,.slice (some ⟨pb,po,none⟩) S.c.pars.length ck),(192,.int .i64 S.c.pars.length),(193,.int .i64 (i:Nat)),(22,.int .i64 (i:Nat)),(199,.slice (some ⟨nb,no,none⟩) p.und.length kU),(200,.int .i64 p.und.length),(201,.int .i64 (j:Nat)),(25,sv x),(208,.slice la l.length lc),(209,.int .i64 l.length),(210,.int .i64 (q.2:Nat))]) (λq=>pt b23 (cl [sv p.name,.slice aA p.args.length kA,.slice aR p.ren.length kR,.slice (some ⟨nb,no,none⟩) p.und.length kU,.slice aD p.red.length kD,.slice aS p.sel.length kS] 88)::pt b2 (cl [v,.map (some mb),sv S.c.name,.bool S.c.dfd,ca,.slice (some ⟨pb,po,none⟩) S.c.pars.length ck,ce,.slice cf S.c.feats.length cfk,ci,.slice mA S.ms.length mK,.map (some bm),.bool all] 206)::Y4::mps mb m::mps bm bmp::q.1::hr) (λq=>q.2<=l.length /\ Φ ((l.drop q.2).flatMap (S.f4b x)++A3) q.1) (λq=>l.length - q.2) (r,0) ⟨Nat.zero_le _,hΦ⟩ ?_
      clear hΦ
      rintro ⟨r,k⟩ ⟨hk,hΦ⟩
      simp only at hk hΦ
      dsimp only
      refine cQ<|sV (aO Z Z)<|sN<|nT<|cS<|cC Z (λhd3=>?_)<|λhd3=>?_
      .have hltk:k<l.length:=Zr
       rw [eO hltk,List.append_assoc] at hΦ
       obtain ⟨cb',co,ccap,cus,e4,hcus,hcrd,hcr⟩:=hls.at<|Zy hltk
       obtain ⟨rfl,rfl⟩:la=some ⟨cb',co,none⟩/\lc=ccap:=by cases e4; exact ⟨rfl,rfl⟩
       generalize l[k]=y at hΦ hcr
       have hyo:=Enc.ones hcr
       obtain ⟨y2,y5,yy,y11,y12,y13,rfl,-⟩:=iD hcr
       have hogy:=λb=>oC (b:=b) (x:=y) (x2:=y2) (x5:=y5) (y:=yy) (x11:=y11) (x12:=y12) (x13:=y13)
       unfold pE at *
       refine cK<|xT<|cS<|cB<|cQ<|sV (vI (k:=k) Z Z lZ Z hltk Z)<|sV (af Z ik Z hcrd) ?_
       refine au rP λb27=>?_
       refine ai Z Z mY Z hyo ?_
       refine sK [1,2,22,25,27,191,192,193,199,200,201,208,209,210] Z<|cQ<|sV (vF Z fa191_3 Z)<|sV (vY Z ld3) ?_
       refine sV (bT Z Z)<|sM Z ?_
       unfold Sk.f4b at hΦ
       cases hq:(y.was != 2)
       .have hw:¬ y.was≠2:=Zu
        rw [if_neg hw] at hΦ
        iterate 9 refine aF rfl rfl rfl ?_
        refine sV (vP Z Z)<|sK [1,2,22,25,191,192,193,199,200,201,208,209,210,227] Z<|aG Z ?_
        refine cK<|xB<|xT<|cR<|sV (aI Z Z Z0)<|sM Z<|sN<|nK [1,2,22,25,191,192,193,199,200,201,208,209,210] Z<|ax ?_
        refine aL (r,k+1) ⟨hltk,hΦ⟩ (by dsimp only; omega)
       .have hw:y.was≠2:=Zu
        rw [if_pos hw] at hΦ
        have hΦ2 : Φ (S.cf 4 x y.og og0::((l.drop (k+1)).flatMap (S.f4b x)++A3)) r:=hΦ
        refine sG Z Z (vM Z)<|sG Z Z (af Z fU Z ag) ?_
        refine sG Z Z (vM Z)<|sG Z Z (vF Z jH Z)<|sG Z Z (af Z qW Z (hogy b27) (s:=.here)) ?_
        refine sG Z Z (aP (cells:=[sv [],sv []]) Z<|λ_=>Zz) ?_
        refine bS Z Z Z Z kG Z (hcn 4 x y.og og0) ?_
        refine kQ (gd:=217) (.inr ⟨_,_,Z,Z,Z⟩) Z Z (hy _ _ _ hΦ2) ?_
        rintro u h' (⟨rfl,r',hΦ4,rfl⟩ | ⟨rfl,r',hst,rfl⟩)
        .simp only [lC,lN]
         refine sG Z Z (bg Z)<|sV (vQ Z Z)<|sK [1,2,22,25,191,192,193,199,200,201,208,209,210,227] Z<|aG Z ?_
         refine cK<|xB<|xT<|cR<|sV (aI Z Z Z0)<|sM Z<|sN<|nK [1,2,22,25,191,192,193,199,200,201,208,209,210] Z<|ax ?_
         refine aL (r',k+1) ⟨hltk,hΦ4⟩ (by dsimp only; omega)
        .simp only [lC,lN]
         refine sG Z Z (bg Z)<|sV (vQ Z Z)<|sK [1,2,22,25,191,192,193,199,200,201,208,209,210,227] Z<|aQ Z ?_
         refine cQ<|sA Z<|sK [4] Z<|cT<|xW<|xR<|xR<|xW<|xW<|xR<|xR<|xW<|xW ?_
         refine xR<|xR<|xW<|xR ?_
         exact aj Z ⟨Y4,[mps mb m,mps bm bmp,r'],Z,hEZ4,r',Z,.inr ⟨Z,_,hst⟩⟩ sbq
      .have hke:k=l.length:=Nat.le_antisymm hk<|Nat.not_lt.1 Zr
       subst hke
       rw [dP,List.nil_append] at hΦ
       refine aB<|xE<|xE<|xY<|xB<|xT<|cR<|sV (aI Z Z Z0)<|sM Z<|sN<|nK [1,2,22,191,192,193,199,200,201] Z<|ax ?_
       refine aL (Y4,r,j+1) ⟨hE6,hltj,by rw [hA3]; exact hΦ⟩ (by dsimp only; omega)
     .have hje:j=p.und.length:=Nat.le_antisymm hj<|Nat.not_lt.1 Zw
      subst hje
      rw [dP,List.nil_append] at hΦ
      refine aB<|xE<|xE<|xY<|xB<|xT<|cR<|sV (aI Z Z Z0)<|sM Z<|sN<|nK [1,2,191,192,193] Z<|ax ?_
      refine aL (Zq,r,i+1) ⟨hE.trans hE2,hlt,by rw [hA]; exact hΦ⟩ (by dsimp only; omega)
    .have hie:i=S.c.pars.length:=Nat.le_antisymm hi<|Nat.not_lt.1 Zx
     subst hie
     rw [nH,List.nil_append] at hΦ
     rw [<- hT5] at hΦ
     refine aB<|xE<|xE<|xY<|xT<|cS<|cQ<|sV (vF Z gY Z)<|sV (vF Z eP Z)<|sV (vY Z lD) ?_
     refine sV (aC Z underlying39)<|sM Z<|sK [1,2,233,234,235] Z<|cB<|aY (σ := Res×Res×Nat) (λq=>[(1,.func (.yield yl) #[] #[]),(2,.pointer (some ⟨b2,0,none⟩)),(233,.slice cb S.c.pars.length ck),(234,.int .i64 S.c.pars.length),(235,.int .i64 (q.2.2:Nat))]) (λq=>pt b2 (cl [v,.map (some mb),sv S.c.name,.bool S.c.dfd,ca,.slice cb S.c.pars.length ck,ce,.slice cf S.c.feats.length cfk,ci,.slice mA S.ms.length mK,.map (some bm),.bool all] 206)::q.1::mps mb m::mps bm bmp::q.2.1::hr) (λq=>Ext X q.1/\q.2.2<=S.c.pars.length /\ Φ ((S.c.pars.drop q.2.2).flatMap (S.f5)++R) q.2.1) (λq=>S.c.pars.length - q.2.2) (Y,r,0) ⟨hE,Nat.zero_le _,hΦ⟩ ?_
     clear hΦ hE
     clear Y r
     rintro ⟨Y,r,i⟩ ⟨hE,hi,hΦ⟩
     simp only at hE hi hΦ
     dsimp only
     refine cQ<|sV (aO Z Z)<|sN<|nT<|cS<|cC Z (λhd=>?_)<|λhd=>?_
     .have hlt:i<S.c.pars.length:=Zx
      rw [eO hlt,List.append_assoc] at hΦ
      have hlis:=hB.lists<|List.getElem_mem hlt
      obtain ⟨pb,po,pcap,pus,e1,hpus,hprd,hp⟩:=(hK.par.up hE).at<|Zy hlt
      obtain ⟨rfl,rfl⟩:cb=some ⟨pb,po,none⟩/\ck=pcap:=by cases e1; exact ⟨rfl,rfl⟩
      generalize S.c.pars[i]=p at hΦ hlis hp
      generalize hA:(S.c.pars.drop (i+1)).flatMap (S.f5)++R=A at hΦ
      obtain ⟨hlR,hlU,hlD,hlS⟩:=hlis
      have hp0:=hp
      obtain ⟨pa,pr,pu,pd,pS,rfl,hpa,hpR,hpu,hpd,hpsel⟩:=hp
      obtain ⟨aA,kA,rfl,_⟩:=id hpa.form
      obtain ⟨aR,kR,rfl,_⟩:=id hpR.form
      obtain ⟨aU,kU,rfl,_⟩:=id hpu.form
      obtain ⟨aD,kD,rfl,_⟩:=id hpd.form
      obtain ⟨aS,kS,rfl,_⟩:=id hpsel.form
      refine cK<|xT<|cS<|cB<|cQ<|sV (vI (k:=i) Z Z lY Z hlt Z)<|sV (af Z oP Z hprd) ?_
      refine au vO λb29=>?_
      refine ai Z Z qU Z Z ?_
      have hΦ : Φ (p.red.flatMap (S.f5a p)++A) r:=hΦ
      refine sK [1,2,29,233,234,235] Z<|cQ<|sV (vF Z wV Z)<|sV (vY Z gq) ?_
      refine sV (aC Z underlying40)<|sM Z<|sK [1,2,29,233,234,235,240,241,242] Z<|cB<|aY (σ := Res×Res×Nat) (λq=>[(1,.func (.yield yl) #[] #[]),(2,.pointer (some ⟨b2,0,none⟩)),(233,.slice (some ⟨pb,po,none⟩) S.c.pars.length ck),(234,.int .i64 S.c.pars.length),(235,.int .i64 (i:Nat)),(29,.pointer (some ⟨b29,0,none⟩)),(240,.slice aD p.red.length kD),(241,.int .i64 p.red.length),(242,.int .i64 (q.2.2:Nat))]) (λq=>pt b29 (cl [sv p.name,.slice aA p.args.length kA,.slice aR p.ren.length kR,.slice aU p.und.length kU,.slice aD p.red.length kD,.slice aS p.sel.length kS] 88)::pt b2 (cl [v,.map (some mb),sv S.c.name,.bool S.c.dfd,ca,.slice (some ⟨pb,po,none⟩) S.c.pars.length ck,ce,.slice cf S.c.feats.length cfk,ci,.slice mA S.ms.length mK,.map (some bm),.bool all] 206)::q.1::mps mb m::mps bm bmp::q.2.1::hr) (λq=>Ext Y q.1/\q.2.2<=p.red.length /\ Φ ((p.red.drop q.2.2).flatMap (S.f5a p)++A) q.2.1) (λq=>p.red.length - q.2.2) (Y,r,0) ⟨Ext.refl Y,Nat.zero_le _,hΦ⟩ ?_
      clear hΦ
      rintro ⟨Zq,r,j⟩ ⟨hE2,hj,hΦ⟩
      simp only at hE2 hj hΦ
      dsimp only
      refine cQ<|sV (aO Z Z)<|sN<|nT<|cS<|cC Z (λhd2=>?_)<|λhd2=>?_
      .have hltj:j<p.red.length:=Zw
       rw [eO hltj,List.append_assoc] at hΦ
       have hEZ:=hE.trans hE2
       obtain ⟨nb,no,ncap,nus,e2,hnus,hnrd,hn⟩:=(hpd.up hE2).at<|Zy hltj
       obtain ⟨rfl,rfl⟩:aD=some ⟨nb,no,none⟩/\kD=ncap:=by cases e2; exact ⟨rfl,rfl⟩
       generalize p.red[j]=x at hΦ hn
       subst hn
       refine cK<|xT<|cS<|cB<|cQ<|sV (vI (k:=j) Z Z jG Z hltj Z)<|sV (vY Z ld9 (ha:=⟨_,_,slq,hnrd 0<|by simp⟩)) ?_
       refine sA Z<|sK [1,2,29,31,233,234,235,240,241,242] Z<|cQ<|sV (vF Z gY Z)<|sV (vF Z kW Z)<|sV (vY Z yK) ?_
       refine sM Z<|aH Z Z yg Z (je (n:=x)<|hK.feat.up hEZ) ?_
       rintro u h' ⟨rfl,gus,rfl,hgr⟩
       simp only [lC,lN]
       have hg15:gus.length=15:=Enc.len hgr
       have hgo:=Enc.ones hgr
       refine sM Z<|sV (ah Z Z)<|sV (ah Z Z) (au mg λb32=>?_)
       refine ai (hl:=by rw [hg15]; rfl) Z Z kE hg15 hgo ?_
       refine sA Z<|sK [1,2,29,31,33,233,234,235,240,241,242] Z<|cQ<|sM Z<|sV (bg Z)<|sM Z ?_
       have hmf:(S.c.feats.find? λc=>c.name == x)=feat S.c x:=rfl
       rw [hmf]
       unfold Sk.f5a at hΦ
       cases hq:feat S.c x
       .rw [hq] at hΦ
        have hΦ2 : Φ (S.cf 5 x ⟨p.name,x⟩ og0::((p.red.drop (j+1)).flatMap (S.f5a p)++A)) r:=hΦ
        refine sG Z Z (vM Z)<|sG Z Z (af Z fU Z ag) ?_
        refine sG Z Z (vM Z)<|sG Z Z (vF Z gV Z)<|sG Z Z (vY Z ld9) ?_
        refine sG Z Z (vM Z)<|sG Z Z (aP (cells:=[sv p.name,sv x]) Z<|λ_=>Zz) ?_
        refine sG Z Z (aP (cells:=[sv [],sv []]) Z<|λ_=>Zz) ?_
        refine bS Z Z Z Z kG Z (hcn 5 x ⟨p.name,x⟩ og0) ?_
        refine kQ (gd:=256) (.inr ⟨_,_,Z,Z,Z⟩) Z Z (hy _ _ _ hΦ2) ?_
        rintro u h' (⟨rfl,r',hΦ4,rfl⟩ | ⟨rfl,r',hst,rfl⟩)
        .simp only [lC,lN]
         refine sG Z Z (bg Z)<|sV (vQ Z Z)<|sK [1,2,29,233,234,235,240,241,242,268] Z<|aG Z ?_
         refine cK<|xB<|xT<|cR<|sV (aI Z Z Z0)<|sM Z<|sN<|nK [1,2,29,233,234,235,240,241,242] Z<|ax ?_
         refine aL (Zq,r',j+1) ⟨hE2,hltj,hΦ4⟩ (by dsimp only; omega)
        .simp only [lC,lN]
         refine sG Z Z (bg Z)<|sV (vQ Z Z)<|sK [1,2,29,233,234,235,240,241,242,268] Z<|aQ Z ?_
         refine cQ<|sA Z<|sK [4] Z<|cT<|xW<|xR<|xR<|xW<|xW<|xR<|xR<|xW<|xR ?_
         exact aj Z ⟨Zq,[mps mb m,mps bm bmp,r'],Z,hEZ,r',Z,.inr ⟨Z,_,hst⟩⟩ sbq
       .rw [hq] at hΦ
        have hΦ : Φ ((p.red.drop (j+1)).flatMap (S.f5a p)++A) r:=hΦ
        iterate 11 refine aF rfl rfl rfl ?_
        refine sV (vP Z Z)<|sK [1,2,29,233,234,235,240,241,242,268] Z<|aG Z ?_
        refine cK<|xB<|xT<|cR<|sV (aI Z Z Z0)<|sM Z<|sN<|nK [1,2,29,233,234,235,240,241,242] Z<|ax ?_
        refine aL (Zq,r,j+1) ⟨hE2,hltj,hΦ⟩ (by dsimp only; omega)
      .have hje:j=p.red.length:=Nat.le_antisymm hj<|Nat.not_lt.1 Zw
       subst hje
       rw [dP,List.nil_append] at hΦ
       refine aB<|xE<|xE<|xY<|xB<|xT<|cR<|sV (aI Z Z Z0)<|sM Z<|sN<|nK [1,2,233,234,235] Z<|ax ?_
       refine aL (Zq,r,i+1) ⟨hE.trans hE2,hlt,by rw [hA]; exact hΦ⟩ (by dsimp only; omega)
     .have hie:i=S.c.pars.length:=Nat.le_antisymm hi<|Nat.not_lt.1 Zx
      subst hie
      rw [dP,List.nil_append] at hΦ
      refine aB<|xE<|xE<|xY<|xT<|cQ<|sA Z<|sK [4] Z<|cT ?_
      exact aj Z ⟨Y,[mps mb m,mps bm bmp,r],Z,hE,r,Z,.inl ⟨Z,hΦ⟩⟩ sbq
end
end Go.Fl
namespace Go.Fl
open Go Go.RowKit Go.Ck Go.Proofs Go.Proofs.Tryz Go.Proofs.YtknmacdbffgjgaaGreatDoor Fx Go.Hr
namespace Sk
section
variable (s:Sk)
def rx (k:Nat) (n:Nm) (x:Cm):List Cf:=match feat s.c n with
 | none=>[]
 | some f=>if s.redK f x k then [s.cf (6+k) n x.og og0] else []
def rn (k:Nat) (n:Nm):List Cf:=(under s.cs n).flatMap (s.rx k n)
def rk (k:Nat):List Cf:=s.skeys.flatMap (s.rn k)
theorem redeclared_eq:s.redeclared=[0,1,2].flatMap s.rk:=by
 unfold redeclared
 refine dM λk _=>dM λn _=>?_
 unfold rn rx
 cases feat s.c n with
 | none=>simp
 | some f=>rfl
theorem keys_few {s:Sk} (hB:SkB s):(keys s.cs).length<=240:=Nat.le_trans (Bj s.cs) (hB.fits.few<|.inl hB.cls)
theorem skeys_len (s:Sk):s.skeys.length=(keys s.cs).length:=Nat.le_antisymm
 (aN (iR _).1.nodup λx hx=>((iR _).2 x).1 hx) (aN (iB _) λx hx=>((iR _).2 x).2 hx)
end
end Sk
def kcap (b:Nat) (k:Nat):Array Value:=if k=1 then #[.pointer (some ⟨b,0,none⟩)] else #[]
def kfun (b k:Nat):Value:=.func (.func (209+k)) #[] (kcap b k)
theorem kfun_at {b k:Nat} (h:k<3):([Value.func (.func 209) #[] #[],.func (.func 210) #[] #[.pointer (some ⟨b,0,none⟩)],.func (.func 211) #[] #[]]:List Value)[k]? = some (kfun b k):=by
 match k,h with
 | 0,_=>rfl
 | 1,_=>rfl
 | 2,_=>rfl
theorem en209k {k:Nat} (h:k<3):Ck.Enters prog (209+k):=by
 match k,h with
 | 0,_=>exact en209
 | 1,_=>exact en210
 | 2,_=>exact en211
attribute [local irreducible] Go.Ck.Sub St Cd Xt Nx DrL LsW
section
variable {X Y:Res} {v v':Value} {us us':List Value}
theorem redK_ct {S:Sk} {f:Fe} {x:Cm} {p:Pt} {b2 k:Nat} {pv:Value} (hk:k<3) (h:Enc.rep X us f) (h':Enc.rep X us' x) (hrd:Rd X ⟨b2,5,none⟩ pv) (hpv:Ls X pv S.c.pars) (hp:S.c.pars[x.par]? = some p) (hl:p.red.length<=1099511627776) :
  Reads prog (209+k) (#[]++([.agg us.toArray,.agg us'.toArray]:List Value).toArray++kcap b2 k) [X] (.bool<|S.redK f x k):=by
 have hpx:cO S.c x.par=p:=by unfold cO; rw [hp]; rfl
 match k,hk with
 | 0,_=>exact reads_nil (JL h h')
 | 1,_ =>
  have:=JQ h h' hrd hpv hp hl
  unfold Sk.redK
  rw [hpx]
  exact this
 | 2,_=>exact JM h h'

theorem Cn {yl mb bm : Nat} {Φ : List Cf -> Res -> Prop} {Stop : Cf -> Res -> Prop} (hy : Yh yl Φ Stop) {S : Sk} {all : Bool} (hall : S.all = all) {m bmp : List (Nm × Value)} {ca cb ce cf ci mv : Value} (hK : SkR X S v m ca cb ce cf ci mv bmp) (hB : SkB S) (hk0 : bmp.map (λp => p.1) = keys S.cs) (R : List Cf) (r0 : Res) (h0 : Φ (S.redeclared ++ R) r0) :
  CtX prog 129 #[.agg (fC v (.map<|some mb) S.c ca cb ce cf ci mv (.map<|some bm) all).toArray,.func (.yield yl) #[] #[]] X [mps mb m,mps bm bmp,r0] λu Y k'=>∃ r,k'=[mps mb m,mps bm bmp,r]/\Yend Φ Stop R u r:=by
 have hml:maxLen=9223372036854775807:=rfl
 obtain ⟨cb,ck,rfl,hckl,hckm,_⟩:=id hK.par.form
 obtain ⟨cf,cfk,rfl,_⟩:=id hK.feat.form
 obtain ⟨mA,mK,rfl,_⟩:=id hK.ms.form
 have hcn:=λb=>gD (fv:=.map<|some mb) (c:=S.c) (v:=v) (ca:=ca) (cb:=.slice cb S.c.pars.length ck) (ce:=ce) (cf:=.slice cf S.c.feats.length cfk) (ci:=ci) (mv:=.slice mA S.ms.length mK) (bv:=.map<|some bm) (all:=all) b
 have hfew:=Sk.keys_few hB
 have hsl:=Sk.skeys_len S
 have hbl:bmp.length=(keys S.cs).length:=by rw [<- hk0,List.length_map]
 have hnd:(bmp.map λp=>p.1).Nodup:=by rw [hk0]; exact iB _
 have hsk:srt (bmp.map λp=>p.1)=S.skeys:=by rw [hk0]; rfl
 rw [Sk.redeclared_eq] at h0
 unfold CtX
 unfold fC at *
 refine aJ (n:=72) func129 Z Z (len Z) λhr w0=>?_
 refine cQ (aV Z Z λb2=>?_)
 refine sA Z<|sK [1,2,4] Z<|cQ<|sV (bX Z Z) (ak (cells:=[.func (.func 209) #[] #[],.func (.func 210) #[] #[.pointer (some ⟨b2,0,none⟩)],.func (.func 211) #[] #[]]) Z underlying282 inf281 Z Z Zz (ltn Z) λb15=>?_)
 refine sA Z<|sK [1,2,4,5] Z<|cS<|cQ<|sM Z<|sV (aC Z underlying282)<|sM Z<|sK [1,2,4,16,17,18] Z<|cB<|aY (σ := Res×Nat) (λq=>[(1,.func (.yield yl) #[] #[]),(2,.pointer (some ⟨b2,0,none⟩)),(16,.slice (some ⟨b15,0,none⟩) 3 3),(17,.int .i64 ((3:Nat):Int)),(18,.int .i64 (q.2:Nat))]) (λq=>pt b15 (cl [.func (.func 209) #[] #[],.func (.func 210) #[] #[.pointer (some ⟨b2,0,none⟩)],.func (.func 211) #[] #[]] 281)::pt b2 (cl [v,.map (some mb),sv S.c.name,.bool S.c.dfd,ca,.slice cb S.c.pars.length ck,ce,.slice cf S.c.feats.length cfk,ci,.slice mA S.ms.length mK,.map (some bm),.bool all] 206)::X::mps mb m::mps bm bmp::q.1::hr) (λq=>q.2<=3 /\ Φ (([0,1,2].drop q.2).flatMap S.rk++R) q.1) (λq=>3 - q.2) (r0,0) ⟨Nat.zero_le _,h0⟩ ?_
 rintro ⟨r,k⟩ ⟨hk,hΦ⟩
 simp only at hk hΦ
 dsimp only
 refine cQ<|sV (aO Z Z)<|sN<|nT<|cS<|cC Z (λhd=>?_)<|λhd=>?_
 .have hlt:k<3:=by have:=of_decide_eq_true hd; omega
  rw [eO (xs:=[0,1,2]) hlt,List.append_assoc] at hΦ
  have hk3:([0,1,2]:List Nat)[k]=k:=by
   match k,hlt with
   | 0,_=>rfl
   | 1,_=>rfl
   | 2,_=>rfl
  rw [hk3] at hΦ
  generalize hA:([0,1,2].drop (k+1)).flatMap S.rk++R=A at hΦ
  have hΦ : Φ (S.skeys.flatMap (S.rn k)++A) r:=hΦ
  have hsk':=kfun_at (b:=b2) hlt
  refine cK<|xT<|cS<|cB<|cQ<|sM Z<|sV (vI (k:=k) Z Z sl282 Z hlt Z)<|sV (vY Z ld281 (ha:=⟨_,_,slq,bZ<|by simpa using hsk'⟩)) ?_
  refine sA Z<|sA Z<|sK [1,2,6,7,16,17,18] Z<|cQ<|sV (vF Z qf Z)<|sV (vY Z rJ) ?_
  refine aH Z Z en213 Z (uL) ?_
  rintro u h' ⟨b1,rfl,rfl⟩
  simp only [lC,lN]
  refine aH Z Z en212 Z (qB (by omega) hnd) ?_
  rintro u h' ⟨hu,rfl⟩
  simp only [lC,lN]
  rw [hsk]
  unfold NR
  refine jJ (v:=u) (E:=9) (sz:=1) (rows:=S.skeys.map nC) slq λwa wc hwf hwl hwm=>?_
  rw [List.length_map] at hwf hwl
  subst hwf
  unfold kfun
  refine sV (aC Z underlying40)<|sM Z<|sK [1,2,6,7,16,17,18,26,27,28] Z<|cB<|aY (σ := Res×Nat) (λq=>[(1,.func (.yield yl) #[] #[]),(2,.pointer (some ⟨b2,0,none⟩)),(16,.slice (some ⟨b15,0,none⟩) 3 3),(17,.int .i64 ((3:Nat):Int)),(18,.int .i64 (k:Nat)),(6,.int .i64 (k:Nat)),(7,.func (.func (209+k)) #[] (kcap b2 k)),(26,.slice wa S.skeys.length wc),(27,.int .i64 S.skeys.length),(28,.int .i64 (q.2:Nat))]) (λq=>VR (.slice wa S.skeys.length wc) 9 1 (S.skeys.map nC)::pt b15 (cl [.func (.func 209) #[] #[],.func (.func 210) #[] #[.pointer (some ⟨b2,0,none⟩)],.func (.func 211) #[] #[]] 281)::pt b2 (cl [v,.map (some mb),sv S.c.name,.bool S.c.dfd,ca,.slice cb S.c.pars.length ck,ce,.slice cf S.c.feats.length cfk,ci,.slice mA S.ms.length mK,.map (some bm),.bool all] 206)::X::mps mb m::mps bm bmp::q.1::hr) (λq=>q.2<=S.skeys.length /\ Φ ((S.skeys.drop q.2).flatMap (S.rn k)++A) q.1) (λq=>S.skeys.length - q.2) (r,0) ⟨Nat.zero_le _,hΦ⟩ ?_
  clear hΦ
  rintro ⟨r,j⟩ ⟨hj,hΦ⟩
  simp only at hj hΦ
  dsimp only
  refine cQ<|sV (aO Z Z)<|sN<|nT<|cS<|cC Z (λhd2=>?_)<|λhd2=>?_
  .have hltj:j<S.skeys.length:=Zw
   rw [eO hltj,List.append_assoc] at hΦ
   have hnx:(S.skeys.map nC)[j]? = some [sv S.skeys[j]]:=by rw [List.getElem?_map,Zy hltj]; rfl
   refine fD (r:=VR (.slice wa S.skeys.length wc) 9 1<|S.skeys.map nC) slq λhok=>?_
   obtain ⟨ab,ao,rfl⟩:∃ ab ao,wa=some ⟨ab,ao,none⟩:=by
    obtain ⟨f0,hf0⟩:=hok
    rcases VR.form hf0 with ⟨h3,h4⟩ | ⟨b,o,cp,h3,-⟩
    .have:=List.map_eq_nil_iff.1 h4
     rw [this] at hltj; simp at hltj
    .rw [List.length_map] at h3; cases h3; exact ⟨b,o,rfl⟩
   generalize S.skeys[j]=n at hΦ hnx
   generalize hA2:(S.skeys.drop (j+1)).flatMap (S.rn k)++A=A2 at hΦ
   have hΦ : Φ ((under S.cs n).flatMap (S.rx k n)++A2) r:=hΦ
   have hul:=hB.under n
   have hun:=hK.by' n
   have hpar:∀ x∈under S.cs n,∃ p,S.c.pars[x.par]? = some p/\p.red.length<=1099511627776:=λx hx=>by
    obtain ⟨p,hp,-⟩:=gz (List.mem_filter.1 hx).1
    exact ⟨p,hp,by have:=(hB.lists<|List.mem_of_getElem? hp).2.2.1; omega⟩
   obtain ⟨la,lc,hlv,hlc,-,-⟩:=id hun.form
   refine cK<|xT<|cS<|cB<|cQ<|sV (vI (k:=j) Z Z jG Z hltj Z)<|sV (vY Z ld9 (ha:=⟨_,_,slq,dU hnx 0<|by simp⟩)) ?_
   refine sA Z<|sK [1,2,6,7,9,16,17,18,26,27,28] Z<|cQ<|sV (vF Z gY Z)<|sV (vF Z kW Z)<|sV (vY Z yK) ?_
   refine sM Z<|aH Z Z yg Z (je (n:=n) hK.feat) ?_
   rintro u h' ⟨rfl,gus,rfl,hgr⟩
   simp only [lC,lN]
   have hg15:gus.length=15:=Enc.len hgr
   have hgo:=Enc.ones hgr
   refine sM Z<|sV (ah Z Z)<|sV (ah Z Z) (au mg λb10=>?_)
   refine ai (hl:=by rw [hg15]; rfl) Z Z kE hg15 hgo ?_
   have hmf:(S.c.feats.find? λc=>c.name == n)=feat S.c n:=rfl
   rw [hmf]
   rw [hmf] at hgr
   refine sA Z<|sK [1,2,6,7,9,10,11,16,17,18,26,27,28] Z<|cQ<|sV (vF Z qf Z)<|sV (vY Z rJ) ?_
   refine sM Z ?_
   rw [hlv] at hun
   refine sV (gM hlv<|bP Z Z tH ug slq) ?_
   refine sV (aC Z underlying187)<|sM Z<|sK [1,2,6,7,9,10,11,16,17,18,26,27,28,43,44,45] Z<|cB<|aY (σ := Res×Nat) (λq=>[(1,.func (.yield yl) #[] #[]),(2,.pointer (some ⟨b2,0,none⟩)),(16,.slice (some ⟨b15,0,none⟩) 3 3),(17,.int .i64 ((3:Nat):Int)),(18,.int .i64 (k:Nat)),(6,.int .i64 (k:Nat)),(7,.func (.func (209+k)) #[] (kcap b2 k)),(26,.slice (some ⟨ab,ao,none⟩) S.skeys.length wc),(27,.int .i64 S.skeys.length),(28,.int .i64 (j:Nat)),(9,sv n),(10,.pointer (some ⟨b10,0,none⟩)),(11,.bool (feat S.c n).isSome),(43,.slice la (under S.cs n).length lc),(44,.int .i64 (under S.cs n).length),(45,.int .i64 (q.2:Nat))]) (λq=>pt b10 (cl gus 130)::VR (.slice (some ⟨ab,ao,none⟩) S.skeys.length wc) 9 1 (S.skeys.map nC)::pt b15 (cl [.func (.func 209) #[] #[],.func (.func 210) #[] #[.pointer (some ⟨b2,0,none⟩)],.func (.func 211) #[] #[]] 281)::pt b2 (cl [v,.map (some mb),sv S.c.name,.bool S.c.dfd,ca,.slice cb S.c.pars.length ck,ce,.slice cf S.c.feats.length cfk,ci,.slice mA S.ms.length mK,.map (some bm),.bool all] 206)::X::mps mb m::mps bm bmp::q.1::hr) (λq=>q.2<=(under S.cs n).length /\ Φ (((under S.cs n).drop q.2).flatMap (S.rx k n)++A2) q.1) (λq=>(under S.cs n).length - q.2) (r,0) ⟨Nat.zero_le _,hΦ⟩ ?_
   clear hΦ
   generalize hL:under S.cs n=L at hun hpar hul
   rintro ⟨r,i⟩ ⟨hi,hΦ⟩
   simp only at hi hΦ
   dsimp only
   refine cQ<|sV (aO Z Z)<|sN<|nT<|cS<|cC Z (λhd3=>?_)<|λhd3=>?_
   .have hlti:i<L.length:=Zr
    rw [eO hlti,List.append_assoc] at hΦ
    have hpx:=hpar _<|List.getElem_mem hlti
    obtain ⟨cb',co,ccap,cus,e4,hcus,hcrd,hcr⟩:=hun.at<|Zy hlti
    obtain ⟨rfl,rfl⟩:la=some ⟨cb',co,none⟩/\lc=ccap:=by cases e4; exact ⟨rfl,rfl⟩
    generalize L[i]=y at hΦ hcr hpx
    obtain ⟨p,hpp,hprl⟩:=hpx
    have hcr0:=hcr
    have hyo:=Enc.ones hcr
    obtain ⟨y2,y5,yy,y11,y12,y13,rfl,-⟩:=iD hcr
    have hogy:=λb=>oC (b:=b) (x:=y) (x2:=y2) (x5:=y5) (y:=yy) (x11:=y11) (x12:=y12) (x13:=y13)
    unfold pE at *
    refine cK<|xT<|cS<|cB<|cQ<|sV (vI (k:=i) Z Z lZ Z hlti Z)<|sV (af Z ik Z hcrd) ?_
    refine au rP λb13=>?_
    refine ai Z Z mY Z hyo ?_
    refine sK [1,2,6,7,9,10,11,13,16,17,18,26,27,28,43,44,45] Z<|cQ<|sM Z<|sM Z ?_
    cases hq:feat S.c n
    .have hrx:S.rx k n y=[]:=by unfold Sk.rx; rw [hq]
     rw [hrx,List.nil_append] at hΦ
     iterate 4 refine aF rfl rfl rfl ?_
     refine sV (vP Z Z)<|sM Z<|aF Z Z Z ?_
     iterate 10 refine aF rfl rfl rfl ?_
     refine sV (vP Z Z)<|sK [1,2,6,7,9,10,11,16,17,18,26,27,28,43,44,45,68] Z<|aG Z ?_
     refine cK<|xB<|xT<|cR<|sV (aI Z Z Z0)<|sM Z<|sN<|nK [1,2,6,7,9,10,11,16,17,18,26,27,28,43,44,45] Z<|ax ?_
     refine aL (r,i+1) ⟨hlti,hΦ⟩ (by dsimp only; omega)
    .rename_i f
     have hrx:S.rx k n y=if S.redK f y k then [S.cf (6+k) n y.og og0] else []:=by unfold Sk.rx; rw [hq]
     rw [hrx] at hΦ
     have hgr:Enc.rep X gus f:=by rw [hq] at hgr; exact hgr
     have hrk:=redK_ct (b2:=b2) hlt (Enc.up (bL<|.there .here) hgr) (Enc.up (bL<|.there .here) hcr0) (X:=Res.star [pt b2 (cl [v,.map (some mb),sv S.c.name,.bool S.c.dfd,ca,.slice cb S.c.pars.length ck,ce,.slice cf S.c.feats.length cfk,ci,.slice mA S.ms.length mK,.map (some bm),.bool all] 206),X]) (bL .here _ _<|bZ rfl) (hK.par.up'<|bL<|.there .here) hpp hprl
     have hrk:=dS hrk
     unfold pE at hrk
     refine sG Z Z (vM Z)<|sG Z Z (af Z oQ hg15 ag) ?_
     refine sG Z Z (af Z ik Z ag) ?_
     refine bS Z Z Z Z (en209k hlt) Z (hrk) ?_
     refine sV (vQ Z Z)<|sM Z ?_
     generalize S.redK f y k=bq at hΦ
     cases bq
     .have hΦ : Φ ((L.drop (i+1)).flatMap (S.rx k n)++A2) r:=hΦ
      iterate 11 refine aF rfl rfl rfl ?_
      refine sV (vP Z Z)<|sK [1,2,6,7,9,10,11,16,17,18,26,27,28,43,44,45,68] Z<|aG Z ?_
      refine cK<|xB<|xT<|cR<|sV (aI Z Z Z0)<|sM Z<|sN<|nK [1,2,6,7,9,10,11,16,17,18,26,27,28,43,44,45] Z<|ax ?_
      refine aL (r,i+1) ⟨hlti,hΦ⟩ (by dsimp only; omega)
     .have hΦ2 : Φ (S.cf (6+k) n y.og og0::((L.drop (i+1)).flatMap (S.rx k n)++A2)) r:=hΦ
      refine sG Z Z (vM Z)<|sG Z Z (af Z fU Z ag) ?_
      refine sG Z Z (vM Z)<|sG Z Z (aI Z Z Z0)<|sG Z Z (vM Z)<|sG Z Z (vF Z jH Z)<|sG Z Z (af Z qW Z (hogy b13) (s:=.here)) ?_
      refine sG Z Z (aP (cells:=[sv [],sv []]) Z<|λ_=>Zz) ?_
      refine bS Z Z Z Z kG Z (hcn (6+(k:Nat)) n y.og og0) ?_
      refine kQ (gd:=56) (.inr ⟨_,_,Z,Z,Z⟩) Z Z (hy _ _ _ hΦ2) ?_
      rintro u h' (⟨rfl,r',hΦ4,rfl⟩ | ⟨rfl,r',hst,rfl⟩)
      .simp only [lC,lN]
       refine sG Z Z (bg Z)<|sV (vQ Z Z)<|sK [1,2,6,7,9,10,11,16,17,18,26,27,28,43,44,45,68] Z<|aG Z ?_
       refine cK<|xB<|xT<|cR<|sV (aI Z Z Z0)<|sM Z<|sN<|nK [1,2,6,7,9,10,11,16,17,18,26,27,28,43,44,45] Z<|ax ?_
       refine aL (r',i+1) ⟨hlti,hΦ4⟩ (by dsimp only; omega)
      .simp only [lC,lN]
       refine sG Z Z (bg Z)<|sV (vQ Z Z)<|sK [1,2,6,7,9,10,11,16,17,18,26,27,28,43,44,45,68] Z<|aQ Z ?_
       refine cQ<|sA Z<|sK [4] Z<|cT<|xW<|xR<|xR<|xW<|xW<|xR<|xR<|xW<|xW ?_
       refine xR<|xR<|xW<|xR ?_
       exact aj Z ⟨X,[mps mb m,mps bm bmp,r'],Z,Ext.refl X,r',Z,.inr ⟨Z,_,hst⟩⟩ sbq
   .have hend:i=L.length:=Nat.le_antisymm hi<|Nat.not_lt.1 Zr
    subst hend
    rw [dP,List.nil_append] at hΦ
    refine aB<|xE<|xE<|xY<|xB<|xT<|cR<|sV (aI Z Z Z0)<|sM Z<|sN<|nK [1,2,6,7,16,17,18,26,27,28] Z<|ax ?_
    refine aL (r,j+1) ⟨hltj,by rw [hA2]; exact hΦ⟩ (by dsimp only; omega)
  .have hend:j=S.skeys.length:=Nat.le_antisymm hj<|Nat.not_lt.1 Zw
   subst hend
   rw [dP,List.nil_append] at hΦ
   refine aB<|xE<|xE<|xY<|xB<|xT<|cR<|sV (aI Z Z Z0)<|sM Z<|sN<|nK [1,2,16,17,18] Z<|ax ?_
   refine aL (r,k+1) ⟨hlt,by rw [hA]; exact hΦ⟩ (by dsimp only; omega)
 .have hend:k=3:=by have:=of_decide_eq_false hd; omega
  subst hend
  have hΦ : Φ R r:=hΦ
  refine aB<|xE<|xE<|xY<|xT<|cQ<|sA Z<|sK [4] Z<|cT ?_
  exact aj Z ⟨X,[mps mb m,mps bm bmp,r],Z,Ext.refl X,r,Z,.inl ⟨Z,hΦ⟩⟩ sbq
end
end Go.Fl
namespace Go.Ck
open Go Go.RowKit
theorem v_bneq {P:Program} {e:Env} {h:SH} {ty t t':TypeId} {x y:Operand} {a b:Bool} (hT:P.underlying t=some .bool) (hx:e.ev? x=some (.bool a)) (hy:e.ev? y=some (.bool b)):Vop P e h (.binOp .neq t x y t') ty (.bool (a != b)):=
 ⟨by simp,by simp,λρ w d pos after g hρ _=>by simp [execOp,hρ x _ hx,hρ y _ hy,eqGuard,binOp,bne,run_equal_bool w t a b hT]⟩
end Go.Ck
namespace Go.Fl
open Go Go.RowKit Go.Ck Go.Proofs Go.Proofs.Tryz Go.Proofs.YtknmacdbffgjgaaGreatDoor Fx Go.Hr
namespace Sk
section
variable (s:Sk)
def t1x (n:Nm) (x:Cm):List Cf:=match feat s.c n with
 | none=>let y:=((under s.cs n).head?).getD x
  if sameTy y.mem x.mem then [] else [s.cf 9 n y.og x.og]
 | some f=>if decide (f.args=x.mem.args) && ((f.ty.kind == 0) == (x.mem.ty.kind == 0)) then [] else [s.cf 9 n ⟨[],n⟩ x.og]
def t1 (n:Nm):List Cf:=(under s.cs n).flatMap (s.t1x n)
def t2 (n:Nm):List Cf:=if (feat s.c n).isSome then [] else s.cpairs (under s.cs n) 10 λa b=>(!a.dfd && !b.dfd) && !same a.mem b.mem
theorem typed_eq:s.typed=s.skeys.flatMap s.t1++s.skeys.flatMap s.t2:=rfl
end
end Sk
attribute [local irreducible] Go.Ck.Sub St Cd Xt Nx DrL LsW
section
variable {X Y:Res} {v v':Value} {us us':List Value}

theorem O9 {yl mb bm : Nat} {Φ : List Cf -> Res -> Prop} {Stop : Cf -> Res -> Prop} (hy : Yh yl Φ Stop) {S : Sk} {all : Bool} (hall : S.all = all) {m bmp : List (Nm × Value)} {ca cb ce cf ci mv : Value} (hK : SkR X S v m ca cb ce cf ci mv bmp) (hB : SkB S) (hk0 : bmp.map (λp => p.1) = keys S.cs) (R : List Cf) (r0 : Res) (h0 : Φ (S.typed ++ R) r0) :
  CtX prog 130 #[.agg (fC v (.map<|some mb) S.c ca cb ce cf ci mv (.map<|some bm) all).toArray,.func (.yield yl) #[] #[]] X [mps mb m,mps bm bmp,r0] λu Y k'=>∃ r,k'=[mps mb m,mps bm bmp,r]/\Yend Φ Stop R u r:=by
 have hml:maxLen=9223372036854775807:=rfl
 obtain ⟨cb,ck,rfl,hckl,hckm,_⟩:=id hK.par.form
 obtain ⟨cf,cfk,rfl,_⟩:=id hK.feat.form
 obtain ⟨mA,mK,rfl,_⟩:=id hK.ms.form
 have hcn:=λb=>gD (fv:=.map<|some mb) (c:=S.c) (v:=v) (ca:=ca) (cb:=.slice cb S.c.pars.length ck) (ce:=ce) (cf:=.slice cf S.c.feats.length cfk) (ci:=ci) (mv:=.slice mA S.ms.length mK) (bv:=.map<|some bm) (all:=all) b
 have hfew:=Sk.keys_few hB
 have hsl:=Sk.skeys_len S
 have hbl:bmp.length=(keys S.cs).length:=by rw [<- hk0,List.length_map]
 have hnd:(bmp.map λp=>p.1).Nodup:=by rw [hk0]; exact iB _
 have hsk:srt (bmp.map λp=>p.1)=S.skeys:=by rw [hk0]; rfl
 rw [Sk.typed_eq,List.append_assoc] at h0
 generalize hT:S.skeys.flatMap S.t2++R=T at h0
 unfold CtX
 unfold fC at *
 refine aJ (n:=120) func130 Z Z (len Z) λhr w0=>?_
 refine cQ (aV Z Z λb2=>?_)
 refine sA Z<|sK [1,2,4] Z<|cS<|cQ<|sV (vF Z qf Z)<|sV (vY Z rJ) ?_
 refine aH Z Z en213 Z (uL) ?_
 rintro u h' ⟨b1,rfl,rfl⟩
 simp only [lC,lN]
 refine aH Z Z en212 Z (qB (by omega) hnd) ?_
 rintro u h' ⟨hu,rfl⟩
 simp only [lC,lN]
 rw [hsk]
 unfold NR
 refine jJ (v:=u) (E:=9) (sz:=1) (rows:=S.skeys.map nC) slq λwa wc hwf hwl hwm=>?_
 rw [List.length_map] at hwf hwl
 subst hwf
 refine sV (aC Z underlying40)<|sM Z<|sK [1,2,4,21,22,23] Z<|cB<|aY (σ := Res×Nat) (λq=>[(1,.func (.yield yl) #[] #[]),(2,.pointer (some ⟨b2,0,none⟩)),(21,.slice wa S.skeys.length wc),(22,.int .i64 S.skeys.length),(23,.int .i64 (q.2:Nat))]) (λq=>VR (.slice wa S.skeys.length wc) 9 1 (S.skeys.map nC)::pt b2 (cl [v,.map (some mb),sv S.c.name,.bool S.c.dfd,ca,.slice cb S.c.pars.length ck,ce,.slice cf S.c.feats.length cfk,ci,.slice mA S.ms.length mK,.map (some bm),.bool all] 206)::X::mps mb m::mps bm bmp::q.1::hr) (λq=>q.2<=S.skeys.length /\ Φ ((S.skeys.drop q.2).flatMap (S.t1)++T) q.1) (λq=>S.skeys.length - q.2) (r0,0) ⟨Nat.zero_le _,h0⟩ ?_
 rintro ⟨r,j⟩ ⟨hj,hΦ⟩
 simp only at hj hΦ
 dsimp only
 refine cQ<|sV (aO Z Z)<|sN<|nT<|cS<|cC Z (λhd2=>?_)<|λhd2=>?_
 .have hltj:j<S.skeys.length:=Zw
  rw [eO hltj,List.append_assoc] at hΦ
  have hnx:(S.skeys.map nC)[j]? = some [sv S.skeys[j]]:=by rw [List.getElem?_map,Zy hltj]; rfl
  refine fD (r:=VR (.slice wa S.skeys.length wc) 9 1<|S.skeys.map nC) slq λhok=>?_
  obtain ⟨ab,ao,rfl⟩:∃ ab ao,wa=some ⟨ab,ao,none⟩:=by
   obtain ⟨f0,hf0⟩:=hok
   rcases VR.form hf0 with ⟨h3,h4⟩ | ⟨b,o,cp,h3,-⟩
   .have:=List.map_eq_nil_iff.1 h4
    rw [this] at hltj; simp at hltj
   .rw [List.length_map] at h3; cases h3; exact ⟨b,o,rfl⟩
  generalize S.skeys[j]=n at hΦ hnx
  generalize hA2:(S.skeys.drop (j+1)).flatMap (S.t1)++T=A2 at hΦ
  have hul:=hB.under n
  have hun:=hK.by' n
  obtain ⟨la,lc,hlv,hlc,-,-⟩:=id hun.form
  rw [hlv] at hun
  have hΦ : Φ ((under S.cs n).flatMap (S.t1x n)++A2) r:=hΦ
  refine cK<|xT<|cS<|cB<|cQ<|sV (vI (k:=j) Z Z jG Z hltj Z)<|sV (vY Z ld9 (ha:=⟨_,_,slq,dU hnx 0<|by simp⟩)) ?_
  refine sA Z<|sK [1,2,6,21,22,23] Z<|cQ<|sV (vF Z qf Z)<|sV (vY Z rJ) ?_
  refine sM Z<|sV (gM hlv<|bP Z Z tH ug slq) ?_
  refine sA Z<|sK [1,2,6,7,21,22,23] Z<|cQ<|sV (vF Z gY Z)<|sV (vF Z kW Z)<|sV (vY Z yK) ?_
  refine sM Z<|aH Z Z yg Z (je (n:=n) hK.feat) ?_
  rintro u h' ⟨rfl,gus,rfl,hgr⟩
  simp only [lC,lN]
  have hg15:gus.length=15:=Enc.len hgr
  have hgo:=Enc.ones hgr
  have hmf:(S.c.feats.find? λc=>c.name == n)=feat S.c n:=rfl
  rw [hmf]
  rw [hmf] at hgr
  generalize hf0:(feat S.c n).getD fe0=f0 at hgr
  obtain ⟨g2,g3,gy,g9,g10,g11,g12,g13,g14,rfl,hg2,hg3,-⟩:=oz hgr
  obtain ⟨ga3,gk3,rfl,_⟩:=id hg3.form
  unfold Be at *
  refine sM Z<|sV (ah Z Z)<|sV (ah Z Z) (au mg λb8=>?_)
  refine ai Z Z kE Z hgo ?_
  refine sA Z<|sK [1,2,6,7,8,9,21,22,23] Z<|cQ<|sM Z<|sV (aC Z underlying187)<|sM Z<|sN<|nT<|cB<|aY (σ := Res×Nat) (λq=>[(1,.func (.yield yl) #[] #[]),(2,.pointer (some ⟨b2,0,none⟩)),(21,.slice (some ⟨ab,ao,none⟩) S.skeys.length wc),(22,.int .i64 S.skeys.length),(23,.int .i64 (j:Nat)),(6,sv n),(7,.slice la (under S.cs n).length lc),(8,.pointer (some ⟨b8,0,none⟩)),(9,.bool (feat S.c n).isSome),(39,.slice la (under S.cs n).length lc),(40,.int .i64 (under S.cs n).length),(41,.int .i64 (q.2:Nat))]) (λq=>pt b8 (cl [.int .i64 f0.kind,sv f0.name,g2,.slice ga3 f0.args.length gk3,.int .i64 f0.ty.kind,sv f0.ty.name,gy,.bool f0.ty.void,.bool f0.ty.sep,g9,g10,g11,g12,g13,g14] 130)::VR (.slice (some ⟨ab,ao,none⟩) S.skeys.length wc) 9 1 (S.skeys.map nC)::pt b2 (cl [v,.map (some mb),sv S.c.name,.bool S.c.dfd,ca,.slice cb S.c.pars.length ck,ce,.slice cf S.c.feats.length cfk,ci,.slice mA S.ms.length mK,.map (some bm),.bool all] 206)::X::mps mb m::mps bm bmp::q.1::hr) (λq=>q.2<=(under S.cs n).length /\ Φ (((under S.cs n).drop q.2).flatMap (S.t1x n)++A2) q.1) (λq=>(under S.cs n).length - q.2) (r,0) ⟨Nat.zero_le _,hΦ⟩ ?_
  clear hΦ
  have ht1:∀ x,S.t1x n x=match feat S.c n with
    | none=>if Sk.sameTy (((under S.cs n).head?).getD x).mem x.mem then [] else [S.cf 9 n (((under S.cs n).head?).getD x).og x.og]
    | some f=>if decide (f.args=x.mem.args) && ((f.ty.kind == 0) == (x.mem.ty.kind == 0)) then [] else [S.cf 9 n ⟨[],n⟩ x.og]:=λx=>rfl
  generalize hL:under S.cs n=L at hun hul ht1
  rintro ⟨r,i⟩ ⟨hi,hΦ⟩
  simp only at hi hΦ
  dsimp only
  refine cQ<|sV (aO Z Z)<|sN<|nT<|cS<|cC Z (λhd3=>?_)<|λhd3=>?_
  .have hlti:i<L.length:=Zr
   rw [eO hlti,List.append_assoc] at hΦ
   have h00:0<L.length:=by omega
   obtain ⟨cb',co,ccap,cus,e4,hcus,hcrd,hcr⟩:=hun.at<|Zy hlti
   obtain ⟨rfl,rfl⟩:la=some ⟨cb',co,none⟩/\lc=ccap:=by cases e4; exact ⟨rfl,rfl⟩
   obtain ⟨db',dO,dcap,dus,e5,hdus,hdrd,hdr⟩:=hun.at<|Zy h00
   obtain ⟨rfl,rfl⟩:cb'=db'/\co=dO:=by cases e5; exact ⟨rfl,rfl⟩
   have hhead:∀ x,(L.head?).getD x=L[0]:=λx=>by
    cases L with
    | nil=>simp at h00
    | cons a t=>rfl
   simp only [hhead] at ht1
   generalize L[0]=z at ht1 hdr
   generalize L[i]=y at hΦ hcr
   rw [ht1 y] at hΦ
   have hyo:=Enc.ones hcr
   obtain ⟨y2,y5,yy,y11,y12,y13,rfl,hym⟩:=iD hcr
   obtain ⟨z2,z5,zy,z11,z12,z13,rfl,hzm⟩:=iD hdr
   have hst:=xq (qP hzm)<|qP hym
   have hogz:Rds X cb' (co+0 * 18+0) [sv z.og.par,sv z.og.name]:=bF (k:=0) hdrd rfl
   have hmz:Rds X cb' (co+0 * 18+3) (iC z.mem z2 z5 zy z11 z12 z13):=bF (k:=3) hdrd rfl
   have hmy:=λb=>JJ (b:=b) (x:=y) (x2:=y2) (x5:=y5) (y:=yy) (x11:=y11) (x12:=y12) (x13:=y13)
   have hogy:=λb=>oC (b:=b) (x:=y) (x2:=y2) (x5:=y5) (y:=yy) (x11:=y11) (x12:=y12) (x13:=y13)
   obtain ⟨hy2,hy5,-⟩:=id hym
   obtain ⟨ya5,yk5,rfl,_⟩:=id hy5.form
   unfold pE iC at *
   refine cK<|xT<|cS<|cB<|cQ<|sV (vI (k:=i) Z Z lZ Z hlti Z)<|sV (af Z ik Z hcrd) ?_
   refine au rP λb11=>?_
   refine ai Z Z mY Z hyo ?_
   refine sK [1,2,6,7,8,9,11,21,22,23,39,40,41] Z<|cS<|bC (ork [(0,2),(1,2),(2,2),(3,1),(4,2),(5,2),(6,2),(7,1),(8,2),(9,1),(10,1),(11,2),(12,0),(13,0),(14,2)] .nil) (λi => !(Nat.beq i 13)) mixed Zz ?_
   refine dV Z (vM Z)<|dV Z (vI (k:=0) Z Z lZ Z h00 Z)<|dV Z (vF Z jH Z)<|bu Z (af Z qW Z hogz) ?_
   refine dV Z (vM Z)<|dV Z (vI (k:=0) Z Z lZ Z h00 Z)<|dV Z (vF Z ed Z)<|bu Z (af Z fE Z hmz) ?_
   refine dV Z (vF Z ed Z)<|bu Z (af Z fE Z<|hmy b11) ?_
   refine jE Z Z Z KO Z (hst) ?_
   refine dV Z (bg Z)<|aT Z (au al24 λb12=>aW ?_)
   refine aT Z<|ai Z Z sz24 Z Z<|aW ?_
   refine dV Z (vA Z)<|bB<|nK [1,2,6,7,8,9,11,12,13,21,22,23,39,40,41] Z<|nT<|cS<|cQ<|sM Z<|sN<|nT ?_
   cases hq:feat S.c n
   .simp only [hq] at hΦ
    generalize Sk.sameTy z.mem y.mem=bq at hΦ ⊢
    refine aG Z ?_
    refine cK<|xT<|cQ<|sM Z<|sM Z ?_
    cases bq
    .have hΦ2 : Φ (S.cf 9 n z.og y.og::((L.drop (i+1)).flatMap (S.t1x n)++A2)) r:=hΦ
     refine sG Z Z (vM Z)<|sG Z Z (af Z fU Z ag) ?_
     refine sG Z Z (vM Z)<|sG Z Z (af Z qW Z ag) ?_
     refine sG Z Z (vF Z jH Z)<|sG Z Z (af Z qW Z<|hogy b11) ?_
     refine bS Z Z Z Z kG Z (hcn 9 n z.og y.og) ?_
     refine kQ (gd:=80) (.inr ⟨_,_,Z,Z,Z⟩) Z Z (hy _ _ _ hΦ2) ?_
     rintro u h' (⟨rfl,r',hΦ4,rfl⟩ | ⟨rfl,r',hst,rfl⟩)
     .simp only [lC,lN]
      refine sG Z Z (bg Z)<|sV (vQ Z Z)<|sK [1,2,6,7,8,9,21,22,23,39,40,41,90] Z<|aG Z ?_
      refine cK<|xB<|xT<|cR<|sV (aI Z Z Z0)<|sM Z<|sN<|nK [1,2,6,7,8,9,21,22,23,39,40,41] Z<|ax ?_
      refine aL (r',i+1) ⟨hlti,hΦ4⟩ (by dsimp only; omega)
     .simp only [lC,lN]
      refine sG Z Z (bg Z)<|sV (vQ Z Z)<|sK [1,2,6,7,8,9,21,22,23,39,40,41,90] Z<|aQ Z ?_
      refine cQ<|sA Z<|sK [4] Z<|cT<|xW<|xR<|xR<|xW<|xW<|xR<|xR<|xW<|xR ?_
      exact aj Z ⟨X,[mps mb m,mps bm bmp,r'],Z,Ext.refl X,r',Z,.inr ⟨Z,_,hst⟩⟩ sbq
    .have hΦ : Φ ((L.drop (i+1)).flatMap (S.t1x n)++A2) r:=hΦ
     iterate 9 refine aF rfl rfl rfl ?_
     refine sV (vP Z Z)<|sK [1,2,6,7,8,9,21,22,23,39,40,41,90] Z<|aG Z ?_
     refine cK<|xB<|xT<|cR<|sV (aI Z Z Z0)<|sM Z<|sN<|nK [1,2,6,7,8,9,21,22,23,39,40,41] Z<|ax ?_
     refine aL (r,i+1) ⟨hlti,hΦ⟩ (by dsimp only; omega)
   .rename_i f
    obtain rfl:f=f0:=by rw [hq] at hf0; exact hf0
    simp only [hq] at hΦ
    refine aQ Z ?_
    refine cQ<|sM Z<|sV (aP (cells:=[sv [],sv n]) Z<|λ_=>Zz) ?_
    refine ai Z Z sz24 Z Z ?_
    refine sK [1,2,6,7,8,9,11,12,13,21,22,23,39,40,41] Z<|cR<|sV (vF Z sH Z)<|sV (vY Z rF) ?_
    refine sV (vF Z ed Z)<|sV (vF Z jW Z)<|sV (vY Z rF) ?_
    refine bf Z Z en215 Z (DF en216 hg3 hy5<|λa b us us' _ h h'=>GX h h') ?_
    refine sV (bg Z)<|sM Z ?_
    generalize decide (f.args=y.mem.args)=b1q at hΦ ⊢
    cases b1q
    .have hΦ2 : Φ (S.cf 9 n ⟨[],n⟩ y.og::((L.drop (i+1)).flatMap (S.t1x n)++A2)) r:=hΦ
     iterate 10 refine aF rfl rfl rfl ?_
     refine sV (vQ Z Z)<|sA Z<|sK [1,2,6,7,8,9,11,12,13,21,22,23,39,40,41] Z<|cQ<|sM Z<|sM Z<|sG Z Z (vM Z)<|sG Z Z (af Z fU Z ag) ?_
     refine sG Z Z (vM Z)<|sG Z Z (af Z qW Z ag) ?_
     refine sG Z Z (vF Z jH Z)<|sG Z Z (af Z qW Z<|hogy b11) ?_
     refine bS Z Z Z Z kG Z (hcn 9 n ⟨[],n⟩ y.og) ?_
     refine kQ (gd:=80) (.inr ⟨_,_,Z,Z,Z⟩) Z Z (hy _ _ _ hΦ2) ?_
     rintro u h' (⟨rfl,r',hΦ4,rfl⟩ | ⟨rfl,r',hst,rfl⟩)
     .simp only [lC,lN]
      refine sG Z Z (bg Z)<|sV (vQ Z Z)<|sK [1,2,6,7,8,9,21,22,23,39,40,41,90] Z<|aG Z ?_
      refine cK<|xB<|xT<|cR<|sV (aI Z Z Z0)<|sM Z<|sN<|nK [1,2,6,7,8,9,21,22,23,39,40,41] Z<|ax ?_
      refine aL (r',i+1) ⟨hlti,hΦ4⟩ (by dsimp only; omega)
     .simp only [lC,lN]
      refine sG Z Z (bg Z)<|sV (vQ Z Z)<|sK [1,2,6,7,8,9,21,22,23,39,40,41,90] Z<|aQ Z ?_
      refine cQ<|sA Z<|sK [4] Z<|cT<|xW<|xR<|xR<|xW<|xW<|xR<|xR<|xW<|xR ?_
      exact aj Z ⟨X,[mps mb m,mps bm bmp,r'],Z,Ext.refl X,r',Z,.inr ⟨Z,_,hst⟩⟩ sbq
    .refine sG Z Z (vF Z yX Z)<|sG Z Z (vF Z rM Z)<|sG Z Z (vY Z ld3) ?_
     refine sG Z Z (dX Z Z)<|sG Z Z (vF Z ed Z)<|sG Z Z (vF Z nR Z)<|sG Z Z (vF Z rM Z)<|sG Z Z (vY Z ld3) ?_
     refine sG Z Z (dX Z Z)<|sG Z Z (v_bneq underlying4 Z Z)<|sV (vP Z Z)<|sA Z<|sK [1,2,6,7,8,9,11,12,13,21,22,23,39,40,41] Z<|cQ<|sM Z<|sM Z ?_
     rw [Bool.true_and] at hΦ
     rw [show ((f.ty.kind == 0) != (y.mem.ty.kind == 0)) = !((f.ty.kind == 0) == (y.mem.ty.kind == 0)) from rfl]
     generalize ((f.ty.kind == 0) == (y.mem.ty.kind == 0))=bq at hΦ ⊢
     cases bq
     .have hΦ2 : Φ (S.cf 9 n ⟨[],n⟩ y.og::((L.drop (i+1)).flatMap (S.t1x n)++A2)) r:=hΦ
      refine sG Z Z (vM Z)<|sG Z Z (af Z fU Z ag) ?_
      refine sG Z Z (vM Z)<|sG Z Z (af Z qW Z ag) ?_
      refine sG Z Z (vF Z jH Z)<|sG Z Z (af Z qW Z<|hogy b11) ?_
      refine bS Z Z Z Z kG Z (hcn 9 n ⟨[],n⟩ y.og) ?_
      refine kQ (gd:=80) (.inr ⟨_,_,Z,Z,Z⟩) Z Z (hy _ _ _ hΦ2) ?_
      rintro u h' (⟨rfl,r',hΦ4,rfl⟩ | ⟨rfl,r',hst,rfl⟩)
      .simp only [lC,lN]
       refine sG Z Z (bg Z)<|sV (vQ Z Z)<|sK [1,2,6,7,8,9,21,22,23,39,40,41,90] Z<|aG Z ?_
       refine cK<|xB<|xT<|cR<|sV (aI Z Z Z0)<|sM Z<|sN<|nK [1,2,6,7,8,9,21,22,23,39,40,41] Z<|ax ?_
       refine aL (r',i+1) ⟨hlti,hΦ4⟩ (by dsimp only; omega)
      .simp only [lC,lN]
       refine sG Z Z (bg Z)<|sV (vQ Z Z)<|sK [1,2,6,7,8,9,21,22,23,39,40,41,90] Z<|aQ Z ?_
       refine cQ<|sA Z<|sK [4] Z<|cT<|xW<|xR<|xR<|xW<|xW<|xR<|xR<|xW<|xR ?_
       exact aj Z ⟨X,[mps mb m,mps bm bmp,r'],Z,Ext.refl X,r',Z,.inr ⟨Z,_,hst⟩⟩ sbq
     .have hΦ : Φ ((L.drop (i+1)).flatMap (S.t1x n)++A2) r:=hΦ
      iterate 9 refine aF rfl rfl rfl ?_
      refine sV (vP Z Z)<|sK [1,2,6,7,8,9,21,22,23,39,40,41,90] Z<|aG Z ?_
      refine cK<|xB<|xT<|cR<|sV (aI Z Z Z0)<|sM Z<|sN<|nK [1,2,6,7,8,9,21,22,23,39,40,41] Z<|ax ?_
      refine aL (r,i+1) ⟨hlti,hΦ⟩ (by dsimp only; omega)
  .have hend:i=L.length:=Nat.le_antisymm hi<|Nat.not_lt.1 Zr
   subst hend
   rw [dP,List.nil_append] at hΦ
   refine aB<|xE<|xE<|xY<|xB<|xT<|cR<|sV (aI Z Z Z0)<|sM Z<|sN<|nK [1,2,21,22,23] Z<|ax ?_
   refine aL (r,j+1) ⟨hltj,by rw [hA2]; exact hΦ⟩ (by dsimp only; omega)
 .have hend:j=S.skeys.length:=Nat.le_antisymm hj<|Nat.not_lt.1 Zw
  subst hend
  rw [dP,List.nil_append,<- hT] at hΦ
  refine aB<|xE<|xE<|xY<|xT<|cS<|cQ<|sV (vF Z qf Z)<|sV (vY Z rJ) ?_
  refine aH Z Z en213 Z (uL) ?_
  rintro u h' ⟨b1,rfl,rfl⟩
  simp only [lC,lN]
  refine aH Z Z en212 Z (qB (by omega) hnd) ?_
  rintro u h' ⟨hu,rfl⟩
  simp only [lC,lN]
  rw [hsk]
  unfold NR
  refine jJ (v:=u) (E:=9) (sz:=1) (rows:=S.skeys.map nC) slq λwa wc hwf hwl hwm=>?_
  rw [List.length_map] at hwf hwl
  subst hwf
  refine sV (aC Z underlying40)<|sM Z<|sK [1,2,96,97,98] Z<|cB<|aY (σ := Res×Nat) (λq=>[(1,.func (.yield yl) #[] #[]),(2,.pointer (some ⟨b2,0,none⟩)),(96,.slice wa S.skeys.length wc),(97,.int .i64 S.skeys.length),(98,.int .i64 (q.2:Nat))]) (λq=>VR (.slice wa S.skeys.length wc) 9 1 (S.skeys.map nC)::pt b2 (cl [v,.map (some mb),sv S.c.name,.bool S.c.dfd,ca,.slice cb S.c.pars.length ck,ce,.slice cf S.c.feats.length cfk,ci,.slice mA S.ms.length mK,.map (some bm),.bool all] 206)::X::mps mb m::mps bm bmp::q.1::hr) (λq=>q.2<=S.skeys.length /\ Φ ((S.skeys.drop q.2).flatMap (S.t2)++R) q.1) (λq=>S.skeys.length - q.2) (r,0) ⟨Nat.zero_le _,hΦ⟩ ?_
  rintro ⟨r,j⟩ ⟨hj,hΦ⟩
  simp only at hj hΦ
  dsimp only
  refine cQ<|sV (aO Z Z)<|sN<|nT<|cS<|cC Z (λhd2=>?_)<|λhd2=>?_
  .have hltj:j<S.skeys.length:=Zw
   rw [eO hltj,List.append_assoc] at hΦ
   have hnx:(S.skeys.map nC)[j]? = some [sv S.skeys[j]]:=by rw [List.getElem?_map,Zy hltj]; rfl
   refine fD (r:=VR (.slice wa S.skeys.length wc) 9 1<|S.skeys.map nC) slq λhok=>?_
   obtain ⟨ab,ao,rfl⟩:∃ ab ao,wa=some ⟨ab,ao,none⟩:=by
    obtain ⟨f0,hf0⟩:=hok
    rcases VR.form hf0 with ⟨h3,h4⟩ | ⟨b,o,cp,h3,-⟩
    .have:=List.map_eq_nil_iff.1 h4
     rw [this] at hltj; simp at hltj
    .rw [List.length_map] at h3; cases h3; exact ⟨b,o,rfl⟩
   generalize S.skeys[j]=n at hΦ hnx
   generalize hA2:(S.skeys.drop (j+1)).flatMap (S.t2)++R=A2 at hΦ
   have hul:=hB.under n
   have hun:=hK.by' n
   obtain ⟨la,lc,hlv,hlc,-,-⟩:=id hun.form
   rw [hlv] at hun
   unfold Sk.t2 at hΦ
   refine cK<|xT<|cS<|cB<|cQ<|sV (vI (k:=j) Z Z jG Z hltj Z)<|sV (vY Z ld9 (ha:=⟨_,_,slq,dU hnx 0<|by simp⟩)) ?_
   refine sA Z<|sK [1,2,15,96,97,98] Z<|cS<|cQ<|sV (vF Z gY Z)<|sV (vF Z kW Z)<|sV (vY Z yK) ?_
   refine sM Z<|aH Z Z yg Z (je (n:=n) hK.feat) ?_
   rintro u h' ⟨rfl,gus,rfl,hgr⟩
   simp only [lC,lN]
   have hg15:gus.length=15:=Enc.len hgr
   have hgo:=Enc.ones hgr
   have hmf:(S.c.feats.find? λc=>c.name == n)=feat S.c n:=rfl
   rw [hmf]
   refine sM Z<|sV (ah Z Z)<|sV (ah Z Z) (au mg λb16=>?_)
   refine ai (hl:=by rw [hg15]; rfl) Z Z kE hg15 hgo ?_
   refine sA Z<|sK [1,2,15,17,96,97,98] Z<|cQ<|sM Z<|sK [1,2,15,96,97,98,110] Z ?_
   cases hq:feat S.c n
   .rw [hq] at hΦ
    have hΦ : Φ (S.cpairs (under S.cs n) 10 (λa b=>(!a.dfd && !b.dfd) && !Sk.same a.mem b.mem)++A2) r:=hΦ
    refine aG Z ?_
    refine cK<|xT<|cQ<|sV (af Z fU Z ag) ?_
    refine sV (vF Z qf Z)<|sV (vY Z rJ) ?_
    refine sM Z<|sV (gM hlv<|bP Z Z tH ug slq) ?_
    refine sM Z<|aH Z Z en207 Z (Io hy hall en217 (is:=λa b=>(!a.dfd && !b.dfd) && !Sk.same a.mem b.mem) (λa _ b _ us us' h h'=>JN h h') hun 10 _ r hΦ) ?_
    rintro u h' ⟨r',rfl,(⟨rfl,hΦ4⟩ | ⟨rfl,_,hst⟩)⟩
    .simp only [lC,lN]
     refine sV (bg Z)<|sK [1,2,96,97,98,118] Z<|aG Z ?_
     refine cK<|xB<|xT<|cR<|sV (aI Z Z Z0)<|sM Z<|sN<|nK [1,2,96,97,98] Z<|ax ?_
     refine aL (r',j+1) ⟨hltj,by rw [hA2]; exact hΦ4⟩ (by dsimp only; omega)
    .simp only [lC,lN]
     refine sV (bg Z)<|sK [1,2,96,97,98,118] Z<|aQ Z ?_
     refine cQ<|sA Z<|sK [4] Z<|cT<|xW<|xR<|xR<|xW<|xR ?_
     exact aj Z ⟨X,[mps mb m,mps bm bmp,r'],Z,Ext.refl X,r',Z,.inr ⟨Z,_,hst⟩⟩ sbq
   .rw [hq] at hΦ
    have hΦ : Φ A2 r:=hΦ
    refine aQ Z ?_
    refine aB<|xE<|xY<|xT<|cR<|sV (aI Z Z Z0)<|sM Z<|sN<|nK [1,2,96,97,98] Z<|ax ?_
    refine aL (r,j+1) ⟨hltj,by rw [hA2]; exact hΦ⟩ (by dsimp only; omega)
  .have hend:j=S.skeys.length:=Nat.le_antisymm hj<|Nat.not_lt.1 Zw
   subst hend
   rw [dP,List.nil_append] at hΦ
   refine aB<|xE<|xE<|xY<|xT<|cQ<|sA Z<|sK [4] Z<|cT ?_
   exact aj Z ⟨X,[mps mb m,mps bm bmp,r],Z,Ext.refl X,r,Z,.inl ⟨Z,hΦ⟩⟩ sbq
end
end Go.Fl
