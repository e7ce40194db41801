/-
  Package flat: own. Conditions: what is read,sizes.
-/
import Derived.Test.YtknmacdbffgjgaaGreatDoorM10
set_option linter.unusedVariables false
set_option linter.unusedSimpArgs false
set_option maxRecDepth 100000
set_option maxHeartbeats 16000000
namespace Go.Fl
open Go Go.RowKit Go.Ck Go.Proofs Go.Proofs.Tryz Go.Proofs.YtknmacdbffgjgaaGreatDoor Fx Go.Hr

def cpS (xs:List Sd):List Sd:=xs.foldl (λo x=>if o.getLast? = some x then o else o++[x]) []
theorem lV (xs:List Sd) (x:Sd):cpS (xs++[x])=if (cpS xs).getLast? = some x then cpS xs else cpS xs++[x]:=by unfold cpS; rw [List.foldl_append]; rfl
theorem zz {P:List Sd->Prop} (h0:P []) (hs:∀ xs x,P xs->P (xs++[x])) (xs:List Sd):P xs:=by
 have:∀ ys:List Sd,P ys.reverse:=λys=>by
  induction ys with
  | nil=>exact h0
  | cons y t ih=>rw [List.reverse_cons]; exact hs _ _ ih
 simpa using this xs.reverse
theorem rE (xs:List Sd):(cpS xs).getLast? = xs.getLast? := by
 refine zz (P:=λxs=>(cpS xs).getLast? = xs.getLast?) Z (λxs x ih=>?_) xs
 rw [lV]
 by_cases h:(cpS xs).getLast? = some x
 ·rw [if_pos h,h]; simp
 ·rw [if_neg h]; simp
theorem Ko {x:Sd} (xs:List Sd):x∈cpS xs↔x∈xs:=by
 refine zz (P:=λxs=>x∈cpS xs↔x∈xs) (by simp [cpS]) (λxs y ih=>?_) xs
 rw [lV]
 by_cases h:(cpS xs).getLast? = some y
 ·rw [if_pos h,ih]
  have hy:y∈xs:=by rw [rE] at h; exact List.mem_of_getLast? h
  simp only [List.mem_append,List.mem_singleton]
  exact ⟨Or.inl,λh=>h.elim id λe=>e ▸ hy⟩
 ·rw [if_neg h]; simp [ih]
theorem IR {xs:List Sd} (h:xs.Pairwise λa b=>slt b a=false):y8 (cpS xs):=by
 revert h
 refine zz (P:=λxs=>(xs.Pairwise λa b=>slt b a=false)->y8 (cpS xs)) (λ_=>.nil) (λxs x ih h=>?_) xs
 obtain ⟨h1,-,h2⟩:=List.pairwise_append.1 h
 have h2:∀ y∈xs,slt x y=false:=λy hy=>h2 y hy x<|by simp
 rw [lV]
 by_cases hl:(cpS xs).getLast? = some x
 ·rw [if_pos hl]; exact ih h1
 ·rw [if_neg hl]
  refine List.pairwise_append.2 ⟨ih h1,List.pairwise_singleton _ _,λy hy z hz=>?_⟩
  rw [List.mem_singleton.1 hz]
  have hy':=(Ko xs).1 hy
  rcases rX y x with h3 | h3 | h3
  ·exact h3
  ·exfalso
   subst h3
   rw [rE] at hl
   obtain ⟨zs,hz⟩:∃ zs w,xs=zs++[w]:=⟨xs.dropLast,_,(List.dropLast_concat_getLast<|List.ne_nil_of_mem hy').symm⟩
   obtain ⟨w,rfl⟩:=hz
   have hw:slt y w=false:=h2 w<|by simp
   rw [List.getLast?_append,List.getLast?_singleton] at hl
   have hne:w≠y:=λe=>hl<|by simp [e]
   have hwy:slt w y=false:=by
    rcases List.mem_append.1 hy' with h4 | h4
    ·exact (List.pairwise_append.1 h1).2.2 y h4 w (by simp)
    ·exact absurd (List.mem_singleton.1 h4).symm hne
   rcases rX w y with h5 | h5 | h5
   ·rw [hwy] at h5; cases h5
   ·exact hne h5
   ·rw [hw] at h5; cases h5
  ·rw [h2 y hy'] at h3; cases h3
theorem NT {xs ys:List Sd} (hp:ys.Perm xs) (h:ys.Pairwise λa b=>slt b a=false):cpS ys=qZ xs :=
 F4 (IR h) (jf xs).1 λm=>by rw [Ko,(jf xs).2,hp.mem_iff]
theorem De (a b:Sd):(Gs a b<0)↔slt a b=true:=by
 unfold Gs orI qW slt
 rcases dU a.cls b.cls with h | h | h
 ·simp [h]
 ·rw [h]
  simp only [lt_irrefl,Bool.false_eq_true,if_false,beq_self_eq_true,Bool.true_and,Bool.false_or]
  rcases dU a.name b.name with g | g | g
  ·simp [g]
  ·rw [g]; simp [lt_irrefl]
  ·simp [g,iF g]
 ·have h2:¬ a.cls=b.cls:=λe=>by rw [e,lt_irrefl] at h; cases h
  simp [h,iF h,h2]
theorem swoSd:Sort.SWO (ltOf Gs):=by
 have key:∀ x y,ltOf Gs x y=slt x y:=λx y=>by
  unfold ltOf
  rw [Bool.eq_iff_iff,decide_eq_true_iff,De]
 refine ⟨λx=>by rw [key,pF],λx y z h1 h2=>by rw [key] at *; exact rW h1 h2,λx y z h1 h2=>?_⟩
 rw [key] at *
 cases h3:slt x z with
 | false=>rfl
 | true =>
  rcases rX x y with h4 | h4 | h4
  ·rw [h1] at h4; cases h4
  ·rw [h4,h2] at h3; cases h3
  ·rw [rW h4 h3] at h2; cases h2
def sdC (s:Sd):List Value:=[sv s.cls,sv s.name]
instance:Inhabited Sd:=⟨⟨[],[]⟩⟩
def IU:Go.Shelf.Ren:={
 f:=λ| 6=>197 | 15=>202 | 14=>249 | 28=>258 | 29=>259 | 20=>281 | 21=>282 | 22=>283 | 23=>284 | 24=>285 | 25=>286 | 26=>287 | 27=>288 | 46=>301 | 47=>290 | 48=>291 | 49=>302 | 50=>303 | 57=>316 | n=>n
 t:=λ| 22=>67 | 24=>69 | 25=>272 | 3=>3 | 39=>275 | 0=>0 | 53=>322 | 55=>324 | 4=>4 | 46=>316 | 45=>315 | 50=>222 | 5=>5 | 9=>9 | 66=>345 | 70=>349 | 76=>365 | 77=>366 | n=>n
 g:=λn=>n }
theorem laysSd:Go.Proofs.SlLaysF0.n6 prog IU:={
 mixed:=rfl
 f6 := bR "slices.SortFunc[[]cosigner/api.Seed,cosigner/api.Seed]" rfl (func197.trans (congrArg some Zz))
 f14 := bR "slices.pdqsortCmpFunc[cosigner/api.Seed]" rfl (func249.trans (congrArg some Zz))
 f15:=func202.trans<|congrArg some Zz
 f20 := bR "slices.insertionSortCmpFunc[cosigner/api.Seed]" rfl (func281.trans (congrArg some Zz))
 f21 := bR "slices.heapSortCmpFunc[cosigner/api.Seed]" rfl (func282.trans (congrArg some Zz))
 f22 := bR "slices.breakPatternsCmpFunc[cosigner/api.Seed]" rfl (func283.trans (congrArg some Zz))
 f23 := bR "slices.choosePivotCmpFunc[cosigner/api.Seed]" rfl (func284.trans (congrArg some Zz))
 f24 := bR "slices.reverseRangeCmpFunc[cosigner/api.Seed]" rfl (func285.trans (congrArg some Zz))
 f25 := bR "slices.partialInsertionSortCmpFunc[cosigner/api.Seed]" rfl (func286.trans (congrArg some Zz))
 f26 := bR "slices.partitionEqualCmpFunc[cosigner/api.Seed]" rfl (func287.trans (congrArg some Zz))
 f27 := bR "slices.partitionCmpFunc[cosigner/api.Seed]" rfl (func288.trans (congrArg some Zz))
 f28:=func258.trans<|congrArg some Zz
 f29:=func259.trans<|congrArg some Zz
 f46 := bR "slices.siftDownCmpFunc[cosigner/api.Seed]" rfl (func301.trans (congrArg some Zz))
 f47:=func290.trans<|congrArg some Zz
 f48:=func291.trans<|congrArg some Zz
 f49 := bR "slices.medianAdjacentCmpFunc[cosigner/api.Seed]" rfl (func302.trans (congrArg some Zz))
 f50 := bR "slices.medianCmpFunc[cosigner/api.Seed]" rfl (func303.trans (congrArg some Zz))
 f57 := bR "slices.order2CmpFunc[cosigner/api.Seed]" rfl (func316.trans (congrArg some Zz))
 t0:=underlying0
 a0:=isAgg0
 z0:=sizeOf0
 v0:=zeroValue0
 t3:=underlying3
 a3:=isAgg3
 z3:=sizeOf3
 v3:=zeroValue3
 t4:=underlying4
 a4:=isAgg4
 z4:=sizeOf4
 v4:=zeroValue4
 t5:=underlying5
 a5:=isAgg5
 z5:=sizeOf5
 v5:=zeroValue5
 t9:=underlying9
 a9:=isAgg9
 z9:=sizeOf9
 v9:=zeroValue9
 t22:=underlying67
 a22:=isAgg67
 z22:=sizeOf67
 v22:=zeroValue67
 t25:=underlying272
 a25:=isAgg272
 z25:=sizeOf272
 v25:=zeroValue272
 t39:=underlying275
 a39:=isAgg275
 z39:=sizeOf275
 v39:=zeroValue275
 t45:=underlying315
 a45:=isAgg315
 z45:=sizeOf315
 v45:=zeroValue315
 t46:=underlying316
 a46:=isAgg316
 z46:=sizeOf316
 v46:=zeroValue316
 t50:=underlying222
 a50:=isAgg222
 z50:=sizeOf222
 v50:=zeroValue222
 t53:=underlying322
 a53:=isAgg322
 z53:=sizeOf322
 v53:=zeroValue322
 t55:=underlying324
 a55:=isAgg324
 z55:=sizeOf324
 v55:=zeroValue324
 t66:=underlying345
 a66:=isAgg345
 z66:=sizeOf345
 v66:=zeroValue345
 t70:=underlying349
 a70:=isAgg349
 z70:=sizeOf349
 v70:=zeroValue349
 t76:=underlying365
 a76:=isAgg365
 z76:=sizeOf365
 v76:=zeroValue365
 t77:=underlying366
 a77:=isAgg366
 z77:=sizeOf366
 v77:=zeroValue366 }
theorem Ba {v:Value} {xs:List Sd} (hl:xs.length≤1099511627776):Ct prog 197 #[v,.func (.func 198) #[] #[]] [VR v 69 2 (xs.map sdC)] λu h'=>u = .tuple #[]/\∃ ys:List Sd,ys.Perm xs/\cpS ys=qZ xs/\h'=[VR v 69 2 (ys.map sdC)]:=by
 have h:=Gy (E:=69) (v:=v) laysSd (k:=2) isAgg69 sizeOf69 (enc:=sdC) (λ_=>rfl) (λx v hv=>by simp [sdC] at hv; rcases hv with rfl | rfl <;> rfl) swoSd (g:=198) (enters_of func198 Zz rfl) (λx y=>Es x y) hl
 refine Ct.mono h ?_
 rintro u h' ⟨rfl,ys,hp,hs,rfl⟩
 refine ⟨Z,ys,hp,NT hp (hs.imp λ{a b} hab=>?_),Z⟩
 cases h3:slt b a with
 | false=>rfl
 | true=>exact (hab ((De b a).2 h3)).elim
attribute [local irreducible] Go.Ck.Sub St Cd Xt Nx DrL LsW
section
variable {X:Res} {v v':Value} {us us':List Value}
theorem Eu {xs:List Sd} {i:Nat} (h:i<xs.length):(xs.map sdC)[i]? = some [sv (xs[i]).cls,sv (xs[i]).name]:=by rw [List.getElem?_map,Zy h]; rfl
theorem bY {α : Type} {xs:List α} {i:Nat} (h:i<xs.length):xs.take (i+1)=xs.take i++[xs[i]]:=List.take_succ_eq_append_getElem h
theorem xC {xs:List Sd} {i:Nat} (h:i<xs.length):(xs.take (i+1)).getLast? = some xs[i]:=by rw [bY h,List.getLast?_append,List.getLast?_singleton]; rfl
theorem Bb {v:Value} {xs:List Sd}:Ct prog 199 #[v] [VR v 69 2 (xs.map sdC)] λu h'=>u.oneCell'=true/\h'=[VR u 69 2 ((cpS xs).map sdC)]:=by
 have hml:maxLen=9223372036854775807:=rfl
 refine aL (n:=61) func199 Z Z (len Z) λhr w0=>?_
 refine fJ (r:=VR v 69 2<|xs.map sdC) slq λhok=>?_
 have ho:=VR.one hok.choose_spec
 refine fZ (v:=v) (E:=69) (sz:=2) (rows:=xs.map sdC) slq λwa wc hwf hwl hwm=>?_
 rw [List.length_map] at hwf hwl
 subst hwf
 refine cQ<|sA Z<|sN<|nT<|cS<|cQ<|sM Z<|sV (aF Z underlying67)<|sV (aN Z Z)<|sK [0,2,8] Z<|cC Z (λh2=>?_)<|λh2=>?_
 ·have h2:xs.length<2:=by
   have:(xs.length:Int)<2:=Zp
   omega
  have hc:cpS xs=xs:=by
   match xs,h2 with
   | [],_=>rfl
   | [x],_=>rfl
  rw [hc]
  refine cQ<|sM Z<|sA Z<|sK [2] Z<|cT<|xR ?_
  exact aj Z ⟨ho,Z⟩ sbq
 ·have h2:2≤xs.length:=by
   have:¬ (xs.length:Int)<2:=Zp
   omega
  obtain ⟨b,o,rfl⟩:∃ b o,wa=some ⟨b,o,none⟩:=by
   obtain ⟨f,hf⟩:=hok
   rcases VR.form hf with ⟨h3,h4⟩ | ⟨b,o,cp,h3,-⟩
   ·rw [List.map_eq_nil_iff] at h4; subst h4; simp at h2
   ·rw [List.length_map] at h3; cases h3; exact ⟨b,o,rfl⟩
  refine cK<|xT<|cS<|cQ<|sA Z<|sK [0,2,3] Z<|cB<|aX (σ := Nat) (λk=>[(0,.slice (some ⟨b,o,none⟩) xs.length wc),(3,.int .i64 (k:Nat))]) (λ_=>VR (.slice (some ⟨b,o,none⟩) xs.length wc) 69 2 (xs.map sdC)::hr) (λk=>1≤k/\k≤xs.length/\cpS (xs.take k)=xs.take k) (λk=>xs.length - k) 1 ⟨Nat.le_refl _,by omega,?_⟩ ?_
  ·match xs,h2 with
   | x::y::t,_=>rfl
  rintro k ⟨hk1,hkn,hcp⟩
  refine cS<|cQ<|sM Z<|sM Z<|sV (aF Z underlying67)<|sV (aN Z Z)<|sK [0,3,13] Z<|cC Z (λhd=>?_)<|λhd=>?_
  ·have hlt:k<xs.length:=Zx
   have hlt1:k - 1<xs.length:=by omega
   have hr1:=Eu hlt
   have hr0:=Eu hlt1
   have hsub:((k:Int) - 1)=((k - 1:Nat):Int):=by omega
   refine cK<|xT<|cS<|cB<|cS<|bB (ork [(0,2),(1,2),(2,2),(3,1),(4,2),(5,2),(6,2),(7,2),(8,1),(9,1)] .nil) (λ_=>true) mixed Zz ?_
   refine dV Z (vM Z)<|dV Z (vM Z)<|dV Z (vI (k:=k) Z Z oN Z hlt Z)<|bu Z (af Z il Z<|eQ hr1) ?_
   refine dV Z (vM Z)<|dV Z (vM Z)<|dV Z (Cb Z Z Za)<|dV Z (vI (k:=k - 1) Z Z oN hsub hlt1 Z)<|bu Z (af Z il Z<|eQ hr0) ?_
   refine bu Z (jJ AV Z Z)<|bA<|nK [0,3,25] Z<|nT ?_
   rw [<- xz]
   refine cC Z (λhe=>?_)<|λhe=>?_
   ·have he:xs[k]=xs[k - 1]:=of_decide_eq_true he
    refine cQ<|sM Z<|sM Z<|sV (gq (show Value.slice (some ⟨b,if wc=k then o else o+k * 2,none⟩) (xs.length - k) (wc - k)=Value.slice (some ⟨b,o+k * 2,none⟩) (xs.length - k) (wc - k) by rw [if_neg (by omega)])<|mF (lo:=k) Z Z oN Z (by omega)<|by omega) ?_
    refine sA Z<|sK [0,3,4] Z<|cS<|cQ<|sA Z<|sN<|nT<|cB ?_
    have hcp1:cpS (xs.take (k+1))=xs.take k:=by
     rw [bY hlt,lV,rE,if_pos,hcp]
     have:=xC hlt1
     rw [show k - 1+1=k by omega] at this
     rw [this,he]
    have hnk:((xs.length:Int) - (k:Int))=((xs.length - k:Nat):Int):=by omega
    refine aX (σ := Nat×Nat×List (List Value)) (λq=>[(0,.slice (some ⟨b,o,none⟩) xs.length wc),(3,.int .i64 (q.1:Nat)),(4,.slice (some ⟨b,o+k * 2,none⟩) (xs.length - k) (wc - k)),(5,.int .i64 (q.2.1:Nat))]) (λq=>VR (.slice (some ⟨b,o,none⟩) xs.length wc) 69 2 q.2.2::hr) (λq=>1≤q.2.1/\k+q.2.1≤xs.length/\q.1<k+q.2.1/\q.2.2.length=xs.length/\q.2.2.take q.1=(cpS<|xs.take (k+q.2.1)).map sdC/\∀ j,k+q.2.1≤j+1->q.2.2[j]? = (xs.map sdC)[j]?) (λq=>xs.length - k - q.2.1) (k,1,xs.map sdC) ⟨Nat.le_refl _,by dsimp only; omega,by dsimp only; omega,by simp,by rw [hcp1,List.map_take],λ_ _=>rfl⟩ ?_
    rintro ⟨m,p,rows⟩ ⟨hp1,hpn,hmp,hrl,htk,hrest⟩
    simp only at hp1 hpn hmp hrl htk hrest
    dsimp only
    refine cS<|cQ<|sM Z<|sM Z<|sV (aF Z underlying67)<|sV (aN Z Z)<|sK [0,3,4,5,32] Z<|cC Z (λhd2=>?_)<|λhd2=>?_
    ·have hltp:p<xs.length - k:=Zw
     have hq:k+p<xs.length:=by omega
     have hq1:k+p - 1<xs.length:=by omega
     have hr2:rows[k+p]? = some [sv (xs[k+p]).cls,sv (xs[k+p]).name]:=(hrest _<|by omega).trans<|Eu hq
     have hr3:rows[k+p - 1]? = some [sv (xs[k+p - 1]).cls,sv (xs[k+p - 1]).name]:=(hrest _<|by omega).trans<|Eu hq1
     have hsub2:((p:Int) - 1)=((p - 1:Nat):Int):=by omega
     have hrd2:=eQ (b:=b) (o:=o) (n:=xs.length) (cp:=wc) (E:=69) (sz:=2) hr2
     have hrd3:=eQ (b:=b) (o:=o) (n:=xs.length) (cp:=wc) (E:=69) (sz:=2) hr3
     rw [show o+(k+p) * 2=o+k * 2+p * 2 by omega] at hrd2
     rw [show o+(k+p - 1) * 2=o+k * 2+(p - 1) * 2 by omega] at hrd3
     have hcs:cpS (xs.take (k+(p+1)))=if xs[k+p - 1]=xs[k+p] then cpS (xs.take (k+p)) else cpS (xs.take (k+p))++[xs[k+p]]:=by
      rw [show k+(p+1)=k+p+1 by omega,bY hq,lV,rE]
      have:=xC hq1
      rw [show k+p - 1+1=k+p by omega] at this
      rw [this]
      simp only [Option.some.injEq]
     refine cK<|xT<|cS<|cB<|cS<|bB (ork [(0,2),(1,2),(2,2),(3,1),(4,2),(5,2),(6,2),(7,2),(8,1),(9,1)] .nil) (λ_=>true) mixed Zz ?_
     refine dV Z (vM Z)<|dV Z (vM Z)<|dV Z (vI (k:=p) Z Z oN Z hltp Z)<|bu Z (af Z il Z hrd2) ?_
     refine dV Z (vM Z)<|dV Z (vM Z)<|dV Z (Cb Z Z Za)<|dV Z (vI (k:=p - 1) Z Z oN hsub2 (by omega) Z)<|bu Z (af Z il Z hrd3) ?_
     refine bu Z (Cz AV Z Z)<|bA<|nK [0,3,4,5,44] Z<|nT<|cC Z (λhne=>?_)<|λhne=>?_
     ·have hne:xs[k+p]≠xs[k+p - 1]:=by exact NI hne
      rw [if_neg λe=>hne e.symm] at hcs
      refine cQ<|sM Z<|sM Z<|sM Z<|sM Z<|sV (vI (k:=p) Z Z oN Z hltp Z)<|sV (af Z il Z hrd2) ?_
      refine sV (vI (k:=m) rfl rfl oN rfl (by omega) rfl)<|IQ (m:=m) (rows:=rows) (vs:=[sv (xs[k+p]).cls,sv (xs[k+p]).name]) rfl rfl sz69 rfl (λu hu=>by simp at hu; rcases hu with rfl | rfl <;> rfl) (by omega) slq ?_
      refine sK [0,3,4,5] Z<|cR<|sM Z<|sV (aI Z Z Za)<|sA Z<|sN<|nK [0,3,4,5] Z<|ax<|xB<|xT<|cR<|sM Z<|sV (aI Z Z Za)<|sA Z<|sN<|nK [0,3,4,5] Z<|ax<|aJ (m+1,p+1,rows.set m [sv (xs[k+p]).cls,sv (xs[k+p]).name]) ⟨by dsimp only; omega,by dsimp only; omega,by dsimp only; omega,by rw [List.length_set]; exact hrl,?_,λj hj=>?_⟩ (by dsimp only; omega)
      ·rw [hcs,List.map_append,<- htk,bY (by rw [List.length_set]; omega),List.take_set_of_le (Nat.le_refl _),List.getElem_set_self]; rfl
      ·have hj:k+(p+1)≤j+1:=hj
       rw [List.getElem?_set_ne (by omega)]; exact hrest j (by omega)
     ·have hne:xs[k+p]=xs[k+p - 1]:=by exact NJ hne
      rw [if_pos hne.symm] at hcs
      refine cK<|xB<|xT<|cR<|sM Z<|sV (aI Z Z Za)<|sA Z<|sN<|nK [0,3,4,5] Z<|ax ?_
      refine aJ (m,p+1,rows) ⟨by dsimp only; omega,by dsimp only; omega,by dsimp only; omega,hrl,by rw [hcs]; exact htk,λj hj=>hrest j (by dsimp only at hj; omega)⟩ (by dsimp only; omega)
    ·have hpe:k+p=xs.length:=by
      have:¬ p<xs.length - k:=Zw
      omega
     rw [hpe,List.take_length] at htk
     refine aB<|xE<|xE<|xY<|xT<|cQ<|sM Z<|sM Z<|sV (gq (show Value.slice (some ⟨b,if wc=m then o else o+m * 2,none⟩) (xs.length - m) (wc - m)=Value.slice (some ⟨b,o+m * 2,none⟩) (rows.length - m) (wc - m) by rw [if_neg (by omega),hrl])<|mF (lo:=m) Z Z oN Z (by omega)<|by omega) ?_
     refine um (m:=m) (rows:=rows) rfl underlying67 Cu rfl (λv hv=>by simp [Value.cells] at hv; rcases hv with rfl | rfl <;> rfl) (by omega) slq ?_
     refine sK [0,3] Z<|cQ<|sM Z<|sM Z<|sV (jU (hi:=m) Z Z oN Z<|by omega)<|qg (zu (m:=m) ?_) ?_
     ·rw [List.length_append,List.length_take,List.length_replicate]; omega
     rw [List.take_append_of_le_length (by rw [List.length_take]; omega),List.take_take,Nat.min_self,htk]
     refine sA Z<|sK [2] Z<|cT<|xW<|xR<|xR<|xW<|xR ?_
     exact aj Z ⟨Z,Z⟩ sbq
   ·have he:xs[k]≠xs[k - 1]:=of_decide_eq_false he
    refine cK<|xB<|xT<|cR<|sM Z<|sV (aI Z Z Za)<|sA Z<|sN<|nK [0,3] Z<|ax<|aJ (k+1) ⟨by omega,by omega,?_⟩ (by show _ - _<_ - _; omega)
    rw [bY hlt,lV,rE,if_neg,hcp]
    have:=xC hlt1
    rw [show k - 1+1=k by omega] at this
    rw [this]
    simp only [Option.some.injEq]
    exact λe=>he e.symm
  ·have hke:k=xs.length:=by
    have:¬ k<xs.length:=Zx
    omega
   subst hke
   rw [List.take_length] at hcp
   rw [hcp]
   refine aB<|xE<|xE<|xY<|xT<|cQ<|sM Z<|sA Z<|sK [2] Z<|cT ?_
   exact aj Z ⟨Z,Z⟩ sbq
end
end Go.Fl
namespace Go.Fl
open Go Go.RowKit Go.Ck Go.Proofs Go.Proofs.Tryz Go.Proofs.YtknmacdbffgjgaaGreatDoor Fx Go.Hr
theorem v_imax {P:Program} {e:Env} {h:SH} {ty':TypeId} {x y:Operand} {ts:Array TypeId} {k:IntKind} {a b:Int} (hx:e.ev? x=some (.int k a)) (hy:e.ev? y=some (.int k b)):Vop P e h (.call { callee:=.builtin .max,args := #[x,y],argTypes:=ts }) ty' (.int k (if b>a then b else a)):=
 ⟨by simp,by simp,λρ w d pos after g hρ _=>by
  simp [execOp,resolve,invoke,builtin,hρ x _ hx,hρ y _ hy,Builtin.max_,Builtin.max2]⟩
attribute [local irreducible] Go.Ck.Sub St Cd Xt Nx DrL LsW
section
variable {X:Res} {v v':Value} {us us':List Value}
def oC (x:Cm) (x2 x5 y x11 x12 x13:Value):List Value:=[sv x.og.par,sv x.og.name,.int .i64 x.par,sv x.mem.name,.int .i64 x.mem.kind,x2,sv x.mem.impl.cls,sv x.mem.impl.name,x5,.int .i64 x.mem.ty.kind,sv x.mem.ty.name,y,.bool x.mem.ty.void,.bool x.mem.ty.sep,x11,x12,x13,.int .i64 x.was]
theorem gZ {x:Cm} (h:Enc.rep X us x):∃ x2 x5 y x11 x12 x13,us=oC x x2 x5 y x11 x12 x13/\mbL X x.mem x2 x5 y x11 x12 x13:=by
 obtain ⟨ms,rfl,hm⟩:=h
 obtain ⟨x2,x5,y,x11,x12,x13,rfl,hl⟩:=dh hm
 exact ⟨x2,x5,y,x11,x12,x13,Z,hl⟩
theorem cm_of {x:Cm} {x2 x5 y x11 x12 x13:Value} (h:mbL X x.mem x2 x5 y x11 x12 x13):Enc.rep X (oC x x2 x5 y x11 x12 x13) x:=⟨_,rfl,qj h⟩
theorem Ev {α : Type} [Enc α] {R:Res} {b:Nat} {p q : α} {ux uy:List Value} (h1:Enc.rep R ux p) (h2:Enc.rep R uy q) (hx:Rds R b 0 ux) (hy:Rds R b (Enc.sz α) uy) (hb:2 * Enc.by' α ≤ reachBytes):Ls R (.slice (some ⟨b,0,none⟩) 2 2) [p,q]:=
 ⟨⟨some ⟨b,0,none⟩,2,rfl,Nat.le_refl _,by decide,(λh=>by cases h),λi z hi=>by
  match i,hi with
  | 0,hi=>cases hi; exact ⟨b,0,ux,rfl,Enc.len h1,by rw [Nat.zero_mul,Nat.add_zero]; exact hx,h1⟩
  | 1,hi=>cases hi; exact ⟨b,0,uy,rfl,Enc.len h2,by rw [Nat.one_mul,Nat.zero_add]; exact hy,h2⟩⟩,hb⟩
theorem jv {α : Type} [Enc α] {R:Res} {b:Nat} {p : α} {ux:List Value} (h1:Enc.rep R ux p) (hx:Rds R b 0 ux) (hb:1 * Enc.by' α ≤ reachBytes):Ls R (.slice (some ⟨b,0,none⟩) 1 1) [p]:=
 ⟨⟨some ⟨b,0,none⟩,1,rfl,Nat.le_refl _,by decide,(λh=>by cases h),λi z hi=>by
  match i,hi with
  | 0,hi=>cases hi; exact ⟨b,0,ux,rfl,Enc.len h1,by rw [Nat.zero_mul,Nat.add_zero]; exact hx,h1⟩⟩,hb⟩
theorem IV {x:Cm} (h:Enc.rep X us x):Reads prog 194 #[.agg us.toArray] [X] (.bool (!x.dfd)):=by
 have hd:=AZ h
 obtain ⟨x2,x5,xy,x11,x12,x13,rfl,hx2,hx5,hxy,hx11,hx12,hx13⟩:=gZ h
 have ho:=Enc.ones h
 have hl:=Enc.len h
 unfold oC at *
 refine aL (n:=6) func194 Z Z (len Z) λhr w0=>?_
 refine cQ (aP Z Z λb1=>?_)
 refine sA Z<|sK [1,2] Z<|cQ<|sV (af Z gV Z ah) ?_
 refine aY Z Z Fs Z (hd) ?_
 refine sV (bg Z)<|sA Z<|sK [2] Z<|cT ?_
 exact aj Z ⟨Z,Z⟩ sbq
theorem en194:Ck.Enters prog 194:=enters_of func194 Zz rfl


def jix (l:List Cm):Nat:=(l.findIdx? λx => !x.dfd).getD 0
theorem IW {l:List Cm} (h:l≠[]):jix l<l.length:=by
 unfold jix
 cases hq:l.findIdx? λx => !x.dfd with
 | none=>exact List.length_pos_iff.2 h
 | some i=>exact (List.findIdx?_eq_some_iff_getElem.1 hq).1
theorem jix_mem {l:List Cm} (h:l≠[]):(match l.find? (λ(x:Cm) => !x.dfd) with | some x=>x.mem | none=>(l.head?.map λ(x:Cm)=>x.mem).getD mb0)=(l[jix l]'(IW h)).mem:=by
 cases hq:l.findIdx? λx => !x.dfd with
 | none =>
  have h1:l.find? (λ(x:Cm) => !x.dfd)=none:=by
   rw [List.find?_eq_none]
   intro x hx
   have:=List.findIdx?_eq_none_iff.1 hq x hx
   simp [this]
  rw [h1]
  have h2:jix l=0:=by unfold jix; rw [hq]; rfl
  simp only [h2]
  cases l with
  | nil=>exact absurd rfl h
  | cons x t=>rfl
 | some i =>
  obtain ⟨hi,hg,hb⟩:=List.findIdx?_eq_some_iff_getElem.1 hq
  have h1:l.find? (λ(x:Cm) => !x.dfd)=some l[i]:=by
   rw [List.find?_eq_some_iff_getElem]
   exact ⟨hg,i,hi,Z,λj hj=>by simpa using hb j hj⟩
  have h2:jix l=i:=by unfold jix; rw [hq]; rfl
  rw [h1]
  simp only [h2]
theorem jix_max {l:List Cm}:(if ixI (l.findIdx? λx => !x.dfd)>0 then ixI (l.findIdx? λx => !x.dfd) else 0)=(jix l:Nat):=by
 unfold jix
 cases l.findIdx? λx => !x.dfd with
 | none=>rfl
 | some i=>show (if (i:Int)>0 then (i:Int) else 0)=(i:Nat); split <;> omega
def l9 (l:List Cm):List Grp:=l.foldl (λ(o:List Grp) (x:Cm)=>groups [o,x.mem.pre]) []
def ic (l:List Cm):List Grp:=l.foldl (λ(o:List Grp) (x:Cm)=>groups [o,x.mem.post]) []
def ni (l:List Cm):List Sd:=l.flatMap λ(x:Cm)=>x.mem.seeds
theorem xD {l:List Cm} (h:l≠[]):joined l={ (l[jix l]'(IW h)).mem with seeds:=qZ (ni l),pre:=l9 l,post:=ic l }:=by
 have e:joined l={ (match l.find? (λ(x:Cm) => !x.dfd) with | some x=>x.mem | none=>(l.head?.map λ(x:Cm)=>x.mem).getD mb0) with seeds:=qZ (ni l),pre:=l9 l,post:=ic l }:=rfl
 rw [e,jix_mem h]
theorem Df (l:List Cm) (x:Cm):l9 (l++[x])=groups [l9 l,x.mem.pre]:=by simp [l9]
theorem Bc (l:List Cm) (x:Cm):ic (l++[x])=groups [ic l,x.mem.post]:=by simp [ic]
theorem Lv (l:List Cm) (x:Cm):ni (l++[x])=ni l++x.mem.seeds:=by simp [ni]
theorem lW (a b:List Grp):[a,b].flatten.length=a.length+b.length:=by simp
theorem Be (l:List Cm):(l9 l).length≤(l.flatMap λx=>x.mem.pre).length:=by
 have:∀ ys:List Cm,(l9 ys.reverse).length≤(ys.reverse.flatMap λx=>x.mem.pre).length:=λys=>by
  induction ys with
  | nil=>simp [l9]
  | cons y t ih =>
   rw [List.reverse_cons,Df]
   have:=lT [l9 t.reverse,y.mem.pre]
   rw [lW] at this
   simp only [List.flatMap_append,List.length_append,List.flatMap_cons,List.flatMap_nil,List.append_nil]
   omega
 simpa using this l.reverse
theorem xG (l:List Cm):(ic l).length≤(l.flatMap λx=>x.mem.post).length:=by
 have:∀ ys:List Cm,(ic ys.reverse).length≤(ys.reverse.flatMap λx=>x.mem.post).length:=λys=>by
  induction ys with
  | nil=>simp [ic]
  | cons y t ih =>
   rw [List.reverse_cons,Bc]
   have:=lT [ic t.reverse,y.mem.post]
   rw [lW] at this
   simp only [List.flatMap_append,List.length_append,List.flatMap_cons,List.flatMap_nil,List.append_nil]
   omega
 simpa using this l.reverse
theorem Ew {β : Type} (f:Cm->List β) {l:List Cm} {i:Nat} (h:i<l.length):((l.take i).flatMap f).length+(f l[i]).length≤(l.flatMap f).length:=by
 have h1:l=l.take i++l[i]::l.drop (i+1):=by rw [List.getElem_cons_drop,List.take_append_drop]
 have h2:=congrArg (λx=>(x.flatMap f).length) h1
 simp only [List.flatMap_append,List.flatMap_cons,List.length_append] at h2
 omega
theorem Kq {Y:Res} {news:List (List Value)} {xs:List Sd} (h1:news.length=xs.length) (h2:∀ (i:Nat) us x,news[i]? = some us->xs[i]? = some x->Enc.rep Y us x):news=xs.map sdC:=by
 refine List.ext_getElem (by rw [List.length_map,h1]) λi g1 g2=>?_
 rw [List.length_map] at g2
 have:news[i]=[sv (xs[i]).cls,sv (xs[i]).name]:=h2 i _ _ (Zy g1)<|Zy g2
 rw [this,List.getElem_map]; rfl
theorem jw {α : Type} [Enc α] {X Y:Res} {rows:List (List Value)} {xs:List α} (h:Rws X rows xs) (hr:∀ p u,Rd X p u->Rd Y p u):Rws Y rows xs:=⟨h.1,λj us x h1 h2=>Enc.up hr<|h.2 j us x h1 h2⟩
theorem zA {Y:Res} {b:Nat} {x y:Value} {p q:List Grp} (h1:Ls Y x p) (h2:Ls Y y q):Ls (Res.star [pt b (cl [x,y] 53),Y]) (.slice (some ⟨b,0,none⟩) 2 2) [p,q]:=
 Ev (ux:=[x]) (uy:=[y]) ⟨x,rfl,h1.up'<|bE<|.there .here⟩ ⟨y,rfl,h2.up'<|bE<|.there .here⟩ (λi hi=>by match i,hi with | 0,_=>exact bE .here _ _ (bV rfl)) (λi hi=>by match i,hi with | 0,_=>exact bE .here _ _ (bV rfl)) (by decide)
theorem rws_sd {Y:Res} (xs:List Sd):Rws Y (xs.map sdC) xs:=⟨by simp,λj us x h1 h2=>by
 rw [List.getElem?_map,h2] at h1
 cases h1; rfl⟩
theorem cpS_len (xs:List Sd):(cpS xs).length≤xs.length:=by
 refine zz (P:=λxs=>(cpS xs).length≤xs.length) (Nat.le_refl _) (λxs y ih=>?_) xs
 rw [lV]
 split <;> simp <;> omega
theorem Dg {l : List Cm} (hv : Ls X v l) (h0 : l ≠ []) (hbS : (ni l).length * 32 ≤ 1099511627776) (hbP : (l.flatMap λx => x.mem.pre).length * 40 ≤ 1099511627776) (hbQ : (l.flatMap λx => x.mem.post).length * 40 ≤ 1099511627776) :
  CtX prog 122 #[v] X [] λu Y k'=>k'=[]/\∃ us',u = .agg us'.toArray/\Enc.rep Y us' (joined l):=by
 have hml:maxLen=9223372036854775807:=rfl
 have hrb:reachBytes=140737488351232:=rfl
 obtain ⟨a,cap,rfl,hlc,hcm,_⟩:=id hv.form
 have hjl:=IW h0
 obtain ⟨b,o,cap2,us,e1,hus,hrd,hre⟩:=hv.at<|Zy hjl
 cases e1
 rw [xD h0]
 generalize hm:l[jix l].mem=m
 obtain ⟨x2,x5,xy,x11,x12,x13,rfl,hx⟩:=gZ hre
 have hxm:mbL X m x2 x5 xy x11 x12 x13:=hm ▸ hx
 obtain ⟨hx2,hx5,hxy,hx11,hx12,hx13⟩:=hxm
 obtain ⟨ax5,kx5,rfl,_⟩:=id hx5.form
 obtain ⟨axy,kxy,rfl,_⟩:=id hxy.form
 obtain ⟨ax11,kx11,rfl,_⟩:=id hx11.form
 obtain ⟨ax2,kx2,rfl,_⟩:=id hx2.form
 obtain ⟨ax12,kx12,rfl,_⟩:=id hx12.form
 obtain ⟨ax13,kx13,rfl,_⟩:=id hx13.form
 have hrd14:Rds X b (o+jix l * 18+3) (gz m (.slice ax2 m.seeds.length kx2) (.slice ax5 m.args.length kx5) (.slice axy m.ty.args.length kxy) (.slice ax11 m.clients.length kx11) (.slice ax12 m.pre.length kx12)<|.slice ax13 m.post.length kx13):=by
  subst hm
  exact bF (k:=3) hrd Z
 unfold gz at hrd14
 unfold CtX
 refine aL (n:=56) func122 Z Z (len Z) λhr w0=>?_
 refine cQ (au ji λb2=>?_)
 refine sN<|nT<|cQ<|sM Z<|aY Z Z en193 Z (CX (g:=λx:Cm => !x.dfd) hv en194 λa _ us h=>IV h) ?_
 refine sV (gq (show _=Value.int .i64 (jix l:Nat) by rw [jix_max])<|v_imax Z Z) ?_
 refine sA Z<|sK [0,2,3] Z<|cQ<|sM Z<|sM Z<|sV (vI (k:=jix l) Z Z lF Z hjl Z)<|sV (vF Z dS Z)<|sV (af Z eU Z hrd14) ?_
 refine au ji λb4=>?_
 refine ai Z Z gP Z Z ?_
 refine sK [0,2,4] Z<|cQ<|sV (vF Z dX Z)<|bf Z Z E9 ?_
 refine sV (vF Z iO Z)<|bf Z Z mW ?_
 refine sV (vF Z iP Z)<|bf Z Z mW ?_
 refine sK [0,2,4] Z<|cS<|cQ<|sM Z<|sV (aF Z underlying187)<|sM Z<|sK [2,4,18,19,20] Z<|cB<|dK (cO 69 2)<|aX (σ := Value×Value×Value×Res×Nat) (λq=>[(2,.pointer (some ⟨b2,0,none⟩)),(4,.pointer (some ⟨b4,0,none⟩)),(18,.slice (some ⟨b,o,none⟩) l.length cap),(19,.int .i64 l.length),(20,.int .i64 (q.2.2.2.2:Nat))]) (λq=>pt b2 (cl [.string ⟨#[]⟩,.int .i64 0,.slice none 0 0,.string ⟨#[]⟩,.string ⟨#[]⟩,.slice none 0 0,.int .i64 0,.string ⟨#[]⟩,.slice none 0 0,.bool false,.bool false,.slice none 0 0,.slice none 0 0,.slice none 0 0] 75)::pt b4 (cl [sv m.name,.int .i64 m.kind,q.1,sv m.impl.cls,sv m.impl.name,.slice ax5 m.args.length kx5,.int .i64 m.ty.kind,sv m.ty.name,.slice axy m.ty.args.length kxy,.bool m.ty.void,.bool m.ty.sep,.slice ax11 m.clients.length kx11,q.2.1,q.2.2.1] 75)::VR q.1 69 2 ((ni<|l.take q.2.2.2.2).map sdC)::q.2.2.2.1::hr) (λq=>q.2.2.2.2≤l.length/\q.1.oneCell'=true/\Ext X q.2.2.2.1/\Ls q.2.2.2.1 q.2.1 (l9<|l.take q.2.2.2.2)/\Ls q.2.2.2.1 q.2.2.1 (ic<|l.take q.2.2.2.2)) (λq=>l.length - q.2.2.2.2) (.slice none 0 0,.slice none 0 0,.slice none 0 0,X,0) ⟨Nat.zero_le _,Z,Ext.refl X,Ls.nil,Ls.nil⟩ ?_
 rintro ⟨w,p,q,Y,i⟩ ⟨hi,hw,hE,hp,hq⟩
 simp only at hi hw hE hp hq
 dsimp only
 refine cQ<|sV (aN Z Z)<|sN<|nT<|cS<|cC Z (λhd=>?_)<|λhd=>?_
 ·have hlt:i<l.length:=Zx
  obtain ⟨b',o',cap3,us,e2,hus,hrd,hre⟩:=(hv.up hE).at<|Zy hlt
  obtain ⟨rfl,rfl⟩:b=b'/\o=o':=by cases e2; exact ⟨rfl,rfl⟩
  have hS:=Ew (λx=>x.mem.seeds) hlt
  have hP:=Ew (λx=>x.mem.pre) hlt
  have hQ:=Ew (λx=>x.mem.post) hlt
  have hpl:=Be<|l.take i
  have hql:=xG<|l.take i
  have htk:=bY hlt
  generalize l[i]=x at hre hS hP hQ htk
  have hone:=Enc.ones hre
  obtain ⟨y2,y5,yy,y11,y12,y13,rfl,hy2,hy5,hyy,hy11,hy12,hy13⟩:=gZ hre
  obtain ⟨ay2,ky2,rfl,_⟩:=id hy2.form
  obtain ⟨ay12,ky12,rfl,_⟩:=id hy12.form
  obtain ⟨ay13,ky13,rfl,_⟩:=id hy13.form
  obtain ⟨ap,kp,rfl,_⟩:=id hp.form
  obtain ⟨aq,kq,rfl,_⟩:=id hq.form
  have hb1:(l9<|l.take (i+1)).length * 40≤reachBytes:=by
   have:=Be<|l.take (i+1)
   rw [htk] at this ⊢
   simp only [List.flatMap_append,List.length_append,List.flatMap_cons,List.flatMap_nil,List.append_nil] at this
   omega
  have hb2:(ic<|l.take (i+1)).length * 40≤reachBytes:=by
   have:=xG<|l.take (i+1)
   rw [htk] at this ⊢
   simp only [List.flatMap_append,List.length_append,List.flatMap_cons,List.flatMap_nil,List.append_nil] at this
   omega
  have hgP:∀ b36,CtN prog 196 #[.slice (some ⟨b36,0,none⟩) 2 2] [pt b36 (cl [.slice ap (l9<|l.take i).length kp,.slice ay12 x.mem.pre.length ky12] 53),Y] λu T=>u.oneCell'=true/\∃ rows,T=VR u 170 2 rows/\Rws (Res.star [pt b36 (cl [.slice ap (l9<|l.take i).length kp,.slice ay12 x.mem.pre.length ky12] 53),Y]) rows (l9<|l.take (i+1)):=λb36=>by
   have h:=rZ (zA (b:=b36) hp hy12) (by rw [lW]; omega)
   rw [<- Df,<- htk] at h
   exact jT h
  have hgQ:∀ b43,CtN prog 196 #[.slice (some ⟨b43,0,none⟩) 2 2] [pt b43 (cl [.slice aq (ic<|l.take i).length kq,.slice ay13 x.mem.post.length ky13] 53),Y] λu T=>u.oneCell'=true/\∃ rows,T=VR u 170 2 rows/\Rws (Res.star [pt b43 (cl [.slice aq (ic<|l.take i).length kq,.slice ay13 x.mem.post.length ky13] 53),Y]) rows (ic<|l.take (i+1)):=λb43=>by
   have h:=rZ (zA (b:=b43) hq hy13) (by rw [lW]; omega)
   rw [<- Bc,<- htk] at h
   exact jT h
  unfold oC at *
  refine cK<|xT<|cS<|cB<|cQ<|sV (vI (k:=i) Z Z lF Z hlt Z)<|sV (af Z gV Z hrd) ?_
  refine au qR λb6=>?_
  refine ai Z Z mr Z hone ?_
  refine sK [2,4,6,18,19,20] Z<|cQ<|sV (vF Z dX Z)<|sV (vY Z nO) ?_
  refine sV (vF Z dS Z)<|sV (vF Z dX Z)<|sV (vY Z nO) ?_
  refine rA hy2.1 Z Z underlying67 Cu Z (by decide) (show Sel _ (VR w 69 2<|(ni<|l.take i).map sdC) _ from slq) (show Sel _ Y _ from slq) (λus x _ hr u hu=>List.all_eq_true.1 (Enc.ones hr) u hu) (by rw [List.length_map]; unfold ni at *; omega) (by rw [List.length_map]; unfold ni at *; omega) (ltn Z) λw2 news hw2 hn1 hn2 hn3=>?_
  rw [Kq hn1 hn3,<- List.map_append,<- Lv,<- htk]
  refine sV (vF Z dX Z)<|bf Z Z E9 ?_
  refine sK [2,4,6,18,19,20] Z<|bB (ork [(0,2),(1,1),(2,2),(3,2),(4,1),(7,2),(8,1),(9,2),(10,2),(11,1)]<|.two 5 (.two 6 (ork [(14,2),(12,0),(13,0),(15,0),(16,2),(17,0)] .nil) 12<|ork [(6,0),(14,2),(13,0),(15,0),(16,2),(17,0)] .nil) 12<|ork [(5,0),(6,0),(14,2),(13,0),(15,0),(16,2),(17,0)] .nil) (λi => !(Nat.beq i 13 || Nat.beq i 15 || Nat.beq i 17)) mixed Zz ?_
  refine dV Z (vF Z iO Z)<|bu Z (vY Z qo) ?_
  refine dV Z (vF Z dS Z)<|dV Z (vF Z iO Z)<|bu Z (vY Z qo) ?_
  refine dV Z (vF Z iP Z)<|bu Z (vY Z qo) ?_
  refine dV Z (vF Z dS Z)<|dV Z (vF Z iP Z)<|bu Z (vY Z qo) ?_
  refine mR Z Z ?_ ?_
  ·refine ak (cells:=[.slice ap (l9<|l.take i).length kp,.slice ay12 x.mem.pre.length ky12]) Z underlying312 sJ Z Z Zz (ltn Z) λb36=>aW ?_
   refine mR Z Z ?_ ?_
   ·refine aH Z Z qf Z (hgP b36) ?_
    rintro u1 h1 ⟨T1,rfl,hu1,rows1,rfl,hr1⟩
    simp only [lC,lN]
    refine aW ?_
    refine dV Z (vF Z iO Z)<|aV Z (ak (cells:=[.slice aq (ic<|l.take i).length kq,.slice ay13 x.mem.post.length ky13]) Z underlying312 sJ Z Z Zz (ltn Z) λb43=>aW ?_)
    refine aV Z<|aH Z Z qf Z (hgQ b43) ?_
    rintro u2 h2 ⟨T2,rfl,hu2,rows2,rfl,hr2⟩
    simp only [lC,lN]
    refine aW ?_
    refine aV Z<|bf Z Z mW<|aW ?_
    refine dV Z (vF Z iP Z)<|aV Z<|bf Z Z mW<|aW ?_
    refine bA<|nK [2,4,18,19,20] Z<|ax<|xB<|xT<|cR<|sV (aI Z Z Za)<|sM Z<|sN<|nK [2,4,18,19,20] Z<|ax (dY (r:=VR u1 170 2 rows1) slq λhok1=>?_)
    refine dY (r:=VR u2 170 2 rows2) slq λhok2=>?_
    refine pO [VR u1 170 2 rows1,VR u2 170 2 rows2,pt b36 (cl [.slice ap (l9<|l.take i).length kp,.slice ay12 x.mem.pre.length ky12] 53),pt b43 (cl [.slice aq (ic<|l.take i).length kq,.slice ay13 x.mem.post.length ky13] 53)] Y λY2 hE2 hsel hpk=>?_
    refine aJ (w2,u1,u2,Y2,i+1) ⟨hlt,hw2,hE.trans hE2,Rws.ls (E:=170) (jw hr1<|hpk _ _<|.there<|.there .here) hok1 (hsel _ _ .here) hb1,Rws.ls (E:=170) (jw hr2<|hpk _ _<|.there<|.there<|.there .here) hok2 (hsel _ _<|.there .here) hb2⟩ (by dsimp only; omega)
   ·refine ak (cells:=[.slice aq (ic<|l.take i).length kq,.slice ay13 x.mem.post.length ky13]) Z underlying312 sJ Z Z Zz (ltn Z) λb43=>aW ?_
    refine aV Z<|aH Z Z qf Z (hgP b36) ?_
    rintro u1 h1 ⟨T1,rfl,hu1,rows1,rfl,hr1⟩
    simp only [lC,lN]
    refine aW ?_
    refine dV Z (vF Z iO Z)<|aV Z<|aH Z Z qf Z (hgQ b43) ?_
    rintro u2 h2 ⟨T2,rfl,hu2,rows2,rfl,hr2⟩
    simp only [lC,lN]
    refine aW ?_
    refine aV Z<|bf Z Z mW<|aW ?_
    refine dV Z (vF Z iP Z)<|aV Z<|bf Z Z mW<|aW ?_
    refine bA<|nK [2,4,18,19,20] Z<|ax<|xB<|xT<|cR<|sV (aI Z Z Za)<|sM Z<|sN<|nK [2,4,18,19,20] Z<|ax (dY (r:=VR u1 170 2 rows1) slq λhok1=>?_)
    refine dY (r:=VR u2 170 2 rows2) slq λhok2=>?_
    refine pO [VR u1 170 2 rows1,VR u2 170 2 rows2,pt b36 (cl [.slice ap (l9<|l.take i).length kp,.slice ay12 x.mem.pre.length ky12] 53),pt b43 (cl [.slice aq (ic<|l.take i).length kq,.slice ay13 x.mem.post.length ky13] 53)] Y λY2 hE2 hsel hpk=>?_
    refine aJ (w2,u1,u2,Y2,i+1) ⟨hlt,hw2,hE.trans hE2,Rws.ls (E:=170) (jw hr1<|hpk _ _<|.there<|.there .here) hok1 (hsel _ _ .here) hb1,Rws.ls (E:=170) (jw hr2<|hpk _ _<|.there<|.there<|.there .here) hok2 (hsel _ _<|.there .here) hb2⟩ (by dsimp only; omega)
  ·refine ak (cells:=[.slice aq (ic<|l.take i).length kq,.slice ay13 x.mem.post.length ky13]) Z underlying312 sJ Z Z Zz (ltn Z) λb43=>aW ?_
   refine aV Z (ak (cells:=[.slice ap (l9<|l.take i).length kp,.slice ay12 x.mem.pre.length ky12]) Z underlying312 sJ Z Z Zz (ltn Z) λb36=>aW ?_)
   refine aV Z<|aH Z Z qf Z (hgP b36) ?_
   rintro u1 h1 ⟨T1,rfl,hu1,rows1,rfl,hr1⟩
   simp only [lC,lN]
   refine aW ?_
   refine dV Z (vF Z iO Z)<|aV Z<|aH Z Z qf Z (hgQ b43) ?_
   rintro u2 h2 ⟨T2,rfl,hu2,rows2,rfl,hr2⟩
   simp only [lC,lN]
   refine aW ?_
   refine aV Z<|bf Z Z mW<|aW ?_
   refine dV Z (vF Z iP Z)<|aV Z<|bf Z Z mW<|aW ?_
   refine bA<|nK [2,4,18,19,20] Z<|ax<|xB<|xT<|cR<|sV (aI Z Z Za)<|sM Z<|sN<|nK [2,4,18,19,20] Z<|ax (dY (r:=VR u1 170 2 rows1) slq λhok1=>?_)
   refine dY (r:=VR u2 170 2 rows2) slq λhok2=>?_
   refine pO [VR u1 170 2 rows1,VR u2 170 2 rows2,pt b36 (cl [.slice ap (l9<|l.take i).length kp,.slice ay12 x.mem.pre.length ky12] 53),pt b43 (cl [.slice aq (ic<|l.take i).length kq,.slice ay13 x.mem.post.length ky13] 53)] Y λY2 hE2 hsel hpk=>?_
   refine aJ (w2,u1,u2,Y2,i+1) ⟨hlt,hw2,hE.trans hE2,Rws.ls (E:=170) (jw hr1<|hpk _ _<|.there<|.there .here) hok1 (hsel _ _ .here) hb1,Rws.ls (E:=170) (jw hr2<|hpk _ _<|.there<|.there<|.there .here) hok2 (hsel _ _<|.there .here) hb2⟩ (by dsimp only; omega)
 ·have hil:i=l.length:=by
   have:¬ i<l.length:=Zx
   omega
  subst hil
  rw [List.take_length] at hp hq ⊢
  have hjs:(ni l).length≤1099511627776:=by omega
  refine aB<|xE<|xE<|xY<|xT<|cQ<|sV (vF Z dX Z)<|sV (vY Z nO) ?_
  refine aH Z Z en197 Z (Ba hjs) ?_
  rintro u h' ⟨rfl,ys,hperm,hcs,rfl⟩
  simp only [lC,lN]
  refine sK [2,4] Z<|cQ<|sV (vF Z dX Z)<|sV (vY Z nO) ?_
  refine aH Z Z en199 Z (Bb (xs:=ys)) ?_
  rintro u h' ⟨hu,rfl⟩
  simp only [lC,lN]
  have hyl:=cpS_len ys
  rw [hcs,hperm.length_eq] at hyl
  rw [hcs]
  refine sV (vF Z dX Z)<|bf Z Z E9 ?_
  refine sK [2,4] Z<|cQ<|sV (af Z eU Z ah) ?_
  obtain ⟨ap,kp,rfl,_⟩:=id hp.form
  obtain ⟨aq,kq,rfl,_⟩:=id hq.form
  have hone2:([sv m.name,.int .i64 m.kind,u,sv m.impl.cls,sv m.impl.name,.slice ax5 m.args.length kx5,.int .i64 m.ty.kind,sv m.ty.name,.slice axy m.ty.args.length kxy,.bool m.ty.void,.bool m.ty.sep,.slice ax11 m.clients.length kx11,.slice ap (l9 l).length kp,.slice aq (ic l).length kq]:List Value).all Value.oneCell'=true:=by simp only [List.all_cons,List.all_nil,hu,Bool.and_true,Bool.true_and]; rfl
  refine ai Z Z gP Z hone2 ?_
  refine sK [2] Z<|cT (dY (r:=VR u 69 2<|(qZ<|ni l).map sdC) slq λhok=>?_)
  refine gY [VR u 69 2 ((qZ<|ni l).map sdC)] Y λY2 hE2 hsel=>?_
  have hE3:=hE.trans hE2
  exact bD (.cellN Z eU Z slq .nil) ⟨Y2,[],Z,hE3,Z,_,Z,qj (m:={ m with seeds:=qZ (ni l),pre:=l9 l,post:=ic l }) ⟨Rws.ls (E:=69) (rws_sd _) hok (hsel _ _ .here) (show (qZ<|ni l).length * 32≤reachBytes by omega),hx5.up hE3,hxy.up hE3,hx11.up hE3,hp.up hE2,hq.up hE2⟩⟩ sbr
end
section
variable {X:Res} {v v':Value} {us us':List Value}
theorem oD {P:Program} {k:FuncId} {args:Array Value} {hf:SH} {E:TypeId} {sz:Nat} {Q:Value->List (List Value)->Prop} (h:CtN P k args hf λu T=>∃ rows,T=VR u E sz rows/\Q u rows) :
  CtN P k args hf λu T=>∃ rows,T=VR u E sz rows/\Q u rows/\∃ a cp,u = .slice a rows.length cp:=λhr w hh =>
 (h hr w hh).mono λ_ _ ⟨u,h',he,⟨T,hT,rows,hR,hQ⟩,hH,hS⟩=>by
  subst hT hR
  refine ⟨u,_,he,⟨_,Z,rows,Z,hQ,?_⟩,hH,hS⟩
  rcases VR.form hH.1 with ⟨rfl,rfl⟩ | ⟨b,o,cp,rfl,_⟩
  ·exact ⟨none,0,Z⟩
  ·exact ⟨_,cp,Z⟩
theorem gp {c:FC} (h:Enc.rep X us c):∃ a b e f i,us=[sv c.name,.bool c.dfd,a,b,e,f,i]/\Ls X a c.forms/\Ls X b c.pars/\e.oneCell'=true/\Ls X f c.feats/\Ls X i c.inv:=h
def Bf (f:Fe) (x2 x3 y x9 x10 x11 x12 x13 x14:Value):List Value:=[.int .i64 f.kind,sv f.name,x2,x3,.int .i64 f.ty.kind,sv f.ty.name,y,.bool f.ty.void,.bool f.ty.sep,x9,x10,x11,x12,x13,x14]
theorem nk {f:Fe} (h:Enc.rep X us f):∃ x2 x3 y x9 x10 x11 x12 x13 x14,us=Bf f x2 x3 y x9 x10 x11 x12 x13 x14/\Ls X x2 f.clients/\Ls X x3 f.args/\Tys X y f.ty.args/\Ls X x10 f.req/\Ls X x11 f.ens/\[x9,x12,x13,x14].all Value.oneCell'=true:=by
 obtain ⟨x2,x3,ts,x9,x10,x11,x12,x13,x14,rfl,h2,h3,h4,h5,h6,h7⟩:=h
 obtain ⟨y,rfl,hy⟩:=eF h4
 exact ⟨x2,x3,y,x9,x10,x11,x12,x13,x14,Z,h2,h3,hy,h5,h6,h7⟩
theorem Ey {Y:Res} {b:Nat} {n:Nm} {y:Value} {cs:List Cla} (h:Ls Y y cs) (hr:∀ p u,Rd (pt b (cl [sv n,y] 170)) p u->Rd Y p u):Ls Y (.slice (some ⟨b,0,none⟩) 1 1) [(⟨n,cs⟩:Grp)]:=
 jv (ux:=[sv n,y]) ⟨y,rfl,h⟩ (λi hi=>hr _ _<|ah i hi) (by decide)
def preL (c:FC) (f:Fe):List Grp:=[⟨c.name,f.req⟩]
def iD (c:FC) (f:Fe):List Grp:=if f.ens=[] then [] else [⟨c.name,f.ens⟩]
def qw (c:FC) (f:Fe):List Grp:=if f.req=[] then [] else [⟨c.name,f.req⟩]

theorem own_ct {c : FC} {f : Fe} {l : List Cm} {uc uf : List Value} (hc : Enc.rep X uc c) (hf : Enc.rep X uf f) (hv : Ls X v l) (hbS : (ni l).length * 32 ≤ 1099511627776) (hbP : (l.flatMap λx => x.mem.pre).length * 40 ≤ 1099511627776) (hbQ : (l.flatMap λx => x.mem.post).length * 40 ≤ 1099511627776) :
  CtX prog 123 #[.agg uc.toArray,.agg uf.toArray,v] X [] λu Y k'=>k'=[]/\∃ us',u = .agg us'.toArray/\Enc.rep Y us' (jK c f l):=by
 have hml:maxLen=9223372036854775807:=rfl
 have hrb:reachBytes=140737488351232:=rfl
 obtain ⟨a,cap,rfl,hlc,hcm,_⟩:=id hv.form
 obtain ⟨ca,cb,ce,cf,ci,rfl,hca,hcb,hce,hcf,hci⟩:=gp hc
 obtain ⟨x2,x3,y,x9,x10,x11,x12,x13,x14,rfl,h2,h3,hy,h10,h11,h9⟩:=nk hf
 unfold Bf
 obtain ⟨a2,k2,rfl,_⟩:=id h2.form
 obtain ⟨a3,k3,rfl,_⟩:=id h3.form
 obtain ⟨ay,ky,rfl,_⟩:=id hy.form
 obtain ⟨a10,k10,rfl,_⟩:=id h10.form
 obtain ⟨a11,k11,rfl,_⟩:=id h11.form
 unfold CtX
 refine aL (n:=79) func123 Z Z (len Z) λhr w0=>?_
 refine cQ (aP Z Z λb3=>?_)
 refine aP Z Z λb4=>?_
 refine au ji λb6=>?_
 refine sK [2,3,4,6] Z<|cS<|mM (ex:=.normal) (α := {q:Nat×(Option Addr×Nat)×(Option Addr×Nat)×Res // Ext X q.2.2.2/\Ls q.2.2.2 (.slice q.2.1.1 f.args.length q.2.1.2) f.args/\Ls q.2.2.2 (.slice q.2.2.1.1 f.clients.length q.2.2.1.2) f.clients}) (λq=>[(2,.slice a l.length cap),(3,.pointer (some ⟨b3,0,none⟩)),(4,.pointer (some ⟨b4,0,none⟩)),(6,.pointer (some ⟨b6,0,none⟩)),(7,.pointer (some ⟨q.1.1,0,none⟩))]) (λq=>pt b6 (cl [.string ⟨#[]⟩,.int .i64 0,.slice none 0 0,.string ⟨#[]⟩,.string ⟨#[]⟩,.slice none 0 0,.int .i64 0,.string ⟨#[]⟩,.slice none 0 0,.bool false,.bool false,.slice none 0 0,.slice none 0 0,.slice none 0 0] 75)::pt q.1.1 (cl [sv f.name,.int .i64 f.kind,.slice none 0 0,sv c.name,sv f.name,.slice q.1.2.1.1 f.args.length q.1.2.1.2,.int .i64 f.ty.kind,sv f.ty.name,.slice ay f.ty.args.length ky,.bool f.ty.void,.bool f.ty.sep,.slice q.1.2.2.1.1 f.clients.length q.1.2.2.1.2,.slice none 0 0,.slice none 0 0] 75)::pt b3 (cl [sv c.name,.bool c.dfd,ca,cb,ce,cf,ci] 44)::pt b4 (cl [.int .i64 f.kind,sv f.name,.slice a2 f.clients.length k2,.slice a3 f.args.length k3,.int .i64 f.ty.kind,sv f.ty.name,.slice ay f.ty.args.length ky,.bool f.ty.void,.bool f.ty.sep,x9,.slice a10 f.req.length k10,.slice a11 f.ens.length k11,x12,x13,x14] 130)::q.1.2.2.2::hr) (λhcont=>?_)<|λq=>?_
 ·refine bB (ork [(0,2),(1,1),(2,2),(3,1),(4,2),(5,1),(6,2),(7,1),(8,2),(9,2),(10,1),(12,2),(13,1),(14,2),(15,1)]<|.two 11 (.two 16 (ork [(17,2),(18,0),(19,0)] .nil) 18<|ork [(16,0),(17,2),(19,0)] .nil) 18<|ork [(11,0),(16,0),(17,2),(19,0)] .nil) (λi => !(Nat.beq i 19)) mixed Zz ?_
  refine dV Z (vF Z oU Z)<|bu Z (vY Z ld9) ?_
  refine dV Z (vF Z vC Z)<|bu Z (vY Z ld3) ?_
  refine dV Z (vF Z dN Z)<|bu Z (vY Z ld9) ?_
  refine dV Z (vF Z oU Z)<|bu Z (vY Z ld9) ?_
  refine dV Z (aO (cells:=[sv c.name,sv f.name]) Z<|λ_=>Zz) ?_
  refine dV Z (vF Z rQ Z)<|bu Z (vY Z qJ) ?_
  refine dV Z (vF Z zg Z)<|bu Z (af Z fU Z<|bF (us:=[.int .i64 f.kind,sv f.name,.slice a2 f.clients.length k2,.slice a3 f.args.length k3,.int .i64 f.ty.kind,sv f.ty.name,.slice ay f.ty.args.length ky,.bool f.ty.void,.bool f.ty.sep,x9,.slice a10 f.req.length k10,.slice a11 f.ens.length k11,x12,x13,x14]) (vs:=[.int .i64 f.ty.kind,sv f.ty.name,.slice ay f.ty.args.length ky,.bool f.ty.void,.bool f.ty.sep]) (k:=4) ah Z) ?_
  refine dV Z (vF Z JS Z)<|bu Z (vY Z fI) ?_
  refine mR Z Z ?_ ?_
  ·refine aH Z Z en200 Z (oD<|rC h3) ?_
   rintro u h1 ⟨T1,rfl,rows1,rfl,⟨o1,w1⟩,ua,uk,hu⟩
   rw [w1.1] at hu; subst hu
   simp only [lC,lN]
   refine aW ?_
   refine mR Z Z ?_ ?_
   ·refine aH Z Z J5 Z (oD<|mJ h2) ?_
    rintro u h2 ⟨T2,rfl,rows2,rfl,⟨o2,w2⟩,va,vk,hu⟩
    rw [w2.1] at hu; subst hu
    simp only [lC,lN]
    refine aW ?_
    refine dV Z (aO (cells:=[sv f.name,.int .i64 f.kind,.slice none 0 0,sv c.name,sv f.name,.slice ua f.args.length uk,.int .i64 f.ty.kind,sv f.ty.name,.slice ay f.ty.args.length ky,.bool f.ty.void,.bool f.ty.sep,.slice va f.clients.length vk,.slice none 0 0,.slice none 0 0]) Z<|λ_=>Zz) ?_
    refine aV Z (au ji λb7=>aW ?_)
    refine aV Z<|ai Z Z gP Z Z<|aW ?_
    refine bA<|nK [2,3,4,6,7] Z<|ax (dY (r:=VR (.slice ua f.args.length uk) 132 6 rows1) slq λhok1=>?_)
    refine dY (r:=VR (.slice va f.clients.length vk) 9 1 rows2) slq λhok2=>?_
    refine gY [VR (.slice ua f.args.length uk) 132 6 rows1,VR (.slice va f.clients.length vk) 9 1 rows2] X λY hE hsel=>?_
    exact hcont ⟨(b7,(ua,uk),(va,vk),Y),hE,Rws.ls (E:=132) (w1.up hE) hok1 (hsel _ _ .here) h3.sizes,Rws.ls (E:=9) (w2.up hE) hok2 (hsel _ _<|.there .here) h2.sizes⟩ _ _ ⟨Z,Z,Z,Z,Z,trivial⟩ sbq
   ·refine au ji λb7=>aW ?_
    refine aV Z<|aH Z Z J5 Z (oD<|mJ h2) ?_
    rintro u h2 ⟨T2,rfl,rows2,rfl,⟨o2,w2⟩,va,vk,hu⟩
    rw [w2.1] at hu; subst hu
    simp only [lC,lN]
    refine aW ?_
    refine dV Z (aO (cells:=[sv f.name,.int .i64 f.kind,.slice none 0 0,sv c.name,sv f.name,.slice ua f.args.length uk,.int .i64 f.ty.kind,sv f.ty.name,.slice ay f.ty.args.length ky,.bool f.ty.void,.bool f.ty.sep,.slice va f.clients.length vk,.slice none 0 0,.slice none 0 0]) Z<|λ_=>Zz) ?_
    refine aV Z<|ai Z Z gP Z Z<|aW ?_
    refine bA<|nK [2,3,4,6,7] Z<|ax (dY (r:=VR (.slice ua f.args.length uk) 132 6 rows1) slq λhok1=>?_)
    refine dY (r:=VR (.slice va f.clients.length vk) 9 1 rows2) slq λhok2=>?_
    refine gY [VR (.slice ua f.args.length uk) 132 6 rows1,VR (.slice va f.clients.length vk) 9 1 rows2] X λY hE hsel=>?_
    exact hcont ⟨(b7,(ua,uk),(va,vk),Y),hE,Rws.ls (E:=132) (w1.up hE) hok1 (hsel _ _ .here) h3.sizes,Rws.ls (E:=9) (w2.up hE) hok2 (hsel _ _<|.there .here) h2.sizes⟩ _ _ ⟨Z,Z,Z,Z,Z,trivial⟩ sbq
  ·refine au ji λb7=>aW ?_
   refine aV Z<|aH Z Z en200 Z (oD<|rC h3) ?_
   rintro u h1 ⟨T1,rfl,rows1,rfl,⟨o1,w1⟩,ua,uk,hu⟩
   rw [w1.1] at hu; subst hu
   simp only [lC,lN]
   refine aW ?_
   refine aV Z<|aH Z Z J5 Z (oD<|mJ h2) ?_
   rintro u h2 ⟨T2,rfl,rows2,rfl,⟨o2,w2⟩,va,vk,hu⟩
   rw [w2.1] at hu; subst hu
   simp only [lC,lN]
   refine aW ?_
   refine dV Z (aO (cells:=[sv f.name,.int .i64 f.kind,.slice none 0 0,sv c.name,sv f.name,.slice ua f.args.length uk,.int .i64 f.ty.kind,sv f.ty.name,.slice ay f.ty.args.length ky,.bool f.ty.void,.bool f.ty.sep,.slice va f.clients.length vk,.slice none 0 0,.slice none 0 0]) Z<|λ_=>Zz) ?_
   refine aV Z<|ai Z Z gP Z Z<|aW ?_
   refine bA<|nK [2,3,4,6,7] Z<|ax (dY (r:=VR (.slice ua f.args.length uk) 132 6 rows1) slq λhok1=>?_)
   refine dY (r:=VR (.slice va f.clients.length vk) 9 1 rows2) slq λhok2=>?_
   refine gY [VR (.slice ua f.args.length uk) 132 6 rows1,VR (.slice va f.clients.length vk) 9 1 rows2] X λY hE hsel=>?_
   exact hcont ⟨(b7,(ua,uk),(va,vk),Y),hE,Rws.ls (E:=132) (w1.up hE) hok1 (hsel _ _ .here) h3.sizes,Rws.ls (E:=9) (w2.up hE) hok2 (hsel _ _<|.there .here) h2.sizes⟩ _ _ ⟨Z,Z,Z,Z,Z,trivial⟩ sbq
 obtain ⟨⟨b7,⟨ua,uk⟩,⟨va,vk⟩,Y⟩,hE,hYa,hYc⟩:=q
 dsimp only at hE hYa hYc ⊢
 have hY10:=h10.up hE
 have hY11:=h11.up hE
 refine xT<|cS<|mM (ex:=.normal) (α := {q:Value×Value×Res // Ext Y q.2.2/\Ls q.2.2 q.1 (preL c f)/\Ls q.2.2 q.2.1 ([⟨c.name,f.ens⟩]:List Grp)}) (λq=>[(2,.slice a l.length cap),(3,.pointer (some ⟨b3,0,none⟩)),(4,.pointer (some ⟨b4,0,none⟩)),(6,.pointer (some ⟨b6,0,none⟩)),(7,.pointer (some ⟨b7,0,none⟩)),(8,q.1.1),(9,q.1.2.1)]) (λq=>pt b6 (cl [.string ⟨#[]⟩,.int .i64 0,.slice none 0 0,.string ⟨#[]⟩,.string ⟨#[]⟩,.slice none 0 0,.int .i64 0,.string ⟨#[]⟩,.slice none 0 0,.bool false,.bool false,.slice none 0 0,.slice none 0 0,.slice none 0 0] 75)::pt b7 (cl [sv f.name,.int .i64 f.kind,.slice none 0 0,sv c.name,sv f.name,.slice ua f.args.length uk,.int .i64 f.ty.kind,sv f.ty.name,.slice ay f.ty.args.length ky,.bool f.ty.void,.bool f.ty.sep,.slice va f.clients.length vk,.slice none 0 0,.slice none 0 0] 75)::pt b3 (cl [sv c.name,.bool c.dfd,ca,cb,ce,cf,ci] 44)::pt b4 (cl [.int .i64 f.kind,sv f.name,.slice a2 f.clients.length k2,.slice a3 f.args.length k3,.int .i64 f.ty.kind,sv f.ty.name,.slice ay f.ty.args.length ky,.bool f.ty.void,.bool f.ty.sep,x9,.slice a10 f.req.length k10,.slice a11 f.ens.length k11,x12,x13,x14] 130)::q.1.2.2::hr) (λhcont=>?_)<|λq=>?_
 ·refine bB (ork [(0,2),(1,1),(2,2),(3,1),(4,2),(6,2),(7,1),(8,2),(9,1),(10,2)]<|.two 5 (ork [(12,2),(11,0),(13,2)] .nil) 11<|ork [(5,0),(12,2),(13,2)] .nil) (λ_=>true) mixed Zz ?_
  refine dV Z (vF Z dN Z)<|bu Z (vY Z ld9) ?_
  refine dV Z (vF Z zh Z)<|bu Z (vY Z tH) ?_
  refine dV Z (aO (cells:=[sv c.name,.slice a10 f.req.length k10]) Z<|λ_=>Zz) ?_
  refine dV Z (vF Z dN Z)<|bu Z (vY Z ld9) ?_
  refine dV Z (vF Z zi Z)<|bu Z (vY Z tH) ?_
  refine dV Z (aO (cells:=[sv c.name,.slice a11 f.ens.length k11]) Z<|λ_=>Zz) ?_
  refine mR Z Z ?_ ?_
  ·refine ak (cells:=[sv c.name,.slice a10 f.req.length k10]) Z underlying53 mX Z Z Zz (ltn Z) λb34=>aW ?_
   refine dV Z (vA Z)<|aV Z (ak (cells:=[sv c.name,.slice a11 f.ens.length k11]) Z underlying53 mX Z Z Zz (ltn Z) λb40=>aW ?_)
   refine dV Z (vA Z)<|bA<|nK [2,3,4,6,7,8,9] Z<|ax (gY [pt b34 (cl [sv c.name,.slice a10 f.req.length k10] 170),pt b40 (cl [sv c.name,.slice a11 f.ens.length k11] 170)] Y λY2 hE2 hsel=>?_)
   exact hcont ⟨(.slice (some ⟨b34,0,none⟩) 1 1,.slice (some ⟨b40,0,none⟩) 1 1,Y2),hE2,Ey (hY10.up hE2) (hsel _ _ .here),Ey (hY11.up hE2)<|hsel _ _<|.there .here⟩ _ _ ⟨Z,Z,Z,Z,Z,Z,Z,trivial⟩ sbq
  ·refine ak (cells:=[sv c.name,.slice a11 f.ens.length k11]) Z underlying53 mX Z Z Zz (ltn Z) λb40=>aW ?_
   refine aV Z (ak (cells:=[sv c.name,.slice a10 f.req.length k10]) Z underlying53 mX Z Z Zz (ltn Z) λb34=>aW ?_)
   refine dV Z (vA Z)<|dV Z (vA Z)<|bA<|nK [2,3,4,6,7,8,9] Z<|ax (gY [pt b34 (cl [sv c.name,.slice a10 f.req.length k10] 170),pt b40 (cl [sv c.name,.slice a11 f.ens.length k11] 170)] Y λY2 hE2 hsel=>?_)
   exact hcont ⟨(.slice (some ⟨b34,0,none⟩) 1 1,.slice (some ⟨b40,0,none⟩) 1 1,Y2),hE2,Ey (hY10.up hE2) (hsel _ _ .here),Ey (hY11.up hE2)<|hsel _ _<|.there .here⟩ _ _ ⟨Z,Z,Z,Z,Z,Z,Z,trivial⟩ sbq
 obtain ⟨⟨p,pq,Zq⟩,hE2,hp,hq⟩:=q
 dsimp only at hE2 hp hq ⊢
 refine xT<|cS<|cQ<|sV (vF Z zi Z)<|sV (vY Z tH) ?_
 refine sV (aF Z underlying42)<|sV (dP Z Z)<|sK [2,4,6,7,8,9,44] Z<|mM (ex:=.normal) (α := {q:Value // Ls Zq q (iD c f)}) (λq=>[(2,.slice a l.length cap),(4,.pointer (some ⟨b4,0,none⟩)),(6,.pointer (some ⟨b6,0,none⟩)),(7,.pointer (some ⟨b7,0,none⟩)),(8,p),(9,q.1)]) (λq=>pt b6 (cl [.string ⟨#[]⟩,.int .i64 0,.slice none 0 0,.string ⟨#[]⟩,.string ⟨#[]⟩,.slice none 0 0,.int .i64 0,.string ⟨#[]⟩,.slice none 0 0,.bool false,.bool false,.slice none 0 0,.slice none 0 0,.slice none 0 0] 75)::pt b7 (cl [sv f.name,.int .i64 f.kind,.slice none 0 0,sv c.name,sv f.name,.slice ua f.args.length uk,.int .i64 f.ty.kind,sv f.ty.name,.slice ay f.ty.args.length ky,.bool f.ty.void,.bool f.ty.sep,.slice va f.clients.length vk,.slice none 0 0,.slice none 0 0] 75)::pt b3 (cl [sv c.name,.bool c.dfd,ca,cb,ce,cf,ci] 44)::pt b4 (cl [.int .i64 f.kind,sv f.name,.slice a2 f.clients.length k2,.slice a3 f.args.length k3,.int .i64 f.ty.kind,sv f.ty.name,.slice ay f.ty.args.length ky,.bool f.ty.void,.bool f.ty.sep,x9,.slice a10 f.req.length k10,.slice a11 f.ens.length k11,x12,x13,x14] 130)::Zq::hr) (λhcont=>?_)<|λq=>?_
 ·refine cC Z (λhe=>?_)<|λhe=>?_
  ·have he:f.ens=[]:=Zj
   refine cR<|sA Z<|sN<|nK [2,4,6,7,8,9] Z<|ax ?_
   exact hcont ⟨.slice none 0 0,by unfold iD; rw [if_pos he]; exact Ls.nil⟩ _ _ ⟨Z,Z,Z,Z,Z,Z,trivial⟩ sbq
  ·have he:¬ f.ens=[]:=Zj
   refine cK ?_
   exact hcont ⟨pq,by unfold iD; rw [if_neg he]; exact hq⟩ _ _ ⟨Z,Z,Z,Z,Z,Z,trivial⟩ sbq
 obtain ⟨pq,hq⟩:=q
 dsimp only at hq ⊢
 obtain ⟨qa,qk,rfl,_⟩:=id hq.form
 refine xT<|cS<|cQ<|sM Z<|sV (aF Z underlying187)<|sV (dP Z Z)<|sK [2,4,6,7,8,9,47] Z<|cC Z (λhl=>?_)<|λhl=>?_
 ·have hl:l=[]:=Zm
  subst hl
  obtain ⟨pa,pk,rfl,_⟩:=id hp.form
  have hown:jK c f []={ name:=f.name,kind:=f.kind,seeds:=[⟨c.name,f.name⟩],impl:=⟨c.name,f.name⟩,args:=f.args,ty:=f.ty,clients:=f.clients,pre:=preL c f,post:=iD c f }:=rfl
  rw [hown]
  refine cQ<|sV (vF Z DZ Z)<|sV (af Z il Z<|bF (us:=[sv f.name,.int .i64 f.kind,.slice none 0 0,sv c.name,sv f.name,.slice ua f.args.length uk,.int .i64 f.ty.kind,sv f.ty.name,.slice ay f.ty.args.length ky,.bool f.ty.void,.bool f.ty.sep,.slice va f.clients.length vk,.slice none 0 0,.slice none 0 0]) (vs:=[sv c.name,sv f.name]) (k:=3) ah Z) ?_
  refine ak (cells:=[sv c.name,sv f.name]) Z underlying67 Cu Z Z Zz (ltn Z) λb50=>?_
  refine sM Z<|sM Z<|sV (vF Z dX Z)<|bf Z Z E9 ?_
  refine sV (vF Z iO Z)<|bf Z Z mW ?_
  refine sV (vF Z iP Z)<|bf Z Z mW ?_
  refine sK [2,4,6,7,8,9] Z<|cQ<|sV (af Z eU Z ah) ?_
  refine ai Z Z gP Z Z ?_
  refine sK [6] Z<|cT<|xR (gY [pt b50 (cl [sv c.name,sv f.name] 69)] Zq λY3 hE3 hsel=>?_)
  have hE5:=hE2.trans hE3
  exact bD (.cellN Z eU Z slq .nil) ⟨Y3,[],Z,(hE.trans hE2).trans hE3,Z,_,Z,qj (m:={ name:=f.name,kind:=f.kind,seeds:=[⟨c.name,f.name⟩],impl:=⟨c.name,f.name⟩,args:=f.args,ty:=f.ty,clients:=f.clients,pre:=preL c f,post:=iD c f }) ⟨jv (ux:=[sv c.name,sv f.name]) Z (λi hi=>hsel _ _ .here _ _<|ah i hi) (by decide),hYa.up hE5,(hy.up<|hE.trans hE5),hYc.up hE5,hp.up hE3,hq.up hE3⟩⟩ sbr
 ·have hl:l≠[]:=Zm
  have hown:jK c f l={ name:=f.name,kind:=f.kind,seeds:=(joined l).seeds,impl:=⟨c.name,f.name⟩,args:=f.args,ty:=f.ty,clients:=f.clients,pre:=groups [(joined l).pre,qw c f],post:=groups [(joined l).post,iD c f] }:=by unfold jK; rw [if_neg hl]; rfl
  rw [hown]
  have hjp:(joined l).pre=l9 l:=by rw [xD hl]
  have hjq:(joined l).post=ic l:=by rw [xD hl]
  have hpl:=Be l
  have hql:=xG l
  rw [<- hjp] at hpl
  rw [<- hjq] at hql
  have hpm:(qw c f).length≤1:=by unfold qw; split <;> simp
  have hqm:(iD c f).length≤1:=by unfold iD; split <;> simp
  have hj:=Dg (hv.up<|hE.trans hE2) hl hbS hbP hbQ
  unfold CtX at hj
  refine cK<|xT<|cS<|cQ<|sV (vF Z zh Z)<|sV (vY Z tH) ?_
  refine sV (aF Z underlying42)<|sV (dP Z Z)<|sK [2,6,7,8,9,60] Z<|mM (ex:=.normal) (α := {q:Value // Ls Zq q (qw c f)}) (λq=>[(2,.slice a l.length cap),(6,.pointer (some ⟨b6,0,none⟩)),(7,.pointer (some ⟨b7,0,none⟩)),(8,q.1),(9,.slice qa (iD c f).length qk)]) (λq=>pt b6 (cl [.string ⟨#[]⟩,.int .i64 0,.slice none 0 0,.string ⟨#[]⟩,.string ⟨#[]⟩,.slice none 0 0,.int .i64 0,.string ⟨#[]⟩,.slice none 0 0,.bool false,.bool false,.slice none 0 0,.slice none 0 0,.slice none 0 0] 75)::pt b7 (cl [sv f.name,.int .i64 f.kind,.slice none 0 0,sv c.name,sv f.name,.slice ua f.args.length uk,.int .i64 f.ty.kind,sv f.ty.name,.slice ay f.ty.args.length ky,.bool f.ty.void,.bool f.ty.sep,.slice va f.clients.length vk,.slice none 0 0,.slice none 0 0] 75)::pt b3 (cl [sv c.name,.bool c.dfd,ca,cb,ce,cf,ci] 44)::pt b4 (cl [.int .i64 f.kind,sv f.name,.slice a2 f.clients.length k2,.slice a3 f.args.length k3,.int .i64 f.ty.kind,sv f.ty.name,.slice ay f.ty.args.length ky,.bool f.ty.void,.bool f.ty.sep,x9,.slice a10 f.req.length k10,.slice a11 f.ens.length k11,x12,x13,x14] 130)::Zq::hr) (λhcont=>?_)<|λq=>?_
  ·refine cC Z (λhr=>?_)<|λhr=>?_
   ·have hr:f.req=[]:=by simpa using hr
    refine cR<|sA Z<|sN<|nK [2,6,7,8,9] Z<|ax ?_
    exact hcont ⟨.slice none 0 0,by unfold qw; rw [if_pos hr]; exact Ls.nil⟩ _ _ ⟨Z,Z,Z,Z,Z,trivial⟩ sbq
   ·have hr:¬ f.req=[]:=by simpa using hr
    refine cK ?_
    exact hcont ⟨p,by unfold qw; rw [if_neg hr]; exact hp⟩ _ _ ⟨Z,Z,Z,Z,Z,trivial⟩ sbq
  obtain ⟨p,hp⟩:=q
  dsimp only at hp ⊢
  obtain ⟨pa,pk,rfl,_⟩:=id hp.form
  refine xT<|cQ<|sM Z<|aH Z Z en122 Z (hj) ?_
  rintro u h2 ⟨Z2,k2,rfl,hE3,rfl,us,rfl,hrep⟩
  simp only [lC,lN]
  have honeJ:=Enc.ones hrep
  obtain ⟨j2,j5,jy,j11,j12,j13,rfl,hj2,hj5,hjy,hj11,hj12,hj13⟩:=dh hrep
  unfold gz at *
  obtain ⟨ja2,jk2,rfl,_⟩:=id hj2.form
  obtain ⟨jp12,jk12,rfl,_⟩:=id hj12.form
  obtain ⟨jp13,jk13,rfl,_⟩:=id hj13.form
  have hgb1:=lT [(joined l).pre,qw c f]
  have hgb2:=lT [(joined l).post,iD c f]
  rw [lW] at hgb1 hgb2
  have hb1:(groups [(joined l).pre,qw c f]).length * 40≤reachBytes:=by omega
  have hb2:(groups [(joined l).post,iD c f]).length * 40≤reachBytes:=by omega
  have hgP:∀ b68,CtN prog 196 #[.slice (some ⟨b68,0,none⟩) 2 2] [pt b68 (cl [.slice jp12 (joined l).pre.length jk12,.slice pa (qw c f).length pk] 53),Z2] λu T=>u.oneCell'=true/\∃ rows,T=VR u 170 2 rows/\Rws (Res.star [pt b68 (cl [.slice jp12 (joined l).pre.length jk12,.slice pa (qw c f).length pk] 53),Z2]) rows (groups [(joined l).pre,qw c f]):=λb68=>jT<|rZ (zA (b:=b68) hj12<|hp.up hE3) (by rw [lW]; omega)
  have hgQ:∀ b73,CtN prog 196 #[.slice (some ⟨b73,0,none⟩) 2 2] [pt b73 (cl [.slice jp13 (joined l).post.length jk13,.slice qa (iD c f).length qk] 53),Z2] λu T=>u.oneCell'=true/\∃ rows,T=VR u 170 2 rows/\Rws (Res.star [pt b73 (cl [.slice jp13 (joined l).post.length jk13,.slice qa (iD c f).length qk] 53),Z2]) rows (groups [(joined l).post,iD c f]):=λb73=>jT<|rZ (zA (b:=b73) hj13<|hq.up hE3) (by rw [lW]; omega)
  refine au ji λb10=>?_
  refine ai Z Z gP Z honeJ ?_
  refine sK [6,7,8,9,10] Z<|cS<|mM (ex:=.normal) (α := {q:Value×Value×Res // Ext Z2 q.2.2/\q.1.oneCell'=true/\q.2.1.oneCell'=true/\Ls q.2.2 q.1 (groups [(joined l).pre,qw c f])/\Ls q.2.2 q.2.1 (groups [(joined l).post,iD c f])}) (λq=>[(6,.pointer (some ⟨b6,0,none⟩)),(7,.pointer (some ⟨b7,0,none⟩))]) (λq=>pt b6 (cl [.string ⟨#[]⟩,.int .i64 0,.slice none 0 0,.string ⟨#[]⟩,.string ⟨#[]⟩,.slice none 0 0,.int .i64 0,.string ⟨#[]⟩,.slice none 0 0,.bool false,.bool false,.slice none 0 0,.slice none 0 0,.slice none 0 0] 75)::pt b7 (cl [sv f.name,.int .i64 f.kind,.slice ja2 (joined l).seeds.length jk2,sv c.name,sv f.name,.slice ua f.args.length uk,.int .i64 f.ty.kind,sv f.ty.name,.slice ay f.ty.args.length ky,.bool f.ty.void,.bool f.ty.sep,.slice va f.clients.length vk,q.1.1,q.1.2.1] 75)::q.1.2.2::hr) (λhcont=>?_)<|λq=>?_
  ·refine bB (ork [(0,2),(1,1),(2,2),(3,1),(4,2),(7,2),(8,1),(9,2),(12,2)]<|.two 5 (.two 6 (ork [(10,0),(11,0),(13,0),(14,2),(15,0),(16,2),(17,0)] .nil) 10<|ork [(6,0),(11,0),(13,0),(14,2),(15,0),(16,2),(17,0)] .nil) 10<|ork [(5,0),(6,0),(11,0),(13,0),(14,2),(15,0),(16,2),(17,0)] .nil) (λi => !(Nat.beq i 13 || Nat.beq i 15 || Nat.beq i 17)) mixed Zz ?_
   refine dV Z (vF Z dX Z)<|bu Z (vY Z nO) ?_
   refine dV Z (vF Z iO Z)<|bu Z (vY Z qo) ?_
   refine dV Z (vM Z)<|dV Z (vF Z iP Z)<|bu Z (vY Z qo) ?_
   refine dV Z (vM Z)<|dV Z (vF Z dX Z)<|mR Z Z ?_ ?_
   ·refine ak (cells:=[.slice jp12 (joined l).pre.length jk12,.slice pa (qw c f).length pk]) Z underlying312 sJ Z Z Zz (ltn Z) λb68=>aW ?_
    refine mR Z Z ?_ ?_
    ·refine aH Z Z qf Z (hgP b68) ?_
     rintro u1 h1 ⟨T1,rfl,hu1,rows3,rfl,hr1⟩
     simp only [lC,lN]
     refine aW ?_
     refine aV Z (ak (cells:=[.slice jp13 (joined l).post.length jk13,.slice qa (iD c f).length qk]) Z underlying312 sJ Z Z Zz (ltn Z) λb73=>aW ?_)
     refine aV Z<|aH Z Z qf Z (hgQ b73) ?_
     rintro u2 h2 ⟨T2,rfl,hu2,rows4,rfl,hr2⟩
     simp only [lC,lN]
     refine aW ?_
     refine aV Z<|bf Z Z E9<|aW ?_
     refine dV Z (vF Z iO Z)<|aV Z<|bf Z Z mW<|aW ?_
     refine dV Z (vF Z iP Z)<|aV Z<|bf Z Z mW<|aW ?_
     refine bA<|nK [6,7] Z<|ax (dY (r:=VR u1 170 2 rows3) slq λhok1=>?_)
     refine dY (r:=VR u2 170 2 rows4) slq λhok2=>?_
     refine pO [VR u1 170 2 rows3,VR u2 170 2 rows4,pt b68 (cl [.slice jp12 (joined l).pre.length jk12,.slice pa (qw c f).length pk] 53),pt b73 (cl [.slice jp13 (joined l).post.length jk13,.slice qa (iD c f).length qk] 53)] Z2 λY2 hE2 hsel hpk=>?_
     exact hcont ⟨(u1,u2,Y2),hE2,hu1,hu2,Rws.ls (E:=170) (jw hr1<|hpk _ _<|.there<|.there .here) hok1 (hsel _ _ .here) hb1,Rws.ls (E:=170) (jw hr2<|hpk _ _<|.there<|.there<|.there .here) hok2 (hsel _ _<|.there .here) hb2⟩ _ _ ⟨Z,Z,trivial⟩ sbq
    ·refine ak (cells:=[.slice jp13 (joined l).post.length jk13,.slice qa (iD c f).length qk]) Z underlying312 sJ Z Z Zz (ltn Z) λb73=>aW ?_
     refine aV Z<|aH Z Z qf Z (hgP b68) ?_
     rintro u1 h1 ⟨T1,rfl,hu1,rows3,rfl,hr1⟩
     simp only [lC,lN]
     refine aW ?_
     refine aV Z<|aH Z Z qf Z (hgQ b73) ?_
     rintro u2 h2 ⟨T2,rfl,hu2,rows4,rfl,hr2⟩
     simp only [lC,lN]
     refine aW ?_
     refine aV Z<|bf Z Z E9<|aW ?_
     refine dV Z (vF Z iO Z)<|aV Z<|bf Z Z mW<|aW ?_
     refine dV Z (vF Z iP Z)<|aV Z<|bf Z Z mW<|aW ?_
     refine bA<|nK [6,7] Z<|ax (dY (r:=VR u1 170 2 rows3) slq λhok1=>?_)
     refine dY (r:=VR u2 170 2 rows4) slq λhok2=>?_
     refine pO [VR u1 170 2 rows3,VR u2 170 2 rows4,pt b68 (cl [.slice jp12 (joined l).pre.length jk12,.slice pa (qw c f).length pk] 53),pt b73 (cl [.slice jp13 (joined l).post.length jk13,.slice qa (iD c f).length qk] 53)] Z2 λY2 hE2 hsel hpk=>?_
     exact hcont ⟨(u1,u2,Y2),hE2,hu1,hu2,Rws.ls (E:=170) (jw hr1<|hpk _ _<|.there<|.there .here) hok1 (hsel _ _ .here) hb1,Rws.ls (E:=170) (jw hr2<|hpk _ _<|.there<|.there<|.there .here) hok2 (hsel _ _<|.there .here) hb2⟩ _ _ ⟨Z,Z,trivial⟩ sbq
   ·refine ak (cells:=[.slice jp13 (joined l).post.length jk13,.slice qa (iD c f).length qk]) Z underlying312 sJ Z Z Zz (ltn Z) λb73=>aW ?_
    refine aV Z (ak (cells:=[.slice jp12 (joined l).pre.length jk12,.slice pa (qw c f).length pk]) Z underlying312 sJ Z Z Zz (ltn Z) λb68=>aW ?_)
    refine aV Z<|aH Z Z qf Z (hgP b68) ?_
    rintro u1 h1 ⟨T1,rfl,hu1,rows3,rfl,hr1⟩
    simp only [lC,lN]
    refine aW ?_
    refine aV Z<|aH Z Z qf Z (hgQ b73) ?_
    rintro u2 h2 ⟨T2,rfl,hu2,rows4,rfl,hr2⟩
    simp only [lC,lN]
    refine aW ?_
    refine aV Z<|bf Z Z E9<|aW ?_
    refine dV Z (vF Z iO Z)<|aV Z<|bf Z Z mW<|aW ?_
    refine dV Z (vF Z iP Z)<|aV Z<|bf Z Z mW<|aW ?_
    refine bA<|nK [6,7] Z<|ax (dY (r:=VR u1 170 2 rows3) slq λhok1=>?_)
    refine dY (r:=VR u2 170 2 rows4) slq λhok2=>?_
    refine pO [VR u1 170 2 rows3,VR u2 170 2 rows4,pt b68 (cl [.slice jp12 (joined l).pre.length jk12,.slice pa (qw c f).length pk] 53),pt b73 (cl [.slice jp13 (joined l).post.length jk13,.slice qa (iD c f).length qk] 53)] Z2 λY2 hE2 hsel hpk=>?_
    exact hcont ⟨(u1,u2,Y2),hE2,hu1,hu2,Rws.ls (E:=170) (jw hr1<|hpk _ _<|.there<|.there .here) hok1 (hsel _ _ .here) hb1,Rws.ls (E:=170) (jw hr2<|hpk _ _<|.there<|.there<|.there .here) hok2 (hsel _ _<|.there .here) hb2⟩ _ _ ⟨Z,Z,trivial⟩ sbq
  obtain ⟨⟨g1,g2,Y3⟩,hE4,hg1,hg2,hG1,hG2⟩:=q
  dsimp only at hE4 hg1 hg2 hG1 hG2 ⊢
  have hE5:=(hE2.trans hE3).trans hE4
  refine xT<|cQ<|sV (af Z eU Z ah) ?_
  have hone2:([sv f.name,.int .i64 f.kind,.slice ja2 (joined l).seeds.length jk2,sv c.name,sv f.name,.slice ua f.args.length uk,.int .i64 f.ty.kind,sv f.ty.name,.slice ay f.ty.args.length ky,.bool f.ty.void,.bool f.ty.sep,.slice va f.clients.length vk,g1,g2]:List Value).all Value.oneCell'=true:=by simp only [List.all_cons,List.all_nil,hg1,hg2,Bool.and_true,Bool.true_and]; rfl
  refine ai Z Z gP Z hone2 ?_
  refine sK [6] Z<|cT ?_
  exact bD (.cellN Z eU Z slq .nil) ⟨Y3,[],Z,hE.trans hE5,Z,_,Z,qj (m:={ name:=f.name,kind:=f.kind,seeds:=(joined l).seeds,impl:=⟨c.name,f.name⟩,args:=f.args,ty:=f.ty,clients:=f.clients,pre:=groups [(joined l).pre,qw c f],post:=groups [(joined l).post,iD c f] }) ⟨hj2.up hE4,hYa.up hE5,hy.up (hE.trans hE5),hYc.up hE5,hG1,hG2⟩⟩ sbr
end
end Go.Fl
