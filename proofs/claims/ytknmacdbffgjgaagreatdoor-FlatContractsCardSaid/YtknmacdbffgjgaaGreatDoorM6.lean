/-
  A range over a function within a round of another one; structs of texts held against each other. Generic: nothing of the program is named here. No condition.
-/
import Derived.Test.YtknmacdbffgjgaaGreatDoorM5
import Derived.Test.YtknmacdbffgjgaaGreatDoorM3
import Derived.Test.YtknmacdbffgjgaaGreatDoorM1
import Derived.Shelf.Lays
import Derived.Shelf.Sort.Plain
import Derived.Shelf.Slices.In.SortNone
import Derived.RangeFuncNested
set_option linter.unusedVariables false
set_option linter.unusedSimpArgs false
set_option maxRecDepth 100000
set_option maxHeartbeats 16000000
namespace Go.Hr
open Go Go.Ck Go.Proofs Go.Proofs.Tryz Go.Proofs.YtknmacdbffgjgaaGreatDoor Fx
attribute [local irreducible] Go.Ck.Sub St Cd Xt Nx DrL LsW
def okB (u:UInt8):Bool:=upper u || digit u || u.toNat == 95
def Ee (r:Int):Bool:=((decide (r<65) || decide (90<r)) && (decide (r<48) || decide (57<r))) && (r != 95)
theorem Nj {u:UInt8} (h:u.toNat<128):Ee u.toNat = !okB u:=by
 unfold Ee okB upper digit
 rw [Bool.eq_iff_iff]
 simp only [Bool.and_eq_true,Bool.or_eq_true,decide_eq_true_eq,bne_iff_ne,ne_eq,Bool.not_eq_true',Bool.or_eq_false_iff,Bool.and_eq_false_iff,decide_eq_false_iff_not,beq_eq_false_iff_ne]
 omega
theorem odd_big {r:Int} (h:128≤r):Ee r=true:=by
 unfold Ee
 simp only [Bool.and_eq_true,Bool.or_eq_true,decide_eq_true_eq,bne_iff_ne,ne_eq]
 omega
theorem FI {u:UInt8} (h:okB u=true):u.toNat<128:=by
 unfold okB upper digit at h
 simp only [Bool.or_eq_true,Bool.and_eq_true,decide_eq_true_eq,beq_iff_eq] at h
 omega
def ixO (s:Nm):Int:=match s.findIdx? (λu => !okB u) with | some i=>i | none => -1
theorem ixO_any (s:Nm):decide (0≤ixO s)=s.any λu => !okB u:=by
 unfold ixO
 cases h:s.findIdx? (λu => !okB u) with
 | none =>
  rw [List.findIdx?_eq_none_iff] at h
  symm
  show _=false
  rw [List.any_eq_false]
  intro x hx; rw [h x hx]; decide
 | some i =>
  show decide (0≤(i:Int))=_
  obtain ⟨hi,h1,_⟩:=List.findIdx?_eq_some_iff_getElem.1 h
  rw [List.any_eq_true.2 ⟨s[i],List.getElem_mem hi,h1⟩]
  exact decide_eq_true<|by omega
section
theorem Nk (r:Int):Reads prog 224 #[.int .i32 r] [] (.bool (Ee r)):=by
 unfold Ee
 refine aL (n:=21) func224 Z Z (len Z) λhr w0=>?_
 refine cQ<|sA Z<|sN<|nT<|cQ<|sM Z<|sV (aN Z Z)<|sM Z<|bC (k:=6) (d:=8) (v:=.bool (decide (r<65) || decide (90<r))) (λhcut=>aM (b:=decide (r<65)) false (λhg=>?_)<|λhg=>?_) ?_
 ·refine aC Z Z hg ?_
  refine aC Z Z hg ?_
  refine sV (vQ (bO Z hg) Z) ?_
  exact hcut _ uG
 ·refine sG Z (bG Z hg) (vM Z)<|sG Z (bG Z hg) (cu Z Z)<|sV (vP (bO Z hg) Z) ?_
  exact hcut _ uG
 refine sM Z<|bC (k:=14) (d:=16) (v:=.bool ((decide (r<65) || decide (90<r)) && (decide (r<48) || decide (57<r)))) (λhcut=>aM (b:=(decide (r<65) || decide (90<r))) true (λhg=>?_)<|λhg=>?_) ?_
 ·refine aC Z Z hg ?_
  iterate 2 refine aC rfl rfl hg ?_
  refine bS Z Z ?_
  refine bS Z Z ?_
  refine aC Z Z hg ?_
  refine sV (vP (bO Z hg) Z) ?_
  exact hcut _ uG
 ·refine sG Z (bG Z hg) (vM Z)<|sG Z (bG Z hg) (aN Z Z)<|sG Z (bG Z hg) (vM Z)<|bC (k:=13) (d:=15) (v:=.bool (decide (r<48) || decide (57<r))) (λhcut=>aM (b:=decide (r<48)) false (λhg1=>?_)<|λhg1=>?_) ?_
  ·refine aC Z Z hg1 ?_
   refine aC Z Z hg1 ?_
   refine sG Z (bG Z hg) (vQ (bO Z hg1) Z) ?_
   exact hcut _<|uH (by first | rfl | (rw [hg1]; rfl) | simp_all)<|uS Z<|uS Z<|uR
  ·refine sG Z (bG Z hg1) (vM Z)<|sG Z (bG Z hg1) (cu Z Z)<|sG Z (bG Z hg) (vP (bO Z hg1) Z) ?_
   exact hcut _<|uH (by first | rfl | (rw [hg1]; rfl) | simp_all)<|uS Z<|uS Z<|uR
  refine sV (vQ (bO Z hg) Z) ?_
  exact hcut _<|uH (by first | rfl | (rw [hg]; rfl) | simp_all) (by repeat (first | exact uR | refine uS Z ?_))
 refine sM Z<|bC (k:=18) (d:=20) (v:=.bool (((decide (r<65) || decide (90<r)) && (decide (r<48) || decide (57<r))) && (r != 95))) (λhcut=>aM (b:=((decide (r<65) || decide (90<r)) && (decide (r<48) || decide (57<r)))) true (λhg=>?_)<|λhg=>?_) ?_
 ·refine aC Z Z hg ?_
  refine aC Z Z hg ?_
  refine sV (vP (bO Z hg) Z) ?_
  exact hcut _ uG
 ·refine sG Z (bG Z hg) (vM Z)<|sG Z (bG Z hg) (bP Z Z)<|sV (vQ (bO Z hg) Z) ?_
  exact hcut _ uG
 refine sA Z<|sK [2] Z<|cT ?_
 exact aj Z ⟨Z,Z⟩ sbq
theorem Ef (s:Nm) (hl:s.length≤1099511627776):Reads prog 297 #[sv s,.func (.func 224) #[] #[],.bool true] [] (.int .i64 (ixO s)):=by
 refine aL (n:=21) func297 Z Z (len Z) λhr w0=>?_
 refine cQ<|sA Z<|sN<|nT<|cS<|cQ<|sM Z (KO Z underlying9 (ltn Z) λb10=>?_)
 refine sK [1,2,6,10] Z<|cB<|aX (σ := Nat) (λi=>[(1,.func (.func 224) #[] #[]),(2,.bool true),(10,.pointer (some ⟨b10,0,none⟩))]) (λi=>pt b10 (.stringIter ⟨⟨s⟩⟩ i)::hr) (λi=>i≤s.length/\∀ (j:Nat) (y:UInt8),j<i->s[j]? = some y->okB y=true) (λi=>s.length - i) 0 ⟨Nat.zero_le _,λj y hj=>by omega⟩ ?_
 rintro i ⟨hi,hok⟩
 by_cases hlt:i<s.length
 ·have hu:=Zy hlt
  refine cQ<|M3 Z slq hlt (ltn Z) ?_
  refine sV (ag Z Z)<|sN<|nT<|cS<|aQ Z ?_
  refine cK<|xT<|cB<|cQ<|sV (ag Z Z)<|sV (ag Z Z)<|sA Z<|sA Z<|sK [1,2,7,8,10] Z<|cQ<|sM Z<|sM Z ?_
  by_cases hq:okB s[i]=true
  ·have hd:=Ci hu<|FI hq
   have hod:Ee (s[i]).toNat=false:=by rw [Nj (FI hq),hq]; rfl
   rw [hd]
   refine aY Z Z en224 Z (Nk (((s[i]).toNat:Nat):Int)) ?_
   rw [hod]
   refine sM Z<|sV (oJ underlying4 Z Z)<|sK [1,2,7,10,19] Z<|aG Z ?_
   refine cK<|xB<|aJ (i+1) ⟨hlt,λj y hj hy=>?_⟩ (by show _ - _<_ - _; omega)
   by_cases hji:j=i
   ·subst hji; rw [hu] at hy; cases hy; exact hq
   ·exact hok j y (by omega) hy
  ·have hq : okB s[i] = false := Zu
   have hod:Ee ((Utf8.decode ⟨⟨s⟩⟩ i).1:Nat)=true:=by
    rcases Nat.lt_or_ge (s[i]).toNat 128 with h | h
    ·rw [Ci hu h]
     show Ee ((s[i]).toNat:Nat)=true
     rw [Nj h,hq]; rfl
    ·exact odd_big (by have:=KQ hu h; omega)
   refine aY Z Z en224 Z (Nk (((Utf8.decode ⟨⟨s⟩⟩ i).1:Nat):Int)) ?_
   rw [hod]
   refine sM Z<|sV (oJ underlying4 Z Z)<|sK [1,2,7,10,19] Z<|aQ Z ?_
   refine cQ<|sM Z<|sA Z<|sK [6] Z<|cT<|xW<|xR<|xW<|xR ?_
   rw [show ixO s=(i:Int) by
    unfold ixO
    rw [show s.findIdx? (λu => !okB u)=some i from List.findIdx?_eq_some_iff_getElem.2 ⟨hlt,by rw [hq]; rfl,λj hj=>by
     rw [hok j _ hj (Zy (Nat.lt_trans hj hlt))]; decide⟩]]
   exact aj Z ⟨Z,Z⟩ sbq
 ·refine cQ<|KP Z slq (by omega) (ltn Z) ?_
  refine sV (ag Z Z)<|sN<|nT<|cS<|aG Z ?_
  refine aB<|xE<|xE<|xY<|xT<|cQ<|sA Z<|sK [6] Z<|cT ?_
  rw [show ixO s = -1 by
   unfold ixO
   rw [show s.findIdx? (λu => !okB u)=none from List.findIdx?_eq_none_iff.2 λx hx=>by
    obtain ⟨j,hj,rfl⟩:=List.getElem_of_mem hx
    rw [hok j _ (by omega) (Zy hj)]; rfl]]
  exact aj Z ⟨Z,Z⟩ sbq
theorem Eg (s:Nm) (hl:s.length≤1099511627776):Reads prog 270 #[sv s,.func (.func 224) #[] #[]] [] (.int .i64 (ixO s)):=by
 refine aL (n:=8) func270 Z Z (len Z) λhr w0=>?_
 refine cQ<|sA Z<|sN<|nT<|cQ<|sM Z<|sM Z<|aY Z Z en297 Z (Ef s hl) ?_
 refine sA Z<|sK [4] Z<|cT ?_
 exact aj Z ⟨Z,Z⟩ sbq
theorem yY (s:Nm) (hl:s.length≤1099511627776):Reads prog 225 #[sv s,.func (.func 224) #[] #[]] [] (.bool (s.any λu => !okB u)):=by
 refine aL (n:=9) func225 Z Z (len Z) λhr w0=>?_
 refine cQ<|sA Z<|sN<|nT<|cQ<|sM Z<|sM Z<|aY Z Z en270 Z (Eg s hl) ?_
 refine sV (nE Z Z)<|sA Z<|sK [4] Z<|cT ?_
 rw [ixO_any]
 exact aj Z ⟨Z,Z⟩ sbq
theorem Eh:reserved=[[73,78,84,69,71,69,82],[66,79,79,76,69,65,78],[65,78,89],[78,79,78,69]]:=by decide +kernel
theorem Ii (u:UInt8) (t:Nm):named (u::t)=(!((((decide (((u::t).length:Int)<1) || decide (20<((u::t).length:Int))) || ((u::t).any λu => !okB u)) || decide ((u.toNat:Int)<65)) || decide (90<(u.toNat:Int))) && !reserved.contains (u::t)):=by
 have h1:((u::t).any λu => !okB u) = !((u::t).all λb=>upper b || digit b || b.toNat == 95):=by
  rw [List.any_eq_not_all_not]
  congr 2
  funext x
  simp [okB]
 rw [h1]
 unfold named upper
 rw [Bool.eq_iff_iff]
 simp only [Bool.and_eq_true,Bool.or_eq_true,decide_eq_true_eq,Bool.not_eq_true',Bool.or_eq_false_iff,decide_eq_false_iff_not,Bool.not_eq_false',List.length_cons]
 constructor
 ·rintro ⟨⟨⟨a1,a2⟩,a3⟩,a4⟩
  exact ⟨⟨⟨⟨⟨by omega,by omega⟩,a3⟩,by omega⟩,by omega⟩,a4⟩
 ·rintro ⟨⟨⟨⟨⟨_,a1⟩,a3⟩,a5⟩,a6⟩,a4⟩
  exact ⟨⟨⟨by omega,by omega,by omega⟩,a3⟩,a4⟩
theorem lI (s:Nm):Reads prog 139 #[sv s] [] (.bool (named s)):=by
 cases s with
 | nil =>
  refine aL (n:=31) func139 Z Z (len Z) λhr w0=>?_
  refine cQ<|sA Z<|sN<|nT<|cQ<|sA Z<|sN<|nT<|cS<|cQ<|sM Z<|sV (DT Z underlying9)<|sV (aN Z Z) ?_
  refine sM Z<|aC Z Z Z ?_
  iterate 2 refine aC rfl rfl rfl ?_
  refine sV (vQ Z Z)<|sM Z<|aC Z Z Z ?_
  iterate 2 refine aC rfl rfl rfl ?_
  refine sV (vQ Z Z)<|sM Z<|aC Z Z Z ?_
  iterate 2 refine aC rfl rfl rfl ?_
  refine sV (vQ Z Z)<|sM Z<|aC Z Z Z ?_
  iterate 2 refine aC rfl rfl rfl ?_
  refine sV (vQ Z Z)<|sK [0,2,26] Z<|aQ Z ?_
  refine cQ<|sA Z<|sK [2] Z<|cT<|xR ?_
  exact aj Z ⟨Z,Z⟩ sbq
 | cons u t =>
  rw [Ii]
  refine aL (n:=31) func139 Z Z (len Z) λhr w0=>?_
  refine cQ<|sA Z<|sN<|nT<|cQ<|sA Z<|sN<|nT<|cS<|cQ<|sM Z<|sV (DT Z underlying9)<|sV (aN Z Z) ?_
  refine sM Z<|bC (k:=8) (d:=11) (v:=.bool (decide (((u::t).length:Int)<1) || decide (20<((u::t).length:Int)))) (λhcut=>aM (b:=decide (((u::t).length:Int)<1)) false (λhg=>?_)<|λhg=>?_) ?_
  ·refine aC Z Z hg ?_
   iterate 2 refine aC rfl rfl hg ?_
   refine sV (vQ (bO Z hg) Z) ?_
   exact hcut _ uG
  ·refine sG Z (bG Z hg) (vM Z)<|sG Z (bG Z hg) (DT Z underlying9)<|sG Z (bG Z hg) (cu Z Z)<|sV (vP (bO Z hg) Z) ?_
   exact hcut _ uG
  refine sM Z<|bC (k:=13) (d:=16) (v:=.bool ((decide (((u::t).length:Int)<1) || decide (20<((u::t).length:Int))) || ((u::t).any λu => !okB u))) (λhcut=>aM (b:=decide (((u::t).length:Int)<1) || decide (20<((u::t).length:Int))) false (λhg=>?_)<|λhg=>?_) ?_
  ·refine aC Z Z hg ?_
   iterate 2 refine aC rfl rfl hg ?_
   refine sV (vQ (bO Z hg) Z) ?_
   exact hcut _ uG
  ·refine sG Z (bG Z hg) (vM Z)<|sG Z (bG Z hg) (vM Z)<|bU Z (bG Z hg) Z Z en225 Z (yY (u::t) (by simp only [Bool.or_eq_false_iff,decide_eq_false_iff_not] at hg; omega)) ?_
   refine sV (vP (bO Z hg) Z) ?_
   exact hcut _ uG
  refine sM Z<|bC (k:=18) (d:=21) (v:=.bool (((decide (((u::t).length:Int)<1) || decide (20<((u::t).length:Int))) || ((u::t).any λu => !okB u)) || decide ((u.toNat:Int)<65))) (λhcut=>aM (b:=(decide (((u::t).length:Int)<1) || decide (20<((u::t).length:Int))) || ((u::t).any λu => !okB u)) false (λhg=>?_)<|λhg=>?_) ?_
  ·refine aC Z Z hg ?_
   iterate 2 refine aC rfl rfl hg ?_
   refine sV (vQ (bO Z hg) Z) ?_
   exact hcut _ uG
  ·refine sG Z (bG Z hg) (vM Z)<|sG Z (bG Z hg) (uZ (k:=0) Z Z underlying9 Z Z)<|sG Z (bG Z hg) (aN Z Z)<|sV (vP (bO Z hg) Z) ?_
   exact hcut _ uG
  refine sM Z<|bC (k:=23) (d:=26) (v:=.bool ((((decide (((u::t).length:Int)<1) || decide (20<((u::t).length:Int))) || ((u::t).any λu => !okB u)) || decide ((u.toNat:Int)<65)) || decide (90<(u.toNat:Int)))) (λhcut=>aM (b:=((decide (((u::t).length:Int)<1) || decide (20<((u::t).length:Int))) || ((u::t).any λu => !okB u)) || decide ((u.toNat:Int)<65)) false (λhg=>?_)<|λhg=>?_) ?_
  ·refine aC Z Z hg ?_
   iterate 2 refine aC rfl rfl hg ?_
   refine sV (vQ (bO Z hg) Z) ?_
   exact hcut _ uG
  ·refine sG Z (bG Z hg) (vM Z)<|sG Z (bG Z hg) (uZ (k:=0) Z Z underlying9 Z Z)<|sG Z (bG Z hg) (cu Z Z)<|sV (vP (bO Z hg) Z) ?_
   exact hcut _ uG
  refine sK [0,2,26] Z<|cC Z (λhx=>?_)<|λhx=>?_
  ·refine cQ<|sA Z<|sK [2] Z<|cT<|xR ?_
   rw [hx]
   exact aj Z ⟨Z,Z⟩ sbq
  ·refine cK<|xT<|cQ ?_
   rw [hx,Eh]
   refine ak (cells:=[sv [73,78,84,69,71,69,82],sv [66,79,79,76,69,65,78],sv [65,78,89],sv [78,79,78,69]]) Z underlying40 fH Z Z Zz (ltn Z) λb27=>?_
   refine Ar (Au (b:=b27) (n:=4) (sz:=1) (E:=9) (([[73,78,84,69,71,69,82],[66,79,79,76,69,65,78],[65,78,89],[78,79,78,69]]:List Nm).map nC) Z (by simp [nC]) Z<|by decide) ?_
   simp only [lC,lN]
   refine nY (r:=NR (.slice (some ⟨b27,0,none⟩) 4 4) [[73,78,84,69,71,69,82],[66,79,79,76,69,65,78],[65,78,89],[78,79,78,69]]) slq λhok=>?_
   refine sM Z<|aY Z Z Ea Z (fw (iL hok) (u::t)<|by decide) ?_
   refine sV (bg Z)<|sA Z<|sK [2] Z<|cT ?_
   exact aj Z ⟨Z,Z⟩ sbq
end
theorem Ei : ∀ (xs o : List Nm), o.Nodup -> (dd o xs).length ≤ o.length + xs.length /\ ((dd o xs).length < o.length + xs.length ↔ ¬ (o ++ xs).Nodup)
 | [],o,ho=>by simp [dd,ho]
 | x::t,o,ho=>by
  show (dd (step o x) t).length≤_/\((dd (step o x) t).length<_↔_)
  by_cases hx:x∈o
  ·rw [lq hx]
   have:=(Ei t o ho).1
   rw [List.length_cons]
   refine ⟨by omega,λ_ hn=>?_,λ_=>by omega⟩
   exact (List.nodup_append.1 hn).2.2 x hx x (by simp) Z
  ·rw [nD hx]
   have hn:(o++[x]).Nodup:=List.nodup_append.2 ⟨ho,by simp,λa ha b hb e=>by simp at hb; exact hx (hb ▸ e ▸ ha)⟩
   have:=Ei t (o++[x]) hn
   rw [List.length_append,List.length_singleton,List.append_assoc] at this
   rw [List.length_cons]
   simp only [lC,lN] at this
   rw [show o.length+(t.length+1)=o.length+1+t.length by omega]
   exact this
def twM (xs:List Nm):List (Nm×Unit):=xs.foldl (λF x=>fT F x ()) []
theorem tw_keys (xs:List Nm):(twM xs).map (·.1)=dd [] xs:=by
 have key:∀ (xs:List Nm) (F:List (Nm×Unit)),(xs.foldl (λF x=>fT F x ()) F).map (·.1)=dd (F.map (·.1)) xs:=by
  intro xs
  induction xs with
  | nil=>intro F; rfl
  | cons x t ih =>
   intro F
   rw [List.foldl_cons,ih]
   show dd _ t=dd (step _ x) t
   congr 1
   cases h:dW F x with
   | none=>rw [ET h,nD (zM.1 h),List.map_append]; rfl
   | some u=>rw [Ca h,lq (KL h)]
 exact key xs []
theorem tw_less (xs:List Nm):decide (((twM xs).length:Int)<xs.length) = !decide xs.Nodup:=by
 have h1:(twM xs).length=(dd [] xs).length:=by rw [<- tw_keys,List.length_map]
 have h2:=Ei xs [] List.nodup_nil
 rw [h1]
 simp only [List.length_nil,Nat.zero_add,List.nil_append] at h2
 rw [Bool.eq_iff_iff,decide_eq_true_eq,Bool.not_eq_true',decide_eq_false_iff_not,<- h2.2]
 omega
theorem tw_take {xs:List Nm} {i:Nat} (h:i<xs.length):twM (xs.take (i+1))=fT (twM (xs.take i)) xs[i] ():=by
 unfold twM
 rw [List.take_succ_eq_append_getElem h,List.foldl_append]; rfl
def tV (_:Unit):Value:=.bool true
theorem mvG_len {α : Type} (g : α -> Value) (F:List (Nm × α)):(mvG g F).length=F.length:=by simp [mvG]
section
variable {S:Res} {v:Value}
theorem Nl (p:Nm) (a b c d e:Value) (h1:[sv p,a,b,c,d,e].all Value.oneCell'=true):Reads prog 141 #[.agg #[sv p,a,b,c,d,e]] [] (sv p):=by
 refine aL (n:=5) func141 Z Z (len Z) λhr w0=>?_
 refine cQ (aP Z Z λb1=>?_)
 refine sA Z<|sK [1,2] Z<|cQ<|sV (vF Z gH Z)<|sV (vY Z ld9) ?_
 refine sA Z<|sK [2] Z<|cT ?_
 exact aj Z ⟨Z,Z⟩ sbq
theorem KT {ps:List Nm} (hP:Row S 6 parC v ps) (hl:ps.length≤1099511627776):Reads prog 140 #[v,.func (.func 141) #[] #[]] [S] (.bool (!decide ps.Nodup)):=by
 obtain ⟨a,cap,rfl,_⟩:=id hP
 refine aL (n:=25) func140 Z Z (len Z) λhr w0=>?_
 refine cQ<|sA Z<|sN<|nT<|cQ (eH (ltn Z) λb8=>?_)
 refine sA Z<|sK [0,1,4,5] Z<|cS<|cQ<|sM Z<|sV (aF Z underlying39)<|sM Z<|sN<|nT<|cB ?_
 rw [show ([]:List (Bs×Value))=mvG tV (twM<|ps.take 0) from rfl]
 refine aX (σ := Nat) (λi=>[(0,.slice a ps.length cap),(1,.func (.func 141) #[] #[]),(5,.map (some b8)),(9,.slice a ps.length cap),(10,.int .i64 ps.length),(11,.int .i64 (i:Nat))]) (λi=>mps b8 (mvG tV<|twM<|ps.take i)::S::hr) (λi=>i≤ps.length) (λi=>ps.length - i) 0 (Nat.zero_le _) ?_
 intro i hi
 refine cQ<|sV (aN Z Z)<|sN<|nT<|cS<|cC Z (λhd=>?_)<|λhd=>?_
 ·have hlt:i<ps.length:=Zx
  obtain ⟨b,o,cap2,c1,c2,c3,c4,c5,hv2,hrd,hone⟩:=Ih hP<|Zy hlt
  refine cK<|xT<|cS<|cB<|cQ<|sV (vI (k:=i) (congrArg some hv2) Z oL Z hlt Z)<|sV (af Z qp Z hrd) ?_
  refine au vD λb7=>?_
  refine ai Z Z r9 Z hone ?_
  refine sK [0,1,5,7,9,10,11] Z<|cR<|sM Z<|sM Z<|sV (af Z qp Z ah) ?_
  refine aY Z Z en141 Z (Nl ps[i] c1 c2 c3 c4 c5 hone) ?_
  refine cz Z Z Z yC slq ?_
  refine sN<|nK [0,1,5,9,10,11] Z<|ax<|xB<|xT<|cR<|sV (aI Z Z Za)<|sM Z<|sN<|nK [0,1,5,9,10,11] Z<|ax ?_
  rw [show eu (mvG tV<|twM<|ps.take i) ps[i] (.bool true)=mvG tV (twM<|ps.take (i+1)) by rw [tw_take hlt]; exact om tV _ _ ()]
  refine aJ (i+1) hlt (by show _ - _<_ - _; omega)
 ·have hil:i=ps.length:=by
   have:¬ i<ps.length:=Zx
   omega
  subst hil
  rw [List.take_length]
  refine aB<|xE<|xE<|xY<|xT<|cQ<|sM Z<|sV (v_mlen Z underlying265 slq) ?_
  refine sM Z<|sV (aF Z underlying39)<|sV (aN Z Z)<|sA Z<|sK [4] Z<|cT ?_
  rw [mvG_len,tw_less]
  exact aj Z ⟨Z,Z⟩ sbq
end
def numC (us:List Value) (n:Int):Prop:=us=[.int .i64 n]
def orI (xs:List Int):Int:=(xs.find? (· != 0)).getD 0
theorem ring_lt {a b:List Nm}:decide (orI [cmpI a.length b.length,cmpL a b]<0)=zI a b:=by
 unfold orI zI cmpI
 rw [<- J9]
 rcases Nat.lt_trichotomy a.length b.length with h | h | h
 ·have h1:(a.length:Int)<b.length:=by omega
  simp [h1,h]
 ·simp only [h,Int.lt_irrefl,if_false,List.find?_cons,bne_self_eq_false,Nat.lt_irrefl,decide_false,Bool.false_or,decide_true,Bool.true_and]
  by_cases hc:cmpL a b=0
  ·simp [hc]
  ·have:(cmpL a b != 0)=true:=Zl
   rw [this]; rfl
 ·have h1:¬ (a.length:Int)<b.length:=by omega
  have h2:(b.length:Int)<a.length:=by omega
  have h3:¬ a.length<b.length:=by omega
  have h4:¬ a.length=b.length:=by omega
  simp [h1,h2,h3,h4]
section
variable {S:Res} {v:Value} {l:Sys}
theorem Or_ct {xs:List Int} (hv:Row S 1 numC v xs) (hl:xs.length≤1099511627776):Reads prog 227 #[v] [S] (.int .i64 (orI xs)):=by
 obtain ⟨a,cap,rfl,_⟩:=id hv
 refine aL (n:=18) func227 Z Z (len Z) λhr w0=>?_
 refine cQ<|sA Z<|sN<|nT<|cQ<|sA Z<|sN<|nT<|cS<|cQ<|sM Z<|sV (aF Z underlying333)<|sM Z ?_
 refine sK [2,3,6,7,8] Z<|cB<|aX (σ := Nat) (λi=>[(3,.int .i64 0),(6,.slice a xs.length cap),(7,.int .i64 xs.length),(8,.int .i64 (i:Nat))]) (λ_=>S::hr) (λi=>i≤xs.length/\orI xs=orI (xs.drop i)) (λi=>xs.length - i) 0 ⟨Nat.zero_le _,Z⟩ ?_
 rintro i ⟨hi,ho⟩
 refine cQ<|sV (aN Z Z)<|sN<|nT<|cS<|cC Z (λhd=>?_)<|λhd=>?_
 ·have hlt:i<xs.length:=Zx
  obtain ⟨b,o,cap2,u,hv2,hrd,hu⟩:=Row.at1 hv<|Zy hlt
  simp only [numC,List.cons.injEq,and_true] at hu
  subst hu
  have hx:xs.drop i=xs[i]::xs.drop (i+1):=(List.getElem_cons_drop hlt).symm
  refine cK<|xT<|cS<|cB<|cQ<|sV (vI (k:=i) (congrArg some hv2) Z sl333 Z hlt Z)<|sV (vY Z ld3) ?_
  refine sA Z<|sK [3,5,6,7,8] Z<|cQ<|sM Z<|sM Z<|sV (bP Z Z)<|sK [3,5,6,7,8,14] Z<|cC Z (λhn=>?_)<|λhn=>?_
  ·refine cQ<|sM Z<|sA Z<|sK [2] Z<|cT<|xW<|xR<|xR<|xW<|xR ?_
   rw [ho,hx,show orI (xs[i]::xs.drop (i+1))=xs[i] by unfold orI; rw [List.find?_cons_of_pos (by exact hn)]; rfl]
   exact aj Z ⟨Z,Z⟩ sbq
  ·refine cK<|xB<|xT<|cR<|sV (aI Z Z Za)<|sM Z<|sN<|nK [3,6,7,8] Z<|ax<|aJ (i+1) ⟨hlt,by rw [ho,hx]; unfold orI; rw [List.find?_cons_of_neg (by rw [hn]; decide)]⟩ (by show _ - _<_ - _; omega)
 ·have hil:i=xs.length:=by
   have:¬ i<xs.length:=Zx
   omega
  rw [ho,List.drop_eq_nil_of_le (by omega)]
  refine aB<|xE<|xE<|xY<|xT<|cQ<|sM Z<|sA Z<|sK [2] Z<|cT ?_
  exact aj Z ⟨Z,Z⟩ sbq
theorem Ij {b o n cp j:Nat} {E:TypeId} {sz:Nat} {rows:List (List Value)} {u:Value} (hj:rows.flatten[j]? = some u):Rd (VR (.slice (some ⟨b,o,none⟩) n cp) E sz rows) ⟨b,o+j,none⟩ u:=λw hw=>by
 obtain ⟨h1,h2⟩:=hw
 rcases h2 with ⟨h3,_⟩ | ⟨b',o',cp',pre,jj,h3,hb,hp,_⟩
 ·cases h3
 ·cases h3
  have hb':w.heap[b]? = _:=hb
  have hlt:=(List.getElem?_eq_some_iff.1 hj).1
  simp only [World.cell?,hb',cl,List.getElem?_toArray,Option.isSome_none,Bool.false_eq_true,if_false]
  rw [List.getElem?_append_right (by omega),hp,show o+j - o=j by omega,List.getElem?_append_left hlt,hj]
theorem mG (xs:List Nm):(xs.map nC).flatten=xs.map sv:=by
 induction xs with
 | nil=>rfl
 | cons x t ih=>rw [List.map_cons,List.flatten_cons,ih]; rfl
theorem KU {xs:List Nm} {j:Nat} {u:Value} (h:((xs.dropLast).map nC).flatten[j]? = some u):(xs.map nC).flatten[j]? = some u:=by
 rw [mG,List.getElem?_map] at h ⊢
 obtain ⟨x,hx,he⟩:=Option.map_eq_some_iff.1 h
 rw [List.dropLast_eq_take,List.getElem?_take] at hx
 split at hx
 ·rw [hx]; simp [he]
 ·cases hx
theorem Nn {xs:List Nm} {u:Value} (h:u∈(xs.map nC).flatten):u.oneCell'=true:=by
 rw [mG] at h
 obtain ⟨x,_,rfl⟩:=List.mem_map.1 h
 rfl
def BestV (w:Value) (b:Option (List Nm)):Prop:=∃ wa cp,w = .slice wa (b.getD []).length cp/\wa.isNone=b.isNone
def Ej (l:Sys) (i:Nat):List (List Nm):=(l.take i).flatMap λx=>(par l x.name).filterMap<|ql l x.name
theorem Np (l:Sys):Ej l l.length=zJ l:=by
 unfold Ej zJ nms
 rw [List.take_length,List.flatMap_map]
theorem KV {l:Sys} {i:Nat} (h:i<l.length):Ej l (i+1)=Ej l i++(par l (l[i]).name).filterMap (ql l (l[i]).name):=by
 unfold Ej
 rw [List.take_succ_eq_append_getElem h,List.flatMap_append,List.flatMap_singleton]
theorem Ik (l:Sys) (to c:Nm):(mY l to c).length≤l.length+1:=by
 unfold mY
 cases h:gQ l to c with
 | none=>simp
 | some k=>have:=rU h; simp only [fE]; omega
theorem mem_len {l:Sys} {i k:Nat} {cn:Nm} {q:List Nm} (h:some q=(Ej l i++((par l cn).take k).filterMap (ql l cn)).foldl better none):q.length≤l.length+1:=by
 have hm:=((mg _ _).2 q h.symm).resolve_left<|by simp
 have key:∀ c p,ql l c p=some q->q.length≤l.length+1:=λc p hc=>by
  unfold ql at hc
  obtain ⟨m,hdm,rfl⟩:=Option.map_eq_some_iff.1 hc
  have:=rU hdm
  simp [fE]; omega
 rcases List.mem_append.1 hm with hm | hm
 ·obtain ⟨x,_,hx⟩:=List.mem_flatMap.1 hm
  obtain ⟨p,_,hp⟩:=List.mem_filterMap.1 hx
  exact key _ p hp
 ·obtain ⟨p,_,hp⟩:=List.mem_filterMap.1 hm
  exact key _ p hp
theorem Ke {b:Nat} {x y:Int}:Row (pt b (cl [.int .i64 x,.int .i64 y] 3)) 1 numC (.slice (some ⟨b,0,none⟩) 2 2) [x,y]:=
 ⟨some ⟨b,0,none⟩,2,rfl,Nat.le_refl _,by decide,(λh=>by cases h),λi z hi=>by
  match i,hi with
  | 0,hi=>cases hi; exact ⟨b,0,[.int .i64 x],rfl,rfl,λj hj=>by match j,hj with | 0,_=>exact bV rfl,rfl⟩
  | 1,hi=>cases hi; exact ⟨b,0,[.int .i64 y],rfl,rfl,λj hj=>by match j,hj with | 0,_=>exact bV rfl,rfl⟩⟩
theorem KW {cs:List (List Nm)} {r:List Nm}:(cs++[r]).foldl better none=better (cs.foldl better none) r:=by simp [List.foldl_append]
theorem Ring_ct (hv:l8 S v l) (hF:Fine l):CtN prog 142 #[v] [S] λu T=>∃ w,u = .tuple #[w,.bool (ring l).isSome]/\w.oneCell'=true/\T=NR w ((ring l).getD []):=by
 obtain ⟨a,cap,rfl,_⟩:=id hv
 have hFl:=hF.len
 refine qH (n:=60) func142 Z Z (len Z) λhr w0=>?_
 refine cQ<|sA Z<|sA Z<|sN<|nT<|cQ<|sM Z<|aH Z Z en166 Z (of_ct hv<|by omega) ?_
 rintro u h' ⟨mb,rfl,rfl⟩
 refine au sP λb4=>?_
 refine ai Z Z nM Z Z ?_
 refine sK [0,2,3,4] Z<|cQ (au al40 λb5=>?_)
 refine sN<|nT<|cS<|cQ<|sM Z<|sV (aF Z underlying22)<|sM Z<|sK [2,3,4,5,13,14,15] Z<|cB<|dK (cO 9 1)<|nI ?_
 simp only [lC,lN]
 refine nH (σ := Nat×(Value×Option (List Nm))×List Nat) (λq=>q.2.2.map mk) (λq=>[(4,.pointer (some ⟨b4,0,none⟩)),(5,.pointer (some ⟨b5,0,none⟩)),(13,.slice a l.length cap),(14,.int .i64 l.length),(15,.int .i64 (q.1:Nat))]) (λq=>Res.star (marks q.2.2)::pt b5 (cl [q.2.1.1] 40)::NR q.2.1.1 (q.2.1.2.getD [])::pt b4 (cl [.slice a l.length cap,.map (some mb)] 164)::S::mps mb (bH l)::hr) (λq=>q.1≤l.length/\BestV q.2.1.1 q.2.1.2/\q.2.1.2=(Ej l q.1).foldl better none) (λq=>l.length - q.1) (0,(.slice none 0 0,none),[]) ⟨Nat.zero_le _,⟨none,0,Z,Z⟩,Z⟩ Z ⟨Z,Z,Z,Z,Z,trivial⟩ sbq ?_
 rintro ⟨i,⟨w0,best⟩,bs⟩ ⟨hi,hbv,hbest⟩
 simp only at hi hbv hbest
 obtain ⟨wa,wcp,rfl,hwa⟩:=id hbv
 dsimp only
 refine cQ<|sV (aN Z Z)<|sN<|nT<|cS<|cC Z (λhd=>?_)<|λhd=>?_
 ·have hlt:i<l.length:=Zx
  obtain ⟨b,o,cap2,d,f,pa,pc,c2,fa,fc,j2,hv2,hrd,hP,hone⟩:=tL hv<|Zy hlt
  have hpre:=KV hlt
  generalize hcn:(l[i]).name=cn at *
  refine cK<|xT<|cS<|cB<|cQ<|sV (vI (k:=i) (congrArg some hv2) Z ve Z hlt Z)<|sV (af Z gG Z hrd) ?_
  refine au nS λb7=>?_
  refine ai Z Z lY Z hone ?_
  refine sK [4,5,7,13,14,15] Z<|cQ<|sV (af Z kF Z ah) ?_
  refine sV (vF Z dN Z)<|sV (vY Z ld9) ?_
  refine aH Z Z Fq Z (jV Z) ?_
  rintro u h' ⟨n1,n2,rfl,rfl⟩
  refine sK [4,5,7,13,14,15,22] Z<|cB ?_
  simp only [lC,lN]
  unfold seqv
  refine iY Z Fu λyl db rec hst hpe hps hasg hbo hkn2=>?_
  refine ⟨_,Ct.perm (FD (σ := Value×Option (List Nm)) (b1:=n1) (b2:=n2) (mb:=mb) (yl:=yl) (c:=cn) (λq=>pt yl (.loop rec)::pt db (.deferred<|some [])::pt b7 (cl [sv cn,d,f,.slice pa l[i].parents.length pc,c2,.slice fa l[i].feats fc,j2] 44)::Res.star (marks bs)::pt b5 (cl [q.1] 40)::NR q.1 (q.2.getD [])::pt b4 (cl [.slice a l.length cap,.map (some mb)] 164)::hr)
   (λk q=>BestV q.1 q.2/\q.2=(Ej l i++((par l cn).take k).filterMap (ql l cn)).foldl better none) (λ_ _=>False) (_,best) ⟨hbv,by rw [hbest]; simp⟩ hv hF.few ?_) ?_,?_⟩
  ·rintro k ⟨w, bst⟩ p hk ⟨hbv2, hb2⟩
   simp only at hbv2 hb2
   obtain ⟨hkl,hke⟩:=List.getElem?_eq_some_iff.1 hk
   have hpm:=List.mem_of_getElem? hk
   have htk:((par l cn).take (k+1)).filterMap (ql l cn)=((par l cn).take k).filterMap (ql l cn)++(ql l cn p).toList:=by
    rw [List.take_succ_eq_append_getElem hkl,hke,List.filterMap_append]
    congr 1
   obtain ⟨wa2,wcp2,rfl,hwa2⟩:=id hbv2
   refine Yc.perm (qF (n:=60) (rec:=rec) (args:=[sv p]) (hf:=pt db (.deferred<|some [])::pt b7 (cl [sv cn,d,f,.slice pa l[i].parents.length pc,c2,.slice fa l[i].feats fc,j2] 44)::Res.star (marks bs)::pt b5 (cl [.slice wa2 (bst.getD []).length wcp2] 40)::NR (.slice wa2 (bst.getD []).length wcp2) (bst.getD [])::pt b4 (cl [.slice a l.length cap,.map (some mb)] 164)::S::mps mb (bH l)::hr) (by rw [hps]; rfl) hkn2 (by rw [hps]; decide) ?_) (by exact (by repeat (first | exact Pm.refl | refine Pm.cons slq ?_):Pm _ _).perm)
   intro hr2 w1
   rw [hasg,hps,hbo]
   simp only [lC,lN]
   refine cR<|sA Z<|sN<|nK [4,5,7,8] Z<|ax<|lu Z slq (by first | rfl | assumption) ?_
   refine cB<|cQ<|sV (af Z kF Z ah) ?_
   refine sM Z<|sV (vF Z dN Z)<|sV (vY Z ld9) ?_
   refine aH Z Z en226 Z (FH hv hF p cn) ?_
   rintro u h' ⟨T,rfl,sa,scp,rfl,hsa,rfl⟩
   simp only [lC,lN]
   refine sA Z<|sK [5,7,9] Z<|cS<|cQ<|sM Z<|sV (dI Z Z underlying40)<|sK [5,7,9,30] Z ?_
   have hsl:=Ik l cn p
   rw [hsa]
   cases hdp:gQ l cn p
   ·have hcd:ql l cn p=none:=by unfold ql; rw [hdp]; rfl
    refine aQ Z ?_
    refine aB<|xE<|xY<|dB slq (.inl ⟨Z,(_,bst),⟨hbv2,?_⟩,Z⟩) ?_
    ·show bst=_
     rw [htk,hcd,hb2]; simp
    ·rw [dC hst hpe]
     exact sbq
   ·rename_i m
    have hml:=rU hdp
    have hcd:ql l cn p=some (cn::(short l cn m p).dropLast):=by unfold ql; rw [hdp]; rfl
    have hsr:mY l cn p=short l cn m p:=by unfold mY; rw [hdp]
    rw [hsr] at hsl ⊢
    refine fJ (r:=NR (.slice sa (short l cn m p).length scp)<|short l cn m p) slq λ⟨fh,hok⟩=>?_
    obtain ⟨ub,uo,rfl⟩:∃ ub uo,sa=some ⟨ub,uo,none⟩:=by
     rcases VR.form hok with ⟨he,_⟩ | ⟨ub,uo,uc,he,_⟩
     ·injection he with e1 _ _
      rw [e1,hdp] at hsa; cases hsa
     ·injection he with e1 _ _
      exact ⟨ub,uo,e1⟩
    have hscp:(short l cn m p).length≤scp:=by
     rcases VR.form hok with ⟨he,_⟩ | ⟨ub',uo',uc,he,hc1,_⟩
     ·cases he
     ·injection he with _ _ e3
      rw [List.length_map] at hc1; omega
    refine aG Z ?_
    refine cK<|xT<|cS<|jk (ork [(0,2),(1,1),(3,2),(4,2),(5,2),(6,2),(7,1),(2,0),(8,0),(9,2)] .nil) (λi => !(Nat.beq i 8)) [pt b7 (cl [sv cn,d,f,.slice pa l[i].parents.length pc,c2,.slice fa l[i].feats fc,j2] 44)] mixed Zz ?_
    refine dV Z (vF Z dN Z)<|bu Z (vY Z ld9) ?_
    refine dV Z (vM Z)<|dV Z (vM Z)<|dV Z (aF Z underlying40)<|dV Z (Cb Z Z Za)<|bu Z (jU (hi:=m) Z Z jm (by rw [fE]; omega) (by rw [fE] at hscp; omega)) ?_
    refine aV Z (ak (cells:=[sv cn]) Z underlying40 fH Z Z Zz (ltn Z) λb33=>aW ?_)
    refine aV rfl<|Ar (p:=.cons .here .nil) (Au (b:=b33) (n:=1) (sz:=1) (E:=9) [nC cn] rfl (by simp [nC]) rfl<|by decide) (dZ (v:=.slice (some ⟨b33,0,none⟩) 1 1) ((short l cn m p).dropLast.map nC) rfl rfl underlying40 fH rfl (by decide) slq (λr hr=>by obtain ⟨x,_,rfl⟩:=List.mem_map.1 hr; rfl) (by simp [fE]) (λj u2 hu2=>⟨NR (.slice (some ⟨ub,uo,none⟩) (short l cn m p).length scp) (short l cn m p),_,slq,Ij<|KU hu2⟩) (λu2 hu2=>Nn hu2) (by simp; omega) (by simp; omega) (ltn rfl) λv3 hv3 hv0=>(aW ?_))
    rw [show [nC cn]++(short l cn m p).dropLast.map nC=(cn::(short l cn m p).dropLast).map nC from rfl]
    refine dV Z (vA Z)<|bA<|nK [5,10] Z<|nT<|cS (fJ (r:=NR v3 (cn::(short l cn m p).dropLast)) slq λ⟨fh2,hok2⟩=>?_)
    obtain ⟨vb,vo,vc,rfl⟩:∃ vb vo vc,v3 = .slice (some ⟨vb,vo,none⟩) (cn::(short l cn m p).dropLast).length vc:=by
     rcases VR.form hok2 with ⟨_,he⟩ | ⟨vb,vo,vc,he,_⟩
     ·cases he
     ·exact ⟨vb,vo,vc,by rw [he,List.length_map]⟩
    have hrl:(cn::(short l cn m p).dropLast).length≤900002:=by simp [fE]; omega
    generalize cn::(short l cn m p).dropLast=r at *
    rw [hcd] at htk
    have hround:∀ b',b'=better bst r->b'=(Ej l i++((par l cn).take (k+1)).filterMap (ql l cn)).foldl better none:=λb' hb'=>by
     rw [hb',htk,<- List.append_assoc,Option.toList_some,KW,<- hb2]
    cases bst
    ·obtain rfl:wa2=none:=by cases wa2 with | none=>rfl | some x=>cases hwa2
     refine bB (ork [(0,1),(1,1),(2,2),(3,2),(4,2),(5,1),(6,2),(7,1),(8,2),(9,1),(10,1),(11,1),(12,1),(13,2),(14,2)] .nil) (λ_=>true) mixed Zz ?_
     refine bu Z (vY Z fI) ?_
     refine bu Z (dI Z Z underlying40)<|dV Z (vM Z)<|jB Z Z Z Z ?_
     refine jB Z Z Z Z ?_
     refine lD Z Z Z Z ?_
     refine jB Z Z Z Z ?_
     refine lD Z Z Z Z ?_
     refine jB Z Z Z Z ?_
     iterate 4 refine lD rfl rfl rfl rfl ?_
     refine jB Z Z Z Z ?_
     refine dV Z (vQ Z Z)<|bA<|nK [5,10,54] Z<|nT<|aQ Z ?_
     refine cR<|sM Z<|bf Z Z yU ?_
     refine sN<|nK [] Z<|ax<|xB<|dB slq (.inl ⟨Z,(.slice (some ⟨vb,vo,none⟩) r.length vc,some r),⟨⟨some ⟨vb,vo,none⟩,vc,Z,Z⟩,hround (some r) Z⟩,Z⟩) ?_
     rw [dC hst hpe]
     exact sbq
    ·rename_i q
     obtain ⟨qa,rfl⟩:∃ x,wa2=some x:=by cases wa2 with | none=>cases hwa2 | some x=>exact ⟨x,rfl⟩
     have hql:=mem_len hb2
     simp only [Option.getD_some]
     refine fJ (r:=NR (.slice (some qa) q.length wcp2) q) slq λ⟨fh3,hokq⟩=>?_
     refine bB (ork [(0,1),(1,1),(2,2),(3,2),(4,2),(5,1),(6,2),(7,1),(8,2),(9,1),(10,1),(11,0),(12,0),(13,2),(14,2)] .nil) (λi => !(Nat.beq i 11 || Nat.beq i 12)) mixed Zz ?_
     refine bu Z (vY Z fI) ?_
     refine bu Z (dI Z Z underlying40)<|dV Z (vM Z)<|fG Z Z Z (vM Z)<|fG Z Z Z (aF Z underlying40)<|lw Z Z Z (vY Z fI) ?_
     refine fG Z Z Z (aF Z underlying40)<|zf Z Z Z Z Z en228 Z (cmpI_ct r.length q.length) ?_
     refine fG Z Z Z (vM Z)<|lw Z Z Z (vY Z fI) ?_
     refine zf Z Z Z Z Z en229 Z (cmpL_ct (iL ⟨fh2,hok2⟩) (iL ⟨fh3,hokq⟩) (by omega)<|by omega) ?_
     refine JJ Z Z Z<|ku Z Z (ak (cells:=[.int .i64 (cmpI r.length q.length),.int .i64 (cmpL r q)]) Z underlying333 nN Z Z Zz (ltn Z) λb51=>aW ?_)
     refine JJ Z Z Z<|ku Z Z<|aH Z Z en227 Z (Or_ct (xs:=[cmpI r.length q.length,cmpL r q]) Ke<|by simp) ?_
     rintro u h' ⟨rfl,rfl⟩
     simp only [lC,lN]
     refine aW ?_
     refine fG Z Z Z (aN Z Z)<|dV Z (vP Z Z)<|bA<|nK [5,10,54] Z<|nT ?_
     rw [ring_lt]
     refine cC Z (λhbt=>?_)<|λhbt=>?_
     ·refine cR<|sM Z<|bf Z Z yU ?_
      refine sN<|nK [] Z<|ax<|xB<|dB slq (.inl ⟨Z,(.slice (some ⟨vb,vo,none⟩) r.length vc,some r),⟨⟨some ⟨vb,vo,none⟩,vc,Z,Z⟩,hround (some r) (by show _=(if zI r q=true then some r else some q); rw [if_pos hbt])⟩,Z⟩) ?_
      rw [dC hst hpe]
      exact sbq
     ·refine cK<|xB<|dB slq (.inl ⟨Z,(.slice (some qa) q.length wcp2,some q),⟨⟨some qa,wcp2,Z,Z⟩,hround (some q) (by show _=(if zI r q=true then some r else some q); rw [if_neg (by rw [hbt]; decide)])⟩,Z⟩) ?_
      rw [dC hst hpe]
      exact sbq
  ·exact (by repeat (first | exact Pm.refl | refine Pm.cons slq ?_):Pm _ _).perm
  ·rintro u h' ⟨rfl,(⟨⟨w,bst⟩,⟨hbv2,hb2⟩,rfl⟩ | ⟨_,_,hfalse,_⟩)⟩
   ·simp only at hbv2 hb2
    rw [List.take_length,<- hpre] at hb2
    refine ⟨rec,_,slq,(by rw [hst]; simp),?_⟩
    rw [hpe]
    dsimp only
    refine xB<|xB<|xT<|cR<|sV (aI Z Z Za)<|sM Z<|sN<|nK [4,5,13,14,15] Z<|ax<|jl slq slq ?_
    refine kY (i+1,(w,bst),db::bs) ⟨hlt,hbv2,hb2⟩ (by show _ - _<_ - _; omega) Z ⟨Z,Z,Z,Z,Z,trivial⟩ sbq
   ·exact hfalse.elim
 ·have hil:i=l.length:=by
   have:¬ i<l.length:=Zx
   omega
  subst hil
  rw [Np] at hbest
  have hbr:best=ring l:=hbest
  refine aB<|xE<|xE<|xY<|xT<|cS<|bB (ork [(0,1),(1,1),(2,1),(3,2),(4,2)] .nil) (λ_=>true) mixed Zz ?_
  refine bu Z (vY Z fI) ?_
  refine bu Z (vY Z fI) ?_
  refine bu Z (yT Z Z underlying40)<|dV Z (vA Z)<|dV Z (vA Z)<|bA<|nK [2,3] Z<|nT<|cT ?_
  rw [show (!wa.isNone)=(ring l).isSome by rw [hwa,hbr]; cases ring l <;> rfl]
  refine DL (bs:=bs) Z Z ⟨NR (.slice wa (best.getD []).length wcp) (best.getD []),Z,_,Z,Z,by rw [hbr]⟩ sbq
end
end Go.Hr
namespace Go.Hr
open Go Go.Ck Go.Proofs Go.Proofs.YtknmacdbffgjgaaGreatDoor Fx
attribute [local irreducible] Go.Ck.Sub St Cd Xt Nx DrL LsW
section
variable {S S':Res} {v v':Value}
end
end Go.Hr
namespace Go.Hr
open Go Go.Ck Go.Proofs Go.Proofs.Tryz Go.Proofs.YtknmacdbffgjgaaGreatDoor Fx
attribute [local irreducible] Go.Ck.Sub St Cd Xt Nx DrL LsW
def ixP (g:Nm->Bool) (xs:List Nm):Int:=match xs.findIdx? g with | some i=>i | none => -1
section
variable {S:Res} {v:Value} {l:Sys} {kf:FuncId} {cp:Array Value} {g:Nm->Bool}
theorem Nq {mb:Nat} (hv:l8 S v l) (hF:Fine l) (hE:Ck.Enters prog kf) (hf:∀ x∈nms l,Reads prog kf (#[]++[sv x].toArray++cp) [S] (.bool (g x))):CtN prog 189 #[.agg #[v,.map (some mb)],.func (.func kf) #[] cp] [S] λu T=>u.oneCell'=true/\T=NR u ((nms l).filter g):=by
 obtain ⟨a,cap,rfl,_⟩:=id hv
 have hFl:=hF.len
 have hnl:(nms l).length=l.length:=by simp [nms]
 refine aL (n:=26) func189 Z Z (len Z) λhr w0=>?_
 refine cQ (aP Z Z λb2=>?_)
 refine sA Z<|sK [1,2,4] Z<|cQ<|sA Z<|sN<|nT<|cS<|cQ<|sV (vF Z D6 Z)<|sV (vY Z Af) ?_
 refine sV (aF Z underlying22)<|sM Z<|sK [1,4,5,9,10,11] Z<|cB<|dK (cO 9 1)<|aX (σ := Value×Nat) (λq=>[(1,.func (.func kf) #[] cp),(5,q.1),(9,.slice a l.length cap),(10,.int .i64 l.length),(11,.int .i64 (q.2:Nat))]) (λq=>NR q.1 (((nms l).take q.2).filter g)::S::hr) (λq=>q.1.oneCell'=true/\q.2≤l.length) (λq=>l.length - q.2) (.slice none 0 0,0) ⟨Z,Nat.zero_le _⟩ ?_
 rintro ⟨w,i⟩ ⟨hw,hi⟩
 simp only at hw hi
 dsimp only
 refine cQ<|sV (aN Z Z)<|sN<|nT<|cS<|cC Z (λhd=>?_)<|λhd=>?_
 ·have hlt:i<l.length:=Zx
  obtain ⟨b,o,cap2,d,f,pa,pc,c2,fa,fc,j2,hv2,hrd,hP,hone⟩:=tL hv<|Zy hlt
  have hlt':i<(nms l).length:=by omega
  have hnm:(nms l)[i]=(l[i]).name:=by simp [nms]
  have hmem:(l[i]).name∈nms l:=by rw [<- hnm]; exact List.getElem_mem hlt'
  have hll:(((nms l).take i).filter g).length≤900000:=Nat.le_trans (List.length_filter_le _ _) (by rw [List.length_take]; omega)
  have ht:((nms l).take (i+1)).filter g=((nms l).take i).filter g++(if g (l[i]).name=true then [(l[i]).name] else []):=by
   rw [List.take_succ_eq_append_getElem hlt',List.filter_append,hnm]
   congr 1
   by_cases hg:g (l[i]).name=true <;> simp [hg]
  refine cK<|xT<|cS<|cB<|cQ<|sV (vI (k:=i) (congrArg some hv2) Z ve Z hlt Z)<|sV (af Z gG Z hrd) ?_
  refine au nS λb7=>?_
  refine ai Z Z lY Z hone ?_
  refine sK [1,5,7,9,10,11] Z<|cQ<|sM Z<|sV (vF Z dN Z)<|sV (vY Z ld9) ?_
  refine aY Z Z hE Z ((hf (l[i]).name hmem)) ?_
  refine sK [1,5,7,9,10,11,18] Z<|cC Z (λhe=>?_)<|λhe=>?_
  ·rw [if_pos he] at ht
   refine cR<|sM Z<|sV (vF Z dN Z)<|sV (vY Z ld9) ?_
   refine ak (cells:=[sv (l[i]).name]) Z underlying40 fH Z Z Zz (ltn Z) λb22=>?_
   refine dZ [nC (l[i]).name] Z Z underlying40 fH Z (by decide) (show Sel _ (NR w<|((nms l).take i).filter g) _ from slq) (by simp [nC]) Z (λj u2 hu2=>bT<|bV<|by simpa [nC] using hu2) (by simp [nC,Value.oneCell']) (by rw [List.length_map]; omega) (by rw [List.length_map]; omega) (ltn Z) λw3 hw3 _=>?_
   rw [show (((nms l).take i).filter g).map nC++[nC (l[i]).name]=(((nms l).take (i+1)).filter g).map nC by rw [ht]; simp]
   refine sA Z<|sN<|nK [1,5,9,10,11] Z<|ax<|xB<|xT<|cR<|sV (aI Z Z Za)<|sM Z<|sN<|nK [1,5,9,10,11] Z<|ax ?_
   refine aJ (w3,i+1) ⟨hw3,hlt⟩ (by show _ - _<_ - _; omega)
  ·rw [if_neg (by rw [he]; decide),List.append_nil] at ht
   refine cK<|xB<|xT<|cR<|sV (aI Z Z Za)<|sM Z<|sN<|nK [1,5,9,10,11] Z<|ax ?_
   rw [<- ht]
   refine aJ (w,i+1) ⟨hw,hlt⟩ (by show _ - _<_ - _; omega)
 ·have hil:i=l.length:=by
   have:¬ i<l.length:=Zx
   omega
  subst hil
  rw [<- hnl,List.take_length]
  refine aB<|xE<|xE<|xY<|xT<|cQ<|sM Z<|sA Z<|sK [4] Z<|cT ?_
  exact aj Z ⟨_,Z,hw,Z⟩ sbq
end
section
variable {S:Res} {v:Value} {l:Sys}
theorem FJ (hv:l8 S v l):Ct prog 63 #[v] [S] λu h'=>u = .tuple #[.int .i64 (check l).1,sv (check l).2]/\h'=[S]:=by
 obtain ⟨a,cap,rfl,_⟩:=id hv
 refine aL (n:=89) func63 Z Z (len Z) λhr w0=>?_
 refine cQ<|sA Z<|sA Z<|sN<|nT<|cS<|cQ<|sM Z<|sV (aF Z underlying22)<|sV (cu Z Z)<|sK [0,2,3,17] Z<|cC Z (λh24=>?_)<|λh24=>?_
 ·have h24:24<l.length:=by
   have:(24:Int)<l.length:=by simpa using h24
   omega
  refine cQ<|sA Z<|sA Z<|sK [2,3] Z<|cT<|xR ?_
  rw [EU h24]
  exact aj Z ⟨Z,Z⟩ sbq
 ·have h24:l.length≤24:=by
   have:¬ (24:Int)<l.length:=by simpa using h24
   omega
  refine cK<|xT<|cQ<|sM Z<|aH Z Z en138 Z (Fz hv<|by omega) ?_
  rintro u h' ⟨mb,rfl,rfl⟩
  simp only [lC,lN]
  refine sA Z<|sK [0,2,3,4] Z<|cS<|cQ<|sM Z<|sV (aF Z underlying22)<|sM Z<|sN<|nT<|cB<|aX (σ := Nat) (λi=>[(0,.slice a l.length cap),(4,.map (some mb)),(20,.slice a l.length cap),(21,.int .i64 l.length),(22,.int .i64 (i:Nat))]) (λ_=>mps mb (bH l)::S::hr) (λi=>i≤l.length/\∀ (j:Nat) (y:Cls),j<i->l[j]? = some y->alone l j y=0) (λi=>l.length - i) 0 ⟨Nat.zero_le _,λj y hj=>by omega⟩ ?_
  rintro i ⟨hi,hb⟩
  refine cQ<|sV (aN Z Z)<|sN<|nT<|cS<|cC Z (λhd=>?_)<|λhd=>?_
  ·have hlt:i<l.length:=Zx
   have hxi:=Zy hlt
   obtain ⟨b,o,cap2,d,f,pa,pc,c2,fa,fc,j2,hv2,hrd,hP,hone⟩:=tL hv hxi
   generalize l[i]=x at *
   refine cK<|xT<|cS<|cB<|cQ<|sM Z<|sV (vI (k:=i) (congrArg some hv2) Z ve Z hlt Z)<|sV (af Z gG Z hrd) ?_
   refine au nS λb6=>?_
   refine sA Z<|ai Z Z lY Z hone ?_
   refine sK [0,4,5,6,20,21,22] Z<|cB<|cQ<|sV (vF Z eY Z)<|sV (vY Z lZ) ?_
   refine sV (aF Z underlying39)<|sV (cu Z Z)<|sA Z<|sK [0,4,5,6,20,21,22,27] Z<|cC Z (λh4=>?_)<|λh4=>?_
   ·have h4:4<x.parents.length:=by
     have:(4:Int)<x.parents.length:=by simpa using h4
     omega
    have ha:alone l i x=3:=by unfold alone; rw [if_pos h4]
    refine cS<|bB (ork [(0,2),(1,1),(2,2),(3,2)] .nil) (λ_=>true) mixed Zz ?_
    refine dV Z (vF Z dN Z)<|bu Z (vY Z ld9) ?_
    refine dV Z (vA Z)<|dV Z (vA Z)<|bA<|nK [2,3] Z<|nT<|cT<|xW<|xW<|xR<|xR<|xW<|xR ?_
    rw [mh h24 hxi hb (by rw [ha]; decide),ha]
    exact aj Z ⟨Z,Z⟩ sbq
   ·have h4:¬ 4<x.parents.length:=by
     have:¬ (4:Int)<x.parents.length:=by simpa using h4
     omega
    refine cQ<|sV (vF Z dN Z)<|sV (vY Z ld9) ?_
    refine aY Z Z en139 Z (lI x.name) ?_
    refine sV (bg Z)<|sA Z<|sK [0,4,5,6,20,21,22,34] Z<|cC Z (λhnn=>?_)<|λhnn=>?_
    ·have hnn:named x.name=false:=by simpa using hnn
     have ha:alone l i x=4:=by unfold alone; rw [if_neg h4,if_pos hnn]
     refine cS<|bB (ork [(0,2),(1,1),(2,2),(3,2)] .nil) (λ_=>true) mixed Zz ?_
     refine dV Z (vF Z dN Z)<|bu Z (vY Z ld9) ?_
     refine dV Z (vA Z)<|dV Z (vA Z)<|bA<|nK [2,3] Z<|nT<|cT<|xW<|xW<|xR<|xR<|xW<|xR ?_
     rw [mh h24 hxi hb (by rw [ha]; decide),ha]
     exact aj Z ⟨Z,Z⟩ sbq
    ·have hnn:named x.name=true:=by simpa using hnn
     obtain ⟨k, hk, hki⟩ : ∃ k, idx l x.name = some k /\ k ≤ i := by
      cases hx:idx l x.name with
      | none =>
       unfold idx at hx
       rw [List.findIdx?_eq_none_iff] at hx
       have:=hx x<|List.mem_of_getElem? hxi
       simp at this
      | some k =>
       refine ⟨k,Z,?_⟩
       obtain ⟨_,_,h3⟩:=List.findIdx?_eq_some_iff_getElem.1 hx
       rcases Nat.lt_or_ge i k with h | h
       ·have:=h3 i h
        obtain ⟨_,he⟩:=List.getElem?_eq_some_iff.1 hxi
        rw [he] at this; simp at this
       ·exact h
     refine cS<|cQ<|sM Z<|sV (vF Z dN Z)<|sV (vY Z ld9) ?_
     refine sV (gq (show (bK (bH l) x.name).getD (.int .i64 0) = .int .i64 (k:Int) by rw [tO,hk]; rfl)<|bI Z Z gJ nN slq) ?_
     refine sM Z<|sV (aN Z Z)<|sA Z<|sK [0,4,6,20,21,22,41] Z<|cC Z (λhk1=>?_)<|λhk1=>?_
     ·have hk1:k<i:=by
       have:(k:Int)<i:=by simpa using hk1
       omega
      have ha:alone l i x=6:=by
       unfold alone
       rw [if_neg h4,if_neg (by rw [hnn]; decide),if_pos (.inl (by rw [hk]; intro e; cases e; omega))]
      refine cK<|xT ?_
      rw [show decide ((k:Int)<(i:Int))=true from decide_eq_true (by omega)]
      refine aQ Z ?_
      refine cS<|bB (ork [(0,2),(1,1),(2,2),(3,2)] .nil) (λ_=>true) mixed Zz ?_
      refine dV Z (vF Z dN Z)<|bu Z (vY Z ld9) ?_
      refine dV Z (vA Z)<|dV Z (vA Z)<|bA<|nK [2,3] Z<|nT<|cT<|xW<|xW<|xR<|xR<|xW<|xR ?_
      rw [mh h24 hxi hb (by rw [ha]; decide),ha]
      exact aj Z ⟨Z,Z⟩ sbq
     ·have hk1:k=i:=by
       have:¬ (k:Int)<i:=by simpa using hk1
       omega
      subst hk1
      refine cR<|sV (vF Z eY Z)<|sV (vY Z lZ) ?_
      refine aY Z Z en140 Z (KT hP<|by omega) ?_
      refine sA Z<|sK [0,4,6,20,21,22,41] Z<|cC Z (λhtw=>?_)<|λhtw=>?_
      ·have htw:¬ x.parents.Nodup:=by simpa using htw
       have ha:alone l k x=6:=by
        unfold alone
        rw [if_neg h4,if_neg (by rw [hnn]; decide),if_pos (.inr htw)]
       refine cS<|bB (ork [(0,2),(1,1),(2,2),(3,2)] .nil) (λ_=>true) mixed Zz ?_
       refine dV Z (vF Z dN Z)<|bu Z (vY Z ld9) ?_
       refine dV Z (vA Z)<|dV Z (vA Z)<|bA<|nK [2,3] Z<|nT<|cT<|xW<|xW<|xR<|xR<|xW<|xR ?_
       rw [mh h24 hxi hb (by rw [ha]; decide),ha]
       exact aj Z ⟨Z,Z⟩ sbq
      ·have htw:x.parents.Nodup:=by simpa using htw
       have ha:alone l k x=0:=gT.2 ⟨by omega,hnn,hk,htw⟩
       refine cK<|xB<|xB<|xT<|cR<|sV (aI Z Z Za)<|sM Z<|sN<|nK [0,4,20,21,22] Z<|ax<|aJ (k+1) ⟨hlt,λj y hj hy=>?_⟩ (by show _ - _<_ - _; omega)
       by_cases hji:j=k
       ·subst hji; rw [hxi] at hy; cases hy; exact ha
       ·exact hb j y (by omega) hy
  ·have hil:i=l.length:=by
    have:¬ i<l.length:=Zx
    omega
   have hball:∀ (j:Nat) (y:Cls),l[j]? = some y->alone l j y=0:=λj y hj=>hb j y (by rw [hil]; exact (List.getElem?_eq_some_iff.1 hj).1) hj
   refine aB<|xE<|xE<|xY<|xT<|cS<|cQ<|sM Z<|sV (aF Z underlying22)<|sM Z<|sK [0,4,54,55,56] Z<|cB<|aX (σ := Nat) (λi=>[(0,.slice a l.length cap),(4,.map (some mb)),(54,.slice a l.length cap),(55,.int .i64 l.length),(56,.int .i64 (i:Nat))]) (λ_=>mps mb (bH l)::S::hr) (λi=>i≤l.length/\∀ (j:Nat) (y:Cls),j<i->l[j]? = some y->lost l y=false) (λi=>l.length - i) 0 ⟨Nat.zero_le _,λj y hj=>by omega⟩ ?_
   rintro i2 ⟨hi2,hls⟩
   refine cQ<|sV (aN Z Z)<|sN<|nT<|cS<|cC Z (λhd2=>?_)<|λhd2=>?_
   ·have hlt:i2<l.length:=Zw
    have hxi:=Zy hlt
    obtain ⟨b,o,cap2,d,f,pa,pc,c2,fa,fc,j2,hv2,hrd,hP,hone⟩:=tL hv hxi
    have hpx:=(gT.1<|hball _ _ hxi).1
    generalize l[i2]=x at *
    refine cK<|xT<|cS<|cB<|cQ<|sV (vI (k:=i2) (congrArg some hv2) Z ve Z hlt Z)<|sV (af Z gG Z hrd) ?_
    refine au nS λb8=>?_
    refine ai Z Z lY Z hone ?_
    refine sK [0,4,8,54,55,56] Z<|cQ<|sV (vF Z eY Z)<|sV (vY Z lZ) ?_
    refine sV (aF Z underlying39)<|sM Z<|sK [0,4,8,54,55,56,61,62,63] Z<|cB<|aX (σ := Nat) (λk=>[(0,.slice a l.length cap),(4,.map (some mb)),(8,.pointer (some ⟨b8,0,none⟩)),(54,.slice a l.length cap),(55,.int .i64 l.length),(56,.int .i64 (i2:Nat)),(61,.slice pa x.parents.length pc),(62,.int .i64 x.parents.length),(63,.int .i64 (k:Nat))]) (λ_=>pt b8 (cl [sv x.name,d,f,.slice pa x.parents.length pc,c2,.slice fa x.feats fc,j2] 44)::mps mb (bH l)::S::hr) (λk=>k≤x.parents.length/\∀ (m:Nat) (p:Nm),m<k->x.parents[m]? = some p->isC l p=true) (λk=>x.parents.length - k) 0 ⟨Nat.zero_le _,λj y hj=>by omega⟩ ?_
    rintro k ⟨hk,hpk⟩
    refine cQ<|sV (aN Z Z)<|sN<|nT<|cS<|cC Z (λhd3=>?_)<|λhd3=>?_
    ·have hkl:k<x.parents.length:=Zr
     have hpi:=Zy hkl
     obtain ⟨pb,po,pcap,q1,q2,q3,q4,q5,hpv,hprd,hpone⟩:=Ih hP hpi
     generalize x.parents[k]=p at *
     refine cK<|xT<|cS<|cB<|cQ<|sV (vI (k:=k) (congrArg some hpv) Z oL Z hkl Z)<|sV (af Z qp Z hprd) ?_
     refine au vD λb10=>?_
     refine ai Z Z r9 Z hpone ?_
     refine sK [0,4,8,10,54,55,56,61,62,63] Z<|cQ<|sM Z<|sV (vF Z gH Z)<|sV (vY Z ld9) ?_
     refine sV (dR Z Z gJ nN slq) ?_
     refine sM Z<|sV (ag Z Z)<|sV (ag Z Z)<|sA Z<|sA Z<|sK [0,4,8,12,54,55,56,61,62,63] Z<|cQ<|sM Z<|sV (bg Z)<|sK [0,4,8,54,55,56,61,62,63,75] Z ?_
     rw [qV]
     refine cC Z (λhno=>?_)<|λhno=>?_
     ·have hno:isC l p=false:=Zd
      have hlost:lost l x=true:=List.any_eq_true.2 ⟨p,List.mem_of_getElem? hpi,by rw [hno]; rfl⟩
      refine cS<|bB (ork [(0,2),(1,1),(2,2),(3,2)] .nil) (λ_=>true) mixed Zz ?_
      refine dV Z (vF Z dN Z)<|bu Z (vY Z ld9) ?_
      refine dV Z (vA Z)<|dV Z (vA Z)<|bA<|nK [2,3] Z<|nT<|cT<|xW<|xR<|xR<|xW<|xW<|xR<|xR<|xW<|xR ?_
      rw [H5 h24 hball hxi hls hlost]
      exact aj Z ⟨Z,Z⟩ sbq
     ·have hno:isC l p=true:=Zd
      refine cK<|xB<|xT<|cR<|sV (aI Z Z Za)<|sM Z<|sN<|nK [0,4,8,54,55,56,61,62,63] Z<|ax<|aJ (k+1) ⟨hkl,λm q hm hq=>?_⟩ (by show _ - _<_ - _; omega)
      by_cases hmk:m=k
      ·subst hmk; rw [hpi] at hq; cases hq; exact hno
      ·exact hpk m q (by omega) hq
    ·have hkl:k=x.parents.length:=by
      have:¬ k<x.parents.length:=Zr
      omega
     refine aB<|xE<|xE<|xY<|xB<|xT<|cR<|sV (aI Z Z Za)<|sM Z<|sN<|nK [0,4,54,55,56] Z<|ax<|aJ (i2+1) ⟨hlt,λj y hj hy=>?_⟩ (by show _ - _<_ - _; omega)
     by_cases hji:j=i2
     ·subst hji
      rw [hxi] at hy; cases hy
      unfold lost
      rw [List.any_eq_false]
      intro p hp
      obtain ⟨m,hm⟩:=List.getElem?_of_mem hp
      rw [hpk m p (by rw [hkl]; exact (List.getElem?_eq_some_iff.1 hm).1) hm]; decide
     ·exact hls j y (by omega) hy
   ·have hil2:i2=l.length:=by
     have:¬ i2<l.length:=Zw
     omega
    have hlall:∀ (j:Nat) (y:Cls),l[j]? = some y->lost l y=false:=λj y hj=>hls j y (by rw [hil2]; exact (List.getElem?_eq_some_iff.1 hj).1) hj
    refine aB<|xE<|xE<|xY<|xT<|cS<|cQ<|sM Z ?_
    have hF:Fine l:=⟨by omega,λx hx=>by
     obtain ⟨j,hj⟩:=List.getElem?_of_mem hx
     have:=(gT.1<|hball j x hj).1
     omega⟩
    refine aH Z Z en142 Z (Ring_ct hv hF) ?_
    rintro u h' ⟨T,rfl,w,rfl,hw,rfl⟩
    simp only [lC,lN]
    refine sM Z<|sV (ag Z Z)<|sV (ag Z Z)<|sA Z<|sA Z<|sK [13,14] Z<|cQ<|sM Z<|sK [13,85] Z ?_
    cases hrg:ring l
    ·rw [MI h24 hball hlall hrg]
     refine aG Z ?_
     refine cK<|xT<|cQ<|sA Z<|sA Z<|sK [2,3] Z<|cT ?_
     exact aj Z ⟨Z,Z⟩ sbq
    ·rename_i r
     have hrk:=(ring_ok hrg).1
     cases r with
     | nil=>simp [zL] at hrk
     | cons r0 t =>
      rw [H6 h24 hball hlall hrg]
      simp only [Option.getD_some]
      refine fJ (r:=NR w (r0::t)) slq λhok=>?_
      obtain ⟨rb,ro,rcp,hrv,hrrd⟩:=tN (iL hok) (show (r0::t)[0]? = some r0 from rfl)
      refine aQ Z ?_
      refine cS<|bB (ork [(0,2),(1,2),(2,1),(3,2),(4,2)] .nil) (λ_=>true) mixed Zz ?_
      refine dV Z (vM Z)<|dV Z (vI (k:=0) (congrArg some hrv) Z jm Z (by simp) Z) ?_
      refine bu Z (vY Z ld9) ?_
      refine dV Z (vA Z)<|dV Z (vA Z)<|bA<|nK [2,3] Z<|nT<|cT<|xR ?_
      exact aj Z ⟨Z,Z⟩ sbq
end
end Go.Hr
namespace Go.Hr
open Go Go.Ck Go.Proofs Go.Proofs.YtknmacdbffgjgaaGreatDoor Fx
attribute [local irreducible] Go.Ck.Sub St Cd Xt Nx DrL LsW
def rightB (l:Sys):Bool:=((check l).1 == 0) && decide (0<(l.length:Int))
section
variable {S:Res} {v:Value} {l:Sys}
end
end Go.Hr
namespace Go.Hr
open Go Go.Ck Go.Proofs Go.Proofs.Tryz Go.Proofs.YtknmacdbffgjgaaGreatDoor Fx
attribute [local irreducible] Go.Ck.Sub St Cd Xt Nx DrL LsW
def dJ (l:Sys) (ns:List Nm):Int:=if (check l).1=0 then (if ns.all (isC l) then 0 else 5) else (check l).1
theorem d9 {l:Sys} {ns:List Nm}:dJ l ns=0↔Right l/\∀ n∈ns,isC l n=true:=by
 unfold dJ
 rw [<- oF,<- List.all_eq_true]
 by_cases h:(check l).1=0
 ·rw [if_pos h]
  by_cases h2:ns.all (isC l)=true
  ·simp [h,h2]
  ·rw [if_neg h2]; simp [h,h2]
 ·rw [if_neg h]; simp [h]
theorem Nr {f:Nm->Bool} {ns:List Nm} {i:Nat} (hi:i<ns.length) (h:∀ x∈ns.take i,f x=true) (h2:f ns[i]=true):∀ x∈ns.take (i+1),f x=true:=λx hx=>by
 rw [List.take_succ_eq_append_getElem hi] at hx
 rcases List.mem_append.1 hx with hx | hx
 ·exact h x hx
 ·simp at hx; rw [hx]; exact h2
def gr0:Value:=.agg #[.slice none 0 0,.map none]
section
variable {S N:Res} {v nv:Value} {l:Sys} {ns:List Nm}
theorem Ay (hv:l8 S v l) (hn:xu N nv ns) (hnl:ns.length≤1099511627776):Ct prog 91 #[v,nv] [S,N] λu h'=>(dJ l ns≠0/\u = .tuple #[gr0,.int .i64 (dJ l ns)]/\h'=[S,N])∨(dJ l ns=0/\∃ mb,u = .tuple #[.agg #[v,.map (some mb)],.int .i64 0]/\h'=[mps mb (bH l),S,N]):=by
 obtain ⟨a,cap,rfl,_⟩:=id hv
 obtain ⟨na,ncap,rfl,_⟩:=id hn
 refine aL (n:=42) func91 Z Z (len Z) λhr w0=>?_
 refine cQ (au sP λb4=>?_)
 refine sA Z<|sN<|nT<|cS<|cQ<|sM Z<|aH Z Z en63 Z (FJ hv) ?_
 rintro u h' ⟨rfl,rfl⟩
 simp only [lC,lN]
 refine sM Z<|sV (ag Z Z)<|sV (ag Z Z)<|sA Z<|sA Z<|sK [0,1,4,5,6] Z<|cQ<|sM Z<|sV (bP Z Z)<|sK [0,1,4,5,6,19] Z<|cC Z (λhc=>?_)<|λhc=>?_
 ·have hc:¬ (check l).1=0:=Zl
  have he:dJ l ns=(check l).1:=by unfold dJ; rw [if_neg hc]
  rw [he]
  refine cQ<|sV (aO (cells:=[.slice none 0 0,.map none]) Z<|λ_=>Zz) ?_
  refine sM Z<|ai Z Z nM Z Z ?_
  refine sA Z<|sK [4,5] Z<|cT<|xR ?_
  exact bD (.cellN Z kF Z slq<|.tmp Z .nil) (.inl ⟨hc,Z,Z⟩) sbr
 ·have hc:(check l).1=0:=Zl
  have hR:=oF.1 hc
  refine cK<|xT<|cQ<|sM Z ?_
  have hFl:=hR.len
  refine aH Z Z en166 Z (of_ct hv<|by omega) ?_
  rintro u h' ⟨mb,rfl,rfl⟩
  simp only [lC,lN]
  refine au sP λb8=>?_
  refine ai Z Z nM Z Z ?_
  refine sK [1,4,5,8] Z<|cS<|cQ<|sM Z<|sV (aF Z underlying40)<|sM Z<|sK [4,5,8,24,25,26] Z<|cB<|aX (σ := Nat) (λi=>[(4,.pointer (some ⟨b4,0,none⟩)),(8,.pointer (some ⟨b8,0,none⟩)),(24,.slice na ns.length ncap),(25,.int .i64 ns.length),(26,.int .i64 (i:Nat))]) (λ_=>pt b4 (cl [.slice none 0 0,.map none] 164)::pt b8 (cl [.slice a l.length cap,.map (some mb)] 164)::mps mb (bH l)::S::N::hr) (λi=>i≤ns.length/\∀ x∈ns.take i,isC l x=true) (λi=>ns.length - i) 0 ⟨Nat.zero_le _,λx hx=>by simp at hx⟩ ?_
  rintro i ⟨hi,hal⟩
  refine cQ<|sV (aN Z Z)<|sN<|nT<|cS<|cC Z (λhd=>?_)<|λhd=>?_
  ·have hlt:i<ns.length:=Zx
   obtain ⟨b,o,cap2,hv2,hrd⟩:=tN hn<|Zy hlt
   refine cK<|xT<|cS<|cB<|cQ<|sV (vI (k:=i) (congrArg some hv2) Z jm Z hlt Z)<|sV (vY Z ld9) ?_
   refine sA Z<|sK [4,8,10,24,25,26] Z<|cQ<|sV (vF Z D7 Z)<|sV (vY Z kE) ?_
   refine sM Z<|sV (dR Z Z gJ nN slq) ?_
   refine sM Z<|sV (ag Z Z)<|sV (ag Z Z)<|sA Z<|sA Z<|sK [4,8,12,24,25,26] Z<|cQ<|sM Z<|sV (bg Z)<|sK [4,8,24,25,26,38] Z ?_
   rw [qV]
   refine cC Z (λhno=>?_)<|λhno=>?_
   ·have hno:isC l ns[i]=false:=Zd
    have he:dJ l ns=5:=by
     unfold dJ
     rw [if_pos hc,if_neg (by rw [List.all_eq_true]; intro h; rw [h _ (List.getElem_mem hlt)] at hno; cases hno)]
    rw [he]
    refine cQ<|sV (aO (cells:=[.slice none 0 0,.map none]) Z<|λ_=>Zz) ?_
    refine ai Z Z nM Z Z ?_
    refine sA Z<|sK [4,5] Z<|cT<|xW<|xR<|xR<|xW<|xR ?_
    exact bD (.cellN Z kF Z slq<|.tmp Z .nil) (.inl ⟨by decide,Z,Z⟩) sbr
   ·have hno:isC l ns[i]=true:=Zd
    refine cK<|xB<|xT<|cR<|sV (aI Z Z Za)<|sM Z<|sN<|nK [4,8,24,25,26] Z<|ax ?_
    refine aJ (i+1) ⟨hlt,Nr hlt hal hno⟩ (by show _ - _<_ - _; omega)
  ·have hil:i=ns.length:=by
    have:¬ i<ns.length:=Zx
    omega
   subst hil
   rw [List.take_length] at hal
   have he:dJ l ns=0:=d9.2 ⟨hR,hal⟩
   refine aB<|xE<|xE<|xY<|xT<|cQ<|sV (af Z kF Z ah) ?_
   refine ai Z Z nM Z Z ?_
   refine sA Z<|sK [4,5] Z<|cT ?_
   exact bD (.cellN Z kF Z slq<|.tmp Z .nil) (.inr ⟨he,mb,Z,Z⟩) sbr
end
def okL {α : Type} (e:Int) (xs:List α):List α := if e=0 then xs else []
theorem Ns {α : Type} {e:Int} {xs:List α} (h:e≠0):okL e xs=[]:=if_neg h
theorem Nt {α : Type} {e:Int} {xs:List α} (h:e=0):okL e xs=xs:=if_pos h
theorem El {e:Int} (h:e≠0):(e != 0)=true:=Zo
section
variable {S N:Res} {v nv:Value} {l:Sys} {ns:List Nm}
theorem FK (hv:l8 S v l) (c:Nm):CtN prog 41 #[v,sv c] [S] λu T=>∃ w,u = .tuple #[w,.int .i64 (dJ l [c])]/\w.oneCell'=true/\T=NR w (okL (dJ l [c]) (above l c)):=by
 obtain ⟨a,cap,rfl,_⟩:=id hv
 refine aL (n:=21) func41 Z Z (len Z) λhr w0=>?_
 refine cQ<|sA Z<|sA Z<|sN<|nT<|cQ<|sM Z<|sM Z (ak (cells:=[sv c]) Z underlying40 fH Z Z Zz (ltn Z) λb11=>?_)
 refine Ar (Au (b:=b11) (n:=1) (sz:=1) (E:=9) [nC c] Z (by simp [nC]) Z<|by decide) ?_
 simp only [lC,lN]
 refine nY (r:=NR (.slice (some ⟨b11,0,none⟩) 1 1) [c]) slq λhok=>?_
 refine aH Z Z en91 Z (Ay hv (iL hok)<|by simp) ?_
 rintro u h' (⟨he,rfl,rfl⟩ | ⟨he,mb,rfl,rfl⟩)
 ·simp only [lC,lN]
  unfold gr0
  refine sM Z<|sV (ag Z Z)<|sV (ag Z Z) (au sP λb6=>?_)
  refine ai Z Z nM Z Z ?_
  refine sA Z<|sK [1,4,5,6,7] Z<|cS<|cQ<|sM Z<|sV (bP Z Z)<|sK [1,4,5,6,7,16] Z ?_
  rw [El he]
  refine aQ Z ?_
  refine cQ<|sM Z<|sA Z<|sA Z<|sK [4,5] Z<|cT<|xR ?_
  rw [Ns he]
  refine jC (cO 9 1) ?_
  exact aj Z ⟨NR (.slice none 0 0) [],Z,_,Z,Z,Z⟩ sbq
 ·obtain ⟨hR,hm⟩:=d9.1 he
  rw [he,Nt rfl]
  simp only [lC,lN]
  refine sM Z<|sV (ag Z Z)<|sV (ag Z Z) (au sP λb6=>?_)
  refine ai Z Z nM Z Z ?_
  refine sA Z<|sK [1,4,5,6,7] Z<|cS<|cQ<|sM Z<|sV (bP Z Z)<|sK [1,4,5,6,7,16] Z<|aG Z ?_
  refine cK<|xT<|cQ<|sV (af Z kF Z ah) ?_
  refine sM Z<|aH Z Z en103 Z (FE hv hR.fine hR.acyc<|hm c<|by simp) ?_
  rintro u h' ⟨hu,rfl⟩
  simp only [lC,lN]
  refine sA Z<|sA Z<|sK [4,5] Z<|cT ?_
  exact aj Z ⟨_,Z,_,Z,hu,Z⟩ sbq
theorem Is_ct (hv:l8 S v l) (c x:Nm):Ct prog 27 #[v,sv c,sv x] [S] λu h'=>u = .tuple #[.bool (decide (dJ l [c,x]=0) && has l c x),.int .i64 (dJ l [c,x])]/\h'=[S]:=by
 obtain ⟨a,cap,rfl,_⟩:=id hv
 refine aL (n:=25) func27 Z Z (len Z) λhr w0=>?_
 refine cQ<|sA Z<|sA Z<|sN<|nT<|cQ<|sM Z<|sM Z<|sM Z (ak (cells:=[sv c,sv x]) Z underlying40 fH Z Z Zz (ltn Z) λb14=>?_)
 refine Ar (Au (b:=b14) (n:=2) (sz:=1) (E:=9) [nC c,nC x] Z (by simp [nC]) Z<|by decide) ?_
 simp only [lC,lN]
 refine nY (r:=NR (.slice (some ⟨b14,0,none⟩) 2 2) [c,x]) slq λhok=>?_
 refine aH Z Z en91 Z (Ay hv (iL hok)<|by simp) ?_
 rintro u h' (⟨he,rfl,rfl⟩ | ⟨he,mb,rfl,rfl⟩)
 ·simp only [lC,lN]
  unfold gr0
  refine sM Z<|sV (ag Z Z)<|sV (ag Z Z) (au sP λb8=>?_)
  refine ai Z Z nM Z Z ?_
  refine sA Z<|sK [1,2,6,7,8,9] Z<|cS<|cQ<|sM Z<|sV (bP Z Z)<|sK [1,2,6,7,8,9,19] Z ?_
  rw [El he]
  refine aQ Z ?_
  refine cQ<|sM Z<|sA Z<|sA Z<|sK [6,7] Z<|cT<|xR ?_
  rw [show (decide (dJ l [c,x]=0))=false from decide_eq_false he,Bool.false_and]
  exact aj Z ⟨Z,Z⟩ sbq
 ·obtain ⟨hR,hm⟩:=d9.1 he
  rw [he]
  simp only [lC,lN]
  refine sM Z<|sV (ag Z Z)<|sV (ag Z Z) (au sP λb8=>?_)
  refine ai Z Z nM Z Z ?_
  refine sA Z<|sK [1,2,6,7,8,9] Z<|cS<|cQ<|sM Z<|sV (bP Z Z)<|sK [1,2,6,7,8,9,19] Z<|aG Z ?_
  refine cK<|xT<|cQ<|sV (af Z kF Z ah) ?_
  refine sM Z<|sM Z<|aH Z Z en92 Z (has_ct hv hR.fine hR.acyc (hm c<|by simp) x) ?_
  rintro u h' ⟨rfl,rfl⟩
  simp only [lC,lN]
  refine sA Z<|sA Z<|sK [6,7] Z<|cT ?_
  exact aj Z ⟨Z,Z⟩ sbq
def wayE (l:Sys) (c x:Nm):Int:=if dJ l [c,x]=0 then (if has l c x then 0 else 5) else dJ l [c,x]
end
end Go.Hr
namespace Go.Hr
open Go Go.Ck Go.Proofs Go.Proofs.YtknmacdbffgjgaaGreatDoor Fx
attribute [local irreducible] Go.Ck.Sub St Cd Xt Nx DrL LsW
section
variable {S N T:Res} {v nv:Value} {l:Sys} {ns:List Nm}
def touchE (l:Sys) (ns:List Nm):Int:=if 48<ns.length then 3 else dJ l []
end
end Go.Hr
namespace Go.Hr
open Go Go.RowKit Go.Ck Go.Proofs Go.Proofs.YtknmacdbffgjgaaGreatDoor Fx
attribute [local irreducible] Go.Ck.Sub St Cd Xt Nx DrL LsW
def iV (n:Nat):Value:=.int .i64 (n:Int)
def okN (e:Int) (n:Nat):Int:=if e=0 then (n:Int) else 0
section
variable {S N:Res} {v nv:Value} {l:Sys} {ns:List Nm}
end
end Go.Hr
namespace Go.Ck
open Go
section
variable {P:Program} {r:Option Nat} {n:Nat} {w0:World} {hr:SH} {R:Value->SH->Prop} {fn:Func} {e:Env} {h h' k:SH} {vs:List Value} {bs:List Nat} {ds:List Deferred}
theorem oq (hds:ds=bs.map mk) (hv:ResV P k e fn.results.toList vs) (hR:R (kC vs) h') (hk:Sub (h'++hr) k) (hp:Sub (marks bs++k) h):Xt ⟨P,r,n,ds,w0⟩ .ret (bodyPostM (Fw none) 0 P fn (Post w0 hr R)) e h :=
 λa w hk' hh hw=>by
  show LeavesInM (Fw none) 0 P fn a.tmps _ a.defers .returning w
  rw [hk'.defers,hds]
  exact ze bs w (hh.sub hp) hw λw' h1 h2=>⟨_,uX hk' hv h1,_,h',Z,hR,h1.sub hk,h2⟩
end
end Go.Ck
namespace Go.Hr
open Go Go.RowKit Go.Ck Go.Proofs Go.Proofs.Tryz Go.Proofs.YtknmacdbffgjgaaGreatDoor Fx
attribute [local irreducible] Go.Ck.Sub St Cd Xt Nx DrL LsW
def sQ (o:List Nm) (D:List (Nm×Unit)):Prop:=∀ x,(dW D x).isSome=o.contains x
theorem sQ.look {o:List Nm} {D:List (Nm×Unit)} (h:sQ o D) (x:Nm):(bK (mvG tV D) x).getD (.bool false) = .bool (o.contains x):=by
 rw [lh,<- h x]
 cases dW D x <;> rfl
theorem sQ.next {o:List Nm} {D:List (Nm×Unit)} (h:sQ o D) (c:Nm):sQ (o++[c]) (fT D c ()):=λx=>by
 rw [kX]
 by_cases hx:x=c
 ·subst hx; simp
 ·rw [if_neg hx,h x]; simp [hx]
section
variable {S N:Res} {v nv:Value} {l:Sys} {ns:List Nm}
theorem open_ct {c7 c4 mb bd:Nat} {o:List Nm} {D:List (Nm×Unit)} (hv:l8 S v l) (hF:Fine l) (hD:sQ o D) (c:Nm):Reads prog 187 #[sv c,.pointer (some ⟨c7,0,none⟩),.pointer (some ⟨c4,0,none⟩)] [pt c7 (cl [.map (some bd)] 265),pt c4 (cl [v,.map (some mb)] 164),mps bd (mvG tV D),S,mps mb (bH l)] (.bool (opn l o c)):=by
 obtain ⟨a,cap,rfl,_⟩:=id hv
 refine qH (n:=17) func187 Z Z (len Z) λhr w0=>?_
 refine cQ (au al4 λb4=>?_)
 refine sN<|nT<|cS<|cQ<|sV (vY Z ld265) ?_
 refine sM Z<|sV (gq (hD.look c)<|bI Z Z yC inf4 slq) ?_
 refine sK [0,1,2,4,8] Z ?_
 unfold opn
 refine cC Z (λho=>?_)<|λho=>?_
 ·rw [ho]
  refine cQ<|bf Z Z sz4 ?_
  refine sK [4] Z<|cT<|xR<|oq (bs:=[]) (k:=pt b4 (cl [.bool false] 4)::([pt c7 (cl [.map (some bd)] 265),pt c4 (cl [.slice a l.length cap,.map (some mb)] 164),mps bd (mvG tV D),S,mps mb (bH l)]++hr)) Z (.cell1 Z ld4 (bT<|bV Z) .nil) ⟨Z,Z⟩ ?_ ?_
  ·exact Sub.cons<|Sub.refl _
  ·unfold marks
   simp only [lC,lN,List.map_nil]
   exact sbq
 ·rw [ho,Bool.not_false,Bool.true_and]
  refine cK<|xT<|cS<|cQ<|sV (af Z kF Z ah) ?_
  refine sM Z<|aH Z Z Fq Z (jV Z) ?_
  rintro u h' ⟨n1,n2,rfl,rfl⟩
  refine sK [1,4,11] Z<|cB ?_
  simp only [lC,lN]
  unfold seqv
  refine iY Z Fu λyl db rec hst hpe hps hasg hbo hkn2=>?_
  refine ⟨_,Ct.perm (FD (σ := Unit) (b1:=n1) (b2:=n2) (mb:=mb) (yl:=yl) (c:=c) (λ_=>pt yl (.loop rec)::pt db (.deferred<|some [])::pt b4 (cl [.bool false] 4)::pt c7 (cl [.map (some bd)] 265)::pt c4 (cl [.slice a l.length cap,.map (some mb)] 164)::mps bd (mvG tV D)::hr)
   (λk _=>∀ p∈(par l c).take k,o.contains p=true) (λ_ t=>(∃ p∈par l c,o.contains p=false)/\∃ rec',t=pt yl (.loop rec')::pt db (.deferred (some []))::pt b4 (cl [.bool false] 4)::pt c7 (cl [.map (some bd)] 265)::pt c4 (cl [.slice a l.length cap,.map (some mb)] 164)::mps bd (mvG tV D)::hr/\rec'.state≠.busy/\rec'.pending=some .ret) () (λp hp=>by simp at hp) hv hF.few ?_) ?_,?_⟩
  ·rintro k _ p hk hal
   obtain ⟨hkl,hke⟩:=List.getElem?_eq_some_iff.1 hk
   refine Yc.perm (qF (n:=17) (rec:=rec) (args:=[sv p]) (hf:=pt db (.deferred<|some [])::pt b4 (cl [.bool false] 4)::pt c7 (cl [.map (some bd)] 265)::pt c4 (cl [.slice a l.length cap,.map (some mb)] 164)::mps bd (mvG tV D)::S::mps mb (bH l)::hr) (by rw [hps]; rfl) hkn2 (by rw [hps]; decide) ?_) (by exact (by repeat (first | exact Pm.refl | refine Pm.cons slq ?_):Pm _ _).perm)
   intro hr2 w1
   rw [hasg,hps,hbo]
   simp only [lC,lN]
   refine cR<|sA Z<|sN<|nK [1,4,5] Z<|ax<|lu Z slq (by first | rfl | assumption) ?_
   refine cB<|cQ<|sV (vY Z ld265) ?_
   refine sM Z<|sV (gq (hD.look p)<|bI Z Z yC inf4 slq) ?_
   refine sV (bg Z)<|sK [4,16] Z<|cC Z (λhno=>?_)<|λhno=>?_
   ·have hno:o.contains p=false:=Zd
    refine cQ<|bf Z Z sz4 ?_
    refine sK [4] Z<|cT<|xW<|kL slq (.inr ⟨Z,_,Z,⟨p,List.mem_of_getElem? hk,hno⟩,{ ({ rec with state:=.busy }:Loop) with state:=.done,pending:=some .ret },Z,by simp,Z⟩) ?_
    exact sbq
   ·have hno:o.contains p=true:=Zd
    refine cK<|xB<|dB slq (.inl ⟨Z,(),λq hq=>?_,Z⟩) ?_
    ·rw [List.take_succ_eq_append_getElem hkl,hke] at hq
     rcases List.mem_append.1 hq with hq | hq
     ·exact hal q hq
     ·simp at hq; rw [hq]; exact hno
    ·rw [dC hst hpe]
     exact sbq
  ·exact (by repeat (first | exact Pm.refl | refine Pm.cons slq ?_):Pm _ _).perm
  ·rintro u h' ⟨rfl, (⟨_, hal, rfl⟩ | ⟨_, _, ⟨⟨p, hp, hno⟩, rec', rfl, h2, h3⟩, rfl⟩)⟩
   ·rw [List.take_length] at hal
    rw [show (par l c).all o.contains=true from List.all_eq_true.2 hal]
    refine ⟨rec,_,slq,(by rw [hst]; simp),?_⟩
    rw [hpe]
    dsimp only
    refine xB<|xT<|cQ<|bf Z Z sz4 ?_
    refine sK [4] Z<|cT<|oq (bs:=[db]) (k:=pt b4 (cl [.bool true] 4)::([pt c7 (cl [.map (some bd)] 265),pt c4 (cl [.slice a l.length cap,.map (some mb)] 164),mps bd (mvG tV D),S,mps mb (bH l)]++hr)) Z (.cell1 Z ld4 (bT<|bV Z) .nil) ⟨Z,Z⟩ ?_ ?_
    ·exact Sub.cons<|Sub.refl _
    ·unfold marks
     simp only [lC,lN,List.map_cons,List.map_nil]
     exact sbq
   ·rw [show (par l c).all o.contains=false from List.all_eq_false.2 ⟨p,hp,by rw [hno]; decide⟩]
    refine ⟨rec',_,slq,h2,?_⟩
    rw [h3]
    dsimp only
    refine cT<|xW<|xR<|oq (bs:=[db]) (k:=pt b4 (cl [.bool false] 4)::([pt c7 (cl [.map (some bd)] 265),pt c4 (cl [.slice a l.length cap,.map (some mb)] 164),mps bd (mvG tV D),S,mps mb (bH l)]++hr)) Z (.cell1 Z ld4 (bT<|bV Z) .nil) ⟨Z,Z⟩ ?_ ?_
    ·exact Sub.cons<|Sub.refl _
    ·unfold marks
     simp only [lC,lN,List.map_cons,List.map_nil]
     exact sbq
theorem Nu (hv:l8 S v l):CtN prog 116 #[v] [S] λu T=>∃ w,u = .tuple #[w,.int .i64 (dJ l [])]/\w.oneCell'=true/\T=NR w (okL (dJ l []) (order l)):=by
 obtain ⟨a,cap,rfl,_⟩:=id hv
 refine aL (n:=36) func116 Z Z (len Z) λhr w0=>?_
 refine cQ<|sA Z<|sA Z<|sN<|nT<|cQ<|sM Z<|qg (eO (L:=[]))<|aH Z Z en91 Z (Ay hv (N:=Res.star []) (ns:=[]) Row.nil<|by simp) ?_
 rintro u h' (⟨he,rfl,rfl⟩ | ⟨he,mb,rfl,rfl⟩)
 ·simp only [lC,lN]
  unfold gr0
  refine sM Z<|sV (ag Z Z)<|sV (ag Z Z) (au sP λb4=>?_)
  refine ai Z Z nM Z Z ?_
  refine sA Z<|sK [0,2,3,4,5] Z<|cS<|cQ<|sM Z<|sV (bP Z Z)<|sK [0,2,3,4,5,16] Z ?_
  rw [El he]
  refine aQ Z ?_
  refine cQ<|sM Z<|sA Z<|sA Z<|sK [2,3] Z<|cT<|xR ?_
  rw [Ns he]
  refine jC (cO 9 1) ?_
  exact aj Z ⟨NR (.slice none 0 0) [],Z,_,Z,Z,Z⟩ sbq
 ·obtain ⟨hR,_⟩:=d9.1 he
  have hFl:=hR.len
  rw [he,Nt rfl]
  simp only [lC,lN]
  refine sM Z<|sV (ag Z Z)<|sV (ag Z Z) (au sP λb4=>?_)
  refine ai Z Z nM Z Z ?_
  refine sA Z<|sK [0,2,3,4,5] Z<|cS<|cQ<|sM Z<|sV (bP Z Z)<|sK [0,2,3,4,5,16] Z<|aG Z ?_
  refine cK<|xT<|cQ<|sA Z<|sK [0,2,3,4,6] Z<|cQ (eH (ltn Z) λb18=>?_)
  refine au al265 λb7=>?_
  refine bf Z Z sz265 ?_
  refine sK [0,2,3,4,6,7] Z<|cQ<|sV (bQ Z Z)<|sA Z<|sK [0,2,3,4,6,7,8] Z<|cS<|cQ<|sM Z<|sV (aF Z underlying22)<|sM Z<|sK [2,3,4,6,7,8,21,22] Z<|cB ?_
  refine dK (cO 9 1) ?_
  rw [show ([]:List (Bs×Value))=mvG tV [] from rfl]
  refine aX (σ := Nat×Value×List (Nm×Unit)) (λq=>[(4,.pointer (some ⟨b4,0,none⟩)),(6,q.2.1),(7,.pointer (some ⟨b7,0,none⟩)),(8,.func (.func 187) #[] #[.pointer (some ⟨b7,0,none⟩),.pointer (some ⟨b4,0,none⟩)]),(21,.int .i64 l.length),(22,.int .i64 (q.1:Nat))]) (λq=>NR q.2.1 (jD l q.1)::pt b4 (cl [.slice a l.length cap,.map (some mb)] 164)::pt b7 (cl [.map (some b18)] 265)::mps b18 (mvG tV q.2.2)::mps mb (bH l)::S::hr) (λq=>q.1≤l.length/\q.2.1.oneCell'=true/\sQ (jD l q.1) q.2.2) (λq=>l.length - q.1) (0,.slice none 0 0,[]) ⟨Nat.zero_le _,Z,λx=>rfl⟩ ?_
  rintro ⟨i,w,D⟩ ⟨hi,hw,hD⟩
  simp only at hi hw hD
  dsimp only
  have holen:=qB l i
  refine cQ<|sV (aN Z Z)<|sN<|nT<|cS<|cC Z (λhd=>?_)<|λhd=>?_
  ·refine cK<|xT<|cS<|cB<|cQ ?_
   have hlt:i<l.length:=Zx
   have hne:=KI hR.acyc hR.uniq hlt
   have hsl:((nms l).filter<|opn l<|jD l i).length≤24:=Nat.le_trans (List.length_filter_le _ _) (by simp [nms]; omega)
   refine sV (af Z kF Z ah) ?_
   refine sM Z<|aH Z Z en189 Z (jT (Nq (S:=Res.star [pt b7 (cl [.map (some b18)] 265),pt b4 (cl [.slice a l.length cap,.map (some mb)] 164),mps b18 (mvG tV D),S,mps mb (bH l)]) (kf:=187) (cp := #[.pointer (some ⟨b7,0,none⟩),.pointer (some ⟨b4,0,none⟩)]) (g:=opn l<|jD l i) (mb:=mb) (hv.mono<|bE slq) hR.fine en187 λd _=>lg<|open_ct hv hR.fine hD d)) ?_
   rintro u h' ⟨T,rfl,hu,rfl⟩
   simp only [lC,lN]
   refine nY (r:=NR u<|(nms l).filter<|opn l<|jD l i) slq λhok=>?_
   refine aH Z Z en188 Z (Ni (iL hok) (by omega) hne) ?_
   rintro u2 h' ⟨rfl,rfl⟩
   simp only [lC,lN]
   generalize hmn:jh ((nms l).filter<|opn l<|jD l i)=z at *
   have hord:jD l (i+1)=jD l i++[z]:=by rw [jD,hmn]
   refine sA Z<|sK [4,6,7,8,9,21,22] Z<|cQ<|sV (vY Z ld265) ?_
   refine sM Z<|cz Z Z Z yC slq ?_
   refine sK [4,6,7,8,9,21,22] Z<|cR<|sM Z<|sM Z ?_
   rw [show eu (mvG tV D) z (.bool true)=mvG tV (fT D z ()) from om tV D z ()]
   refine ak (cells:=[sv z]) Z underlying40 fH Z Z Zz (ltn Z) λb32=>?_
   refine dZ [nC z] Z Z underlying40 fH Z (by decide) (show Sel _ (NR w<|jD l i) _ from slq) (by simp [nC]) Z (λj u2 hu2=>bT<|bV<|by simpa [nC] using hu2) (by simp [nC,Value.oneCell']) (by rw [List.length_map]; omega) (by rw [List.length_map]; omega) (ltn Z) λw3 hw3 _=>?_
   rw [show (jD l i).map nC++[nC z]=(jD l (i+1)).map nC by rw [hord]; simp]
   refine sA Z<|sN<|nK [4,6,7,8,21,22] Z<|ax<|xB<|xT<|cR<|sV (aI Z Z Za)<|sM Z<|sN<|nK [4,6,7,8,21,22] Z<|ax ?_
   refine aJ (i+1,w3,fT D z ()) ⟨hlt,hw3,by show sQ (jD l (i+1)) (fT D z ()); rw [hord]; exact hD.next z⟩ (by show _ - _<_ - _; omega)
  ·have hil:i=l.length:=by
    have:¬ i<l.length:=Zx
    omega
   subst hil
   refine aB<|xE<|xE<|xY<|xT<|cQ<|sM Z<|sA Z<|sA Z<|sK [2,3] Z<|cT ?_
   exact aj Z ⟨_,Z,_,Z,hw,Z⟩ sbq
end
end Go.Hr
namespace Go.Hr
open Go Go.RowKit Go.Ck Go.Proofs Go.Proofs.Tryz Go.Proofs.YtknmacdbffgjgaaGreatDoor Fx
def FM:Go.Shelf.Ren:={
 f:=λ| 190=>265 | 125=>202 | 258=>295 | 128=>258 | 129=>259 | 302=>305 | 303=>306 | 304=>307 | 305=>308 | 306=>309 | 307=>310 | 308=>311 | 309=>312 | 310=>313 | 333=>317 | 329=>290 | 330=>291 | 334=>318 | 335=>319 | 336=>203 | 344=>320 | n=>n
 t:=λ| 31=>40 | 9=>9 | 3=>3 | 46=>275 | 0=>0 | 51=>322 | 53=>324 | 4=>4 | 183=>316 | 182=>315 | 131=>222 | 5=>5 | 218=>345 | 222=>349 | 228=>365 | 229=>366 | n=>n
 g:=λn=>n }
theorem Kg:Go.Proofs.Lays.n190 prog FM:={
 mixed:=rfl
 f125:=func202.trans<|congrArg some Zz
 f128:=func258.trans<|congrArg some Zz
 f129:=func259.trans<|congrArg some Zz
 f190:=func265.trans<|congrArg some Zz
 f258:=func295.trans<|congrArg some Zz
 f302:=func305.trans<|congrArg some Zz
 f303:=func306.trans<|congrArg some Zz
 f304:=func307.trans<|congrArg some Zz
 f305:=func308.trans<|congrArg some Zz
 f306:=func309.trans<|congrArg some Zz
 f307:=func310.trans<|congrArg some Zz
 f308:=func311.trans<|congrArg some Zz
 f309:=func312.trans<|congrArg some Zz
 f310:=func313.trans<|congrArg some Zz
 f329:=func290.trans<|congrArg some Zz
 f330:=func291.trans<|congrArg some Zz
 f333:=func317.trans<|congrArg some Zz
 f334:=func318.trans<|congrArg some Zz
 f335:=func319.trans<|congrArg some Zz
 f336:=func203.trans<|congrArg some Zz
 f344:=func320.trans<|congrArg some Zz
 t0:=underlying0
 a0:=isAgg0
 z0:=sizeOf0
 v0:=zeroValue0
 t3:=underlying3
 a3:=isAgg3
 z3:=sizeOf3
 v3:=zeroValue3
 t4:=underlying4
 a4:=isAgg4
 z4:=sizeOf4
 v4:=zeroValue4
 t5:=underlying5
 a5:=isAgg5
 z5:=sizeOf5
 v5:=zeroValue5
 t9:=underlying9
 a9:=isAgg9
 z9:=sizeOf9
 v9:=zeroValue9
 t31:=underlying40
 a31:=isAgg40
 z31:=sizeOf40
 v31:=zeroValue40
 t46:=underlying275
 a46:=isAgg275
 z46:=sizeOf275
 v46:=zeroValue275
 t51:=underlying322
 a51:=isAgg322
 z51:=sizeOf322
 v51:=zeroValue322
 t53:=underlying324
 a53:=isAgg324
 z53:=sizeOf324
 v53:=zeroValue324
 t131:=underlying222
 a131:=isAgg222
 z131:=sizeOf222
 v131:=zeroValue222
 t182:=underlying315
 a182:=isAgg315
 z182:=sizeOf315
 v182:=zeroValue315
 t183:=underlying316
 a183:=isAgg316
 z183:=sizeOf316
 v183:=zeroValue316
 t218:=underlying345
 a218:=isAgg345
 z218:=sizeOf345
 v218:=zeroValue345
 t222:=underlying349
 a222:=isAgg349
 z222:=sizeOf349
 v222:=zeroValue349
 t228:=underlying365
 a228:=isAgg365
 z228:=sizeOf365
 v228:=zeroValue365
 t229:=underlying366
 a229:=isAgg366
 z229:=sizeOf366
 v229:=zeroValue366 }
theorem FN:∀ a b:Nm,lt a b=decide (a<b)
 | [],[]=>by simp [lt,Op.bytesLess]
 | [],_::_=>by simp [lt,Op.bytesLess]
 | _::_,[]=>by simp [lt,Op.bytesLess]
 | a::x,b::y=>by
  have ih:=FN x y
  unfold lt at ih ⊢
  rw [Op.bytesLess,ih,Bool.eq_iff_iff]
  simp only [Bool.or_eq_true,Bool.and_eq_true,decide_eq_true_eq,beq_iff_eq,List.cons_lt_cons_iff,UInt8.lt_iff_toNat_lt]
def leB (x y:Nm):Bool:=decide (x≤y)
theorem Em (x y:Nm):leB x y = !lt y x:=by
 unfold leB
 rw [FN,<- decide_not]
 rfl
theorem FO {xs:List Nm} (hn:xs.Nodup):(xs.mergeSort λx y=>decide (x≤y))=srt xs:=by
 have hp:=List.mergeSort_perm xs leB
 refine srt_eq (hp.nodup_iff.2 hn) ?_ λx=>hp.mem_iff
 have:=List.pairwise_mergeSort (le:=leB) (λa b c h1 h2=>?_) (λa b=>?_) xs
 ·exact this.imp λ{a b} h=>by rw [Em] at h; simpa using h
 ·rw [Em] at h1 h2 ⊢
  simp only [Bool.not_eq_true'] at h1 h2 ⊢
  cases h:lt c a with
  | false=>rfl
  | true =>
   rcases dU a b with h3 | h3 | h3
   ·rw [lt_trans h h3] at h2; cases h2
   ·rw [h3,h2] at h; cases h
   ·rw [h1] at h3; cases h3
 ·rw [Em,Em]
  cases h:lt b a with
  | false=>simp
  | true=>rw [iF h]; simp
theorem KX {ys xs:List Nm} {pre j:List Value} (hl:ys.length=xs.length):Sort.putCells encStr pre.length ys.toArray (pre++(xs.map sv++j)).toArray=(pre++(ys.map sv++j)).toArray:=by
 apply Array.ext
 ·simp [Sort.putCells,hl]
 ·intro k h1 h2
  simp only [Sort.putCells,Array.getElem_mapIdx,List.size_toArray,List.getElem_toArray,List.getElem_append,List.length_map,List.getElem_map]
  by_cases hk:k<pre.length
  ·have h3:¬ (pre.length≤k/\k<pre.length+ys.length):=by omega
   simp only [hk,h3,dite_true,if_false]
  ·by_cases hk2:k - pre.length<ys.length
   ·have h3:pre.length≤k/\k<pre.length+ys.length:=by omega
    simp only [hk,h3,hk2,dite_true,dite_false,if_true,and_self]
    rw [getElem!_pos ys.toArray _ (by simpa using hk2)]
    simp [encStr]
   ·have h3:¬ (pre.length≤k/\k<pre.length+ys.length):=by omega
    have h4:¬ k - pre.length<xs.length:=by omega
    simp only [hk,hk2,h4,dite_false,hl]
    rw [hl] at h3
    rw [if_neg h3]
section
variable {v:Value}
theorem Sort_ct {xs:List Nm} (hn:xs.Nodup) (hl:xs.length≤1099511627776):Ct prog 265 #[v] [NR v xs] λu h'=>u = .tuple #[]/\h'=[NR v (srt xs)]:=by
 intro hr w hh
 have hv:=hh.1
 rcases hv.2 with ⟨rfl,h0⟩ | ⟨b,o,cp,pre,j,rfl,hb,hpre,hc1,hc2,hc3⟩
 ·have hx:xs=[]:=List.map_eq_nil_iff.1 h0
  subst hx
  exact (Any.slices_Sort_string_none Kg none 0 w).mono λe w' ⟨h1,h2⟩=>⟨.tuple #[],_,h1,⟨Z,Z⟩,by rw [h2]; exact hh,by rw [h2]; exact Same.refl w⟩
 ·rw [mG] at hb
  have hb:w.heap[b]? = some (cl (pre++(xs.map sv++j)) 9):=hb
  have hlt:b<w.heap.size:=(Array.getElem?_eq_some_iff.1 hb).1
  have hH:Sort.Holds encStr w b o xs.toArray:=λi hi=>by
   have hi:i<xs.length:=Zi
   refine ⟨?_,by simp [World.frozen?,hb,cl]⟩
   rw [getElem!_pos xs.toArray i Zi]
   simp only [World.cell?,hb,cl,Option.isSome_none,Bool.false_eq_true,if_false,List.getElem?_toArray]
   rw [<- hpre,List.getElem?_append_right (by omega),Nat.add_sub_cancel_left,List.getElem?_append_left Zi,List.getElem?_map,Zy hi]
   rfl
  have hc:=Any.slices_Sort_string Kg b o cp xs w hH hlt<|by omega
  rw [show (xs.map nC).length=xs.length by simp] at *
  refine Calls.mono hc λe w' ⟨h1,n,os,h2⟩=>⟨.tuple #[],_,h1,⟨Z,Z⟩,?_,?_⟩
  all_goals rw [FO hn] at h2
  ·have hsl:(srt xs).length=xs.length:=by
    rw [<- FO hn]; exact List.length_mergeSort xs
   have hb':w'.heap[b]? = some (cl (pre++((srt xs).map sv++j)) 9):=by
    rw [h2]
    show ((w.heap.modify b<|Sort.onCells<|Sort.putCells encStr o (srt xs).toArray)++os)[b]? = _
    rw [Array.getElem?_append_left (by simpa using hlt),Array.getElem?_modify,if_pos rfl,hb]
    simp only [Option.map_some,Sort.onCells,cl]
    rw [<- hpre,KX hsl]
   have ho:∀ c,c≠b->c<w.heap.size->w'.heap[c]? = w.heap[c]? := λc hc hlt2=>by
    rw [h2]
    show ((w.heap.modify b<|Sort.onCells<|Sort.putCells encStr o (srt xs).toArray)++os)[c]? = _
    rw [Array.getElem?_append_left (by simpa using hlt2),Array.getElem?_modify,if_neg (λe=>hc e.symm)]
   refine ⟨⟨by simp [nC],.inr ⟨b,o,cp,pre,j,by simp [hsl],by rw [mG]; exact hb',hpre,by simpa [hsl] using hc1,hc2,?_⟩⟩,λc ⟨o',m',cp',he⟩=>?_,bi.loc hh.2.2 λc hc=>?_⟩
   ·rw [mG]
    rw [mG] at hc3
    simpa [hsl] using hc3
   ·cases he
    exact hh.2.1 b ⟨o,_,cp,Z⟩
   ·exact (ho c (λe=>hh.2.1 b ⟨o,_,cp,Z⟩ (e ▸ hc))<|Holds.lt (h:=hr) hh.2.2 hc).symm
  ·refine ⟨by rw [h2]; rfl, by rw [h2]; rfl, by rw [h2]; rfl, by rw [h2]; exact Nat.le_add_right _ _, ?_, λa ha => ?_⟩
   ·rw [h2]
    show w.heap.size≤((w.heap.modify b<|Sort.onCells<|Sort.putCells encStr o (srt xs).toArray)++os).size
    simp
   ·rw [h2]
    unfold World.frozen?
    have:(Sort.grow (Sort.putRow encStr (Sort.ahead w n) b o (srt xs).toArray) os).heap[a.block]? = (w.heap[a.block]?).map λq=>if b=a.block then Sort.onCells (Sort.putCells encStr o (srt xs).toArray) q else q:=by
     show ((w.heap.modify b<|Sort.onCells<|Sort.putCells encStr o (srt xs).toArray)++os)[a.block]? = _
     rw [Array.getElem?_append_left (by simpa using ha),Array.getElem?_modify]
     split
     ·rename_i e; subst e; simp
     ·simp [*]
    rw [this]
    by_cases e:b=a.block
    ·simp only [e,if_true]
     rw [<- e,hb]
     rfl
    ·simp [e]
end
end Go.Hr
namespace Go.Ck
open Go Go.RowKit
/-! ## Structs of texts -/
def isStr:Option TypeDesc->Bool
 | some .string=>true
 | _=>false
def En (P:Program):List Field->Nat->Bool
 | [],_=>true
 | f :: t, i => (f.name != "_") && isStr (P.underlying f.type) && Nat.beq f.offset i && En P t (i + 1)
def EqS (P:Program) (T:TypeId) (n:Nat):Prop:=P.eqGuardType P.depth T=false/\∀ (xs ys:List Bs) (w:World),xs.length=n->ys.length=n ->
 (Op.equalIn 10000 T (.agg (xs.map sv).toArray)<|.agg (ys.map sv).toArray).run P w = .ok (xs == ys) w
theorem Nv {o:Option TypeDesc} (h:isStr o=true):o=some .string:=by
 unfold isStr at h; split at h
 ·rfl
 ·cases h
theorem vE {P:Program} {T:TypeId} (hu:P.underlying T=some .string) {xs:List Bs} {i:Nat} {x:Bs} (hx:xs[i]? = some x) (w:World):(part T (xs.map sv).toArray i).run P w = .ok (sv x) w:=by
 have hi:(isAgg T).run P w = .ok false w:=by
  unfold isAgg
  simp only [Sem.run_bind,run_underlying hu,Result.andThen_ok]
  rfl
 unfold part
 have:(xs.map sv).toArray[i]? = some (sv x):=by simp [hx]
 simp only [Sem.run_bind,hi,Result.andThen_ok,Bool.false_eq_true,if_false,this,Sem.run_pure]
theorem tQ {P : Program} {d : Nat} {xs ys : List Bs} {w : World} : ∀ (fs : List Field) (i : Nat), En P fs i = true -> xs.length = i + fs.length -> ys.length = i + fs.length ->
  (Op.eqFields (d+1) (xs.map sv).toArray (ys.map sv).toArray fs).run P w = .ok (xs.drop i == ys.drop i) w
 | [],i,_,hx,hy=>by
  have h1:xs.drop i=[]:=List.drop_of_length_le (by simp at hx; omega)
  have h2:ys.drop i=[]:=List.drop_of_length_le (by simp at hy; omega)
  rw [h1,h2]
  simp [Op.eqFields]
 | f::t,i,h,hx,hy=>by
  simp only [En,Bool.and_eq_true,bne_iff_ne] at h
  obtain ⟨⟨⟨h1,h2⟩,h3⟩,h4⟩:=h
  have h3':=Nat.eq_of_beq_eq_true h3
  simp only [List.length_cons] at hx hy
  have hxi:i<xs.length:=by omega
  have hyi:i<ys.length:=by omega
  have hu:P.underlying f.type=some .string:=Nv h2
  unfold Op.eqFields
  rw [if_pos h1,h3']
  simp only [Sem.run_bind,vE hu (Zy hxi),vE hu (Zy hyi),Result.andThen_ok,run_equalIn_string w d f.type _ _ hu,iZ]
  have hb:(xs.drop i == ys.drop i)=(xs[i] == ys[i] && (xs.drop (i+1) == ys.drop (i+1))):=by
   rw [List.drop_eq_getElem_cons hxi,List.drop_eq_getElem_cons hyi]; rfl
  rw [hb]
  by_cases he:xs[i]=ys[i]
  ·rw [if_neg (by simp [he]),tQ t (i+1) h4 (by omega) (by omega),he]
   simp only [beq_self_eq_true,Bool.true_and]
  ·rw [if_pos (by simp [he]),beq_eq_false_iff_ne.2 he]
   rfl
theorem EqS.of {P:Program} {T:TypeId} {fs:Array Field} {n:Nat} (h1:P.underlying T=some (.struct fs)) (h2:P.stoodInHeld T=false) (h3:P.eqGuardType P.depth T=false) (h4:En P fs.toList 0=true) (hn:fs.size=n):EqS P T n:=by
 refine ⟨h3,λxs ys w hx hy=>?_⟩
 have hf:P.fieldsOf T=fs:=by simp [Program.fieldsOf,h1]
 rw [run_equalIn_struct w 9999 T _ _ (by rw [hf]; exact h1) h2,hf,tQ fs.toList 0 h4 (by simp [hx,hn]) (by simp [hy,hn])]
 simp
section
variable {P:Program} {e:Env} {h h':SH} {ty:TypeId}
theorem jJ {T t':TypeId} {x y:Operand} {a b c d:Bs} (hE:EqS P T 2) (hx:e.ev? x=some (.agg #[sv a,sv b])) (hy:e.ev? y=some (.agg #[sv c,sv d])) :
  Vop P e h (.binOp .eql T x y t') ty (.bool ([a,b] == [c,d])):=
 ⟨by simp,by simp,λρ w dd pos after g hρ _=>by
  have hq:(Op.equalIn 10000 T (.agg #[sv a,sv b]) (.agg #[sv c,sv d])).run P w = .ok ([a,b] == [c,d]) w:=hE.2 [a,b] [c,d] w rfl rfl
  simp only [execOp,hρ x _ hx,hρ y _ hy,Sem.run_bind,run_eqGuard_agg w .eql T x y _ _ hE.1,Result.andThen_ok,run_eql_struct,hq,Sem.run_pure]⟩
theorem Cz {T t':TypeId} {x y:Operand} {a b c d:Bs} (hE:EqS P T 2) (hx:e.ev? x=some (.agg #[sv a,sv b])) (hy:e.ev? y=some (.agg #[sv c,sv d])) :
  Vop P e h (.binOp .neq T x y t') ty (.bool (!([a,b] == [c,d]))):=
 ⟨by simp,by simp,λρ w dd pos after g hρ _=>by
  have hq:(Op.equalIn 10000 T (.agg #[sv a,sv b]) (.agg #[sv c,sv d])).run P w = .ok ([a,b] == [c,d]) w:=hE.2 [a,b] [c,d] w rfl rfl
  simp only [execOp,hρ x _ hx,hρ y _ hy,Sem.run_bind,run_eqGuard_agg w .neq T x y _ _ hE.1,Result.andThen_ok,run_neq_struct,hq,Sem.run_pure]⟩
end
theorem Kh {a b c d:Bs}:([a,b] == [c,d])=(a == c && b == d):=by
 rw [Bool.eq_iff_iff]
 simp
end Go.Ck
