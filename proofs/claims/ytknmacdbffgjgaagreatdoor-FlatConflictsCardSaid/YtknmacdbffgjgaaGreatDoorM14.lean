/-
  Go's library: slices.SortFunc at structs,by the kit's contract. Conditions: the comparison is a strict weak order,and reads nothing.
-/
import Derived.Test.YtknmacdbffgjgaaGreatDoorM13
import Derived.Test.YtknmacdbffgjgaaGreatDoorM12
import Derived.Test.YtknmacdbffgjgaaGreatDoorM8
import Derived.Test.YtknmacdbffgjgaaGreatDoorM11
import Derived.Shelf.SlSortCmp.NoneTotal
set_option linter.unusedVariables false
set_option linter.unusedSimpArgs false
set_option maxRecDepth 100000
set_option maxHeartbeats 16000000
namespace Go.Fl
open Go Go.RowKit Go.Ck Go.Proofs Go.Proofs.Tryz Go.Proofs.YtknmacdbffgjgaaGreatDoor Fx Go.Hr
attribute [local irreducible] Go.Ck.Sub St Cd Xt Nx DrL LsW
section
variable {X:Res} {v v':Value} {us us':List Value}
theorem Ig {f:Fm} {b3:Nat} {t:Kt} {x:Value} (h:Enc.rep X us f):Reads prog 186 #[.agg us.toArray,.pointer (some ⟨b3,0,none⟩)] [pt b3 (cl (tyC t x) 73)] (.bool (f.name == t.name)):=by
 have h:us=[sv f.name,sv f.bound]:=h
 subst h
 unfold tyC
 refine aL (n:=9) func186 Z Z (len Z) fun hr w0=>?_
 refine cQ (aV Z Z fun b2=>?_)
 refine sV (vA9 Z) (sN (nK9 [1,2,3] Z (nT (cQ (sV (vF Z Jv Z) (sV (vY Z ld9) ?_))))))
 refine sV (vF Z zX Z) (sV (vY Z ld9) ?_)
 refine sV (iL Z Z) (sV (vA9 Z) (sN (nK9 [3] Z (nT (cT ?_)))))
 exact aj Z ⟨Z,Z⟩ sbq
theorem NJ {F:List Fm} {A:List Kt} {k:Int} {n:Nm} {az:List Kt} {w p:Bool}:cO F A (.mk k n az w p)=match (if k=4 then nL F A n else none) with
  | some t=>t.flag w p
  | none=>.mk k n (az.map (cO F A)) w p:=by
 rw [cO,Ce]; rfl
theorem yG {F:List Fm} {A:List Kt} (hl:F.length=A.length) (n:Nm):(DR F n=none∧nL F A n=none)∨∃ i a,DR F n=some i∧A[i]? = some a∧nL F A n=some a∧i<A.length:=by
 cases h:DR F n with
 | none=>left; exact ⟨rfl,by unfold nL; rw [h]; rfl⟩
 | some i =>
  right
  have hi:i<F.length:=(List.findIdx?_eq_some_iff_getElem.1 h).1
  have hi':i<A.length:=by omega
  exact ⟨i,A[i],Z,List.getElem?_eq_getElem hi',by unfold nL; rw [h,Option.bind_some,List.getElem?_eq_getElem hi'],hi'⟩
theorem ixI_ge {o:Option Nat}:decide ((0:Int)≤ixI o)=o.isSome:=by
 cases o with
 | none=>rfl
 | some i=>exact decide_eq_true (Int.natCast_nonneg i)
theorem Ih {L k:SH} {T:Res} {L':SH} (s:Sel L T L') (p:Addr) (u:Value) (h:Rd (Res.star (T::k)) p u):Rd (Res.star (Res.star L::k)) p u:=fun w hw=>by
 have h1:bf (hp w) (L++k):=dA.1 hw
 have h2:bf (hp w) ((T::L')++k):=(bf.perm (s.perm.append_right k)).1 h1
 have h3:bf (hp w) (L'++(T::k)):=(bf.perm (List.perm_middle (l₁ := L')).symm).1 h2
 exact h w (bf.append.1 h3).2.1
theorem FW {F : List Fm} {A : List Kt} {fv av : Value} (hl : F.length = A.length) (hF : Ls X fv F) (hA : Ls X av A) : ∀ (d : Nat) (t : Kt) (us : List Value), t.depth ≤ d → Ty X us t →
  CtN prog 115 #[.agg us.toArray,fv,av] [X] fun u T=>∃ us':List Value,u = .agg us'.toArray∧Ty (Res.star [T,X]) us' (cO F A t)
 | 0,s,_,hd,_=>by cases s; simp [Kt.depth] at hd
 | d + 1, .mk k n az w p, us, hd, hs => by
  obtain ⟨x,rfl,hx⟩:=ek hs
  have hx:Tys X x az:=hx
  have hR:∀ a∈az,∀ us,Ty X us a→CtN prog 115 #[.agg us.toArray,fv,av] [X] fun u T=>∃ us':List Value,u = .agg us'.toArray∧Ty (Res.star [T,X]) us' (cO F A a):=fun a ha us h=>FW hl hF hA d a us (by have:=jF (t:=.mk k n az w p) ha; omega) h
  have hml:maxLen=9223372036854775807:=rfl
  have hrb:reachBytes=140737488351232:=rfl
  obtain ⟨xa,xc,rfl,hlc,hcm,hnone⟩:=id hx.form
  obtain ⟨fa,fc,hfv,_⟩:=id hF.form
  obtain ⟨aa,ac,hav,_⟩:=id hA.form
  have hbb:az.length * 56≤reachBytes:=hx.sizes
  have htell:∀ b3:Nat,∀ f∈F,∀ us,Enc.rep (Res.star [pt b3 (cl (tyC (.mk k n az w p) (.slice xa az.length xc)) 73),X]) us f→Reads prog 186 (#[]++([.agg us.toArray]:List Value).toArray ++ #[.pointer (some ⟨b3,0,none⟩)]) [Res.star [pt b3 (cl (tyC (.mk k n az w p) (.slice xa az.length xc)) 73),X]] (.bool (f.name == n)):=fun b3 f _ us h =>
   kQ (Reads.more (Ig (b3:=b3) (t:=.mk k n az w p) h) (.cons .here .nil))
  rw [NJ]
  show CtN _ _ #[.agg #[.int .i64 k,sv n,.slice xa az.length xc,.bool w,.bool p],_,_] _ _
  have htell:∀ b3:Nat,∀ f∈F,∀ us,Enc.rep (Res.star [pt b3 (cl [.int .i64 k,sv n,.slice xa az.length xc,.bool w,.bool p] 73),X]) us f→Reads prog 186 (#[]++([.agg us.toArray]:List Value).toArray ++ #[.pointer (some ⟨b3,0,none⟩)]) [Res.star [pt b3 (cl [.int .i64 k,sv n,.slice xa az.length xc,.bool w,.bool p] 73),X]] (.bool (f.name == n)):=htell
  refine aL (n:=69) func115 Z Z (len Z) fun hr w0=>?_
  refine cQ (aV Z Z fun b3=>?_)
  refine au Aa fun b6=>?_
  refine sN (nK9 [1,2,3,6] Z (nT (cS (cQ (sM Z (sV (bY Z Z) (bg Z Z en185 Z ((eP (K5 (X:=Res.star [pt b3 (cl [.int .i64 k,sv n,.slice xa az.length xc,.bool w,.bool p] 73),X]) (g:=fun f:Fm=>f.name == n) (hF.up' (bH (.there .here))) en186 (htell b3)))) ?_)))))))
  rw [show List.findIdx? (fun f:Fm=>f.name == n) F=DR F n from rfl]
  refine sV (vA9 Z) (sN (nK9 [1,2,3,6,7] Z (nT (cQ (sV (vF Z qD Z) (sV (vY Z ld3) ?_))))))
  refine sV (dB Z Z) (sM Z (bD (k:=7) (d:=21) (v:=.bool (k == 4 && decide ((0:Int)≤ixI (DR F n)))) (fun hcut=>aM (b:=(k == 4)) true (fun hg=>?_) (fun hg=>?_)) ?_))
  ·refine aC Z Z hg ?_
   refine aC Z Z hg ?_
   refine sV (vP (bO Z hg) Z) ?_
   exact hcut _ uG
  ·refine sG Z (bG Z hg) (vM Z) (sG Z (bG Z hg) (pg Z Z) (sV (vQ (bO Z hg) Z) ?_))
   exact hcut _ uG
  rw [ixI_ge]
  by_cases hq:k=4∧(nL F A n).isSome=true
  ·obtain ⟨hk,hac⟩:=hq
   rcases yG hl n with ⟨_,h2⟩ | ⟨j,a,hj,haj,hac2,hlt⟩
   ·rw [h2] at hac; cases hac
   rw [if_pos hk,hac2,hj]
   rw [show (k == 4 && (some j).isSome)=true by rw [hk]; rfl]
   obtain ⟨b,o,cap2,us,e1,hus,hrd,hta⟩:=hA.at haj
   rw [hav] at e1
   obtain ⟨rfl,rfl⟩:aa=some ⟨b,o,none⟩∧ac=cap2:=by cases e1; exact ⟨rfl,rfl⟩
   have hone:=Enc.ones hta
   obtain ⟨y,rfl,hya⟩:=ek hta
   obtain ⟨ya,yc,rfl,_⟩:=id hya.form
   unfold tyC at hrd hone
   refine sN (nK9 [1,2,3,6,7,21] Z (nT (aT Z ?_)))
   refine cQ (sM Z (sM Z (sV (vI (k:=j) (congrArg some hav) Z yR Z hlt Z) (sV (ag Z fQ Z hrd) ?_))))
   refine au Aa fun b8=>?_
   refine ai Z Z nD Z hone ?_
   refine sN (nK9 [1,2,3,6,8] Z (nT (cS (jd (ork [(0,2),(6,2)] (.two 1 (ork [(2,2),(3,2),(4,1),(5,2),(7,0),(8,2),(9,2),(10,1),(11,2),(12,2),(13,0),(14,2),(15,0)] .nil) 7 (ork [(1,0),(2,2),(3,2),(4,1),(5,2),(8,2),(9,2),(10,1),(11,2),(12,2),(13,0),(14,2),(15,0)] .nil))) (fun i => !(Nat.beq i 1 || Nat.beq i 15)) [pt b3 (cl [.int .i64 k,sv n,.slice xa az.length xc,.bool w,.bool p] 73)] mixed (by kernel_rfl) ?_))))
   refine dV Z (vF Z oH Z) (dV Z (vF Z oI Z) (mH Z Z ?_ ?_))
   ·refine sV (vY Z ld4) (aW ?_)
    refine dV Z (vM Z) (Dp (k:=3) (d:=31) (v:=.bool (a.void || w)) (fun hcut=>aM (b:=(a.void)) false (fun hg=>?_) (fun hg=>?_)) ?_)
    ·refine ku Z Z Z hg ?_
     refine nz Z Z Z hg ?_
     refine dV Z (vQ (bO Z hg) Z) ?_
     exact hcut _ uG
    ·refine jf Z Z (bG Z hg) (vF Z oH Z) (pF Z Z (bG Z hg) (vY Z ld4) ?_)
     refine dV Z (vP (bO Z hg) Z) ?_
     exact hcut _ uG
    refine aQ Z (sV (vY Z ld4) (aW ?_))
    refine dV Z (vM Z) (Dp (k:=3) (d:=37) (v:=.bool (a.sep || p)) (fun hcut=>aM (b:=(a.sep)) false (fun hg=>?_) (fun hg=>?_)) ?_)
    ·refine ku Z Z Z hg ?_
     refine nz Z Z Z hg ?_
     refine dV Z (vQ (bO Z hg) Z) ?_
     exact hcut _ uG
    ·refine jf Z Z (bG Z hg) (vF Z oI Z) (pF Z Z (bG Z hg) (vY Z ld4) ?_)
     refine dV Z (vP (bO Z hg) Z) ?_
     exact hcut _ uG
    refine dV Z (vF Z oH Z) (aQ Z (aX Z Z sz4 ?_))
    refine aW ?_
    refine dV Z (vF Z oI Z) (aQ Z (aX Z Z sz4 (aW ?_)))
    refine bA (nK9 [1,2,3,6,8] Z (nT (cQ (sV (ag Z fQ Z af) ?_))))
    refine ai Z Z nD Z Z ?_
    refine sN (nK9 [6] Z (nT (cT (xR (jv (eD (L:=[])) ?_)))))
    exact bC (.cellN Z fQ Z slq .nil) ⟨Res.star [],Z,_,Z,gN (t:=a.flag w p) Z (hya.up' (bH slq))⟩ sbr
   ·refine sV (vY Z ld4) (aW ?_)
    refine aQ Z (sV (vY Z ld4) (aW ?_))
    refine dV Z (vM Z) (Dp (k:=3) (d:=31) (v:=.bool (a.void || w)) (fun hcut=>aM (b:=(a.void)) false (fun hg=>?_) (fun hg=>?_)) ?_)
    ·refine ku Z Z Z hg ?_
     refine nz Z Z Z hg ?_
     refine dV Z (vQ (bO Z hg) Z) ?_
     exact hcut _ uG
    ·refine jf Z Z (bG Z hg) (vF Z oH Z) (pF Z Z (bG Z hg) (vY Z ld4) ?_)
     refine dV Z (vP (bO Z hg) Z) ?_
     exact hcut _ uG
    refine dV Z (vM Z) (Dp (k:=3) (d:=37) (v:=.bool (a.sep || p)) (fun hcut=>aM (b:=(a.sep)) false (fun hg=>?_) (fun hg=>?_)) ?_)
    ·refine ku Z Z Z hg ?_
     refine nz Z Z Z hg ?_
     refine dV Z (vQ (bO Z hg) Z) ?_
     exact hcut _ uG
    ·refine jf Z Z (bG Z hg) (vF Z oI Z) (pF Z Z (bG Z hg) (vY Z ld4) ?_)
     refine dV Z (vP (bO Z hg) Z) ?_
     exact hcut _ uG
    refine dV Z (vF Z oH Z) (aQ Z (aX Z Z sz4 ?_))
    refine aW ?_
    refine dV Z (vF Z oI Z) (aQ Z (aX Z Z sz4 (aW ?_)))
    refine bA (nK9 [1,2,3,6,8] Z (nT (cQ (sV (ag Z fQ Z af) ?_))))
    refine ai Z Z nD Z Z ?_
    refine sN (nK9 [6] Z (nT (cT (xR (jv (eD (L:=[])) ?_)))))
    exact bC (.cellN Z fQ Z slq .nil) ⟨Res.star [],Z,_,Z,gN (t:=a.flag w p) Z (hya.up' (bH slq))⟩ sbr
  ·have hne:(k == 4 && (DR F n).isSome)=false:=by
    rcases yG hl n with ⟨h1,h2⟩ | ⟨j,a,hj,haj,hac2,hlt⟩
    ·rw [h1]; simp
    ·rw [hac2] at hq
     have hk:k≠4:=fun e=>hq ⟨e,rfl⟩
     simp [hk]
   have hm:(match (if k=4 then nL F A n else none) with
     | some t=>t.flag w p
     | none=>Kt.mk k n (az.map (cO F A)) w p) = .mk k n (az.map (cO F A)) w p:=by
    by_cases hk:k=4
    ·rw [if_pos hk]
     cases hac:nL F A n with
     | none=>rfl
     | some t=>rw [hac] at hq; exact absurd ⟨hk,rfl⟩ hq
    ·rw [if_neg hk]
   rw [hm,hne]
   refine sN (nK9 [1,2,3,6,7,21] Z (nT (aG Z ?_)))
   refine cK9 (xT (cQ (sV (vF Z iN Z) (sV (vY Z oG) ?_))))
   refine sV (aF Z underlying71) ?_
   have hsn:∀ i (h:i<az.length),(az.take (i+1)).map (cO F A)=(az.take i).map (cO F A)++[cO F A az[i]]:=fun i h=>by rw [List.take_add_one,List.getElem?_eq_getElem h,List.map_append]; rfl
   refine Nk (n:=az.length) Z Z Z underlying71 Jt Z (by decide) (by omega) (by omega) (ltn Z) fun b9=>?_
   refine sV (vA9 Z) (sN (nK9 [1,2,3,6,9] Z (nT (cS (cQ (sV (vF Z iN Z) (sV (vY Z oG) ?_)))))))
   refine sV (aF Z underlying71) (sM Z (sN (nK9 [1,2,3,6,9,46,47,48] Z (nT (cB (dK (eD (L:=[])) (aZ (σ := List (List Value)×Res×Nat) (fun q=>[(1,fv),(2,av),(3,.pointer (some ⟨b3,0,none⟩)),(6,.pointer (some ⟨b6,0,none⟩)),(9,.slice (some ⟨b9,0,none⟩) az.length az.length),(46,.slice xa az.length xc),(47,.int .i64 az.length),(48,.int .i64 (q.2.2:Nat))]) (fun q=>pt b9 (cl q.1.flatten 73)::q.2.1::X::pt b3 (cl [.int .i64 k,sv n,.slice xa az.length xc,.bool w,.bool p] 73)::pt b6 (cl [.int .i64 0,sv [],.slice none 0 0,.bool false,.bool false] 73)::hr) (fun q=>q.2.2≤az.length∧q.1.length=az.length∧(∀ r∈q.1,r.length=5)∧∀ (j:Nat) us (hj:j<az.length),j<q.2.2→q.1[j]? = some us→Ty (Res.star [q.2.1,X]) us (cO F A az[j])) (fun q=>az.length - q.2.2) (List.replicate az.length [.int .i64 0,sv [],.slice none 0 0,.bool false,.bool false],Res.star [],0) ⟨Nat.zero_le _,by simp,fun r hr=>by rw [List.eq_of_mem_replicate hr]; rfl,fun j us _ hj=>absurd hj (Nat.not_lt_zero _)⟩ ?_)))))))
   rintro ⟨rows,T,i⟩ ⟨hi,hrl,hr5,hpc⟩
   simp only at hi hrl hr5 hpc
   dsimp only
   refine cQ (sV (aO Z Z) (sN (nT (cS (cC Z (fun hd=>?_) (fun hd=>?_))))))
   ·have hlt:i<az.length:=by simpa using hd
    have hmem:=List.getElem_mem hlt
    obtain ⟨b,o,cap2,us,e1,hus,hrd,hta⟩:=hx.at (List.getElem?_eq_getElem hlt)
    cases e1
    have hus:us.length=5:=hus
    have hone:=Enc.ones hta
    have hca:=hR _ hmem us hta
    refine cK9 (xT (cS (cB (cQ (sM Z (sV (vI (k:=i) Z Z yR Z hlt Z) (sV (ag Z fQ hus hrd) ?_)))))))
    refine au Aa fun b11=>?_
    refine sV (vA9 Z) (ai (hl:=by rw [hus]; rfl) Z Z nD hus hone ?_)
    refine sN (nK9 [1,2,3,6,9,10,11,46,47,48] Z (nT (cR (sM Z (sM Z (sV (ag Z fQ hus af) ?_))))))
    refine sM Z (sM Z (aH Z Z JM Z (hca) ?_))
    rintro u h' ⟨T2,rfl,us2,rfl,hT2⟩
    simp only [lC,lN]
    have h5:us2.length=5:=Enc.len hT2
    have h1:=Enc.ones hT2
    refine sV (vI (k:=i) Z Z yR Z hlt Z) (ig Z Z nD h5 (ones h1) (show Sel _ (pt b9 (cl rows.flatten 73)) _ from slq) (by rw [Am hr5,hrl,h5]; omega) ?_)
    rw [show 0+i * 5=i * 5 by omega,mq h5 hr5 (by omega)]
    refine sN (nK9 [1,2,3,6,9,46,47,48] Z (ax (xB (xT (cR (sV (aI Z Z (by unfold I64 at *; omega)) (sM Z (sN (nK9 [1,2,3,6,9,46,47,48] Z (ax (kz (fq (L:=[T,T2])) ?_)))))))))))
    simp only [lC,lN]
    refine aJ (rows.set i us2,Res.star [T,T2],i+1) ⟨hlt,by simp [hrl],fun r hr=>?_,fun j us3 hjl hj g1=>?_⟩ (Nat.sub_lt_sub_left hlt (Nat.lt_succ_self i))
    ·rcases List.mem_or_eq_of_mem_set hr with h | h
     ·exact hr5 r h
     ·rw [h]; exact h5
    ·by_cases hji:j=i
     ·subst hji
      rw [List.getElem?_set_self (by omega)] at g1
      cases g1
      exact Enc.up (fun p u h=>Ih (.there .here) p u h) hT2
     ·rw [List.getElem?_set_ne (Ne.symm hji)] at g1
      have hj:j<i+1:=hj
      exact Enc.up (fun p u h=>Ih .here p u h) (hpc j us3 hjl (by omega) g1)
   ·have hie:i=az.length:=by
     have:¬ i<az.length:=by simpa using hd
     omega
    subst hie
    refine aB (xE (xE (xY (xT (cQ (sM Z (sM Z (sV (aF Z underlying71) (sM Z (sV (aF Z underlying71) (Af (Ag (b:=b9) (n:=az.length) (sz:=5) (E:=73) rows Z hr5 hrl (by omega)) ?_)))))))))))
    simp only [lC,lN]
    refine nM (r:=VR (.slice (some ⟨b9,0,none⟩) az.length az.length) 73 5 rows) slq fun hok=>?_
    refine Af (fq (L:=[VR (.slice (some ⟨b9,0,none⟩) az.length az.length) 73 5 rows,T])) ?_
    simp only [lC,lN]
    have hls:Tys (Res.star [Res.star [VR (.slice (some ⟨b9,0,none⟩) az.length az.length) 73 5 rows,T],X]) (.slice (some ⟨b9,0,none⟩) az.length az.length) (az.map (cO F A)):=Rws.ls (E:=73) (rows:=rows) ⟨by simp [hrl],fun j us x h1 h2=>by
     have hjl:j<az.length:=by have:=(List.getElem?_eq_some_iff.1 h1).1; omega
     rw [List.getElem?_map,List.getElem?_eq_getElem hjl] at h2
     cases h2
     exact Enc.up (fun p u h=>Ih (.there .here) p u h) (hpc j us hjl hjl h1)⟩ hok (fun p u h=>bH .here p u (bH .here p u h)) (by rw [List.length_map]; exact hbb)
    refine sV (Ay (hi:=az.length) (mx:=az.length) Z Z Z yR Z Z (Nat.le_refl _) (Nat.le_refl _)) (sV (vF Z iN Z) (aX Z Z sz71 ?_))
    refine sN (nK9 [3,6] Z (nT (cQ (sV (ag Z fQ Z af) ?_))))
    refine ai Z Z nD Z Z ?_
    refine sN (nK9 [6] Z (nT (cT ?_)))
    exact bC (.cellN Z fQ Z slq .nil) ⟨Res.star [VR (.slice (some ⟨b9,0,none⟩) az.length az.length) 73 5 rows,T],Z,_,Z,gN (t:=.mk k n (az.map (cO F A)) w p) Z (by rw [show (Kt.mk k n (az.map (cO F A)) w p).args=az.map (cO F A) from Z]; simpa using hls)⟩ sbr
theorem AJ {F:List Fm} {A:List Kt} {fv av:Value} {t:Kt} (hl:F.length=A.length) (hF:Ls X fv F) (hA:Ls X av A) (h:Ty X us t) :
  CtN prog 115 #[.agg us.toArray,fv,av] [X] fun u T=>∃ us':List Value,u = .agg us'.toArray∧Ty (Res.star [T,X]) us' (cO F A t):=FW hl hF hA t.depth t us (Nat.le_refl _) h
theorem tpw_unf (t:Kt):tpw t=tpws 1 t.args:=by cases t; rfl
theorem FX : ∀ (d : Nat) (X : Res) (t : Kt) (us : List Value), t.depth ≤ d → Ty X us t → Reads prog 134 #[.agg us.toArray] [X] (.int .i64 (tpw t))
 | 0,_,s,_,hd,_=>by cases s; simp [Kt.depth] at hd
 | d + 1, X, t, us, hd, hs => by
  obtain ⟨x,rfl,hx⟩:=ek hs
  have hR:∀ a∈t.args,∀ us,Ty X us a→Reads prog 134 #[.agg us.toArray] [X] (.int .i64 (tpw a)):=fun a ha us h=>FX d X a us (by have:=jF ha; omega) h
  have hml:maxLen=9223372036854775807:=rfl
  obtain ⟨xa,xc,rfl,hlc,hcm,_⟩:=id hx.form
  rw [tpw_unf]
  unfold tyC
  refine aL (n:=19) func134 Z Z (len Z) fun hr w0=>?_
  refine cQ (aV Z Z fun b1=>?_)
  refine sV (vA9 Z) (sN (nK9 [1,2] Z (nT (cQ (sV (vA9 Z) (sN (nT (cS (cQ (sV (vF Z iN Z) (sV (vY Z oG) ?_)))))))))))
  refine sV (aF Z underlying71) (sM Z (sN (nK9 [2,3,7,8,9] Z (nT (cB (aZ (σ := Int×Nat) (fun q=>[(3,.int .i64 q.1),(7,.slice xa t.args.length xc),(8,.int .i64 t.args.length),(9,.int .i64 (q.2:Nat))]) (fun _=>X::hr) (fun q=>q.2≤t.args.length∧tpws q.1 (t.args.drop q.2)=tpws 1 t.args) (fun q=>t.args.length - q.2) (1,0) ⟨Nat.zero_le _,Z⟩ ?_))))))
  rintro ⟨n,i⟩ ⟨hi,hn⟩
  simp only at hi hn
  dsimp only
  refine cQ (sV (aO Z Z) (sN (nT (cS (cC Z (fun hd2=>?_) (fun hd2=>?_))))))
  ·have hlt:i<t.args.length:=by simpa using hd2
   obtain ⟨b,o,cap2,us,e1,hus,hrd,ht⟩:=hx.at (List.getElem?_eq_getElem hlt)
   cases e1
   have hus:us.length=5:=hus
   have hone:=Enc.ones ht
   have hca:=hR _ (List.getElem_mem hlt) us ht
   have hdr:t.args.drop i=t.args[i]::t.args.drop (i+1):=by rw [List.getElem_cons_drop]
   rw [hdr,tpws] at hn
   refine cK9 (xT (cS (cB (cQ (sV (vI (k:=i) Z Z yR Z hlt Z) (sV (ag Z fQ hus hrd) ?_))))))
   refine au Aa fun b5=>?_
   refine ai (hl:=by rw [hus]; rfl) Z Z nD hus hone ?_
   refine sN (nK9 [3,5,7,8,9] Z (nT (cR (sM Z (sV (ag Z fQ hus af) ?_)))))
   refine bg Z Z en134 Z (hca) ?_
   refine sV (Dk Z Z) (sV (vA9 Z) (sN (nK9 [3,7,8,9] Z (ax (xB (xT (cR (sV (aI Z Z (by unfold I64; omega)) ?_))))))))
   refine sM Z (sN (nK9 [3,7,8,9] Z (ax ?_)))
   refine aJ (IntKind.i64.wrap (n+tpw t.args[i]),i+1) ⟨hlt,hn⟩ (Nat.sub_lt_sub_left hlt (Nat.lt_succ_self i))
  ·have hil:i=t.args.length:=by
    have:¬ i<t.args.length:=by simpa using hd2
    omega
   rw [hil,List.drop_length,tpws] at hn
   rw [← hn]
   refine aB (xE (xE (xY (xT (cQ (sM Z (sV (vA9 Z) (sN (nK9 [2] Z (nT (cT ?_)))))))))))
   exact aj Z ⟨Z,Z⟩ sbq
theorem FY {t:Kt} (h:Ty X us t):Reads prog 134 #[.agg us.toArray] [X] (.int .i64 (tpw t)):=FX t.depth X t us (Nat.le_refl _) h
theorem Ii {a:Vr} (h:Enc.rep X us a):Reads prog 136 #[.agg us.toArray] [X] (.bool (decide (400<tpw a.ty))):=by
 obtain ⟨x,rfl,hx⟩:=Ea h
 have hp:=FY (gN (t:=a.ty) rfl hx)
 unfold tyC at hp
 refine aL (n:=7) func136 Z Z (len Z) fun hr w0=>?_
 refine cQ (aV Z Z fun b1=>?_)
 refine sV (vA9 Z) (sN (nK9 [1,2] Z (nT (cQ (sV (vF Z mg Z) (sV (ag Z fQ Z (bF (us:=[sv a.name,.int .i64 a.ty.kind,sv a.ty.name,x,.bool a.ty.void,.bool a.ty.sep]) (vs:=[.int .i64 a.ty.kind,sv a.ty.name,x,.bool a.ty.void,.bool a.ty.sep]) (k:=1) af Z)) ?_))))))
 refine bg Z Z en134 Z (hp) ?_
 refine sV (bZ Z Z) (sV (vA9 Z) (sN (nK9 [2] Z (nT (cT ?_)))))
 exact aj Z ⟨Z,Z⟩ sbq
theorem Ij {m:Mb} (h:Enc.rep X us m):Reads prog 133 #[.agg us.toArray] [X] (.bool (decide (400<tpw m.ty) || m.args.any fun v=>decide (400<tpw v.ty))):=by
 obtain ⟨x2,x5,xy,x11,x12,x13,rfl,hx2,hx5,hxy,hx11,hx12,hx13⟩:=dJ h
 have hp:=FY (gN (t:=m.ty) rfl hxy)
 unfold tyC at hp
 unfold ik
 refine aL (n:=12) func133 Z Z (len Z) fun hr w0=>?_
 refine cQ (aV Z Z fun b1=>?_)
 refine sV (vA9 Z) (sN (nK9 [1,2] Z (nT (cQ (sV (vF Z qE Z) (sV (ag Z fQ Z (bF (us:=ik m x2 x5 xy x11 x12 x13) (vs:=[.int .i64 m.ty.kind,sv m.ty.name,xy,.bool m.ty.void,.bool m.ty.sep]) (k:=6) af Z)) ?_))))))
 refine bg Z Z en134 Z (hp) ?_
 refine sV (bZ Z Z) (sM Z (bD (k:=9) (d:=11) (v:=.bool (decide (400<tpw m.ty) || m.args.any fun v=>decide (400<tpw v.ty))) (fun hcut=>aM (b:=(decide (400<tpw m.ty))) false (fun hg=>?_) (fun hg=>?_)) ?_))
 ·refine aC Z Z hg ?_
  iterate 2 refine aC rfl rfl hg ?_
  refine sV (vQ (bO Z hg) Z) ?_
  exact hcut _ uG
 ·refine sG Z (bG Z hg) (vF Z ll Z) (sG Z (bG Z hg) (vY Z sF) ?_)
  refine bR Z (bG Z hg) Z Z en135 Z (La hx5 en136 (fun _ _ _ h=>Ii h)) ?_
  refine sV (vP (bO Z hg) Z) ?_
  exact hcut _ uG
 refine sV (vA9 Z) (sN (nK9 [2] Z (nT (cT ?_))))
 exact aj Z ⟨Z,Z⟩ sbq
theorem J7 {ms:List Mb} (hv:Ls X v ms):Reads prog 59 #[v] [X] (.bool (over ms)):=by
 obtain ⟨a,cap,rfl,hlc,hcm,_⟩:=id hv.form
 have hov:over ms=(decide ((60:Int)<(ms.length:Nat)) || ms.any fun m=>decide (400<tpw m.ty) || m.args.any fun v=>decide (400<tpw v.ty)):=by
  unfold over
  rw [show decide (60<ms.length)=decide ((60:Int)<(ms.length:Nat)) by rw [Bool.eq_iff_iff]; simp; omega]
 rw [hov]
 refine aL (n:=10) func59 Z Z (len Z) fun hr w0=>?_
 refine cQ (sV (vA9 Z) (sN (nT (cQ (sM Z (sV (aF Z underlying52) (sV (bZ Z Z) (sM Z (bD (k:=7) (d:=9) (v:=.bool (decide ((60:Int)<(ms.length:Nat)) || ms.any fun m=>decide (400<tpw m.ty) || m.args.any fun v=>decide (400<tpw v.ty))) (fun hcut=>aM (b:=(decide ((60:Int)<(ms.length:Nat)))) false (fun hg=>?_) (fun hg=>?_)) ?_)))))))))
 ·refine aC Z Z hg ?_
  refine aC Z Z hg ?_
  refine sV (vQ (bO Z hg) Z) ?_
  exact hcut _ uG
 ·refine sG Z (bG Z hg) (vM Z) (bR Z (bG Z hg) Z Z en132 Z (K9 hv en133 (fun _ _ _ h=>Ij h)) ?_)
  refine sV (vP (bO Z hg) Z) ?_
  exact hcut _ uG
 refine sV (vA9 Z) (sN (nK9 [2] Z (nT (cT ?_))))
 exact aj Z ⟨Z,Z⟩ sbq
end
instance encL {α : Type} [Enc α]:Enc (List α) where
 sz:=1
 by':=24
 rep S us xs:=∃ u,us=[u]∧Ls S u xs
 len h:=by obtain ⟨u,rfl,_⟩:=h; rfl
 ones h:=by obtain ⟨u,rfl,h2⟩:=h; simp [h2.one]
 up hr h:=by obtain ⟨u,h1,h2⟩:=h; exact ⟨u,h1,h2.up' hr⟩
theorem vw_full {a : Option Addr} {n cp : Nat} {E : TypeId} {sz : Nat} {rows : List (List Value)} {h : SH} : Vw (VR (.slice a n cp) E sz rows :: h) (VR (.slice a rows.length rows.length) E sz rows :: h) := fun w ⟨h1, h2, h3⟩ => by
 refine ⟨?_,fun b ⟨o,m,c,hb⟩=>?_,h3⟩
 ·refine ⟨h1.1,?_⟩
  rcases h1.2 with ⟨g1,g2⟩ | ⟨b,o,c,pre,j,g1,g2,g3,g4,g5,g6⟩
  ·cases g1; subst g2; exact .inl ⟨rfl,rfl⟩
  ·cases g1
   refine .inr ⟨b,o,rows.length,pre,j,Z,g2,g3,Nat.le_refl _,by omega,?_⟩
   exact Nat.le_trans (Nat.mul_le_mul_right _ g4) g6
 ·rcases h1.2 with ⟨g1,g2⟩ | ⟨b',o',c',pre,j,g1,g2,g3,g4,g5,g6⟩
  ·cases g1; cases hb
  ·cases g1; cases hb
   exact h2 b ⟨_,_,_,Z⟩
section
variable {X:Res} {v v':Value} {us us':List Value}
theorem FZ {xs:List Sd} {s:Sd} (hv:Ls X v xs):Reads prog 101 #[v,.agg #[sv s.cls,sv s.name]] [X] (.int .i64 (ixI (xs.findIdx? fun x=>decide (x=s)))):=by
 have hml:maxLen=9223372036854775807:=rfl
 obtain ⟨a,cap,rfl,hlc,hcm,_⟩:=id hv.form
 refine aL (n:=19) func101 Z Z (len Z) fun hr w0=>?_
 refine cQ (aV Z Z fun b3=>?_)
 refine sV (vA9 Z) (sN (nK9 [0,3,4] Z (nT (cS (cQ (sM Z (sV (aF Z underlying67) (sM Z (sN (nK9 [0,3,4,7,8] Z (nT (cB (aZ (σ := Nat) (fun i=>[(0,.slice a xs.length cap),(3,.pointer (some ⟨b3,0,none⟩)),(7,.int .i64 xs.length),(8,.int .i64 (i:Nat))]) (fun _=>X::pt b3 (cl [sv s.cls,sv s.name] 69)::hr) (fun i=>i≤xs.length∧∀ j (hj:j<xs.length),j<i→xs[j]≠s) (fun i=>xs.length - i) 0 ⟨Nat.zero_le _,fun j _ hj=>absurd hj (Nat.not_lt_zero _)⟩ ?_)))))))))))))
 rintro i ⟨hi,hal⟩
 refine cQ (sV (aO Z Z) (sN (nT (cS (cC Z (fun hd=>?_) (fun hd=>?_))))))
 ·have hlt:i<xs.length:=by simpa using hd
  obtain ⟨b,o,cap2,us,e1,hus,hrd,hre⟩:=hv.at (List.getElem?_eq_getElem hlt)
  cases e1
  have hre:us=[sv (xs[i]).cls,sv (xs[i]).name]:=hre
  subst hre
  refine cK9 (xT (cS (cB (cQ (sM Z (sV (vA9 Z) (sN (nK9 [0,3,5,7,8] Z (nT (cS (bB (ork [(0,1),(1,2),(2,2),(3,2),(4,1),(5,1)] .nil) (fun _=>true) mixed (by kernel_rfl) ?_)))))))))))
  refine bu Z (ag Z iM Z af) ?_
  refine dV Z (vM Z) (dV Z (vM Z) (dV Z (vI (k:=i) Z Z pX Z hlt Z) (bu Z (ag Z iM Z hrd) ?_)))
  refine bu Z (jG Az Z Z) (bA (nK9 [0,3,5,7,8,16] Z (nT ?_)))
  rw [← xn]
  refine cC Z (fun he=>?_) (fun he=>?_)
  ·have he:s=xs[i]:=of_decide_eq_true he
   rw [show xs.findIdx? (fun x=>decide (x=s))=some i by
    rw [List.findIdx?_eq_some_iff_getElem]
    exact ⟨hlt,by simp [he],fun j hj=>by simpa using hal j (by omega) hj⟩]
   refine cQ (sM Z (sV (vA9 Z) (sN (nK9 [4] Z (nT (cT (xW (xR (xR (xW (xR ?_)))))))))))
   exact aj Z ⟨Z,Z⟩ sbq
  ·have he:s≠xs[i]:=of_decide_eq_false he
   refine cK9 (xB (xT (cR (sV (aI Z Z (by unfold I64 at *; omega)) (sM Z (sN (nK9 [0,3,7,8] Z (ax (aJ (i+1) ⟨hlt,fun j hj hj2=>?_⟩ (Nat.sub_lt_sub_left hlt (Nat.lt_succ_self i)))))))))))
   by_cases hji:j=i
   ·subst hji; exact fun e=>he e.symm
   ·exact hal j hj (by omega)
 ·have hil:i=xs.length:=by
   have:¬ i<xs.length:=by simpa using hd
   omega
  rw [show xs.findIdx? (fun x=>decide (x=s))=none by
   rw [List.findIdx?_eq_none_iff]
   intro f hfm
   obtain ⟨j,hj,rfl⟩:=List.getElem_of_mem hfm
   simpa using hal j hj (by omega)]
  refine aB (xE (xE (xY (xT (cQ (sV (vA9 Z) (sN (nK9 [4] Z (nT (cT ?_))))))))))
  exact aj Z ⟨Z,Z⟩ sbq
theorem Ec {xs:List Sd} {s:Sd}:(xs.any fun x=>decide (x=s))=xs.contains s:=by
 rw [Bool.eq_iff_iff]; simp
theorem vG {xs:List Sd} {s:Sd} (hv:Ls X v xs):Reads prog 33 #[v,.agg #[sv s.cls,sv s.name]] [X] (.bool (xs.contains s)):=by
 rw [← Ec,← rH]
 obtain ⟨a,cap,rfl,hlc,hcm,_⟩:=id hv.form
 refine aL (n:=9) func33 Z Z (len Z) fun hr w0=>?_
 refine cQ (aV Z Z fun b3=>?_)
 refine sV (vA9 Z) (sN (nK9 [0,3,4] Z (nT (cQ (sM Z (sV (ag Z iM Z af) ?_))))))
 refine bg Z Z en101 Z (FZ hv) ?_
 refine sV (pg Z Z) (sV (vA9 Z) (sN (nK9 [4] Z (nT (cT ?_)))))
 exact aj Z ⟨Z,Z⟩ sbq
theorem lq {ms:List Mb} {s:Sd} (hv:Ls X v ms):CtN prog 102 #[v,.agg #[sv s.cls,sv s.name]] [X] fun u T=>u.oneCell'=true∧T=NR u (aY ms s):=by
 have hml:maxLen=9223372036854775807:=rfl
 have hrb:reachBytes=140737488351232:=rfl
 have hsz:ms.length * 232≤reachBytes:=hv.sizes
 obtain ⟨a,cap,rfl,hlc,hcm,_⟩:=id hv.form
 have hsn:∀ i (h:i<ms.length),aY (ms.take (i+1)) s=aY (ms.take i) s++(if (ms[i]).seeds.contains s then [(ms[i]).name] else []):=fun i h=>by
  unfold aY
  rw [List.take_succ_eq_append_getElem h,List.filter_append,List.map_append]
  congr 1
  rw [List.filter_cons,List.filter_nil]
  split <;> simp
 have hle:∀ i,(aY (ms.take i) s).length≤i:=fun i=>by
  unfold aY
  rw [List.length_map]
  exact Nat.le_trans (List.length_filter_le _ _) (by rw [List.length_take]; omega)
 refine aL (n:=25) func102 Z Z (len Z) fun hr w0=>?_
 refine cQ (aV Z Z fun b3=>?_)
 refine sV (vA9 Z) (sN (nK9 [0,3,4] Z (nT (cQ (sV (vA9 Z) (sN (nT (cS (cQ (sM Z (sV (aF Z underlying52) (sM Z (sN (nK9 [3,4,5,8,9,10] Z (nT (cB ?_))))))))))))))))
 refine dK (cz 9 1) (aZ (σ := Value×Nat) (fun q=>[(3,.pointer (some ⟨b3,0,none⟩)),(5,q.1),(8,.slice a ms.length cap),(9,.int .i64 ms.length),(10,.int .i64 (q.2:Nat))]) (fun q=>NR q.1 (aY (ms.take q.2) s)::X::pt b3 (cl [sv s.cls,sv s.name] 69)::hr) (fun q=>q.2≤ms.length∧q.1.oneCell'=true) (fun q=>ms.length - q.2) (.slice none 0 0,0) ⟨Nat.zero_le _,Z⟩ ?_)
 rintro ⟨w,i⟩ ⟨hi,hw⟩
 simp only at hi hw
 dsimp only
 refine cQ (sV (aO Z Z) (sN (nT (cS (cC Z (fun hd=>?_) (fun hd=>?_))))))
 ·have hlt:i<ms.length:=by simpa using hd
  obtain ⟨b,o,cap2,us,e1,hus,hrd,ht⟩:=hv.at (List.getElem?_eq_getElem hlt)
  cases e1
  have hsn:=hsn i hlt
  have hle:=hle i
  generalize ms[i]=m at ht hsn
  have hone:=Enc.ones ht
  obtain ⟨x2,x5,xy,x11,x12,x13,rfl,hx2,hx5,hxy,hx11,hx12,hx13⟩:=dJ ht
  unfold ik at hrd hone
  refine cK9 (xT (cS (cB (cQ (sV (vI (k:=i) Z Z pW Z hlt Z) (sV (ag Z fB Z hrd) ?_))))))
  refine au jQ fun b7=>?_
  refine ai Z Z iD Z hone ?_
  refine sN (nK9 [3,5,7,8,9,10] Z (nT (cQ (sV (vF Z eO Z) (sV (vY Z qz) ?_)))))
  refine sV (ag Z iM Z af) ?_
  refine bg Z Z en33 Z (vG hx2) ?_
  refine sN (nK9 [3,5,7,8,9,10,17] Z (nT (cC Z (fun hc=>?_) (fun hc=>?_))))
  ·have hc:m.seeds.contains s=true:=hc
   rw [hc,if_pos rfl] at hsn
   refine cR (sM Z (sV (vF Z eH Z) (sV (vY Z ld9) ?_)))
   refine ak (cells:=[sv m.name]) Z underlying40 fG Z Z (by kernel_rfl) (ltn Z) fun b62=>?_
   refine dU [[sv m.name]] Z Z underlying40 fG Z (by decide) (show Sel _ (VR w 9 1 ((aY (ms.take i) s).map nC)) _ from slq) (by simp) Z (fun j u2 hu2=>bP (bU (by simpa using hu2))) (by simp; rfl) (by rw [List.length_map]; omega) (by rw [List.length_map]; omega) (ltn Z) fun w2 hw2 _=>?_
   refine sV (vA9 Z) (sN (nK9 [3,5,8,9,10] Z (ax (xB (xT (cR (sV (aI Z Z (by unfold I64 at *; omega)) (sM Z (sN (nK9 [3,5,8,9,10] Z (ax ?_)))))))))))
   rw [show (aY (ms.take i) s).map nC++[[sv m.name]]=(aY (ms.take (i+1)) s).map nC by rw [hsn,List.map_append]; rfl]
   refine aJ (w2,i+1) ⟨hlt,hw2⟩ (Nat.sub_lt_sub_left hlt (Nat.lt_succ_self i))
  ·have hc:m.seeds.contains s=false:=hc
   rw [hc,if_neg (by decide),List.append_nil] at hsn
   refine cK9 (xB (xT (cR (sV (aI Z Z (by unfold I64 at *; omega)) (sM Z (sN (nK9 [3,5,8,9,10] Z (ax ?_))))))))
   rw [← hsn]
   refine aJ (w,i+1) ⟨hlt,hw⟩ (Nat.sub_lt_sub_left hlt (Nat.lt_succ_self i))
 ·have hil:i=ms.length:=by
   have:¬ i<ms.length:=by simpa using hd
   omega
  rw [hil,List.take_length]
  refine aB (xE (xE (xY (xT (cQ (sM Z (sV (vA9 Z) (sN (nK9 [4] Z (nT (cT ?_)))))))))))
  exact aj Z ⟨_,Z,hw,Z⟩ sbq
end
section
variable {X:Res} {v v':Value} {us us':List Value}
def F3 (a b:Sd):Int:=orI [qI a.cls b.cls,qI a.name b.name]
theorem Ed (a b:Sd):Reads prog 198 #[.agg #[sv a.cls,sv a.name],.agg #[sv b.cls,sv b.name]] [] (.int .i64 (F3 a b)):=by
 refine aL (n:=17) func198 Z Z (len Z) fun hr w0=>?_
 refine cQ (aV Z Z fun b2=>?_)
 refine aV Z Z fun b3=>?_
 refine sV (vA9 Z) (sN (nK9 [2,3,4] Z (nT (cS (bB (ork [(0,2),(1,1),(2,2),(3,1),(4,1),(5,2),(6,1),(7,2),(8,1),(9,1),(10,0),(11,0),(12,2)] .nil) (fun i => !(Nat.beq i 10 || Nat.beq i 11)) mixed (by kernel_rfl) ?_)))))
 refine dV Z (vF Z wU Z) (bu Z (vY Z ld9) ?_)
 refine dV Z (vF Z wU Z) (bu Z (vY Z ld9) ?_)
 refine kZ Z Z Z JN Z (zk a.cls b.cls) ?_
 refine dV Z (vF Z wV Z) (bu Z (vY Z ld9) ?_)
 refine dV Z (vF Z wV Z) (bu Z (vY Z ld9) ?_)
 refine kZ Z Z Z JN Z (zk a.name b.name) ?_
 refine aQ Z (ak (cells:=[.int .i64 (qI a.cls b.cls),.int .i64 (qI a.name b.name)]) Z underlying333 nG Z Z (by kernel_rfl) (ltn Z) fun b51=>aW ?_)
 refine aQ Z (aH Z Z en227 Z (Or_ct (xs:=[qI a.cls b.cls,qI a.name b.name]) JX (by simp)) ?_)
 rintro u h' ⟨rfl,rfl⟩
 simp only [lC,lN]
 refine aW ?_
 refine dV Z (vA9 Z) (bA (nK9 [4] Z (nT (cT ?_))))
 exact aj Z ⟨Z,Z⟩ sbq
theorem Li {F:List Fm} {A:List Kt} {fv av:Value} {t:Kt} (hF:Ls X fv F) (hA:Ls X av A) (h:Ty X us t) :
  CtN prog 52 #[.agg us.toArray,fv,av] [X] fun u T=>∃ us':List Value,u = .tuple #[.agg us'.toArray,.int .i64 (if F.length=A.length then 0 else 2)]∧Ty T us' (if F.length=A.length then cO F A t else .mk 0 [] [] false false):=by
 obtain ⟨x,rfl,hx⟩:=ek h
 obtain ⟨xa,xc,rfl,_⟩:=id hx.form
 obtain ⟨fa,fc,hfv,_⟩:=id hF.form
 obtain ⟨aa,ac,hav,_⟩:=id hA.form
 by_cases hl:F.length=A.length
 ·have hc:=AJ hl hF hA h
  rw [if_pos hl,if_pos hl]
  unfold tyC at hc ⊢
  subst hfv hav
  refine aL (n:=19) func52 Z Z (len Z) fun hr w0=>?_
  refine cQ (aV Z Z fun b3=>?_)
  refine au Aa fun b6=>?_
  refine sV (vA9 Z) (sN (nK9 [1,2,3,6,7] Z (nT (cS (cQ (sM Z (sV (aF Z underlying38) (sM Z (sV (aF Z underlying71) (sV (bT Z Z) (sN (nK9 [1,2,3,6,7,12] Z (nT ?_)))))))))))))
  rw [show ((F.length:Int) != A.length)=false by rw [hl]; simp]
  refine aG Z ?_
  refine cK9 (xT (cQ (sV (ag Z fQ Z af) ?_)))
  refine sM Z (sM Z (aH Z Z JM Z (hc) ?_))
  rintro u h' ⟨T,rfl,us2,rfl,hT⟩
  simp only [lC,lN]
  have hcp:=jS (AA hT)
  refine aH Z Z JL Z (hcp) ?_
  rintro u h' ⟨T2,rfl,us3,rfl,hT2⟩
  simp only [lC,lN]
  have h5:us3.length=5:=Enc.len hT2
  have h1:=Enc.ones hT2
  refine ai (hl:=by rw [h5]; rfl) Z Z nD h5 h1 ?_
  refine sV (vA9 Z) (sN (nK9 [6,7] Z (nT (cT ?_))))
  exact bC (.cellN Z fQ h5 slq (.tmp Z .nil)) ⟨T2,Z,us3,Z,hT2⟩ sbr
 ·rw [if_neg hl,if_neg hl]
  unfold tyC
  subst hfv hav
  refine aL (n:=19) func52 Z Z (len Z) fun hr w0=>?_
  refine cQ (aV Z Z fun b3=>?_)
  refine au Aa fun b6=>?_
  refine sV (vA9 Z) (sN (nK9 [1,2,3,6,7] Z (nT (cS (cQ (sM Z (sV (aF Z underlying38) (sM Z (sV (aF Z underlying71) (sV (bT Z Z) (sN (nK9 [1,2,3,6,7,12] Z (nT ?_)))))))))))))
  rw [show ((F.length:Int) != A.length)=true by simp; omega]
  refine aT Z ?_
  refine cQ (sV (aN (cells:=[.int .i64 0,sv [],.slice none 0 0,.bool false,.bool false]) Z (fun _=>by kernel_rfl)) ?_)
  refine ai Z Z nD Z Z ?_
  refine sV (vA9 Z) (sN (nK9 [6,7] Z (nT (cT (xR (jv (eD (L:=[])) ?_))))))
  exact bC (.cellN Z fQ Z slq (.tmp Z .nil)) ⟨Res.star [],Z,_,Z,gN (t:=.mk 0 [] [] false false) Z Ls.nil⟩ sbr
theorem F4 {x g:Grp} {b7:Nat} {gs:List Value} {L L':SH} (hs:Sel L (pt b7 (cl gs 170)) L') (hgl:gs.length=2) (h:Enc.rep (Res.star L) us x) (hg:Enc.rep (Res.star L) gs g):Reads prog 248 #[.agg us.toArray,.pointer (some ⟨b7,0,none⟩)] [Res.star L] (.bool (decide (x=g))):=by
 have hsm:=NE h hg
 have hrd:Rds (Res.star L) b7 0 gs:=fun i hi=>ry hs (af i hi)
 obtain ⟨y,rfl,_⟩:=h
 refine aL (n:=7) func248 Z Z (len Z) fun hr w0=>?_
 refine cQ (aV Z Z fun b2=>?_)
 refine sV (vA9 Z) (sN (nK9 [1,2,3] Z (nT (cQ (sV (ag Z uQ Z af) ?_)))))
 refine sV (ag Z uQ hgl hrd) ?_
 refine bg Z Z en182 Z (hsm) ?_
 refine sV (vA9 Z) (sN (nK9 [3] Z (nT (cT ?_))))
 exact aj Z ⟨Z,Z⟩ sbq
theorem Bt {xs:List Grp} {g:Grp}:(xs.any fun x=>decide (x=g))=xs.contains g:=by
 rw [Bool.eq_iff_iff]; simp
theorem F5 (xs:List Grp):∀ o,(qN o xs).length≤o.length+xs.length:=by
 induction xs with
 | nil=>intro o; exact Nat.le_refl _
 | cons g t ih =>
  intro o
  have h1:(uZ o g).length≤o.length+1:=by unfold uZ; split <;> simp
  have:=ih (uZ o g)
  show (qN (uZ o g) t).length≤_
  simp only [List.length_cons]; omega
theorem Lj (o xs:List Grp) (g:Grp):qN o (xs++[g])=uZ (qN o xs) g:=by simp [qN]
theorem F6 (ls:List (List Grp)) (xs:List Grp):groups (ls++[xs])=qN (groups ls) xs:=by simp [groups]
theorem lJ (ls:List (List Grp)):(groups ls).length≤ls.flatten.length:=by
 have key:∀ (ls:List (List Grp)) (o:List Grp),(ls.foldl qN o).length≤o.length+ls.flatten.length:=by
  intro ls
  induction ls with
  | nil=>intro o; simp
  | cons a t ih =>
   intro o
   have h1:=F5 a o
   have h2:=ih (qN o a)
   rw [List.foldl_cons,List.flatten_cons,List.length_append]; omega
 simpa [groups] using key ls []
theorem rJ {ls:List (List Grp)} (hv:Ls X v ls) (hb:ls.flatten.length * 40≤reachBytes):CtN prog 196 #[v] [X] fun u T=>u.oneCell'=true∧∃ rows,T=VR u 170 2 rows∧Rws X rows (groups ls):=by
 have hml:maxLen=9223372036854775807:=rfl
 have hrb:reachBytes=140737488351232:=rfl
 have hsz:ls.length * 24≤reachBytes:=hv.sizes
 obtain ⟨a,cap,rfl,hlc,hcm,_⟩:=id hv.form
 refine aL (n:=36) func196 Z Z (len Z) fun hr w0=>?_
 refine cQ (sV (vA9 Z) (sN (nT (cQ (sV (vA9 Z) (sN (nT (cS (cQ (sM Z (sV (aF Z underlying312) (sM Z ?_))))))))))))
 refine sN (nK9 [2,3,8,9,10] Z (nT (cB (dK (cz 170 2) (aZ (σ := Value×List (List Value)×Nat) (fun q=>[(3,q.1),(8,.slice a ls.length cap),(9,.int .i64 ls.length),(10,.int .i64 (q.2.2:Nat))]) (fun q=>VR q.1 170 2 q.2.1::X::hr) (fun q=>q.2.2≤ls.length∧q.1.oneCell'=true∧Rws X q.2.1 (groups (ls.take q.2.2))) (fun q=>ls.length - q.2.2) (.slice none 0 0,[],0) ⟨Nat.zero_le _,Z,Rws.nil⟩ ?_)))))
 rintro ⟨w,rows,i⟩ ⟨hi,hw,hro⟩
 simp only at hi hw hro
 dsimp only
 refine fV (v:=w) (E:=170) (sz:=2) (rows:=rows) slq fun wa wc hwf hwl hwm=>?_
 subst hwf
 refine cQ (sV (aO Z Z) (sN (nT (cS (cC Z (fun hd=>?_) (fun hd=>?_))))))
 ·have hlt:i<ls.length:=by simpa using hd
  obtain ⟨b,o,cap2,us,e1,hus,hrd,u1,rfl,hu1⟩:=hv.at (List.getElem?_eq_getElem hlt)
  cases e1
  have hrd1:Rd X ⟨b,o+i * 1,none⟩ u1:=hrd 0 (by simp)
  have htk:ls.take (i+1)=ls.take i++[ls[i]]:=List.take_succ_eq_append_getElem hlt
  have hfl:(ls.take i).flatten.length+(ls[i]).length≤ls.flatten.length:=by
   have h1:ls=ls.take i++ls[i]::ls.drop (i+1):=by rw [List.getElem_cons_drop,List.take_append_drop]
   have h2:=congrArg (fun x=>x.flatten.length) h1
   simp only [List.flatten_append,List.flatten_cons,List.length_append] at h2
   omega
  have hgl:=lJ (ls.take i)
  generalize hxs:ls[i]=xs at hu1 htk hfl
  obtain ⟨a2,k2,rfl,hlc2,hcm2,_⟩:=id hu1.form
  refine cK9 (xT (cS (cB (cQ (sV (vI (k:=i) Z Z sl312 Z hlt Z) (sV (vY Z zW) ?_))))))
  refine sV (vA9 Z) (sN (nK9 [3,5,8,9,10] Z (nT (cQ (sM Z (sV (aF Z underlying53) (sM Z (sN (nK9 [3,8,9,10,14,15,16] Z (nT (cB (aZ (σ := Value×List (List Value)×Nat) (fun q=>[(3,q.1),(8,.slice (some ⟨b,o,none⟩) ls.length cap),(9,.int .i64 ls.length),(10,.int .i64 (i:Nat)),(14,.slice a2 xs.length k2),(15,.int .i64 xs.length),(16,.int .i64 (q.2.2:Nat))]) (fun q=>VR q.1 170 2 q.2.1::X::hr) (fun q=>q.2.2≤xs.length∧q.1.oneCell'=true∧Rws X q.2.1 (qN (groups (ls.take i)) (xs.take q.2.2))) (fun q=>xs.length - q.2.2) (.slice wa rows.length wc,rows,0) ⟨Nat.zero_le _,hw,hro⟩ ?_))))))))))))
  rintro ⟨w,rows,j⟩ ⟨hj,hw,hro⟩
  simp only at hj hw hro
  dsimp only
  refine cQ (sV (aO Z Z) (sN (nT (cS (cC Z (fun hd2=>?_) (fun hd2=>?_))))))
  ·have hltj:j<xs.length:=by simpa using hd2
   obtain ⟨b2,o2,cap3,gs,e2,hgs,hrdg,hg⟩:=hu1.at (List.getElem?_eq_getElem hltj)
   cases e2
   have hgs:gs.length=2:=hgs
   have htj:xs.take (j+1)=xs.take j++[xs[j]]:=List.take_succ_eq_append_getElem hltj
   have hrl:rows.length≤(ls.take i).flatten.length+j:=by
    rw [hro.1]
    have:=F5 (xs.take j) (groups (ls.take i))
    rw [List.length_take] at this
    omega
   have hgsn:=Lj (groups (ls.take i)) (xs.take j) xs[j]
   rw [← htj] at hgsn
   generalize xs[j]=g at hg hgsn
   generalize ho:qN (groups (ls.take i)) (xs.take j)=out at hro hgsn
   have hone:=Enc.ones hg
   refine cK9 (xT (cS (cB (cQ (sV (vI (k:=j) Z Z sl53 Z hltj Z) (sV (ag Z uQ hgs hrdg) ?_))))))
   refine au al170 fun b7=>?_
   refine ai (hl:=by rw [hgs]; rfl) Z Z EP hgs hone ?_
   refine nM (r:=VR w 170 2 rows) slq fun hok=>?_
   have hlo:out.length * 40≤reachBytes:=by
    rw [← hro.1]
    have h9:rows.length≤ls.flatten.length:=by omega
    exact Nat.le_trans (Nat.mul_le_mul_right _ h9) hb
   have hsX:∀ p u,Rd X p u→Rd (Res.star [pt b7 (cl gs 170),VR w 170 2 rows,X]) p u:=bH (.there (.there .here))
   have hlsw:Ls (Res.star [pt b7 (cl gs 170),VR w 170 2 rows,X]) w out:=Rws.ls (E:=170) ⟨hro.1,fun j us x h1 h2=>Enc.up hsX (hro.2 j us x h1 h2)⟩ hok (bH (.there .here)) hlo
   have htell:∀ x∈out,∀ us,Enc.rep (Res.star [pt b7 (cl gs 170),VR w 170 2 rows,X]) us x→Reads prog 248 (#[]++([.agg us.toArray]:List Value).toArray ++ #[.pointer (some ⟨b7,0,none⟩)]) [Res.star [pt b7 (cl gs 170),VR w 170 2 rows,X]] (.bool (decide (x=g))):=fun x _ us h=>F4 .here hgs h (Enc.up hsX hg)
   refine sN (nK9 [3,7,8,9,10,14,15,16] Z (nT (cQ (sM Z (sV (bY Z Z) (bg Z Z en93 Z ((eP (Nu (X:=Res.star [pt b7 (cl gs 170),VR w 170 2 rows,X]) hlsw en248 htell))) ?_))))))
   rw [Bt]
   refine sV (bi Z) (sN (nK9 [3,7,8,9,10,14,15,16,23] Z (nT (cC Z (fun hc=>?_) (fun hc=>?_)))))
   ·have hc:out.contains g=false:=by simpa using hc
    have hga:uZ out g=out++[g]:=by unfold uZ; rw [hc,if_neg (by decide)]
    have hb1:(rows.length+1) * 40≤reachBytes:=Nat.le_trans (Nat.mul_le_mul_right 40 (show rows.length+1≤ls.flatten.length by omega)) hb
    obtain ⟨g0,g1,rfl⟩:=len2 hgs
    refine cR (sM Z (sV (ag Z uQ Z af) ?_))
    refine ak (cells:=[g0,g1]) Z underlying53 mO Z Z (by kernel_rfl) (ltn Z) fun b62=>?_
    refine dU [[g0,g1]] Z Z underlying53 mO Z (by decide) (show Sel _ (VR w 170 2 rows) _ from slq) (by simp) Z (fun j u2 hu2=>bP (bU (by simpa using hu2))) (by simpa using hone) (by omega) (by omega) (ltn Z) fun w2 hw2 _=>?_
    refine sV (vA9 Z) (sN (nK9 [3,8,9,10,14,15,16] Z (ax (xB (xT (cR (sV (aI Z Z (by unfold I64 at *; omega)) (sM Z (sN (nK9 [3,8,9,10,14,15,16] Z (ax ?_)))))))))))
    refine aJ (w2,rows++[[g0,g1]],j+1) ⟨hltj,hw2,by rw [hgsn,hga]; exact hro.snoc hg⟩ (Nat.sub_lt_sub_left hltj (Nat.lt_succ_self j))
   ·have hc:out.contains g=true:=by simpa using hc
    have hga:uZ out g=out:=by unfold uZ; rw [hc,if_pos rfl]
    refine cK9 (xB (xT (cR (sV (aI Z Z (by unfold I64 at *; omega)) (sM Z (sN (nK9 [3,8,9,10,14,15,16] Z (ax ?_))))))))
    refine aJ (w,rows,j+1) ⟨hltj,hw,by rw [hgsn,hga]; exact hro⟩ (Nat.sub_lt_sub_left hltj (Nat.lt_succ_self j))
  ·have hil:j=xs.length:=by
    have:¬ j<xs.length:=by simpa using hd2
    omega
   rw [hil,List.take_length,← F6,← htk] at hro
   refine aB (xE (xE (xY (xB (xT (cR (sV (aI Z Z (by unfold I64 at *; omega)) (sM Z (sN (nK9 [3,8,9,10] Z (ax ?_)))))))))))
   refine aJ (w,rows,i+1) ⟨hlt,hw,hro⟩ (Nat.sub_lt_sub_left hlt (Nat.lt_succ_self i))
 ·have hil:i=ls.length:=by
   have:¬ i<ls.length:=by simpa using hd
   omega
  rw [hil,List.take_length] at hro
  refine aB (xE (xE (xY (xT (cQ (sM Z (sM Z (sV (aF Z underlying53) (sM Z (sV (aF Z underlying53) (sV (Ay (hi:=rows.length) (mx:=rows.length) Z Z Z sl53 Z Z (Nat.le_refl _) hwl) (sV (vA9 Z) ?_))))))))))))
  refine sN (nK9 [2] Z (nT (cT (jv (Vw.sel (r:=VR (.slice wa rows.length wc) 170 2 rows) slq vw_full) ?_))))
  exact aj Z ⟨_,Z,Z,rows,Z,hro⟩ sbq
end
theorem CG {xs:List Nm} {i:Nat} (h:i<xs.length) (hc:(xs.take i).contains xs[i]=true):¬ xs.Nodup:=fun hn=>by
 obtain ⟨j,hj,he⟩:=List.mem_take_iff_getElem.1 (List.contains_iff_mem.1 hc)
 have:=(List.getElem_inj hn).1 he
 omega
theorem AL {xs:List Nm} {i:Nat} (h:i<xs.length) (hn:(xs.take i).Nodup) (hc:(xs.take i).contains xs[i]=false):(xs.take (i+1)).Nodup:=by
 rw [List.take_succ_eq_append_getElem h]
 refine List.nodup_append.2 ⟨hn,by simp,fun a ha b hb e=>?_⟩
 rw [List.mem_singleton] at hb
 subst hb; subst e
 rw [List.contains_iff_mem.2 ha] at hc; cases hc
section
variable {X:Res} {v:Value}
theorem F7 {cs:List Fm} (hv:Ls X v cs):Reads prog 143 #[v,.func (.func 144) #[] #[]] [X] (.bool (!decide (cs.map fun c=>c.name).Nodup)):=by
 have hml:maxLen=9223372036854775807:=rfl
 obtain ⟨a,cap,rfl,hlc,hcm,_⟩:=id hv.form
 generalize hxs:(cs.map fun c=>c.name)=xs
 have hlen:xs.length=cs.length:=by rw [← hxs,List.length_map]
 refine aL (n:=25) func143 Z Z (len Z) fun hr w0=>?_
 refine cQ (sV (vA9 Z) (sN (nT (cQ (eu (ltn Z) fun b8=>?_)))))
 refine sV (vA9 Z) (sN (nK9 [0,1,4,5] Z (nT (cS (cQ (sM Z (sV (aF Z underlying38) (sM Z (sN (nK9 [1,4,5,9,10,11] Z (nT (cB (aZ (σ := Nat×List (Nm×Unit)) (fun q=>[(1,.func (.func 144) #[] #[]),(5,.map (some b8)),(9,.slice a cs.length cap),(10,.int .i64 cs.length),(11,.int .i64 (q.1:Nat))]) (fun q=>mps b8 (mvG tV q.2)::X::hr) (fun q=>q.1≤cs.length∧(xs.take q.1).Nodup∧rY (xs.take q.1) q.2) (fun q=>cs.length - q.1) (0,[]) ⟨Nat.zero_le _,List.nodup_nil,fun _=>rfl⟩ ?_)))))))))))))
 rintro ⟨i,D⟩ ⟨hi,hn,hD⟩
 simp only at hi hn hD
 dsimp only
 refine cQ (sV (aO Z Z) (sN (nT (cS (cC Z (fun hd=>?_) (fun hd=>?_))))))
 ·have hlt:i<cs.length:=by simpa using hd
  have hlt2:i<xs.length:=by rw [hlen]; exact hlt
  obtain ⟨b,o,cap2,us,e1,hus,hrd,hre⟩:=hv.at (List.getElem?_eq_getElem hlt)
  cases e1
  have hus2:us=[sv cs[i].name,sv cs[i].bound]:=hre
  subst hus2
  have hnm:Reads prog 144 #[.agg [sv cs[i].name,sv cs[i].bound].toArray] [] (sv xs[i]):=by rw [show xs[i]=cs[i].name by simp [← hxs]]; exact Ny hre
  have hone:=Enc.ones hre
  refine cK9 (xT (cS (cB (cQ (sV (vI (k:=i) Z Z sl38 Z hlt Z) (sV (ag Z Ju Z hrd) ?_))))))
  refine au al111 fun b7=>?_
  refine ai Z Z sz111 Z hone ?_
  refine sN (nK9 [1,5,7,9,10,11] Z (nT (cS (cQ (sM Z (sM Z (sV (ag Z Ju Z af) ?_)))))))
  refine bg Z Z en144 Z (hnm) ?_
  refine sV (gB (hD.look xs[i]) (bI Z Z yu inf4 slq)) ?_
  refine sN (nK9 [1,5,7,9,10,11,19] Z (nT (cC Z (fun hf=>?_) (fun hf=>?_))))
  ·have hno:=CG hlt2 hf
   rw [decide_eq_false hno]
   refine cQ (sV (vA9 Z) (sN (nK9 [4] Z (nT (cT (xR (xW (xR (xR (xW (xR ?_)))))))))))
   exact aj Z ⟨Z,Z⟩ sbq
  ·refine cK9 (xT (cR (sM Z (sM Z (sV (ag Z Ju Z af) ?_)))))
   refine bg Z Z en144 Z (hnm) ?_
   refine cu Z Z Z yu slq ?_
   refine sN (nK9 [1,5,9,10,11] Z (ax (xB (xT (cR (sV (aI Z Z (by unfold I64 at *; omega)) (sM Z (sN (nK9 [1,5,9,10,11] Z (ax ?_))))))))))
   rw [show dZ (mvG tV D) xs[i] (.bool true)=mvG tV (fP D xs[i] ()) from nR tV _ _ ()]
   refine aJ (i+1,fP D xs[i] ()) ⟨hlt,AL hlt2 hn hf,by rw [List.take_succ_eq_append_getElem hlt2]; exact hD.next _⟩ (by show cs.length - (i+1)<cs.length - i; omega)
 ·have hil:i=cs.length:=Nat.le_antisymm hi (Nat.not_lt.1 (by simpa using hd))
  rw [hil,← hlen,List.take_length] at hn
  rw [decide_eq_true hn]
  refine aB (xE (xE (xY (xT (cQ (sV (vA9 Z) (sN (nK9 [4] Z (nT (cT ?_))))))))))
  exact aj Z ⟨Z,Z⟩ sbq
theorem F8 {cs:List Pn} (hv:Ls X v cs):Reads prog 148 #[v,.func (.func 149) #[] #[]] [X] (.bool (!decide (cs.map fun c=>c.fro).Nodup)):=by
 have hml:maxLen=9223372036854775807:=rfl
 obtain ⟨a,cap,rfl,hlc,hcm,_⟩:=id hv.form
 generalize hxs:(cs.map fun c=>c.fro)=xs
 have hlen:xs.length=cs.length:=by rw [← hxs,List.length_map]
 refine aL (n:=25) func148 Z Z (len Z) fun hr w0=>?_
 refine cQ (sV (vA9 Z) (sN (nT (cQ (eu (ltn Z) fun b8=>?_)))))
 refine sV (vA9 Z) (sN (nK9 [0,1,4,5] Z (nT (cS (cQ (sM Z (sV (aF Z underlying86) (sM Z (sN (nK9 [1,4,5,9,10,11] Z (nT (cB (aZ (σ := Nat×List (Nm×Unit)) (fun q=>[(1,.func (.func 149) #[] #[]),(5,.map (some b8)),(9,.slice a cs.length cap),(10,.int .i64 cs.length),(11,.int .i64 (q.1:Nat))]) (fun q=>mps b8 (mvG tV q.2)::X::hr) (fun q=>q.1≤cs.length∧(xs.take q.1).Nodup∧rY (xs.take q.1) q.2) (fun q=>cs.length - q.1) (0,[]) ⟨Nat.zero_le _,List.nodup_nil,fun _=>rfl⟩ ?_)))))))))))))
 rintro ⟨i,D⟩ ⟨hi,hn,hD⟩
 simp only at hi hn hD
 dsimp only
 refine cQ (sV (aO Z Z) (sN (nT (cS (cC Z (fun hd=>?_) (fun hd=>?_))))))
 ·have hlt:i<cs.length:=by simpa using hd
  have hlt2:i<xs.length:=by rw [hlen]; exact hlt
  obtain ⟨b,o,cap2,us,e1,hus,hrd,hre⟩:=hv.at (List.getElem?_eq_getElem hlt)
  cases e1
  have hus2:us=[sv cs[i].fro,sv cs[i].to]:=hre
  subst hus2
  have hnm:Reads prog 149 #[.agg [sv cs[i].fro,sv cs[i].to].toArray] [] (sv xs[i]):=by rw [show xs[i]=cs[i].fro by simp [← hxs]]; exact FK hre
  have hone:=Enc.ones hre
  refine cK9 (xT (cS (cB (cQ (sV (vI (k:=i) Z Z sl86 Z hlt Z) (sV (ag Z qB Z hrd) ?_))))))
  refine au ER fun b7=>?_
  refine ai Z Z zT Z hone ?_
  refine sN (nK9 [1,5,7,9,10,11] Z (nT (cS (cQ (sM Z (sM Z (sV (ag Z qB Z af) ?_)))))))
  refine bg Z Z en149 Z (hnm) ?_
  refine sV (gB (hD.look xs[i]) (bI Z Z yu inf4 slq)) ?_
  refine sN (nK9 [1,5,7,9,10,11,19] Z (nT (cC Z (fun hf=>?_) (fun hf=>?_))))
  ·have hno:=CG hlt2 hf
   rw [decide_eq_false hno]
   refine cQ (sV (vA9 Z) (sN (nK9 [4] Z (nT (cT (xR (xW (xR (xR (xW (xR ?_)))))))))))
   exact aj Z ⟨Z,Z⟩ sbq
  ·refine cK9 (xT (cR (sM Z (sM Z (sV (ag Z qB Z af) ?_)))))
   refine bg Z Z en149 Z (hnm) ?_
   refine cu Z Z Z yu slq ?_
   refine sN (nK9 [1,5,9,10,11] Z (ax (xB (xT (cR (sV (aI Z Z (by unfold I64 at *; omega)) (sM Z (sN (nK9 [1,5,9,10,11] Z (ax ?_))))))))))
   rw [show dZ (mvG tV D) xs[i] (.bool true)=mvG tV (fP D xs[i] ()) from nR tV _ _ ()]
   refine aJ (i+1,fP D xs[i] ()) ⟨hlt,AL hlt2 hn hf,by rw [List.take_succ_eq_append_getElem hlt2]; exact hD.next _⟩ (by show cs.length - (i+1)<cs.length - i; omega)
 ·have hil:i=cs.length:=Nat.le_antisymm hi (Nat.not_lt.1 (by simpa using hd))
  rw [hil,← hlen,List.take_length] at hn
  rw [decide_eq_true hn]
  refine aB (xE (xE (xY (xT (cQ (sV (vA9 Z) (sN (nK9 [4] Z (nT (cT ?_))))))))))
  exact aj Z ⟨Z,Z⟩ sbq
end
end Go.Fl
namespace Go.Ck
open Go Go.RowKit Go.Proofs Go.Shelf
theorem bN {P : Program} {f : FuncId} {B : Func} (nm : String) (h1 : (nm == "runtime.NumGoroutine") = false) (h2 : P.funcs[f]? = some { B with name := nm }) : Bears P f B := ⟨nm, h1, h2⟩
theorem grow_of {P : Program} {g : FuncId} {args : Array Value} {v : Value} (h : Ct P g args [] fun u h' => u = v ∧ h' = []) (w : World) :
  Calls P g args w fun e w'=>e = .returned v∧∃ q os',w'=Sort.grow (w.drewN q) os':=by
 refine (h [old w] w (wS w)).mono ?_
 rintro e w' ⟨u,h',rfl,⟨rfl,rfl⟩,hh,hs⟩
 refine ⟨Z,w'.drawn - w.drawn,w'.heap.extract w.heap.size w'.heap.size,?_⟩
 have ho:∀ b,b<w.heap.size→w'.heap[b]? = w.heap[b]? := hh.1
 have hd:=hs.dw
 have hz:=hs.size
 have h1 : w'.heap = w.heap ++ w'.heap.extract w.heap.size w'.heap.size := by
  apply Array.ext
  ·simp; omega
  ·intro i hi1 hi2
   by_cases hi:i<w.heap.size
   ·have:=ho i hi
    rw [Array.getElem?_eq_getElem hi1,Array.getElem?_eq_getElem hi] at this
    rw [Array.getElem_append_left hi]
    exact Option.some.inj this
   ·rw [Array.getElem_append_right (by omega),Array.getElem_extract]
    congr 1; omega
 obtain ⟨e1,e2,e3⟩:=(⟨hs.os,hs.tape,hs.output⟩:w'.os=w.os∧w'.tape=w.tape∧w'.output=w.output)
 unfold Sort.grow World.drewN
 cases w' with
 | mk hp' tp dr os ou =>
  simp only at h1 e1 e2 e3 hd ⊢
  rw [← h1,e1,e2,e3]
  congr 1
  omega
theorem AO {α : Type} [Inhabited α] {enc : α → List Value} {k:Nat} (hk:∀ x,(enc x).length=k) (xs:List α):Sort.flatK enc k xs.toArray=(xs.map enc).flatten.toArray:=by
 have hl:(xs.map enc).flatten.length=xs.length * k:=by
  induction xs with
  | nil=>simp
  | cons x t ih=>rw [List.map_cons,List.flatten_cons,List.length_append,hk,ih,List.length_cons,Nat.add_mul]; omega
 refine Sort.ext_get! (by rw [Sort.size_flatK,List.size_toArray,List.size_toArray,hl]) fun t ht=>?_
 have ht':t<xs.length * k:=by simpa using ht
 have k0:0<k:=Nat.pos_of_ne_zero fun h=>by rw [h] at ht'; simp at ht'
 have hq:t / k<xs.length:=Nat.div_lt_of_lt_mul (by rw [Nat.mul_comm]; exact ht')
 rw [Sort.get_flatK _ _ _ t (by simpa using ht')]
 have e1:xs.toArray[t / k]! = xs[t / k]:=by rw [getElem!_pos xs.toArray _ (by simpa using hq)]; simp
 have hr:t % k<(enc xs[t / k]).length:=by rw [hk]; exact Nat.mod_lt _ k0
 rw [e1]
 have h3:=oN (rows:=xs.map enc) (sz:=k) (m:=t / k) (k:=t % k) (r:=enc xs[t / k]) (x:=(enc xs[t / k])[t % k]) (by simp only [List.mem_map]; rintro r ⟨x,-,rfl⟩; exact hk x) (by rw [List.getElem?_map,List.getElem?_eq_getElem hq]; rfl) (List.getElem?_eq_getElem hr)
 rw [Nat.div_add_mod' t k] at h3
 have h4:t<(xs.map enc).flatten.length:=by rw [hl]; exact ht'
 rw [List.getElem?_eq_getElem h4] at h3
 rw [getElem!_pos (enc xs[t / k]) _ hr,getElem!_pos _ t (by simpa using h4)]
 simpa using (Option.some.inj h3).symm
theorem Ik {F X:List Value} {pre j:List Value} (hl:F.length=X.length):Sort.putCells id pre.length F.toArray (pre++(X++j)).toArray=(pre++(F++j)).toArray:=by
 apply Array.ext
 ·simp [Sort.putCells,hl]
 ·intro k h1 h2
  simp only [Sort.putCells,Array.getElem_mapIdx,List.size_toArray,List.getElem_toArray,List.getElem_append]
  by_cases hk:k<pre.length
  ·have h3:¬ (pre.length≤k∧k<pre.length+F.length):=by omega
   simp only [hk,h3,dite_true,if_false]
  ·by_cases hk2:k - pre.length<F.length
   ·have h3:pre.length≤k∧k<pre.length+F.length:=by omega
    simp only [hk,h3,hk2,dite_true,dite_false,if_true,and_self]
    rw [getElem!_pos F.toArray _ (by simpa using hk2)]
    simp
   ·have h3:¬ (pre.length≤k∧k<pre.length+F.length):=by omega
    have h4:¬ k - pre.length<X.length:=by omega
    simp only [hk,h4,dite_false,hl]
    rw [hl] at h3
    rw [if_neg h3]
theorem F9 {P : Program} {ρ : Ren} {α : Type} [Inhabited α] (L : SlLaysF0.n6 P ρ) {k : Nat} {E : TypeId} (aE : ∀ w, (isAgg (ρ.t 24)).run P w = .ok true w) (zE : ∀ w, (Go.sizeOf (ρ.t 24)).run P w = .ok k w) {enc : α → List Value} (hk : ∀ x, (enc x).length = k) (h1 : ∀ x, ∀ v ∈ enc x, v.oneCell' = true) {cf : α → α → Int} (hO : Sort.SWO (ltOf cf)) {g : FuncId} (eg : Enters P g)
  (hc:∀ x y,Ct P g #[.agg (enc x).toArray,.agg (enc y).toArray] [] fun u h'=>u = .int .i64 (cf x y)∧h'=[]) {v:Value} {xs:List α} (hl:xs.length≤1099511627776) :
  Ct P (ρ.f 6) #[v,.func (.func g) #[] #[]] [VR v E k (xs.map enc)] fun u h'=>u = .tuple #[]∧∃ ys:List α,ys.Perm xs∧ys.Pairwise (fun a b=>cf b a<0→False)∧h'=[VR v E k (ys.map enc)]:=by
 intro hr w hh
 have hv:=hh.1
 rcases hv.2 with ⟨rfl,h0⟩ | ⟨b,o,cp,pre,j,rfl,hb,hpre,hc1,hc2,hc3⟩
 ·have hx:xs=[]:=List.map_eq_nil_iff.1 h0
  subst hx
  exact (AnyF.slices_SortFunc_none L none 0 _ w).mono fun e w' ⟨h1,h2⟩=>⟨.tuple #[],_,h1,⟨Z,[],.nil,.nil,Z⟩,by rw [h2]; exact hh,by rw [h2]; exact Same.refl w⟩
 ·have hb : w.heap[b]? = some (cl (pre ++ ((xs.map enc).flatten ++ j)) E) := hb
  have hlt:b<w.heap.size:=(Array.getElem?_eq_some_iff.1 hb).1
  have hH:Sort.HoldsK enc k w b o xs.toArray:=by
   unfold Sort.HoldsK
   rw [AO hk]
   intro i hi
   have hi:i<(xs.map enc).flatten.length:=by simpa using hi
   refine ⟨?_,by simp [World.frozen?,hb,cl]⟩
   rw [getElem!_pos _ i (by simpa using hi)]
   simp only [World.cell?,hb,cl,Option.isSome_none,Bool.false_eq_true,if_false,List.getElem?_toArray]
   rw [← hpre,List.getElem?_append_right (by omega),Nat.add_sub_cancel_left,List.getElem?_append_left hi,List.getElem?_eq_getElem hi]
   rfl
  rw [show (xs.map enc).length=xs.toArray.size by simp]
  have hc:=AnyQ.slices_SortFunc L k aE zE enc hk h1 cf hO g #[] b o cp xs.toArray w eg (fun m os dk _ x y=>grow_of (hc x y) _) hH hlt (by simp; omega)
  refine Calls.mono hc fun e w' ⟨h1,d',n,os,hp,hs,h2⟩=>?_
  obtain ⟨ys,rfl⟩:∃ ys:List α,d'=ys.toArray:=⟨d'.toList,by simp⟩
  have hsz:ys.length=xs.length:=by simpa using hp.1
  have hperm:ys.Perm xs:=by
   have:=hp.2.2
   simp only [List.size_toArray,List.extract_toArray,List.extract_eq_take_drop] at this
   rw [← hsz] at this
   simp only [List.drop_zero,Nat.sub_zero,List.take_length] at this
   rwa [hsz,List.take_length] at this
  have hpair:ys.Pairwise (fun a b=>cf b a<0→False):=by
   rw [List.pairwise_iff_getElem]
   intro i j hi hj hij hlt0
   have:=hs i j (Nat.zero_le _) hij (by simp; omega)
   rw [getElem!_pos ys.toArray i (by simpa using hi),getElem!_pos ys.toArray j (by simpa using hj)] at this
   simp only [List.getElem_toArray,ltOf,decide_eq_false_iff_not] at this
   exact this hlt0
  have hF:(ys.map enc).flatten.length=(xs.map enc).flatten.length:=by
   have e1:∀ zs:List α,(zs.map enc).flatten.length=zs.length * k:=fun zs=>by
    induction zs with
    | nil=>simp
    | cons x t ih=>rw [List.map_cons,List.flatten_cons,List.length_append,hk,ih,List.length_cons,Nat.add_mul]; omega
   rw [e1,e1,hsz]
  have hheap:w'.heap=(w.heap.modify b (Sort.onCells (Sort.putCells id o (ys.map enc).flatten.toArray)))++os:=by
   rw [h2,← AO hk]; rfl
  have hb':w'.heap[b]? = some (cl (pre++((ys.map enc).flatten++j)) E):=by
   rw [hheap,Array.getElem?_append_left (by simpa using hlt),Array.getElem?_modify,if_pos rfl,hb]
   simp only [Option.map_some,Sort.onCells,cl]
   rw [← hpre,Ik hF]
  have ho:∀ c,c≠b→c<w.heap.size→w'.heap[c]? = w.heap[c]? := fun c hc hlt2=>by
   rw [hheap,Array.getElem?_append_left (by simpa using hlt2),Array.getElem?_modify,if_neg (fun e=>hc e.symm)]
  refine ⟨.tuple #[],_,h1,⟨Z,ys,hperm,hpair,Z⟩,⟨⟨?_,.inr ⟨b,o,cp,pre,j,by simp [hsz],hb',hpre,by simpa [hsz] using hc1,hc2,by rw [List.length_append,hF,← List.length_append]; exact hc3⟩⟩,fun c ⟨o',m',cp',he⟩=>?_,bf.loc hh.2.2 fun c hc=>?_⟩,⟨by rw [h2]; rfl,by rw [h2]; rfl,by rw [h2]; rfl,by rw [h2]; exact Nat.le_add_right _ _,by rw [hheap]; simp,fun a ha=>?_⟩⟩
  ·simp only [List.mem_map]; rintro r ⟨x,-,rfl⟩; exact hk x
  ·cases he
   exact hh.2.1 b ⟨o,_,cp,Z⟩
  ·exact (ho c (fun e=>hh.2.1 b ⟨o,_,cp,Z⟩ (e ▸ hc)) (Holds.lt (h:=hr) hh.2.2 hc)).symm
  ·unfold World.frozen?
   by_cases hab:a.block=b
   ·rw [hab,hb',hb]; rfl
   ·rw [ho _ hab ha]
end Go.Ck
