/-
  The chapter's examples: what package flat has of them. No program in sight. No condition.
-/
import Derived.Test.YtknmacdbffgjgaaGreatDoorM15
import Derived.Test.YtknmacdbffgjgaaGreatDoorM7
import Derived.Test.YtknmacdbffgjgaaGreatDoorM14
import Derived.Test.YtknmacdbffgjgaaGreatDoorM17
set_option linter.unusedVariables false
set_option linter.unusedSimpArgs false
set_option maxRecDepth 100000
set_option maxHeartbeats 16000000
namespace Go.Fl
open Go Go.RowKit Go.Ck Go.Proofs Go.Proofs.Tryz Go.Proofs.YtknmacdbffgjgaaGreatDoor Fx Go.Hr
attribute [local irreducible] Go.Ck.Sub St Cd Xt Nx DrL LsW
theorem Ls.take {α : Type} [Enc α] {X:Res} {a:Option Addr} {n cp k:Nat} {xs:List α} (h:Ls X (.slice a n cp) xs) (hk:k≤xs.length):Ls X (.slice a k cp) (xs.take k):=
 ⟨Row.take h.1 hk,Nat.le_trans (Nat.mul_le_mul_right _ (by rw [List.length_take]; exact Nat.min_le_right _ _)) h.2⟩
theorem Dt {xs:List Int} {i:Nat} (h:i<xs.length) (h0:∀ j (hj:j<xs.length),j<i->xs[j]=0) (hn:xs[i]≠0):ni xs=xs[i]:=by
 unfold ni
 rw [show xs.find? (· != 0)=some xs[i] from List.find?_eq_some_iff_getElem.2 ⟨Zk,i,h,rfl,λj hj=>by
  rw [h0 j (by omega) hj]; rfl⟩]
 rfl
theorem yf {xs:List Int} (h0:∀ j (hj:j<xs.length),xs[j]=0):ni xs=0:=by
 unfold ni
 rw [show xs.find? (· != 0)=none from List.find?_eq_none.2 λx hx=>by
  obtain ⟨j,hj,rfl⟩:=List.getElem_of_mem hx
  rw [h0 j hj]; decide]
 rfl
theorem OV {α : Type} (xs:List α) (p : α -> Bool):(xs.find? p).isSome=xs.any p:=by
 rw [Bool.eq_iff_iff,List.find?_isSome,List.any_eq_true]
def oneK (f:Fe):Bool:=((decide (f.kind<1) || decide (3<f.kind)) || (decide (f.kind=1) && (decide ((0:Int)<(f.args.length:Nat)) || decide (f.ty.kind=0))))
theorem oneE_eq (fs:List Fe) (f:Fe) (i:Nat):wR fs (f,i)=if small f.name=false then 4 else if (fs.take i).any (λg=>g.name == f.name)=true then 6 else if oneK f=true then 2 else 0:=by
 unfold wR oneK
 congr 2
 have hl:(0:Int)<(f.args.length:Nat)↔f.args≠[]:=by
  cases f.args <;> simp
 simp only [Bool.or_eq_true,Bool.and_eq_true,decide_eq_true_eq,hl,or_assoc]
section
variable {X:Res}
theorem Hz (hX:Spc X) {uc:List Value} {c:FC} (hc:Enc.rep X uc c):Ctw prog 145 #[.agg uc.toArray] [X] λu h'=>u = .int .i64 (Ac c)/\h'=[X]:=by
 have hml:maxLen=9223372036854775807:=rfl
 have hone0:=Enc.ones hc
 obtain ⟨ca,cb,ce,cf,ci,rfl,-,-,-,hcf,-⟩:=gB hc
 obtain ⟨fA,fK,rfl,hlc,hcm,_⟩:=id hcf.form
 unfold Ac
 have hml2:(c.feats.zipIdx.map<|wR c.feats).length=c.feats.length:=by simp
 have hat:∀ j (hj:j<(c.feats.zipIdx.map<|wR c.feats).length),(c.feats.zipIdx.map<|wR c.feats)[j]=wR c.feats (c.feats[j]'(by rw [<- hml2]; exact hj),j):=λj hj=>by simp
 refine fQ (n:=63) func145 Z Z (len Z) λhr w0 hw0=>?_
 refine cQ (aV Z Z λb1=>?_)
 refine sA Z<|sK [1,2] Z<|cS<|cQ<|sV (vF Z kG Z)<|sV (vY Z yu) ?_
 refine sV (aF Z underlying41)<|sV (bZ Z Z)<|sK [1,2,10] Z<|cC Z (λhd=>?_)<|λhd=>?_
 ·rw [if_pos (show 60<c.feats.length by have h:(60:Int)<c.feats.length:=(by simpa using hd); omega)]
  refine cQ<|sA Z<|sK [2] Z<|cT<|xR ?_
  exact aj Z ⟨Z,Z⟩ sbq
 ·rw [if_neg (show ¬ 60<c.feats.length by have h:(c.feats.length:Int)≤60:=(by simpa using hd); omega)]
  refine cK<|xT<|cS<|cQ<|sV (vF Z kG Z)<|sV (vY Z yu) ?_
  refine sV (aF Z underlying41)<|sM Z<|sK [1,2,12,13,14] Z<|cB<|aZ (σ := Nat) (λi=>[(1,.pointer (some ⟨b1,0,none⟩)),(12,.slice fA c.feats.length fK),(13,.int .i64 c.feats.length),(14,.int .i64 (i:Nat))]) (λi=>pt b1 (cl [sv c.name,.bool c.dfd,ca,cb,ce,.slice fA c.feats.length fK,ci] 44)::X::hr) (λi=>i≤c.feats.length/\∀ j (hj:j<c.feats.length),j<i->wR c.feats (c.feats[j],j)=0) (λi=>c.feats.length - i) 0 ⟨Nat.zero_le _,λj _ hj=>absurd hj<|Nat.not_lt_zero _⟩ ?_
  rintro i ⟨hi,hal⟩
  refine cQ<|sV (aN Z Z)<|sN<|nT<|cS<|cC Z (λhd=>?_)<|λhd=>?_
  ·have hlt:i<c.feats.length:=Zx
   obtain ⟨b,o,cap2,us,e1,hus,hrd,hre⟩:=hcf.at<|Zy hlt
   cases e1
   have hone:=Enc.ones hre
   have hbad:wR c.feats (c.feats[i],i)≠0->ni (c.feats.zipIdx.map<|wR c.feats)=wR c.feats (c.feats[i],i):=λhne=>by
    rw [Dt (i:=i) (by rw [hml2]; exact hlt) (λj hj hji=>by rw [hat j hj]; exact hal j (by rw [<- hml2]; exact hj) hji) (by rw [hat]; exact hne),hat]
   have hoe:=oneE_eq c.feats c.feats[i] i
   have hcft:=Ls.take hcf hi
   have hfi:=ja (n:=c.feats[i].name) hcft
   rw [OV] at hfi
   have hsm:=Hu hX c.feats[i].name
   generalize hfg:c.feats[i]=f at hre hone hbad hoe hfi hsm
   obtain ⟨x2,x3,y,x9,x10,x11,x12,x13,x14,rfl,-,hx3,-⟩:=nz hre
   unfold Az at hus hrd hone
   obtain ⟨gA,gK,rfl,_⟩:=id hx3.form
   refine cK<|xT<|cS<|cB<|cQ<|sM Z<|sV (vI (k:=i) Z Z sl41 Z hlt Z)<|sV (af Z om Z hrd) ?_
   refine ax lL λb4=>?_
   refine sA Z<|ai Z Z jW Z hone ?_
   refine sK [1,3,4,12,13,14] Z<|cS<|kY (ex:=.normal) (α := Unit) (λq=>[(1,.pointer (some ⟨b1,0,none⟩)),(4,.pointer (some ⟨b4,0,none⟩)),(6,.bool ((c.feats.take i).any λg=>g.name == f.name)),(12,.slice (some ⟨b,o,none⟩) c.feats.length fK),(13,.int .i64 c.feats.length),(14,.int .i64 (i:Nat))]) (λq=>pt b4 (cl [.int .i64 f.kind,sv f.name,x2,.slice gA f.args.length gK,.int .i64 f.ty.kind,sv f.ty.name,y,.bool f.ty.void,.bool f.ty.sep,x9,x10,x11,x12,x13,x14] 130)::pt b1 (cl [sv c.name,.bool c.dfd,ca,cb,ce,.slice (some ⟨b,o,none⟩) c.feats.length fK,ci] 44)::X::hr) (λhcont=>?_)<|λq=>?_
   ·refine iR (ork [(0,2),(1,1),(2,2),(3,1),(4,2),(5,1)]<|.two 6 (ork [(7,2),(8,2),(9,2),(10,0),(11,0),(12,2)] .nil) 10<|ork [(6,0),(7,2),(8,2),(9,2),(11,0),(12,2)] .nil) (λi => !(Nat.beq i 6 || Nat.beq i 11)) [pt b1 (cl [sv c.name,.bool c.dfd,ca,cb,ce,.slice (some ⟨b,o,none⟩) c.feats.length fK,ci] 44),pt b4 (cl [.int .i64 f.kind,sv f.name,x2,.slice gA f.args.length gK,.int .i64 f.ty.kind,sv f.ty.name,y,.bool f.ty.void,.bool f.ty.sep,x9,x10,x11,x12,x13,x14] 130)] mixed Zz ?_
    refine dV Z (vF Z kG Z)<|bg Z (vY Z yu) ?_
    refine dV Z (vM Z)<|bg Z (vZ Z Z sl41 Z<|Nat.le_trans hi hlc)<|dV Z (vF Z o8 Z)<|bg Z (vY Z ld9) ?_
    refine lH Z Z ?_ ?_
    ·refine aH Z Z xL Z (hfi) ?_
     rintro u h' ⟨rfl,gus,rfl,hgr⟩
     simp only [lC,lN]
     refine aX ?_
     have hgo:=Enc.ones hgr
     obtain ⟨z2,z3,zy,z9,z10,z11,z12,z13,z14,rfl,-⟩:=nz hgr
     unfold Az at hgo ⊢
     refine dV Z (vM Z)<|dV Z (ag Z Z)<|dV Z (ag Z Z)<|aP Z (ax lL λb5=>aX ?_)
     refine aP Z<|ai Z Z jW Z hgo<|aX ?_
     refine dV Z (vA Z)<|bA<|nK [1,4,6,12,13,14] Z<|au ?_
     exact hcont () _ _ ⟨Z,Z,Z,Z,Z,Z,trivial⟩ sbq
    ·refine ax lL λb5=>aX ?_
     refine aP Z<|aH Z Z xL Z (hfi) ?_
     rintro u h' ⟨rfl,gus,rfl,hgr⟩
     simp only [lC,lN]
     refine aX ?_
     have hgo:=Enc.ones hgr
     obtain ⟨z2,z3,zy,z9,z10,z11,z12,z13,z14,rfl,-⟩:=nz hgr
     unfold Az at hgo ⊢
     refine dV Z (vM Z)<|dV Z (ag Z Z)<|dV Z (ag Z Z)<|aP Z<|ai Z Z jW Z hgo<|aX ?_
     refine dV Z (vA Z)<|bA<|nK [1,4,6,12,13,14] Z<|au ?_
     exact hcont () _ _ ⟨Z,Z,Z,Z,Z,Z,trivial⟩ sbq
   refine xT<|cB<|cQ<|sV (vF Z o8 Z)<|sV (vY Z ld9) ?_
   refine bL hw0 Z Z en147 Z (hsm) ?_
   rintro u h' ⟨rfl,rfl⟩
   simp only [lC,lN]
   refine sV (bi Z)<|sA Z<|sK [1,4,6,12,13,14,29] Z<|cC Z (λhs=>?_)<|λhs=>?_
   ·have hs:small f.name=false:=by simpa using hs
    rw [hs,if_pos rfl] at hoe
    rw [hbad (by rw [hoe]; decide),hoe]
    refine cQ<|sA Z<|sK [2] Z<|cT<|xW<|xW<|xR<|xR<|xW<|xR ?_
    exact aj Z ⟨Z,Z⟩ sbq
   ·have hs:small f.name=true:=by simpa using hs
    rw [hs,if_neg (by decide)] at hoe
    refine cQ<|sM Z<|sA Z<|sK [1,4,12,13,14,34] Z<|cC Z (λhv=>?_)<|λhv=>?_
    ·rw [if_pos (show _=true from hv)] at hoe
     rw [hbad (by rw [hoe]; decide),hoe]
     refine cQ<|sA Z<|sK [2] Z<|cT<|xW<|xW<|xR<|xR<|xW<|xR ?_
     exact aj Z ⟨Z,Z⟩ sbq
    ·have hv:(c.feats.take i).any (λg=>g.name == f.name)=false:=hv
     rw [hv,if_neg (by decide)] at hoe
     refine cQ<|sV (vF Z vB Z)<|sV (vY Z ld3) ?_
     refine sV (aN Z Z)<|sM Z<|bC (k:=8) (d:=44) (v:=.bool (decide (f.kind<1) || decide (3<f.kind))) (λhcut=>aJ (b:=(decide (f.kind<1))) false (λhg=>?_)<|λhg=>?_) ?_
     ·refine aC Z Z hg ?_
      iterate 2 refine aC rfl rfl hg ?_
      refine sV (vQ (bO Z hg) Z) ?_
      exact hcut _ uG
     ·refine sG Z (bG Z hg) (vF Z vB Z)<|sG Z (bG Z hg) (vY Z ld3) ?_
      refine sG Z (bG Z hg) (bZ Z Z)<|sV (vP (bO Z hg) Z) ?_
      exact hcut _ uG
     refine sM Z<|bC (k:=25) (d:=61) (v:=.bool ((decide (f.kind<1) || decide (3<f.kind)) || (decide (f.kind=1) && (decide ((0:Int)<(f.args.length:Nat)) || decide (f.ty.kind=0))))) (λhcut=>aJ (b:=(decide (f.kind<1) || decide (3<f.kind))) false (λhg=>?_)<|λhg=>?_) ?_
     ·refine aC Z Z hg ?_
      iterate 3 refine aC rfl rfl hg ?_
      refine cz Z Z ?_
      refine cz Z Z ?_
      refine cz Z Z ?_
      refine cz Z Z ?_
      refine cz Z Z ?_
      refine cz Z Z ?_
      refine cz Z Z ?_
      refine cz Z Z ?_
      refine cz Z Z ?_
      refine cz Z Z ?_
      refine aC Z Z hg ?_
      refine sV (vQ (bO Z hg) Z) ?_
      exact hcut _ uG
     ·refine sG Z (bG Z hg) (vF Z vB Z)<|sG Z (bG Z hg) (vY Z ld3) ?_
      refine sG Z (bG Z hg) (dD Z Z)<|sG Z (bG Z hg) (vM Z)<|bC (k:=24) (d:=60) (v:=.bool (decide (f.kind=1) && (decide ((0:Int)<(f.args.length:Nat)) || decide (f.ty.kind=0)))) (λhcut=>aJ (b:=(decide (f.kind=1))) true (λhg1=>?_)<|λhg1=>?_) ?_
      ·refine aC Z Z hg1 ?_
       iterate 4 refine aC rfl rfl hg1 ?_
       refine cz Z Z ?_
       refine cz Z Z ?_
       refine cz Z Z ?_
       refine cz Z Z ?_
       refine aC Z Z hg1 ?_
       refine sG Z (bG Z hg) (vP (bO Z hg1) Z) ?_
       exact hcut _<|uH (by first | rfl | (rw [hg1]; rfl) | simp_all)<|uS Z<|uS Z<|uS Z<|uS Z<|uS Z<|uS Z<|uS Z<|uS Z<|uS Z<|uS Z<|uR
      ·refine sG Z (bG Z hg1) (vF Z rW Z)<|sG Z (bG Z hg1) (vY Z qR) ?_
       refine sG Z (bG Z hg1) (aF Z underlying70)<|sG Z (bG Z hg1) (bZ Z Z)<|sG Z (bG Z hg1) (vM Z)<|bC (k:=23) (d:=59) (v:=.bool (decide ((0:Int)<(f.args.length:Nat)) || decide (f.ty.kind=0))) (λhcut=>aJ (b:=(decide ((0:Int)<(f.args.length:Nat)))) false (λhg2=>?_)<|λhg2=>?_) ?_
       ·refine aC Z Z hg2 ?_
        iterate 3 refine aC rfl rfl hg2 ?_
        refine sG Z (bG Z hg1) (vQ (bO Z hg2) Z) ?_
        exact hcut _<|uH (by first | rfl | (rw [hg2]; rfl) | simp_all)<|uS Z<|uS Z<|uS Z<|uS Z<|uR
       ·refine sG Z (bG Z hg2) (vF Z yK Z)<|sG Z (bG Z hg2) (vF Z qX Z)<|sG Z (bG Z hg2) (vY Z ld3) ?_
        refine sG Z (bG Z hg2) (dD Z Z)<|sG Z (bG Z hg1) (vP (bO Z hg2) Z) ?_
        exact hcut _<|uH (by first | rfl | (rw [hg2]; rfl) | simp_all)<|uS Z<|uS Z<|uS Z<|uS Z<|uR
       refine sG Z (bG Z hg) (vQ (bO Z hg1) Z) ?_
       exact hcut _<|uH (by first | rfl | (rw [hg1]; rfl) | simp_all) (by repeat (first | exact uR | refine uS Z ?_))
      refine sV (vP (bO Z hg) Z) ?_
      exact hcut _<|uH (by first | rfl | (rw [hg]; rfl) | simp_all) (by repeat (first | exact uR | refine uS Z ?_))
     refine sA Z<|sK [1,12,13,14,36] Z<|cC Z (λhk=>?_)<|λhk=>?_
     ·rw [if_pos (show oneK f=true from hk)] at hoe
      rw [hbad (by rw [hoe]; decide),hoe]
      refine cQ<|sA Z<|sK [2] Z<|cT<|xW<|xW<|xR<|xR<|xW<|xR ?_
      exact aj Z ⟨Z,Z⟩ sbq
     ·have hk:oneK f=false:=hk
      rw [hk,if_neg (by decide)] at hoe
      refine cK<|xB<|xB<|xT<|cR<|sV (aI Z Z Z6)<|sM Z<|sN<|nK [1,12,13,14] Z<|au ?_
      refine aM (i+1) ⟨hlt,λj hj hji=>by
       by_cases h:j=i
       ·subst h; rw [hfg]; exact hoe
       ·exact hal j hj (by omega)⟩ (by show c.feats.length - (i+1)<c.feats.length - i; omega)
  ·have hie:i=c.feats.length:=Nat.le_antisymm hi<|Nat.not_lt.1 Zx
   subst hie
   rw [yf λj hj=>by rw [hat j hj]; exact hal j (by rw [<- hml2]; exact hj) (by rw [<- hml2]; exact hj)]
   refine aB<|xE<|xE<|xY<|xT<|cQ<|sA Z<|sK [2] Z<|cT ?_
   exact aj Z ⟨Z,Z⟩ sbq
end
section
variable {X:Res} {v:Value}
theorem JB {xs:List Pn} {kf:FuncId} {cp:Array Value} {g:Pn->Bool} (hv:Ls X v xs) (hE:Ck.Enters prog kf) (hf:∀ a∈xs,∀ us,Enc.rep X us a->Ctw prog kf (#[]++([.agg us.toArray]:List Value).toArray++cp) [X] λu h'=>u = .bool (g a)/\h'=[X]):Ctw prog 153 #[v,.func (.func kf) #[] cp] [X] λu h'=>u = .int .i64 (ixI (xs.findIdx? g))/\h'=[X]:=by
 have hml:maxLen=9223372036854775807:=rfl
 obtain ⟨a,cap,rfl,hlc,hcm,_⟩:=id hv.form
 refine fQ (n:=19) func153 Z Z (len Z) λhr w0 hw0=>?_
 refine cQ<|sA Z<|sN<|nT<|cS<|cQ<|sM Z<|sV (aF Z underlying86)<|sM Z<|sK [0,1,4,7,8] Z<|cB<|aZ (σ := Nat) (λi=>[(0,.slice a xs.length cap),(1,.func (.func kf) #[] cp),(7,.int .i64 xs.length),(8,.int .i64 (i:Nat))]) (λ_=>X::hr) (λi=>i≤xs.length/\∀ j (hj:j<xs.length),j<i->g xs[j]=false) (λi=>xs.length - i) 0 ⟨Nat.zero_le _,λj _ hj=>absurd hj<|Nat.not_lt_zero _⟩ ?_
 rintro i ⟨hi,hal⟩
 refine cQ<|sV (aN Z Z)<|sN<|nT<|cS<|cC Z (λhd=>?_)<|λhd=>?_
 ·have hlt:i<xs.length:=Zx
  obtain ⟨b,o,cap2,us,e1,hus,hrd,hre⟩:=hv.at<|Zy hlt
  cases e1
  have hfx:=hf xs[i] (List.getElem_mem hlt) us hre
  refine cK<|xT<|cS<|cB<|cQ<|sM Z<|sA Z<|sK [0,1,5,7,8] Z<|cQ<|sM Z<|sM Z<|sM Z ?_
  refine sV (vI (k:=i) Z Z sl86 Z hlt Z)<|sV (af Z qU hus hrd) ?_
  refine bL hw0 Z Z hE Z (hfx) ?_
  rintro u h' ⟨rfl,rfl⟩
  simp only [lC,lN]
  refine sK [0,1,5,7,8,16] Z<|cC Z (λhe=>?_)<|λhe=>?_
  ·have he:g xs[i]=true:=he
   rw [show xs.findIdx? g=some i by
    rw [List.findIdx?_eq_some_iff_getElem]
    exact ⟨hlt,he,λj hj=>by rw [hal j (by omega) hj]; decide⟩]
   refine cQ<|sM Z<|sA Z<|sK [4] Z<|cT<|xW<|xR<|xR<|xW<|xR ?_
   exact aj Z ⟨Z,Z⟩ sbq
  ·have he:g xs[i]=false:=he
   refine cK<|xB<|xT<|cR<|sV (aI Z Z Z6)<|sM Z<|sN<|nK [0,1,7,8] Z<|au<|aM (i+1) ⟨hlt,λj hj hj2=>?_⟩<|Nat.sub_lt_sub_left hlt<|Nat.lt_succ_self i
   by_cases hji:j=i
   ·subst hji; exact he
   ·exact hal j hj<|by omega
 ·have hil:i=xs.length:=Nat.le_antisymm hi<|Nat.not_lt.1 Zx
  rw [show xs.findIdx? g=none by
   rw [List.findIdx?_eq_none_iff]
   intro f hfm
   obtain ⟨j,hj,rfl⟩:=List.getElem_of_mem hfm
   exact hal j hj (by omega)]
  refine aB<|xE<|xE<|xY<|xT<|cQ<|sA Z<|sK [4] Z<|cT ?_
  exact aj Z ⟨Z,Z⟩ sbq
theorem Mg {xs:List Pn} {kf:FuncId} {cp:Array Value} {g:Pn->Bool} (hv:Ls X v xs) (hE:Ck.Enters prog kf) (hf:∀ a∈xs,∀ us,Enc.rep X us a->Ctw prog kf (#[]++([.agg us.toArray]:List Value).toArray++cp) [X] λu h'=>u = .bool (g a)/\h'=[X]):Ctw prog 73 #[v,.func (.func kf) #[] cp] [X] λu h'=>u = .bool (xs.any g)/\h'=[X]:=by
 rw [<- su]
 have hx:=JB hv hE hf
 obtain ⟨a,cap,rfl,hlc,hcm,_⟩:=id hv.form
 refine fQ (n:=9) func73 Z Z (len Z) λhr w0 hw0=>?_
 refine cQ<|sA Z<|sN<|nT<|cQ<|sM Z<|sM Z<|bL hw0 Z Z en153 Z (hx) ?_
 rintro u h' ⟨rfl,rfl⟩
 simp only [lC,lN]
 refine sV (qh Z Z)<|sA Z<|sK [4] Z<|cT ?_
 exact aj Z ⟨Z,Z⟩ sbq
theorem JC (hX:Spc X) {us:List Value} {a:Pn} (h:Enc.rep X us a):Ctw prog 146 #[.agg us.toArray] [X] λu h'=>u = .bool (!small a.to)/\h'=[X]:=by
 have h:us=[sv a.fro,sv a.to]:=h
 subst h
 have hsm:=Hu hX a.to
 refine fQ (n:=7) func146 Z Z (len Z) λhr w0 hw0=>?_
 refine cQ (aV Z Z λb1=>?_)
 refine sA Z<|sK [1,2] Z<|cQ<|sV (vF Z Kc Z)<|sV (vY Z ld9) ?_
 refine bL hw0 Z Z en147 Z (hsm) ?_
 rintro u h' ⟨rfl,rfl⟩
 simp only [lC,lN]
 refine sV (bi Z)<|sA Z<|sK [2] Z<|cT ?_
 exact aj Z ⟨Z,Z⟩ sbq
theorem Mh (hX:Spc X) {l:FS} (hl:Ls X v l) {uc:List Value} {c:FC} (hc:Enc.rep X uc c):Ctw prog 64 #[v,.agg uc.toArray] [X] λu h'=>u = .int .i64 (jF l c)/\h'=[X]:=by
 have hml:maxLen=9223372036854775807:=rfl
 have hdc:=Hz hX hc
 obtain ⟨ca,cb,ce,cf,ci,rfl,hca,hcb,-⟩:=gB hc
 have hone0:=Enc.ones hc
 obtain ⟨pA,pK,rfl,hplc,hpcm,_⟩:=id hcb.form
 obtain ⟨fA,fK,rfl,_⟩:=id hca.form
 obtain ⟨vAq,vK,rfl,_⟩:=id hl.form
 have htw:=GL hca
 have h146:∀ {xs:List Pn},∀ a∈xs,∀ us,Enc.rep X us a->Ctw prog 146 (#[]++([.agg us.toArray]:List Value).toArray ++ #[]) [X] λu h'=>u = .bool (!small a.to)/\h'=[X]:=λa _ us h=>JC hX h
 unfold jF
 refine fQ (n:=62) func64 Z Z (len Z) λhr w0 hw0=>?_
 refine cQ (aV Z Z λb3=>?_)
 refine sA Z<|sK [0,3,4] Z<|cS<|cB<|cQ<|sV (vF Z D8 Z)<|sV (vY Z ld38) ?_
 refine sV (aF Z underlying38)<|sV (bZ Z Z)<|sA Z<|sK [0,3,4,12] Z<|cC Z (λh3=>?_)<|λh3=>?_
 ·rw [if_pos (show 3<c.forms.length by have h:(3:Int)<c.forms.length:=(by simpa using h3); omega)]
  refine cQ<|sA Z<|sK [4] Z<|cT<|xW<|xR ?_
  exact aj Z ⟨Z,Z⟩ sbq
 ·rw [if_neg (show ¬ 3<c.forms.length by have h:(c.forms.length:Int)≤3:=(by simpa using h3); omega)]
  refine cQ<|sV (vF Z D8 Z)<|sV (vY Z ld38) ?_
  refine aY Z Z en143 Z (htw) ?_
  refine sA Z<|sK [0,3,4,17] Z<|cC Z (λh6=>?_)<|λh6=>?_
  ·rw [if_pos (show ¬ (c.forms.map λf=>f.name).Nodup by simpa using h6)]
   refine cQ<|sA Z<|sK [4] Z<|cT<|xW<|xR ?_
   exact aj Z ⟨Z,Z⟩ sbq
  ·rw [if_neg (show ¬ ¬ (c.forms.map λf=>f.name).Nodup by simpa using h6)]
   refine cK<|xB<|xT<|cS<|cQ<|sV (vF Z fC Z)<|sV (vY Z mi) ?_
   refine sV (aF Z underlying39)<|sM Z<|sK [0,3,4,22,23,24] Z<|cB<|aZ (σ := Nat) (λi=>[(0,.slice vAq l.length vK),(3,.pointer (some ⟨b3,0,none⟩)),(22,.slice pA c.pars.length pK),(23,.int .i64 c.pars.length),(24,.int .i64 (i:Nat))]) (λ_=>pt b3 (cl [sv c.name,.bool c.dfd,.slice fA c.forms.length fK,.slice pA c.pars.length pK,ce,cf,ci] 44)::X::hr) (λi=>i≤c.pars.length/\∀ j (hj:j<c.pars.length),j<i->c.pars[j].args.length=(ae l c.pars[j].name).forms.length) (λi=>c.pars.length - i) 0 ⟨Nat.zero_le _,λj _ hj=>absurd hj<|Nat.not_lt_zero _⟩ ?_
   rintro i ⟨hi,hal⟩
   refine cQ<|sV (aN Z Z)<|sN<|nT<|cS<|cC Z (λhd=>?_)<|λhd=>?_
   ·have hlt:i<c.pars.length:=Zx
    obtain ⟨b,o,cap2,us,e1,hus,hrd,hre⟩:=hcb.at<|Zy hlt
    cases e1
    have hone:=Enc.ones hre
    have hmem:=List.getElem_mem hlt
    generalize hpg:c.pars[i]=p at hre hone hmem
    obtain ⟨qa,qb,qc,qd,qe,rfl,hqa,-⟩:=id hre
    obtain ⟨aA,aK,rfl,_⟩:=id hqa.form
    have hfi:=uq (n:=p.name) hl
    refine cK<|xT<|cS<|cB<|cQ<|sV (vI (k:=i) Z Z oV Z hlt Z)<|sV (af Z qB Z hrd) ?_
    refine ax vC λb6=>?_
    refine ai Z Z sF Z hone ?_
    refine sK [0,3,6,22,23,24] Z<|cQ<|sM Z<|sV (vF Z gT Z)<|sV (vY Z ld9) ?_
    refine aH Z Z en117 Z (hfi) ?_
    rintro u h' ⟨rfl,gus,rfl,hgr⟩
    simp only [lC,lN]
    have hgr:Enc.rep X gus (ae l p.name):=hgr
    have hgo:=Enc.ones hgr
    obtain ⟨ga,gb,ge,gf,gi,rfl,hga,-⟩:=gB hgr
    obtain ⟨gA,gK,rfl,_⟩:=id hga.form
    refine sM Z<|sV (ag Z Z)<|sV (ag Z Z) (ax oq λb7=>?_)
    refine ai Z Z kW Z hgo ?_
    refine sA Z<|sK [0,3,6,7,22,23,24] Z<|cQ<|sV (vF Z wI Z)<|sV (vY Z o5) ?_
    refine sV (aF Z underlying71)<|sV (vF Z D8 Z)<|sV (vY Z ld38) ?_
    refine sV (aF Z underlying38)<|sV (bM Z Z)<|sK [0,3,22,23,24,41] Z<|cC Z (λhne=>?_)<|λhne=>?_
    ·have hne:p.args.length≠(ae l p.name).forms.length:=by have h:(p.args.length:Int)≠(ae l p.name).forms.length:=Zv; omega
     rw [if_pos (List.any_eq_true.2 ⟨p,hmem,decide_eq_true hne⟩)]
     refine cQ<|sA Z<|sK [4] Z<|cT<|xW<|xR<|xR<|xW<|xR ?_
     exact aj Z ⟨Z,Z⟩ sbq
    ·have hne:p.args.length=(ae l p.name).forms.length:=by have h:(p.args.length:Int)=(ae l p.name).forms.length:=Zv; omega
     refine cK<|xB<|xT<|cR<|sV (aI Z Z Z6)<|sM Z<|sN<|nK [0,3,22,23,24] Z<|au<|aM (i+1) ⟨hlt,λj hj hji=>?_⟩ (by show c.pars.length - (i+1)<c.pars.length - i; omega)
     by_cases h:j=i
     ·subst h; rw [hpg]; exact hne
     ·exact hal j hj<|by omega
   ·have hie:i=c.pars.length:=Nat.le_antisymm hi<|Nat.not_lt.1 Zx
    subst hie
    rw [if_neg (λh=>by
     obtain ⟨p,hp,h2⟩:=List.any_eq_true.1 h
     obtain ⟨j,hj,rfl⟩:=List.getElem_of_mem hp
     exact of_decide_eq_true h2 (hal j hj hj))]
    refine aB<|xE<|xE<|xY<|xT<|cS<|cQ<|sV (af Z gp Z ah) ?_
    refine bL hw0 Z Z en145 Z (hdc) ?_
    rintro u h' ⟨rfl,rfl⟩
    simp only [lC,lN]
    refine sA Z<|sK [3,9] Z<|cQ<|sM Z<|sV (bM Z Z)<|sK [3,9,46] Z<|cC Z (λhz=>?_)<|λhz=>?_
    ·rw [if_pos (show Ac c≠0 by simpa using hz)]
     refine cQ<|sM Z<|sA Z<|sK [4] Z<|cT<|xR ?_
     exact aj Z ⟨Z,Z⟩ sbq
    ·rw [if_neg (show ¬ Ac c≠0 by simpa using hz)]
     refine cK<|xT<|cS<|cQ<|sV (vF Z fC Z)<|sV (vY Z mi) ?_
     refine sV (aF Z underlying39)<|sM Z<|sK [49,50,51] Z<|cB<|aZ (σ := Nat) (λi=>[(49,.slice pA c.pars.length pK),(50,.int .i64 c.pars.length),(51,.int .i64 (i:Nat))]) (λ_=>X::hr) (λi=>i≤c.pars.length/\∀ j (hj:j<c.pars.length),j<i->Gc c.pars[j]=0) (λi=>c.pars.length - i) 0 ⟨Nat.zero_le _,λj _ hj=>absurd hj<|Nat.not_lt_zero _⟩ ?_
     rintro i ⟨hi,hal⟩
     refine cQ<|sV (aN Z Z)<|sN<|nT<|cS<|cC Z (λhd=>?_)<|λhd=>?_
     ·have hlt:i<c.pars.length:=Zx
      obtain ⟨b,o,cap2,us,e1,hus,hrd,hre⟩:=hcb.at<|Zy hlt
      cases e1
      have hone:=Enc.ones hre
      have hbad:Gc c.pars[i]≠0->ni (c.pars.map Gc)=Gc c.pars[i]:=λhne=>by
       rw [Dt (i:=i) (by rw [List.length_map]; exact hlt) (λj hj hji=>by rw [List.getElem_map]; exact hal j Zg hji) (by rw [List.getElem_map]; exact hne),List.getElem_map]
      generalize hpg:c.pars[i]=p at hre hone hbad
      obtain ⟨qa,qb,qc,qd,qe,rfl,hqa,hqb,-⟩:=id hre
      have h73:Ctw prog 73 #[qb,.func (.func 146) #[] #[]] [X] λu h'=>u = .bool (p.ren.any λx => !small x.to)/\h'=[X]:=Mg (kf:=146) (cp := #[]) (g:=λx => !small x.to) hqb en146 h146
      have h148:=GM hqb
      have hrn:Gc p=if (p.ren.any λx => !small x.to)=true then 4 else if (p.ren.map λx=>x.fro).Nodup then 0 else 6:=rfl
      refine cK<|xT<|cS<|cB<|cQ<|sV (vI (k:=i) Z Z oV Z hlt Z)<|sV (af Z qB Z hrd) ?_
      refine ax vC λb11=>?_
      refine ai Z Z sF Z hone ?_
      refine sK [11,49,50,51] Z<|cS<|cQ<|sV (vF Z zO Z)<|sV (vY Z ld86) ?_
      refine bL hw0 Z Z en73 Z (h73) ?_
      rintro u h' ⟨rfl,rfl⟩
      simp only [lC,lN]
      refine sK [11,49,50,51,57] Z<|cC Z (λh4=>?_)<|λh4=>?_
      ·rw [if_pos (show _=true from h4)] at hrn
       rw [hbad (by rw [hrn]; decide),hrn]
       refine cQ<|sA Z<|sK [4] Z<|cT<|xR<|xW<|xR<|xR<|xW<|xR ?_
       exact aj Z ⟨Z,Z⟩ sbq
      ·have h4:(p.ren.any λx => !small x.to)=false:=h4
       rw [h4,if_neg (by decide)] at hrn
       refine cK<|xT<|cQ<|sV (vF Z zO Z)<|sV (vY Z ld86) ?_
       refine aY Z Z en148 Z (h148) ?_
       refine sK [49,50,51,60] Z<|cC Z (λh5=>?_)<|λh5=>?_
       ·rw [if_neg (show ¬ (p.ren.map λx=>x.fro).Nodup by simpa using h5)] at hrn
        rw [hbad (by rw [hrn]; decide),hrn]
        refine cQ<|sA Z<|sK [4] Z<|cT<|xW<|xR<|xR<|xW<|xR ?_
        exact aj Z ⟨Z,Z⟩ sbq
       ·rw [if_pos (show (p.ren.map λx=>x.fro).Nodup by simpa using h5)] at hrn
        refine cK<|xB<|xT<|cR<|sV (aI Z Z Z6)<|sM Z<|sN<|nK [49,50,51] Z<|au<|aM (i+1) ⟨hlt,λj hj hji=>?_⟩ (by show c.pars.length - (i+1)<c.pars.length - i; omega)
        by_cases h:j=i
        ·subst h; rw [hpg]; exact hrn
        ·exact hal j hj<|by omega
     ·have hie:i=c.pars.length:=Nat.le_antisymm hi<|Nat.not_lt.1 Zx
      subst hie
      rw [yf λj hj=>by rw [List.getElem_map]; exact hal j Zg Zg]
      refine aB<|xE<|xE<|xY<|xT<|cQ<|sA Z<|sK [4] Z<|cT ?_
      exact aj Z ⟨Z,Z⟩ sbq
end
theorem Mi {l:FS} (h0:(check (aO l)).1=0) {i:Nat} (h:i<l.length) (hb:∀ j (hj:j<l.length),j<i->jF l l[j]=0) (hn:jF l l[i]≠0):bP l=(jF l l[i],l[i].name):=by
 unfold bP
 rw [if_neg (by rw [h0]; simp)]
 rw [show (l.map λc=>(jF l c,c.name)).find? (λe=>e.1 != 0)=some (jF l l[i],l[i].name) from List.find?_eq_some_iff_getElem.2 ⟨Zk,i,Zp,by simp,λj hj=>by
  rw [List.getElem_map,hb j (by omega) hj]; rfl⟩]
theorem HV {l:FS} (h0:(check (aO l)).1=0) (hb:∀ j (hj:j<l.length),jF l l[j]=0):bP l=(0,[]):=by
 unfold bP
 rw [if_neg (by rw [h0]; simp)]
 rw [show (l.map λc=>(jF l c,c.name)).find? (λe=>e.1 != 0)=none from List.find?_eq_none.2 λx hx=>by
  obtain ⟨c,hc,rfl⟩:=List.mem_map.1 hx
  obtain ⟨j,hj,rfl⟩:=List.getElem_of_mem hc
  rw [hb j hj]; simp]
section
variable {X:Res} {v:Value}
theorem sD (hX:Spc X) {l:FS} (hl:Ls X v l):Ctw prog 16 #[v] [X] λu h'=>u = .tuple #[.int .i64 (bP l).1,sv (bP l).2]/\h'=[X]:=by
 have hml:maxLen=9223372036854775807:=rfl
 obtain ⟨vAq,vK,rfl,_⟩:=id hl.form
 have hck:=FY<|wP hl
 have hz0:(check<|aO l).1≠0->bP l=check (aO l):=λh=>by unfold bP; rw [if_pos h]
 generalize hkk:check (aO l)=kk at hck hz0
 obtain ⟨k1,k2⟩:=kk
 dsimp only at hck hz0
 refine fQ (n:=33) func16 Z Z (len Z) λhr w0 hw0=>?_
 refine cQ<|sA Z<|sA Z<|sN<|nT<|cS<|cQ<|sM Z<|aH Z Z en63 Z (hck) ?_
 rintro u h' ⟨rfl,rfl⟩
 simp only [lC,lN]
 refine sM Z<|sV (ag Z Z)<|sV (ag Z Z)<|sA Z<|sA Z<|sK [0,2,3,4,5] Z<|cQ<|sM Z<|sV (bM Z Z)<|sK [0,2,3,4,5,15] Z<|cC Z (λhz=>?_)<|λhz=>?_
 ·rw [hz0 Zn]
  refine cQ<|sM Z<|sM Z<|sA Z<|sA Z<|sK [2,3] Z<|cT<|xR ?_
  exact aj Z ⟨Z,Z⟩ sbq
 ·have hz:k1=0:=Zn
  have h0:(check<|aO l).1=0:=by rw [hkk]; exact hz
  refine cK<|xT<|cS<|cQ<|sM Z<|sV (aF Z underlying22)<|sM Z<|sK [0,2,3,18,19,20] Z<|cB<|aZ (σ := Nat) (λi=>[(0,.slice vAq l.length vK),(18,.slice vAq l.length vK),(19,.int .i64 l.length),(20,.int .i64 (i:Nat))]) (λ_=>X::hr) (λi=>i≤l.length/\∀ j (hj:j<l.length),j<i->jF l l[j]=0) (λi=>l.length - i) 0 ⟨Nat.zero_le _,λj _ hj=>absurd hj<|Nat.not_lt_zero _⟩ ?_
  rintro i ⟨hi,hal⟩
  refine cQ<|sV (aN Z Z)<|sN<|nT<|cS<|cC Z (λhd=>?_)<|λhd=>?_
  ·have hlt:i<l.length:=Zx
   obtain ⟨b,o,cap2,us,e1,hus,hrd,hre⟩:=hl.at<|Zy hlt
   cases e1
   have hone:=Enc.ones hre
   have hbad:=Mi h0 hlt hal
   have hfm:=Mh hX hl hre
   generalize hcg:l[i]=c at hre hone hbad hfm
   obtain ⟨ca,cb,ce,cf,ci,rfl,-⟩:=gB hre
   refine cK<|xT<|cS<|cB<|cQ<|sV (vI (k:=i) Z Z qy Z hlt Z)<|sV (af Z gp Z hrd) ?_
   refine ax oq λb7=>?_
   refine ai Z Z kW Z hone ?_
   refine sK [0,7,18,19,20] Z<|cQ<|sM Z<|sV (af Z gp Z ah) ?_
   refine bL hw0 Z Z en64 Z (hfm) ?_
   rintro u h' ⟨rfl,rfl⟩
   simp only [lC,lN]
   refine sA Z<|sK [0,7,8,18,19,20] Z<|cQ<|sM Z<|sV (bM Z Z)<|sK [0,7,8,18,19,20,28] Z<|cC Z (λhne=>?_)<|λhne=>?_
   ·rw [hbad Zv]
    refine cS<|bB (ork [(0,2),(1,2),(2,1),(3,2),(4,2)] .nil) (λ_=>true) mixed Zz ?_
    refine dV Z (vM Z)<|dV Z (vF Z dK Z)<|bg Z (vY Z ld9) ?_
    refine dV Z (vA Z)<|dV Z (vA Z)<|bA<|nK [2,3] Z<|nT<|cT<|xW<|xR<|xR<|xW<|xR ?_
    exact aj Z ⟨Z,Z⟩ sbq
   ·have hne:jF l c=0:=Zv
    refine cK<|xB<|xT<|cR<|sV (aI Z Z Z6)<|sM Z<|sN<|nK [0,18,19,20] Z<|au<|aM (i+1) ⟨hlt,λj hj hji=>?_⟩ (by show l.length - (i+1)<l.length - i; omega)
    by_cases h:j=i
    ·subst h; rw [hcg]; exact hne
    ·exact hal j hj<|by omega
  ·have hie:i=l.length:=Nat.le_antisymm hi<|Nat.not_lt.1 Zx
   subst hie
   rw [HV h0 λj hj=>hal j hj hj]
   refine aB<|xE<|xE<|xY<|xT<|cQ<|sA Z<|sA Z<|sK [2,3] Z<|cT ?_
   exact aj Z ⟨Z,Z⟩ sbq
end
end Go.Fl
namespace Go.Fl
open Go Go.Hr
def oriP (l:FS) (c n:Nm):List Og×Int:=if (bX l [] c n).2≠0 then ([],(bX l [] c n).2) else
 ((if (feat (ae l c) n).isSome then [⟨[],n⟩] else [])++(under (comes (look (build l).1) l<|ae l c) n).map (λx=>x.og),0)
section
variable {l:FS}
theorem jd {ns:List Nm} (h:wholeE l ns=0):Good l/\∀ n∈ns,(bE l n).isSome=true:=by
 unfold wholeE at h
 split at h
 ·rename_i h1; exact absurd h h1
 rename_i h1
 have h1:=Classical.not_not.1 h1
 split at h
 ·rename_i h2
  exact ⟨uh.1 ((rF h1).2.trans h),by simpa using h2⟩
 ·cases h
theorem Good.flb (h:Good l):FlB l (Fl.look (Fl.build l).1):=by
 rw [h.build]; exact OH h.right λn hn=>h.ok n ((fP h.sys).1 hn)
theorem Good.ords (h:Good l):(Fl.build l).1.map (λp=>p.1)=order (aO l):=by
 rw [h.build]; simp [forms,List.map_map,Function.comp_def]
theorem Good.err (h:Good l):(Fl.build l).2=(cf0,0):=by rw [h.build]
theorem Good.flats2 (h:Good l):bY l=((order (aO l)).map λn=>Fl.look (Fl.build l).1 n,0):=by
 rw [h.flats]
 congr 1
 apply List.map_congr_left
 intro n hn
 exact (h.look ((fP h.sys).1 hn)).symm
theorem Good.ord_len (h:Good l):(order (aO l)).length≤24:=by
 have h1:(order<|aO l).length≤(nms<|aO l).length:=aW (iU h.sys.acyc h.sys.uniq).1.nodup λx hx=>((iU h.sys.acyc h.sys.uniq).2 x).1 hx
 have h2:(nms<|aO l).length=l.length:=by simp [nms,aO]
 have h3:=h.sys.len
 rw [eO] at h3
 omega
end
end Go.Fl
namespace Go.Fl
open Go Go.RowKit Go.Ck Go.Proofs Go.Proofs.Tryz Go.Proofs.YtknmacdbffgjgaaGreatDoor Fx Go.Hr
attribute [local irreducible] Go.Ck.Sub St Cd Xt Nx DrL LsW
theorem iH {v fv ow:Value} {x:Cf} {e:Int} (h1:v.oneCell'=true) (h2:fv.oneCell'=true) (h3:ow.oneCell'=true):([v,fv,ow,.int .i64 x.kind,sv x.cls,sv x.name,sv x.other,sv x.a.par,sv x.a.name,sv x.b.par,sv x.b.name,.int .i64 e]:List Value).all Value.oneCell'=true:=by
 simp only [List.all_cons,List.all_nil,h1,h2,h3,Bool.and_true,Bool.true_and]; rfl
section
variable {X:Res} {v nv:Value}
theorem rO (hX : Spc X) {l : FS} (hl : Ls X v l) (hS : iL l) {ns : List Nm} (hn : Ls X nv ns) : dQ prog 54 #[v, nv] X [] λu Y k' => ∃ v2 fv ow x e, u = .tuple #[.agg (sI v2 fv ow x e).toArray, .int .i64 (wholeE l ns)] /\ v2.oneCell' = true /\ fv.oneCell' = true /\ ow.oneCell' = true /\
  ((wholeE l ns≠0/\k'=[])∨(wholeE l ns=0/\∃ mb m names,v2=v/\fv = .map (some mb)/\x=cf0/\e=0/\k'=[mps mb m,VR ow 9 1 (names.map nC)]/\FlR Y m (look (build l).1)/\names=order (aO l))):=by
 have hml:maxLen=9223372036854775807:=rfl
 obtain ⟨vAq,vK,rfl,_⟩:=id hl.form
 obtain ⟨nA,nKq,rfl,_⟩:=id hn.form
 have hck:=sD hX hl
 unfold dQ
 refine fQ (n:=43) func54 Z Z (len Z) λhr w0 hw0=>?_
 refine cQ (ax oz λb4=>?_)
 refine sA Z<|sN<|nT<|cS<|cQ<|sM Z<|bL hw0 Z Z en16 Z (hck) ?_
 rintro u h' ⟨rfl,rfl⟩
 simp only [lC,lN]
 refine sM Z<|sV (ag Z Z)<|sV (ag Z Z)<|sA Z<|sA Z<|sK [0,1,4,5,6] Z<|cQ<|sM Z<|sV (bM Z Z)<|sK [0,1,4,5,6,19] Z<|cC Z (λhz=>?_)<|λhz=>?_
 ·have hz:(bP l).1≠0:=Zn
  have hw:wholeE l ns=(bP l).1:=by unfold wholeE; rw [if_pos hz]
  refine cQ<|sV (aQ (cells:=[.slice none 0 0,.map none,.slice none 0 0,.int .i64 0,sv [],sv [],sv [],sv [],sv [],sv [],sv [],.int .i64 0]) Z<|λ_=>Zz) ?_
  refine sM Z<|ai Z Z jk Z Z ?_
  refine sA Z<|sK [4,5] Z<|cT<|xR ?_
  rw [hw]
  exact bF (.cellN Z lK Z slq<|.tmp Z .nil) ⟨X,[],Z,Ext.refl X,.slice none 0 0,.map none,.slice none 0 0,cf0,0,Z,Z,Z,Z,.inl ⟨hz,Z⟩⟩ sbr
 ·have hz:(bP l).1=0:=Zn
  have hR:=fM.1 hz
  refine cK<|xT<|cS<|cQ<|sM Z<|sV (aF Z underlying40)<|sM Z<|sK [0,4,5,22,23,24] Z<|cB<|aZ (σ := Nat) (λi=>[(0,.slice vAq l.length vK),(22,.slice nA ns.length nKq),(23,.int .i64 ns.length),(24,.int .i64 (i:Nat)),(4,.pointer (some ⟨b4,0,none⟩))]) (λ_=>pt b4 (cl [.slice none 0 0,.map none,.slice none 0 0,.int .i64 0,sv [],sv [],sv [],sv [],sv [],sv [],sv [],.int .i64 0] 116)::X::hr) (λi=>i≤ns.length/\∀ j (hj:j<ns.length),j<i->(bE l ns[j]).isSome=true) (λi=>ns.length - i) 0 ⟨Nat.zero_le _,λj _ hj=>absurd hj<|Nat.not_lt_zero _⟩ ?_
  rintro i ⟨hi,hal⟩
  try dsimp only
  refine cQ<|sV (aN Z Z)<|sN<|nT<|cS<|cC Z (λhd=>?_)<|λhd=>?_
  ·have hlt:i<ns.length:=Zx
   obtain ⟨b,o,cap2,us,e1,hus,hrd,hre⟩:=hn.at<|Zy hlt
   cases e1
   obtain rfl:us=[sv ns[i]]:=hre
   have hfi:=uq (n:=ns[i]) hl
   rw [show (l.find? λc=>c.name == ns[i])=bE l ns[i] from rfl] at hfi
   have hnx:∀ hfs:(bE l ns[i]).isSome=true,∀ j (hj:j<ns.length),j<i+1->(bE l ns[j]).isSome=true:=λhfs j hj hji=>by
    by_cases h:j=i
    ·subst h; exact hfs
    ·exact hal j hj<|by omega
   have hbad:(bE l ns[i]).isSome=false->wholeE l ns=5:=λhq=>by
    unfold wholeE
    rw [if_neg (by rw [hz]; simp),if_neg]
    intro h
    rw [List.all_eq_true.1 h _ (List.getElem_mem hlt)] at hq; cases hq
   generalize ns[i]=n at hrd hfi hnx hbad
   generalize hfs:(bE l n).isSome=fs at hfi hnx hbad
   refine cK<|xT<|cS<|cB<|cQ<|sV (vI (k:=i) Z Z jv Z hlt Z)<|sV (vY Z ld9 (ha:=⟨X,_,slq,hrd 0<|by simp⟩)) ?_
   refine sA Z<|sK [0,4,9,22,23,24] Z<|cQ<|sM Z<|sM Z<|aH Z Z en117 Z (hfi) ?_
   rintro u h' ⟨rfl,us,rfl,hre2⟩
   simp only [lC,lN]
   have hone:=Enc.ones hre2
   obtain ⟨ca,cb,ce,cf,ci,rfl,-⟩:=gB hre2
   refine sM Z<|sV (ag Z Z)<|sV (ag Z Z) (ax oq λb10=>?_)
   refine ai Z Z kW Z hone ?_
   refine sA Z<|sK [0,4,11,22,23,24] Z<|cQ<|sM Z<|sV (bi Z)<|sK [0,4,22,23,24,35] Z ?_
   cases fs with
   | false =>
    rw [hbad rfl]
    refine aT Z ?_
    refine cQ<|sV (aQ (cells:=[.slice none 0 0,.map none,.slice none 0 0,.int .i64 0,sv [],sv [],sv [],sv [],sv [],sv [],sv [],.int .i64 0]) Z<|λ_=>Zz) ?_
    refine ai Z Z jk Z Z ?_
    refine sA Z<|sK [4,5] Z<|cT<|xW<|xR<|xR<|xW<|xR ?_
    exact bF (.cellN Z lK Z slq<|.tmp Z .nil) ⟨X,[],Z,Ext.refl X,.slice none 0 0,.map none,.slice none 0 0,cf0,0,Z,Z,Z,Z,.inl ⟨by decide,Z⟩⟩ sbr
   | true =>
    refine aG Z ?_
    refine cK<|xB<|xT<|cR<|sV (aI Z Z Z6)<|sM Z<|sN<|nK [0,4,22,23,24] Z<|au ?_
    refine aM (i+1) ⟨hlt,hnx Z⟩ (by show ns.length - (i+1)<ns.length - i; omega)
  ·have hie:i=ns.length:=Nat.le_antisymm hi<|Nat.not_lt.1 Zx
   subst hie
   refine aB<|xE<|xE<|xY<|xT<|cQ<|sM Z ?_
   have hbd:=Hy hl hR hS
   unfold dQ at hbd
   have hall:ns.all (λn=>(bE l n).isSome)=true:=List.all_eq_true.2 λn hn=>by
    obtain ⟨j,hj,rfl⟩:=List.getElem_of_mem hn
    exact hal j hj hj
   have hw:wholeE l ns=(build l).2.2:=by unfold wholeE; rw [if_neg (by rw [hz]; simp),if_pos hall]
   refine bL hw0 Z Z en53 Z (hbd) ?_
   rintro u h' ⟨Y,k',rfl,hE,mb,m,ow,names,rfl,rfl,hm,hnm,how⟩
   simp only [lC,lN]
   unfold sI
   have h12:=iH (v:=.slice vAq l.length vK) (fv:=.map<|some mb) (ow:=ow) (x:=(build l).2.1) (e:=(build l).2.2) rfl rfl how
   refine ax oz λb12=>?_
   refine ai Z Z jk Z h12 ?_
   refine sK [4,12] Z<|cS<|iR (ork [(0,1),(1,2),(2,1),(3,0),(4,2)] .nil) (λ_=>true) [pt b12 (cl [.slice vAq l.length vK,.map (some mb),ow,.int .i64 (build l).2.1.kind,sv (build l).2.1.cls,sv (build l).2.1.name,sv (build l).2.1.other,sv (build l).2.1.a.par,sv (build l).2.1.a.name,sv (build l).2.1.b.par,sv (build l).2.1.b.name,.int .i64 (build l).2.2] 116)] mixed Zz ?_
   refine bg Z (af Z lK Z ah) ?_
   refine dV Z (vF Z vz Z)<|bg Z (vY Z Bg) ?_
   refine aP Z<|ai Z Z jk Z h12 ?_
   refine aX ?_
   refine dV Z (vA Z)<|bA<|nK [4,5] Z<|nT<|cT ?_
   rw [<- hw]
   by_cases hw0:wholeE l ns=0
   ·have hg:=(jd hw0).1
    have hx:(build l).2.1=cf0:=by rw [hg.err]
    exact bF (.cellN Z lK Z slq<|.tmp Z .nil) ⟨Y,[mps mb m,VR ow 9 1 (names.map nC)],Z,hE,.slice vAq l.length vK,.map (some mb),ow,(build l).2.1,wholeE l ns,Z,Z,Z,how,.inr ⟨hw0,mb,m,names,Z,Z,hx,hw0,Z,hm,hnm.trans hg.ords⟩⟩ sbr
   ·exact bF (.cellN Z lK Z slq<|.tmp Z .nil) ⟨Y,[],Z,hE,.slice vAq l.length vK,.map (some mb),ow,(build l).2.1,wholeE l ns,Z,Z,Z,how,.inl ⟨hw0,Z⟩⟩ sbr
end
end Go.Fl
namespace Go.Fl
open Go Go.RowKit Go.Ck Go.Proofs Go.Proofs.Tryz Go.Proofs.YtknmacdbffgjgaaGreatDoor Fx Go.Hr
theorem rep_fl0 {X:Res}:Enc.rep X [sv [],.bool false,.slice none 0 0,.slice none 0 0] fl0:=⟨.slice none 0 0,.slice none 0 0,rfl,Ls.nil,Ls.nil⟩
theorem rws_nm {Y:Res} (xs:List Nm):Rws Y (xs.map nC) xs:=⟨by simp,λj us x h1 h2=>by
 rw [List.getElem?_map,h2] at h1
 cases h1; rfl⟩
theorem nm_ls {Y:Res} {w:Value} {xs:List Nm} (hok:∃ f,(VR w 9 1 (xs.map nC)).ok f) (hr:∀ p u,Rd (VR w 9 1 (xs.map nC)) p u->Rd Y p u) (hb:xs.length≤1000000000):Ls Y w xs :=
 Rws.ls (E:=9) (rws_nm xs) hok hr (by show xs.length * 16≤140737488351232; omega)
theorem Good.few {l:FS} (h:Good l) (n:Nm):(Fl.look (Fl.build l).1 n).mems.length≤60:=h.flb.few n
theorem JD (ms:List Mb) (s:Sd):(bn ms s).length≤ms.length:=by
 unfold bn; rw [List.length_map]; exact List.length_filter_le _ _
attribute [local irreducible] Go.Ck.Sub St Cd Xt Nx DrL LsW
section
variable {X:Res} {v:Value} {l:FS}
theorem AX (hX:Spc X) (hl:Ls X v l) (hS:iL l):dQ prog 12 #[v] X [] λu Y k'=>k'=[]/\u = .tuple #[cfV (il l).1,.bool (il l).2.1,.int .i64 (il l).2.2]:=by
 have hml:maxLen=9223372036854775807:=rfl
 obtain ⟨vAq,vK,rfl,_⟩:=id hl.form
 have hck:=sD hX hl
 unfold dQ
 refine fQ (n:=28) func12 Z Z (len Z) λhr w0 hw0=>?_
 refine cQ (ax zQ λb2=>?_)
 refine sA Z<|sA Z<|sN<|nT<|cS<|cQ<|sM Z<|bL hw0 Z Z en16 Z (hck) ?_
 rintro u h' ⟨rfl,rfl⟩
 simp only [lC,lN]
 refine sM Z<|sV (ag Z Z)<|sV (ag Z Z)<|sA Z<|sA Z<|sK [0,2,3,4,5] Z<|cQ<|sM Z<|sV (bM Z Z)<|sK [0,2,3,4,5,14] Z<|cC Z (λhz=>?_)<|λhz=>?_
 ·have hz:(bP l).1≠0:=Zn
  have hp:il l=(cf0,false,(bP l).1):=(CP hz).1
  rw [hp]
  refine cQ<|sV (aQ (cells:=[.int .i64 0,sv [],sv [],sv [],sv [],sv [],sv [],sv []]) Z<|λ_=>Zz) ?_
  refine sM Z<|ai Z Z tK Z Z ?_
  refine sA Z<|sA Z<|sK [2,3,4] Z<|cT<|xR ?_
  exact bF (.cellN Z qP Z slq<|.tmp Z<|.tmp Z .nil) ⟨X,[],Z,Ext.refl X,Z,Z⟩ sbr
 ·have hz:(bP l).1=0:=Zn
  have hR:=fM.1 hz
  have hbd:=Hy hl hR hS
  unfold dQ at hbd
  have hp:=(rF hz).1
  rw [hp]
  refine cK<|xT<|cQ<|sM Z<|bL hw0 Z Z en53 Z (hbd) ?_
  rintro u h' ⟨Y,k',rfl,hE,mb,m,ow,names,rfl,rfl,hm,hnm,how⟩
  simp only [lC,lN]
  unfold sI
  have h12:=iH (v:=.slice vAq l.length vK) (fv:=.map<|some mb) (ow:=ow) (x:=(build l).2.1) (e:=(build l).2.2) rfl rfl how
  generalize (build l).2.1=x at h12 ⊢
  generalize (build l).2.2=e at h12 ⊢
  refine ax oz λb7=>?_
  refine ai Z Z jk Z h12 ?_
  refine sK [2,3,4,7] Z<|cS<|cQ<|sV (vF Z vz Z)<|sV (vY Z Bg) ?_
  refine sV (dD Z Z)<|sK [2,3,4,7,21] Z<|cC Z (λhe=>?_)<|λhe=>?_
  ·have he:e=3:=Zh
   rw [if_pos he]
   refine cQ<|sV (aQ (cells:=[.int .i64 0,sv [],sv [],sv [],sv [],sv [],sv [],sv []]) Z<|λ_=>Zz) ?_
   refine ai Z Z tK Z Z ?_
   refine sA Z<|sA Z<|sK [2,3,4] Z<|cT<|xR ?_
   exact bF (.cellN Z qP Z slq<|.tmp Z<|.tmp Z .nil) ⟨Y,[],Z,hE,Z,Z⟩ sbr
  ·have he:e≠3:=Zh
   rw [if_neg he]
   refine cK<|xT<|cS<|iR (ork [(0,2),(1,1),(2,2),(3,1),(4,2),(5,0),(6,2),(7,2)] .nil) (λ_=>true) [pt b7 (cl [.slice vAq l.length vK,.map (some mb),ow,.int .i64 x.kind,sv x.cls,sv x.name,sv x.other,sv x.a.par,sv x.a.name,sv x.b.par,sv x.b.name,.int .i64 e] 116)] mixed Zz ?_
   refine dV Z (vF Z Ka Z)<|bg Z (af Z qP Z<|bD (k:=3) ah (vs:=[.int .i64 x.kind,sv x.cls,sv x.name,sv x.other,sv x.a.par,sv x.a.name,sv x.b.par,sv x.b.name]) Z) ?_
   refine dV Z (vF Z vz Z)<|bg Z (vY Z Bg) ?_
   refine dV Z (dD Z Z)<|aP Z<|ai Z Z tK Z Z ?_
   refine aX ?_
   refine dV Z (vA Z)<|dV Z (vA Z)<|bA<|nK [2,3,4] Z<|nT<|cT ?_
   exact bF (.cellN Z qP Z slq<|.tmp Z<|.tmp Z .nil) ⟨Y,[],Z,hE,Z,congrArg (λb=>Value.tuple #[cfV x,.bool b,.int .i64 0])<|by rfl⟩ sbr

theorem Du (hX:Spc X) (hl:Ls X v l) (hS:iL l) (n:Nm):dQ prog 45 #[v,sv n] X [] λu Y k'=>k'=[]/\∃ us:List Value,u = .tuple #[.agg us.toArray,.int .i64 (eQ l n).2]/\Enc.rep Y us (eQ l n).1:=by
 have hml:maxLen=9223372036854775807:=rfl
 obtain ⟨vAq,vK,rfl,_⟩:=id hl.form
 unfold dQ
 refine fQ (n:=25) func45 Z Z (len Z) λhr w0 hw0=>?_
 refine cQ (ax al55 λb4=>?_)
 refine sA Z<|sN<|nT<|cQ<|sM Z<|sM Z (ak (cells:=[sv n]) Z underlying40 gm Z Z Zz (ltn Z) λb11=>?_)
 refine kI [pt b11 (cl [sv n] 9)] X λY0 hE0 hsel=>?_
 have hwh:=rO (hX.up hE0) (hl.up hE0) hS<|jG (p:=n) (ux:=[sv n]) rfl (λi hi=>hsel _ _ .here _ _<|ah i hi)<|by decide
 unfold dQ at hwh
 refine bL hw0 Z Z en54 Z (hwh) ?_
 rintro u h' ⟨Y,k',rfl,hE,v2,fv,ow,x,e,rfl,hv2,hfv,how,hor⟩
 simp only [lC,lN]
 unfold sI
 have h12:=iH (x:=x) (e:=e) hv2 hfv how
 replace hE:=hE0.trans hE
 refine sM Z<|sV (ag Z Z)<|sV (ag Z Z) (ax oz λb6=>?_)
 refine ai Z Z jk Z h12 ?_
 refine sA Z<|sK [1,4,5,6,7] Z<|cS<|cQ<|sM Z<|sV (bM Z Z)<|sK [1,4,5,6,7,16] Z<|cC Z (λhq=>?_)<|λhq=>?_
 ·have hq:wholeE l [n]≠0:=Zu
  obtain ⟨-,rfl⟩:=hor.resolve_right λh=>hq h.1
  have hp:eQ l n=(fl0,wholeE l [n]):=by unfold eQ; rw [if_pos hq]
  rw [hp]
  refine cQ<|sV (aQ (cells:=[sv [],.bool false,.slice none 0 0,.slice none 0 0]) Z<|λ_=>Zz) ?_
  refine sM Z<|ai Z Z zH Z Z ?_
  refine sA Z<|sK [4,5] Z<|cT<|xR ?_
  exact bF (.cellN Z yw Z slq<|.tmp Z .nil) ⟨Y,[],Z,hE,Z,[sv [],.bool false,.slice none 0 0,.slice none 0 0],Z,rep_fl0⟩ sbr
 ·have hq:wholeE l [n]=0:=Zu
  obtain ⟨-,mb,m,names,rfl,rfl,rfl,rfl,rfl,hm,rfl⟩:=hor.resolve_left λh=>h.1 hq
  have hp:eQ l n=(look (build l).1 n,0):=by unfold eQ; rw [if_neg (λh=>h hq)]
  rw [hp]
  simp only [lC,lN]
  obtain ⟨fus,hfl,hfr⟩:=hm n
  have hcp:=wV hfr
  refine cK<|xT<|cQ<|sV (vF Z gI Z)<|sV (vF Z iG Z)<|sV (vY Z oh) ?_
  refine sM Z<|sV (gG hfl<|bI Z Z nY kL slq) ?_
  refine aH Z Z en55 Z (hcp) ?_
  rintro u h' ⟨T,rfl,us,rfl,hre⟩
  simp only [lC,lN]
  have hone:=Enc.ones hre
  have hre0:=hre
  obtain ⟨x1,x2,rfl,hx1,hx2⟩:=hre
  refine ai Z Z zH Z hone ?_
  refine sA Z<|sK [4,5] Z<|cT (iy [T] Y λY2 hE2 hsel2=>?_)
  exact bF (.cellN Z yw Z slq<|.tmp Z .nil) ⟨Y2,[],Z,hE.trans hE2,Z,_,Z,Enc.up (hsel2 _ _ .here) hre0⟩ sbr

theorem OW (hX:Spc X) (hl:Ls X v l) (hS:iL l) (n:Nm) (s:Sd):dQ prog 35 #[v,sv n,.agg #[sv s.cls,sv s.name]] X [] λu Y k'=>k'=[]/\∃ w:Value,u = .tuple #[w,.int .i64 (jP l n s).2]/\Ls Y w (jP l n s).1:=by
 have hml:maxLen=9223372036854775807:=rfl
 obtain ⟨vAq,vK,rfl,_⟩:=id hl.form
 unfold dQ
 refine fQ (n:=33) func35 Z Z (len Z) λhr w0 hw0=>?_
 refine cQ (aV Z Z λb5=>?_)
 refine sA Z<|sA Z<|sK [0,1,5,6,7] Z<|cQ<|sM Z<|sM Z (ak (cells:=[sv n]) Z underlying40 gm Z Z Zz (ltn Z) λb14=>?_)
 refine kI [pt b14 (cl [sv n] 9)] X λY0 hE0 hsel=>?_
 have hwh:=rO (hX.up hE0) (hl.up hE0) hS<|jG (p:=n) (ux:=[sv n]) rfl (λi hi=>hsel _ _ .here _ _<|ah i hi)<|by decide
 unfold dQ at hwh
 refine bL hw0 Z Z en54 Z (hwh) ?_
 rintro u h' ⟨Y,k',rfl,hE,v2,fv,ow,x,e,rfl,hv2,hfv,how,hor⟩
 simp only [lC,lN]
 unfold sI
 have h12:=iH (x:=x) (e:=e) hv2 hfv how
 replace hE:=hE0.trans hE
 refine sM Z<|sV (ag Z Z)<|sV (ag Z Z) (ax oz λb8=>?_)
 refine ai Z Z jk Z h12 ?_
 refine sA Z<|sK [1,5,6,7,8,9] Z<|cS<|cQ<|sM Z<|sV (bM Z Z)<|sK [1,5,6,7,8,9,19] Z<|cC Z (λhq=>?_)<|λhq=>?_
 ·have hq:wholeE l [n]≠0:=Zu
  obtain ⟨-,rfl⟩:=hor.resolve_right λh=>hq h.1
  have hp:jP l n s=([],wholeE l [n]):=by unfold jP; rw [if_pos hq]
  rw [hp]
  refine cQ<|sM Z<|sA Z<|sA Z<|sK [6,7] Z<|cT<|xR ?_
  exact aj Z ⟨Y,[],Z,hE,Z,_,Z,Ls.nil⟩ sbq
 ·have hq:wholeE l [n]=0:=Zu
  obtain ⟨-,mb,m,names,rfl,rfl,rfl,rfl,rfl,hm,rfl⟩:=hor.resolve_left λh=>h.1 hq
  have hg:=(jd hq).1
  have hp:jP l n s=if bn (look (build l).1 n).mems s=[] then ([],5) else (bn (look (build l).1 n).mems s,0):=by unfold jP; rw [if_neg (λh=>h hq)]
  rw [hp]
  simp only [lC,lN]
  obtain ⟨fus,hfl,hfr⟩:=hm n
  obtain ⟨x1,x2,rfl,hx1,hx2⟩:=hfr
  have hna:=lQ (s:=s) hx1
  have hln:=JD (look (build l).1 n).mems s
  have hfw:=hg.few n
  generalize bn (look (build l).1 n).mems s=xs at hna hln ⊢
  refine cK<|xT<|cQ<|sV (vF Z gI Z)<|sV (vF Z iG Z)<|sV (vY Z oh) ?_
  refine sM Z<|sV (gG hfl<|bI Z Z nY kL slq) ?_
  refine sV (iP (k:=2) Z underlying55 Z isAgg52 Z)<|sV (af Z ic Z ah) ?_
  refine aH Z Z FK Z (hna) ?_
  rintro u h' ⟨T,rfl,how2,rfl⟩
  simp only [lC,lN]
  unfold NR
  refine sA Z<|sK [6,7,10] Z<|cS<|cS (fq (v:=u) (E:=9) (sz:=1) (rows:=xs.map nC) slq λwa wc hwf hwl hwm=>?_)
  rw [List.length_map] at hwf hwl
  subst hwf
  refine cR<|sM Z<|sV (aF Z underlying40)<|sV (dD Z Z)<|sK [6,7,10,31] Z<|cC Z (λhz=>?_)<|λhz=>?_
  ·have hz:xs=[]:=List.eq_nil_of_length_eq_zero Zn
   rw [if_pos hz]
   refine cQ<|sA Z<|sA Z<|sK [6,7] Z<|cT<|xR ?_
   exact aj Z ⟨Y,[],Z,hE,Z,_,Z,Ls.nil⟩ sbq
  ·have hz:xs≠[]:=λh=>by rw [h] at hz; simp at hz
   rw [if_neg hz]
   refine cK<|xT<|cQ<|sM Z<|sA Z<|sA Z<|sK [6,7] Z<|cT (dR (r:=VR (.slice wa xs.length wc) 9 1<|xs.map nC) slq λhok=>?_)
   refine iy [VR (.slice wa xs.length wc) 9 1 (xs.map nC)] Y λY2 hE2 hsel2=>?_
   exact aj Z ⟨Y2,[],Z,hE.trans hE2,Z,_,Z,nm_ls hok (hsel2 _ _ .here) (by show xs.length≤_; omega)⟩ sbq
end
end Go.Fl
namespace Go.Fl
open Go Go.RowKit Go.Ck Go.Proofs Go.Proofs.Tryz Go.Proofs.YtknmacdbffgjgaaGreatDoor Fx Go.Hr
theorem KT {X:Res}:Enc.rep X [sv [],.int .i64 0,.slice none 0 0,sv [],sv [],.slice none 0 0,.int .i64 0,sv [],.slice none 0 0,.bool false,.bool false,.slice none 0 0,.slice none 0 0,.slice none 0 0] mb0 :=
 qp (m:=mb0) ⟨Ls.nil,Ls.nil,⟨Row.nil,by simp [mb0,Kt.args]⟩,Ls.nil,Ls.nil,Ls.nil⟩
attribute [local irreducible] Go.Ck.Sub St Cd Xt Nx DrL LsW
section
variable {X:Res} {v:Value} {l:FS}
theorem HY (hX:Spc X) (hl:Ls X v l) (hS:iL l):dQ prog 13 #[v] X [] λu Y k'=>k'=[]/\∃ w:Value,u = .tuple #[w,.int .i64 (bY l).2]/\Ls Y w (bY l).1:=by
 have hml:maxLen=9223372036854775807:=rfl
 have hrb:reachBytes=140737488351232:=rfl
 obtain ⟨vAq,vK,rfl,_⟩:=id hl.form
 have hwh:=rO hX hl hS (nv:=.slice none 0 0) (ns:=[]) Ls.nil
 unfold dQ at hwh ⊢
 refine fQ (n:=35) func13 Z Z (len Z) λhr w0 hw0=>?_
 refine cQ<|sA Z<|sA Z<|sN<|nT<|cQ<|sM Z<|bL hw0 Z Z en54 Z (hwh) ?_
 rintro u h' ⟨Y,k',rfl,hE,v2,fv,ow,x,e,rfl,hv2,hfv,how,hor⟩
 simp only [lC,lN]
 unfold sI
 have h12:=iH (x:=x) (e:=e) hv2 hfv how
 refine sM Z<|sV (ag Z Z)<|sV (ag Z Z) (ax oz λb4=>?_)
 refine ai Z Z jk Z h12 ?_
 refine sA Z<|sK [2,3,4,5] Z<|cS<|cQ<|sM Z<|sV (bM Z Z)<|sK [2,3,4,5,15] Z<|cC Z (λhq=>?_)<|λhq=>?_
 ·have hq:wholeE l []≠0:=Zu
  obtain ⟨-,rfl⟩:=hor.resolve_right λh=>hq h.1
  have hp:bY l=([],wholeE l []):=by unfold bY; rw [if_pos hq]
  rw [hp]
  refine cQ<|sM Z<|sA Z<|sA Z<|sK [2,3] Z<|cT<|xR ?_
  exact aj Z ⟨Y,[],Z,hE,Z,_,Z,Ls.nil⟩ sbq
 ·have hq:wholeE l []=0:=Zu
  obtain ⟨-,mb,m,names,rfl,rfl,rfl,rfl,rfl,hm,rfl⟩:=hor.resolve_left λh=>h.1 hq
  have hg:=(jd hq).1
  have hol:=hg.ord_len
  rw [hg.flats2]
  simp only [lC,lN]
  generalize order (aO l)=names at hol ⊢
  clear hor hwh
  refine fq (v:=ow) (E:=9) (sz:=1) (rows:=names.map nC) slq λwa wc hwf hwl hwm=>?_
  rw [List.length_map] at hwf hwl
  subst hwf
  refine dJ (cO 55 4)<|cK<|xT<|cQ<|sA Z<|sK [2,3,4,6] Z<|cS<|cQ<|sV (vF Z yJ Z)<|sV (vY Z fG) ?_
  refine sV (aF Z underlying40)<|sM Z<|sK [2,3,4,6,18,19,20] Z<|cB<|aZ (σ := Value×List (List Value)×Res×Nat) (λq=>[(4,.pointer (some ⟨b4,0,none⟩)),(6,q.1),(18,.slice wa names.length wc),(19,.int .i64 names.length),(20,.int .i64 (q.2.2.2:Nat))]) (λq=>VR q.1 55 4 q.2.1::q.2.2.1::mps mb m::VR (.slice wa names.length wc) 9 1 (names.map nC)::pt b4 (cl [.slice vAq l.length vK,.map (some mb),.slice wa names.length wc,.int .i64 cf0.kind,sv cf0.cls,sv cf0.name,sv cf0.other,sv cf0.a.par,sv cf0.a.name,sv cf0.b.par,sv cf0.b.name,.int .i64 0] 116)::hr) (λq=>q.1.oneCell'=true/\Ext Y q.2.2.1/\q.2.2.2≤names.length/\Rws q.2.2.1 q.2.1 ((names.take q.2.2.2).map λn=>look (build l).1 n)) (λq=>names.length - q.2.2.2) (.slice none 0 0,[],Y,0) ⟨Z,Ext.refl Y,Nat.zero_le _,Rws.nil⟩ ?_
  rintro ⟨w,rows,Zq,i⟩ ⟨hw,hEZ,hi,hro⟩
  simp only at hw hEZ hi hro
  dsimp only
  refine cQ<|sV (aN Z Z)<|sN<|nT<|cS<|cC Z (λhd=>?_)<|λhd=>?_
  ·have hlt:i<names.length:=Zx
   have htk:=bV hlt
   have hrl:rows.length≤i:=by
    rw [hro.1,List.length_map,List.length_take]; exact Nat.min_le_left _ _
   have hnx:(names.map nC)[i]? = some [sv names[i]]:=by rw [List.getElem?_map,Zy hlt]; rfl
   refine fw (r:=VR (.slice wa names.length wc) 9 1<|names.map nC) slq λhok=>?_
   obtain ⟨ab,ao,rfl⟩:∃ ab ao,wa=some ⟨ab,ao,none⟩:=by
    obtain ⟨f0,hf0⟩:=hok
    rcases VR.form hf0 with ⟨h3,h4⟩ | ⟨b,o,cp,h3,-⟩
    ·have:=List.map_eq_nil_iff.1 h4
     rw [this] at hlt; simp at hlt
    ·rw [List.length_map] at h3; cases h3; exact ⟨b,o,rfl⟩
   generalize names[i]=n at hnx htk
   obtain ⟨fus,hfl,hfr⟩:=(hm.up hEZ) n
   have hcp:=wV hfr
   generalize hJ:look (build l).1 n=J at hcp
   refine cK<|xT<|cS<|cB<|cQ<|sV (vI (k:=i) Z Z jv Z hlt Z)<|sV (vY Z ld9 (ha:=⟨_,_,slq,dN hnx 0<|by simp⟩)) ?_
   refine sA Z<|sK [4,6,8,18,19,20] Z<|cR<|sM Z<|sV (vF Z gI Z)<|sV (vF Z iG Z)<|sV (vY Z oh) ?_
   refine sM Z<|sV (gG hfl<|bI Z Z nY kL slq) ?_
   refine aH Z Z en55 Z (hcp) ?_
   rintro u h' ⟨T,rfl,us,rfl,hre⟩
   simp only [lC,lN]
   refine kI [T] Zq λZ2 hE2 hsel2=>?_
   have hre:=Enc.up (hsel2 _ _ .here) hre
   have hone:=Enc.ones hre
   have hre0:=hre
   obtain ⟨x1,x2,rfl,hx1,hx2⟩:=hre
   refine ak (cells:=[sv J.name,.bool J.dfd,x1,x2]) Z underlying32 kL Z Z Zz (ltn Z) λb31=>?_
   refine dF [[sv J.name,.bool J.dfd,x1,x2]] Z Z underlying32 kL Z (by decide) (show Sel _ (VR w 55 4 rows) _ from slq) (by simp) Z (λj u2 hu2=>bQ<|bU Zt) Z0 (by omega) (by omega) (ltn Z) λw2 hw2 _=>?_
   refine sA Z<|sN<|nK [4,6,18,19,20] Z<|au<|xB<|xT<|cR<|sV (aI Z Z Z6)<|sM Z<|sN<|nK [4,6,18,19,20] Z<|au ?_
   refine aM (w2,rows++[[sv J.name,.bool J.dfd,x1,x2]],Z2,i+1) ⟨hw2,hEZ.trans hE2,hlt,by rw [htk,List.map_append]; exact (hro.up hE2).snoc (show Enc.rep Z2 _ (look (build l).1 n) from by rw [hJ]; exact hre0)⟩ (by show names.length - (i+1)<names.length - i; omega)
  ·have hie:i=names.length:=Nat.le_antisymm hi<|Nat.not_lt.1 Zx
   subst hie
   rw [List.take_length] at hro
   have hb:(names.map λn=>look (build l).1 n).length * Enc.by' Fl≤reachBytes:=by
    rw [List.length_map,hrb]; show names.length * 72≤_; omega
   refine aB<|xE<|xE<|xY<|xT<|cQ<|sM Z<|sA Z<|sA Z<|sK [2,3] Z<|cT (dR (r:=VR w 55 4 rows) slq λhok=>?_)
   refine iy [VR w 55 4 rows] Zq λY2 hE2 hsel2=>?_
   exact aj Z ⟨Y2,[],Z,(hE.trans hEZ).trans hE2,Z,_,Z,Rws.ls (E:=55) (hro.up hE2) hok (hsel2 _ _ .here) hb⟩ sbq

theorem Dv (hX : Spc X) (hl : Ls X v l) (hS : iL l) {mv : Value} {ds : List Nm} (hds : ds.length ≤ 1000) (hmv : mv.oneCell' = true) (c n : Nm) : dQ prog 97 #[v, sv c, sv n, mv] X [VR mv 9 1 (ds.map nC)] λu Y k' => ∃ v2 fv ow x e, ∃ us : List Value, u = .tuple #[.agg (sI v2 fv ow x e).toArray, .agg us.toArray, .int .i64 (bX l ds c n).2] /\ v2.oneCell' = true /\ fv.oneCell' = true /\ ow.oneCell' = true /\ Enc.rep Y us (bX l ds c n).1 /\
  (((bX l ds c n).2≠0/\k'=[])∨((bX l ds c n).2=0/\wholeE l (ds++[c])=0/\∃ mb m names,v2=v/\fv = .map (some mb)/\x=cf0/\e=0/\k'=[mps mb m,VR ow 9 1 (names.map nC)]/\FlR Y m (look (build l).1)/\names=order (aO l))):=by
 have hml:maxLen=9223372036854775807:=rfl
 obtain ⟨vAq,vK,rfl,_⟩:=id hl.form
 unfold dQ
 refine fQ (n:=46) func97 Z Z (len Z) λhr w0 hw0=>?_
 refine cQ (ax oz λb8=>?_)
 refine ax jY λb9=>?_
 refine sA Z<|sN<|nT<|cQ<|sM Z<|sM Z<|sM Z (ak (cells:=[sv c]) Z underlying40 gm Z Z Zz (ltn Z) λb19=>?_)
 have hdl:(ds.map nC).length≤1000:=by rw [List.length_map]; exact hds
 refine dF [[sv c]] Z Z underlying40 gm Z (by decide) (show Sel _ (VR mv 9 1<|ds.map nC) _ from slq) (by simp) Z (λj u2 hu2=>bQ<|bU Zt) (by simp [sv,Value.oneCell']) (by omega) (by omega) (ltn Z) λw2 hw2 _=>?_
 rw [show ds.map nC++[[sv c]]=(ds++[c]).map nC by rw [List.map_append]; rfl]
 refine lM (r:=VR w2 9 1<|(ds++[c]).map nC) slq λhok=>?_
 refine kI [VR w2 9 1 ((ds++[c]).map nC)] X λY0 hE0 hsel=>?_
 have hwh:=rO (hX.up hE0) (hl.up hE0) hS<|nm_ls hok (hsel _ _ .here) (by rw [List.length_append]; show ds.length+1≤_; omega)
 unfold dQ at hwh
 refine bL hw0 Z Z en54 Z (hwh) ?_
 rintro u h' ⟨Y,k',rfl,hE,v2,fv,ow,x,e,rfl,hv2,hfv,how,hor⟩
 simp only [lC,lN]
 unfold sI
 have h12:=iH (x:=x) (e:=e) hv2 hfv how
 replace hE:=hE0.trans hE
 refine sM Z<|sV (ag Z Z)<|sV (ag Z Z) (ax oz λb11=>?_)
 refine ai Z Z jk Z h12 ?_
 refine sA Z<|sK [1,2,8,9,10,11,12] Z<|cS<|cQ<|sM Z<|sV (bM Z Z)<|sK [1,2,8,9,10,11,12,25] Z<|cC Z (λhq=>?_)<|λhq=>?_
 ·have hq:wholeE l (ds++[c])≠0:=Zu
  obtain ⟨-,rfl⟩:=hor.resolve_right λh=>hq h.1
  have hp:bX l ds c n=(mb0,wholeE l (ds++[c])):=by unfold bX; rw [if_pos hq]
  rw [hp]
  refine cQ<|sV (aQ (cells:=[.slice none 0 0,.map none,.slice none 0 0,.int .i64 0,sv [],sv [],sv [],sv [],sv [],sv [],sv [],.int .i64 0]) Z<|λ_=>Zz) ?_
  refine sV (aQ (cells:=[sv [],.int .i64 0,.slice none 0 0,sv [],sv [],.slice none 0 0,.int .i64 0,sv [],.slice none 0 0,.bool false,.bool false,.slice none 0 0,.slice none 0 0,.slice none 0 0]) Z<|λ_=>Zz) ?_
  refine sM Z<|ai Z Z jk Z Z ?_
  refine ai Z Z iO Z Z ?_
  refine sA Z<|sK [8,9,10] Z<|cT<|xR ?_
  exact bF (.cellN Z lK Z slq<|.cellN Z fB Z slq<|.tmp Z .nil) ⟨Y,[],Z,hE,.slice none 0 0,.map none,.slice none 0 0,cf0,0,[sv [],.int .i64 0,.slice none 0 0,sv [],sv [],.slice none 0 0,.int .i64 0,sv [],.slice none 0 0,.bool false,.bool false,.slice none 0 0,.slice none 0 0,.slice none 0 0],Z,Z,Z,Z,KT,.inl ⟨hq,Z⟩⟩ sbr
 ·have hq:wholeE l (ds++[c])=0:=Zu
  obtain ⟨-,mb,m,names,rfl,rfl,rfl,rfl,rfl,hm,rfl⟩:=hor.resolve_left λh=>h.1 hq
  have hg:=(jd hq).1
  have hp:bX l ds c n=match dZ (look (build l).1 c).mems n with
   | some m=>(m,0)
   | none=>(mb0,4):=by unfold bX; rw [if_neg (λh=>h hq)]; rfl
  rw [hp]
  simp only [lC,lN]
  obtain ⟨fus,hfl,hfr⟩:=hm c
  obtain ⟨z1,z2,rfl,hz1,hz2⟩:=hfr
  have hfi:=ut (n:=n) hz1
  rw [show ((look (build l).1 c).mems.find? λc=>c.name == n)=dZ (look (build l).1 c).mems n from rfl] at hfi
  generalize dZ (look (build l).1 c).mems n=F at hfi ⊢
  clear hor
  refine cK<|xT<|cQ<|sV (vF Z gI Z)<|sV (vF Z iG Z)<|sV (vY Z oh) ?_
  refine sM Z<|sV (gG hfl<|bI Z Z nY kL slq) ?_
  refine sV (iP (k:=2) Z underlying55 Z isAgg52 Z)<|sM Z<|aH Z Z en169 Z (hfi) ?_
  rintro u h' ⟨rfl,us,rfl,hre⟩
  simp only [lC,lN]
  have hone:=Enc.ones hre
  have hre0:=hre
  generalize hJ:F.getD mb0=J at hre hre0
  obtain ⟨x2,x5,y,x11,x12,x13,rfl,-⟩:=dI hre
  unfold iB at *
  refine sM Z<|sV (ag Z Z)<|sV (ag Z Z) (ax jY λb13=>?_)
  refine ai Z Z iO Z hone ?_
  refine sA Z<|sK [8,9,10,11,13,14] Z<|cS<|cQ<|sM Z<|sV (bi Z)<|sK [8,9,10,11,13,41] Z ?_
  cases F with
  | none =>
   refine aT Z ?_
   refine cQ<|sV (aQ (cells:=[.slice none 0 0,.map none,.slice none 0 0,.int .i64 0,sv [],sv [],sv [],sv [],sv [],sv [],sv [],.int .i64 0]) Z<|λ_=>Zz) ?_
   refine sV (aQ (cells:=[sv [],.int .i64 0,.slice none 0 0,sv [],sv [],.slice none 0 0,.int .i64 0,sv [],.slice none 0 0,.bool false,.bool false,.slice none 0 0,.slice none 0 0,.slice none 0 0]) Z<|λ_=>Zz) ?_
   refine ai Z Z jk Z Z ?_
   refine ai Z Z iO Z Z ?_
   refine sA Z<|sK [8,9,10] Z<|cT<|xR ?_
   exact bF (.cellN Z lK Z slq<|.cellN Z fB Z slq<|.tmp Z .nil) ⟨Y,[],Z,hE,.slice none 0 0,.map none,.slice none 0 0,cf0,0,[sv [],.int .i64 0,.slice none 0 0,sv [],sv [],.slice none 0 0,.int .i64 0,sv [],.slice none 0 0,.bool false,.bool false,.slice none 0 0,.slice none 0 0,.slice none 0 0],Z,Z,Z,Z,KT,.inl ⟨by show (4:Int)≠0; decide,Z⟩⟩ sbr
  | some g =>
   have hJ:g=J:=hJ
   subst hJ
   refine aG Z ?_
   refine cK<|xT<|cS<|iR (ork [(0,1),(1,1),(2,0),(3,0),(4,2)] .nil) (λi => !(Nat.beq i 3)) [pt b11 (cl [.slice vAq l.length vK,.map (some mb),ow,.int .i64 cf0.kind,sv cf0.cls,sv cf0.name,sv cf0.other,sv cf0.a.par,sv cf0.a.name,sv cf0.b.par,sv cf0.b.name,.int .i64 0] 116),pt b13 (cl [sv g.name,.int .i64 g.kind,x2,sv g.impl.cls,sv g.impl.name,x5,.int .i64 g.ty.kind,sv g.ty.name,y,.bool g.ty.void,.bool g.ty.sep,x11,x12,x13] 75)] mixed Zz ?_
   refine bg Z (af Z lK Z ah) ?_
   refine bg Z (af Z fB Z ah) ?_
   refine aP Z<|ai Z Z jk Z h12 ?_
   refine aX ?_
   refine aP Z<|ai Z Z iO Z hone<|aX ?_
   refine dV Z (vA Z)<|bA<|nK [8,9,10] Z<|nT<|cT ?_
   exact bF (.cellN Z lK Z slq<|.cellN Z fB Z slq<|.tmp Z .nil) ⟨Y,[mps mb m,VR ow 9 1 (List.map nC<|order<|aO l)],Z,hE,.slice vAq l.length vK,.map (some mb),ow,cf0,0,_,Z,Z,Z,how,hre0,.inr ⟨Z,hq,mb,m,_,Z,Z,Z,Z,Z,hm,Z⟩⟩ sbr

end
end Go.Fl
namespace Go.Fl
open Go Go.RowKit Go.Ck Go.Proofs Go.Proofs.Tryz Go.Proofs.YtknmacdbffgjgaaGreatDoor Fx Go.Hr
theorem Good.fits {l:FS} (h:Good l) (hS:iL l):Fits l (Fl.look (Fl.build l).1):=⟨h.right,h.flb,hS⟩
def ogC (o:Og):List Value:=[sv o.par,sv o.name]
def ogr (b:Bool) (n:Nm):List Og:=if b=true then [⟨[],n⟩] else []
theorem rws_og {Y:Res} (xs:List Og):Rws Y (xs.map ogC) xs:=⟨by simp,λj us x h1 h2=>by
 rw [List.getElem?_map,h2] at h1
 cases h1; rfl⟩
attribute [local irreducible] Go.Ck.Sub St Cd Xt Nx DrL LsW
section
variable {X:Res} {v:Value} {l:FS}
theorem JE (hX:Spc X) (hl:Ls X v l) (hS:iL l) (c n:Nm):dQ prog 50 #[v,sv c,sv n] X [] λu Y k'=>k'=[]/\∃ w:Value,u = .tuple #[w,.int .i64 (oriP l c n).2]/\Ls Y w (oriP l c n).1:=by
 have hml:maxLen=9223372036854775807:=rfl
 have hrb:reachBytes=140737488351232:=rfl
 obtain ⟨vAq,vK,rfl,_⟩:=id hl.form
 have hme:=Dv hX hl hS (mv:=.slice none 0 0) (ds:=[]) (by decide) rfl c n
 unfold dQ at hme ⊢
 refine fQ (n:=63) func50 Z Z (len Z) λhr w0 hw0=>?_
 refine cQ<|sA Z<|sA Z<|sN<|nT<|cS<|dJ (cO 9 1)<|cR<|sM Z<|sM Z<|sM Z<|bL hw0 Z Z en97 Z (hme) ?_
 rintro u h' ⟨Y,k',rfl,hE,v2,fv,ow,x,e0,us,rfl,hv2,hfv,how,hre,hor⟩
 simp only [lC,lN]
 unfold sI
 have h12:=iH (x:=x) (e:=e0) hv2 hfv how
 have hone:=Enc.ones hre
 have hre0:=hre
 generalize (bX l [] c n).1=J at hre hre0
 obtain ⟨x2,x5,y,x11,x12,x13,rfl,-⟩:=dI hre
 unfold iB at *
 refine sM Z<|sV (ag Z Z)<|sV (ag Z Z)<|sV (ag Z Z) (ax oz λb8=>?_)
 refine ax jY λb9=>?_
 refine ai Z Z jk Z h12 ?_
 refine ai Z Z iO Z hone ?_
 refine sA Z<|sK [1,2,6,7,8,10] Z<|cS<|cQ<|sM Z<|sV (bM Z Z)<|sK [1,2,6,7,8,10,26] Z<|cC Z (λhq=>?_)<|λhq=>?_
 ·have hq:(bX l [] c n).2≠0:=Zu
  obtain ⟨-,rfl⟩:=hor.resolve_right λh=>hq h.1
  have hp:oriP l c n=([],(bX l [] c n).2):=by unfold oriP; rw [if_pos hq]
  rw [hp]
  refine cQ<|sM Z<|sA Z<|sA Z<|sK [6,7] Z<|cT<|xR ?_
  exact aj Z ⟨Y,[],Z,hE,Z,_,Z,Ls.nil⟩ sbq
 ·have hq:(bX l [] c n).2=0:=Zu
  have hp:oriP l c n=(ogr (feat (ae l c) n).isSome n++(under (comes (look (build l).1) l<|ae l c) n).map (λx=>x.og),0):=by unfold oriP; rw [if_neg (λh=>h hq)]; rfl
  rw [hp]
  obtain ⟨-,hwq,mb,m,names,rfl,rfl,rfl,rfl,rfl,hm,rfl⟩:=hor.resolve_left λh=>h.1 hq
  simp only [lC,lN]
  obtain ⟨hg,hcs⟩:=jd hwq
  have hcl:=(hg.class<|hcs c<|by simp).2.2
  have hF:=hg.fits hS
  have hfew:=hF.few<|.inl hcl
  have hcc:=lY (n:=c) (fv:=.map<|some mb) (hl.up hE) rfl
  have hun:(under (comes (look (build l).1) l<|ae l c) n).length≤(comes (look (build l).1) l<|ae l c).length:=List.length_filter_le _ _
  have hby:=λ(cus:List Value) (hcr:Enc.rep Y cus (ae l c))=>xh (mb:=mb) (hl.up hE) hcr hm (hF.hf<|.inl hcl)<|by omega
  unfold CtX at hby
  clear hor hme
  refine cK<|xT<|cQ<|sA Z<|sK [1,2,6,7,8,11] Z<|cQ<|sV (vF Z gI Z)<|sV (af Z ig Z<|bD (k:=0) ah (vs:=[.slice vAq l.length vK,.map (some mb)]) Z) ?_
  refine sM Z<|aH Z Z en56 Z (hcc) ?_
  rintro u h' ⟨rfl,cus,rfl,hcr⟩
  simp only [lC,lN]
  have hby:=hby cus hcr
  have hco:=Enc.ones hcr
  obtain ⟨ca,cb,ce,cf,ci,rfl,hca,hcb,hce,hcf,hci⟩:=gB hcr
  refine ax oq λb12=>?_
  refine ai Z Z kW Z hco ?_
  refine sK [2,6,7,8,11,12] Z<|cS<|cQ<|sV (vF Z kG Z)<|sV (vY Z yu) ?_
  refine sM Z ?_
  have hfi:=ja (n:=n) hcf
  rw [show ((ae l c).feats.find? λf=>f.name == n)=feat (ae l c) n from rfl] at hfi
  refine aH Z Z xL Z (hfi) ?_
  rintro u h' ⟨rfl,fus,rfl,hfr⟩
  simp only [lC,lN]
  have hfo:=Enc.ones hfr
  generalize (feat (ae l c) n).getD fe0=F at hfr
  obtain ⟨f2,f3,fy,f9,f10,f11,f12,f13,f14,rfl,-⟩:=nz hfr
  unfold Az at *
  refine sM Z<|sV (ag Z Z)<|sV (ag Z Z) (ax lL λb13=>?_)
  refine ai Z Z jW Z hfo ?_
  refine sA Z<|sK [2,6,7,8,11,12,14] Z<|cQ<|sM Z<|sK [2,6,7,8,11,12,39] Z ?_
  generalize (feat (ae l c) n).isSome=b
  have hb31:(ogr b n).length≤1:=by unfold ogr; split <;> simp
  refine dJ (cO 24 2)<|kY (ex:=.normal) (α := {q:Value // q.oneCell'=true}) (λq=>[(2,sv n),(8,.pointer (some ⟨b8,0,none⟩)),(11,q.1),(12,.pointer (some ⟨b12,0,none⟩))]) (λq=>VR q.1 24 2 ((ogr b n).map ogC)::pt b12 (cl [sv (ae l c).name,.bool (ae l c).dfd,ca,cb,ce,cf,ci] 44)::pt b8 (cl [.slice vAq l.length vK,.map (some mb),ow,.int .i64 cf0.kind,sv cf0.cls,sv cf0.name,sv cf0.other,sv cf0.a.par,sv cf0.a.name,sv cf0.b.par,sv cf0.b.name,.int .i64 0] 116)::Y::mps mb m::hr) (λhcont=>?_)<|λq=>?_
  ·cases b with
   | true =>
    refine aT Z ?_
    refine cR<|sM Z<|sM Z<|sV (aQ (cells:=[sv [],sv n]) Z<|λ_=>Zz) ?_
    refine ak (cells:=[sv [],sv n]) Z underlying104 J5 Z Z Zz (ltn Z) λb43=>?_
    refine dF [[sv [],sv n]] Z Z underlying104 J5 Z (by decide) (show Sel _ (VR (.slice none 0 0) 24 2 []) _ from slq) (by simp) Z (λj u2 hu2=>bQ<|bU Zt) (by simp [sv,Value.oneCell']) (by simp) (by simp) (ltn Z) λw2 hw2 _=>?_
    refine sA Z<|sN<|nK [2,6,7,8,11,12] Z<|au ?_
    exact hcont ⟨w2,hw2⟩ _ _ ⟨Z,Z,Z,Z,trivial⟩ sbq
   | false =>
    refine aG Z ?_
    refine cK ?_
    exact hcont ⟨.slice none 0 0,Z⟩ _ _ ⟨Z,Z,Z,Z,trivial⟩ sbq
  obtain ⟨w0q,hw0q⟩:=q
  dsimp only
  refine xT<|cS<|cQ<|sV (vF Z gI Z)<|sV (af Z ig Z<|bD (k:=0) ah (vs:=[.slice vAq l.length vK,.map (some mb)]) Z) ?_
  refine sV (af Z gp Z ah) ?_
  refine aH Z Z Ki Z (hby) ?_
  rintro u h' ⟨Y2,k2,rfl,hE2,bm,E,rfl,rfl,hbk⟩
  simp only [lC,lN]
  refine lM (r:=BN E) slq λhokE=>?_
  refine kI [BN E] Y2 λY3 hE3 hsel=>?_
  have hls:=KN hbk hE3 hokE (hsel _ _ .here)<|by omega
  have hlk:=y7 hbk.1 hls n
  obtain ⟨qa,qk,hqv,_⟩:=id hlk.form
  rw [hqv] at hlk
  generalize under (comes (look (build l).1) l<|ae l c) n=L at hun hlk hqv ⊢
  refine sM Z<|sV (gG hqv<|bI Z Z sQ tL slq) ?_
  refine sV (aF Z underlying187)<|sM Z<|sK [11,50,51,52] Z<|cB ?_
  rw [show (ogr b n).map ogC=(ogr b n++(L.take 0).map (λx=>x.og)).map ogC by simp]
  refine aZ (σ := Value×Nat) (λq=>[(11,q.1),(50,.slice qa L.length qk),(51,.int .i64 L.length),(52,.int .i64 (q.2:Nat))]) (λq=>VR q.1 24 2 ((ogr b n++(L.take q.2).map (λx=>x.og)).map ogC)::Y3::hr) (λq=>q.1.oneCell'=true/\q.2≤L.length) (λq=>L.length - q.2) (w0q,0) ⟨hw0q,Nat.zero_le _⟩ ?_
  rintro ⟨w,i⟩ ⟨hw,hi⟩
  simp only at hw hi
  dsimp only
  refine cQ<|sV (aN Z Z)<|sN<|nT<|cS<|cC Z (λhd=>?_)<|λhd=>?_
  ·have hlt:i<L.length:=Zx
   have htk:=bV hlt
   have hrl:((ogr b n++(L.take i).map (λx=>x.og)).map ogC).length≤1+i:=by
    rw [List.length_map,List.length_append,List.length_map,List.length_take]; omega
   obtain ⟨fb,fo,fcap,fus,e1,hfus,hfrd,hfr⟩:=hlk.at<|Zy hlt
   obtain ⟨rfl,rfl⟩:qa=some ⟨fb,fo,none⟩/\qk=fcap:=by cases e1; exact ⟨rfl,rfl⟩
   generalize L[i]=xc at hfr htk
   have hfo2:=Enc.ones hfr
   obtain ⟨c2,c5,cy,c11,c12,c13,rfl,-⟩:=iC hfr
   have hog:∀ b,Rds (pt b<|cl (oJ xc c2 c5 cy c11 c12 c13) 191) b (0+0) [sv xc.og.par,sv xc.og.name]:=λb=>nD
   unfold oJ at *
   refine cK<|xT<|cS<|cB<|cQ<|sV (vI (k:=i) Z Z lJ Z hlt Z)<|sV (af Z ik Z hfrd) ?_
   refine ax qY λb16=>?_
   refine ai Z Z mH Z hfo2 ?_
   refine sK [11,16,50,51,52] Z<|cR<|sM Z<|sV (vF Z jA Z)<|sV (af Z qz Z<|hog b16) ?_
   refine ak (cells:=[sv xc.og.par,sv xc.og.name]) Z underlying104 J5 Z Z Zz (ltn Z) λb59=>?_
   refine dF [[sv xc.og.par,sv xc.og.name]] Z Z underlying104 J5 Z (by decide) (show Sel _ (VR w 24 2<|(ogr b n++(L.take i).map (λx=>x.og)).map ogC) _ from slq) (by simp) Z (λj u2 hu2=>bQ<|bU Zt) (by simp [sv,Value.oneCell']) (by omega) (by omega) (ltn Z) λw2 hw2 _=>?_
   refine sA Z<|sN<|nK [11,50,51,52] Z<|au<|xB<|xT<|cR<|sV (aI Z Z Z6)<|sM Z<|sN<|nK [11,50,51,52] Z<|au ?_
   rw [show (ogr b n++(L.take i).map (λx=>x.og)).map ogC++[[sv xc.og.par,sv xc.og.name]]=(ogr b n++(L.take (i+1)).map (λx=>x.og)).map ogC by rw [htk]; simp [ogC]]
   refine aM (w2,i+1) ⟨hw2,hlt⟩ (by show L.length - (i+1)<L.length - i; omega)
  ·have hie:i=L.length:=Nat.le_antisymm hi<|Nat.not_lt.1 Zx
   subst hie
   rw [List.take_length]
   have hbl:(ogr b n++L.map (λx=>x.og)).length * Enc.by' Og≤reachBytes:=by
    rw [List.length_append,List.length_map,hrb]; show _ * 32≤_; omega
   refine aB<|xE<|xE<|xY<|xT<|cQ<|sM Z<|sA Z<|sA Z<|sK [6,7] Z<|cT (dR (r:=VR w 24 2<|(ogr b n++L.map (λx=>x.og)).map ogC) slq λhok=>?_)
   refine iy [VR w 24 2 ((ogr b n++L.map (λx=>x.og)).map ogC)] Y3 λY4 hE4 hsel4=>?_
   exact aj Z ⟨Y4,[],Z,((hE.trans hE2).trans hE3).trans hE4,Z,_,Z,Rws.ls (E:=24) (rws_og _) hok (hsel4 _ _ .here) hbl⟩ sbq
end
end Go.Fl
namespace Go.Fl
open Go Go.RowKit Go.Ck Go.Proofs Go.Proofs.Tryz Go.Proofs.YtknmacdbffgjgaaGreatDoor Fx Go.Hr
theorem Mj {ms:List Mb} {i:Nat} (h:i<ms.length) (ss:List Sd):uj (ms.take (i+1)) ss=uj (ms.take i) ss++if (ss.all λs=>ms[i].seeds.contains s)=true then [ms[i].name] else []:=by
 unfold uj
 rw [bV h,List.filter_append,List.map_append]
 congr 1
 by_cases hq:(ss.all λs=>ms[i].seeds.contains s)=true
 ·rw [if_pos hq,List.filter_cons,if_pos hq]; rfl
 ·rw [if_neg hq,List.filter_cons,if_neg hq]; rfl
theorem HZ (ms:List Mb) (ss:List Sd):(uj ms ss).length≤ms.length:=by
 unfold uj; rw [List.length_map]; exact List.length_filter_le _ _
attribute [local irreducible] Go.Ck.Sub St Cd Xt Nx DrL LsW
section
variable {X:Res} {v:Value} {l:FS}
theorem JF (hX:Spc X) (hl:Ls X v l) (hS:iL l) (d c n:Nm):dQ prog 29 #[v,sv d,sv c,sv n] X [] λu Y k'=>k'=[]/\u = .tuple #[sv (vR l d c n).1,.int .i64 (vR l d c n).2]:=by
 have hml:maxLen=9223372036854775807:=rfl
 have hrb:reachBytes=140737488351232:=rfl
 obtain ⟨vAq,vK,rfl,_⟩:=id hl.form
 have hme:=λb=>Dv hX hl hS (mv:=.slice (some ⟨b,0,none⟩) 1 1) (ds:=[d]) (by simp) rfl c n
 have hrk:rk (aO l) d≤l.length:=by
  have:=qF (aO l) d
  rwa [eO] at this
 simp only [List.map_cons,List.map_nil,nC] at hme
 unfold dQ at hme ⊢
 refine fQ (n:=105) func29 Z Z (len Z) λhr w0 hw0=>?_
 refine cQ<|sA Z<|sA Z<|sN<|nT<|FB<|cQ<|sM Z<|sM Z<|sM Z<|sM Z (ak (cells:=[sv d]) Z underlying40 gm Z Z Zz (ltn Z) λb28=>?_)
 refine zV (zW (b:=b28) (n:=1) (sz:=1) (E:=9) [[sv d]] Z (by simp) Z<|by decide) ?_
 simp only [lC,lN]
 refine bL hw0 Z Z en97 Z ((hme b28)) ?_
 rintro u h' ⟨Y,k',rfl,hE,v2,fv,ow,x,e0,us,rfl,hv2,hfv,how,hre,hor⟩
 simp only [lC,lN]
 unfold sI
 have h12:=iH (x:=x) (e:=e0) hv2 hfv how
 have hone:=Enc.ones hre
 have hme2:(bX l [d] c n).2=0->Good l/\(bE l d).isSome=true/\(bE l c).isSome=true/\(bX l [d] c n).1∈msF l c:=λhz=>by
  have hwz:wholeE l ([d]++[c])=0:=Classical.not_not.1 λh=>by
   unfold bX at hz
   rw [if_pos h] at hz
   exact h hz
  obtain ⟨hg,hcs⟩:=jd hwz
  have hd:=hcs d<|by simp
  have hc:=hcs c<|by simp
  have hmb:=hg.member (ns:=[d]) (n:=n) Zx hc
  refine ⟨hg,hd,hc,?_⟩
  rw [hmb] at hz ⊢
  cases hm:dZ (msF l c) n with
  | none=>rw [hm] at hz; cases hz
  | some m=>exact (IC hm).1
 have hver:vR l d c n=if (bX l [d] c n).2≠0 then ([],(bX l [d] c n).2) else if has (aO l) d c=false then ([],5) else
   match uj (look (build l).1 d).mems (bX l [d] c n).1.seeds with
   | []=>([],5)
   | [a]=>(a,0)
   | a::b::t=>if (a::b::t).contains (selOf l d ((bX l [d] c n).1.seeds.headD ⟨[],[]⟩)).1 then ((selOf l d ((bX l [d] c n).1.seeds.headD ⟨[],[]⟩)).1,0) else ([],5):=rfl
 rw [hver]
 clear hver
 generalize (bX l [d] c n).1=J at hre hme2 ⊢
 generalize (bX l [d] c n).2=e at hre hme2 hor ⊢
 obtain ⟨x2,x5,y,x11,x12,x13,rfl,hx2,-⟩:=dI hre
 obtain ⟨sAq,sKq,rfl,_⟩:=id hx2.form
 unfold iB at *
 refine sM Z<|sV (ag Z Z)<|sV (ag Z Z)<|sV (ag Z Z) (ax oz λb10=>?_)
 refine ax jY λb11=>?_
 refine ai Z Z jk Z h12 ?_
 refine ai Z Z iO Z hone ?_
 refine sA Z<|sK [0,1,2,8,9,10,11,12] Z<|cS<|cQ<|sM Z<|sV (bM Z Z)<|sK [0,1,2,8,9,10,11,12,34] Z<|cC Z (λhq=>?_)<|λhq=>?_
 ·have hq:e≠0:=Zu
  obtain ⟨-,rfl⟩:=hor.resolve_right λh=>hq h.1
  rw [if_pos hq]
  refine cQ<|sM Z<|sA Z<|sA Z<|sK [8,9] Z<|cT<|xR<|fF ?_
  exact aj Z ⟨Y,[],Z,hE,Z,Z⟩ sbq
 ·have hq:e=0:=Zu
  obtain ⟨hg,hds,hcs,hmem⟩:=hme2 hq
  obtain ⟨-,hwq,mb,m,names,rfl,rfl,rfl,rfl,rfl,hm,rfl⟩:=hor.resolve_left λh=>h.1 hq
  rw [if_neg (λh=>h hq)]
  have hsne:=hg.seeds_ne c hcs J hmem
  have his:=Is_ct (wP<|hl.up hE) d c
  rw [show dP (aO l) [d,c]=0 from eX.2 ⟨hg.sys,λk hk=>by
   simp only [List.mem_cons,List.mem_nil_iff,or_false] at hk
   rcases hk with rfl | rfl
   ·rw [bS]; exact hds
   ·rw [bS]; exact hcs⟩] at his
  simp only [decide_true,Bool.true_and] at his
  generalize has (aO l) d c=hs at his ⊢
  clear hor hme hme2
  simp only [lC,lN]
  refine cK<|xT<|cS<|cQ<|sM Z<|sM Z<|sM Z<|aH Z Z en27 Z (his) ?_
  rintro u h' ⟨rfl,rfl⟩
  simp only [lC,lN]
  refine sM Z<|sV (ag Z Z)<|sV (ag Z Z)<|sA Z<|sA Z<|sK [1,8,9,10,11,13] Z<|cQ<|sM Z<|sV (bi Z)<|sK [1,8,9,10,11,44] Z ?_
  cases hs with
  | false =>
   rw [if_pos rfl]
   refine aT Z ?_
   refine cQ<|sA Z<|sA Z<|sK [8,9] Z<|cT<|xR<|fF ?_
   exact aj Z ⟨Y,[],Z,hE,Z,Z⟩ sbq
  | true =>
   rw [if_neg (by decide)]
   refine aG Z ?_
   refine cK<|xT<|cQ<|sA Z<|sK [1,8,9,10,11,15] Z<|cQ<|sV (vF Z gI Z)<|sV (vF Z iG Z)<|sV (vY Z oh) ?_
   refine sM Z ?_
   obtain ⟨fus,hfl,hfr⟩:=hm d
   obtain ⟨z1,z2,rfl,hz1,hz2⟩:=hfr
   obtain ⟨mA,mK,rfl,_⟩:=id hz1.form
   have hmf:=hg.few d
   refine sV (gG hfl<|bI Z Z nY kL slq) ?_
   refine sV (iP (k:=2) Z underlying55 Z isAgg52 Z)<|sA Z<|sK [1,8,9,10,11,15,16] Z<|cS<|Fv<|xT<|cS<|cS<|dJ (cO 9 1) ?_
   unfold selOf
   have hih:=λ(cus:List Value) (hcr:Enc.rep Y cus (ae l d)) (s:Sd)=>xZ (mb:=mb) (hg.fits hS) l.length Y (ae l d) d cus (.slice mA (look (build l).1 d).mems.length mK) (look (build l).1 d).mems s rfl hrk (hl.up hE) hcr hm hz1
   unfold dQ at hih
   have hcc:=lY (n:=d) (fv:=.map<|some mb) (hl.up hE) rfl
   generalize (look (build l).1 d).mems=ms at hz1 hmf hih ⊢
   have hvl:=HZ ms J.seeds
   refine cR<|sM Z<|sV (aF Z underlying52)<|sM Z<|sN<|nT<|cB<|aZ (σ := Value×Nat) (λq=>[(1,sv d),(10,.pointer (some ⟨b10,0,none⟩)),(11,.pointer (some ⟨b11,0,none⟩)),(15,q.1),(16,.slice mA ms.length mK),(51,.slice mA ms.length mK),(52,.int .i64 ms.length),(53,.int .i64 (q.2:Nat))]) (λq=>VR q.1 9 1 ((uj (ms.take q.2) J.seeds).map nC)::pt b11 (cl [sv J.name,.int .i64 J.kind,.slice sAq J.seeds.length sKq,sv J.impl.cls,sv J.impl.name,x5,.int .i64 J.ty.kind,sv J.ty.name,y,.bool J.ty.void,.bool J.ty.sep,x11,x12,x13] 75)::pt b10 (cl [.slice vAq l.length vK,.map (some mb),ow,.int .i64 cf0.kind,sv cf0.cls,sv cf0.name,sv cf0.other,sv cf0.a.par,sv cf0.a.name,sv cf0.b.par,sv cf0.b.name,.int .i64 0] 116)::Y::mps mb m::hr) (λq=>q.1.oneCell'=true/\q.2≤ms.length) (λq=>ms.length - q.2) (.slice none 0 0,0) ⟨Z,Nat.zero_le _⟩ ?_
   rintro ⟨w,i⟩ ⟨hw,hi⟩
   simp only at hw hi
   dsimp only
   refine cQ<|sV (aN Z Z)<|sN<|nT<|cS<|cC Z (λhd=>?_)<|λhd=>?_
   ·have hlt:i<ms.length:=Zx
    have hsn:=Mj hlt J.seeds
    have hvl2:=HZ (ms.take i) J.seeds
    rw [List.length_take] at hvl2
    obtain ⟨fb,fo,fcap,fus,e1,hfus,hfrd,hfr⟩:=hz1.at<|Zy hlt
    obtain ⟨rfl,rfl⟩:mA=some ⟨fb,fo,none⟩/\mK=fcap:=by cases e1; exact ⟨rfl,rfl⟩
    generalize ms[i]=xm at hfr hsn
    have hfo:=Enc.ones hfr
    obtain ⟨m2,m5,my,m11,m12,m13,rfl,hm2,-⟩:=dI hfr
    obtain ⟨m2A,m2K,rfl,_⟩:=id hm2.form
    unfold iB at *
    refine cK<|xT<|cS<|cB<|cQ<|sV (vI (k:=i) Z Z nU Z hlt Z)<|sV (af Z fB Z hfrd) ?_
    refine ax jY λb18=>?_
    refine ai Z Z iO Z hfo ?_
    refine sK [1,10,11,15,16,18,51,52,53] Z<|cS<|cQ<|sV (vF Z eF Z)<|sV (vY Z oZ) ?_
    refine sV (aF Z underlying67)<|sM Z<|sK [1,10,11,15,16,18,51,52,53,58,59,60] Z<|cB<|aZ (σ := Nat) (λj=>[(1,sv d),(10,.pointer (some ⟨b10,0,none⟩)),(11,.pointer (some ⟨b11,0,none⟩)),(15,w),(16,.slice (some ⟨fb,fo,none⟩) ms.length mK),(18,.pointer (some ⟨b18,0,none⟩)),(51,.slice (some ⟨fb,fo,none⟩) ms.length mK),(52,.int .i64 ms.length),(53,.int .i64 (i:Nat)),(58,.slice sAq J.seeds.length sKq),(59,.int .i64 J.seeds.length),(60,.int .i64 (j:Nat))]) (λ_=>pt b18 (cl [sv xm.name,.int .i64 xm.kind,.slice m2A xm.seeds.length m2K,sv xm.impl.cls,sv xm.impl.name,m5,.int .i64 xm.ty.kind,sv xm.ty.name,my,.bool xm.ty.void,.bool xm.ty.sep,m11,m12,m13] 75)::VR w 9 1 ((uj (ms.take i) J.seeds).map nC)::pt b11 (cl [sv J.name,.int .i64 J.kind,.slice sAq J.seeds.length sKq,sv J.impl.cls,sv J.impl.name,x5,.int .i64 J.ty.kind,sv J.ty.name,y,.bool J.ty.void,.bool J.ty.sep,x11,x12,x13] 75)::pt b10 (cl [.slice vAq l.length vK,.map (some mb),ow,.int .i64 cf0.kind,sv cf0.cls,sv cf0.name,sv cf0.other,sv cf0.a.par,sv cf0.a.name,sv cf0.b.par,sv cf0.b.name,.int .i64 0] 116)::Y::mps mb m::hr) (λj=>j≤J.seeds.length/\∀ k (hk:k<J.seeds.length),k<j->xm.seeds.contains J.seeds[k]=true) (λj=>J.seeds.length - j) 0 ⟨Nat.zero_le _,λk _ hk=>absurd hk<|Nat.not_lt_zero _⟩ ?_
    rintro j ⟨hj,hal⟩
    try simp only at hj hal
    try dsimp only
    refine cQ<|sV (aN Z Z)<|sN<|nT<|cS<|cC Z (λhd2=>?_)<|λhd2=>?_
    ·have hltj:j<J.seeds.length:=Zw
     obtain ⟨gb,go,gcap,gus,e2,hgus,hgrd,hgr⟩:=hx2.at<|Zy hltj
     obtain ⟨rfl,rfl⟩:sAq=some ⟨gb,go,none⟩/\sKq=gcap:=by cases e2; exact ⟨rfl,rfl⟩
     have hcj:∀ hq:xm.seeds.contains J.seeds[j]=true,∀ k (hk:k<J.seeds.length),k<j+1->xm.seeds.contains J.seeds[k]=true:=λhq k hk hkj=>by
      by_cases h:k=j
      ·subst h; exact hq
      ·exact hal k hk<|by omega
     have hmemj:=List.getElem_mem hltj
     generalize J.seeds[j]=s at hgr hcj hmemj
     obtain rfl:gus=[sv s.cls,sv s.name]:=hgr
     refine cK<|xT<|cS<|cB<|cQ<|sV (vI (k:=j) Z Z nX Z hltj Z)<|sV (af Z ic Z hgrd) ?_
     refine ax al69 λb20=>?_
     refine ai Z Z sz69 Z Z ?_
     refine sK [1,10,11,15,16,18,20,51,52,53,58,59,60] Z<|cQ<|sV (vF Z eF Z)<|sV (vY Z oZ) ?_
     refine sV (af Z ic Z ah) ?_
     refine aY Z Z en33 Z (vW (s:=s) hm2) ?_
     refine sV (bi Z)<|sK [1,10,11,15,16,18,51,52,53,58,59,60,68] Z<|cC Z (λhct=>?_)<|λhct=>?_
     ·have hct:xm.seeds.contains s=false:=Zd
      have hsn2:uj (ms.take (i+1)) J.seeds=uj (ms.take i) J.seeds:=by
       rw [hsn,if_neg,List.append_nil]
       intro h
       rw [List.all_eq_true.1 h s hmemj] at hct; cases hct
      refine aB<|fZ (by decide) ?_
      refine xE<|xE<|fZ (by decide) ?_
      refine xE<|xY<|xT<|cR<|sV (aI Z Z Z6)<|sM Z<|sN<|nK [1,10,11,15,16,51,52,53] Z<|au ?_
      rw [<- hsn2]
      refine aM (w,i+1) ⟨hw,hlt⟩ (by show ms.length - (i+1)<ms.length - i; omega)
     ·have hct:xm.seeds.contains s=true:=Zd
      refine cK<|xB<|xT<|cR<|sV (aI Z Z Z6)<|sM Z<|sN<|nK [1,10,11,15,16,18,51,52,53,58,59,60] Z<|au ?_
      refine aM (j+1) ⟨hltj,hcj hct⟩ (by show J.seeds.length - (j+1)<J.seeds.length - j; omega)
    ·have hje:j=J.seeds.length:=Nat.le_antisymm hj<|Nat.not_lt.1 Zw
     subst hje
     rw [if_pos (List.all_eq_true.2 λs hs=>by
      obtain ⟨k,hk,rfl⟩:=List.getElem_of_mem hs
      exact hal k hk hk)] at hsn
     refine aB<|xE<|xE<|xY<|xT<|cR<|sM Z<|sV (vF Z eD Z)<|sV (vY Z ld9) ?_
     refine ak (cells:=[sv xm.name]) Z underlying40 gm Z Z Zz (ltn Z) λb73=>?_
     refine dF [[sv xm.name]] Z Z underlying40 gm Z (by decide) (show Sel _ (VR w 9 1<|(uj (ms.take i) J.seeds).map nC) _ from slq) (by simp) Z (λj u2 hu2=>bQ<|bU Zt) (by simp [sv,Value.oneCell']) (by rw [List.length_map]; omega) (by rw [List.length_map]; omega) (ltn Z) λw2 hw2 _=>?_
     refine sA Z<|sN<|nK [1,10,11,15,16,51,52,53] Z<|au<|xB<|xT<|cR<|sV (aI Z Z Z6)<|sM Z<|sN<|nK [1,10,11,15,16,51,52,53] Z<|au ?_
     rw [show (uj (ms.take i) J.seeds).map nC++[[sv xm.name]]=(uj (ms.take (i+1)) J.seeds).map nC by rw [hsn,List.map_append]; rfl]
     refine aM (w2,i+1) ⟨hw2,hlt⟩ (by show ms.length - (i+1)<ms.length - i; omega)
   ·have hie:i=ms.length:=Nat.le_antisymm hi<|Nat.not_lt.1 Zx
    subst hie
    rw [List.take_length]
    generalize uj ms J.seeds=L at hvl ⊢
    refine fq (v:=w) (E:=9) (sz:=1) (rows:=L.map nC) slq λwa wc hwf hwl hwm=>?_
    rw [List.length_map] at hwf hwl
    subst hwf
    refine fw (r:=VR (.slice wa L.length wc) 9 1<|L.map nC) slq λhok=>?_
    have hwa:L≠[]->∃ ab ao,wa=some ⟨ab,ao,none⟩:=λhne=>by
     obtain ⟨f0,hf0⟩:=hok
     rcases VR.form hf0 with ⟨h3,h4⟩ | ⟨b,o,cp,h3,-⟩
     ·exact absurd (List.map_eq_nil_iff.1 h4) hne
     ·rw [List.length_map] at h3; cases h3; exact ⟨b,o,rfl⟩
    refine aB<|xE<|xE<|xY<|xT<|cS<|cQ<|sM Z<|sV (aF Z underlying40)<|sK [1,10,11,15,16,77] Z<|cB<|cQ ?_
    refine sV (dD Z Z)<|sA Z<|sK [1,10,11,15,16,77,78] Z<|cC Z (λh0=>?_)<|λh0=>?_
    ·have h0:L=[]:=List.eq_nil_of_length_eq_zero<|by simpa using h0
     subst h0
     refine cQ<|sA Z<|sA Z<|sK [8,9] Z<|cT<|xW<|xR<|fF ?_
     exact aj Z ⟨Y,[],Z,hE,Z,Z⟩ sbq
    ·have h0:L≠[]:=λh=>by subst h; simp at h0
     refine cQ<|sV (dD Z Z)<|sA Z<|sK [1,10,11,15,16,80] Z<|cC Z (λh1=>?_)<|λh1=>?_
     ·have h1:((L.length:Nat):Int)=1:=Ze
      have h1':L.length=1:=by omega
      obtain ⟨a,rfl⟩:∃ a,L=[a]:=List.length_eq_one_iff.1 h1'
      obtain ⟨ab,ao,rfl⟩:=hwa h0
      refine cQ<|sM Z<|sV (vI (k:=0) Z Z jv Z (by simp) Z) ?_
      refine sV (vY Z ld9 (ha:=⟨_,_,slq,dN (show ([a].map nC)[0]? = some [sv a] from Z) 0<|by simp⟩)) ?_
      refine sA Z<|sA Z<|sK [8,9] Z<|cT<|xW<|xR<|fF ?_
      exact aj Z ⟨Y,[],Z,hE,Z,Z⟩ sbq
     ·obtain ⟨a,b,tl,rfl⟩:∃ a b tl,L=a::b::tl:=by
       match L,h0,h1 with
       | [a],_,h1=>simp at h1
       | a::b::tl,_,_=>exact ⟨a,b,tl,rfl⟩
      obtain ⟨s0,ss,hss⟩:=List.exists_cons_of_ne_nil hsne
      rw [show J.seeds.headD ⟨[],[]⟩=s0 by rw [hss]; rfl]
      have hls0:0<J.seeds.length:=by rw [hss]; simp
      obtain ⟨gb,go,gcap,gus,e2,hgus,hgrd,hgr⟩:=hx2.at (i:=0) (a:=s0) (by rw [hss]; rfl)
      obtain ⟨rfl,rfl⟩:sAq=some ⟨gb,go,none⟩/\sKq=gcap:=by cases e2; exact ⟨rfl,rfl⟩
      obtain rfl:gus=[sv s0.cls,sv s0.name]:=hgr
      have hih:=λ(cus:List Value) (hcr:Enc.rep Y cus (ae l d))=>hih cus hcr s0
      generalize eZ (look (build l).1) l l.length (ae l d) ms s0=r at hih ⊢
      refine cK<|xB<|xT<|cS<|bB (ork [(0,2),(1,1),(2,2),(3,1),(4,2),(6,2),(7,2),(8,1),(9,2),(10,1),(5,0),(11,0),(12,2),(13,2),(14,2),(15,2),(16,2)] .nil) (λi => !(Nat.beq i 11)) mixed Zz ?_
      refine dV Z (vF Z gI Z)<|bg Z (af Z ig Z<|bD (k:=0) ah (vs:=[.slice vAq l.length vK,.map (some mb)]) Z) ?_
      refine dV Z (vF Z gI Z)<|bg Z (af Z ig Z<|bD (k:=0) ah (vs:=[.slice vAq l.length vK,.map (some mb)]) Z) ?_
      refine dV Z (vM Z)<|dV Z (vM Z)<|dV Z (vF Z eF Z)<|bg Z (vY Z oZ) ?_
      refine dV Z (vI (k:=0) Z Z nX Z hls0 Z)<|bg Z (af Z ic Z hgrd) ?_
      refine aP Z<|aH Z Z en56 Z (hcc) ?_
      rintro u h' ⟨rfl,cus,rfl,hcr⟩
      simp only [lC,lN]
      refine aX ?_
      refine aP Z<|bL hw0 Z Z en98 Z (hih cus hcr) ?_
      rintro u h' ⟨Z2,k2,rfl,hE3,rfl,rfl⟩
      simp only [lC,lN]
      refine aX ?_
      refine dV Z (vM Z)<|dV Z (ag Z Z)<|dV Z (ag Z Z)<|dV Z (vA Z)<|dV Z (vA Z)<|bA<|nK [15,21] Z<|nT<|cS<|cQ<|sM Z<|sM Z<|aY Z Z Ed Z (fJ (iT hok) r.1<|by omega) ?_
      refine sV (bi Z)<|sK [21,103] Z<|cC Z (λhcq=>?_)<|λhcq=>?_
      ·rw [if_neg (by simpa using hcq)]
       refine cQ<|sA Z<|sA Z<|sK [8,9] Z<|cT<|xR<|fF ?_
       exact aj Z ⟨Z2,[],Z,hE.trans hE3,Z,Z⟩ sbq
      ·rw [if_pos (by rw [Bool.not_eq_false'] at hcq; exact hcq)]
       refine cK<|xT<|cQ<|sM Z<|sA Z<|sA Z<|sK [8,9] Z<|cT<|fF ?_
       exact aj Z ⟨Z2,[],Z,hE.trans hE3,Z,Z⟩ sbq
end
end Go.Fl
namespace Go.Fl
open Go Go.Hr
def nP:Nm:=[80]
def nA:Nm:=[65]
def nB:Nm:=[66]
def nQ:Nm:=[67]
def na:Nm:=[97]
def nb:Nm:=[98]
def nn:Nm:=[110]
def uE:Nm:=[65,78,89]
def ty0:Kt:=.mk 0 [] [] false false
def rP (n:Nm):Fe:=⟨2,n,[uE],[],ty0,[],[]⟩
def H5 (n:Nm):Fe:=⟨1,n,[uE],[],.mk 1 [] [] false false,[],[]⟩
def exPc:FC:=⟨nP,false,[],[],[rP na,H5 nn],[]⟩
def exAc (und:List Nm):FC:=⟨nA,false,[],[⟨nP,[],[],und,[],[]⟩],[],[]⟩
def exBc (red:List Nm):FC:=⟨nB,false,[],[⟨nP,[],[⟨na,nb⟩],[],red,[]⟩],[rP nb],[]⟩
def exQc (sel:List Nm):FC:=⟨nQ,false,[],[⟨nA,[],[],[],[],[]⟩,⟨nB,[],[],[],[],sel⟩],[],[]⟩
def AY (und red sel:List Nm):FS:=[exPc,exAc und,exBc red,exQc sel]
def ex1:FS:=AY [] [nb] []
def ex2:FS:=AY [] [nb] [nb]
def ex3:FS:=AY [] [] []
def ex4:FS:=AY [nn] [nb] []
def cf1:Cf:=⟨11,nQ,na,nb,⟨nP,na⟩,og0⟩
def cf3:Cf:=⟨7,nB,nb,[],⟨nP,na⟩,og0⟩
def cf4:Cf:=⟨4,nA,nn,[],⟨nP,nn⟩,og0⟩
theorem Mk:il ex1=(cf1,true,0):=by decide +kernel
theorem Ml:lU ex1 cf1=0:=by decide +kernel
theorem Mm:il ex3=(cf3,true,0):=by decide +kernel
theorem Mo:lU ex3 cf3=0:=by decide +kernel
theorem Mq:il ex4=(cf4,true,0):=by decide +kernel
theorem Mr:lU ex4 cf4=0:=by decide +kernel
theorem H6:eQ ex2 nQ=((eQ ex2 nQ).1,0)/\(eQ ex2 nQ).1.mems.length=3/\((eQ ex2 nQ).1.mems.map λm=>m.name)=[na,nb,nn]:=by decide +kernel
theorem Dw:eQ ex2 nB=((eQ ex2 nB).1,0)/\((eQ ex2 nB).1.mems.map λm=>(m.impl,m.seeds))=[(⟨nB,nb⟩,[⟨nP,na⟩]),(⟨nP,nn⟩,[⟨nP,nn⟩])]:=by decide +kernel
theorem Ms:jP ex2 nQ ⟨nP,na⟩=([na,nb],0):=by decide +kernel
theorem H7:oriP ex2 nQ nn=([⟨nA,nn⟩,⟨nB,nn⟩],0):=by decide +kernel
theorem H8:vR ex2 nQ nP na=(nb,0):=by decide +kernel
end Go.Fl
