/-
  The law FlatConflicts,walked. Conditions: what is read; the library's table of blanks.
-/
import Derived.Test.YtknmacdbffgjgaaGreatDoorM27
import Derived.Test.YtknmacdbffgjgaaGreatDoorM17
set_option linter.unusedVariables false
set_option linter.unusedSimpArgs false
set_option maxRecDepth 100000
set_option maxHeartbeats 16000000
namespace Go.Fl
open Go Go.RowKit Go.Ck Go.Proofs Go.Proofs.Tryz Go.Proofs.YtknmacdbffgjgaaGreatDoor Fx Go.Hr
theorem SmL.short {l:FS} (h:SmL l):jw l:=fun c hc p hp=>by
 have:=(h.cls c hc).par p hp
 exact ⟨this.ren,this.und,this.red,this.sel⟩
attribute [local irreducible] Go.Ck.Sub St Cd Xt Nx DrL LsW
section
variable {X:Res} {v:Value} {l:FS}
theorem xL (hX:Spc X) (hl:Ls X v l) (hcr:Cre X v l) (c:Cf):eG prog 3 #[v,cfV c] X [] fun u Y k'=>k'=[]∧u = .bool true:=by
 have hml:maxLen=9223372036854775807:=rfl
 have hsm:=NN hcr hl
 have hsn:=fun (Y:Res) (hE:Ext X Y)=>LZ (hX.up hE)
 have hlaw:=Br (l:=l) c
 have hck:=fun (Y:Res) (hE:Ext X Y) (hS:jw l) (x:Cf)=>rZ (hX.up hE) (hl.up hE) hS x
 have hcl:=fun (hS:jw l)=>GI hX hl hS
 have hfl:=fun (Y:Res) (hE:Ext X Y) (hS:jw l)=>Oj (hX.up hE) (hl.up hE) hS
 obtain ⟨vA,vK,rfl,_⟩:=id hl.form
 unfold eG cfV cfC at *
 refine fO (n:=68) func3 Z Z (len Z) fun hr w0 hw0=>?_
 refine cQ (aV Z Z fun b3=>?_)
 refine sV (vA9 Z) (sN (nK9 [0,3,4] Z (nT (cS (cQ (sM Z (aH Z Z en10 Z (hsm) ?_)))))))
 rintro u h' ⟨ok,rfl,rfl,hok⟩
 simp only [lC,lN]
 refine sV (bi Z) (sN (nK9 [0,3,4,12] Z (nT ?_)))
 cases ok with
 | false =>
  refine aT Z ?_
  refine cQ (bM hw0 Z Z en11 Z (hsn X (Ext.refl X)) ?_)
  rintro u h' ⟨Y,k',rfl,hE,rfl,rfl⟩
  simp only [lC,lN]
  refine sV (vA9 Z) (sN (nK9 [4] Z (nT (cT (xR ?_)))))
  exact aj Z ⟨Y,[],Z,hE,Z,Z⟩ sbq
 | true =>
  have hS:=(hok rfl).short
  have hcl:=hcl hS
  have hck:=fun (Y:Res) (hE:Ext X Y) (x:Cf)=>hck Y hE hS x
  have hfl:=fun (Y:Res) (hE:Ext X Y)=>hfl Y hE hS
  generalize (d9 l).1=x at hcl hlaw
  generalize (d9 l).2.1=b at hcl hlaw
  generalize (d9 l).2.2=e at hcl hlaw
  generalize (gI l).2=f at hfl hlaw
  clear hok
  refine aG Z ?_
  refine cK9 (xT (cQ (sM Z (bM hw0 Z Z en12 Z (hcl) ?_))))
  rintro u h' ⟨Y,k',rfl,hE,rfl,rfl⟩
  simp only [lC,lN]
  refine sM Z (sV (ah Z Z) (sV (ah Z Z) (sV (ah Z Z) (au Bo fun b5=>?_))))
  refine ai Z Z uL Z Z ?_
  refine sV (vA9 Z) (sV (vA9 Z) (sN (nK9 [0,3,4,5,6,7] Z (nT (cQ (sM Z (bM hw0 Z Z en13 Z (hfl Y hE) ?_)))))))
  rintro u h' ⟨Zq9,k',rfl,hEZ,rfl,w,rfl,hw⟩
  simp only [lC,lN]
  have hE:=hE.trans hEZ
  have hwo:=hw.one
  clear hw hcl hfl
  refine sM Z (sV (ah Z Z) (sV (ah Z Z) (sV (vA9 Z) (sV (vA9 Z) (sN (nK9 [0,3,4,5,6,7,9] Z (nT (cS (cQ (sM Z (sV (bT Z Z) (sN (nK9 [0,3,4,5,6,7,9,26] Z (nT (cC Z (fun he=>?_) (fun he=>?_))))))))))))))))
  ·have he:e≠0:=by simpa using he
   obtain ⟨rfl,rfl⟩:=hlaw.1 he
   refine cQ (bM hw0 Z Z en11 Z (hsn Zq9 hE) ?_)
   rintro u h' ⟨W,k',rfl,hW,rfl,rfl⟩
   simp only [lC,lN]
   refine sM Z (sG Z Z (vM Z) (sG Z Z (vM Z) (sG Z Z (dB Z Z) (sV (vQ Z Z) (sM Z ?_)))))
   rw [show (f == f)=true from beq_self_eq_true f]
   refine sG Z Z (vM Z) (sG Z Z (bi Z) (sV (vQ Z Z) (sV (vA9 Z) (sN (nK9 [4] Z (nT (cT (xR ?_))))))))
   exact aj Z ⟨W,[],Z,hE.trans hW,Z,Z⟩ sbq
  ·have he:e=0:=by simpa using he
   subst he
   obtain ⟨h1,h2,h3,h4⟩:=hlaw.2 rfl
   cases b with
   | true =>
    obtain rfl:f=10:=h1.1 rfl
    have h3:=h3 rfl
    refine cK9 (xT (cS (cQ (sM Z (sM Z (sV (dB Z Z) (sV (oC underlying4 Z Z) (sM Z (sG Z Z (vM Z) (sG Z Z (bi Z) (sG Z Z (vM Z) (aC Z Z Z ?_))))))))))))
    refine aC Z Z Z ?_
    refine sG Z Z (vP Z Z) (sV (vP Z Z) (sM Z (sG Z Z (vM Z) (sG Z Z (vM Z) (sG Z Z (vM Z) (sG Z Z (ag Z qy Z af) ?_))))))
    refine jC Z Z (bM hw0 Z Z en14 Z (hck Zq9 hE x) ?_)
    rintro u h' ⟨W,k',rfl,hW,rfl,rfl⟩
    rw [h3]
    simp only [lC,lN]
    refine sG Z Z (bT Z Z) (sG Z Z (vQ Z Z) (sV (vP Z Z) (sN (nK9 [0,3,4,6,57] Z (nT (aG Z ?_))))))
    refine cK9 (xT (cQ (bM hw0 Z Z en11 Z (hsn W (hE.trans hW)) ?_)))
    rintro u h' ⟨W2,k',rfl,hW2,rfl,rfl⟩
    simp only [lC,lN]
    refine sM Z (sG Z Z (vM Z) (sG Z Z (vM Z) (aC Z Z Z ?_)))
    iterate 3 refine aC rfl rfl rfl ?_
    refine sG Z Z (vQ Z Z) (sV (vQ Z Z) (sV (vA9 Z) (sN (nK9 [4] Z (nT (cT ?_))))))
    exact aj Z ⟨W2,[],Z,(hE.trans hW).trans hW2,Z,Z⟩ sbq
   | false =>
    obtain rfl:f=0:=h2 rfl
    have h5:gV l c≠0:=fun h=>by cases h4 h
    refine cK9 (xT (cS (cQ (sM Z (sM Z (sV (dB Z Z) (sV (oC underlying4 Z Z) (sM Z (sG Z Z (vM Z) (sG Z Z (bi Z) (sG Z Z (vM Z) (sG Z Z (vM Z) ?_))))))))))))
    refine sG Z Z (bT Z Z) (sG Z Z (vQ Z Z) (sV (vP Z Z) (sM Z (sG Z Z (vM Z) (sG Z Z (vM Z) (aC Z Z Z ?_))))))
    iterate 3 refine aC rfl rfl rfl ?_
    refine sG Z Z (vP Z Z) (sV (vP Z Z) (sN (nK9 [0,3,4,6,57] Z (nT (aG Z ?_)))))
    refine cK9 (xT (cQ (bM hw0 Z Z en11 Z (hsn Zq9 hE) ?_)))
    rintro u h' ⟨W2,k',rfl,hW2,rfl,rfl⟩
    simp only [lC,lN]
    refine sM Z (sG Z Z (vM Z) (sG Z Z (vM Z) (sG Z Z (vM Z) (sG Z Z (ag Z qy Z af) ?_))))
    refine jC Z Z (bM hw0 Z Z en14 Z (hck W2 (hE.trans hW2) c) ?_)
    rintro u h' ⟨W3,k',rfl,hW3,rfl,rfl⟩
    simp only [lC,lN]
    generalize gV l c=kk at h5
    refine sG Z Z (bT Z Z) ?_
    rw [show (kk != 0)=true by simpa using h5]
    refine sG Z Z (vP Z Z) (sV (vQ Z Z) (sV (vA9 Z) (sN (nK9 [4] Z (nT (cT ?_))))))
    exact aj Z ⟨W3,[],Z,(hE.trans hW2).trans hW3,Z,Z⟩ sbq
end
end Go.Fl
