/-
  The reference: formals replaced,formals as types,parts. Conditions: what is read.
  The reference: headers. Conditions: what is read.
  The reference: tables of what formals of ancestors are. Conditions: what is read; right headers; no type of a parent has more than 200 parts.
-/
import Derived.Test.YtaohbfnepjjdgaaGreatM19
set_option linter.unusedVariables false
set_option linter.unusedSimpArgs false
namespace Go.Hr
open Go Go.RowKit Go.Ck Go.Proofs Go.Proofs.YtaohbfnepjjdgaaGreat Fx
attribute [local irreducible] Go.Ck.Sub St Cd Xt Nx DrL LsW
section
variable {S T N R:Res} {v:Value} {F:List Fm} {A:List Kt} {l:KS} {s t:Kt} {ts:List Kt} {rows:List (List Value)}
theorem act_none {n:Nm}:(decide (ixD (fidx F n)<0) || decide ((A.length:Nat)≤ixD (fidx F n))) = !(actOf F A n).isSome:=by
 rw [← act_bool]
 by_cases h1:(0:Int)≤ixD (fidx F n)
 ·rw [decide_eq_true h1,decide_eq_false (by omega),Bool.false_or,Bool.true_and]
  by_cases h2:ixD (fidx F n)<(A.length:Nat)
  ·rw [decide_eq_true h2,decide_eq_false (by omega)]; rfl
  ·rw [decide_eq_false h2,decide_eq_true (by omega)]; rfl
 ·rw [decide_eq_false h1,decide_eq_true (by omega)]; rfl
theorem substR_go {fa : Option Addr} {fcap : Nat} (hrow : Row S 2 fmC (.slice fa F.length fcap) F) {aa : Option Addr} {acap : Nat} (hA : Tys S (.slice aa A.length acap) A) : ∀ (d : Nat) (t : Kt) (y : Value), t.depth ≤ d → Tys S y t.args →
  CtN Tryz.prog 32 #[.slice fa F.length fcap,.slice aa A.length acap,.agg (tyC t y).toArray] [S] fun u T=>∃ us:List Value,u = .agg us.toArray∧Ty (Res.star [T,S]) us (t.subst F A):=by
 intro d
 induction d with
 | zero=>intro t y hd; cases t; simp [Kt.depth] at hd
 | succ d ih =>
  rintro ⟨k,n,az,w,z⟩ y hd hy
  have hy:Tys S y az:=hy
  have hF:=fun a (ha:a∈az) y hy=>ih a y (by have:=depth_args (t:=.mk k n az w z) ha; omega) hy
  clear ih hd
  have hml:maxLen=9223372036854775807:=rfl
  have hrb:reachBytes=140737488351232:=rfl
  obtain ⟨xa,xc,rfl,hlc,hcm,_⟩:=hy.form
  have hbb:=hy.2
  show CtN _ _ #[_,_,.agg #[.int .i64 k,sv n,.slice xa az.length xc,.bool w,.bool z]] _ _
  by_cases h4:k=4
  ·subst h4
   rw [subst_formal]
   refine ct_of (n:=71) Tryz.func32 Z Z (len Z) fun hr w0=>?_
   refine cQ (st_bx Z Z fun b5=>?_)
   refine st_alc al25 fun b6=>?_
   refine sK [0,1,5,6] Z (cS (cQ (sV (vF Z fa25_0 Z) (sV (vY Z ld3) ?_))))
   refine sV (v_eql Z Z) (sK [0,1,5,6,13] Z (cd_true Z ?_))
   refine cQ (sM Z (sV (vF Z fa25_1 Z) (sV (vY Z ld9) ?_)))
   refine st_clr Z Z en66 Z (formalR_ct hrow n) ?_
   refine sA Z (sK [0,1,5,6,7] Z (cS (cQ (sM Z (sV (v_lss Z Z) (sM Z (st_cut (k:=8) (d:=25) (v:=.bool (decide (ixD (fidx F n)<0) || decide ((A.length:Nat)≤ixD (fidx F n)))) (fun hcut=>bool_want (b:=decide (ixD (fidx F n)<0)) false (fun hg=>?_) (fun hg=>?_)) ?_)))))))
   ·refine st_sk Z Z hg ?_
    iterate 3 refine st_sk rfl rfl hg ?_
    refine sV (vQ (bO Z hg) Z) ?_
    exact hcut _ uG
   ·refine sG Z (bG Z hg) (vM Z) (sG Z (bG Z hg) (vM Z) (sG Z (bG Z hg) (v_len Z Tryz.underlying23) (sG Z (bG Z hg) (v_geq Z Z) (sV (vP (bO Z hg) Z) ?_))))
    exact hcut _ uG
   rw [act_none]
   cases hac:actOf F A n with
   | none =>
    refine sK [0,1,5,6,7,25] Z (cd_true Z ?_)
    refine cQ (sV (v_ldn Z ld25 Z rds_pt) ?_)
    refine st_stoW Z Z sz25 Z Z ?_
    refine sK [6] Z (cT (xR (xR (xt_vw (vw_unstar (L:=[])) ?_))))
    exact xt_retV (.cellN Z ld25 Z slq .nil) ⟨Res.star [],Z,_,Z,Ty.of (t:=.mk 4 n az w z) Z (hy.mono (rd_in (.there .here)))⟩ sbr
   | some a =>
    obtain ⟨j,hj,haj⟩:=act_at hac
    have hlt:j<A.length:=(List.getElem?_eq_some_iff.1 haj).1
    obtain ⟨b,o,cap2,us,e1,hus,hrd,hta⟩:=hA.at haj
    cases e1
    have hone:=hta.ones
    obtain ⟨y,rfl,hya⟩:=hta.out
    obtain ⟨ya,yc,rfl,_⟩:=id hya.form
    unfold tyC at hrd hone
    rw [hj]
    refine sK [0,1,5,6,7,25] Z (cd_false Z ?_)
    refine cK (xT (cQ (sM Z (sM Z (sV (vI (k:=j) Z Z sl23 Z hlt Z) (sV (v_ldn Z ld25 Z hrd) ?_))))))
    refine st_alc al25 fun b8=>?_
    refine st_stoW Z Z sz25 Z hone ?_
    refine sK [0,1,5,6,8] Z (cQ (sV (vF Z fa25_3 Z) (sV (vY Z ld4) ?_)))
    refine sM Z (st_cut (k:=6) (d:=36) (v:=.bool (a.void || w)) (fun hcut=>bool_want (b:=(a.void)) false (fun hg=>?_) (fun hg=>?_)) ?_)
    ·refine st_sk Z Z hg ?_
     refine st_sk Z Z hg ?_
     refine sV (vQ (bO Z hg) Z) ?_
     exact hcut _ uG
    ·refine sG Z (bG Z hg) (vF Z fa25_3 Z) (sG Z (bG Z hg) (vY Z ld4) ?_)
     refine sV (vP (bO Z hg) Z) ?_
     exact hcut _ uG
    refine sV (vF Z fa25_3 Z) (st_sto Z Z sz4 ?_)
    refine sK [0,1,5,6,8] Z (cQ (sV (vF Z fa25_4 Z) (sV (vY Z ld4) ?_)))
    refine sM Z (st_cut (k:=6) (d:=43) (v:=.bool (a.sep || z)) (fun hcut=>bool_want (b:=(a.sep)) false (fun hg=>?_) (fun hg=>?_)) ?_)
    ·refine st_sk Z Z hg ?_
     refine st_sk Z Z hg ?_
     refine sV (vQ (bO Z hg) Z) ?_
     exact hcut _ uG
    ·refine sG Z (bG Z hg) (vF Z fa25_4 Z) (sG Z (bG Z hg) (vY Z ld4) ?_)
     refine sV (vP (bO Z hg) Z) ?_
     exact hcut _ uG
    refine sV (vF Z fa25_4 Z) (st_sto Z Z sz4 ?_)
    refine sK [0,1,5,6,8] Z (cQ (sV (v_ldn Z ld25 Z rds_pt) ?_))
    refine st_stoW Z Z sz25 Z Z ?_
    refine sK [6] Z (cT (xR (xt_vw (vw_unstar (L:=[])) ?_)))
    exact xt_retV (.cellN Z ld25 Z slq .nil) ⟨Res.star [],Z,_,Z,Ty.of (t:=a.flag w z) Z (hya.mono (rd_in (.there .here)))⟩ sbr
  ·by_cases h3 : k = 3
   ·subst h3
    rw [subst_class]
    have hsn:∀ i (h:i<az.length),(az.take (i+1)).map (Kt.subst F A)=(az.take i).map (Kt.subst F A)++[(az[i]).subst F A]:=fun i h=>by rw [List.take_add_one,List.getElem?_eq_getElem h,List.map_append]; rfl
    refine ct_of (n:=71) Tryz.func32 Z Z (len Z) fun hr w0=>?_
    refine cQ (st_bx Z Z fun b5=>?_)
    refine st_alc al25 fun b6=>?_
    refine sK [0,1,5,6] Z (cS (cQ (sV (vF Z fa25_0 Z) (sV (vY Z ld3) ?_))))
    refine sV (v_eql Z Z) (sK [0,1,5,6,13] Z (cd_false Z ?_))
    refine cK (xT (cS (cQ (sV (vF Z fa25_0 Z) (sV (vY Z ld3) ?_)))))
    refine sV (v_neq Z Z) (sK [0,1,5,6,48] Z (cd_false Z ?_))
    refine cK (xT (cQ (sA Z (sK [0,1,5,6,9] Z (cS (cQ (sA Z (sN (nT (cB (cd_vw (vw_nil 25 5) (cd_vw (vw_unstar (L:=[])) ?_))))))))))))
    refine cd_lq (σ := Value×List (List Value)×Res×Nat) (fun q=>[(0,.slice fa F.length fcap),(1,.slice aa A.length acap),(5,.pointer (some ⟨b5,0,none⟩)),(6,.pointer (some ⟨b6,0,none⟩)),(9,q.1),(10,.int .i64 (q.2.2.2:Nat))]) (fun q=>VR q.1 25 5 q.2.1::q.2.2.1::pt b5 (cl [.int .i64 3,sv n,.slice xa az.length xc,.bool w,.bool z] 25)::pt b6 (cl [.int .i64 0,sv [],.slice none 0 0,.bool false,.bool false] 25)::S::hr) (fun q=>q.2.2.2≤az.length∧q.1.oneCell'=true∧TyRows (Res.star [q.2.2.1,S]) q.2.1 ((az.take q.2.2.2).map (Kt.subst F A))) (fun q=>az.length - q.2.2.2) (.slice none 0 0,[],Res.star [],0) ⟨Nat.zero_le _,rfl,TyRows.nil⟩ ?_
    rintro ⟨wv,rows,T,i⟩ ⟨hi,hwv,hro⟩
    simp only at hi hwv hro
    dsimp only
    have hrl:rows.length=i:=by rw [hro.1]; simp; omega
    refine cS (cQ (sM Z (sV (vF Z fa25_2 Z) (sV (vY Z ld23) ?_))))
    refine sV (v_len Z Tryz.underlying23) (sV (v_lss Z Z) (sK [0,1,5,6,9,10,54] Z (cC Z (fun hd=>?_) (fun hd=>?_))))
    ·have hlt:i<az.length:=by simpa using hd
     have hmem:=List.getElem_mem hlt
     obtain ⟨b,o,cap2,us,e1,hus,hrd,hta⟩:=hy.at (List.getElem?_eq_getElem hlt)
     cases e1
     have hsn:=hsn i hlt
     generalize az[i]=a at hmem hta hsn
     obtain ⟨y,rfl,hya⟩:=hta.out
     have hca:=hF a hmem y hya
     obtain ⟨ya,yc,rfl,_⟩:=id hya.form
     unfold tyC at hrd hca
     refine cK (xT (cS (cB (cR (sM Z (sM Z (sM Z (sV (vF Z fa25_2 Z) (sV (vY Z ld23) ?_)))))))))
     refine sM Z (sV (vI (k:=i) Z Z sl23 Z hlt Z) (sV (v_ldn Z ld25 Z hrd) ?_))
     refine st_cl Z Z en32 Z (hca) ?_
     rintro u h' ⟨T2,rfl,us2,rfl,hT2⟩
     simp only [lC,lN]
     obtain ⟨y2,rfl,hy2⟩:=id hT2.out
     obtain ⟨za,zc,rfl,_⟩:=id hy2.form
     refine st_buildSlice (cells:=tyC (a.subst F A) (.slice za (a.subst F A).args.length zc)) rfl Tryz.underlying23 inf25 rfl rfl (by kernel_rfl) (ltn rfl) fun b66=>?_
     refine st_app [tyC (a.subst F A) (.slice za (a.subst F A).args.length zc)] rfl rfl Tryz.underlying23 inf25 rfl (by decide) (show Sel _ (VR wv 25 5 rows) _ from slq) (by simp [tyC]) rfl (fun j u2 hu2=>at_here (rd_cl (by simpa [tyC] using hu2))) (by simp [tyC,Value.oneCell']) (by rw [hrl]; omega) (by rw [hrl]; omega) (ltn rfl) fun w2 hw2 _=>?_
     refine sA Z (sN (nK [0,1,5,6,9,10] Z (nx_xt (xB (xT (cR (sM Z (sV (v_add Z Z (by unfold I64 at *; omega)) (sA Z (sN (nK [0,1,5,6,9,10] Z (nx_xt (xt_pv (pv_pack (L:=[T,T2])) ?_)))))))))))))
     simp only [lC,lN]
     refine xt_aq (w2,rows++[tyC (a.subst F A) (.slice za (a.subst F A).args.length zc)],Res.star [T,T2],i+1) ⟨hlt,hw2,by rw [hsn]; exact (hro.mono fun p u h=>rd_up p u .here h).snoc (hT2.mono fun p u h=>rd_up p u (.there .here) h)⟩ (Nat.sub_lt_sub_left hlt (Nat.lt_succ_self i))
    ·have hil:i=az.length:=by
      have:¬ i<az.length:=by simpa using hd
      omega
     subst hil
     rw [List.take_length] at hro
     refine cd_exit (xE (xE (xY (xT (cQ (sM Z (sV (vF Z fa25_2 Z) (st_sto Z Z sz23 ?_))))))))
     refine sK [5,6] Z (cQ (st_ok (r:=VR wv 25 5 rows) slq fun hok=>?_))
     refine st_pv (pv_pack (L:=[VR wv 25 5 rows,T])) ?_
     simp only [lC,lN]
     have hty:Tys (Res.star [Res.star [VR wv 25 5 rows,T],S]) wv (az.map (Kt.subst F A)):=(hro.mono fun p u h=>rd_up p u (.there .here) h).tys hok (fun p u h=>rd_in .here p u (rd_in .here p u h)) (by simpa using hbb)
     obtain ⟨wa,wc,rfl,_⟩:=id hty.form
     refine sV (v_ldn Z ld25 Z rds_pt) ?_
     refine st_stoW Z Z sz25 Z Z ?_
     refine sK [6] Z (cT ?_)
     exact xt_retV (.cellN rfl ld25 rfl slq .nil) ⟨Res.star [VR (.slice wa (az.map (Kt.subst F A)).length wc) 25 5 rows,T],rfl,tyC (.mk 3 n (az.map (Kt.subst F A)) w z) (.slice wa (az.map (Kt.subst F A)).length wc),rfl,Ty.of (t:=.mk 3 n (az.map (Kt.subst F A)) w z) rfl hty⟩ sbr
   ·rw [subst_other h4 h3]
    have q4:(k == 4)=false:=beq_eq_false_iff_ne.2 h4
    have q3:(k != 3)=true:=bne_iff_ne.2 h3
    refine ct_of (n:=71) Tryz.func32 Z Z (len Z) fun hr w0=>?_
    refine cQ (st_bx Z Z fun b5=>?_)
    refine st_alc al25 fun b6=>?_
    refine sK [0,1,5,6] Z (cS (cQ (sV (vF Z fa25_0 Z) (sV (vY Z ld3) ?_))))
    refine sV (v_eql Z Z) (sK [0,1,5,6,13] Z ?_)
    rw [q4]
    refine cd_false Z ?_
    refine cK (xT (cS (cQ (sV (vF Z fa25_0 Z) (sV (vY Z ld3) ?_)))))
    refine sV (v_neq Z Z) (sK [0,1,5,6,48] Z ?_)
    rw [q3]
    refine cd_true Z ?_
    refine cQ (sV (v_ldn Z ld25 Z rds_pt) ?_)
    refine st_stoW Z Z sz25 Z Z ?_
    refine sK [6] Z (cT (xR (xt_vw (vw_unstar (L:=[])) ?_)))
    exact xt_retV (.cellN Z ld25 Z slq .nil) ⟨Res.star [],Z,_,Z,Ty.of (t:=.mk k n az w z) Z (hy.mono (rd_in (.there .here)))⟩ sbr
set_option maxRecDepth 100000 in
theorem substR_ct {fv av:Value} (hf:Row S 2 fmC fv F) (hA:Tys S av A) {us:List Value} (hu:Ty S us t) :
  CtN Tryz.prog 32 #[fv,av,.agg us.toArray] [S] fun u T=>∃ us:List Value,u = .agg us.toArray∧Ty (Res.star [T,S]) us (t.subst F A):=by
 obtain ⟨fa,fcap,rfl,_⟩:=id hf
 obtain ⟨aa,acap,rfl,_⟩:=id hA.form
 obtain ⟨y,rfl,hy⟩:=hu.out
 exact substR_go hf hA t.depth t y (Nat.le_refl _) hy
set_option maxRecDepth 100000 in
theorem substAll_ct {fv av : Value} (hf : Row S 2 fmC fv F) (hA : Tys S av A) (hv : Tys S v ts) :
  CtN Tryz.prog 93 #[fv,av,v] [S] fun u T=>∃ a cap,u = .slice a (ts.map (Kt.subst F A)).length cap∧Tys (Res.star [T,S]) u (ts.map (Kt.subst F A)):=by
 have hml:maxLen=9223372036854775807:=rfl
 have hrb:reachBytes=140737488351232:=rfl
 have hbb:=hv.2
 have hsb:=fun t us (hu:Ty S us t)=>substR_ct hf hA hu
 obtain ⟨fa,fcap,rfl,_⟩:=id hf
 obtain ⟨aa,acap,rfl,_⟩:=id hA.form
 obtain ⟨xa,xc,rfl,hlc,hcm,_⟩:=hv.form
 have hsn:∀ i (h:i<ts.length),(ts.take (i+1)).map (Kt.subst F A)=(ts.take i).map (Kt.subst F A)++[(ts[i]).subst F A]:=fun i h=>by rw [List.take_add_one,List.getElem?_eq_getElem h,List.map_append]; rfl
 refine ct_of (n:=26) Tryz.func93 Z Z (len Z) fun hr w0=>?_
 refine cQ (sA Z (sN (nT (cQ (sA Z (sN (nT (cS (cQ (sA Z (sN (nT (cB ?_)))))))))))))
 refine cd_vw (vw_nil 25 5) (cd_vw (vw_unstar (L:=[])) (cd_lq (σ := Value×List (List Value)×Res×Nat) (fun q=>[(0,.slice fa F.length fcap),(1,.slice aa A.length acap),(2,.slice xa ts.length xc),(7,q.1),(8,.int .i64 (q.2.2.2:Nat))]) (fun q=>VR q.1 25 5 q.2.1::q.2.2.1::S::hr) (fun q=>q.2.2.2≤ts.length∧q.1.oneCell'=true∧TyRows (Res.star [q.2.2.1,S]) q.2.1 ((ts.take q.2.2.2).map (Kt.subst F A))) (fun q=>ts.length - q.2.2.2) (.slice none 0 0,[],Res.star [],0) ⟨Nat.zero_le _,rfl,TyRows.nil⟩ ?_))
 rintro ⟨wv,rows,T,i⟩ ⟨hi,hwv,hro⟩
 simp only at hi hwv hro
 dsimp only
 have hrl:rows.length=i:=by rw [hro.1]; simp; omega
 refine cS (cQ (sM Z (sM Z (sV (v_len Z Tryz.underlying23) (sV (v_lss Z Z) (sK [0,1,2,7,8,12] Z (cC Z (fun hd=>?_) (fun hd=>?_))))))))
 ·have hlt:i<ts.length:=by simpa using hd
  obtain ⟨b,o,cap2,us,e1,hus,hrd,hta⟩:=hv.at (List.getElem?_eq_getElem hlt)
  cases e1
  have hsn:=hsn i hlt
  generalize ts[i]=a at hta hsn
  have hca:=hsb a us hta
  obtain ⟨y,rfl,hya⟩:=hta.out
  obtain ⟨ya,yc,rfl,_⟩:=id hya.form
  unfold tyC at hrd hca
  refine cK (xT (cS (cB (cR (sM Z (sM Z (sM Z (sM Z (sM Z (sV (vI (k:=i) Z Z sl23 Z hlt Z) (sV (v_ldn Z ld25 Z hrd) ?_)))))))))))
  refine st_cl Z Z en32 Z (hca) ?_
  rintro u h' ⟨T2,rfl,us2,rfl,hT2⟩
  simp only [lC,lN]
  obtain ⟨y2,rfl,hy2⟩:=id hT2.out
  obtain ⟨za,zc,rfl,_⟩:=id hy2.form
  refine st_buildSlice (cells:=tyC (a.subst F A) (.slice za (a.subst F A).args.length zc)) rfl Tryz.underlying23 inf25 rfl rfl (by kernel_rfl) (ltn rfl) fun b23=>?_
  refine st_app [tyC (a.subst F A) (.slice za (a.subst F A).args.length zc)] rfl rfl Tryz.underlying23 inf25 rfl (by decide) (show Sel _ (VR wv 25 5 rows) _ from slq) (by simp [tyC]) rfl (fun j u2 hu2=>at_here (rd_cl (by simpa [tyC] using hu2))) (by simp [tyC,Value.oneCell']) (by rw [hrl]; omega) (by rw [hrl]; omega) (ltn rfl) fun w2 hw2 _=>?_
  refine sA Z (sN (nK [0,1,2,7,8] Z (nx_xt (xB (xT (cR (sM Z (sV (v_add Z Z (by unfold I64 at *; omega)) (sA Z (sN (nK [0,1,2,7,8] Z (nx_xt (xt_pv (pv_pack (L:=[T,T2])) ?_)))))))))))))
  simp only [lC,lN]
  refine xt_aq (w2,rows++[tyC (a.subst F A) (.slice za (a.subst F A).args.length zc)],Res.star [T,T2],i+1) ⟨hlt,hw2,by rw [hsn]; exact (hro.mono fun p u h=>rd_up p u .here h).snoc (hT2.mono fun p u h=>rd_up p u (.there .here) h)⟩ (Nat.sub_lt_sub_left hlt (Nat.lt_succ_self i))
 ·have hil:i=ts.length:=by
   have:¬ i<ts.length:=by simpa using hd
   omega
  rw [hil,List.take_length] at hro
  refine cd_exit (xE (xE (xY (xT (cQ (sM Z (sA Z (sK [6] Z (cT (xt_ok (r:=VR wv 25 5 rows) slq fun hok=>?_))))))))))
  refine xt_pv (pv_pack (L:=[VR wv 25 5 rows,T])) ?_
  simp only [lC,lN]
  have hty:Tys (Res.star [Res.star [VR wv 25 5 rows,T],S]) wv (ts.map (Kt.subst F A)):=(hro.mono fun p u h=>rd_up p u (.there .here) h).tys hok (fun p u h=>rd_in .here p u (rd_in .here p u h)) (by simpa using hbb)
  obtain ⟨wa,wc,rfl,_⟩:=id hty.form
  exact xt_rt Z ⟨_,Z,wa,wc,Z,hty⟩ sbq
set_option maxRecDepth 100000 in
theorem ownR_ct {fa : Option Addr} {fcap : Nat} (hrow : Row S 2 fmC (.slice fa F.length fcap) F) (hF : F.length ≤ 3) : CtN Tryz.prog 91 #[.slice fa F.length fcap] [S] fun u T => ∃ a cap, u = .slice a F.length cap ∧ Tys T u (ownT F) := by
 have hml:maxLen=9223372036854775807:=rfl
 have hrb:reachBytes=140737488351232:=rfl
 refine ct_of (n:=21) Tryz.func91 Z Z (len Z) fun hr w0=>?_
 refine cQ (sA Z (sN (nT (cQ (sA Z (sN (nT (cS (cQ (sA Z (sN (nT (cB ?_)))))))))))))
 refine cd_vw (vw_nil 25 5) (cd_lq (σ := Value×Nat) (fun q=>[(0,.slice fa F.length fcap),(3,q.1),(4,.int .i64 (q.2:Nat))]) (fun q=>VR q.1 25 5 ((ownT (F.take q.2)).map fun t=>tyC t (.slice none 0 0))::S::hr) (fun q=>q.2≤F.length∧q.1.oneCell'=true) (fun q=>F.length - q.2) (.slice none 0 0,0) ⟨Nat.zero_le _,Z⟩ ?_)
 rintro ⟨w,i⟩ ⟨hi,hw⟩
 simp only at hi hw
 dsimp only
 refine cS (cQ (sM Z (sM Z (sV (v_len Z Tryz.underlying48) (sV (v_lss Z Z) (sK [0,3,4,8] Z (cC Z (fun hd=>?_) (fun hd=>?_))))))))
 ·have hlt:i<F.length:=by simpa using hd
  obtain ⟨b,o,cap2,e1,hrd⟩:=fm_at hrow (List.getElem?_eq_getElem hlt)
  cases e1
  have htk:F.take (i+1)=F.take i++[F[i]]:=by rw [List.take_add_one,List.getElem?_eq_getElem hlt]; rfl
  generalize F[i]=f at hrd htk
  unfold fmA at hrd
  refine cK (xT (cS (cB (cR (sM Z (sM Z (sM Z (sV (vI (k:=i) Z Z sl48 Z hlt Z) (sV (vF Z fa94_0 Z) (sV (vY Z ld9) ?_))))))))))
  refine sV (v_build (cells:=tyC (.mk 4 f.name [] false false) (.slice none 0 0)) Z (fun _=>by kernel_rfl)) ?_
  refine st_buildSlice (cells:=tyC (.mk 4 f.name [] false false) (.slice none 0 0)) Z Tryz.underlying23 inf25 Z Z (by kernel_rfl) (ltn Z) fun b18=>?_
  refine st_app [tyC (.mk 4 f.name [] false false) (.slice none 0 0)] Z Z Tryz.underlying23 inf25 Z (by decide) (show Sel _ (VR w 25 5 _) _ from slq) (by simp [tyC]) Z (fun j u2 hu2=>at_here (rd_cl (by simpa [tyC] using hu2))) (by simp [tyC,Value.oneCell']) (by simp [ownT]; omega) (by simp [ownT]; omega) (ltn Z) fun w2 hw2 _=>?_
  rw [show (ownT (F.take i)).map (fun t=>tyC t (.slice none 0 0))++[tyC (.mk 4 f.name [] false false) (.slice none 0 0)]=(ownT (F.take (i+1))).map (fun t=>tyC t (.slice none 0 0)) by rw [htk]; simp [ownT]]
  refine sA Z (sN (nK [0,3,4] Z (nx_xt (xB (xT (cR (sM Z (sV (v_add Z Z (by unfold I64 at *; omega)) (sA Z (sN (nK [0,3,4] Z (nx_xt ?_))))))))))))
  refine xt_aq (w2,i+1) ⟨hlt,hw2⟩ (Nat.sub_lt_sub_left hlt (Nat.lt_succ_self i))
 ·have hil:i=F.length:=by
   have:¬ i<F.length:=by simpa using hd
   omega
  subst hil
  rw [List.take_length]
  refine cd_exit (xE (xE (xY (xT (cQ (sM Z (sA Z (sK [2] Z (cT (xt_ok (r:=VR w 25 5 ((ownT F).map fun t=>tyC t (.slice none 0 0))) slq fun hok=>?_))))))))))
  have hty:Tys (VR w 25 5 ((ownT F).map fun t=>tyC t (.slice none 0 0))) w (ownT F):=⟨row_vr hok (by simp) (fun _ _ h=>h) fun j us x h1 h2=>by
   rw [List.getElem?_map,h2] at h1
   simp at h1; subst h1
   have hx:x.args=[]:=by
    obtain ⟨k,hk,rfl⟩:=List.getElem_of_mem (List.mem_of_getElem? h2)
    simp [ownT,Kt.args]
   exact Ty.of Z (by rw [hx]; exact Tys.nil),by simp [ownT]; omega⟩
  obtain ⟨a7,c7,hv7,_⟩:=id hty.form
  rw [show (ownT F).length=F.length by simp [ownT]] at hv7
  subst hv7
  exact xt_rt Z ⟨_,Z,a7,c7,Z,hty⟩ sbq
set_option maxRecDepth 100000 in
theorem PartsR_ct : ∀ (d : Nat) (az : List Kt) (v : Value), depths az ≤ d → partss az ≤ 1000000000 → Tys S v az → Reads Tryz.prog 94 #[v] [S] (.int .i64 (partss az : Nat)) := by
 intro d
 induction d with
 | zero =>
  intro az v hd hb hv
  cases az with
  | cons a t=>exfalso; simp only [depths,depth_eq] at hd; omega
  | nil =>
   obtain ⟨xa,xc,rfl,hlc,hcm,_⟩:=hv.form
   refine ct_of (n:=21) Tryz.func94 Z Z (len Z) fun hr w0=>?_
   refine cQ (sA Z (sN (nT (cQ (sA Z (sN (nT (cS (cQ (sA Z (sN (nT (cB ?_)))))))))))))
   refine cd_lq (σ := Unit) (fun _=>[(0,.slice xa 0 xc),(3,.int .i64 0),(4,.int .i64 0)]) (fun _=>S::hr) (fun _=>True) (fun _=>0) () trivial ?_
   rintro _ _
   refine cS (cQ (sM Z (sM Z (sV (v_len Z Tryz.underlying23) (sV (v_lss Z Z) (sK [0,3,4,8] Z (cd_false Z ?_)))))))
   refine cd_exit (xE (xE (xY (xT (cQ (sM Z (sA Z (sK [2] Z (cT ?_)))))))))
   exact xt_rt Z ⟨Z,Z⟩ sbq
 | succ d ih =>
  intro az v hd hb hv
  have hml:maxLen=9223372036854775807:=rfl
  have hpl:=partss_len az
  obtain ⟨xa,xc,rfl,hlc,hcm,_⟩:=hv.form
  have hF:∀ (a:Kt) x,a∈az→Tys S x a.args→Reads Tryz.prog 94 #[x] [S] (.int .i64 (partss a.args:Nat)):=fun a x ha h1=>ih a.args x (by have:=depths_mem ha; rw [depth_eq] at this; omega) (by
   have h2:a.parts≤partss az:=by
    obtain ⟨i,hi,rfl⟩:=List.getElem_of_mem ha
    have h3:=partss_take (List.getElem?_eq_getElem hi)
    have h4:=partss_take_le (i+1) az
    omega
   rw [parts_eq] at h2; omega) h1
  refine ct_of (n:=21) Tryz.func94 Z Z (len Z) fun hr w0=>?_
  refine cQ (sA Z (sN (nT (cQ (sA Z (sN (nT (cS (cQ (sA Z (sN (nT (cB ?_)))))))))))))
  refine cd_lq (σ := Nat) (fun i=>[(0,.slice xa az.length xc),(3,.int .i64 (partss (az.take i):Nat)),(4,.int .i64 (i:Nat))]) (fun _=>S::hr) (fun i=>i≤az.length) (fun i=>az.length - i) 0 (Nat.zero_le _) ?_
  rintro i hi
  have hdi:=partss_take_le i az
  refine cS (cQ (sM Z (sM Z (sV (v_len Z Tryz.underlying23) (sV (v_lss Z Z) (sK [0,3,4,8] Z (cC Z (fun hd=>?_) (fun hd=>?_))))))))
  ·have hlt:i<az.length:=by simpa using hd
   have hg:=List.getElem?_eq_getElem hlt
   have hmem:=List.getElem_mem hlt
   obtain ⟨b,o,cap2,us,e1,hus,hrd,hta⟩:=hv.at hg
   cases e1
   have htk:=partss_take hg
   have hdi2:=partss_take_le (i+1) az
   generalize az[i]=x at hg hmem hta htk
   rw [parts_eq] at htk
   obtain ⟨y,rfl,hya⟩:=hta.out
   have hca:=hF x y hmem hya
   obtain ⟨ya,yc,rfl,_⟩:=id hya.form
   unfold tyC at hrd
   refine cK (xT (cS (cB (cR (sM Z (sV (v_add Z Z (by unfold I64 at *; omega)) (sM Z (sM Z (sV (vI (k:=i) Z Z sl23 Z hlt Z) (sV (vF Z fa25_2 Z) (sV (vY Z ld23) ?_)))))))))))
   refine st_clr Z Z en94 Z (hca) ?_
   refine sV (v_add Z Z (by unfold I64 at *; omega)) (sA Z (sN (nK [0,3,4] Z (nx_xt (xB (xT (cR (sM Z (sV (v_add Z Z (by unfold I64 at *; omega)) (sA Z (sN (nK [0,3,4] Z (nx_xt ?_)))))))))))))
   rw [show ((partss (az.take i):Nat):Int)+1+((partss x.args:Nat):Int)=((partss (az.take (i+1)):Nat):Int) by rw [htk]; omega]
   refine xt_aq (i+1) hlt (Nat.sub_lt_sub_left hlt (Nat.lt_succ_self i))
  ·have hil:i=az.length:=by
    have:¬ i<az.length:=by simpa using hd
    omega
   rw [hil,List.take_length]
   refine cd_exit (xE (xE (xY (xT (cQ (sM Z (sA Z (sK [2] Z (cT ?_)))))))))
   exact xt_rt Z ⟨Z,Z⟩ sbq
end
end Go.Hr
namespace Go.Hr
open Go Go.RowKit Go.Ck Go.Proofs Go.Proofs.YtaohbfnepjjdgaaGreat Fx
attribute [local irreducible] Go.Ck.Sub St Cd Xt Nx DrL LsW
section
variable {S T N R:Res} {v:Value} {F:List Fm} {A:List Kt} {l:KS} {s t:Kt} {ts:List Kt} {rows:List (List Value)}
def firstAt (g:KC→Int):List KC→Int×Nm
 | []=>(0,[])
 | x::t=>if g x≠0 then (g x,x.name) else firstAt g t
theorem firstAt_find (g:KC→Int):∀ xs:List KC,firstAt g xs=match List.find? (fun x=>g x != 0) xs with
  | some x=>(g x,x.name)
  | none=>(0,[])
 | []=>rfl
 | x::t=>by
  rw [firstAt,List.find?_cons]
  by_cases h:g x=0
  ·rw [if_neg (by simpa using h),show (g x != 0)=false by simpa using h,firstAt_find g t]
  ·rw [if_pos h,show (g x != 0)=true by simpa using h]
theorem kcheck_at (h1 : (check (ksys l)).1 = 0) : kcheck l = if (firstAt (formalsE l) l).1 ≠ 0 then firstAt (formalsE l) l else if (firstAt (parentsE l) l).1 ≠ 0 then firstAt (parentsE l) l else tabsE (tabs l) := by
 rw [kcheck_of h1,firstAt_find,firstAt_find]
 cases hf:List.find? (fun x=>formalsE l x != 0) l with
 | some x =>
  have:=List.find?_some hf
  simp only
  rw [if_pos (by simpa using this)]
 | none =>
  simp only
  rw [if_neg (by simp)]
  cases hp:List.find? (fun x=>parentsE l x != 0) l with
  | some x =>
   have:=List.find?_some hp
   simp only
   rw [if_pos (by simpa using this)]
  | none=>simp only; rw [if_neg (by simp)]
theorem firstAt_zero {g : KC → Int} : ∀ {xs : List KC}, (firstAt g xs).1 = 0 → ∀ x ∈ xs, g x = 0
 | [],_,x,hx=>by cases hx
 | y::t,h,x,hx=>by
  rw [firstAt] at h
  split at h
  ·rename_i h1; exact absurd h h1
  ·rename_i h1
   rcases List.mem_cons.1 hx with rfl | hx
   ·exact Classical.not_not.1 h1
   ·exact firstAt_zero h x hx
theorem ix_some {o:Option Nat}:decide ((0:Int)≤ixD o)=o.isSome:=by
 cases o with
 | none=>rfl
 | some i=>exact decide_eq_true (Int.natCast_nonneg i)
theorem kidx_is {n:Nm}:(kidx l n).isSome=(kfind l n).isSome:=by
 rcases kidx_find l n with ⟨h1,h2⟩ | ⟨k,h1,_,h2⟩
 ·rw [h1,h2]; rfl
 ·rw [h1,h2]; rfl
set_option maxHeartbeats 4000000 in
set_option maxRecDepth 100000 in
theorem headers_ct (hv : ksysR S v l) : Reads Tryz.prog 48 #[v] [S] (.tuple #[.int .i64 (firstAt (formalsE l) l).1, sv (firstAt (formalsE l) l).2]) := by
 have hml:maxLen=9223372036854775807:=rfl
 obtain ⟨va,vc,rfl,hlc,hcm,_⟩:=id hv
 refine ct_of (n:=86) Tryz.func48 Z Z (len Z) fun hr w0=>?_
 refine cQ (sA Z (sA Z (sN (nT (cS (cQ (sA Z (sN (nT (cB (cd_lq (σ := Nat) (fun i=>[(0,.slice va l.length vc),(4,.int .i64 (i:Nat))]) (fun _=>S::hr) (fun i=>i≤l.length∧firstAt (formalsE l) l=firstAt (formalsE l) (l.drop i)) (fun i=>l.length - i) 0 ⟨Nat.zero_le _,Z⟩ ?_)))))))))))
 rintro i ⟨hi,hal⟩
 refine cS (cQ (sM Z (sM Z (sV (v_len Z Tryz.underlying22) (sV (v_lss Z Z) (sK [0,4,12] Z (cC Z (fun hd=>?_) (fun hd=>?_))))))))
 ·have hlt:i<l.length:=by simpa using hd
  obtain ⟨b,o,cap2,us,e1,_,hrd,d,f,pv,c2,ffa,ffc,i2,rfl,hone,hrow,_⟩:=Row.at hv (List.getElem?_eq_getElem hlt)
  cases e1
  rw [List.drop_eq_getElem_cons hlt,firstAt] at hal
  generalize l[i]=x at hrd hone hrow hal
  obtain ⟨fa,fcap,rfl,hlc2,hcm2,_⟩:=id hrow
  refine cK (xT (cS (cB (cQ (sM Z (sM Z (sV (vI (k:=i) Z Z sl22 Z hlt Z) (sV (v_ldn Z ld54 Z hrd) ?_))))))))
  refine st_alc al54 fun b5=>?_
  refine st_stoW Z Z sz54 Z hone ?_
  refine sK [0,4,5] Z (cS (cQ (sV (vF Z fa54_2 Z) (sV (vY Z ld48) ?_))))
  refine sV (v_len Z Tryz.underlying48) (sV (v_gtr Z Z) (sK [0,4,5,22] Z (cC Z (fun hq=>?_) (fun hq=>?_))))
  ·have h3:formalsE l x=3:=if_pos (by have:=of_decide_eq_true hq; omega)
   rw [h3,if_pos (by decide)] at hal
   rw [hal]
   refine cS (cd_drawh (ork [(0,2),(1,1),(2,2),(3,2)] .nil) (fun _=>true) mixed (by kernel_rfl) ?_)
   refine dV Z (vF Z fa54_0 Z) (dr_v Z (vY Z ld9) ?_)
   refine dV Z (vA Z) (dV Z (vA Z) (dr_nil (nK [2,3] Z (nT (cT (xR (xW (xR (xR (xW (xR ?_)))))))))))
   exact xt_rt Z ⟨Z,Z⟩ sbq
  ·have hfe:formalsE l x=firstE (fmEs l x.formals):=if_neg (by have:=of_decide_eq_false hq; omega)
   rw [hfe] at hal
   refine cK (xT (cQ (sA Z (sK [0,4,5,6] Z (cB (cd_lq (σ := Nat) (fun k=>[(0,.slice (some ⟨b,o,none⟩) l.length vc),(4,.int .i64 (i:Nat)),(5,.pointer (some ⟨b5,0,none⟩)),(6,.int .i64 (k:Nat))]) (fun _=>pt b5 (cl [sv x.name,d,.slice fa x.formals.length fcap,pv,c2,.slice ffa x.feats ffc,i2] 54)::S::hr) (fun k=>k≤x.formals.length∧firstE (fmEs l x.formals)=firstE ((fmEs l x.formals).drop k)) (fun k=>x.formals.length - k) 0 ⟨Nat.zero_le _,Z⟩ ?_))))))
   rintro k ⟨hk,hak⟩
   refine cS (cQ (sM Z (sV (vF Z fa54_2 Z) (sV (vY Z ld48) ?_))))
   refine sV (v_len Z Tryz.underlying48) (sV (v_lss Z Z) (sK [0,4,5,6,29] Z (cC Z (fun hdk=>?_) (fun hdk=>?_))))
   ·have hltk:k<x.formals.length:=by simpa using hdk
    obtain ⟨bf,of,cap3,e2,hrf⟩:=fm_at hrow (List.getElem?_eq_getElem hltk)
    cases e2
    have hrt:=hrow.take (k:=k) (by omega)
    rw [fmEs_drop hltk,firstE] at hak
    generalize x.formals[k]=f at hrf hak
    unfold fmA at hrf
    have hE:∀ e:Int,e≠0→fmE l x.formals k f=e→firstAt (formalsE l) l=(e,x.name):=fun e he h=>by
     rw [h,if_pos he] at hak
     rw [hak,if_pos he] at hal; exact hal
    have hfm:fmE l x.formals k f=if named f.name=false then 4
     else if (kfind l f.name).isSome∨(fidx (x.formals.take k) f.name).isSome then 6
     else if (kfind l f.bound).isSome=false∧f.bound≠root then 5
     else if (fmsOf l f.bound).length≠0 then 8 else 0:=rfl
    refine cK (xT (cS (cB (cQ (sV (vF Z fa54_2 Z) (sV (vY Z ld48) ?_))))))
    refine sM Z (sV (vI (k:=k) Z Z sl48 Z hltk Z) (sV (v_ldn Z ld94 Z hrf) ?_))
    refine st_alc al94 fun b7=>?_
    refine st_stoW Z Z sz94 Z Z ?_
    refine sK [0,4,5,6,7] Z (cS (cQ (sV (vF Z fa94_0 Z) (sV (vY Z ld9) ?_))))
    refine st_clr Z Z en87 Z (capital_ct f.name) ?_
    refine sV (v_not Z) (sK [0,4,5,6,7,40] Z (cC Z (fun hn=>?_) (fun hn=>?_)))
    ·have hn:named f.name=false:=by simpa using hn
     rw [if_pos hn] at hfm
     rw [hE 4 (by decide) hfm]
     refine cS (cd_drawh (ork [(0,2),(1,1),(2,2),(3,2)] .nil) (fun _=>true) mixed (by kernel_rfl) ?_)
     refine dV Z (vF Z fa54_0 Z) (dr_v Z (vY Z ld9) ?_)
     refine dV Z (vA Z) (dV Z (vA Z) (dr_nil (nK [2,3] Z (nT (cT (xR (xW (xR (xR (xW (xW (xR (xR (xW (xR ?_)))))))))))))))
     exact xt_rt Z ⟨Z,Z⟩ sbq
    ·have hn:named f.name=true:=by simpa using hn
     rw [if_neg (by rw [hn]; decide)] at hfm
     refine cK (xT (cS (cS (cd_drawh (ork [(0,2),(1,1),(2,2),(3,1),(4,2),(5,1),(6,1),(7,2),(8,2),(9,2),(10,2),(11,1),(12,1),(13,2),(14,2)] .nil) (fun _=>true) mixed (by kernel_rfl) ?_))))
     refine dV Z (vF Z fa54_2 Z) (dr_v Z (vY Z ld48) ?_)
     refine dV Z (vM Z) (dr_v Z (v_sliceHeadA (hi:=k) Z Z sl48 Z (by omega)) (dV Z (vF Z fa94_0 Z) (dr_v Z (vY Z ld9) ?_)))
     refine dr_clr Z Z Z en66 Z (formalR_ct hrt f.name) ?_
     refine dV Z (v_geq Z Z) (dV Z (vM Z) (dr_cut (k:=6) (d:=57) (v:=.bool (decide ((0:Int)≤ixD (fidx (x.formals.take k) f.name)) || decide ((0:Int)≤ixD (kidx l f.name)))) (fun hcut=>bool_want (b:=decide ((0:Int)≤ixD (fidx (x.formals.take k) f.name))) false (fun hg=>?_) (fun hg=>?_)) ?_))
     ·refine dp_sk Z Z Z hg ?_
      refine dp_sk Z Z Z hg ?_
      iterate 2 refine dr_sk rfl rfl rfl hg ?_
      refine dp_sk Z Z Z hg ?_
      refine dV Z (vQ (bO Z hg) Z) ?_
      exact hcut _ uG
     ·refine dp_vg Z Z (bG Z hg) (vM Z) (dp_vg Z Z (bG Z hg) (vF Z fa94_0 Z) (dr_vg Z Z (bG Z hg) (vY Z ld9) ?_))
      refine dr_clrg Z Z (bG Z hg) Z Z en49 Z (findR_ct hv f.name) ?_
      refine dp_vg Z Z (bG Z hg) (v_geq Z Z) (dV Z (vP (bO Z hg) Z) ?_)
      exact hcut _ uG
     rw [ix_some,ix_some,kidx_is]
     refine dr_nil (nK [0,4,5,6,7,57] Z (nT (cC Z (fun h6=>?_) (fun h6=>?_))))
     ·have h6:((fidx (x.formals.take k) f.name).isSome || (kfind l f.name).isSome)=true:=h6
      rw [if_pos (by rw [Bool.or_eq_true] at h6; exact h6.symm)] at hfm
      rw [hE 6 (by decide) hfm]
      refine cS (cd_drawh (ork [(0,2),(1,1),(2,2),(3,2)] .nil) (fun _=>true) mixed (by kernel_rfl) ?_)
      refine dV Z (vF Z fa54_0 Z) (dr_v Z (vY Z ld9) ?_)
      refine dV Z (vA Z) (dV Z (vA Z) (dr_nil (nK [2,3] Z (nT (cT (xR (xW (xR (xR (xW (xW (xR (xR (xW (xR ?_)))))))))))))))
      exact xt_rt Z ⟨Z,Z⟩ sbq
     ·have h6:((fidx (x.formals.take k) f.name).isSome || (kfind l f.name).isSome)=false:=h6
      rw [Bool.or_eq_false_iff] at h6
      rw [if_neg (by rw [h6.1,h6.2]; decide)] at hfm
      obtain ⟨hk1,hk2⟩ | ⟨j,hk1,hkj,hk2⟩:=kidx_find l f.bound
      ·have hix:ixD (kidx l f.bound) = -1:=by rw [hk1]; rfl
       have hf0:fmsOf l f.bound=[]:=by unfold fmsOf; rw [hk2]; rfl
       refine cK (xT (cQ (sM Z (sV (vF Z fa94_1 Z) (sV (vY Z ld9) ?_)))))
       refine st_clr Z Z en49 Z (findR_ct hv f.bound) ?_
       rw [hix]
       refine sA Z (sK [0,4,5,6,7,8] Z (cS (cQ (sM Z (sV (v_lss Z Z) (sM Z (sG Z Z (vF Z fa94_1 Z) (sG Z Z (vY Z ld9) ?_))))))))
       refine sG Z Z (v_sneq Z Z) (sV (vQ Z Z) (sK [0,4,5,6,8,70] Z (cC Z (fun h5=>?_) (fun h5=>?_))))
       ·have h5:(f.bound != root)=true:=h5
        rw [hk2,if_pos ⟨rfl,by simpa using h5⟩] at hfm
        rw [hE 5 (by decide) hfm]
        refine cS (cd_drawh (ork [(0,2),(1,1),(2,2),(3,2)] .nil) (fun _=>true) mixed (by kernel_rfl) ?_)
        refine dV Z (vF Z fa54_0 Z) (dr_v Z (vY Z ld9) ?_)
        refine dV Z (vA Z) (dV Z (vA Z) (dr_nil (nK [2,3] Z (nT (cT (xR (xW (xR (xR (xW (xW (xR (xR (xW (xR ?_)))))))))))))))
        exact xt_rt Z ⟨Z,Z⟩ sbq
       ·have h5:(f.bound != root)=false:=h5
        rw [if_neg (by simp at h5; simp [h5]),hf0,if_neg (by decide)] at hfm
        rw [hfm,if_neg (by decide)] at hak
        refine cK (xT (cQ (sM Z (sV (v_geq Z Z) (sM Z (st_sk Z Z Z ?_))))))
        iterate 6 refine st_sk rfl rfl rfl ?_
        refine sV (vP Z Z) (sK [0,4,5,6,83] Z (cd_false Z ?_))
        refine cK (xB (xT (cR (sM Z (sV (v_add Z Z (by unfold I64 at *; omega)) (sA Z (sN (nK [0,4,5,6] Z (nx_xt ?_)))))))))
        refine xt_aq (k+1) ⟨hltk,hak⟩ (Nat.sub_lt_sub_left hltk (Nat.lt_succ_self k))
      ·have hix:ixD (kidx l f.bound)=(j:Int):=by rw [hk1]; rfl
       have hf0:fmsOf l f.bound=l[j].formals:=fmsOf_some hk2
       obtain ⟨bl,ol,capl,us,e0,_,hrd0,dd,ff,pv2,cc2,fffa,fffc,i3,rfl,hone0,hrowf,_⟩:=Row.at hv (List.getElem?_eq_getElem hkj)
       cases e0
       rw [hk2,if_neg (by rintro ⟨h,_⟩; cases h),hf0] at hfm
       generalize l[j]=xj at hrd0 hrowf hfm hone0
       obtain ⟨ga,gc,rfl,hlcg,hcmg,_⟩:=id hrowf
       refine cK (xT (cQ (sM Z (sV (vF Z fa94_1 Z) (sV (vY Z ld9) ?_)))))
       refine st_clr Z Z en49 Z (findR_ct hv f.bound) ?_
       rw [hix]
       refine sA Z (sK [0,4,5,6,7,8] Z (cS (cQ (sM Z (sV (v_lss Z Z) (sM Z ?_))))))
       rw [show decide ((j:Int)<0)=false from decide_eq_false (by omega)]
       iterate 3 refine st_sk rfl rfl rfl ?_
       refine sV (vP Z Z) (sK [0,4,5,6,8,70] Z (cd_false Z ?_))
       refine cK (xT (cQ (sM Z (sV (v_geq Z Z) (sM Z ?_)))))
       rw [show decide ((0:Int)≤(j:Int))=true from decide_eq_true (by omega)]
       refine sG Z Z (vM Z) (sG Z Z (vM Z) (sG Z Z (vI (k:=j) Z Z sl22 Z hkj Z) (sG Z Z (vF Z fa54_2 Z) (sG Z Z (vY Z ld48) ?_))))
       refine sG Z Z (v_len Z Tryz.underlying48) (sG Z Z (v_gtr Z Z) (sV (vQ Z Z) (sK [0,4,5,6,83] Z (cC Z (fun h8=>?_) (fun h8=>?_)))))
       ·have h8:(0:Int)<(xj.formals.length:Nat):=of_decide_eq_true h8
        rw [if_pos (by omega)] at hfm
        rw [hE 8 (by decide) hfm]
        refine cS (cd_drawh (ork [(0,2),(1,1),(2,2),(3,2)] .nil) (fun _=>true) mixed (by kernel_rfl) ?_)
        refine dV Z (vF Z fa54_0 Z) (dr_v Z (vY Z ld9) ?_)
        refine dV Z (vA Z) (dV Z (vA Z) (dr_nil (nK [2,3] Z (nT (cT (xW (xR (xR (xW (xW (xR (xR (xW (xR ?_))))))))))))))
        exact xt_rt Z ⟨Z,Z⟩ sbq
       ·have h8:¬ (0:Int)<(xj.formals.length:Nat):=of_decide_eq_false h8
        rw [if_neg (by omega)] at hfm
        rw [hfm,if_neg (by decide)] at hak
        refine cK (xB (xT (cR (sM Z (sV (v_add Z Z (by unfold I64 at *; omega)) (sA Z (sN (nK [0,4,5,6] Z (nx_xt ?_)))))))))
        refine xt_aq (k+1) ⟨hltk,hak⟩ (Nat.sub_lt_sub_left hltk (Nat.lt_succ_self k))
   ·have hkl:k=x.formals.length:=by
     have:¬ k<x.formals.length:=by simpa using hdk
     omega
    rw [List.drop_eq_nil_of_le (by simp [fmEs,hkl]),firstE] at hak
    rw [hak,if_neg (by decide)] at hal
    refine cd_exit (xE (xE (xY (xB (xT (cR (sM Z (sV (v_add Z Z (by unfold I64 at *; omega)) (sA Z (sN (nK [0,4] Z (nx_xt ?_))))))))))))
    refine xt_aq (i+1) ⟨hlt,hal⟩ (Nat.sub_lt_sub_left hlt (Nat.lt_succ_self i))
 ·have hil:i=l.length:=by
   have:¬ i<l.length:=by simpa using hd
   omega
  rw [hil,List.drop_length,firstAt] at hal
  rw [hal]
  refine cd_exit (xE (xE (xY (xT (cQ (sA Z (sA Z (sK [2,3] Z (cT ?_)))))))))
  exact xt_rt Z ⟨Z,Z⟩ sbq
end
end Go.Hr
namespace Go.Hr
open Go Go.RowKit Go.Ck Go.Proofs Go.Proofs.YtaohbfnepjjdgaaGreat Fx
attribute [local irreducible] Go.Ck.Sub St Cd Xt Nx DrL LsW
section
variable {S T N R:Res} {v:Value} {F:List Fm} {A:List Kt} {l:KS} {s t:Kt} {ts:List Kt} {rows:List (List Value)}
theorem stepE_big {o:Own} {a:Nm} {seen:List Kt} (h:400<partss seen):stepE o a seen=3:=by
 unfold stepE
 rw [decide_eq_false (by omega)]; rfl
theorem stepE_clash {o:Own} {a:Nm} {seen:List Kt} (h:partss seen≤400) (hc:((o a).isSome && !(sames ((o a).getD []) seen))=true):stepE o a seen=10:=by
 unfold stepE
 rw [decide_eq_true (by omega),show (!(o a).isSome || sames ((o a).getD []) seen)=false by
  rw [Bool.and_eq_true,Bool.not_eq_true'] at hc
  rw [hc.1,hc.2]; rfl]; rfl
theorem stepE_fine {o:Own} {a:Nm} {seen:List Kt} (h:partss seen≤400) (hc:((o a).isSome && !(sames ((o a).getD []) seen))=false):stepE o a seen=0:=by
 unfold stepE
 rw [decide_eq_true (by omega),show (!(o a).isSome || sames ((o a).getD []) seen)=true by
  cases h1:(o a).isSome with
  | false=>rfl
  | true=>rw [h1,Bool.true_and] at hc; simpa using hc]; rfl
set_option maxHeartbeats 8000000 in
set_option maxRecDepth 100000 in
theorem tablesR_ct (h : HRight l) (hv : ksysR S v l) (hb : ∀ x ∈ l, ∀ p ∈ x.parents, ∀ a ∈ p.args, a.parts ≤ 200) :
  CtN Tryz.prog 52 #[v] [S] fun u T=>∃ mv,u = .tuple #[mv,.int .i64 (tabsE (tabs l)).1,sv (tabsE (tabs l)).2]∧mv.oneCell'=true∧∀ all,tabs l = .ok all→∃ b M,mv = .map (some b)∧MIn T b M∧TabR S T M all:=by
 have hml:maxLen=9223372036854775807:=rfl
 have hrb:reachBytes=140737488351232:=rfl
 have hR:=h.right
 have hre:rightE (ksys l) []=0:=rightE_zero.2 ⟨hR,by simp⟩
 have hl:(ksys l).length≤1000000:=by have:=hR.len; omega
 have hsys:sysR S v (ksys l):=hv.sys
 obtain ⟨hTp,hmem⟩:=order_spec hR.acyc hR.uniq
 obtain ⟨va,vc,rfl,hlcv,hcmv,_⟩:=id hv
 unfold tabs
 refine ct_of (n:=124) Tryz.func52 Z Z (len Z) fun hr w0=>?_
 refine cQ (sA Z (sA Z (sA Z (sN (nT (cQ (st_smakeMap (ltn Z) fun b19=>?_)))))))
 refine sA Z (sK [0,2,3,4,5] Z (cQ (sM Z (st_cl Z Z en90 Z (OrderS_ct hsys hl) ?_))))
 rintro u h' ⟨T0,rfl,w,rfl,hw1,hnr⟩
 simp only [lC,lN]
 rw [hre,okL_eq rfl] at hnr
 refine sV (v_field1 (cs:=[w,.int .i64 (rightE (ksys l) [])]) Z Tryz.underlying123 Z (fun w=>by simp [isAgg,run_underlying Tryz.underlying50]) Z) ?_
 obtain ⟨oa,oc,rfl,_⟩:=id hnr
 generalize order (ksys l)=ord at *
 refine sA rfl (sK [0,2,3,4,5,6] rfl (cS (cQ (sA rfl (sN (nT (cB (cd_vw (vw_unstar (L:=[])) (cd_lq (σ := List (Bs×Value)×Res×List (Nm×Own)×Nat) (fun q=>[(0,.slice va l.length vc),(5,.map (some b19)),(6,.slice oa ord.length oc),(7,.int .i64 (q.2.2.2:Nat))]) (fun q=>mps b19 q.1::q.2.1::T0::S::hr) (fun q=>q.2.2.2≤ord.length∧tabGo l ord []=tabGo l (ord.drop q.2.2.2) q.2.2.1∧q.2.2.1.map (·.1)=ord.take q.2.2.2∧TabR S q.2.1 q.1 q.2.2.1∧∀ c o,alook q.2.2.1 c=some o→Sm o) (fun q=>ord.length - q.2.2.2) ([],Res.star [],[],0) ⟨Nat.zero_le _,rfl,rfl,TabR.nil,fun c o h=>by cases h⟩ ?_)))))))))
 rintro ⟨M,T,all,i⟩ ⟨hi,hta,hnm,hT,hS⟩
 simp only at hi hta hnm hT hS
 dsimp only
 refine cS (cQ (sM Z (sM Z (sV (v_len Z Tryz.underlying50) (sV (v_lss Z Z) (sK [0,5,6,7,26] Z (cC Z (fun hd=>?_) (fun hd=>?_))))))))
 ·have hlt:i<ord.length:=by simpa using hd
  obtain ⟨bo,oo,cap2,u,e1,hro,hX⟩:=Row.at1 hnr (List.getElem?_eq_getElem hlt)
  cases e1
  have hX:[u]=[sv ord[i]]:=hX
  have hcm:ord[i]∈ord:=List.getElem_mem hlt
  have hmid:=Tp.mid (a:=ord.take i) (c:=ord[i]) (t:=ord.drop (i+1)) (by rw [← List.drop_eq_getElem_cons hlt,List.take_append_drop]; exact hTp)
  have htk:ord.take (i+1)=ord.take i++[ord[i]]:=by rw [List.take_add_one,List.getElem?_eq_getElem hlt]; rfl
  rw [List.drop_eq_getElem_cons hlt] at hta
  generalize ord[i]=c at hX hcm hmid htk hta
  cases hX
  obtain ⟨_,hk2⟩ | ⟨kx,hk1,hkx,hx⟩:=kidx_find l c
  ·have:=isC_iff.2 ((hmem c).1 hcm)
   rw [← kfind_isC,hk2] at this; cases this
  have hix:ixD (kidx l c)=(kx:Int):=by rw [hk1]; rfl
  obtain ⟨bl,ol,capl,us,e0,_,hrd0,hcx⟩:=Row.at hv (List.getElem?_eq_getElem hkx)
  cases e0
  generalize l[kx]=x at hrd0 hcx hx
  obtain ⟨hxn,hxl⟩:=kfind_some hx
  rw [tabGo,hx] at hta
  simp only [] at hta
  obtain ⟨d,ff,pv,c2,ffa,ffc,i2,rfl,hone,hrow,hrowp⟩:=hcx
  subst hxn
  obtain ⟨fa,fcap,rfl,_⟩:=id hrow
  obtain ⟨pa,pcap,rfl,hplc,hpcm,_⟩:=id hrowp
  have hpar:=kpar hR hx
  have hbx:=hb x hxl
  generalize htg:ownGo l all (pairs l x) (own0 x)=TG at hta
  refine cK (xT (cS (cB (cQ (sM Z (sM Z (sM Z (sM Z (sV (vI (k:=i) Z Z sl50 Z hlt Z) (sV (vY Z ld9) ?_))))))))))
  refine st_clr Z Z en49 Z (findR_ct hv x.name) ?_
  rw [hix]
  refine sV (vI (k:=kx) Z Z sl22 Z hkx Z) (sV (v_ldn Z ld54 Z hrd0) ?_)
  refine st_alc al54 fun b8=>?_
  refine st_stoW Z Z sz54 Z hone ?_
  refine sK [0,5,6,7,8] Z (cQ (st_smakeMap (ltn Z) fun b38=>?_))
  refine sA Z (sK [0,5,6,7,8,9] Z (cS (cd_drawh (ork [(0,2),(1,2),(2,1),(3,2),(4,1),(5,0),(6,0)] .nil) (fun i => !(Nat.beq i 6)) mixed (by kernel_rfl) ?_)))
  refine dV Z (vM Z) (dV Z (vF Z fa54_0 Z) (dr_v Z (vY Z ld9) ?_))
  refine dV Z (vF Z fa54_2 Z) (dr_v Z (vY Z ld48) ?_)
  refine dr_eff Z (st_cl Z Z en91 Z (ownR_ct hrow (h.fm_len hxl)) ?_)
  rintro u h' ⟨T1,rfl,a1,c1,rfl,hT1⟩
  simp only [lC,lN]
  refine dr_nx ?_
  refine dr_eff Z (st_smapUpdate Z Z Z mp142 slq ?_)
  refine dr_nx ?_
  refine dr_nil (nK [0,5,6,7,8,9] Z (nT (cS (cQ (sA Z (sN (nT (cB (cd_pv (pv_pack (L:=[T,T1])) ?_)))))))))
  simp only [lC,lN]
  refine cd_lq (σ := List (Bs×Value)×Res×Own×Nat) (fun q=>[(0,.slice (some ⟨bl,ol,none⟩) l.length vc),(5,.map (some b19)),(6,.slice (some ⟨bo,oo,none⟩) ord.length oc),(7,.int .i64 (i:Nat)),(8,.pointer (some ⟨b8,0,none⟩)),(9,.map (some b38)),(10,.int .i64 (q.2.2.2:Nat))]) (fun q=>mps b19 M::mps b38 q.1::q.2.1::pt b8 (cl [sv x.name,d,.slice fa x.formals.length fcap,.slice pa x.parents.length pcap,c2,.slice ffa x.feats ffc,i2] 54)::T0::S::hr) (fun q=>q.2.2.2≤x.parents.length∧TG=ownGo l all (prs l (x.parents.drop q.2.2.2)) q.2.2.1∧OwnR (Res.star [q.2.1,S]) q.1 q.2.2.1∧TabR S q.2.1 M all∧Sm q.2.2.1) (fun q=>x.parents.length - q.2.2.2) (supd [] x.name (.slice a1 x.formals.length c1),Res.star [T,T1],own0 x,0) ⟨Nat.zero_le _,htg.symm,OwnR.nil.upd (hT1.mono fun p u g=>rd_in .here p u (rd_in (.there .here) p u g)),hT.up .here,Sm.own0 (h.fm_len hxl)⟩ ?_
  clear hT hT1 htg
  rintro ⟨mo,T,o,j⟩ ⟨hj,htg,hO,hT,hSo⟩
  simp only at hj htg hO hT hSo
  dsimp only
  refine cS (cQ (sM Z (sV (vF Z fa54_3 Z) (sV (vY Z ld49) ?_))))
  refine sV (v_len Z Tryz.underlying49) (sV (v_lss Z Z) (sK [0,5,6,7,8,9,10,49] Z (cC Z (fun hdj=>?_) (fun hdj=>?_))))
  ·have hltj:j<x.parents.length:=by simpa using hdj
   have hmp:=List.getElem_mem hltj
   obtain ⟨bq,oq,capq,us,e2,hus,hrd,hXp⟩:=Row.at hrowp (List.getElem?_eq_getElem hltj)
   cases e2
   rw [List.drop_eq_getElem_cons hltj] at htg
   generalize x.parents[j]=p at hmp hXp htg
   obtain ⟨y,p1,p2,p3,p4,rfl,hone2,hy⟩:=hXp
   obtain ⟨ya,yc,rfl,_⟩:=id hy.form
   have hpn:p.name∈par (ksys l) x.name:=by rw [hpar]; exact List.mem_map_of_mem hmp
   have hre2:rightE (ksys l) [p.name]=0:=rightE_zero.2 ⟨hR,fun n hn=>by simp at hn; subst hn; exact par_isC hpn⟩
   have hpa:p.name∈all.map (·.1):=by rw [hnm]; exact hmid.2 _ hpn
   obtain ⟨op,hop⟩:∃ op,alook all p.name=some op:=by
    cases ha:alook all p.name with
    | none=>exact absurd hpa (alook_none.1 ha)
    | some op=>exact ⟨op,rfl⟩
   have hsp:=fun a=>seenT_parts (l:=l) (a:=a) hS (hbx p hmp)
   have hst:∀ a,seenT l all p a=((op a).getD []).map (Kt.subst (fmsOf l p.name) p.args):=fun a=>by unfold seenT; rw [hop]; rfl
   obtain ⟨_,hk4⟩ | ⟨ky,hk3,hky,hxy⟩:=kidx_find l p.name
   ·have:=par_isC hpn
    rw [← kfind_isC,hk4] at this; cases this
   have hix2:ixD (kidx l p.name)=(ky:Int):=by rw [hk3]; rfl
   obtain ⟨bl2,ol2,capl2,us2,e0,_,hrd2,dd,ff2,pv2,cc2,ffa2,ffc2,i3,rfl,_,hrow3,_⟩:=Row.at hv (List.getElem?_eq_getElem hky)
   cases e0
   rw [← show fmsOf l p.name=l[ky].formals from fmsOf_some hxy] at hrow3
   obtain ⟨qa,qcap,rfl,_⟩:=id hrow3
   rw [show prs l (p::x.parents.drop (j+1))=((above (ksys l) p.name).map fun a=>(p,a))++prs l (x.parents.drop (j+1)) by simp [prs]] at htg
   refine cK (xT (cS (cB (cQ (sV (vF Z fa54_3 Z) (sV (vY Z ld49) ?_))))))
   refine sM Z (sV (vI (k:=j) Z Z sl49 Z hltj Z) (sV (v_ldn Z ld79 Z hrd) ?_))
   refine st_alc al79 fun b11=>?_
   refine st_stoW Z Z sz79 Z hone2 ?_
   refine sK [0,5,6,7,8,9,10,11] Z (cQ (sM Z (sV (vF Z fa79_0 Z) (sV (vY Z ld9) ?_))))
   refine st_cl Z Z en92 Z (AboveS_ct hsys hl p.name) ?_
   rintro u h' ⟨T2,rfl,w2,rfl,hw2,hur⟩
   simp only [lC,lN]
   rw [hre2,okL_eq rfl] at hur
   refine sV (v_field1 (cs:=[w2,.int .i64 (rightE (ksys l) [p.name])]) Z Tryz.underlying123 Z (fun w=>by simp [isAgg,run_underlying Tryz.underlying50]) Z) ?_
   obtain ⟨ua,uc,rfl,_⟩:=id hur
   generalize above (ksys l) p.name=up at *
   refine sA Z (sK [0,5,6,7,8,9,10,11,12] Z (cQ (sM Z (sM Z (sV (vF Z fa79_0 Z) (sV (vY Z ld9) ?_))))))
   refine st_clr Z Z en49 Z (findR_ct hv p.name) ?_
   rw [hix2]
   refine sV (vI (k:=ky) Z Z sl22 Z hky Z) (sV (vF Z fa54_2 Z) (sV (vY Z ld48) ?_))
   refine sA Z (sK [0,5,6,7,8,9,10,11,12,13] Z (cQ (sA Z (sN (nT (cB (cd_lq (σ := List (Bs×Value)×Res×Own×Nat) (fun q=>[(0,.slice (some ⟨bl,ol,none⟩) l.length vc),(5,.map (some b19)),(6,.slice (some ⟨bo,oo,none⟩) ord.length oc),(7,.int .i64 (i:Nat)),(8,.pointer (some ⟨b8,0,none⟩)),(9,.map (some b38)),(10,.int .i64 (j:Nat)),(11,.pointer (some ⟨b11,0,none⟩)),(12,.slice ua up.length uc),(13,.slice qa (fmsOf l p.name).length qcap),(14,.int .i64 (q.2.2.2:Nat))]) (fun q=>mps b19 M::mps b38 q.1::q.2.1::pt b11 (cl [sv p.name,.slice ya p.args.length yc,p1,p2,p3,p4] 79)::pt b8 (cl [sv x.name,d,.slice fa x.formals.length fcap,.slice (some ⟨bq,oq,none⟩) x.parents.length pcap,c2,.slice ffa x.feats ffc,i2] 54)::T2::T0::S::hr) (fun q=>q.2.2.2≤up.length∧TG=ownGo l all (((up.drop q.2.2.2).map fun a=>(p,a))++prs l (x.parents.drop (j+1))) q.2.2.1∧OwnR (Res.star [q.2.1,S]) q.1 q.2.2.1∧TabR S q.2.1 M all∧Sm q.2.2.1) (fun q=>up.length - q.2.2.2) (mo,T,o,0) ⟨Nat.zero_le _,htg,hO,hT,hSo⟩ ?_)))))))
   clear htg hO hT hSo
   rintro ⟨mo,T,o,k⟩ ⟨hk,htg,hO,hT,hSo⟩
   simp only at hk htg hO hT hSo
   dsimp only
   refine cS (cQ (sM Z (sM Z (sV (v_len Z Tryz.underlying50) (sV (v_lss Z Z) (sK [0,5,6,7,8,9,10,11,12,13,14,73] Z (cC Z (fun hdk=>?_) (fun hdk=>?_))))))))
   ·have hltk:k<up.length:=by simpa using hdk
    obtain ⟨bu,ou,capu,u,e3,hru,hXu⟩:=Row.at1 hur (List.getElem?_eq_getElem hltk)
    cases e3
    have hXu:[u]=[sv up[k]]:=hXu
    rw [List.drop_eq_getElem_cons hltk,List.map_cons,List.cons_append] at htg
    generalize up[k]=a at hXu htg
    cases hXu
    rw [ownGo_step] at htg
    have hsp:=hsp a
    rw [hst a] at htg hsp
    obtain ⟨bp,mp,hlp,hin,hwp⟩:=hT p.name op hop
    obtain ⟨vt,hgv,hvt⟩:=hwp.get a
    obtain ⟨tya,tyc,rfl,_⟩:=id hvt.form
    obtain ⟨wv,hgw,hwas⟩:=hO.get2 a
    generalize hTB:(op a).getD []=tb at *
    have hsa:=substAll_ct (hrow3.mono (rd_in (.there .here)) fun _ _ _ h=>h) (hy.mono (rd_in (.there .here))) hvt
    refine cK (xT (cS (cB (cS (cd_drawh (ork [(0,2),(1,2),(2,1),(3,2),(4,2),(5,1),(6,1),(7,2),(8,2),(9,2),(10,1),(11,1),(12,0),(13,2)] .nil) (fun i => !(Nat.beq i 12)) mixed (by kernel_rfl) ?_)))))
    refine dV Z (vM Z) (dV Z (vF Z fa79_1 Z) (dr_v Z (vY Z ld23) ?_))
    refine dV Z (vM Z) (dV Z (vF Z fa79_0 Z) (dr_v Z (vY Z ld9) ?_))
    refine dr_v Z (v_is (show (slook M p.name).getD (.map none) = .map (some bp) by rw [hlp]; rfl) (v_slookup Z Z mp96 inf142 slq)) ?_
    refine dV Z (vM Z) (dV Z (vM Z) (dV Z (vI (k:=k) Z Z sl50 Z hltk Z) (dr_v Z (vY Z ld9) ?_)))
    refine dr_v Z (v_is hgv (v_slookupI Z Z mp142 inf23 hin (show Sel _ T _ from slq))) ?_
    refine dr_eff Z ?_
    refine st_pv (pv_pack (L:=[T,S])) ?_
    simp only [lC,lN]
    refine st_cl Z Z en93 Z (hsa) ?_
    rintro u h' ⟨Tn,rfl,wa,wc,rfl,hseen⟩
    simp only [lC,lN]
    refine st_pv (pv_pack (L:=[Tn,Res.star [T,S]])) ?_
    simp only [lC,lN]
    refine dr_nx ?_
    have hwas2:Tys (Res.star [Tn,Res.star [T,S]]) wv ((o a).getD []):=hwas.mono (rd_in (.there .here))
    generalize tb.map (Kt.subst (fmsOf l p.name) p.args)=seen at hseen htg hsp
    have hwv:wv.oneCell'=true:=hwas.one
    refine dV Z (vA Z) (dr_nil (nK [0,5,6,7,8,9,10,11,12,13,14,15] Z (nT (cS (cQ (sM Z (st_clr Z Z en94 Z ((PartsR_ct _ seen _ (Nat.le_refl _) (by omega) hseen)) ?_)))))))
    refine sV (v_gtr Z Z) (sK [0,5,6,7,8,9,10,11,12,13,14,15,91] Z (cC Z (fun hq=>?_) (fun hq=>?_)))
    ·have hst3:stepE o a seen=3:=stepE_big (by have:=of_decide_eq_true hq; omega)
     rw [hst3,if_pos (by decide)] at htg
     rw [htg] at hta
     simp only [] at hta
     rw [hta]
     refine cS (cd_drawh (ork [(0,2),(1,1),(2,2),(3,2),(4,2)] .nil) (fun _=>true) mixed (by kernel_rfl) ?_)
     refine dV Z (vF Z fa54_0 Z) (dr_v Z (vY Z ld9) ?_)
     refine dV Z (vA Z) (dV Z (vA Z) (dV Z (vA Z) (dr_nil (nK [2,3,4] Z (nT (cT (xR (xW (xR (xR (xW (xW (xR (xR (xW ?_)))))))))))))))
     refine xR (xW (xR (xR (xW (xR (xt_pv (pv_unpack (L:=[Tn,Res.star [T,S]])) ?_))))))
     simp only [lC,lN]
     refine xt_pv (pv_unpack (L:=[T,S])) ?_
     simp only [lC,lN]
     exact xt_rt rfl ⟨T,rfl,_,rfl,rfl,fun all' h'=>by cases h'⟩ sbq
    ·have hq2:partss seen≤400:=by have:=of_decide_eq_false hq; omega
     refine cK (xT (cQ (sM Z (sM Z (sM Z (sV (vI (k:=k) Z Z sl50 Z hltk Z) (sV (vY Z ld9) ?_)))))))
     refine sV (v_is hgw (v_slookup_ok Z Z mp142 inf23 slq)) ?_
     refine sM Z (sV (v_extract Z Z) (sV (v_extract Z Z) (sA Z (sA Z (sK [0,5,6,7,8,9,10,11,12,13,14,15,16,17] Z (cQ (sM Z (sM Z (st_clr Z Z en25 Z (SameTypes_ct hwas2 hseen) ?_)))))))))
     refine sA Z (sK [0,5,6,7,8,9,10,11,12,13,14,15,17,18] Z (cS (cQ (sM Z (sM Z (st_cut (k:=5) (d:=110) (v:=.bool ((o a).isSome && !(sames ((o a).getD []) seen))) (fun hcut=>bool_want (b:=((o a).isSome)) true (fun hg=>?_) (fun hg=>?_)) ?_))))))
     ·refine st_sk Z Z hg ?_
      refine st_sk Z Z hg ?_
      refine sV (vP (bO Z hg) Z) ?_
      exact hcut _ uG
     ·refine sG Z (bG Z hg) (vM Z) (sG Z (bG Z hg) (v_not Z) (sV (vQ (bO Z hg) Z) ?_))
      exact hcut _ uG
     refine sK [0,5,6,7,8,9,10,11,12,13,14,15,110] Z (cC Z (fun hc=>?_) (fun hc=>?_))
     ·have hst10:stepE o a seen=10:=stepE_clash hq2 hc
      rw [hst10,if_pos (by decide)] at htg
      rw [htg] at hta
      simp only [] at hta
      rw [hta]
      refine cS (cd_drawh (ork [(0,2),(1,1),(2,2),(3,2),(4,2)] .nil) (fun _=>true) mixed (by kernel_rfl) ?_)
      refine dV Z (vF Z fa54_0 Z) (dr_v Z (vY Z ld9) ?_)
      refine dV Z (vA Z) (dV Z (vA Z) (dV Z (vA Z) (dr_nil (nK [2,3,4] Z (nT (cT (xR (xW (xR (xR (xW (xW (xR (xR (xW ?_)))))))))))))))
      refine xR (xW (xR (xR (xW (xR (xt_pv (pv_unpack (L:=[Tn,Res.star [T,S]])) ?_))))))
      simp only [lC,lN]
      refine xt_pv (pv_unpack (L:=[T,S])) ?_
      simp only [lC,lN]
      exact xt_rt rfl ⟨T,rfl,_,rfl,rfl,fun all' h'=>by cases h'⟩ sbq
     ·have hst0:stepE o a seen=0:=stepE_fine hq2 hc
      rw [hst0,if_neg (by decide)] at htg
      refine cK (xT (cR (sM Z (sM Z (sM Z (sV (vI (k:=k) Z Z sl50 Z hltk Z) (sV (vY Z ld9) ?_)))))))
      refine sM Z (st_smapUpdate Z Z Z mp142 slq ?_)
      refine sN (nK [0,5,6,7,8,9,10,11,12,13,14] Z (nx_xt (xB (xT (cR (sM Z (sV (v_add Z Z (by unfold I64 at *; omega)) (sA Z (sN (nK [0,5,6,7,8,9,10,11,12,13,14] Z (nx_xt (xt_pv (pv_unpack (L:=[Tn,Res.star [T,S]])) ?_))))))))))))
      simp only [lC,lN]
      refine xt_pv (pv_unpack (L:=[T,S])) ?_
      simp only [lC,lN]
      refine xt_pv (pv_pack (L:=[T,Tn])) ?_
      simp only [lC,lN]
      refine xt_aq (supd mo a (.slice wa seen.length wc),Res.star [T,Tn],oupd o a seen,k+1) ⟨hltk,htg,(hO.mono fun p u g=>rd_up p u .here g).upd (hseen.mono fun p u g=>rd_turn p u g),hT.up .here,hSo.upd hq2⟩ (Nat.sub_lt_sub_left hltk (Nat.lt_succ_self k))
   ·have hkl:k=up.length:=by
     have:¬ k<up.length:=by simpa using hdk
     omega
    rw [hkl,List.drop_length,List.map_nil,List.nil_append] at htg
    refine cd_exit (xE (xE (xY (xB (xT (cR (sM Z (sV (v_add Z Z (by unfold I64 at *; omega)) (sA Z (sN (nK [0,5,6,7,8,9,10] Z (nx_xt ?_))))))))))))
    refine xt_aq (mo,T,o,j+1) ⟨hltj,htg,hO,hT,hSo⟩ (Nat.sub_lt_sub_left hltj (Nat.lt_succ_self j))
  ·have hjl:j=x.parents.length:=by
    have:¬ j<x.parents.length:=by simpa using hdj
    omega
   rw [hjl,List.drop_length,show prs l []=[] from rfl,ownGo] at htg
   rw [htg] at hta
   simp only [] at hta
   refine cd_exit (xE (xE (xY (xT (cR (sM Z (sV (vF Z fa54_0 Z) (sV (vY Z ld9) ?_))))))))
   refine sM Z (st_smapUpdate Z Z Z mp96 slq ?_)
   refine sN (nK [0,5,6,7] Z (nx_xt (xB (xT (cR (sM Z (sV (v_add Z Z (by unfold I64 at *; omega)) (sA Z (sN (nK [0,5,6,7] Z (nx_xt (xt_pv (pv_pack (L:=[T,mps b38 mo])) ?_))))))))))))
   simp only [lC,lN]
   refine xt_aq (supd M x.name (.map (some b38)),Res.star [T,mps b38 mo],all++[(x.name,o)],i+1) ⟨hlt,hta,by rw [List.map_append,hnm,htk]; rfl,(hT.up .here).snoc (by rw [hnm]; exact hmid.1) (MIn.self.star (.there .here)) (hO.mono fun p u g=>rd_up p u .here g),fun c' o' hc'=>?_⟩ (Nat.sub_lt_sub_left hlt (Nat.lt_succ_self i))
   rw [alook_append] at hc'
   cases ha:alook all c' with
   | some o''=>rw [ha] at hc'; cases hc'; exact hS c' _ ha
   | none =>
    rw [ha,Option.none_or,alook_cons] at hc'
    split at hc'
    ·cases hc'; exact hSo
    ·cases hc'
 ·have hil:i=ord.length:=by
   have:¬ i<ord.length:=by simpa using hd
   omega
  rw [hil,List.drop_length,tabGo] at hta
  rw [hta]
  refine cd_exit (xE (xE (xY (xT (cQ (sM Z (sA Z (sA Z (sA Z (sK [2,3,4] Z (cT (xt_pv (pv_pack (L:=[mps b19 M,T])) ?_))))))))))))
  simp only [lC,lN]
  exact xt_rt rfl ⟨Res.star [mps b19 M,T],rfl,_,rfl,rfl,fun all' h'=>by cases h'; exact ⟨b19,M,rfl,MIn.self.star .here,hT.up (.there .here)⟩⟩ sbq
end
end Go.Hr
