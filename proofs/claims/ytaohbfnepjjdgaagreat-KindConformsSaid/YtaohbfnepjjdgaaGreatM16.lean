/-
  Package kind: formals replaced. Conditions: what is read.
  Maps inside of what is packed; tables of what formals are. Plain,and generic. No condition.
  Package kind: what formals of ancestors are (instances). Conditions: what is read; right headers; no type of a parent has more than 200 parts.
  Package kind: instances,walked. Conditions: what is read; right headers; no type of a parent has more than 200 parts.
  Package kind: the first error of a system. Conditions: what is read; no type of a parent is deeper than a million,none has more than 200 parts.
-/
import Derived.Test.YtaohbfnepjjdgaaGreatM15
import Derived.Test.YtaohbfnepjjdgaaGreatM10
set_option linter.unusedVariables false
set_option linter.unusedSimpArgs false
namespace Go.Hr
open Go Go.RowKit Go.Ck Go.Proofs Go.Proofs.YtaohbfnepjjdgaaGreat Fx
attribute [local irreducible] Go.Ck.Sub St Cd Xt Nx DrL LsW
section
variable {S T N R:Res} {v:Value} {F:List Fm} {A:List Kt} {l:KS} {m:List (Bs×Value)} {mb:Nat} {s t:Kt} {va:Option Addr} {vc:Nat} {ts:List Kt} {rows:List (List Value)}
theorem act_bool {n:Nm}:(decide ((0:Int)≤ixD (fidx F n)) && decide (ixD (fidx F n)<(A.length:Nat)))=(actOf F A n).isSome:=by
 unfold actOf
 cases h:fidx F n with
 | none=>rfl
 | some j =>
  rw [Option.bind_some,show ixD (some j)=(j:Int) from rfl,decide_eq_true (Int.natCast_nonneg j),Bool.true_and,Bool.eq_iff_iff,decide_eq_true_eq]
  by_cases hj:j<A.length
  ·rw [List.getElem?_eq_getElem hj]; simp; exact_mod_cast hj
  ·rw [List.getElem?_eq_none (by omega)]; simp; omega
theorem act_at {n:Nm} {a:Kt} (h:actOf F A n=some a):∃ j,fidx F n=some j∧A[j]? = some a:=by
 unfold actOf at h
 cases hj:fidx F n with
 | none=>rw [hj] at h; cases h
 | some j=>rw [hj] at h; exact ⟨j,rfl,h⟩
set_option maxRecDepth 100000 in
theorem sub61_ct {fa : Option Addr} {fcap : Nat} (hrow : Row S 2 fmC (.slice fa F.length fcap) F) {aa : Option Addr} {acap : Nat} (hA : Tys S (.slice aa A.length acap) A) {p3 p4 p7 : Nat} : ∀ (d : Nat) (t : Kt) (y : Value), t.depth ≤ d → Tys S y t.args →
  CtN Tryz.prog 61 #[.agg (tyC t y).toArray,.pointer (some ⟨p3,0,none⟩),.pointer (some ⟨p4,0,none⟩),.pointer (some ⟨p7,0,none⟩)]
   [pt p3 (cl [.slice fa F.length fcap] 48),pt p4 (cl [.slice aa A.length acap] 23),pt p7 (cl [.func (.func 61) #[] #[.pointer (some ⟨p3,0,none⟩),.pointer (some ⟨p4,0,none⟩),.pointer (some ⟨p7,0,none⟩)]] 76),S]
   fun u T=>∃ us:List Value,u = .agg us.toArray∧Ty (Res.star [T,S]) us (t.subst F A):=by
 intro d
 induction d with
 | zero=>intro t y hd; cases t; simp [Kt.depth] at hd
 | succ d ih =>
  rintro ⟨k,n,az,w,z⟩ y hd hy
  have hy:Tys S y az:=hy
  have hF:=fun a (ha:a∈az) y hy=>ih a y (by have:=depth_args (t:=.mk k n az w z) ha; omega) hy
  clear ih hd
  have hml:maxLen=9223372036854775807:=rfl
  have hrb:reachBytes=140737488351232:=rfl
  obtain ⟨xa,xc,rfl,hlc,hcm,_⟩:=hy.form
  have hbb:=hy.2
  show CtN _ _ #[.agg #[.int .i64 k,sv n,.slice xa az.length xc,.bool w,.bool z],_,_,_] _ _
  by_cases h4:k=4
  ·subst h4
   have ht:=fun f b => @tell63_ct (.mk 4 n az w z) f b (.slice xa az.length xc)
   rw [subst_formal]
   unfold tyC at ht
   refine ct_of (n:=73) Tryz.func61 Z Z (len Z) fun hr w0=>?_
   refine cQ (st_bx Z Z fun b4=>?_)
   refine st_alc al25 fun b5=>?_
   refine sK [1,2,3,4,5] Z (cS (cQ (sV (vF Z fa25_0 Z) (sV (vY Z ld3) ?_))))
   refine sK [1,2,3,4,5,12] Z (cB (cQ (sV (v_eql Z Z) (sA Z (sK [1,2,3,4,5,12,13] Z (cd_true Z ?_))))))
   refine cQ (sV (vY Z ld48) ?_)
   refine sV (v_makeFunc Z Z) (st_clr Z Z en62 Z (IdxF_ct (N:=pt b4 (cl [.int .i64 4,sv n,.slice xa az.length xc,.bool w,.bool z] 25)) (g:=fun f=>f.name == n) hrow en63 (fun f _=>ht f b4)) ?_)
   refine sA Z (sK [2,4,5,6] Z (cQ (sM Z (sV (v_geq Z Z) (sM Z ?_)))))
   rw [show List.findIdx? (fun f=>f.name == n) F=fidx F n from rfl]
   refine st_cut (k:=8) (d:=25) (v:=.bool (decide ((0:Int)≤ixD (fidx F n)) && decide (ixD (fidx F n)<(A.length:Nat)))) (fun hcut=>bool_want (b:=(decide ((0:Int)≤ixD (fidx F n)))) true (fun hg=>?_) (fun hg=>?_)) ?_
   ·refine st_sk Z Z hg ?_
    iterate 3 refine st_sk rfl rfl hg ?_
    refine sV (vP (bO Z hg) Z) ?_
    exact hcut _ uG
   ·refine sG Z (bG Z hg) (vM Z) (sG Z (bG Z hg) (vY Z ld23) ?_)
    refine sG Z (bG Z hg) (v_len Z Tryz.underlying23) (sG Z (bG Z hg) (v_lss Z Z) (sV (vQ (bO Z hg) Z) ?_))
    exact hcut _ uG
   rw [act_bool]
   cases hac:actOf F A n with
   | none =>
    refine sK [2,4,5,6,25] Z (cd_false Z ?_)
    refine cK (xB (xT (cQ (sV (vF Z fa25_2 Z) (sV (vY Z ld23) ?_)))))
    refine st_cl Z Z en64 Z (clone64_ct hy) ?_
    rintro u h' ⟨T,rfl,ca,cc,rfl,hT⟩
    simp only [lC,lN]
    refine sV (vF Z fa25_2 Z) (st_sto Z Z sz23 ?_)
    refine sK [4,5] Z (cQ (sV (v_ldn Z ld25 Z rds_pt) ?_))
    refine st_stoW Z Z sz25 Z Z ?_
    refine sK [5] Z (cT ?_)
    exact xt_retV (.cellN Z ld25 Z slq .nil) ⟨T,Z,_,Z,Ty.of (t:=.mk 4 n az w z) Z hT⟩ sbr
   | some a =>
    obtain ⟨j,hj,haj⟩:=act_at hac
    have hlt:j<A.length:=(List.getElem?_eq_some_iff.1 haj).1
    obtain ⟨b,o,cap2,us,e1,hus,hrd,hta⟩:=hA.at haj
    cases e1
    have hone:=hta.ones
    obtain ⟨y,rfl,hya⟩:=hta.out
    obtain ⟨ya,yc,rfl,_⟩:=id hya.form
    unfold tyC at hrd hone
    rw [hj]
    refine sK [2,4,5,6,25] Z (cd_true Z ?_)
    refine cQ (sV (vY Z ld23) ?_)
    refine sM Z (sV (vI (k:=j) Z Z sl23 Z hlt Z) (sV (v_ldn Z ld25 Z hrd) ?_))
    refine st_alc al25 fun b7=>?_
    refine st_stoW Z Z sz25 Z hone ?_
    refine sK [4,5,7] Z (cQ (sV (vF Z fa25_2 Z) (sV (vY Z ld23) ?_)))
    refine st_cl Z Z en64 Z (clone64_ct hya) ?_
    rintro u h' ⟨T,rfl,ca,cc,rfl,hT⟩
    simp only [lC,lN]
    refine sV (vF Z fa25_2 Z) (st_sto Z Z sz23 ?_)
    refine sK [4,5,7] Z (cS (cd_draw (ork [(0,2),(6,2)] (.two 1 (ork [(2,2),(3,2),(4,1),(5,2),(7,0),(8,2),(9,2),(10,1),(11,2),(12,2),(13,0),(14,2),(15,0)] .nil) 7 (ork [(1,0),(2,2),(3,2),(4,1),(5,2),(8,2),(9,2),(10,1),(11,2),(12,2),(13,0),(14,2),(15,0)] .nil))) (fun i => !(Nat.beq i 1 || Nat.beq i 15)) [pt b4 (cl [.int .i64 4,sv n,.slice xa az.length xc,.bool w,.bool z] 25)] mixed (by kernel_rfl) ?_))
    refine dV Z (vF Z fa25_3 Z) (dV Z (vF Z fa25_4 Z) (dr_two Z Z ?_ ?_))
    ·refine sV (vY Z ld4) (dr_nx ?_)
     refine dV Z (vM Z) (dr_cut (k:=3) (d:=39) (v:=.bool (a.void || w)) (fun hcut=>bool_want (b:=(a.void)) false (fun hg=>?_) (fun hg=>?_)) ?_)
     ·refine dp_sk Z Z Z hg ?_
      refine dr_sk Z Z Z hg ?_
      refine dV Z (vQ (bO Z hg) Z) ?_
      exact hcut _ uG
     ·refine dp_vg Z Z (bG Z hg) (vF Z fa25_3 Z) (dr_vg Z Z (bG Z hg) (vY Z ld4) ?_)
      refine dV Z (vP (bO Z hg) Z) ?_
      exact hcut _ uG
     refine dr_eff Z (sV (vY Z ld4) (dr_nx ?_))
     refine dV Z (vM Z) (dr_cut (k:=3) (d:=45) (v:=.bool (a.sep || z)) (fun hcut=>bool_want (b:=(a.sep)) false (fun hg=>?_) (fun hg=>?_)) ?_)
     ·refine dp_sk Z Z Z hg ?_
      refine dr_sk Z Z Z hg ?_
      refine dV Z (vQ (bO Z hg) Z) ?_
      exact hcut _ uG
     ·refine dp_vg Z Z (bG Z hg) (vF Z fa25_4 Z) (dr_vg Z Z (bG Z hg) (vY Z ld4) ?_)
      refine dV Z (vP (bO Z hg) Z) ?_
      exact hcut _ uG
     refine dV Z (vF Z fa25_3 Z) (dr_eff Z (st_sto Z Z sz4 ?_))
     refine dr_nx ?_
     refine dV Z (vF Z fa25_4 Z) (dr_eff Z (st_sto Z Z sz4 (dr_nx ?_)))
     refine dr_nil (nK [4,5,7] Z (nT (cQ (sV (v_ldn Z ld25 Z rds_pt) ?_))))
     refine st_stoW Z Z sz25 Z Z ?_
     refine sK [5] Z (cT (xW (xR ?_)))
     exact xt_retV (.cellN Z ld25 Z slq .nil) ⟨T,Z,_,Z,Ty.of (t:=a.flag w z) Z hT⟩ sbr
    ·refine sV (vY Z ld4) (dr_nx ?_)
     refine dr_eff Z (sV (vY Z ld4) (dr_nx ?_))
     refine dV Z (vM Z) (dr_cut (k:=3) (d:=39) (v:=.bool (a.void || w)) (fun hcut=>bool_want (b:=(a.void)) false (fun hg=>?_) (fun hg=>?_)) ?_)
     ·refine dp_sk Z Z Z hg ?_
      refine dr_sk Z Z Z hg ?_
      refine dV Z (vQ (bO Z hg) Z) ?_
      exact hcut _ uG
     ·refine dp_vg Z Z (bG Z hg) (vF Z fa25_3 Z) (dr_vg Z Z (bG Z hg) (vY Z ld4) ?_)
      refine dV Z (vP (bO Z hg) Z) ?_
      exact hcut _ uG
     refine dV Z (vM Z) (dr_cut (k:=3) (d:=45) (v:=.bool (a.sep || z)) (fun hcut=>bool_want (b:=(a.sep)) false (fun hg=>?_) (fun hg=>?_)) ?_)
     ·refine dp_sk Z Z Z hg ?_
      refine dr_sk Z Z Z hg ?_
      refine dV Z (vQ (bO Z hg) Z) ?_
      exact hcut _ uG
     ·refine dp_vg Z Z (bG Z hg) (vF Z fa25_4 Z) (dr_vg Z Z (bG Z hg) (vY Z ld4) ?_)
      refine dV Z (vP (bO Z hg) Z) ?_
      exact hcut _ uG
     refine dV Z (vF Z fa25_3 Z) (dr_eff Z (st_sto Z Z sz4 ?_))
     refine dr_nx ?_
     refine dV Z (vF Z fa25_4 Z) (dr_eff Z (st_sto Z Z sz4 (dr_nx ?_)))
     refine dr_nil (nK [4,5,7] Z (nT (cQ (sV (v_ldn Z ld25 Z rds_pt) ?_))))
     refine st_stoW Z Z sz25 Z Z ?_
     refine sK [5] Z (cT (xW (xR ?_)))
     exact xt_retV (.cellN Z ld25 Z slq .nil) ⟨T,Z,_,Z,Ty.of (t:=a.flag w z) Z hT⟩ sbr
  ·by_cases h3 : k = 3
   ·subst h3
    rw [subst_class]
    have hsn:∀ i (h:i<az.length),(az.take (i+1)).map (Kt.subst F A)=(az.take i).map (Kt.subst F A)++[(az[i]).subst F A]:=fun i h=>by rw [List.take_add_one,List.getElem?_eq_getElem h,List.map_append]; rfl
    refine ct_of (n:=73) Tryz.func61 Z Z (len Z) fun hr w0=>?_
    refine cQ (st_bx Z Z fun b4=>?_)
    refine st_alc al25 fun b5=>?_
    refine sK [1,2,3,4,5] Z (cS (cQ (sV (vF Z fa25_0 Z) (sV (vY Z ld3) ?_))))
    refine sK [1,2,3,4,5,12] Z (cB (cQ (sV (v_eql Z Z) (sA Z (sK [1,2,3,4,5,12,13] Z (cd_false Z ?_))))))
    refine cQ (sV (v_eql Z Z) (sA Z (sK [3,4,5,49] Z (cd_true Z ?_))))
    refine cQ (sA Z (sK [3,4,5,8] Z (cS (cQ (sV (vF Z fa25_2 Z) (sV (vY Z ld23) ?_))))))
    refine sV (v_len rfl Tryz.underlying23) (sM rfl (sK [3,4,5,8,52,53,54] rfl (cB (cd_vw (vw_nil 25 5) (cd_vw (vw_unstar (L:=[])) (cd_lq (σ := Value×List (List Value)×Res×Nat) (fun q=>[(3,.pointer (some ⟨p7,0,none⟩)),(4,.pointer (some ⟨b4,0,none⟩)),(5,.pointer (some ⟨b5,0,none⟩)),(8,q.1),(52,.slice xa az.length xc),(53,.int .i64 az.length),(54,.int .i64 (q.2.2.2:Nat))]) (fun q=>VR q.1 25 5 q.2.1::q.2.2.1::pt b4 (cl [.int .i64 3,sv n,.slice xa az.length xc,.bool w,.bool z] 25)::pt b5 (cl [.int .i64 0,sv [],.slice none 0 0,.bool false,.bool false] 25)::pt p3 (cl [.slice fa F.length fcap] 48)::pt p4 (cl [.slice aa A.length acap] 23)::pt p7 (cl [.func (.func 61) #[] #[.pointer (some ⟨p3,0,none⟩),.pointer (some ⟨p4,0,none⟩),.pointer (some ⟨p7,0,none⟩)]] 76)::S::hr) (fun q=>q.2.2.2≤az.length∧q.1.oneCell'=true∧TyRows (Res.star [q.2.2.1,S]) q.2.1 ((az.take q.2.2.2).map (Kt.subst F A))) (fun q=>az.length - q.2.2.2) (.slice none 0 0,[],Res.star [],0) ⟨Nat.zero_le _,rfl,TyRows.nil⟩ ?_))))))
    rintro ⟨wv,rows,T,i⟩ ⟨hi,hwv,hro⟩
    simp only at hi hwv hro
    dsimp only
    refine cQ (sV (v_lss Z Z) (sN (nT (cS (cC Z (fun hd=>?_) (fun hd=>?_))))))
    ·have hlt:i<az.length:=by simpa using hd
     have hmem:=List.getElem_mem hlt
     obtain ⟨b,o,cap2,us,e1,hus,hrd,hta⟩:=hy.at (List.getElem?_eq_getElem hlt)
     cases e1
     have hsn:=hsn i hlt
     generalize az[i]=a at hmem hta hsn
     have hone:=hta.ones
     obtain ⟨y,rfl,hya⟩:=hta.out
     have hca:=hF a hmem y hya
     obtain ⟨ya,yc,rfl,_⟩:=id hya.form
     unfold tyC at hrd hone hca
     have hrl:rows.length=i:=by rw [hro.1]; simp; omega
     refine cK (xT (cS (cB (cQ (sV (vI (k:=i) Z Z sl23 Z hlt Z) (sV (v_ldn Z ld25 Z hrd) ?_))))))
     refine st_alc al25 fun b10=>?_
     refine st_stoW Z Z sz25 Z hone ?_
     refine sK [3,4,5,8,10,52,53,54] Z (cR (sM Z (sV (vY Z ld76) ?_)))
     refine sV (v_ldn Z ld25 Z rds_pt) ?_
     refine st_cl Z Z en61 Z (hca) ?_
     rintro u h' ⟨T2,rfl,us2,rfl,hT2⟩
     simp only [lC,lN]
     obtain ⟨y2,rfl,hy2⟩:=id hT2.out
     obtain ⟨za,zc,rfl,_⟩:=id hy2.form
     refine st_buildSlice (cells:=tyC (a.subst F A) (.slice za (a.subst F A).args.length zc)) rfl Tryz.underlying23 inf25 rfl rfl (by kernel_rfl) (ltn rfl) fun b62=>?_
     refine st_app [tyC (a.subst F A) (.slice za (a.subst F A).args.length zc)] rfl rfl Tryz.underlying23 inf25 rfl (by decide) (show Sel _ (VR wv 25 5 rows) _ from slq) (by simp [tyC]) rfl (fun j u2 hu2=>at_here (rd_cl (by simpa [tyC] using hu2))) (by simp [tyC,Value.oneCell']) (by rw [hrl]; omega) (by rw [hrl]; omega) (ltn rfl) fun w2 hw2 _=>?_
     refine sA Z (sN (nK [3,4,5,8,52,53,54] Z (nx_xt (xB (xT (cR (sV (v_add Z Z (by unfold I64 at *; omega)) (sM Z (sN (nK [3,4,5,8,52,53,54] Z (nx_xt (xt_pv (pv_pack (L:=[T,T2])) ?_))))))))))))
     simp only [lC,lN]
     refine xt_aq (w2,rows++[tyC (a.subst F A) (.slice za (a.subst F A).args.length zc)],Res.star [T,T2],i+1) ⟨hlt,hw2,by rw [hsn]; exact (hro.mono fun p u h=>rd_up p u .here h).snoc (hT2.mono fun p u h=>rd_up p u (.there .here) h)⟩ (Nat.sub_lt_sub_left hlt (Nat.lt_succ_self i))
    ·have hil:i=az.length:=by
      have:¬ i<az.length:=by simpa using hd
      omega
     subst hil
     rw [List.take_length] at hro
     refine cd_exit (xE (xE (xY (xT (cQ (sM Z (sV (vF Z fa25_2 Z) (st_sto Z Z sz23 ?_))))))))
     refine sK [4,5] Z (cQ (st_ok (r:=VR wv 25 5 rows) slq fun hok=>?_))
     refine st_pv (pv_pack (L:=[VR wv 25 5 rows,T])) ?_
     simp only [lC,lN]
     have hty:Tys (Res.star [Res.star [VR wv 25 5 rows,T],S]) wv (az.map (Kt.subst F A)):=(hro.mono fun p u h=>rd_up p u (.there .here) h).tys hok (fun p u h=>rd_in .here p u (rd_in .here p u h)) (by simpa using hbb)
     obtain ⟨wa,wc,rfl,_⟩:=id hty.form
     refine sV (v_ldn Z ld25 Z rds_pt) ?_
     refine st_stoW Z Z sz25 Z Z ?_
     refine sK [5] Z (cT (xW (xR ?_)))
     exact xt_retV (.cellN rfl ld25 rfl slq .nil) ⟨Res.star [VR (.slice wa (az.map (Kt.subst F A)).length wc) 25 5 rows,T],rfl,tyC (.mk 3 n (az.map (Kt.subst F A)) w z) (.slice wa (az.map (Kt.subst F A)).length wc),rfl,Ty.of (t:=.mk 3 n (az.map (Kt.subst F A)) w z) rfl hty⟩ sbr
   ·rw [subst_other h4 h3]
    have q4:(k == 4)=false:=beq_eq_false_iff_ne.2 h4
    have q3:(k == 3)=false:=beq_eq_false_iff_ne.2 h3
    refine ct_of (n:=73) Tryz.func61 Z Z (len Z) fun hr w0=>?_
    refine cQ (st_bx Z Z fun b4=>?_)
    refine st_alc al25 fun b5=>?_
    refine sK [1,2,3,4,5] Z (cS (cQ (sV (vF Z fa25_0 Z) (sV (vY Z ld3) ?_))))
    refine sK [1,2,3,4,5,12] Z (cB (cQ (sV (v_eql Z Z) (sA Z (sK [1,2,3,4,5,12,13] Z ?_)))))
    rw [q4]
    refine cd_false Z ?_
    refine cQ (sV (v_eql Z Z) (sA Z (sK [3,4,5,49] Z ?_)))
    rw [q3]
    refine cd_false Z ?_
    refine cK (xB (xT (cQ (sV (vF Z fa25_2 Z) (sV (vY Z ld23) ?_)))))
    refine st_cl Z Z en64 Z (clone64_ct hy) ?_
    rintro u h' ⟨T,rfl,ca,cc,rfl,hT⟩
    simp only [lC,lN]
    refine sV (vF Z fa25_2 Z) (st_sto Z Z sz23 ?_)
    refine sK [4,5] Z (cQ (sV (v_ldn Z ld25 Z rds_pt) ?_))
    refine st_stoW Z Z sz25 Z Z ?_
    refine sK [5] Z (cT ?_)
    exact xt_retV (.cellN Z ld25 Z slq .nil) ⟨T,Z,_,Z,Ty.of (t:=.mk k n az w z) Z hT⟩ sbr
set_option maxRecDepth 100000 in
theorem subst_ct {fv av:Value} (hf:Row S 2 fmC fv F) (hA:Tys S av A) {us:List Value} (hu:Ty S us t) :
  CtN Tryz.prog 29 #[fv,av,.agg us.toArray] [S] fun u T=>∃ us:List Value,u = .agg us.toArray∧Ty (Res.star [T,S]) us (t.subst F A):=by
 obtain ⟨fa,fcap,rfl,_⟩:=id hf
 obtain ⟨aa,acap,rfl,_⟩:=id hA.form
 obtain ⟨y,rfl,hy⟩:=hu.out
 have h1:=fun p3 p4 p7=>sub61_ct hf hA (p3:=p3) (p4:=p4) (p7:=p7) t.depth t y (Nat.le_refl _) hy
 obtain ⟨ya,yc,rfl,_⟩:=id hy.form
 unfold tyC at h1 ⊢
 refine ct_of (n:=12) Tryz.func29 Z Z (len Z) fun hr w0=>?_
 refine cQ (st_bx Z Z fun b3=>?_)
 refine st_bx Z Z fun b4=>?_
 refine st_bx Z Z fun b5=>?_
 refine st_alc al25 fun b6=>?_
 refine sK [3,4,5,6] Z (cQ (st_alc al76 fun b7=>?_))
 refine sN (nT (cQ (sV (v_makeFunc Z Z) (st_sto Z Z sz76 ?_))))
 refine sK [5,6,7] Z (cQ (sV (vY Z ld76) ?_))
 refine sV (v_ldn Z ld25 Z rds_pt) ?_
 refine st_cl Z Z en61 Z (h1 b3 b4 b7) ?_
 rintro u h' ⟨T,rfl,us,rfl,hT⟩
 simp only [lC,lN]
 obtain ⟨z,rfl,hz⟩:=id hT.out
 obtain ⟨za,zc,rfl,_⟩:=id hz.form
 refine st_stoW Z Z sz25 Z Z ?_
 refine sK [6] Z (cT ?_)
 exact xt_retV (.cellN Z ld25 Z slq .nil) ⟨T,Z,_,Z,hT⟩ sbr
end
end Go.Hr
namespace Go.Ck
open Go Go.RowKit
def MIn (R:Res) (b:Nat) (m:List (Bs×Value)):Prop:=∀ f,R.ok f→(mps b m).ok f
theorem MIn.self {b:Nat} {m:List (Bs×Value)}:MIn (mps b m) b m:=fun _ h=>h
theorem MIn.star {k k':SH} {r:Res} {b:Nat} {m:List (Bs×Value)} (s:Sel k r k') (h:MIn r b m):MIn (Res.star k) b m:=fun f hf=>h f ((HoldsF.perm (f:=f) s.perm).1 hf).1
section
variable {P:Program} {e:Env} {h h':SH} {ty:TypeId}
theorem v_slookupI {T K E:TypeId} {x y:Operand} {b:Nat} {m:List (Bs×Value)} {k:Bs} {z:Value} {sz bytes:Nat} {R:Res} (hx:e.ev? x=some (.map (some b))) (hy:e.ev? y=some (sv k)) (hT:MpS P T K E) (hE:Inf P E z sz bytes) (hin:MIn R b m) (hs:Sel h R h') :
  Vop P e h (.lookup T x y false) ty ((slook m k).getD z):=
 ⟨by simp,by simp,fun ρ w d pos after g hρ hh=>by
  simp [execOp,hρ x _ hx,hρ y _ hy,run_lookupS hT hE (hin _ (hh.sel hs).1) k false]⟩
end
theorem rd_turn {Y T S:Res} (p:Addr) (u:Value) (h:Rd (Res.star [Y,Res.star [T,S]]) p u):Rd (Res.star [Res.star [T,Y],S]) p u:=rd_ok (fun f hf=>by
 have h1:HoldsF f ([T,Y]++[S]):=star_iff.1 hf
 have h2:HoldsF f ([T,S]++[Y]):=(HoldsF.perm (List.Perm.cons _ (List.Perm.swap _ _ _))).1 h1
 exact (HoldsF.perm (List.Perm.swap _ _ _)).1 (star_iff.2 h2)) p u h
end Go.Ck
namespace Go.Hr
open Go Go.RowKit Go.Ck
section
variable {F:List Fm} {A:List Kt} {K:Nat}
theorem flag_parts {t:Kt} {v s:Bool}:(t.flag v s).parts=t.parts:=by cases t; rfl
mutual
theorem subst_parts (hA : ∀ a ∈ A, a.parts ≤ K) (hK : 1 ≤ K) : ∀ (t : Kt), (t.subst F A).parts ≤ t.parts * K
  | .mk k n az v s => by
    by_cases h4:k=4
    · subst h4
      rw [subst_formal]
      cases h:actOf F A n with
      | none=>exact Nat.le_mul_of_pos_right _ hK
      | some a =>
        simp only [flag_parts]
        obtain ⟨j,_,hj⟩:∃ j,fidx F n=some j∧A[j]? = some a:=act_at h
        have h1:=hA a (List.mem_of_getElem? hj)
        have h2:1≤(Kt.mk 4 n az v s).parts:=by simp [Kt.parts]
        calc a.parts≤K:=h1
          _=1 * K:=(Nat.one_mul K).symm
          _≤_:=Nat.mul_le_mul_right K h2
    · by_cases h3 : k = 3
      · subst h3
        rw [Kt.subst,if_neg (by decide),if_pos rfl]
        have h1:=substs_parts hA hK az
        simp only [Kt.parts]
        rw [Nat.add_mul]
        omega
      · rw [subst_other h4 h3]
        exact Nat.le_mul_of_pos_right _ hK
theorem substs_parts (hA:∀ a∈A,a.parts≤K) (hK:1≤K):∀ (l:List Kt),partss (substs F A l)≤partss l * K
 | []=>by simp [substs,partss]
 | a::t=>by
  rw [substs]
  simp only [partss]
  have h1:=subst_parts hA hK a
  have h2:=substs_parts hA hK t
  rw [Nat.add_mul]
  omega
end
end
/-! ## Tables in maps -/
def OwnR (R:Res) (mm:List (Bs×Value)) (o:Own):Prop:=∀ a,(o a=none→slook mm a=none)∧∀ ts,o a=some ts→∃ v,slook mm a=some v∧Tys R v ts
section
variable {R R' S T T':Res} {mm M:List (Bs×Value)} {o:Own} {all:List (Nm×Own)} {a c:Nm} {ts:List Kt} {v:Value} {l:KS}
theorem OwnR.mono (hr:∀ p u,Rd R p u→Rd R' p u) (h:OwnR R mm o):OwnR R' mm o:=fun a=>⟨(h a).1,fun ts ht=>let ⟨v,h1,h2⟩:=(h a).2 ts ht; ⟨v,h1,h2.mono hr⟩⟩
theorem OwnR.nil:OwnR R [] (fun _=>none):=fun _=>⟨fun _=>rfl,fun _ h=>by cases h⟩
theorem OwnR.upd (h:OwnR R mm o) (hv:Tys R v ts):OwnR R (supd mm a v) (oupd o a ts):=fun b=>by
 rw [slook_upd]
 unfold oupd
 by_cases hb:b=a
 ·subst hb
  rw [if_pos rfl,if_pos rfl]
  exact ⟨(fun h=>by cases h),fun ts' h=>by cases h; exact ⟨v,rfl,hv⟩⟩
 ·rw [if_neg hb,if_neg hb]; exact h b
theorem OwnR.get (h:OwnR R mm o) (a:Nm):∃ v,(slook mm a).getD (.slice none 0 0)=v∧Tys R v ((o a).getD []):=by
 cases ho:o a with
 | none=>rw [(h a).1 ho]; exact ⟨_,rfl,Tys.nil⟩
 | some ts=>obtain ⟨v,h1,h2⟩:=(h a).2 ts ho; rw [h1]; exact ⟨_,rfl,h2⟩
theorem OwnR.get2 (h:OwnR R mm o) (a:Nm):∃ v,Value.tuple #[(slook mm a).getD (.slice none 0 0),.bool (slook mm a).isSome] = .tuple #[v,.bool (o a).isSome]∧Tys R v ((o a).getD []):=by
 cases ho:o a with
 | none=>rw [(h a).1 ho]; exact ⟨_,rfl,Tys.nil⟩
 | some ts=>obtain ⟨v,h1,h2⟩:=(h a).2 ts ho; rw [h1]; exact ⟨_,rfl,h2⟩
def TabR (S T:Res) (M:List (Bs×Value)) (all:List (Nm×Own)):Prop:=∀ c o,alook all c=some o→∃ b mm,slook M c=some (.map (some b))∧MIn T b mm∧OwnR (Res.star [T,S]) mm o
theorem TabR.nil:TabR S T [] []:=fun c o h=>by cases h
theorem TabR.mono (hm:∀ b mm,MIn T b mm→MIn T' b mm) (hr:∀ p u,Rd (Res.star [T,S]) p u→Rd (Res.star [T',S]) p u) (h:TabR S T M all):TabR S T' M all:=fun c o hc =>
 let ⟨b,mm,h1,h2,h3⟩:=h c o hc
 ⟨b,mm,h1,hm _ _ h2,h3.mono hr⟩
theorem TabR.up {L L':SH} (s:Sel L T L') (h:TabR S T M all):TabR S (Res.star L) M all:=h.mono (fun _ _ g=>g.star s) fun p u g=>rd_up p u s g
theorem TabR.snoc (h:TabR S T M all) (hc:c ∉ all.map (·.1)) {b:Nat} (hb:MIn T b mm) (ho:OwnR (Res.star [T,S]) mm o):TabR S T (supd M c (.map (some b))) (all++[(c,o)]):=fun d o' hd=>by
 rw [alook_append] at hd
 rw [slook_upd]
 by_cases hdc:d=c
 ·subst hdc
  rw [alook_none.2 hc,Option.none_or] at hd
  have:o'=o:=by simpa [alook] using hd.symm
  subst this
  rw [if_pos rfl]
  exact ⟨b,mm,Z,hb,ho⟩
 ·rw [if_neg hdc]
  have hcd:¬ c=d:=fun e=>hdc e.symm
  have:alook [(c,o)] d=none:=by rw [alook_cons,if_neg hcd]; rfl
  rw [this,Option.or_none] at hd
  exact h d o' hd
end
end Go.Hr
namespace Go.Hr
open Go Go.RowKit Go.Ck Go.Proofs Go.Proofs.YtaohbfnepjjdgaaGreat Fx
attribute [local irreducible] Go.Ck.Sub St Cd Xt Nx DrL LsW
section
variable {S T N R:Res} {v:Value} {F:List Fm} {A:List Kt} {l:KS} {m:List (Bs×Value)} {mb:Nat} {s t:Kt} {va:Option Addr} {vc:Nat} {ts:List Kt} {rows:List (List Value)}
def tabsE {α : Type}:Except (Int×Nm) α → Int×Nm
 | .ok _=>(0,[])
 | .error q=>q
def Sm (o:Own):Prop:=∀ a ts,o a=some ts→partss ts≤400
theorem Sm.upd {o:Own} (h:Sm o) {a:Nm} (hs:partss ts≤400):Sm (oupd o a ts):=fun b ts' hb=>by
 unfold oupd at hb
 split at hb
 ·cases hb; exact hs
 ·exact h b ts' hb
theorem ownT_parts:∀ (F:List Fm),partss (ownT F)=F.length
 | []=>rfl
 | f::F=>by
  show partss (_::ownT F)=_
  rw [partss,ownT_parts F]
  simp [Kt.parts,partss]; omega
theorem Sm.own0 {x:KC} (h:x.formals.length≤3):Sm (own0 x):=fun a ts ha=>by
 unfold Hr.own0 oupd at ha
 split at ha
 ·cases ha; rw [ownT_parts]; omega
 ·cases ha
def stepE (o:Own) (a:Nm) (seen:List Kt):Int:=firstE [if decide ((partss seen:Int)≤400)=true then 0 else 3,if (!(o a).isSome || sames ((o a).getD []) seen)=true then 0 else 10]
theorem ownGo_step {all : List (Nm × Own)} {p : Kp} {a : Nm} {t : List (Kp × Nm)} {o : Own} : ownGo l all ((p, a) :: t) o = if stepE o a (seenT l all p a) ≠ 0 then .error (stepE o a (seenT l all p a)) else ownGo l all t (oupd o a (seenT l all p a)) := by
 rw [ownGo]
 unfold stepE firstE firstE firstE clash
 generalize seenT l all p a=seen
 by_cases h1:400<partss seen
 ·have:¬ (partss seen:Int)≤400:=by omega
  simp [h1,this]
 ·have : (partss seen : Int) ≤ 400 := by omega
  rw [if_neg h1]
  cases ho:o a with
  | none=>simp [this]
  | some was =>
   by_cases hw:was=seen
   ·have:=(sames_iff was seen).2 hw
    simp_all
   ·have h2:sames was seen=false:=by
     rw [← Bool.not_eq_true]; exact fun e=>hw ((sames_iff was seen).1 e)
    simp_all
theorem stepE_zero {o:Own} {a:Nm} {seen:List Kt} (h:stepE o a seen=0):partss seen≤400:=by
 unfold stepE at h
 have:=firstE_zero.1 h _ (by simp; exact .inl rfl)
 by_cases h1:(partss seen:Int)≤400
 ·omega
 ·simp [h1] at this
def prs (l:KS) (ps:List Kp):List (Kp×Nm):=ps.flatMap fun p=>(above (ksys l) p.name).map fun a=>(p,a)
theorem seenT_parts {all : List (Nm × Own)} {p : Kp} {a : Nm} (hA : ∀ c o, alook all c = some o → Sm o) (hp : ∀ a ∈ p.args, a.parts ≤ 200) : partss (seenT l all p a) ≤ 80000 := by
 unfold seenT
 rw [← substs_map]
 have h1:=substs_parts (F:=fmsOf l p.name) hp (by decide:1≤200) (((alook all p.name).bind (· a)).getD [])
 have h2:partss (((alook all p.name).bind (· a)).getD [])≤400:=by
  cases h:alook all p.name with
  | none=>simp [partss]
  | some o =>
   rw [Option.bind_some]
   cases ho:o a with
   | none=>simp [partss]
   | some ts=>exact hA _ _ h _ _ ho
 have h3:=Nat.mul_le_mul_right 200 h2
 omega
end
end Go.Hr
namespace Go.Hr
open Go Go.RowKit Go.Ck Go.Proofs Go.Proofs.YtaohbfnepjjdgaaGreat Fx
attribute [local irreducible] Go.Ck.Sub St Cd Xt Nx DrL LsW
section
variable {S T N R:Res} {v:Value} {F:List Fm} {A:List Kt} {l:KS} {m:List (Bs×Value)} {mb:Nat} {s t:Kt} {va:Option Addr} {vc:Nat} {ts:List Kt} {rows:List (List Value)}
set_option maxHeartbeats 8000000 in
set_option maxRecDepth 100000 in
theorem instances_ct (h : HRight l) (hM : KMap S m l) (hv : ksysR S (.slice va l.length vc) l) (hb : ∀ x ∈ l, ∀ p ∈ x.parents, ∀ a ∈ p.args, a.parts ≤ 200) :
  Ct Tryz.prog 83 #[wV mb va l.length vc] [mps mb m,S] fun u h'=>u = .tuple #[.int .i64 (tabsE (tabs l)).1,sv (tabsE (tabs l)).2]∧h'=[mps mb m,S]:=by
 have hml:maxLen=9223372036854775807:=rfl
 have hrb:reachBytes=140737488351232:=rfl
 have hR:=h.right
 have hre:rightE (ksys l) []=0:=rightE_zero.2 ⟨hR,by simp⟩
 have hsys:sysR S (.slice va l.length vc) (ksys l):=hv.sys
 obtain ⟨hTp,hmem⟩:=order_spec hR.acyc hR.uniq
 unfold wV tabs
 refine ct_of (n:=126) Tryz.func83 Z Z (len Z) fun hr w0=>?_
 refine cQ (st_bx Z Z fun b1=>?_)
 refine sA Z (sA Z (sK [1,2,3] Z (cd_scope (cQ (st_smakeMap (ltn Z) fun b24=>?_)))))
 refine sA Z (sK [1,2,3,4] Z (cQ (sV (vF Z fa85_1 Z) (sV (vY Z ld22) ?_))))
 refine st_cl Z Z en139 Z (Order_ct hsys) ?_
 rintro u h' ⟨T0,rfl,w,rfl,hw1,rfl⟩
 simp only [lC,lN]
 rw [hre,okL_eq rfl]
 refine st_ok (r:=NR w (order (ksys l))) slq fun hok=>?_
 have hnr:=nms_own hok
 obtain ⟨oa,oc,rfl,_⟩:=id hnr
 generalize order (ksys l)=ord at *
 refine sM Z (sV (v_extract Z Z) (sV (v_extract Z Z) (sA Z (sA Z (sK [1,2,3,4,5] Z (cQ (sA Z (sA Z (sN (nT (cS (cd_label (xT ?_)))))))))))))
 refine cS (cQ (sM rfl (sV (v_len rfl Tryz.underlying50) (sM rfl (sK [1,2,3,4,7,8,31,32,33] rfl (cB (cd_vw (vw_unstar (L:=[])) (cd_lq (σ := List (Bs×Value)×Res×List (Nm×Own)×Nat) (fun q=>[(1,.pointer (some ⟨b1,0,none⟩)),(4,.map (some b24)),(7,.int .i64 0),(8,sv []),(31,.slice oa ord.length oc),(32,.int .i64 ord.length),(33,.int .i64 (q.2.2.2:Nat))]) (fun q=>pt b1 (cl [.map (some mb),.slice va l.length vc] 85)::mps b24 q.1::q.2.1::NR (.slice oa ord.length oc) ord::mps mb m::S::hr) (fun q=>q.2.2.2≤ord.length∧tabGo l ord []=tabGo l (ord.drop q.2.2.2) q.2.2.1∧q.2.2.1.map (·.1)=ord.take q.2.2.2∧TabR S q.2.1 q.1 q.2.2.1∧∀ c o,alook q.2.2.1 c=some o→Sm o) (fun q=>ord.length - q.2.2.2) ([],Res.star [],[],0) ⟨Nat.zero_le _,rfl,rfl,TabR.nil,fun c o h=>by cases h⟩ ?_))))))))
 rintro ⟨M,T,all,i⟩ ⟨hi,hta,hnm,hT,hS⟩
 simp only at hi hta hnm hT hS
 dsimp only
 refine cQ (sV (v_lss Z Z) (sN (nT (cS (cC Z (fun hd=>?_) (fun hd=>?_))))))
 ·have hlt:i<ord.length:=by simpa using hd
  obtain ⟨bo,oo,cap2,u,e1,hro,hX⟩:=Row.at1 hnr (List.getElem?_eq_getElem hlt)
  cases e1
  have hX:[u]=[sv ord[i]]:=hX
  have hcm:ord[i]∈ord:=List.getElem_mem hlt
  have hmid:=Tp.mid (a:=ord.take i) (c:=ord[i]) (t:=ord.drop (i+1)) (by rw [← List.drop_eq_getElem_cons hlt,List.take_append_drop]; exact hTp)
  have htk:ord.take (i+1)=ord.take i++[ord[i]]:=by rw [List.take_add_one,List.getElem?_eq_getElem hlt]; rfl
  rw [List.drop_eq_getElem_cons hlt] at hta
  generalize ord[i]=c at hX hcm hmid htk hta
  cases hX
  obtain ⟨x,hx⟩:=Option.isSome_iff_exists.1 (by rw [kfind_isC]; exact isC_iff.2 ((hmem c).1 hcm))
  obtain ⟨hxn,hxl⟩:=kfind_some hx
  rw [tabGo,hx] at hta
  simp only [] at hta
  obtain ⟨us,hlk,hcx⟩:=(hM c).2 x hx
  obtain ⟨d,ff,pv,c2,ffa,ffc,i2,rfl,hone,hrow,hrowp⟩:=hcx
  subst hxn
  obtain ⟨fa,fcap,rfl,_⟩:=id hrow
  obtain ⟨pa,pcap,rfl,hplc,hpcm,_⟩:=id hrowp
  have hpar:=kpar hR hx
  have hbx:=hb x hxl
  generalize htg:ownGo l all (pairs l x) (own0 x)=TG at hta
  refine cK (xT (cS (cB (cQ (sV (vI (k:=i) Z Z sl50 Z hlt Z) (sV (vY Z ld9) ?_))))))
  refine sA Z (sK [1,4,7,8,10,31,32,33] Z (cQ (sV (vF Z fa85_0 Z) (sV (vY Z ld83) ?_))))
  refine sM Z (sV (v_is (show (slook m x.name).getD cls0 = .agg ([sv x.name,d,.slice fa x.formals.length fcap,.slice pa x.parents.length pcap,c2,.slice ffa x.feats ffc,i2]:List Value).toArray by rw [hlk]; rfl) (v_slookup Z Z mp83 inf54 slq)) ?_)
  refine st_alc al54 fun b11=>?_
  refine st_stoW Z Z sz54 Z hone ?_
  refine sK [1,4,7,8,10,11,31,32,33] Z (cQ (st_smakeMap (ltn Z) fun b41=>?_))
  refine sM Z (sV (v_ldn Z ld54 Z rds_pt) ?_)
  refine st_cl Z Z en140 Z (own140_ct hrow (h.fm_len hxl)) ?_
  rintro u h' ⟨T1,rfl,a1,c1,rfl,hT1⟩
  simp only [lC,lN]
  refine st_sinsert Z Z Z mp141 slq ?_
  refine sM Z (sA Z (sK [1,4,7,8,10,11,12,31,32,33] Z (cQ (sM Z (sM Z (sM Z (st_smapUpdate Z Z Z mp183 slq ?_)))))))
  refine sK [1,4,7,8,10,11,12,31,32,33] Z (cQ (sV (vF Z fa54_3 Z) (sV (vY Z ld49) ?_)))
  refine sV (v_len Z Tryz.underlying49) (sM Z (sK [1,4,7,8,10,12,31,32,33,50,51,52] Z (cB (cd_pv (pv_pack (L:=[T,T1])) ?_))))
  simp only [lC,lN]
  refine cd_lq (σ := List (Bs×Value)×Res×Own×Nat) (fun q=>[(1,.pointer (some ⟨b1,0,none⟩)),(4,.map (some b24)),(7,.int .i64 0),(8,sv []),(10,sv x.name),(12,.map (some b41)),(31,.slice (some ⟨bo,oo,none⟩) ord.length oc),(32,.int .i64 ord.length),(33,.int .i64 (i:Nat)),(50,.slice pa x.parents.length pcap),(51,.int .i64 x.parents.length),(52,.int .i64 (q.2.2.2:Nat))]) (fun q=>pt b1 (cl [.map (some mb),.slice va l.length vc] 85)::mps b24 (supd M x.name (.map (some b41)))::mps b41 q.1::q.2.1::NR (.slice (some ⟨bo,oo,none⟩) ord.length oc) ord::mps mb m::S::hr) (fun q=>q.2.2.2≤x.parents.length∧TG=ownGo l all (prs l (x.parents.drop q.2.2.2)) q.2.2.1∧OwnR (Res.star [q.2.1,S]) q.1 q.2.2.1∧TabR S q.2.1 M all∧Sm q.2.2.1) (fun q=>x.parents.length - q.2.2.2) (supd [] x.name (.slice a1 x.formals.length c1),Res.star [T,T1],own0 x,0) ⟨Nat.zero_le _,htg.symm,OwnR.nil.upd (hT1.mono fun p u g=>rd_in .here p u (rd_in (.there .here) p u g)),hT.up .here,Sm.own0 (h.fm_len hxl)⟩ ?_
  clear hT hT1 htg
  rintro ⟨mo,T,o,j⟩ ⟨hj,htg,hO,hT,hSo⟩
  simp only at hj htg hO hT hSo
  dsimp only
  refine cQ (sV (v_lss Z Z) (sN (nT (cS (cC Z (fun hdj=>?_) (fun hdj=>?_))))))
  ·have hltj:j<x.parents.length:=by simpa using hdj
   have hmp:=List.getElem_mem hltj
   obtain ⟨bq,oq,capq,us,e2,hus,hrd,hXp⟩:=Row.at hrowp (List.getElem?_eq_getElem hltj)
   cases e2
   rw [List.drop_eq_getElem_cons hltj] at htg
   generalize x.parents[j]=p at hmp hXp htg
   obtain ⟨y,p1,p2,p3,p4,rfl,hone2,hy⟩:=hXp
   obtain ⟨ya,yc,rfl,_⟩:=id hy.form
   have hpn:p.name∈par (ksys l) x.name:=by rw [hpar]; exact List.mem_map_of_mem hmp
   have hre2:rightE (ksys l) [p.name]=0:=rightE_zero.2 ⟨hR,fun n hn=>by simp at hn; subst hn; exact par_isC hpn⟩
   have hpa:p.name∈all.map (·.1):=by rw [hnm]; exact hmid.2 _ hpn
   have hpx:¬ p.name=x.name:=fun e=>hmid.1 (by rw [← hnm,← e]; exact hpa)
   obtain ⟨op,hop⟩:∃ op,alook all p.name=some op:=by
    cases ha:alook all p.name with
    | none=>exact absurd hpa (alook_none.1 ha)
    | some op=>exact ⟨op,rfl⟩
   have hsp:=fun a=>seenT_parts (l:=l) (a:=a) hS (hbx p hmp)
   have hst:∀ a,seenT l all p a=((op a).getD []).map (Kt.subst (fmsOf l p.name) p.args):=fun a=>by unfold seenT; rw [hop]; rfl
   obtain ⟨q0,q1,qf,q2,q3,q4,q5,hlk3,hrow3⟩:=map_cls hM p.name
   obtain ⟨qa,qcap,rfl,_⟩:=id hrow3
   rw [show prs l (p::x.parents.drop (j+1))=((above (ksys l) p.name).map fun a=>(p,a))++prs l (x.parents.drop (j+1)) by simp [prs]] at htg
   refine cK (xT (cS (cB (cQ (sV (vI (k:=j) Z Z sl49 Z hltj Z) (sV (v_ldn Z ld79 Z hrd) ?_))))))
   refine st_alc al79 fun b14=>?_
   refine st_stoW Z Z sz79 Z hone2 ?_
   refine sK [1,4,7,8,10,12,14,31,32,33,50,51,52] Z (cQ (sV (vF Z fa85_1 Z) (sV (vY Z ld22) ?_)))
   refine sV (vF Z fa79_0 Z) (sV (vY Z ld9) ?_)
   refine st_cl Z Z en103 Z (Above_ct hsys p.name) ?_
   rintro u h' ⟨T2,rfl,w2,rfl,hw2,rfl⟩
   simp only [lC,lN]
   rw [hre2,okL_eq rfl]
   refine st_ok (r:=NR w2 (above (ksys l) p.name)) slq fun hok2=>?_
   have hur:=nms_own hok2
   obtain ⟨ua,uc,rfl,_⟩:=id hur
   generalize above (ksys l) p.name=up at *
   refine sM Z (sV (v_extract Z Z) (sV (v_extract Z Z) (sA Z (sA Z (sK [1,4,7,8,10,12,14,15,31,32,33,50,51,52] Z (cQ (sM Z (sV (v_len Z Tryz.underlying50) (sM Z (sK [1,4,7,8,10,12,14,31,32,33,50,51,52,64,65,66] Z (cB (cd_lq (σ := List (Bs×Value)×Res×Own×Nat) (fun q=>[(1,.pointer (some ⟨b1,0,none⟩)),(4,.map (some b24)),(7,.int .i64 0),(8,sv []),(10,sv x.name),(12,.map (some b41)),(14,.pointer (some ⟨b14,0,none⟩)),(31,.slice (some ⟨bo,oo,none⟩) ord.length oc),(32,.int .i64 ord.length),(33,.int .i64 (i:Nat)),(50,.slice (some ⟨bq,oq,none⟩) x.parents.length pcap),(51,.int .i64 x.parents.length),(52,.int .i64 (j:Nat)),(64,.slice ua up.length uc),(65,.int .i64 up.length),(66,.int .i64 (q.2.2.2:Nat))]) (fun q=>pt b1 (cl [.map (some mb),.slice va l.length vc] 85)::pt b14 (cl [sv p.name,.slice ya p.args.length yc,p1,p2,p3,p4] 79)::mps b24 (supd M x.name (.map (some b41)))::mps b41 q.1::q.2.1::NR (.slice ua up.length uc) up::NR (.slice (some ⟨bo,oo,none⟩) ord.length oc) ord::mps mb m::S::hr) (fun q=>q.2.2.2≤up.length∧TG=ownGo l all (((up.drop q.2.2.2).map fun a=>(p,a))++prs l (x.parents.drop (j+1))) q.2.2.1∧OwnR (Res.star [q.2.1,S]) q.1 q.2.2.1∧TabR S q.2.1 M all∧Sm q.2.2.1) (fun q=>up.length - q.2.2.2) (mo,T,o,0) ⟨Nat.zero_le _,htg,hO,hT,hSo⟩ ?_))))))))))))
   clear htg hO hT hSo
   rintro ⟨mo,T,o,k⟩ ⟨hk,htg,hO,hT,hSo⟩
   simp only at hk htg hO hT hSo
   dsimp only
   refine cQ (sV (v_lss Z Z) (sN (nT (cS (cC Z (fun hdk=>?_) (fun hdk=>?_))))))
   ·have hltk:k<up.length:=by simpa using hdk
    obtain ⟨bu,ou,capu,u,e3,hru,hXu⟩:=Row.at1 hur (List.getElem?_eq_getElem hltk)
    cases e3
    have hXu:[u]=[sv up[k]]:=hXu
    rw [List.drop_eq_getElem_cons hltk,List.map_cons,List.cons_append] at htg
    generalize up[k]=a at hXu htg
    cases hXu
    rw [ownGo_step] at htg
    have hsp:=hsp a
    rw [hst a] at htg hsp
    obtain ⟨bp,mp,hlp,hin,hwp⟩:=hT p.name op hop
    obtain ⟨vt,hgv,hvt⟩:=hwp.get a
    obtain ⟨tya,tyc,rfl,_⟩:=id hvt.form
    obtain ⟨wv,hgw,hwas⟩:=hO.get2 a
    generalize hTB:(op a).getD []=tb at *
    refine cK (xT (cS (cB (cQ (sV (vI (k:=k) Z Z sl50 Z hltk Z) (sV (vY Z ld9) ?_))))))
    refine sA Z (sK [1,4,7,8,10,12,14,18,31,32,33,50,51,52,64,65,66] Z (cQ (sA Z (sN (nT (cS (cQ (sM Z (sV (vF Z fa79_0 Z) (sV (vY Z ld9) ?_))))))))))
    refine sV (v_is (show (slook (supd M x.name (.map (some b41))) p.name).getD (.map none) = .map (some bp) by rw [slook_upd,if_neg hpx,hlp]; rfl) (v_slookup Z Z mp183 inf141 slq)) ?_
    refine sM Z (sV (v_is hgv (v_slookupI Z Z mp141 inf23 hin (show Sel _ T _ from slq))) ?_)
    refine sV (v_len Z Tryz.underlying23) (sM Z (sK [1,4,7,8,10,12,14,18,19,31,32,33,50,51,52,64,65,66,75,76,77] Z (cB (cd_vw (vw_nil 25 5) (cd_vw (vw_unstar (L:=[])) (cd_pv (pv_pack (L:=[T,S])) ?_))))))
    simp only [lC,lN]
    refine cd_lq (σ := Value×List (List Value)×Res×Nat) (fun q=>[(1,.pointer (some ⟨b1,0,none⟩)),(4,.map (some b24)),(7,.int .i64 0),(8,sv []),(10,sv x.name),(12,.map (some b41)),(14,.pointer (some ⟨b14,0,none⟩)),(18,sv a),(19,q.1),(31,.slice (some ⟨bo,oo,none⟩) ord.length oc),(32,.int .i64 ord.length),(33,.int .i64 (i:Nat)),(50,.slice (some ⟨bq,oq,none⟩) x.parents.length pcap),(51,.int .i64 x.parents.length),(52,.int .i64 (j:Nat)),(64,.slice (some ⟨bu,ou,none⟩) up.length uc),(65,.int .i64 up.length),(66,.int .i64 (k:Nat)),(75,.slice tya tb.length tyc),(76,.int .i64 tb.length),(77,.int .i64 (q.2.2.2:Nat))]) (fun q=>VR q.1 25 5 q.2.1::q.2.2.1::Res.star [T,S]::pt b1 (cl [.map (some mb),.slice va l.length vc] 85)::pt b14 (cl [sv p.name,.slice ya p.args.length yc,p1,p2,p3,p4] 79)::mps b24 (supd M x.name (.map (some b41)))::mps b41 mo::NR (.slice (some ⟨bu,ou,none⟩) up.length uc) up::NR (.slice (some ⟨bo,oo,none⟩) ord.length oc) ord::mps mb m::hr) (fun q=>q.2.2.2≤tb.length∧q.1.oneCell'=true∧TyRows (Res.star [q.2.2.1,Res.star [T,S]]) q.2.1 ((tb.take q.2.2.2).map (Kt.subst (fmsOf l p.name) p.args))) (fun q=>tb.length - q.2.2.2) (.slice none 0 0,[],Res.star [],0) ⟨Nat.zero_le _,rfl,TyRows.nil⟩ ?_
    rintro ⟨wq,rows,Tn,q⟩ ⟨hq,hwq,hro2⟩
    simp only at hq hwq hro2
    dsimp only
    have hlen:=partss_len (tb.map (Kt.subst (fmsOf l p.name) p.args))
    rw [List.length_map] at hlen
    have hrl:rows.length=q:=by rw [hro2.1]; simp; omega
    refine cQ (sV (v_lss Z Z) (sN (nT (cS (cC Z (fun hdq=>?_) (fun hdq=>?_))))))
    ·have hltq:q<tb.length:=by simpa using hdq
     obtain ⟨bt,ot,capt,us,e4,hus,hrdt,htt⟩:=hvt.at (List.getElem?_eq_getElem hltq)
     cases e4
     have hsn:(tb.take (q+1)).map (Kt.subst (fmsOf l p.name) p.args)=(tb.take q).map (Kt.subst (fmsOf l p.name) p.args)++[(tb[q]).subst (fmsOf l p.name) p.args]:=by rw [List.take_add_one,List.getElem?_eq_getElem hltq,List.map_append]; rfl
     generalize tb[q]=t at htt hsn
     have hones:=htt.ones
     have htt2:=htt
     obtain ⟨z,rfl,hz⟩:=htt.out
     obtain ⟨za,zc,rfl,_⟩:=id hz.form
     have hsc:=subst_ct (hrow3.mono (rd_in (.there .here)) fun _ _ _ h=>h) (hy.mono (rd_in (.there .here))) htt2
     unfold tyC at hrdt hones hsc
     refine cK (xT (cS (cB (cQ (sV (vI (k:=q) Z Z sl23 Z hltq Z) (sV (v_ldn Z ld25 Z hrdt) ?_))))))
     refine st_alc al25 fun b21=>?_
     refine st_stoW Z Z sz25 Z hones ?_
     refine sK [1,4,7,8,10,12,14,18,19,21,31,32,33,50,51,52,64,65,66,75,76,77] Z (cR (sM Z (sV (vF Z fa85_0 Z) (sV (vY Z ld83) ?_))))
     refine sV (vF Z fa79_0 Z) (sV (vY Z ld9) ?_)
     refine sV (v_is hlk3 (v_slookup Z Z mp83 inf54 slq)) ?_
     refine sV (v_field1 Z Tryz.underlying54 Z (fun w=>by simp [isAgg,run_underlying Tryz.underlying48]) Z) ?_
     refine sV (vF Z fa79_1 Z) (sV (vY Z ld23) ?_)
     refine sV (v_ldn Z ld25 Z rds_pt) ?_
     refine st_cl Z Z en29 Z (hsc) ?_
     rintro u h' ⟨T2,rfl,us2,rfl,hT2⟩
     simp only [lC,lN]
     obtain ⟨y2,rfl,hy2⟩:=id hT2.out
     obtain ⟨wa,wc,rfl,_⟩:=id hy2.form
     refine st_buildSlice (cells:=tyC (t.subst (fmsOf l p.name) p.args) (.slice wa (t.subst (fmsOf l p.name) p.args).args.length wc)) rfl Tryz.underlying23 inf25 rfl rfl (by kernel_rfl) (ltn rfl) fun b92=>?_
     refine st_app [tyC (t.subst (fmsOf l p.name) p.args) (.slice wa (t.subst (fmsOf l p.name) p.args).args.length wc)] rfl rfl Tryz.underlying23 inf25 rfl (by decide) (show Sel _ (VR wq 25 5 rows) _ from slq) (by simp [tyC]) rfl (fun j u2 hu2=>at_here (rd_cl (by simpa [tyC] using hu2))) (by simp [tyC,Value.oneCell']) (by rw [hrl]; omega) (by rw [hrl]; omega) (ltn rfl) fun w3 hw3 _=>?_
     refine sA Z (sN (nK [1,4,7,8,10,12,14,18,19,31,32,33,50,51,52,64,65,66,75,76,77] Z (nx_xt (xB (xT (cR (sV (v_add Z Z (by unfold I64 at *; omega)) (sM Z (sN (nK [1,4,7,8,10,12,14,18,19,31,32,33,50,51,52,64,65,66,75,76,77] Z (nx_xt (xt_pv (pv_pack (L:=[Tn,T2])) ?_))))))))))))
     simp only [lC,lN]
     refine xt_aq (w3,rows++[tyC (t.subst (fmsOf l p.name) p.args) (.slice wa (t.subst (fmsOf l p.name) p.args).args.length wc)],Res.star [Tn,T2],q+1) ⟨hltq,hw3,by rw [hsn]; exact (hro2.mono fun p u g=>rd_up p u .here g).snoc (hT2.mono fun p u g=>rd_up p u (.there .here) g)⟩ (Nat.sub_lt_sub_left hltq (Nat.lt_succ_self q))
    ·have hql:q=tb.length:=by
      have:¬ q<tb.length:=by simpa using hdq
      omega
     rw [hql,List.take_length] at hro2
     refine cd_exit (xE (xE (xY (xT (cQ (sM Z (sM Z (st_ok (r:=VR wq 25 5 rows) slq fun hok3=>?_))))))))
     refine st_pv (pv_pack (L:=[VR wq 25 5 rows,Tn])) ?_
     simp only [lC,lN]
     refine st_pv (pv_pack (L:=[Res.star [VR wq 25 5 rows,Tn],Res.star [T,S]])) ?_
     simp only [lC,lN]
     have hseen:Tys (Res.star [Res.star [VR wq 25 5 rows,Tn],Res.star [T,S]]) wq (tb.map (Kt.subst (fmsOf l p.name) p.args)):=(hro2.mono fun p u g=>rd_up p u (.there .here) g).tys hok3 (fun p u g=>rd_in .here p u (rd_in .here p u g)) (by rw [List.length_map]; omega)
     have hwas2:Tys (Res.star [Res.star [VR wq 25 5 rows,Tn],Res.star [T,S]]) wv ((o a).getD []):=hwas.mono (rd_in (.there .here))
     clear hro2 hrl
     generalize tb.map (Kt.subst (fmsOf l p.name) p.args)=seen at hseen htg hsp hlen
     refine sV (v_is hgw (v_slookup_ok Z Z mp141 inf23 slq)) ?_
     refine sM Z (sV (v_extract Z Z) (sV (v_extract Z Z) (sA Z (sA Z (sK [1,4,7,8,10,12,14,18,19,22,23,31,32,33,50,51,52,64,65,66] Z (cQ (sM Z (st_clr Z Z en141 Z ((Parts_ct _ seen wq (Nat.le_refl _) (by omega) hseen)) ?_))))))))
     refine sV (v_leq Z Z) (st_clr Z Z en75 Z (unless_ct) ?_)
     refine sM Z (sV (v_not Z) (sM Z (st_cut (k:=11) (d:=111) (v:=.bool (!(o a).isSome || sames ((o a).getD []) seen)) (fun hcut=>bool_want (b:=(!(o a).isSome)) false (fun hg=>?_) (fun hg=>?_)) ?_)))
     ·refine st_sk Z Z hg ?_
      iterate 2 refine st_sk rfl rfl hg ?_
      refine sV (vQ (bO Z hg) Z) ?_
      exact hcut _ uG
     ·refine sG Z (bG Z hg) (vM Z) (sG Z (bG Z hg) (vM Z) (st_clrg Z (bG Z hg) Z Z en53 Z (equal_ct hwas2 hseen) ?_))
      refine sV (vP (bO Z hg) Z) ?_
      exact hcut _ uG
     refine st_clr Z Z en75 Z (unless_ct) ?_
     refine st_buildSlice (cells:=[.int .i64 (if decide ((partss seen:Int)≤400)=true then 0 else 3),.int .i64 (if (!(o a).isSome || sames ((o a).getD []) seen)=true then 0 else 10)]) Z Tryz.underlying209 inf29 Z Z (by kernel_rfl) (ltn Z) fun b113=>?_
     refine st_cl Z Z en135 Z (firstE_ct (row_ints [if decide ((partss seen:Int)≤400)=true then 0 else 3,if (!(o a).isSome || sames ((o a).getD []) seen)=true then 0 else 10] Z (by decide))) ?_
     rintro u h' ⟨rfl,rfl⟩
     simp only [lC,lN]
     rw [show firstE [if decide ((partss seen:Int)≤400)=true then 0 else 3,if (!(o a).isSome || sames ((o a).getD []) seen)=true then 0 else 10]=stepE o a seen from rfl]
     refine sA Z (sK [1,4,7,8,10,12,14,18,19,31,32,33,50,51,52,64,65,66] Z (cS (cQ (sM Z (sV (v_neq Z Z) (sK [1,4,7,8,10,12,14,18,19,31,32,33,50,51,52,64,65,66,116] Z (cC Z (fun he=>?_) (fun he=>?_))))))))
     ·have he:stepE o a seen≠0:=by simpa using he
      rw [if_pos he] at htg
      rw [htg] at hta
      simp only [] at hta
      rw [hta]
      refine cQ (sM Z (sA Z (sK [1,4,7,8,10,12,14,18,19,31,32,33,50,51,52,64,65,66] Z (cd_exit (xE (xt_exit_block_ne (by decide) ?_))))))
      refine xE (xE (xt_exit_block_ne (by decide) ?_))
      refine xt_exit_block_ne (by decide) ?_
      refine xE (xE (xt_exit_block_ne (by decide) ?_))
      refine xt_exit_block_ne (by decide) ?_
      refine xE (xE (xY (xT (cQ (sM Z (sM Z (sA Z (sA Z (sK [2,3] Z (cT (xt_ret_scope (xt_pv (pv_unpack (L:=[Res.star [VR wq 25 5 rows,Tn],Res.star [T,S]])) ?_))))))))))))
      simp only [lC,lN]
      refine xt_pv (pv_unpack (L:=[T,S])) ?_
      simp only [lC,lN]
      exact xt_rt Z ⟨Z,Z⟩ sbq
     ·have he:stepE o a seen=0:=by simpa using he
      rw [if_neg (by simpa using he)] at htg
      have hs4:=stepE_zero he
      refine cK (xT (cR (sM Z (sM Z (sM Z (st_smapUpdate Z Z Z mp141 slq ?_))))))
      refine sN (nK [1,4,7,8,10,12,14,31,32,33,50,51,52,64,65,66] Z (nx_xt (xB (xT (cR (sV (v_add Z Z (by unfold I64 at *; omega)) (sM Z (sN (nK [1,4,7,8,10,12,14,31,32,33,50,51,52,64,65,66] Z (nx_xt (xt_pv (pv_unpack (L:=[Res.star [VR wq 25 5 rows,Tn],Res.star [T,S]])) ?_)))))))))))
      simp only [lC,lN]
      refine xt_pv (pv_unpack (L:=[T,S])) ?_
      simp only [lC,lN]
      refine xt_pv (pv_pack (L:=[T,Res.star [VR wq 25 5 rows,Tn]])) ?_
      simp only [lC,lN]
      rw [he]
      refine xt_aq (supd mo a wq,Res.star [T,Res.star [VR wq 25 5 rows,Tn]],oupd o a seen,k+1) ⟨hltk,htg,(hO.mono fun p u g=>rd_up p u .here g).upd (hseen.mono fun p u g=>rd_turn p u g),hT.up .here,hSo.upd hs4⟩ (Nat.sub_lt_sub_left hltk (Nat.lt_succ_self k))
   ·have hkl:k=up.length:=by
     have:¬ k<up.length:=by simpa using hdk
     omega
    rw [hkl,List.drop_length,List.map_nil,List.nil_append] at htg
    refine cd_exit (xE (xE (xY (xB (xT (cR (sV (v_add Z Z (by unfold I64 at *; omega)) (sM Z (sN (nK [1,4,7,8,10,12,31,32,33,50,51,52] Z (nx_xt ?_)))))))))))
    refine xt_aq (mo,T,o,j+1) ⟨hltj,htg,hO,hT,hSo⟩ (Nat.sub_lt_sub_left hltj (Nat.lt_succ_self j))
  ·have hjl:j=x.parents.length:=by
    have:¬ j<x.parents.length:=by simpa using hdj
    omega
   rw [hjl,List.drop_length,show prs l []=[] from rfl,ownGo] at htg
   rw [htg] at hta
   simp only [] at hta
   refine cd_exit (xE (xE (xY (xB (xT (cR (sV (v_add Z Z (by unfold I64 at *; omega)) (sM Z (sN (nK [1,4,7,8,31,32,33] Z (nx_xt (xt_pv (pv_pack (L:=[T,mps b41 mo])) ?_))))))))))))
   simp only [lC,lN]
   refine xt_aq (supd M x.name (.map (some b41)),Res.star [T,mps b41 mo],all++[(x.name,o)],i+1) ⟨hlt,hta,by rw [List.map_append,hnm,htk]; rfl,(hT.up .here).snoc (by rw [hnm]; exact hmid.1) (MIn.self.star (.there .here)) (hO.mono fun p u g=>rd_up p u .here g),fun c' o' hc'=>?_⟩ (Nat.sub_lt_sub_left hlt (Nat.lt_succ_self i))
   rw [alook_append] at hc'
   cases ha:alook all c' with
   | some o''=>rw [ha] at hc'; cases hc'; exact hS c' _ ha
   | none =>
    rw [ha,Option.none_or,alook_cons] at hc'
    split at hc'
    ·cases hc'; exact hSo
    ·cases hc'
 ·have hil:i=ord.length:=by
   have:¬ i<ord.length:=by simpa using hd
   omega
  rw [hta,hil,List.drop_length,tabGo]
  refine cd_exit (xE (xE (xY (xT (cQ (sM Z (sM Z (sA Z (sA Z (sK [2,3] Z (cT (xt_ret_scope ?_))))))))))))
  exact xt_rt Z ⟨Z,Z⟩ sbq
end
end Go.Hr
namespace Go.Hr
open Go Go.RowKit Go.Ck Go.Proofs Go.Proofs.YtaohbfnepjjdgaaGreat Fx
attribute [local irreducible] Go.Ck.Sub St Cd Xt Nx DrL LsW
section
variable {S T N R:Res} {v:Value} {F:List Fm} {A:List Kt} {l:KS} {m:List (Bs×Value)} {mb:Nat} {s t:Kt} {va:Option Addr} {vc:Nat} {ts:List Kt} {rows:List (List Value)}
def Tiny (l:KS):Prop:=∀ x∈l,∀ p∈x.parents,∀ a∈p.args,a.parts≤200∧a.depth≤1000000
theorem kcheck_of (h1 : (check (ksys l)).1 = 0) : kcheck l = (match List.find? (fun x => formalsE l x != 0) l with
  | some x=>(formalsE l x,x.name)
  | none=>match List.find? (fun x=>parentsE l x != 0) l with
   | some x=>(parentsE l x,x.name)
   | none=>tabsE (tabs l)):=by
 unfold kcheck
 rw [if_neg (by simpa using h1)]
 cases List.find? (fun x=>formalsE l x != 0) l with
 | some x=>rfl
 | none=>cases List.find? (fun x=>parentsE l x != 0) l with
  | some x=>rfl
  | none=>cases tabs l <;> rfl
set_option maxHeartbeats 8000000 in
set_option maxRecDepth 100000 in
theorem kcheck_ct (hv : ksysR S (.slice va l.length vc) l) (ht : Tiny l) :
  Ct Tryz.prog 46 #[.slice va l.length vc] [S] fun u h'=>∃ mb m,u = .tuple #[wV mb va l.length vc,.int .i64 (kcheck l).1,sv (kcheck l).2]∧h'=[mps mb m,S]∧((nms (ksys l)).Nodup→KMap S m l):=by
 have hml:maxLen=9223372036854775807:=rfl
 have hsys:sysR S (.slice va l.length vc) (ksys l):=hv.sys
 obtain ⟨_,_,hve,hlc,hcm,_⟩:=id hv
 cases hve
 unfold wV
 refine ct_of (n:=64) Tryz.func46 Z Z (len Z) fun hr w0=>?_
 refine cQ (st_alc al85 fun b2=>?_)
 refine sA Z (sA Z (sN (nT (cQ (sM Z (st_cl Z Z en79 Z (opened_ct hv) ?_))))))
 rintro u h' ⟨mb,m,rfl,rfl,hMn⟩
 simp only [lC,lN]
 refine sM Z (sV (v_build (cells:=[.map (some mb),.slice va l.length vc]) Z (fun _=>by kernel_rfl)) ?_)
 refine st_alc al85 fun b5=>?_
 refine st_stoW Z Z sz85 Z Z ?_
 refine sK [0,2,3,4,5] Z (cS (cQ (sM Z (st_cl Z Z en80 Z (Check_ct hsys) ?_))))
 rintro u h' ⟨rfl,rfl⟩
 simp only [lC,lN]
 refine sM Z (sV (v_extract Z Z) (sV (v_extract Z Z) (sA Z (sA Z (sK [0,2,3,4,5,6,7] Z (cQ (sM Z (sV (v_neq Z Z) (sK [0,2,3,4,5,6,7,25] Z (cC Z (fun hc=>?_) (fun hc=>?_)))))))))))
 ·have hc:(check (ksys l)).1≠0:=by simpa using hc
  have hk:kcheck l=check (ksys l):=by unfold kcheck; rw [if_pos hc]
  rw [hk]
  refine cQ (sV (v_ldn Z ld85 Z rds_pt) ?_)
  refine sM Z (sM Z (st_stoW Z Z sz85 Z Z ?_))
  refine sA Z (sA Z (sK [2,3,4] Z (cT (xR ?_))))
  exact xt_retV (.cellN Z ld85 Z slq (.tmp Z (.tmp Z .nil))) ⟨mb,m,Z,Z,hMn⟩ sbr
 ·have hc:(check (ksys l)).1=0:=by simpa using hc
  have hR:=check_zero.1 hc
  have hM:=hMn hR.uniq
  rw [kcheck_of hc]
  refine cK (xT (cS (cQ (sV (v_ldn Z ld85 Z rds_pt) ?_))))
  refine sV (v_makeFunc Z Z) (sV (v_ldn Z ld85 Z rds_pt) ?_)
  refine sV (v_makeFunc Z Z) (st_buildSlice (cells:=[.func (.func 81) #[.agg #[.map (some mb),.slice va l.length vc]] #[],.func (.func 82) #[.agg #[.map (some mb),.slice va l.length vc]] #[]]) Z Tryz.underlying133 inf132 Z Z (by kernel_rfl) (ltn Z) fun b33=>?_)
  refine sV (v_len Z Tryz.underlying133) (sM Z (sK [0,2,3,4,5,33,34,35] Z (cB ?_)))
  have hfm:=fun x us (hx:kclsC S us x)=>formals_ct (mb:=mb) (va:=va) (vc:=vc) hM hx
  unfold wV at hfm
  refine cd_lq (σ := Nat) (fun i=>[(0,.slice va l.length vc),(2,.pointer (some ⟨b2,0,none⟩)),(5,.pointer (some ⟨b5,0,none⟩)),(33,.slice (some ⟨b33,0,none⟩) 2 2),(34,.int .i64 2),(35,.int .i64 (i:Nat))]) (fun _=>pt b2 (cl [.map none,.slice none 0 0] 85)::pt b5 (cl [.map (some mb),.slice va l.length vc] 85)::pt b33 (cl [.func (.func 81) #[.agg #[.map (some mb),.slice va l.length vc]] #[],.func (.func 82) #[.agg #[.map (some mb),.slice va l.length vc]] #[]] 132)::mps mb m::S::hr) (fun i=>i≤2∧(1≤i→List.find? (fun x=>formalsE l x != 0) l=none)∧(2≤i→List.find? (fun x=>parentsE l x != 0) l=none)) (fun i=>2 - i) 0 ⟨by decide,fun h=>absurd h (by decide),fun h=>absurd h (by decide)⟩ ?_
  rintro i ⟨hi,hf1,hf2⟩
  refine cQ (sV (v_lss Z Z) (sN (nT (cS (cC Z (fun hd=>?_) (fun hd=>?_))))))
  ·have hi2:i<2:=by have:=of_decide_eq_true hd; omega
   rcases (by omega:i=0∨i=1) with rfl | rfl
   ·refine cK (xT (cS (cB (cQ (sV (vI (k:=0) Z Z sl133 Z (by decide) Z) ?_)))))
    refine sV (vY Z ld132) ?_
    refine sA Z (sK [0,2,5,9,33,34,35] Z (cQ (sM Z (sV (v_len Z Tryz.underlying22) (sM Z (sN (nT (cB (cd_lq (σ := Nat) (fun j=>[(0,.slice va l.length vc),(2,.pointer (some ⟨b2,0,none⟩)),(5,.pointer (some ⟨b5,0,none⟩)),(33,.slice (some ⟨b33,0,none⟩) 2 2),(34,.int .i64 2),(35,.int .i64 ((0:Nat):Int)),(9,.func (.func 81) #[.agg #[.map (some mb),.slice va l.length vc]] #[]),(39,.slice va l.length vc),(40,.int .i64 l.length),(41,.int .i64 (j:Nat))]) (fun _=>pt b2 (cl [.map none,.slice none 0 0] 85)::pt b5 (cl [.map (some mb),.slice va l.length vc] 85)::pt b33 (cl [.func (.func 81) #[.agg #[.map (some mb),.slice va l.length vc]] #[],.func (.func 82) #[.agg #[.map (some mb),.slice va l.length vc]] #[]] 132)::mps mb m::S::hr) (fun j=>j≤l.length∧List.find? (fun x=>formalsE l x != 0) l=List.find? (fun x=>formalsE l x != 0) (l.drop j)) (fun j=>l.length - j) 0 ⟨Nat.zero_le _,Z⟩ ?_)))))))))
    rintro j ⟨hj,hal⟩
    refine cQ (sV (v_lss Z Z) (sN (nT (cS (cC Z (fun hdj=>?_) (fun hdj=>?_))))))
    ·have hlt:j<l.length:=by simpa using hdj
     have hxl:=List.getElem_mem hlt
     obtain ⟨bx,ox,capx,us,e1,hus,hrd,hcx⟩:=Row.at hv (List.getElem?_eq_getElem hlt)
     cases e1
     rw [List.drop_eq_getElem_cons hlt] at hal
     generalize l[j]=x at hxl hcx hal
     have hct:=hfm x _ hcx
     obtain ⟨d,f,pv,c2,fa,fc,i2,rfl,hone,_⟩:=hcx
     refine cK (xT (cS (cB (cQ (sV (vI (k:=j) Z Z sl22 Z hlt Z) (sV (v_ldn Z ld54 Z hrd) ?_))))))
     refine st_alc al54 fun b11=>?_
     refine st_stoW Z Z sz54 Z hone ?_
     refine sK [0,2,5,9,11,33,34,35,39,40,41] Z (cQ (sM Z (sV (v_ldn Z ld54 Z rds_pt) ?_)))
     refine st_cl Z Z en81 Z (hct) ?_
     rintro u h' ⟨rfl,rfl⟩
     simp only [lC,lN]
     refine sA Z (sK [0,2,5,9,11,12,33,34,35,39,40,41] Z (cQ (sM Z (sV (v_neq Z Z) (sK [0,2,5,9,11,12,33,34,35,39,40,41,49] Z (cC Z (fun he=>?_) (fun he=>?_)))))))
     ·rw [List.find?_cons_of_pos (by simpa using he)] at hal
      rw [hal]
      refine cS (cd_draw (ork [(0,1),(1,2),(2,2),(3,1),(4,0),(5,2),(6,2)] .nil) (fun _=>true) [pt b5 (cl [.map (some mb),.slice (some ⟨bx,ox,none⟩) l.length vc] 85),pt b11 (cl [sv x.name,d,f,pv,c2,.slice fa x.feats fc,i2] 54)] mixed (by kernel_rfl) ?_)
      refine dr_v Z (v_ldn Z ld85 Z rds_pt) ?_
      refine dV Z (vM Z) (dV Z (vF Z fa54_0 Z) (dr_v Z (vY Z ld9) ?_))
      refine dr_eff Z (st_stoW Z Z sz85 Z Z ?_)
      refine dr_nx ?_
      refine dV Z (vA Z) (dV Z (vA Z) (dr_nil (nK [2,3,4] Z (nT (cT (xW (xR (xR (xW (xW (xR (xR (xW (xR ?_))))))))))))))
      exact xt_retV (.cellN Z ld85 Z slq (.tmp Z (.tmp Z .nil))) ⟨mb,m,Z,Z,hMn⟩ sbr
     ·rw [List.find?_cons_of_neg (by simpa using he)] at hal
      refine cK (xB (xT (cR (sV (v_add Z Z (by unfold I64 at *; omega)) (sM Z (sN (nK [0,2,5,9,33,34,35,39,40,41] Z (nx_xt ?_))))))))
      refine xt_aq (j+1) ⟨hlt,hal⟩ (Nat.sub_lt_sub_left hlt (Nat.lt_succ_self j))
    ·have hjl:j=l.length:=by
      have:¬ j<l.length:=by simpa using hdj
      omega
     rw [hjl,List.drop_length] at hal
     refine cd_exit (xE (xE (xY (xB (xT (cR (sV (v_add Z Z (by unfold I64 at *; omega)) (sM Z (sN (nK [0,2,5,33,34,35] Z (nx_xt ?_)))))))))))
     refine xt_aq 1 ⟨by decide,fun _=>hal,fun h=>absurd h (by decide)⟩ (by decide)
   ·have hHR:HRight l:=⟨hR,fun x hx=>by simpa using List.find?_eq_none.1 (hf1 (by decide)) x hx⟩
    refine cK (xT (cS (cB (cQ (sV (vI (k:=1) Z Z sl133 Z (by decide) Z) ?_)))))
    refine sV (vY Z ld132) ?_
    refine sA Z (sK [0,2,5,9,33,34,35] Z (cQ (sM Z (sV (v_len Z Tryz.underlying22) (sM Z (sN (nT (cB (cd_lq (σ := Nat) (fun j=>[(0,.slice va l.length vc),(2,.pointer (some ⟨b2,0,none⟩)),(5,.pointer (some ⟨b5,0,none⟩)),(33,.slice (some ⟨b33,0,none⟩) 2 2),(34,.int .i64 2),(35,.int .i64 ((1:Nat):Int)),(9,.func (.func 82) #[.agg #[.map (some mb),.slice va l.length vc]] #[]),(39,.slice va l.length vc),(40,.int .i64 l.length),(41,.int .i64 (j:Nat))]) (fun _=>pt b2 (cl [.map none,.slice none 0 0] 85)::pt b5 (cl [.map (some mb),.slice va l.length vc] 85)::pt b33 (cl [.func (.func 81) #[.agg #[.map (some mb),.slice va l.length vc]] #[],.func (.func 82) #[.agg #[.map (some mb),.slice va l.length vc]] #[]] 132)::mps mb m::S::hr) (fun j=>j≤l.length∧List.find? (fun x=>parentsE l x != 0) l=List.find? (fun x=>parentsE l x != 0) (l.drop j)) (fun j=>l.length - j) 0 ⟨Nat.zero_le _,Z⟩ ?_)))))))))
    rintro j ⟨hj,hal⟩
    refine cQ (sV (v_lss Z Z) (sN (nT (cS (cC Z (fun hdj=>?_) (fun hdj=>?_))))))
    ·have hlt:j<l.length:=by simpa using hdj
     have hxl:=List.getElem_mem hlt
     obtain ⟨bx,ox,capx,us,e1,hus,hrd,hcx⟩:=Row.at hv (List.getElem?_eq_getElem hlt)
     cases e1
     rw [List.drop_eq_getElem_cons hlt] at hal
     generalize l[j]=x at hxl hcx hal
     have hct:=kparents_ct (mb:=mb) hHR hM hv (kfind_mem hR hxl) hcx (fun p hp a ha=>(ht x hxl p hp a ha).2)
     unfold wV at hct
     obtain ⟨d,f,pv,c2,fa,fc,i2,rfl,hone,_⟩:=hcx
     refine cK (xT (cS (cB (cQ (sV (vI (k:=j) Z Z sl22 Z hlt Z) (sV (v_ldn Z ld54 Z hrd) ?_))))))
     refine st_alc al54 fun b11=>?_
     refine st_stoW Z Z sz54 Z hone ?_
     refine sK [0,2,5,9,11,33,34,35,39,40,41] Z (cQ (sM Z (sV (v_ldn Z ld54 Z rds_pt) ?_)))
     refine st_cl Z Z en82 Z (hct) ?_
     rintro u h' ⟨rfl,rfl⟩
     simp only [lC,lN]
     refine sA Z (sK [0,2,5,9,11,12,33,34,35,39,40,41] Z (cQ (sM Z (sV (v_neq Z Z) (sK [0,2,5,9,11,12,33,34,35,39,40,41,49] Z (cC Z (fun he=>?_) (fun he=>?_)))))))
     ·rw [List.find?_cons_of_pos (by simpa using he)] at hal
      rw [hf1 (by decide)]
      rw [hal]
      refine cS (cd_draw (ork [(0,1),(1,2),(2,2),(3,1),(4,0),(5,2),(6,2)] .nil) (fun _=>true) [pt b5 (cl [.map (some mb),.slice (some ⟨bx,ox,none⟩) l.length vc] 85),pt b11 (cl [sv x.name,d,f,pv,c2,.slice fa x.feats fc,i2] 54)] mixed (by kernel_rfl) ?_)
      refine dr_v Z (v_ldn Z ld85 Z rds_pt) ?_
      refine dV Z (vM Z) (dV Z (vF Z fa54_0 Z) (dr_v Z (vY Z ld9) ?_))
      refine dr_eff Z (st_stoW Z Z sz85 Z Z ?_)
      refine dr_nx ?_
      refine dV Z (vA Z) (dV Z (vA Z) (dr_nil (nK [2,3,4] Z (nT (cT (xW (xR (xR (xW (xW (xR (xR (xW (xR ?_))))))))))))))
      exact xt_retV (.cellN Z ld85 Z slq (.tmp Z (.tmp Z .nil))) ⟨mb,m,Z,Z,hMn⟩ sbr
     ·rw [List.find?_cons_of_neg (by simpa using he)] at hal
      refine cK (xB (xT (cR (sV (v_add Z Z (by unfold I64 at *; omega)) (sM Z (sN (nK [0,2,5,9,33,34,35,39,40,41] Z (nx_xt ?_))))))))
      refine xt_aq (j+1) ⟨hlt,hal⟩ (Nat.sub_lt_sub_left hlt (Nat.lt_succ_self j))
    ·have hjl:j=l.length:=by
      have:¬ j<l.length:=by simpa using hdj
      omega
     rw [hjl,List.drop_length] at hal
     refine cd_exit (xE (xE (xY (xB (xT (cR (sV (v_add Z Z (by unfold I64 at *; omega)) (sM Z (sN (nK [0,2,5,33,34,35] Z (nx_xt ?_)))))))))))
     refine xt_aq 2 ⟨by decide,fun _=>hf1 (by decide),fun _=>hal⟩ (by decide)
  ·have hi2:i=2:=by have:=of_decide_eq_false hd; omega
   subst hi2
   have hHR:HRight l:=⟨hR,fun x hx=>by simpa using List.find?_eq_none.1 (hf1 (by decide)) x hx⟩
   have hin:=instances_ct (mb:=mb) hHR hM hv (fun x hx p hp a ha=>(ht x hx p hp a ha).1)
   unfold wV at hin
   rw [hf1 (by decide),hf2 (by decide)]
   refine cd_exit (xE (xE (xY (xT (cQ (sV (v_ldn Z ld85 Z rds_pt) ?_))))))
   refine st_cl Z Z en83 Z (hin) ?_
   rintro u h' ⟨rfl,rfl⟩
   simp only [lC,lN]
   refine sM Z (sV (v_extract Z Z) (sV (v_extract Z Z) (sA Z (sA Z (sK [2,5,13,14] Z (cQ (sV (v_ldn Z ld85 Z rds_pt) ?_)))))))
   refine sM Z (sM Z (st_stoW Z Z sz85 Z Z ?_))
   refine sA Z (sA Z (sK [2,3,4] Z (cT ?_)))
   exact xt_retV (.cellN Z ld85 Z slq (.tmp Z (.tmp Z .nil))) ⟨mb,m,Z,Z,hMn⟩ sbr
end
end Go.Hr
