/-
  The reference: Seen,supers. Conditions: what is read; small types,not too many classes.
  The reference: why one type conforms to another. Conditions: what is read; small types; a right system.
  The reference: Supers,Conforms,Why,CheckWhy. Conditions: what is read; small types,not too many classes.
  The reference: CheckWhy,SameWay. Conditions: what is read; small types,not too many classes.
-/
import Derived.Test.YtaohbfnepjjdgaaGreatM21
set_option linter.unusedVariables false
set_option linter.unusedSimpArgs false
namespace Go.Hr
open Go Go.RowKit Go.Ck Go.Proofs Go.Proofs.YtaohbfnepjjdgaaGreat Fx
attribute [local irreducible] Go.Ck.Sub St Cd Xt Nx DrL LsW
section
variable {S T N R:Res} {v:Value} {F:List Fm} {A:List Kt} {l:KS} {s t:Kt} {ts:List Kt} {rows:List (List Value)} {all:List (Nm×Own)} {x:KC}
theorem ctB_rcB (F:List Fm) (t:Kt):ctB F t=rcB F t:=by
 unfold ctB rcB
 rw [show (fmAt F t.name).isSome=(fidx F t.name).isSome by
  cases h:fidx F t.name with
  | none=>rw [fmAt_none h]; rfl
  | some i=>obtain ⟨_,h2⟩:=fidx_at h; rw [h2]; rfl]
set_option maxRecDepth 100000 in
theorem rc_ct (h:rcB F t=true):(rcK F t).name=(ctK F t).name∧(rcK F t).args=(ctK F t).args:=by
 unfold rcB at h
 unfold rcK ctK
 by_cases h3:t.kind=3
 ·rw [if_pos h3,if_pos h3]; exact ⟨rfl,rfl⟩
 ·rw [show (t.kind == 3)=false by simpa using h3,Bool.false_or,Bool.and_eq_true] at h
  have h4:t.kind=4:=eq_of_beq h.1
  rw [if_neg h3,if_neg h3,if_pos ⟨h4,h.2⟩,if_pos h4]
  exact ⟨boundOf_fm,Z⟩
theorem rinst_same {s t:Kt} (h1:s.name=t.name) (h2:s.args=t.args) (a:Nm):rinst l all s a=rinst l all t a:=by
 unfold rinst
 rw [h1,h2]
theorem ct_right (hK:KRight l all) (hx:x∈l) (hin:t.inner l x.formals=0) (h:rcB x.formals t=true):badT l (ctK x.formals t)=false∧((rcK x.formals t).name=root∨(kfind l (rcK x.formals t).name).isSome=true):=by
 have hn:isNmd t=true:=by
  unfold rcB at h
  unfold isNmd
  rw [Bool.or_eq_true,Bool.and_eq_true] at h
  rw [Bool.or_eq_true]
  exact h.imp id (·.1)
 obtain ⟨h1,h2,h3⟩:=ctK_name (F:=x.formals) (nmd_iff.1 hn)
 have hc:=hK.head.ct hx hin hn
 rw [(rc_ct h).1]
 unfold badT
 rw [h3,h1,h2]
 rcases hc with ⟨g1,g2⟩ | ⟨y,g1,g2⟩
 ·refine ⟨?_,.inl g1⟩
  rw [g1,g2]
  simp only [bne_self_eq_false,Bool.and_false,Bool.or_false,Bool.false_or]
  rw [show fmsOf l root=[] by unfold fmsOf; rw [hK.no_root]; rfl]; rfl
 ·refine ⟨?_,.inr (by rw [g1]; rfl)⟩
  rw [g1,fmsOf_some g1,g2]
  simp
theorem supE_rinst (hK:KRight l all) (hx:x∈l) (hin:t.inner l x.formals=0) (h:rcB x.formals t=true) (a:Nm):supE l (ctK x.formals t) t a = .mk 3 a (rinst l all (rcK x.formals t) a).1 t.void t.sep:=by
 unfold supE
 rw [inst_eq hK (ct_right hK hx hin h).1,rinst_same (rc_ct h).1 (rc_ct h).2]
set_option maxHeartbeats 4000000 in
set_option maxRecDepth 100000 in
theorem supersR_ct (hK : KRight l all) (hv : ksysR S v l) (ht : Tiny l) (hx : x ∈ l) {n0 d pv c2 fs ii : Value} {fa : Option Addr} {fc : Nat} (hrow : Row S 2 fmC (.slice fa x.formals.length fc) x.formals) {us : List Value} (hu : Ty S us t) (hin : t.inner l x.formals = 0) :
  CtN Tryz.prog 60 #[v,.agg #[n0,d,.slice fa x.formals.length fc,pv,c2,fs,ii],.agg us.toArray] [S] fun u T=>∃ a cap,u = .slice a (supersK l x.formals t).length cap∧Tys (Res.star [T,S]) u (supersK l x.formals t):=by
 have hml:maxLen=9223372036854775807:=rfl
 have hrb:reachBytes=140737488351232:=rfl
 have hR:=hK.right
 have hsl:(ksys l).length≤1000000:=by have:=hR.len; omega
 obtain ⟨y,rfl,hy⟩:=hu.out
 obtain ⟨ya,yc,rfl,_⟩:=id hy.form
 have hcl := @classTypeR_ct S x.formals t n0 d pv c2 fs ii fa fc hrow ya t.args.length yc
 have hab:=fun c=>AboveS_ct hv.sys hsl c
 have hup:=up_len hR (rcK x.formals t).name
 obtain ⟨za,zn,zc,hcv⟩:∃ za zn zc,ctV t (.slice ya t.args.length yc) = .slice za zn zc:=by
  unfold ctV
  split
  ·exact ⟨_,_,_,Z⟩
  ·exact ⟨_,_,_,Z⟩
 rw [hcv] at hcl
 have hct:rcB x.formals t=true→Ty S (tyC (rcK x.formals t) (.slice za zn zc)) (rcK x.formals t):=fun h=>by
  have:=ctK_ty (F:=x.formals) hy
  rw [hcv] at this
  obtain ⟨q,hq1,hq2⟩:=this.out
  cases hq1
  exact Ty.of Z (by rw [(rc_ct h).2]; exact hq2)
 have hsk:supersK l x.formals t=if rcB x.formals t=true then (okL (rightE (ksys l) [(rcK x.formals t).name]) (above (ksys l) (rcK x.formals t).name)).reverse.map (fun a=>.mk 3 a (rinst l all (rcK x.formals t) a).1 t.void t.sep)++[.mk 3 root [] t.void t.sep] else []:=by
  unfold supersK
  rw [ctB_rcB]
  by_cases h:rcB x.formals t=true
  ·rw [if_pos h,if_pos h,← (rc_ct h).1]
   congr 1
   exact List.map_congr_left fun a _=>supE_rinst hK hx hin h a
  ·rw [if_neg h,if_neg h]
 have hnm:=fun h=>(ct_right hK hx hin h).2
 rw [hsk]
 clear hsk
 generalize rcK x.formals t=k at *
 generalize rcB x.formals t=kb at *
 have hia:=fun h hn a=>instR_ct hK hv ht (hct h) hn a
 obtain ⟨va,vc,rfl,hlcv,hcmv,_⟩:=id hv
 unfold tyC at hcl hia ⊢
 refine ct_of (n:=72) Tryz.func60 Z Z (len Z) fun hr w0=>?_
 refine cQ (st_bx Z Z fun b4=>?_)
 refine st_bx Z Z fun b5=>?_
 refine sA Z (sK [0,4,5,6] Z (cQ (sV (v_ldn Z ld54 Z rds_pt) ?_)))
 refine sV (v_ldn Z ld25 Z rds_pt) ?_
 refine st_clr Z Z en70 Z (hcl) ?_
 refine sM Z (sV (v_extract Z Z) (sV (v_extract Z Z) (st_alc al25 fun b7=>?_)))
 refine st_stoW Z Z sz25 Z Z ?_
 refine sA Z (sK [0,5,6,7,8] Z (cS (cQ (sM Z (sV (v_not Z) (sK [0,5,6,7,22] Z ?_))))))
 cases kb with
 | false =>
  rw [if_neg (by decide)]
  refine cd_true Z ?_
  refine cQ (sA Z (sK [6] Z (cT (xR (xt_vw (vw_unstar (L:=[])) ?_)))))
  exact xt_rt Z ⟨Res.star [],Z,none,0,Z,Tys.nil⟩ sbq
 | true =>
  rw [if_pos rfl]
  have hia:=hia rfl (hnm rfl)
  refine cd_false Z ?_
  refine cK (xT (cQ (sA Z (sK [0,5,6,7,9] Z (cS (cQ (sV (vF Z fa25_1 Z) (sV (vY Z ld9) ?_))))))))
  refine sV (v_sneq Z Z) (sK [0,5,6,7,9,25] Z (cC Z (fun hrt=>?_) (fun hrt=>?_)))
  ·refine cQ (sM Z (sV (vF Z fa25_1 Z) (sV (vY Z ld9) ?_)))
   refine st_cl Z Z en92 Z (hab k.name) ?_
   rintro u h' ⟨T2,rfl,w2,rfl,hw2,hur⟩
   simp only [lC,lN]
   refine sV (v_field1 (cs:=[w2,.int .i64 (rightE (ksys l) [k.name])]) Z Tryz.underlying123 Z (fun w=>by simp [isAgg,run_underlying Tryz.underlying50]) Z) ?_
   obtain ⟨ua,uc,rfl,_⟩:=id hur
   generalize okL (rightE (ksys l) [k.name]) (above (ksys l) k.name)=up at *
   refine sA Z (sK [0,5,6,7,9,10] Z (cQ (sM Z (sV (v_len Z Tryz.underlying50) (sV (v_sub Z Z (by unfold I64 at *; omega)) (sA Z (sK [0,5,6,7,9,10,11] Z (cB (cd_vw (vw_nil 25 5) (cd_vw (vw_unstar (L:=[])) (cd_lq (σ := Value×List (List Value)×Res×Nat) (fun q=>[(0,.slice va l.length vc),(5,.pointer (some ⟨b5,0,none⟩)),(7,.pointer (some ⟨b7,0,none⟩)),(9,q.1),(10,.slice ua up.length uc),(11,.int .i64 ((q.2.2.2:Nat) - 1))]) (fun q=>VR q.1 25 5 q.2.1::q.2.2.1::pt b5 (cl [.int .i64 t.kind,sv t.name,.slice ya t.args.length yc,.bool t.void,.bool t.sep] 25)::pt b7 (cl [.int .i64 k.kind,sv k.name,.slice za zn zc,.bool k.void,.bool k.sep] 25)::T2::S::hr) (fun q=>q.2.2.2≤up.length∧q.1.oneCell'=true∧TyRows (Res.star [q.2.2.1,S]) q.2.1 ((up.drop q.2.2.2).reverse.map (fun a=>.mk 3 a (rinst l all k a).1 t.void t.sep))) (fun q=>q.2.2.2) (.slice none 0 0,[],Res.star [],up.length) ⟨Nat.le_refl _,Z,by rw [List.drop_length]; exact TyRows.nil⟩ ?_)))))))))))
   rintro ⟨wv,rows,T,i⟩ ⟨hi,hwv,hro⟩
   simp only at hi hwv hro
   dsimp only
   have hrl:rows.length=up.length - i:=by rw [hro.1]; simp
   refine cS (cQ (sM Z (sV (v_geq Z Z) (sK [0,5,7,9,10,11,35] Z (cC Z (fun hd=>?_) (fun hd=>?_))))))
   ·have hd:(0:Int)≤(i:Int) - 1:=of_decide_eq_true hd
    obtain ⟨j,rfl⟩:∃ j,i=j+1:=⟨i - 1,by omega⟩
    have hlt:j<up.length:=by omega
    obtain ⟨bu,ou,capu,u,e1,hru,hX⟩:=Row.at1 hur (List.getElem?_eq_getElem hlt)
    cases e1
    have hX:[u]=[sv up[j]]:=hX
    have hsn:(up.drop j).reverse.map (fun a=>Kt.mk 3 a (rinst l all k a).1 t.void t.sep)=(up.drop (j+1)).reverse.map (fun a=>Kt.mk 3 a (rinst l all k a).1 t.void t.sep)++[.mk 3 up[j] (rinst l all k up[j]).1 t.void t.sep]:=by
     rw [List.drop_eq_getElem_cons hlt,List.reverse_cons,List.map_append]; rfl
    generalize up[j]=a at hX hsn
    cases hX
    rw [show (((j+1:Nat):Int) - 1)=(j:Int) by omega]
    refine cK (xT (cS (cB (cS (cd_drawh (ork [(0,2),(1,1),(2,2),(3,2),(4,2),(5,1),(6,0),(7,2),(8,2),(9,2),(10,2),(11,2)] .nil) (fun i => !(Nat.beq i 6)) mixed (by kernel_rfl) ?_)))))
    refine dV Z (vM Z) (dr_v Z (v_ldn Z ld25 Z rds_pt) ?_)
    refine dV Z (vM Z) (dV Z (vM Z) (dV Z (vI (k:=j) Z Z sl50 Z hlt Z) (dr_v Z (vY Z ld9) ?_)))
    refine dr_eff Z (st_cl Z Z en57 Z (hia a) ?_)
    rintro u h' ⟨T3,rfl,w3,rfl,hw3,hT3⟩
    simp only [lC,lN]
    obtain ⟨wa,wc,rfl,_⟩:=id hT3.form
    have hel:Ty (Res.star [T3,S]) [.int .i64 3,sv a,.slice wa (rinst l all k a).1.length wc,.bool t.void,.bool t.sep] (.mk 3 a (rinst l all k a).1 t.void t.sep):=Ty.of (t:=.mk 3 a (rinst l all k a).1 t.void t.sep) rfl hT3
    refine dr_nx ?_
    refine dV Z (vM Z) (dV Z (v_extract Z Z) (dV Z (v_extract Z Z) (dV Z (vA Z) (dV Z (vA Z) (dr_nil (nK [0,5,7,9,10,11,12] Z (nT (cd_drawh (ork [(0,2),(1,2),(2,2),(3,2),(4,1),(5,2),(6,2),(7,1),(8,2),(9,1),(10,2),(11,0),(12,0),(13,2)] .nil) (fun i => !(Nat.beq i 11 || Nat.beq i 12)) mixed (by kernel_rfl) ?_))))))))
    refine dV Z (vM Z) (dV Z (vM Z) (dV Z (vM Z) (dV Z (vI (k:=j) Z Z sl50 Z hlt Z) (dr_v Z (vY Z ld9) ?_))))
    refine dV Z (vM Z) (dV Z (vF Z fa25_3 Z) (dr_v Z (vY Z ld4) ?_))
    refine dV Z (vF Z fa25_4 Z) (dr_v Z (vY Z ld4) ?_)
    refine dV Z (v_build (cells:=[.int .i64 3,sv a,.slice wa (rinst l all k a).1.length wc,.bool t.void,.bool t.sep]) Z (fun _=>by kernel_rfl)) ?_
    refine dr_eff Z (st_buildSlice (cells:=[.int .i64 3,sv a,.slice wa (rinst l all k a).1.length wc,.bool t.void,.bool t.sep]) Z Tryz.underlying23 inf25 Z Z (by kernel_rfl) (ltn Z) fun b59=>dr_nx ?_)
    refine dr_eff Z (st_app [[.int .i64 3,sv a,.slice wa (rinst l all k a).1.length wc,.bool t.void,.bool t.sep]] Z Z Tryz.underlying23 inf25 Z (by decide) (show Sel _ (VR wv 25 5 rows) _ from slq) (by simp) Z (fun j u2 hu2=>at_here (rd_cl (by simpa using hu2))) (by simp [Value.oneCell']) (by rw [hrl]; omega) (by rw [hrl]; omega) (ltn Z) fun w5 hw5 _=>dr_nx ?_)
    refine dV Z (vA Z) (dr_nil (nK [0,5,7,9,10,11] Z (nx_xt (xB (xT (cR (sM Z (sV (v_sub Z Z (by unfold I64 at *; omega)) (sA Z (sN (nK [0,5,7,9,10,11] Z (nx_xt (xt_pv (pv_pack (L:=[T,T3])) ?_)))))))))))))
    simp only [lC,lN]
    refine xt_aq (w5,rows++[[.int .i64 3,sv a,.slice wa (rinst l all k a).1.length wc,.bool t.void,.bool t.sep]],Res.star [T,T3],j) ⟨by show j≤_; omega,hw5,by show TyRows _ _ (List.map _ (List.drop j up).reverse); rw [hsn]; exact (hro.mono fun p u g=>rd_up p u .here g).snoc (hel.mono fun p u g=>rd_up p u (.there .here) g)⟩ (Nat.lt_succ_self j)
   ·have hd:¬ (0:Int)≤(i:Int) - 1:=of_decide_eq_false hd
    have hi0:i=0:=by omega
    rw [hi0,List.drop_zero] at hro
    rw [hi0,Nat.sub_zero] at hrl
    have hro2:=hro.snoc (t:=.mk 3 root [] t.void t.sep) (Ty.of rfl Tys.nil)
    refine cd_exit (xE (xE (xY (xT (cQ (st_clr Z Z en107 Z (anyType_ct) ?_))))))
    unfold tyC
    refine st_alc al25 fun b14=>?_
    refine st_stoW Z Z sz25 Z Z ?_
    refine sK [5,9,14] Z (cQ (sV (vF Z fa25_3 Z) (sV (vY Z ld4) ?_)))
    refine sV (vF Z fa25_3 Z) (st_sto Z Z sz4 ?_)
    refine sK [5,9,14] Z (cQ (sV (vF Z fa25_4 Z) (sV (vY Z ld4) ?_)))
    refine sV (vF Z fa25_4 Z) (st_sto Z Z sz4 ?_)
    refine sK [9,14] Z (cQ (sM Z (sV (v_ldn Z ld25 Z rds_pt) ?_)))
    refine st_buildSlice (cells:=[.int .i64 3,sv root,.slice none 0 0,.bool t.void,.bool t.sep]) Z Tryz.underlying23 inf25 Z Z (by kernel_rfl) (ltn Z) fun b70=>?_
    refine st_app [[.int .i64 3,sv root,.slice none 0 0,.bool t.void,.bool t.sep]] Z Z Tryz.underlying23 inf25 Z (by decide) (show Sel _ (VR wv 25 5 rows) _ from slq) (by simp) Z (fun j u2 hu2=>at_here (rd_cl (by simpa using hu2))) (by simp [Value.oneCell',sv]) (by omega) (by omega) (ltn Z) fun w4 hw4 _=>?_
    refine sA Z (sK [6] Z (cT (xt_ok (r:=VR w4 25 5 (rows++[[.int .i64 3,sv root,.slice none 0 0,.bool t.void,.bool t.sep]])) slq fun hok4=>?_)))
    refine xt_pv (pv_pack (L:=[VR w4 25 5 (rows++[[.int .i64 3,sv root,.slice none 0 0,.bool t.void,.bool t.sep]]),T])) ?_
    simp only [lC,lN]
    have hty:Tys (Res.star [Res.star [VR w4 25 5 (rows++[[.int .i64 3,sv root,.slice none 0 0,.bool t.void,.bool t.sep]]),T],S]) w4 ((up.reverse.map (fun a=>Kt.mk 3 a (rinst l all k a).1 t.void t.sep))++[.mk 3 root [] t.void t.sep]):=(hro2.mono fun p u g=>rd_up p u (.there .here) g).tys hok4 (fun p u g=>rd_in .here p u (rd_in .here p u g)) (by simp; omega)
    obtain ⟨ra,rc,rfl,_⟩:=id hty.form
    exact xt_rt Z ⟨_,Z,ra,rc,Z,hty⟩ sbq
  ·have hrt:(k.name != root)=false:=hrt
   have hrt:k.name=root:=by simpa using hrt
   have hre:rightE (ksys l) [k.name]≠0:=fun e=>by
    have:=(rightE_zero.1 e).2 k.name (by simp)
    rw [hrt,← kfind_isC,hK.no_root] at this; cases this
   rw [okL_ne hre]
   obtain ⟨wv,hwv⟩:∃ w,w=Value.slice none 0 0:=⟨_,rfl⟩
   obtain ⟨rows,hrows⟩:∃ r,r=([]:List (List Value)):=⟨_,rfl⟩
   obtain ⟨T,hTe⟩:∃ q,q=Res.star []:=⟨_,rfl⟩
   have hrl:rows.length=0:=by rw [hrows]; rfl
   refine cd_vw (vw_nil 25 5) (cd_vw (vw_unstar (L:=[])) ?_)
   rw [← hwv,← hrows,← hTe]
   have hro2:TyRows (Res.star [T,S]) (rows++[[.int .i64 3,sv root,.slice none 0 0,.bool t.void,.bool t.sep]]) (([]:List Kt)++[.mk 3 root [] t.void t.sep]):=by
    rw [hrows]; exact TyRows.nil.snoc (t:=.mk 3 root [] t.void t.sep) (Ty.of rfl Tys.nil)
   refine cK (xT (cQ (st_clr Z Z en107 Z (anyType_ct) ?_)))
   unfold tyC
   refine st_alc al25 fun b14=>?_
   refine st_stoW Z Z sz25 Z Z ?_
   refine sK [5,6,9,14] Z (cQ (sV (vF Z fa25_3 Z) (sV (vY Z ld4) ?_)))
   refine sV (vF Z fa25_3 Z) (st_sto Z Z sz4 ?_)
   refine sK [5,6,9,14] Z (cQ (sV (vF Z fa25_4 Z) (sV (vY Z ld4) ?_)))
   refine sV (vF Z fa25_4 Z) (st_sto Z Z sz4 ?_)
   refine sK [6,9,14] Z (cQ (sM Z (sV (v_ldn Z ld25 Z rds_pt) ?_)))
   refine st_buildSlice (cells:=[.int .i64 3,sv root,.slice none 0 0,.bool t.void,.bool t.sep]) Z Tryz.underlying23 inf25 Z Z (by kernel_rfl) (ltn Z) fun b70=>?_
   refine st_app [[.int .i64 3,sv root,.slice none 0 0,.bool t.void,.bool t.sep]] Z Z Tryz.underlying23 inf25 Z (by decide) (show Sel _ (VR wv 25 5 rows) _ from slq) (by simp) Z (fun j u2 hu2=>at_here (rd_cl (by simpa using hu2))) (by simp [Value.oneCell',sv]) (by omega) (by omega) (ltn Z) fun w4 hw4 _=>?_
   refine sA Z (sK [6] Z (cT (xt_ok (r:=VR w4 25 5 (rows++[[.int .i64 3,sv root,.slice none 0 0,.bool t.void,.bool t.sep]])) slq fun hok4=>?_)))
   refine xt_pv (pv_pack (L:=[VR w4 25 5 (rows++[[.int .i64 3,sv root,.slice none 0 0,.bool t.void,.bool t.sep]]),T])) ?_
   simp only [lC,lN]
   have hty:Tys (Res.star [Res.star [VR w4 25 5 (rows++[[.int .i64 3,sv root,.slice none 0 0,.bool t.void,.bool t.sep]]),T],S]) w4 (([]:List Kt)++[.mk 3 root [] t.void t.sep]):=(hro2.mono fun p u g=>rd_up p u (.there .here) g).tys hok4 (fun p u g=>rd_in .here p u (rd_in .here p u g)) (by simp; omega)
   obtain ⟨ra,rc,rfl,_⟩:=id hty.form
   exact xt_rt Z ⟨_,Z,ra,rc,Z,hty⟩ sbq
end
end Go.Hr
namespace Go.Hr
open Go Go.RowKit Go.Ck Go.Proofs Go.Proofs.YtaohbfnepjjdgaaGreat Fx
attribute [local irreducible] Go.Ck.Sub St Cd Xt Nx DrL LsW
section
variable {S T N R:Res} {v:Value} {F:List Fm} {A:List Kt} {l:KS} {s t:Kt} {ts:List Kt} {rows:List (List Value)} {all:List (Nm×Own)} {x:KC}
def rwhyC (l:KS) (all:List (Nm×Own)) (F:List Fm) (s t:Kt):Int :=
 if (((((s.kind == 1) || (s.kind == 2)) || (t.kind == 1)) || (t.kind == 2)) && (s.kind == t.kind))=true then 1
 else if (((((s.kind == 1) || (s.kind == 2)) || (t.kind == 1)) || (t.kind == 2)) || (t.kind == 0))=true then 13
 else if ((s.kind == 0) && t.void)=true then 2
 else if (((s.kind == 0) || s.void) && !t.void)=true then 11
 else if (s.sep && !t.sep)=true then 12
 else if ((t.kind == 3) && (t.name == root))=true then 3
 else if (t.kind == 4)=true then (if ((s.kind == 4) && (s.name == t.name))=true then 4 else 13)
 else if (!(rinst l all (rcK F s) t.name).2)=true then 14
 else if (!(sames (rinst l all (rcK F s) t.name).1 t.args))=true then 15 else 5
theorem rcB_of (hs:s.inner l F=0) (hn:isNmd s=true):rcB F s=true:=by
 obtain ⟨k,n,az,w,z⟩:=s
 unfold rcB
 rcases nmd_iff.1 hn with e | e <;> (simp only [Kt.kind] at e; subst e)
 ·rfl
 ·obtain ⟨_,_,i,h1,h2⟩:=inner_formal hs
  show ((4:Int) == 3 || ((4:Int) == 4 && (fidx F n).isSome))=true
  rw [h1]; rfl
theorem named_left (hs:s.inner l F=0) (hp:((((s.kind == 1) || (s.kind == 2)) || (t.kind == 1)) || (t.kind == 2))=false) (h2:((s.kind == 0) && t.void)=false) (h3:(((s.kind == 0) || s.void) && !t.void)=false):isNmd s=true:=by
 rcases inner_kinds hs with ⟨h0 | h0 | h0,_⟩ | h0 | h0
 ·rw [h0] at h2 h3
  cases hv:t.void <;> rw [hv] at h2 h3 <;> simp at h2 h3
 ·rw [h0] at hp; simp at hp
 ·rw [h0] at hp; simp at hp
 ·unfold isNmd; rw [h0]; rfl
 ·unfold isNmd; rw [h0]; rfl
theorem rwhy_why (hK:KRight l all) (hx:x∈l) (hs:s.inner l x.formals=0) (ht:t.inner l x.formals=0):rwhyC l all x.formals s t=(whyC l x.formals s t).1:=by
 have hi:isNmd s=true→instK l (ctK x.formals s) t.name=((rinst l all (rcK x.formals s) t.name).1,if (rinst l all (rcK x.formals s) t.name).2=true then 0 else 5):=fun h=>by
  have h1:=rcB_of hs h
  rw [inst_eq hK (ct_right hK hx hs h1).1,rinst_same (rc_ct h1).1 (rc_ct h1).2]
 unfold rwhyC whyC plainK
 rcases inner_kinds hs with ⟨h0 | h0 | h0,_,_,hsv,hss⟩ | h0 | h0 <;> rcases inner_kinds ht with ⟨g0 | g0 | g0,_,_,htv,hts⟩ | g0 | g0
 all_goals first
  | (simp [h0,g0,hsv,hss,htv,hts]; done)
  | (simp [h0,g0,hsv,hss]; done)
  | (simp [h0,g0,htv,hts]; done)
  | (rw [hi (by unfold isNmd; rw [h0]; rfl)]; simp only [h0,g0]; generalize rinst l all (rcK x.formals s) t.name=q; obtain ⟨q1,q2⟩:=q; cases q2 <;> cases sames q1 t.args <;> cases s.void <;> cases t.void <;> cases s.sep <;> cases t.sep <;> by_cases hr:t.name=root <;> simp [hr]; done)
  | (cases hv2:t.void <;> simp [h0,g0,hsv,hss,hv2]; done)
  | (by_cases hn:s.name=t.name <;> cases hv1:s.void <;> cases hv2:t.void <;> cases hs1:s.sep <;> cases hs2:t.sep <;> simp [h0,g0,hn,hv1,hv2,hs1,hs2])
set_option maxHeartbeats 8000000 in
set_option maxRecDepth 100000 in
theorem whyR_ct (hK : KRight l all) (hv : ksysR S v l) (htn : Tiny l) (hx : x ∈ l) {n0 d pv cr fs ii : Value} {fa : Option Addr} {fc : Nat} (hrow : Row S 2 fmC (.slice fa x.formals.length fc) x.formals) {us ws : List Value} (hs : Ty S us s) (ht : Ty S ws t) (his : s.inner l x.formals = 0) :
  Ct Tryz.prog 68 #[v,.agg #[n0,d,.slice fa x.formals.length fc,pv,cr,fs,ii],.agg us.toArray,.agg ws.toArray] [S] fun u h'=>u = .int .i64 (rwhyC l all x.formals s t)∧h'=[S]:=by
 have hml:maxLen=9223372036854775807:=rfl
 obtain ⟨y,rfl,hy⟩:=hs.out
 obtain ⟨ya,yc,rfl,_⟩:=id hy.form
 obtain ⟨z,rfl,hz⟩:=ht.out
 obtain ⟨wa,wc,rfl,_⟩:=id hz.form
 have hcl := @classTypeR_ct S x.formals s n0 d pv cr fs ii fa fc hrow ya s.args.length yc
 obtain ⟨za,zn,zc,hcv⟩:∃ za zn zc,ctV s (.slice ya s.args.length yc) = .slice za zn zc:=by
  unfold ctV
  split
  ·exact ⟨_,_,_,Z⟩
  ·exact ⟨_,_,_,Z⟩
 rw [hcv] at hcl
 have hct:rcB x.formals s=true→Ty S (tyC (rcK x.formals s) (.slice za zn zc)) (rcK x.formals s):=fun h=>by
  have:=ctK_ty (F:=x.formals) hy
  rw [hcv] at this
  obtain ⟨q,hq1,hq2⟩:=this.out
  cases hq1
  exact Ty.of Z (by rw [(rc_ct h).2]; exact hq2)
 have hia:=fun h=>instR_ct hK hv htn (hct h) (ct_right hK hx his h).2 t.name
 have hnl:=fun hp h2 h3=>rcB_of his (named_left (s:=s) (t:=t) his hp h2 h3)
 unfold rwhyC
 generalize rcK x.formals s=k at *
 generalize rcB x.formals s=kb at *
 obtain ⟨va,vc,rfl,hlcv,hcmv,_⟩:=id hv
 unfold tyC at hcl hia ⊢
 refine ct_of (n:=116) Tryz.func68 Z Z (len Z) fun hr w0=>?_
 refine cQ (st_bx Z Z fun b5=>?_)
 refine st_bx Z Z fun b6=>?_
 refine st_bx Z Z fun b7=>?_
 refine sA Z (sK [0,5,6,7,8] Z (cQ (sV (vF Z fa25_0 Z) (sV (vY Z ld3) ?_))))
 refine sV (v_eql Z Z) (sM Z (st_cut (k:=8) (d:=22) (v:=.bool ((s.kind == 1) || (s.kind == 2))) (fun hcut=>bool_want (b:=(s.kind == 1)) false (fun hg=>?_) (fun hg=>?_)) ?_))
 ·refine st_sk Z Z hg ?_
  iterate 2 refine st_sk rfl rfl hg ?_
  refine sV (vQ (bO Z hg) Z) ?_
  exact hcut _ uG
 ·refine sG Z (bG Z hg) (vF Z fa25_0 Z) (sG Z (bG Z hg) (vY Z ld3) ?_)
  refine sG Z (bG Z hg) (v_eql Z Z) (sV (vP (bO Z hg) Z) ?_)
  exact hcut _ uG
 refine sM Z (st_cut (k:=13) (d:=27) (v:=.bool (((s.kind == 1) || (s.kind == 2)) || (t.kind == 1))) (fun hcut=>bool_want (b:=((s.kind == 1) || (s.kind == 2))) false (fun hg=>?_) (fun hg=>?_)) ?_)
 ·refine st_sk Z Z hg ?_
  iterate 2 refine st_sk rfl rfl hg ?_
  refine sV (vQ (bO Z hg) Z) ?_
  exact hcut _ uG
 ·refine sG Z (bG Z hg) (vF Z fa25_0 Z) (sG Z (bG Z hg) (vY Z ld3) ?_)
  refine sG Z (bG Z hg) (v_eql Z Z) (sV (vP (bO Z hg) Z) ?_)
  exact hcut _ uG
 refine sM Z (st_cut (k:=18) (d:=32) (v:=.bool ((((s.kind == 1) || (s.kind == 2)) || (t.kind == 1)) || (t.kind == 2))) (fun hcut=>bool_want (b:=(((s.kind == 1) || (s.kind == 2)) || (t.kind == 1))) false (fun hg=>?_) (fun hg=>?_)) ?_)
 ·refine st_sk Z Z hg ?_
  iterate 2 refine st_sk rfl rfl hg ?_
  refine sV (vQ (bO Z hg) Z) ?_
  exact hcut _ uG
 ·refine sG Z (bG Z hg) (vF Z fa25_0 Z) (sG Z (bG Z hg) (vY Z ld3) ?_)
  refine sG Z (bG Z hg) (v_eql Z Z) (sV (vP (bO Z hg) Z) ?_)
  exact hcut _ uG
 refine sA Z (sK [0,5,6,7,8,9] Z (cS (cQ (sM Z (sM Z (st_cut (k:=8) (d:=40) (v:=.bool (((((s.kind == 1) || (s.kind == 2)) || (t.kind == 1)) || (t.kind == 2)) && (s.kind == t.kind))) (fun hcut=>bool_want (b:=((((s.kind == 1) || (s.kind == 2)) || (t.kind == 1)) || (t.kind == 2))) true (fun hg=>?_) (fun hg=>?_)) ?_))))))
 ·refine st_sk Z Z hg ?_
  iterate 4 refine st_sk rfl rfl hg ?_
  refine sV (vP (bO Z hg) Z) ?_
  exact hcut _ uG
 ·refine sG Z (bG Z hg) (vF Z fa25_0 Z) (sG Z (bG Z hg) (vY Z ld3) ?_)
  refine sG Z (bG Z hg) (vF Z fa25_0 Z) (sG Z (bG Z hg) (vY Z ld3) ?_)
  refine sG Z (bG Z hg) (v_eql Z Z) (sV (vQ (bO Z hg) Z) ?_)
  exact hcut _ uG
 refine sK [0,5,6,7,8,9,40] Z (cC Z (fun c1=>?_) (fun c1=>?_))
 ·rw [if_pos (show (((((s.kind == 1) || (s.kind == 2)) || (t.kind == 1)) || (t.kind == 2)) && (s.kind == t.kind))=true from c1)]
  refine cQ (sA Z (sK [8] Z (cT (xR ?_))))
  exact xt_rt Z ⟨Z,Z⟩ sbq
 ·have c1:(((((s.kind == 1) || (s.kind == 2)) || (t.kind == 1)) || (t.kind == 2)) && (s.kind == t.kind))=false:=c1
  rw [if_neg (by rw [c1]; decide)]
  refine cK (xT (cS (cQ (sM Z (sM Z (st_cut (k:=6) (d:=46) (v:=.bool (((((s.kind == 1) || (s.kind == 2)) || (t.kind == 1)) || (t.kind == 2)) || (t.kind == 0))) (fun hcut=>bool_want (b:=((((s.kind == 1) || (s.kind == 2)) || (t.kind == 1)) || (t.kind == 2))) false (fun hg=>?_) (fun hg=>?_)) ?_))))))
  ·refine st_sk Z Z hg ?_
   iterate 2 refine st_sk rfl rfl hg ?_
   refine sV (vQ (bO Z hg) Z) ?_
   exact hcut _ uG
  ·refine sG Z (bG Z hg) (vF Z fa25_0 Z) (sG Z (bG Z hg) (vY Z ld3) ?_)
   refine sG Z (bG Z hg) (v_eql Z Z) (sV (vP (bO Z hg) Z) ?_)
   exact hcut _ uG
  refine sK [0,5,6,7,8,46] Z (cC Z (fun c2=>?_) (fun c2=>?_))
  ·rw [if_pos (show (((((s.kind == 1) || (s.kind == 2)) || (t.kind == 1)) || (t.kind == 2)) || (t.kind == 0))=true from c2)]
   refine cQ (sA Z (sK [8] Z (cT (xR ?_))))
   exact xt_rt Z ⟨Z,Z⟩ sbq
  ·have c2:(((((s.kind == 1) || (s.kind == 2)) || (t.kind == 1)) || (t.kind == 2)) || (t.kind == 0))=false:=c2
   rw [if_neg (by rw [c2]; decide)]
   refine cK (xT (cS (cQ (sV (vF Z fa25_0 Z) (sV (vY Z ld3) ?_)))))
   refine sV (v_eql Z Z) (sM Z (st_cut (k:=7) (d:=53) (v:=.bool ((s.kind == 0) && t.void)) (fun hcut=>bool_want (b:=(s.kind == 0)) true (fun hg=>?_) (fun hg=>?_)) ?_))
   ·refine st_sk Z Z hg ?_
    refine st_sk Z Z hg ?_
    refine sV (vP (bO Z hg) Z) ?_
    exact hcut _ uG
   ·refine sG Z (bG Z hg) (vF Z fa25_3 Z) (sG Z (bG Z hg) (vY Z ld4) ?_)
    refine sV (vQ (bO Z hg) Z) ?_
    exact hcut _ uG
   refine sK [0,5,6,7,8,53] Z (cC Z (fun c3=>?_) (fun c3=>?_))
   ·rw [if_pos (show ((s.kind == 0) && t.void)=true from c3)]
    refine cQ (sA Z (sK [8] Z (cT (xR ?_))))
    exact xt_rt Z ⟨Z,Z⟩ sbq
   ·have c3:((s.kind == 0) && t.void)=false:=c3
    rw [if_neg (by rw [c3]; decide)]
    refine cK (xT (cS (cQ (sV (vF Z fa25_0 Z) (sV (vY Z ld3) ?_)))))
    refine sV (v_eql Z Z) (sM Z (st_cut (k:=7) (d:=60) (v:=.bool ((s.kind == 0) || s.void)) (fun hcut=>bool_want (b:=(s.kind == 0)) false (fun hg=>?_) (fun hg=>?_)) ?_))
    ·refine st_sk Z Z hg ?_
     refine st_sk Z Z hg ?_
     refine sV (vQ (bO Z hg) Z) ?_
     exact hcut _ uG
    ·refine sG Z (bG Z hg) (vF Z fa25_3 Z) (sG Z (bG Z hg) (vY Z ld4) ?_)
     refine sV (vP (bO Z hg) Z) ?_
     exact hcut _ uG
    refine sM Z (st_cut (k:=12) (d:=65) (v:=.bool (((s.kind == 0) || s.void) && !t.void)) (fun hcut=>bool_want (b:=((s.kind == 0) || s.void)) true (fun hg=>?_) (fun hg=>?_)) ?_)
    ·refine st_sk Z Z hg ?_
     iterate 2 refine st_sk rfl rfl hg ?_
     refine sV (vP (bO Z hg) Z) ?_
     exact hcut _ uG
    ·refine sG Z (bG Z hg) (vF Z fa25_3 Z) (sG Z (bG Z hg) (vY Z ld4) ?_)
     refine sG Z (bG Z hg) (v_not Z) (sV (vQ (bO Z hg) Z) ?_)
     exact hcut _ uG
    refine sK [0,5,6,7,8,65] Z (cC Z (fun c4=>?_) (fun c4=>?_))
    ·rw [if_pos (show (((s.kind == 0) || s.void) && !t.void)=true from c4)]
     refine cQ (sA Z (sK [8] Z (cT (xR ?_))))
     exact xt_rt Z ⟨Z,Z⟩ sbq
    ·have c4:(((s.kind == 0) || s.void) && !t.void)=false:=c4
     rw [if_neg (by rw [c4]; decide)]
     refine cK (xT (cS (cQ (sV (vF Z fa25_4 Z) (sV (vY Z ld4) ?_)))))
     refine sM Z (st_cut (k:=7) (d:=72) (v:=.bool (s.sep && !t.sep)) (fun hcut=>bool_want (b:=(s.sep)) true (fun hg=>?_) (fun hg=>?_)) ?_)
     ·refine st_sk Z Z hg ?_
      iterate 2 refine st_sk rfl rfl hg ?_
      refine sV (vP (bO Z hg) Z) ?_
      exact hcut _ uG
     ·refine sG Z (bG Z hg) (vF Z fa25_4 Z) (sG Z (bG Z hg) (vY Z ld4) ?_)
      refine sG Z (bG Z hg) (v_not Z) (sV (vQ (bO Z hg) Z) ?_)
      exact hcut _ uG
     refine sK [0,5,6,7,8,72] Z (cC Z (fun c5=>?_) (fun c5=>?_))
     ·rw [if_pos (show (s.sep && !t.sep)=true from c5)]
      refine cQ (sA Z (sK [8] Z (cT (xR ?_))))
      exact xt_rt Z ⟨Z,Z⟩ sbq
     ·have c5:(s.sep && !t.sep)=false:=c5
      rw [if_neg (by rw [c5]; decide)]
      refine cK (xT (cS (cQ (sV (vF Z fa25_0 Z) (sV (vY Z ld3) ?_)))))
      refine sV (v_eql Z Z) (sM Z (st_cut (k:=8) (d:=80) (v:=.bool ((t.kind == 3) && (t.name == root))) (fun hcut=>bool_want (b:=(t.kind == 3)) true (fun hg=>?_) (fun hg=>?_)) ?_))
      ·refine st_sk Z Z hg ?_
       iterate 2 refine st_sk rfl rfl hg ?_
       refine sV (vP (bO Z hg) Z) ?_
       exact hcut _ uG
      ·refine sG Z (bG Z hg) (vF Z fa25_1 Z) (sG Z (bG Z hg) (vY Z ld9) ?_)
       refine sG Z (bG Z hg) (v_seql Z Z) (sV (vQ (bO Z hg) Z) ?_)
       exact hcut _ uG
      refine sK [0,5,6,7,8,80] Z (cC Z (fun c6=>?_) (fun c6=>?_))
      ·rw [if_pos (show ((t.kind == 3) && (t.name == root))=true from c6)]
       refine cQ (sA Z (sK [8] Z (cT (xR ?_))))
       exact xt_rt Z ⟨Z,Z⟩ sbq
      ·have c6:((t.kind == 3) && (t.name == root))=false:=c6
       rw [if_neg (by rw [c6]; decide)]
       refine cK (xT (cS (cQ (sV (vF Z fa25_0 Z) (sV (vY Z ld3) ?_)))))
       refine sV (v_eql Z Z) (sK [0,5,6,7,8,83] Z (cC Z (fun c7=>?_) (fun c7=>?_)))
       ·have c7:(t.kind == 4)=true:=c7
        rw [if_pos c7]
        refine cS (cQ (sV (vF Z fa25_0 Z) (sV (vY Z ld3) ?_)))
        refine sV (v_eql Z Z) (sM Z (st_cut (k:=10) (d:=93) (v:=.bool ((s.kind == 4) && (s.name == t.name))) (fun hcut=>bool_want (b:=(s.kind == 4)) true (fun hg=>?_) (fun hg=>?_)) ?_))
        ·refine st_sk Z Z hg ?_
         iterate 4 refine st_sk rfl rfl hg ?_
         refine sV (vP (bO Z hg) Z) ?_
         exact hcut _ uG
        ·refine sG Z (bG Z hg) (vF Z fa25_1 Z) (sG Z (bG Z hg) (vY Z ld9) ?_)
         refine sG Z (bG Z hg) (vF Z fa25_1 Z) (sG Z (bG Z hg) (vY Z ld9) ?_)
         refine sG Z (bG Z hg) (v_seql Z Z) (sV (vQ (bO Z hg) Z) ?_)
         exact hcut _ uG
        refine sK [0,5,6,7,8,93] Z (cC Z (fun c8=>?_) (fun c8=>?_))
        ·rw [if_pos (show ((s.kind == 4) && (s.name == t.name))=true from c8)]
         refine cQ (sA Z (sK [8] Z (cT (xR (xR ?_)))))
         exact xt_rt Z ⟨Z,Z⟩ sbq
        ·have c8:((s.kind == 4) && (s.name == t.name))=false:=c8
         rw [if_neg (by rw [c8]; decide)]
         refine cK (xT (cQ (sA Z (sK [8] Z (cT (xR ?_))))))
         exact xt_rt Z ⟨Z,Z⟩ sbq
       ·have c7:(t.kind == 4)=false:=c7
        rw [if_neg (by rw [c7]; decide)]
        have hkb:kb=true:=hnl (by rw [Bool.or_eq_false_iff] at c2; exact c2.1) c3 c4
        have hia:=hia hkb
        refine cK (xT (cQ (sV (v_ldn Z ld54 Z rds_pt) ?_)))
        refine sV (v_ldn Z ld25 Z rds_pt) ?_
        refine st_clr Z Z en70 Z (hcl) ?_
        refine sM Z (sV (v_extract Z Z) (sV (v_extract Z Z) (st_alc al25 fun b10=>?_)))
        refine st_stoW Z Z sz25 Z Z ?_
        refine sA Z (sK [0,7,8,10] Z (cQ (sM Z (sV (v_ldn Z ld25 Z rds_pt) ?_))))
        refine sV (vF Z fa25_1 Z) (sV (vY Z ld9) ?_)
        refine st_cl Z Z en57 Z (hia) ?_
        rintro u h' ⟨T,rfl,w,rfl,hw,hT⟩
        simp only [lC,lN]
        obtain ⟨ra,rc,rfl,_⟩:=id hT.form
        refine sM Z (sV (v_extract Z Z) (sV (v_extract Z Z) (sA Z (sA Z (sK [7,8,12,13] Z (cS (cQ (sM Z (sV (v_not Z) (sK [7,8,12,109] Z (cC Z (fun c9=>?_) (fun c9=>?_))))))))))))
        ·rw [if_pos (show (!(rinst l all k t.name).2)=true from c9)]
         refine cQ (sA Z (sK [8] Z (cT (xR ?_))))
         exact xt_rt Z ⟨Z,Z⟩ sbq
        ·have c9:(!(rinst l all k t.name).2)=false:=c9
         rw [if_neg (by rw [c9]; decide)]
         refine cK (xT (cQ (sM Z (sV (vF Z fa25_2 Z) (sV (vY Z ld23) ?_)))))
         refine st_pv (pv_pack (L:=[T,S])) ?_
         simp only [lC,lN]
         refine st_clr Z Z en25 Z (SameTypes_ct hT (hz.mono (rd_in (.there .here)))) ?_
         refine sA Z (sK [8,14] Z (cS (cQ (sM Z (sV (v_not Z) (sK [8,115] Z (cd_pv (pv_unpack (L:=[T,S])) ?_)))))))
         simp only [lC,lN]
         refine cC Z (fun c10=>?_) (fun c10=>?_)
         ·rw [if_pos (show (!(sames (rinst l all k t.name).1 t.args))=true from c10)]
          refine cQ (sA Z (sK [8] Z (cT (xR ?_))))
          exact xt_rt Z ⟨Z,Z⟩ sbq
         ·have c10:(!(sames (rinst l all k t.name).1 t.args))=false:=c10
          rw [if_neg (by rw [c10]; decide)]
          refine cK (xT (cQ (sA Z (sK [8] Z (cT ?_)))))
          exact xt_rt Z ⟨Z,Z⟩ sbq
end
end Go.Hr
namespace Go.Hr
open Go Go.RowKit Go.Ck Go.Proofs Go.Proofs.YtaohbfnepjjdgaaGreat Fx
attribute [local irreducible] Go.Ck.Sub St Cd Xt Nx DrL LsW
section
variable {S T N R:Res} {v:Value} {F:List Fm} {A:List Kt} {l:KS} {s t:Kt} {ts:List Kt} {rows:List (List Value)} {all:List (Nm×Own)} {x:KC}
theorem ld67:LdN Tryz.prog 67 3:=LdN.of Tryz.underlying67 sz67
theorem inner_zero (h:rightK l F t=0):t.inner l F=0:=by
 unfold rightK at h
 split at h
 ·cases h
 ·exact h
theorem named_why (his : s.inner l F = 0) (h : (((whyC l F s t).1 == 5) || ((whyC l F s t).1 == 15)) = true) : isNmd s = true := by
 have key:s.kind=0∨s.kind=1∨s.kind=2→(whyC l F s t).1=1∨(whyC l F s t).1=2∨(whyC l F s t).1=13∨(whyC l F s t).1=11:=by
  rintro (h0 | h0 | h0)
  ·unfold whyC plainK
   cases hv:t.void <;> simp [h0] <;> split <;> simp
  ·unfold whyC plainK
   simp [h0]; split <;> simp
  ·unfold whyC plainK
   simp [h0]; split <;> simp
 rcases inner_kinds his with ⟨h0,_⟩ | h0 | h0
 ·rcases key h0 with h1 | h1 | h1 | h1 <;> rw [h1] at h <;> exact absurd h (by decide)
 ·unfold isNmd; rw [h0]; rfl
 ·unfold isNmd; rw [h0]; rfl
set_option maxRecDepth 100000 in
theorem ConformsR_ct (hv:ksysR S v l) (htn:Tiny l) (hl:l.length≤1000000) (c:Nm) {us ws:List Value} (hs:Ty S us s) (ht:Ty S ws t) (hds:s.depth≤1000000) (hdt:t.depth≤1000000) :
  Ct Tryz.prog 34 #[v,sv c,.agg us.toArray,.agg ws.toArray] [S] fun u h'=>u = .tuple #[.bool ((askedE l c [s,t] == 0) && decide ((whyC l (fmsOf l c) s t).1<11)),.int .i64 (askedE l c [s,t])]∧h'=[S]:=by
 obtain ⟨va,vc,rfl,_⟩:=id hv
 have h1:=fun b hok=>openedR_ct (hv.mono (rd_in (.there .here))) htn hl c (tys_two (b:=b) hs ht hok) (fun s' hs'=>by
  rcases List.mem_cons.1 hs' with rfl | h
  ·exact hds
  ·simp at h; subst h; exact hdt)
 obtain ⟨x0,rfl,hx0⟩:=hs.out
 obtain ⟨xa,xc,rfl,_⟩:=id hx0.form
 obtain ⟨y0,rfl,hy0⟩:=ht.out
 obtain ⟨ya,yc,rfl,_⟩:=id hy0.form
 refine ct_of (n:=30) Tryz.func34 Z Z (len Z) fun hr w0=>?_
 refine cQ (st_bx Z Z fun b6=>?_)
 refine st_bx Z Z fun b7=>?_
 refine sA Z (sA Z (sK [0,1,6,7,8,9] Z (cQ (sM Z (sM Z (sV (v_ldn Z ld25 Z rds_pt) ?_))))))
 refine sV (v_ldn Z ld25 Z rds_pt) ?_
 refine st_buildSlice (cells:=tyC s (.slice xa s.args.length xc)++tyC t (.slice ya t.args.length yc)) Z Tryz.underlying23 inf25 Z Z (by kernel_rfl) (ltn Z) fun b17=>?_
 refine st_pv (pv_of (b:=b17) (n:=2) (sz:=5) (E:=25) [tyC s (.slice xa s.args.length xc),tyC t (.slice ya t.args.length yc)] Z (by simp [tyC]) Z (by decide)) ?_
 simp only [lC,lN]
 refine st_ok (r:=VR (.slice (some ⟨b17,0,none⟩) 2 2) 25 5 [tyC s (.slice xa s.args.length xc),tyC t (.slice ya t.args.length yc)]) slq fun hok=>?_
 refine st_pv (pv_pack (L:=[VR (.slice (some ⟨b17,0,none⟩) 2 2) 25 5 [tyC s (.slice xa s.args.length xc),tyC t (.slice ya t.args.length yc)],S])) ?_
 simp only [lC,lN]
 have hs1:Ty (Res.star [VR (.slice (some ⟨b17,0,none⟩) 2 2) 25 5 [tyC s (.slice xa s.args.length xc),tyC t (.slice ya t.args.length yc)],S]) (tyC s (.slice xa s.args.length xc)) s:=(Ty.of rfl hx0).mono (rd_in (.there .here))
 have ht1:Ty (Res.star [VR (.slice (some ⟨b17,0,none⟩) 2 2) 25 5 [tyC s (.slice xa s.args.length xc),tyC t (.slice ya t.args.length yc)],S]) (tyC t (.slice ya t.args.length yc)) t:=(Ty.of rfl hy0).mono (rd_in (.there .here))
 have hv1:ksysR (Res.star [VR (.slice (some ⟨b17,0,none⟩) 2 2) 25 5 [tyC s (.slice xa s.args.length xc),tyC t (.slice ya t.args.length yc)],S]) (.slice va l.length vc) l:=hv.mono (rd_in (.there .here))
 have hop:=h1 b17 hok
 generalize hSP:Res.star [VR (.slice (some ⟨b17,0,none⟩) 2 2) 25 5 [tyC s (.slice xa s.args.length xc),tyC t (.slice ya t.args.length yc)],S]=SP at *
 refine st_cl Z Z en55 Z (hop) ?_
 rintro u h' ⟨cs,rfl,rfl,hcl,hco,hcx⟩
 simp only [lC,lN]
 refine sM Z (sV (v_extract Z Z) (sV (v_extract Z Z) (st_alc al54 fun b10=>?_)))
 refine st_stoW (vs:=cs) (hl:=by rw [hcl]; rfl) Z Z sz54 hcl hco ?_
 refine sA Z (sK [0,6,7,8,9,10,11] Z (cS (cQ (sM Z (sV (v_neq Z Z) (sK [0,6,7,8,9,10,11,22] Z (cC Z (fun he=>?_) (fun he=>?_))))))))
 ·have he:askedE l c [s,t]≠0:=by simpa using he
  rw [show (askedE l c [s,t] == 0)=false by simpa using he,Bool.false_and]
  refine cQ (sM Z (sA Z (sA Z (sK [8,9] Z (cT (xR (xt_pv (pv_eq hSP.symm) ?_)))))))
  simp only [lC,lN]
  refine xt_pv (pv_unpack (L:=[VR (.slice (some ⟨b17,0,none⟩) 2 2) 25 5 [tyC s (.slice xa s.args.length xc),tyC t (.slice ya t.args.length yc)],S])) ?_
  simp only [lC,lN]
  exact xt_rt Z ⟨Z,Z⟩ sbq
 ·have he:askedE l c [s,t]=0:=by simpa using he
  obtain ⟨x,all,hok2⟩:=askedE_zero.1 he
  have hK:=hok2.right
  obtain ⟨x',hx',hcc⟩:=hcx he
  rw [hok2.cls] at hx'
  cases hx'
  have hxl:=(kfind_some hok2.cls).2
  have his:=inner_zero (hok2.tys s (by simp))
  have hit:=inner_zero (hok2.tys t (by simp))
  have hfm:fmsOf l c=x.formals:=fmsOf_some hok2.cls
  obtain ⟨d,ff,pv,cr,ffa,ffc,i2,rfl,hone,hrow,_⟩:=hcc
  obtain ⟨fa,fcap,rfl,_⟩:=id hrow
  rw [he,show ((0:Int) == 0)=true from rfl,Bool.true_and,hfm,← rwhy_why hK hxl his hit]
  have hwy:=whyR_ct hK hv1 htn hxl (n0:=sv x.name) (d:=d) (pv:=pv) (cr:=cr) (fs:=.slice ffa x.feats ffc) (ii:=i2) hrow hs1 ht1 his
  unfold tyC at hwy
  refine cK (xT (cQ (sM Z (sV (v_ldn Z ld54 Z rds_pt) ?_))))
  refine sV (v_ldn Z ld25 Z rds_pt) ?_
  refine sV (v_ldn Z ld25 Z rds_pt) ?_
  refine st_cl Z Z en68 Z (hwy) ?_
  rintro u h' ⟨rfl,rfl⟩
  simp only [lC,lN]
  refine sV (v_lss Z Z) (sA Z (sA Z (sK [8,9] Z (cT (xt_pv (pv_eq hSP.symm) ?_)))))
  simp only [lC,lN]
  refine xt_pv (pv_unpack (L:=[VR (.slice (some ⟨b17,0,none⟩) 2 2) 25 5 [tyC s (.slice xa s.args.length xc),tyC t (.slice ya t.args.length yc)],S])) ?_
  simp only [lC,lN]
  exact xt_rt Z ⟨Z,Z⟩ sbq
theorem whyC_way:(whyC l F s t).2=if (((whyC l F s t).1 == 5) || ((whyC l F s t).1 == 15))=true then wayK l (ctK F s).name t.name else []:=by
 unfold whyC
 by_cases c0:((s.kind == t.kind) && plainK s.kind)=true
 ·rw [if_pos c0]; rfl
 rw [if_neg c0]
 by_cases c1:((s.kind == 0) && t.void)=true
 ·rw [if_pos c1]; rfl
 rw [if_neg c1]
 by_cases c2:((plainK s.kind || plainK t.kind) || (t.kind == 0))=true
 ·rw [if_pos c2]; rfl
 rw [if_neg c2]
 by_cases c3:(((s.kind == 0) || s.void) && !t.void)=true
 ·rw [if_pos c3]; rfl
 rw [if_neg c3]
 by_cases c4:(s.sep && !t.sep)=true
 ·rw [if_pos c4]; rfl
 rw [if_neg c4]
 by_cases c5:((t.kind == 3) && (t.name == root))=true
 ·rw [if_pos c5]; rfl
 rw [if_neg c5]
 by_cases c6:(((t.kind == 4) && (s.kind == 4)) && (s.name == t.name))=true
 ·rw [if_pos c6]; rfl
 rw [if_neg c6]
 by_cases c7:(t.kind == 4)=true
 ·rw [if_pos c7]; rfl
 rw [if_neg c7]
 by_cases c8:(instK l (ctK F s) t.name).2≠0
 ·rw [if_pos c8]; rfl
 rw [if_neg c8]
 by_cases c9:sames (instK l (ctK F s) t.name).1 t.args=true
 ·rw [if_pos c9]; rfl
 rw [if_neg c9]
 rfl
theorem wayS_eq {c a:Nm}:okL (rightE (ksys l) [c,a]) (shortR (ksys l) a c)=wayK l c a:=rfl
set_option maxHeartbeats 4000000 in
set_option maxRecDepth 100000 in
theorem WhyR_ct (hv : ksysR S v l) (htn : Tiny l) (hl : l.length ≤ 1000000) (c : Nm) {us ws : List Value} (hs : Ty S us s) (ht : Ty S ws t) (hds : s.depth ≤ 1000000) (hdt : t.depth ≤ 1000000) :
  CtN Tryz.prog 36 #[v,sv c,.agg us.toArray,.agg ws.toArray] [S] fun u T=>∃ w,u = .agg #[.int .i64 (WhyK l c s t).1.1,w,.int .i64 (WhyK l c s t).2]∧w.oneCell'=true∧nmsR (Res.star [T,S]) w (WhyK l c s t).1.2:=by
 obtain ⟨va,vc,rfl,_⟩:=id hv
 have h1:=fun b hok=>openedR_ct (hv.mono (rd_in (.there .here))) htn hl c (tys_two (b:=b) hs ht hok) (fun s' hs'=>by
  rcases List.mem_cons.1 hs' with rfl | h
  ·exact hds
  ·simp at h; subst h; exact hdt)
 obtain ⟨x0,rfl,hx0⟩:=hs.out
 obtain ⟨xa,xc,rfl,_⟩:=id hx0.form
 obtain ⟨y0,rfl,hy0⟩:=ht.out
 obtain ⟨ya,yc,rfl,_⟩:=id hy0.form
 refine ct_of (n:=57) Tryz.func36 Z Z (len Z) fun hr w0=>?_
 refine cQ (st_bx Z Z fun b6=>?_)
 refine st_bx Z Z fun b7=>?_
 refine st_alc al67 fun b8=>?_
 refine sK [0,1,6,7,8] Z (cQ (sM Z (sM Z (sV (v_ldn Z ld25 Z rds_pt) ?_))))
 refine sV (v_ldn Z ld25 Z rds_pt) ?_
 refine st_buildSlice (cells:=tyC s (.slice xa s.args.length xc)++tyC t (.slice ya t.args.length yc)) Z Tryz.underlying23 inf25 Z Z (by kernel_rfl) (ltn Z) fun b19=>?_
 refine st_pv (pv_of (b:=b19) (n:=2) (sz:=5) (E:=25) [tyC s (.slice xa s.args.length xc),tyC t (.slice ya t.args.length yc)] Z (by simp [tyC]) Z (by decide)) ?_
 simp only [lC,lN]
 refine st_ok (r:=VR (.slice (some ⟨b19,0,none⟩) 2 2) 25 5 [tyC s (.slice xa s.args.length xc),tyC t (.slice ya t.args.length yc)]) slq fun hok=>?_
 refine st_pv (pv_pack (L:=[VR (.slice (some ⟨b19,0,none⟩) 2 2) 25 5 [tyC s (.slice xa s.args.length xc),tyC t (.slice ya t.args.length yc)],S])) ?_
 simp only [lC,lN]
 have hs1:Ty (Res.star [VR (.slice (some ⟨b19,0,none⟩) 2 2) 25 5 [tyC s (.slice xa s.args.length xc),tyC t (.slice ya t.args.length yc)],S]) (tyC s (.slice xa s.args.length xc)) s:=(Ty.of rfl hx0).mono (rd_in (.there .here))
 have ht1:Ty (Res.star [VR (.slice (some ⟨b19,0,none⟩) 2 2) 25 5 [tyC s (.slice xa s.args.length xc),tyC t (.slice ya t.args.length yc)],S]) (tyC t (.slice ya t.args.length yc)) t:=(Ty.of rfl hy0).mono (rd_in (.there .here))
 have hv1:ksysR (Res.star [VR (.slice (some ⟨b19,0,none⟩) 2 2) 25 5 [tyC s (.slice xa s.args.length xc),tyC t (.slice ya t.args.length yc)],S]) (.slice va l.length vc) l:=hv.mono (rd_in (.there .here))
 have hop:=h1 b19 hok
 generalize hSP:Res.star [VR (.slice (some ⟨b19,0,none⟩) 2 2) 25 5 [tyC s (.slice xa s.args.length xc),tyC t (.slice ya t.args.length yc)],S]=SP at *
 refine st_cl Z Z en55 Z (hop) ?_
 rintro u h' ⟨cs,rfl,rfl,hcl,hco,hcx⟩
 simp only [lC,lN]
 refine sM Z (sV (v_extract Z Z) (sV (v_extract Z Z) (st_alc al54 fun b9=>?_)))
 refine st_stoW (vs:=cs) (hl:=by rw [hcl]; rfl) Z Z sz54 hcl hco ?_
 refine sA Z (sK [0,6,7,8,9,10] Z (cS (cQ (sM Z (sV (v_neq Z Z) (sK [0,6,7,8,9,10,24] Z (cC Z (fun he=>?_) (fun he=>?_))))))))
 ·have he:askedE l c [s,t]≠0:=by simpa using he
  rw [show WhyK l c s t=((0,[]),askedE l c [s,t]) from if_pos he]
  refine cQ (sM Z (sV (v_build (cells:=[.int .i64 0,.slice none 0 0,.int .i64 (askedE l c [s,t])]) Z (fun _=>by kernel_rfl)) ?_))
  refine st_stoW Z Z sz67 Z Z ?_
  refine sK [8] Z (cT (xR (xt_pv (pv_eq hSP.symm) ?_)))
  simp only [lC,lN]
  refine xt_pv (pv_unpack (L:=[VR (.slice (some ⟨b19,0,none⟩) 2 2) 25 5 [tyC s (.slice xa s.args.length xc),tyC t (.slice ya t.args.length yc)],S])) ?_
  simp only [lC,lN]
  exact xt_retV (.cellN Z ld67 Z slq .nil) ⟨VR (.slice (some ⟨b19,0,none⟩) 2 2) 25 5 [tyC s (.slice xa s.args.length xc),tyC t (.slice ya t.args.length yc)],Z,_,Z,Z,Row.nil⟩ sbr
 ·have he:askedE l c [s,t]=0:=by simpa using he
  obtain ⟨x,all,hok2⟩:=askedE_zero.1 he
  have hK:=hok2.right
  obtain ⟨x',hx',hcc⟩:=hcx he
  rw [hok2.cls] at hx'
  cases hx'
  have hxl:=(kfind_some hok2.cls).2
  have his:=inner_zero (hok2.tys s (by simp))
  have hit:=inner_zero (hok2.tys t (by simp))
  have hfm:fmsOf l c=x.formals:=fmsOf_some hok2.cls
  obtain ⟨d,ff,pv,cr,ffa,ffc,i2,rfl,hone,hrow,_⟩:=hcc
  obtain ⟨fa,fcap,rfl,_⟩:=id hrow
  have hWK:WhyK l c s t=(whyC l x.formals s t,0):=by unfold WhyK; rw [if_neg (by simpa using he),hfm]
  have hwy:=whyR_ct hK hv1 htn hxl (n0:=sv x.name) (d:=d) (pv:=pv) (cr:=cr) (fs:=.slice ffa x.feats ffc) (ii:=i2) hrow hs1 ht1 his
  have hcl := @classTypeR_ct SP x.formals s (sv x.name) d pv cr (.slice ffa x.feats ffc) i2 fa fcap hrow xa s.args.length xc
  have hway:=fun c a=>WayS_ct hv1.sys (by simpa [ksys] using hl) c a
  obtain ⟨za,zn,zc,hcv⟩:∃ za zn zc,ctV s (.slice xa s.args.length xc) = .slice za zn zc:=by
   unfold ctV
   split
   ·exact ⟨_,_,_,Z⟩
   ·exact ⟨_,_,_,Z⟩
  rw [hcv] at hcl
  have hrw:=rwhy_why hK hxl his hit
  have hw2:=whyC_way (l:=l) (F:=x.formals) (s:=s) (t:=t)
  have hnm:(((whyC l x.formals s t).1 == 5) || ((whyC l x.formals s t).1 == 15))=true→(rcK x.formals s).name=(ctK x.formals s).name:=fun h=>(rc_ct (rcB_of his (named_why his h))).1
  rw [hWK]
  rw [hrw] at hwy
  generalize whyC l x.formals s t=q at *
  obtain ⟨q1,q2⟩:=q
  simp only [] at hwy hw2 hnm ⊢
  have hw2:q2=if ((q1 == 5) || (q1 == 15))=true then wayK l (ctK x.formals s).name t.name else []:=hw2
  subst hw2
  unfold tyC at hwy hcl
  refine cK (xT (cQ (sM Z (sV (v_ldn Z ld54 Z rds_pt) ?_))))
  refine sV (v_ldn Z ld25 Z rds_pt) ?_
  refine sV (v_ldn Z ld25 Z rds_pt) ?_
  refine st_cl Z Z en68 Z (hwy) ?_
  rintro u h' ⟨rfl,rfl⟩
  simp only [lC,lN]
  refine sV (v_build (cells:=[.int .i64 q1,.slice none 0 0]) Z (fun _=>by kernel_rfl)) ?_
  refine st_alc al61 fun b11=>?_
  refine st_stoW Z Z sz61 Z Z ?_
  refine sK [0,6,7,8,9,11] Z (cS (cQ (sV (vF Z fa61_0 Z) (sV (vY Z ld3) ?_))))
  refine sV (v_eql Z Z) (sM Z (st_cut (k:=8) (d:=40) (v:=.bool ((q1 == 5) || (q1 == 15))) (fun hcut=>bool_want (b:=(q1 == 5)) false (fun hg=>?_) (fun hg=>?_)) ?_))
  ·refine st_sk Z Z hg ?_
   iterate 2 refine st_sk rfl rfl hg ?_
   refine sV (vQ (bO Z hg) Z) ?_
   exact hcut _ uG
  ·refine sG Z (bG Z hg) (vF Z fa61_0 Z) (sG Z (bG Z hg) (vY Z ld3) ?_)
   refine sG Z (bG Z hg) (v_eql Z Z) (sV (vP (bO Z hg) Z) ?_)
   exact hcut _ uG
  refine sK [0,6,7,8,9,11,40] Z (cC Z (fun hq=>?_) (fun hq=>?_))
  ·have hq:((q1 == 5) || (q1 == 15))=true:=hq
   rw [if_pos hq]
   have hnm:=hnm hq
   generalize rcK x.formals s=k at *
   refine cQ (sV (v_ldn Z ld54 Z rds_pt) ?_)
   refine sV (v_ldn Z ld25 Z rds_pt) ?_
   refine st_clr Z Z en70 Z (hcl) ?_
   refine sM Z (sV (v_extract Z Z) (sV (v_extract Z Z) (st_alc al25 fun b12=>?_)))
   refine st_stoW Z Z sz25 Z Z ?_
   refine sA Z (sK [0,7,8,11,12] Z (cR (sM Z (sV (vF Z fa25_1 Z) (sV (vY Z ld9) ?_)))))
   refine sV (vF Z fa25_1 Z) (sV (vY Z ld9) ?_)
   refine st_cl Z Z en71 Z (hway k.name t.name) ?_
   rintro u h' ⟨T,rfl,w,rfl,hw,hT⟩
   simp only [lC,lN]
   rw [wayS_eq,hnm] at hT
   refine sV (v_field1 (cs:=[w,.int .i64 (wayE (ksys l) k.name t.name)]) Z Tryz.underlying123 Z (fun w=>by simp [isAgg,run_underlying Tryz.underlying50]) Z) ?_
   obtain ⟨wa,wc,rfl,_⟩:=id hT
   refine sV (vF Z fa61_1 Z) (st_sto Z Z sz50 ?_)
   refine sK [8,11] Z (cQ (sV (v_ldn Z ld61 Z rds_pt) ?_))
   refine sV (v_build (cells:=[.int .i64 q1,.slice wa (wayK l (ctK x.formals s).name t.name).length wc,.int .i64 0]) Z (fun _=>by kernel_rfl)) ?_
   refine st_stoW Z Z sz67 Z Z ?_
   refine sK [8] Z (cT (xt_pv (pv_eq hSP.symm) ?_))
   simp only [lC,lN]
   refine xt_pv (pv_unpack (L:=[VR (.slice (some ⟨b19,0,none⟩) 2 2) 25 5 [tyC s (.slice xa s.args.length xc),tyC t (.slice ya t.args.length yc)],S])) ?_
   simp only [lC,lN]
   refine xt_pv (pv_pack (L:=[VR (.slice (some ⟨b19,0,none⟩) 2 2) 25 5 [tyC s (.slice xa s.args.length xc),tyC t (.slice ya t.args.length yc)],T])) ?_
   simp only [lC,lN]
   exact xt_retV (.cellN Z ld67 Z slq .nil) ⟨Res.star [VR (.slice (some ⟨b19,0,none⟩) 2 2) 25 5 [tyC s (.slice xa s.args.length xc),tyC t (.slice ya t.args.length yc)],T],Z,_,Z,Z,hT.mono (fun p u g=>rd_in .here p u (rd_in (.there .here) p u g))⟩ sbr
  ·have hq:((q1 == 5) || (q1 == 15))=false:=hq
   rw [if_neg (by rw [hq]; decide)]
   refine cK (xT (cQ (sV (v_ldn Z ld61 Z rds_pt) ?_)))
   refine sV (v_build (cells:=[.int .i64 q1,.slice none 0 0,.int .i64 0]) Z (fun _=>by kernel_rfl)) ?_
   refine st_stoW Z Z sz67 Z Z ?_
   refine sK [8] Z (cT (xt_pv (pv_eq hSP.symm) ?_))
   simp only [lC,lN]
   refine xt_pv (pv_unpack (L:=[VR (.slice (some ⟨b19,0,none⟩) 2 2) 25 5 [tyC s (.slice xa s.args.length xc),tyC t (.slice ya t.args.length yc)],S])) ?_
   simp only [lC,lN]
   exact xt_retV (.cellN Z ld67 Z slq .nil) ⟨VR (.slice (some ⟨b19,0,none⟩) 2 2) 25 5 [tyC s (.slice xa s.args.length xc),tyC t (.slice ya t.args.length yc)],Z,_,Z,Z,Row.nil⟩ sbr
end
end Go.Hr
namespace Go.Hr
open Go Go.RowKit Go.Ck Go.Proofs Go.Proofs.YtaohbfnepjjdgaaGreat Fx
attribute [local irreducible] Go.Ck.Sub St Cd Xt Nx DrL LsW
section
variable {S T N R:Res} {v:Value} {F:List Fm} {A:List Kt} {l:KS} {s t:Kt} {ts:List Kt} {rows:List (List Value)} {all:List (Nm×Own)} {x:KC}
set_option maxHeartbeats 4000000 in
set_option maxRecDepth 100000 in
theorem ChkWhyR_ct (hv : ksysR S v l) (htn : Tiny l) (hl : l.length ≤ 1000000) (c : Nm) {us ws : List Value} (hs : Ty S us s) (ht : Ty S ws t) (hds : s.depth ≤ 1000000) (hdt : t.depth ≤ 1000000) {rule : Int} {rv : Value} {rn : List Nm} (hrw : nmsR S rv rn) (hrl : rn.length ≤ 1099511627776) :
  Ct Tryz.prog 41 #[v,sv c,.agg us.toArray,.agg ws.toArray,.agg #[.int .i64 rule,rv]] [S] fun u h'=>u = .int .i64 (chkW l c s t rule rn)∧h'=[S]:=by
 obtain ⟨va,vc,rfl,_⟩:=id hv
 have h1:=fun b hok=>openedR_ct (hv.mono (rd_in (.there .here))) htn hl c (tys_two (b:=b) hs ht hok) (fun s' hs'=>by
  rcases List.mem_cons.1 hs' with rfl | h
  ·exact hds
  ·simp at h; subst h; exact hdt)
 obtain ⟨x0,rfl,hx0⟩:=hs.out
 obtain ⟨xa,xc,rfl,_⟩:=id hx0.form
 obtain ⟨y0,rfl,hy0⟩:=ht.out
 obtain ⟨ya,yc,rfl,_⟩:=id hy0.form
 obtain ⟨ra,rc,rfl,_⟩:=id hrw
 unfold chkW
 refine ct_of (n:=62) Tryz.func41 Z Z (len Z) fun hr w0=>?_
 refine cQ (st_bx Z Z fun b7=>?_)
 refine st_bx Z Z fun b8=>?_
 refine st_bx Z Z fun b9=>?_
 refine sA Z (sK [0,1,7,8,9,10] Z (cQ (sM Z (sM Z (sV (v_ldn Z ld25 Z rds_pt) ?_)))))
 refine sV (v_ldn Z ld25 Z rds_pt) ?_
 refine st_buildSlice (cells:=tyC s (.slice xa s.args.length xc)++tyC t (.slice ya t.args.length yc)) Z Tryz.underlying23 inf25 Z Z (by kernel_rfl) (ltn Z) fun b20=>?_
 refine st_pv (pv_of (b:=b20) (n:=2) (sz:=5) (E:=25) [tyC s (.slice xa s.args.length xc),tyC t (.slice ya t.args.length yc)] Z (by simp [tyC]) Z (by decide)) ?_
 simp only [lC,lN]
 refine st_ok (r:=VR (.slice (some ⟨b20,0,none⟩) 2 2) 25 5 [tyC s (.slice xa s.args.length xc),tyC t (.slice ya t.args.length yc)]) slq fun hok=>?_
 refine st_pv (pv_pack (L:=[VR (.slice (some ⟨b20,0,none⟩) 2 2) 25 5 [tyC s (.slice xa s.args.length xc),tyC t (.slice ya t.args.length yc)],S])) ?_
 simp only [lC,lN]
 have hs1:Ty (Res.star [VR (.slice (some ⟨b20,0,none⟩) 2 2) 25 5 [tyC s (.slice xa s.args.length xc),tyC t (.slice ya t.args.length yc)],S]) (tyC s (.slice xa s.args.length xc)) s:=(Ty.of rfl hx0).mono (rd_in (.there .here))
 have ht1:Ty (Res.star [VR (.slice (some ⟨b20,0,none⟩) 2 2) 25 5 [tyC s (.slice xa s.args.length xc),tyC t (.slice ya t.args.length yc)],S]) (tyC t (.slice ya t.args.length yc)) t:=(Ty.of rfl hy0).mono (rd_in (.there .here))
 have hv1:ksysR (Res.star [VR (.slice (some ⟨b20,0,none⟩) 2 2) 25 5 [tyC s (.slice xa s.args.length xc),tyC t (.slice ya t.args.length yc)],S]) (.slice va l.length vc) l:=hv.mono (rd_in (.there .here))
 have hop:=h1 b20 hok
 generalize hSP:Res.star [VR (.slice (some ⟨b20,0,none⟩) 2 2) 25 5 [tyC s (.slice xa s.args.length xc),tyC t (.slice ya t.args.length yc)],S]=SP at *
 refine st_cl Z Z en55 Z (hop) ?_
 rintro u h' ⟨cs,rfl,rfl,hcl,hco,hcx⟩
 simp only [lC,lN]
 refine sM Z (sV (v_extract Z Z) (sV (v_extract Z Z) (st_alc al54 fun b11=>?_)))
 refine st_stoW (vs:=cs) (hl:=by rw [hcl]; rfl) Z Z sz54 hcl hco ?_
 refine sA Z (sK [0,7,8,9,10,11,12] Z (cS (cQ (sM Z (sV (v_neq Z Z) (sK [0,7,8,9,10,11,12,25] Z (cC Z (fun he=>?_) (fun he=>?_))))))))
 ·have he:askedE l c [s,t]≠0:=by simpa using he
  rw [if_pos he]
  refine cQ (sM Z (sA Z (sK [10] Z (cT (xR (xt_pv (pv_eq hSP.symm) ?_))))))
  simp only [lC,lN]
  refine xt_pv (pv_unpack (L:=[VR (.slice (some ⟨b20,0,none⟩) 2 2) 25 5 [tyC s (.slice xa s.args.length xc),tyC t (.slice ya t.args.length yc)],S])) ?_
  simp only [lC,lN]
  exact xt_rt Z ⟨Z,Z⟩ sbq
 ·have he:askedE l c [s,t]=0:=by simpa using he
  obtain ⟨x,all,hok2⟩:=askedE_zero.1 he
  have hK:=hok2.right
  obtain ⟨x',hx',hcc⟩:=hcx he
  rw [hok2.cls] at hx'
  cases hx'
  have hxl:=(kfind_some hok2.cls).2
  have his:=inner_zero (hok2.tys s (by simp))
  have hit:=inner_zero (hok2.tys t (by simp))
  have hfm:fmsOf l c=x.formals:=fmsOf_some hok2.cls
  obtain ⟨d,ff,pv,cr,ffa,ffc,i2,rfl,hone,hrow,_⟩:=hcc
  obtain ⟨fa,fcap,rfl,_⟩:=id hrow
  rw [if_neg (by simpa using he),hfm,← rwhy_why hK hxl his hit]
  have hwy:=whyR_ct hK hv1 htn hxl (n0:=sv x.name) (d:=d) (pv:=pv) (cr:=cr) (fs:=.slice ffa x.feats ffc) (ii:=i2) hrow hs1 ht1 his
  have hcl := @classTypeR_ct SP x.formals s (sv x.name) d pv cr (.slice ffa x.feats ffc) i2 fa fcap hrow xa s.args.length xc
  have hrw1:nmsR SP (.slice ra rn.length rc) rn:=hrw.mono (fun p u g=>by rw [← hSP]; exact rd_in (.there .here) p u g)
  have hway:=fun c=>CheckWayS_ct hv1.sys (by simpa [ksys] using hl) hrw1 hrl c t.name
  obtain ⟨za,zn,zc,hcv⟩:∃ za zn zc,ctV s (.slice xa s.args.length xc) = .slice za zn zc:=by
   unfold ctV
   split
   ·exact ⟨_,_,_,Z⟩
   ·exact ⟨_,_,_,Z⟩
  rw [hcv] at hcl
  have hnm:¬ (rule≠rwhyC l all x.formals s t)→(rule != 5 && rule != 15)=false→(rcK x.formals s).name=(ctK x.formals s).name:=fun h1 h2=>by
   have h1:=Classical.not_not.1 h1
   rw [rwhy_why hK hxl his hit] at h1
   exact (rc_ct (rcB_of his (named_why (l:=l) (t:=t) his (by
    rw [← h1]
    rw [Bool.and_eq_false_iff,bne_eq_false_iff_eq,bne_eq_false_iff_eq] at h2
    rw [Bool.or_eq_true,beq_iff_eq,beq_iff_eq]; exact h2)))).1
  unfold tyC at hwy hcl
  generalize rwhyC l all x.formals s t=q at *
  generalize rcK x.formals s=k at *
  refine cK (xT (cS (cS (cd_drawh (ork [(0,2),(1,1),(2,2),(3,1),(4,1),(5,1),(6,0),(7,2)] .nil) (fun _=>true) mixed (by kernel_rfl) ?_))))
  refine dV Z (vF Z fa61_0 Z) (dr_v Z (vY Z ld3) ?_)
  refine dV Z (vM Z) (dr_v Z (v_ldn Z ld54 Z rds_pt) ?_)
  refine dr_v Z (v_ldn Z ld25 Z rds_pt) ?_
  refine dr_v Z (v_ldn Z ld25 Z rds_pt) ?_
  refine dr_eff Z (st_cl Z Z en68 Z (hwy) ?_)
  rintro u h' ⟨rfl,rfl⟩
  simp only [lC,lN]
  refine dr_nx ?_
  refine dV Z (v_neq Z Z) (dr_nil (nK [0,7,8,9,10,11,34] Z (nT (cC Z (fun h1=>?_) (fun h1=>?_)))))
  ·rw [if_pos (by simpa using h1)]
   refine cQ (sA Z (sK [10] Z (cT (xR (xt_pv (pv_eq hSP.symm) ?_)))))
   simp only [lC,lN]
   refine xt_pv (pv_unpack (L:=[VR (.slice (some ⟨b20,0,none⟩) 2 2) 25 5 [tyC s (.slice xa s.args.length xc),tyC t (.slice ya t.args.length yc)],S])) ?_
   simp only [lC,lN]
   exact xt_rt Z ⟨Z,Z⟩ sbq
  ·have h1:¬ (rule≠q):=by simpa using h1
   rw [if_neg h1]
   refine cK (xT (cS (cQ (sV (vF Z fa61_0 Z) (sV (vY Z ld3) ?_)))))
   refine sV (v_neq Z Z) (sM Z (st_cut (k:=8) (d:=42) (v:=.bool (rule != 5 && rule != 15)) (fun hcut=>bool_want (b:=(rule != 5)) true (fun hg=>?_) (fun hg=>?_)) ?_))
   ·refine st_sk Z Z hg ?_
    iterate 2 refine st_sk rfl rfl hg ?_
    refine sV (vP (bO Z hg) Z) ?_
    exact hcut _ uG
   ·refine sG Z (bG Z hg) (vF Z fa61_0 Z) (sG Z (bG Z hg) (vY Z ld3) ?_)
    refine sG Z (bG Z hg) (v_neq Z Z) (sV (vQ (bO Z hg) Z) ?_)
    exact hcut _ uG
   refine sK [0,7,8,9,10,11,42] Z (cC Z (fun h2=>?_) (fun h2=>?_))
   ·rw [if_pos (show (rule != 5 && rule != 15)=true from h2)]
    refine cS (cQ (sV (vF Z fa61_1 Z) (sV (vY Z ld50) ?_)))
    refine sV (v_len Z Tryz.underlying50) (sV (v_gtr Z Z) (sK [0,7,8,9,10,11,46] Z (cC Z (fun h3=>?_) (fun h3=>?_))))
    ·rw [if_neg (show ¬ ((rn.length:Int) == 0)=true by
      have:=of_decide_eq_true h3
      rw [beq_iff_eq]; omega)]
     refine cQ (sA Z (sK [10] Z (cT (xR (xR (xt_pv (pv_eq hSP.symm) ?_))))))
     simp only [lC,lN]
     refine xt_pv (pv_unpack (L:=[VR (.slice (some ⟨b20,0,none⟩) 2 2) 25 5 [tyC s (.slice xa s.args.length xc),tyC t (.slice ya t.args.length yc)],S])) ?_
     simp only [lC,lN]
     exact xt_rt Z ⟨Z,Z⟩ sbq
    ·rw [if_pos (show ((rn.length:Int) == 0)=true by
      have:=of_decide_eq_false h3
      rw [beq_iff_eq]; omega)]
     refine cK (xT (cQ (sA Z (sK [10] Z (cT (xR (xt_pv (pv_eq hSP.symm) ?_)))))))
     simp only [lC,lN]
     refine xt_pv (pv_unpack (L:=[VR (.slice (some ⟨b20,0,none⟩) 2 2) 25 5 [tyC s (.slice xa s.args.length xc),tyC t (.slice ya t.args.length yc)],S])) ?_
     simp only [lC,lN]
     exact xt_rt Z ⟨Z,Z⟩ sbq
   ·have h2:(rule != 5 && rule != 15)=false:=h2
    rw [if_neg (by rw [h2]; decide),← hnm h1 h2]
    refine cK (xT (cQ (sV (v_ldn Z ld54 Z rds_pt) ?_)))
    refine sV (v_ldn Z ld25 Z rds_pt) ?_
    refine st_clr Z Z en70 Z (hcl) ?_
    refine sM Z (sV (v_extract Z Z) (sV (v_extract Z Z) (st_alc al25 fun b13=>?_)))
    refine st_stoW Z Z sz25 Z Z ?_
    refine sA Z (sK [0,8,9,10,13] Z (cS (cQ (sM Z (sV (vF Z fa25_1 Z) (sV (vY Z ld9) ?_))))))
    refine sV (vF Z fa25_1 Z) (sV (vY Z ld9) ?_)
    refine sV (vF Z fa61_1 Z) (sV (vY Z ld50) ?_)
    refine st_clr Z Z en78 Z ((hway k.name)) ?_
    refine sV (v_neq Z Z) (sK [10,61] Z (cC Z (fun h4=>?_) (fun h4=>?_)))
    ·have h4:(wayC (ksys l) k.name t.name rn != 0)=true:=h4
     rw [if_neg (by rw [bne_iff_ne] at h4; rw [beq_iff_eq]; exact h4)]
     refine cQ (sA Z (sK [10] Z (cT (xR (xt_pv (pv_eq hSP.symm) ?_)))))
     simp only [lC,lN]
     refine xt_pv (pv_unpack (L:=[VR (.slice (some ⟨b20,0,none⟩) 2 2) 25 5 [tyC s (.slice xa s.args.length xc),tyC t (.slice ya t.args.length yc)],S])) ?_
     simp only [lC,lN]
     exact xt_rt Z ⟨Z,Z⟩ sbq
    ·have h4:(wayC (ksys l) k.name t.name rn != 0)=false:=h4
     rw [if_pos (by rw [bne_eq_false_iff_eq] at h4; rw [beq_iff_eq]; exact h4)]
     refine cK (xT (cQ (sA Z (sK [10] Z (cT (xt_pv (pv_eq hSP.symm) ?_))))))
     simp only [lC,lN]
     refine xt_pv (pv_unpack (L:=[VR (.slice (some ⟨b20,0,none⟩) 2 2) 25 5 [tyC s (.slice xa s.args.length xc),tyC t (.slice ya t.args.length yc)],S])) ?_
     simp only [lC,lN]
     exact xt_rt Z ⟨Z,Z⟩ sbq
set_option maxRecDepth 100000 in
theorem SameWay_ct {M : Res} {v w : Value} {a b : List Nm} (hv : nmsR M v a) (hw : nmsR M w b) : Reads Tryz.prog 39 #[v, w] [M] (.bool (decide (a = b))) := by
 have hml:maxLen=9223372036854775807:=rfl
 obtain ⟨va,vc,rfl,hl1,hl2,_⟩:=id hv
 obtain ⟨wa,wc,rfl,hl3,hl4,_⟩:=id hw
 refine ct_of (n:=26) Tryz.func39 Z Z (len Z) fun hr w0=>?_
 refine cQ (sA Z (sN (nT (cS (cQ (sM Z (sV (v_len Z Tryz.underlying50) (sM Z (sV (v_len Z Tryz.underlying50) (sV (v_neq Z Z) (sK [0,1,4,10] Z (cC Z (fun h1=>?_) (fun h1=>?_)))))))))))))
 ·rw [show decide (a=b)=false from decide_eq_false (fun e=>by
   rw [e] at h1
   have:=bne_iff_ne.1 h1
   exact this Z)]
  refine cQ (sA Z (sK [4] Z (cT (xR ?_))))
  exact xt_rt Z ⟨Z,Z⟩ sbq
 ·have h1:((a.length:Int) != (b.length:Nat))=false:=h1
  have hle:a.length=b.length:=by rw [bne_eq_false_iff_eq] at h1; omega
  refine cK (xT (cS (cQ (sA Z (sK [0,1,4,5] Z (cB (cd_lq (σ := Nat) (fun i=>[(0,.slice va a.length vc),(1,.slice wa b.length wc),(5,.int .i64 (i:Nat))]) (fun _=>M::hr) (fun i=>i≤a.length∧a.take i=b.take i) (fun i=>a.length - i) 0 ⟨Nat.zero_le _,Z⟩ ?_)))))))
  rintro i ⟨hi,hal⟩
  refine cS (cQ (sM Z (sM Z (sV (v_len Z Tryz.underlying50) (sV (v_lss Z Z) (sK [0,1,5,14] Z (cC Z (fun hd=>?_) (fun hd=>?_))))))))
  ·have hlt:i<a.length:=by simpa using hd
   have hlt2:i<b.length:=by omega
   obtain ⟨b1,o1,c1,e1,hr1⟩:=nms_at hv (List.getElem?_eq_getElem hlt)
   cases e1
   obtain ⟨b2,o2,c2,e2,hr2⟩:=nms_at hw (List.getElem?_eq_getElem hlt2)
   cases e2
   refine cK (xT (cS (cB (cS (cd_drawh (ork [(0,2),(1,2),(2,2),(3,1),(4,2),(5,2),(6,2),(7,1),(8,1)] .nil) (fun _=>true) mixed (by kernel_rfl) ?_)))))
   refine dV Z (vM Z) (dV Z (vM Z) (dV Z (vI (k:=i) Z Z sl50 Z hlt Z) (dr_v Z (vY Z ld9) ?_)))
   refine dV Z (vM Z) (dV Z (vM Z) (dV Z (vI (k:=i) Z Z sl50 Z hlt2 Z) (dr_v Z (vY Z ld9) ?_)))
   refine dr_v Z (v_sneq Z Z) (dr_nil (nK [0,1,5,25] Z (nT (cC Z (fun he=>?_) (fun he=>?_)))))
   ·have he:(a[i] != b[i])=true:=he
    rw [show decide (a=b)=false from decide_eq_false (fun e=>by
     subst e
     simp at he)]
    refine cQ (sA Z (sK [4] Z (cT (xW (xR (xR (xW (xR ?_))))))))
    exact xt_rt Z ⟨Z,Z⟩ sbq
   ·have he:(a[i] != b[i])=false:=he
    have he:a[i]=b[i]:=by simpa using he
    refine cK (xB (xT (cR (sM Z (sV (v_add Z Z (by unfold I64 at *; omega)) (sA Z (sN (nK [0,1,5] Z (nx_xt ?_)))))))))
    refine xt_aq (i+1) ⟨hlt,by rw [List.take_succ_eq_append_getElem hlt,List.take_succ_eq_append_getElem hlt2,hal,he]⟩ (Nat.sub_lt_sub_left hlt (Nat.lt_succ_self i))
  ·have hil:i=a.length:=by
    have:¬ i<a.length:=by simpa using hd
    omega
   rw [show decide (a=b)=true from decide_eq_true (by
    rw [hil,List.take_length,hle,List.take_length] at hal; exact hal)]
   refine cd_exit (xE (xE (xY (xT (cQ (sA Z (sK [4] Z (cT ?_))))))))
   exact xt_rt Z ⟨Z,Z⟩ sbq
end
end Go.Hr
