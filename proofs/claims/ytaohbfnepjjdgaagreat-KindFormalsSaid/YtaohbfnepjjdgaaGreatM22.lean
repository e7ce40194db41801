/-
  The reference: Seen,supers. Conditions: what is read; small types,not too many classes.
  The reference: why one type conforms to another. Conditions: what is read; small types; a right system.
  The reference: Supers,Conforms,Why,CheckWhy. Conditions: what is read; small types,not too many classes.
  The reference: CheckWhy,SameWay. Conditions: what is read; small types,not too many classes.
  The reference: joins. Conditions: what is read; small types; a right system.
  The reference: Joins,and that it is what package kind has. Conditions: what is read; small types,not too many classes.
  The chapter's example of generic classes: what package kind has of it. No condition.
-/
import Derived.Test.YtaohbfnepjjdgaaGreatM21
set_option linter.unusedVariables false
set_option linter.unusedSimpArgs false
namespace Go.Hr
open Go Go.RowKit Go.Ck Go.Proofs Go.Proofs.YtaohbfnepjjdgaaGreat Fx
attribute [local irreducible] Go.Ck.Sub St Cd Xt Nx DrL LsW
section
variable {S T N R:Res} {v:Value} {F:List Fm} {A:List Kt} {l:KS} {s t:Kt} {ts:List Kt} {rows:List (List Value)} {all:List (Nm×Own)} {x:KC}
theorem asked_one (hK:KRight l all) (o:Nm):askedE l o [t]=match kfind l o with | none=>5 | some x=>rightK l x.formals t:=by
 unfold askedE
 rw [if_neg (by simpa using kcheck_zero.2 ⟨all,hK⟩)]
 cases kfind l o with
 | none=>rfl
 | some x =>
  simp only [List.map_cons,List.map_nil,firstE]
  by_cases h:rightK l x.formals t=0
  ·rw [if_neg (by simpa using h),h]
  ·rw [if_pos h]
set_option maxHeartbeats 4000000 in
set_option maxRecDepth 100000 in
theorem SeenR_ct (hv : ksysR S v l) (ht : Tiny l) (hl : l.length ≤ 1000000) {g : Kt} {gs us : List Value} (hg : Ty S gs g) (o : Nm) (hu : Ty S us t) (hd : t.depth ≤ 1000000) :
  CtN Tryz.prog 22 #[v,.agg gs.toArray,sv o,.agg us.toArray] [S] fun u T=>∃ ws:List Value,u = .tuple #[.agg ws.toArray,.int .i64 (SeenK l g o t).2]∧Ty (Res.star [T,S]) ws (SeenK l g o t).1:=by
 have hml:maxLen=9223372036854775807:=rfl
 have hin:=InstanceR_ct hv ht hl hg o
 have hri:=RightR_ct hv ht hl o hu hd
 have hu2:=hu
 obtain ⟨y,rfl,hy⟩:=hg.out
 obtain ⟨ya,yc,rfl,_⟩:=id hy.form
 obtain ⟨z,rfl,hz⟩:=hu.out
 obtain ⟨za,zc,rfl,_⟩:=id hz.form
 obtain ⟨va,vc,rfl,hlcv,hcmv,_⟩:=id hv
 unfold tyC at hin hri ⊢
 refine ct_of (n:=44) Tryz.func22 Z Z (len Z) fun hr w0=>?_
 refine cQ (st_bx Z Z fun b5=>?_)
 refine st_bx Z Z fun b7=>?_
 refine st_alc al25 fun b8=>?_
 refine sA Z (sK [0,2,5,7,8,9] Z (cQ (sM Z (sV (v_ldn Z ld25 Z rds_pt) ?_))))
 refine sM Z (st_cl Z Z en20 Z (hin) ?_)
 rintro u h' ⟨T,rfl,w,rfl,hw,hT⟩
 simp only [lC,lN]
 refine st_alc al38 fun b10=>?_
 refine st_stoW (vs:=[w,.int .i64 (InstK l g o).2]) Z Z sz38 Z (by simp only [List.all_cons,List.all_nil,hw]; rfl) ?_
 refine sK [0,2,7,8,9,10] Z (cS (cQ (sV (vF Z fa38_1 Z) (sV (vY Z ld29) ?_))))
 refine sV (v_neq Z Z) (sK [0,2,7,8,9,10,18] Z (cC Z (fun hi=>?_) (fun hi=>?_)))
 ·have hi:(InstK l g o).2≠0:=by simpa using hi
  rw [show SeenK l g o t=(zeroT,(InstK l g o).2) from if_pos hi]
  refine cS (cd_drawh (ork [(0,2),(1,2),(2,1),(3,0),(4,2)] .nil) (fun _=>true) mixed (by kernel_rfl) ?_)
  refine dV Z (v_build (cells:=[.int .i64 0,sv [],.slice none 0 0,.bool false,.bool false]) Z (fun _=>by kernel_rfl)) ?_
  refine dV Z (vF Z fa38_1 Z) (dr_v Z (vY Z ld29) ?_)
  refine dr_eff Z (st_stoW Z Z sz25 Z Z ?_)
  refine dr_nx ?_
  refine dV Z (vA Z) (dr_nil (nK [8,9] Z (nT (cT (xR ?_)))))
  exact xt_retV (.cellN Z ld25 Z slq (.tmp Z .nil)) ⟨T,Z,_,Z,Ty.zero⟩ sbr
 ·have hi:(InstK l g o).2=0:=by simpa using hi
  have hc:(kcheck l).1=0:=by
   unfold InstK at hi
   split at hi
   ·rename_i h1; exact absurd hi h1
   ·rename_i h1; exact Classical.not_not.1 h1
  obtain ⟨all,hK⟩:=kcheck_zero.1 hc
  have hsk:SeenK l g o t=match kfind l o with
   | none=>(zeroT,5)
   | some x=>if rightK l x.formals t≠0 then (zeroT,rightK l x.formals t) else (t.subst x.formals (InstK l g o).1,0):=if_neg (by simpa using hi)
  rw [asked_one hK] at hri
  refine cK (xT (cS (cQ (sM Z (sV (v_seql Z Z) (sK [0,2,7,8,9,10,23] Z (cC Z (fun hro=>?_) (fun hro=>?_))))))))
  ·have hro:(o == root)=true:=hro
   rw [hsk,eq_of_beq hro,hK.no_root]
   refine cQ (sV (v_build (cells:=[.int .i64 0,sv [],.slice none 0 0,.bool false,.bool false]) Z (fun _=>by kernel_rfl)) ?_)
   refine st_stoW Z Z sz25 Z Z ?_
   refine sA Z (sK [8,9] Z (cT (xR ?_)))
   exact xt_retV (.cellN Z ld25 Z slq (.tmp Z .nil)) ⟨T,Z,_,Z,Ty.zero⟩ sbr
  ·refine cK (xT (cQ (sM Z (sM Z (sV (v_ldn Z ld25 Z rds_pt) ?_)))))
   obtain ⟨_,hk2⟩ | ⟨kx,hk1,hkx,hk2⟩:=kidx_find l o
   ·rw [hk2] at hri
    rw [hsk,hk2]
    refine st_cl Z Z en18 Z (hri) ?_
    rintro u h' ⟨rfl,rfl⟩
    simp only [lC,lN]
    refine sA Z (sK [0,2,7,8,9,10,11] Z (cS (cQ (sM Z (sV (v_neq Z Z) (sK [0,2,7,8,9,10,11,30] Z (cd_true Z ?_)))))))
    refine cQ (sV (v_build (cells:=[.int .i64 0,sv [],.slice none 0 0,.bool false,.bool false]) Z (fun _=>by kernel_rfl)) ?_)
    refine sM Z (st_stoW Z Z sz25 Z Z ?_)
    refine sA Z (sK [8,9] Z (cT (xR ?_)))
    exact xt_retV (.cellN Z ld25 Z slq (.tmp Z .nil)) ⟨T,Z,_,Z,Ty.zero⟩ sbr
   ·rw [hk2] at hri
    rw [hsk,hk2]
    have hix:ixD (kidx l o)=(kx:Int):=by rw [hk1]; rfl
    obtain ⟨bl,ol,capl,us2,e0,_,hrd0,dd,ff2,pv2,cc2,ffa2,ffc2,i3,rfl,_,hrow3,_⟩:=Row.at hv (List.getElem?_eq_getElem hkx)
    cases e0
    generalize l[kx]=x at *
    obtain ⟨qa,qcap,rfl,_⟩:=id hrow3
    simp only [] at hri ⊢
    refine st_cl Z Z en18 Z (hri) ?_
    rintro u h' ⟨rfl,rfl⟩
    simp only [lC,lN]
    refine sA Z (sK [0,2,7,8,9,10,11] Z (cS (cQ (sM Z (sV (v_neq Z Z) (sK [0,2,7,8,9,10,11,30] Z (cC Z (fun he=>?_) (fun he=>?_))))))))
    ·have he:rightK l x.formals t≠0:=by simpa using he
     rw [if_pos he]
     refine cQ (sV (v_build (cells:=[.int .i64 0,sv [],.slice none 0 0,.bool false,.bool false]) Z (fun _=>by kernel_rfl)) ?_)
     refine sM Z (st_stoW Z Z sz25 Z Z ?_)
     refine sA Z (sK [8,9] Z (cT (xR ?_)))
     exact xt_retV (.cellN Z ld25 Z slq (.tmp Z .nil)) ⟨T,Z,_,Z,Ty.zero⟩ sbr
    ·rw [if_neg (by simpa using he)]
     obtain ⟨wa,wc,rfl,_⟩:=id hT.form
     have hsb:=substR_ct (S:=Res.star [T,S]) (hrow3.mono (rd_in (.there .here)) fun _ _ _ h=>h) hT (hu2.mono (rd_in (.there .here)))
     unfold tyC at hsb
     refine cK (xT (cS (cd_drawh (ork [(0,2),(1,2),(2,2),(3,1),(4,2),(5,2),(6,1),(7,2),(8,1),(9,1),(10,0),(11,0),(12,2)] .nil) (fun i => !(Nat.beq i 10 || Nat.beq i 11)) mixed (by kernel_rfl) ?_)))
     refine dV Z (vM Z) (dV Z (vM Z) (dV Z (vM Z) (dr_clr Z Z Z en49 Z (findR_ct hv o) ?_)))
     rw [hix]
     refine dV Z (vI (k:=kx) Z Z sl22 Z hkx Z) (dV Z (vF Z fa54_2 Z) (dr_v Z (vY Z ld48) ?_))
     refine dV Z (vF Z fa38_0 Z) (dr_v Z (vY Z ld23) ?_)
     refine dr_v Z (v_ldn Z ld25 Z rds_pt) ?_
     refine dr_eff Z ?_
     refine st_pv (pv_pack (L:=[T,S])) ?_
     simp only [lC,lN]
     refine st_cl Z Z en32 Z (hsb) ?_
     rintro u h' ⟨T2,rfl,ws,rfl,hT2⟩
     simp only [lC,lN]
     obtain ⟨q,rfl,hq⟩:=id hT2.out
     obtain ⟨qa2,qc2,rfl,_⟩:=id hq.form
     refine st_pv (pv_unpack (L:=[T,S])) ?_
     simp only [lC,lN]
     refine st_pv (pv_pack (L:=[T,T2])) ?_
     simp only [lC,lN]
     refine dr_nx ?_
     refine dr_eff Z (st_stoW Z Z sz25 Z Z ?_)
     refine dr_nx ?_
     refine dV Z (vA Z) (dr_nil (nK [8,9] Z (nT (cT ?_))))
     exact xt_retV (.cellN Z ld25 Z slq (.tmp Z .nil)) ⟨Res.star [T,T2],Z,_,Z,hT2.mono fun p u g=>rd_turn p u g⟩ sbr
theorem ctB_rcB (F:List Fm) (t:Kt):ctB F t=rcB F t:=by
 unfold ctB rcB
 rw [show (fmAt F t.name).isSome=(fidx F t.name).isSome by
  cases h:fidx F t.name with
  | none=>rw [fmAt_none h]; rfl
  | some i=>obtain ⟨_,h2⟩:=fidx_at h; rw [h2]; rfl]
set_option maxRecDepth 100000 in
theorem rc_ct (h:rcB F t=true):(rcK F t).name=(ctK F t).name∧(rcK F t).args=(ctK F t).args:=by
 unfold rcB at h
 unfold rcK ctK
 by_cases h3:t.kind=3
 ·rw [if_pos h3,if_pos h3]; exact ⟨rfl,rfl⟩
 ·rw [show (t.kind == 3)=false by simpa using h3,Bool.false_or,Bool.and_eq_true] at h
  have h4:t.kind=4:=eq_of_beq h.1
  rw [if_neg h3,if_neg h3,if_pos ⟨h4,h.2⟩,if_pos h4]
  exact ⟨boundOf_fm,Z⟩
theorem rinst_same {s t:Kt} (h1:s.name=t.name) (h2:s.args=t.args) (a:Nm):rinst l all s a=rinst l all t a:=by
 unfold rinst
 rw [h1,h2]
theorem ct_right (hK:KRight l all) (hx:x∈l) (hin:t.inner l x.formals=0) (h:rcB x.formals t=true):badT l (ctK x.formals t)=false∧((rcK x.formals t).name=root∨(kfind l (rcK x.formals t).name).isSome=true):=by
 have hn:isNmd t=true:=by
  unfold rcB at h
  unfold isNmd
  rw [Bool.or_eq_true,Bool.and_eq_true] at h
  rw [Bool.or_eq_true]
  exact h.imp id (·.1)
 obtain ⟨h1,h2,h3⟩:=ctK_name (F:=x.formals) (nmd_iff.1 hn)
 have hc:=hK.head.ct hx hin hn
 rw [(rc_ct h).1]
 unfold badT
 rw [h3,h1,h2]
 rcases hc with ⟨g1,g2⟩ | ⟨y,g1,g2⟩
 ·refine ⟨?_,.inl g1⟩
  rw [g1,g2]
  simp only [bne_self_eq_false,Bool.and_false,Bool.or_false,Bool.false_or]
  rw [show fmsOf l root=[] by unfold fmsOf; rw [hK.no_root]; rfl]; rfl
 ·refine ⟨?_,.inr (by rw [g1]; rfl)⟩
  rw [g1,fmsOf_some g1,g2]
  simp
theorem supE_rinst (hK:KRight l all) (hx:x∈l) (hin:t.inner l x.formals=0) (h:rcB x.formals t=true) (a:Nm):supE l (ctK x.formals t) t a = .mk 3 a (rinst l all (rcK x.formals t) a).1 t.void t.sep:=by
 unfold supE
 rw [inst_eq hK (ct_right hK hx hin h).1,rinst_same (rc_ct h).1 (rc_ct h).2]
set_option maxHeartbeats 4000000 in
set_option maxRecDepth 100000 in
theorem supersR_ct (hK : KRight l all) (hv : ksysR S v l) (ht : Tiny l) (hx : x ∈ l) {n0 d pv c2 fs ii : Value} {fa : Option Addr} {fc : Nat} (hrow : Row S 2 fmC (.slice fa x.formals.length fc) x.formals) {us : List Value} (hu : Ty S us t) (hin : t.inner l x.formals = 0) :
  CtN Tryz.prog 60 #[v,.agg #[n0,d,.slice fa x.formals.length fc,pv,c2,fs,ii],.agg us.toArray] [S] fun u T=>∃ a cap,u = .slice a (supersK l x.formals t).length cap∧Tys (Res.star [T,S]) u (supersK l x.formals t):=by
 have hml:maxLen=9223372036854775807:=rfl
 have hrb:reachBytes=140737488351232:=rfl
 have hR:=hK.right
 have hsl:(ksys l).length≤1000000:=by have:=hR.len; omega
 obtain ⟨y,rfl,hy⟩:=hu.out
 obtain ⟨ya,yc,rfl,_⟩:=id hy.form
 have hcl := @classTypeR_ct S x.formals t n0 d pv c2 fs ii fa fc hrow ya t.args.length yc
 have hab:=fun c=>AboveS_ct hv.sys hsl c
 have hup:=up_len hR (rcK x.formals t).name
 obtain ⟨za,zn,zc,hcv⟩:∃ za zn zc,ctV t (.slice ya t.args.length yc) = .slice za zn zc:=by
  unfold ctV
  split
  ·exact ⟨_,_,_,Z⟩
  ·exact ⟨_,_,_,Z⟩
 rw [hcv] at hcl
 have hct:rcB x.formals t=true→Ty S (tyC (rcK x.formals t) (.slice za zn zc)) (rcK x.formals t):=fun h=>by
  have:=ctK_ty (F:=x.formals) hy
  rw [hcv] at this
  obtain ⟨q,hq1,hq2⟩:=this.out
  cases hq1
  exact Ty.of Z (by rw [(rc_ct h).2]; exact hq2)
 have hsk:supersK l x.formals t=if rcB x.formals t=true then (okL (rightE (ksys l) [(rcK x.formals t).name]) (above (ksys l) (rcK x.formals t).name)).reverse.map (fun a=>.mk 3 a (rinst l all (rcK x.formals t) a).1 t.void t.sep)++[.mk 3 root [] t.void t.sep] else []:=by
  unfold supersK
  rw [ctB_rcB]
  by_cases h:rcB x.formals t=true
  ·rw [if_pos h,if_pos h,← (rc_ct h).1]
   congr 1
   exact List.map_congr_left fun a _=>supE_rinst hK hx hin h a
  ·rw [if_neg h,if_neg h]
 have hnm:=fun h=>(ct_right hK hx hin h).2
 rw [hsk]
 clear hsk
 generalize rcK x.formals t=k at *
 generalize rcB x.formals t=kb at *
 have hia:=fun h hn a=>instR_ct hK hv ht (hct h) hn a
 obtain ⟨va,vc,rfl,hlcv,hcmv,_⟩:=id hv
 unfold tyC at hcl hia ⊢
 refine ct_of (n:=72) Tryz.func60 Z Z (len Z) fun hr w0=>?_
 refine cQ (st_bx Z Z fun b4=>?_)
 refine st_bx Z Z fun b5=>?_
 refine sA Z (sK [0,4,5,6] Z (cQ (sV (v_ldn Z ld54 Z rds_pt) ?_)))
 refine sV (v_ldn Z ld25 Z rds_pt) ?_
 refine st_clr Z Z en70 Z (hcl) ?_
 refine sM Z (sV (v_extract Z Z) (sV (v_extract Z Z) (st_alc al25 fun b7=>?_)))
 refine st_stoW Z Z sz25 Z Z ?_
 refine sA Z (sK [0,5,6,7,8] Z (cS (cQ (sM Z (sV (v_not Z) (sK [0,5,6,7,22] Z ?_))))))
 cases kb with
 | false =>
  rw [if_neg (by decide)]
  refine cd_true Z ?_
  refine cQ (sA Z (sK [6] Z (cT (xR (xt_vw (vw_unstar (L:=[])) ?_)))))
  exact xt_rt Z ⟨Res.star [],Z,none,0,Z,Tys.nil⟩ sbq
 | true =>
  rw [if_pos rfl]
  have hia:=hia rfl (hnm rfl)
  refine cd_false Z ?_
  refine cK (xT (cQ (sA Z (sK [0,5,6,7,9] Z (cS (cQ (sV (vF Z fa25_1 Z) (sV (vY Z ld9) ?_))))))))
  refine sV (v_sneq Z Z) (sK [0,5,6,7,9,25] Z (cC Z (fun hrt=>?_) (fun hrt=>?_)))
  ·refine cQ (sM Z (sV (vF Z fa25_1 Z) (sV (vY Z ld9) ?_)))
   refine st_cl Z Z en92 Z (hab k.name) ?_
   rintro u h' ⟨T2,rfl,w2,rfl,hw2,hur⟩
   simp only [lC,lN]
   refine sV (v_field1 (cs:=[w2,.int .i64 (rightE (ksys l) [k.name])]) Z Tryz.underlying123 Z (fun w=>by simp [isAgg,run_underlying Tryz.underlying50]) Z) ?_
   obtain ⟨ua,uc,rfl,_⟩:=id hur
   generalize okL (rightE (ksys l) [k.name]) (above (ksys l) k.name)=up at *
   refine sA Z (sK [0,5,6,7,9,10] Z (cQ (sM Z (sV (v_len Z Tryz.underlying50) (sV (v_sub Z Z (by unfold I64 at *; omega)) (sA Z (sK [0,5,6,7,9,10,11] Z (cB (cd_vw (vw_nil 25 5) (cd_vw (vw_unstar (L:=[])) (cd_lq (σ := Value×List (List Value)×Res×Nat) (fun q=>[(0,.slice va l.length vc),(5,.pointer (some ⟨b5,0,none⟩)),(7,.pointer (some ⟨b7,0,none⟩)),(9,q.1),(10,.slice ua up.length uc),(11,.int .i64 ((q.2.2.2:Nat) - 1))]) (fun q=>VR q.1 25 5 q.2.1::q.2.2.1::pt b5 (cl [.int .i64 t.kind,sv t.name,.slice ya t.args.length yc,.bool t.void,.bool t.sep] 25)::pt b7 (cl [.int .i64 k.kind,sv k.name,.slice za zn zc,.bool k.void,.bool k.sep] 25)::T2::S::hr) (fun q=>q.2.2.2≤up.length∧q.1.oneCell'=true∧TyRows (Res.star [q.2.2.1,S]) q.2.1 ((up.drop q.2.2.2).reverse.map (fun a=>.mk 3 a (rinst l all k a).1 t.void t.sep))) (fun q=>q.2.2.2) (.slice none 0 0,[],Res.star [],up.length) ⟨Nat.le_refl _,Z,by rw [List.drop_length]; exact TyRows.nil⟩ ?_)))))))))))
   rintro ⟨wv,rows,T,i⟩ ⟨hi,hwv,hro⟩
   simp only at hi hwv hro
   dsimp only
   have hrl:rows.length=up.length - i:=by rw [hro.1]; simp
   refine cS (cQ (sM Z (sV (v_geq Z Z) (sK [0,5,7,9,10,11,35] Z (cC Z (fun hd=>?_) (fun hd=>?_))))))
   ·have hd:(0:Int)≤(i:Int) - 1:=of_decide_eq_true hd
    obtain ⟨j,rfl⟩:∃ j,i=j+1:=⟨i - 1,by omega⟩
    have hlt:j<up.length:=by omega
    obtain ⟨bu,ou,capu,u,e1,hru,hX⟩:=Row.at1 hur (List.getElem?_eq_getElem hlt)
    cases e1
    have hX:[u]=[sv up[j]]:=hX
    have hsn:(up.drop j).reverse.map (fun a=>Kt.mk 3 a (rinst l all k a).1 t.void t.sep)=(up.drop (j+1)).reverse.map (fun a=>Kt.mk 3 a (rinst l all k a).1 t.void t.sep)++[.mk 3 up[j] (rinst l all k up[j]).1 t.void t.sep]:=by
     rw [List.drop_eq_getElem_cons hlt,List.reverse_cons,List.map_append]; rfl
    generalize up[j]=a at hX hsn
    cases hX
    rw [show (((j+1:Nat):Int) - 1)=(j:Int) by omega]
    refine cK (xT (cS (cB (cS (cd_drawh (ork [(0,2),(1,1),(2,2),(3,2),(4,2),(5,1),(6,0),(7,2),(8,2),(9,2),(10,2),(11,2)] .nil) (fun i => !(Nat.beq i 6)) mixed (by kernel_rfl) ?_)))))
    refine dV Z (vM Z) (dr_v Z (v_ldn Z ld25 Z rds_pt) ?_)
    refine dV Z (vM Z) (dV Z (vM Z) (dV Z (vI (k:=j) Z Z sl50 Z hlt Z) (dr_v Z (vY Z ld9) ?_)))
    refine dr_eff Z (st_cl Z Z en57 Z (hia a) ?_)
    rintro u h' ⟨T3,rfl,w3,rfl,hw3,hT3⟩
    simp only [lC,lN]
    obtain ⟨wa,wc,rfl,_⟩:=id hT3.form
    have hel:Ty (Res.star [T3,S]) [.int .i64 3,sv a,.slice wa (rinst l all k a).1.length wc,.bool t.void,.bool t.sep] (.mk 3 a (rinst l all k a).1 t.void t.sep):=Ty.of (t:=.mk 3 a (rinst l all k a).1 t.void t.sep) rfl hT3
    refine dr_nx ?_
    refine dV Z (vM Z) (dV Z (v_extract Z Z) (dV Z (v_extract Z Z) (dV Z (vA Z) (dV Z (vA Z) (dr_nil (nK [0,5,7,9,10,11,12] Z (nT (cd_drawh (ork [(0,2),(1,2),(2,2),(3,2),(4,1),(5,2),(6,2),(7,1),(8,2),(9,1),(10,2),(11,0),(12,0),(13,2)] .nil) (fun i => !(Nat.beq i 11 || Nat.beq i 12)) mixed (by kernel_rfl) ?_))))))))
    refine dV Z (vM Z) (dV Z (vM Z) (dV Z (vM Z) (dV Z (vI (k:=j) Z Z sl50 Z hlt Z) (dr_v Z (vY Z ld9) ?_))))
    refine dV Z (vM Z) (dV Z (vF Z fa25_3 Z) (dr_v Z (vY Z ld4) ?_))
    refine dV Z (vF Z fa25_4 Z) (dr_v Z (vY Z ld4) ?_)
    refine dV Z (v_build (cells:=[.int .i64 3,sv a,.slice wa (rinst l all k a).1.length wc,.bool t.void,.bool t.sep]) Z (fun _=>by kernel_rfl)) ?_
    refine dr_eff Z (st_buildSlice (cells:=[.int .i64 3,sv a,.slice wa (rinst l all k a).1.length wc,.bool t.void,.bool t.sep]) Z Tryz.underlying23 inf25 Z Z (by kernel_rfl) (ltn Z) fun b59=>dr_nx ?_)
    refine dr_eff Z (st_app [[.int .i64 3,sv a,.slice wa (rinst l all k a).1.length wc,.bool t.void,.bool t.sep]] Z Z Tryz.underlying23 inf25 Z (by decide) (show Sel _ (VR wv 25 5 rows) _ from slq) (by simp) Z (fun j u2 hu2=>at_here (rd_cl (by simpa using hu2))) (by simp [Value.oneCell']) (by rw [hrl]; omega) (by rw [hrl]; omega) (ltn Z) fun w5 hw5 _=>dr_nx ?_)
    refine dV Z (vA Z) (dr_nil (nK [0,5,7,9,10,11] Z (nx_xt (xB (xT (cR (sM Z (sV (v_sub Z Z (by unfold I64 at *; omega)) (sA Z (sN (nK [0,5,7,9,10,11] Z (nx_xt (xt_pv (pv_pack (L:=[T,T3])) ?_)))))))))))))
    simp only [lC,lN]
    refine xt_aq (w5,rows++[[.int .i64 3,sv a,.slice wa (rinst l all k a).1.length wc,.bool t.void,.bool t.sep]],Res.star [T,T3],j) ⟨by show j≤_; omega,hw5,by show TyRows _ _ (List.map _ (List.drop j up).reverse); rw [hsn]; exact (hro.mono fun p u g=>rd_up p u .here g).snoc (hel.mono fun p u g=>rd_up p u (.there .here) g)⟩ (Nat.lt_succ_self j)
   ·have hd:¬ (0:Int)≤(i:Int) - 1:=of_decide_eq_false hd
    have hi0:i=0:=by omega
    rw [hi0,List.drop_zero] at hro
    rw [hi0,Nat.sub_zero] at hrl
    have hro2:=hro.snoc (t:=.mk 3 root [] t.void t.sep) (Ty.of rfl Tys.nil)
    refine cd_exit (xE (xE (xY (xT (cQ (st_clr Z Z en107 Z (anyType_ct) ?_))))))
    unfold tyC
    refine st_alc al25 fun b14=>?_
    refine st_stoW Z Z sz25 Z Z ?_
    refine sK [5,9,14] Z (cQ (sV (vF Z fa25_3 Z) (sV (vY Z ld4) ?_)))
    refine sV (vF Z fa25_3 Z) (st_sto Z Z sz4 ?_)
    refine sK [5,9,14] Z (cQ (sV (vF Z fa25_4 Z) (sV (vY Z ld4) ?_)))
    refine sV (vF Z fa25_4 Z) (st_sto Z Z sz4 ?_)
    refine sK [9,14] Z (cQ (sM Z (sV (v_ldn Z ld25 Z rds_pt) ?_)))
    refine st_buildSlice (cells:=[.int .i64 3,sv root,.slice none 0 0,.bool t.void,.bool t.sep]) Z Tryz.underlying23 inf25 Z Z (by kernel_rfl) (ltn Z) fun b70=>?_
    refine st_app [[.int .i64 3,sv root,.slice none 0 0,.bool t.void,.bool t.sep]] Z Z Tryz.underlying23 inf25 Z (by decide) (show Sel _ (VR wv 25 5 rows) _ from slq) (by simp) Z (fun j u2 hu2=>at_here (rd_cl (by simpa using hu2))) (by simp [Value.oneCell',sv]) (by omega) (by omega) (ltn Z) fun w4 hw4 _=>?_
    refine sA Z (sK [6] Z (cT (xt_ok (r:=VR w4 25 5 (rows++[[.int .i64 3,sv root,.slice none 0 0,.bool t.void,.bool t.sep]])) slq fun hok4=>?_)))
    refine xt_pv (pv_pack (L:=[VR w4 25 5 (rows++[[.int .i64 3,sv root,.slice none 0 0,.bool t.void,.bool t.sep]]),T])) ?_
    simp only [lC,lN]
    have hty:Tys (Res.star [Res.star [VR w4 25 5 (rows++[[.int .i64 3,sv root,.slice none 0 0,.bool t.void,.bool t.sep]]),T],S]) w4 ((up.reverse.map (fun a=>Kt.mk 3 a (rinst l all k a).1 t.void t.sep))++[.mk 3 root [] t.void t.sep]):=(hro2.mono fun p u g=>rd_up p u (.there .here) g).tys hok4 (fun p u g=>rd_in .here p u (rd_in .here p u g)) (by simp; omega)
    obtain ⟨ra,rc,rfl,_⟩:=id hty.form
    exact xt_rt Z ⟨_,Z,ra,rc,Z,hty⟩ sbq
  ·have hrt:(k.name != root)=false:=hrt
   have hrt:k.name=root:=by simpa using hrt
   have hre:rightE (ksys l) [k.name]≠0:=fun e=>by
    have:=(rightE_zero.1 e).2 k.name (by simp)
    rw [hrt,← kfind_isC,hK.no_root] at this; cases this
   rw [okL_ne hre]
   obtain ⟨wv,hwv⟩:∃ w,w=Value.slice none 0 0:=⟨_,rfl⟩
   obtain ⟨rows,hrows⟩:∃ r,r=([]:List (List Value)):=⟨_,rfl⟩
   obtain ⟨T,hTe⟩:∃ q,q=Res.star []:=⟨_,rfl⟩
   have hrl:rows.length=0:=by rw [hrows]; rfl
   refine cd_vw (vw_nil 25 5) (cd_vw (vw_unstar (L:=[])) ?_)
   rw [← hwv,← hrows,← hTe]
   have hro2:TyRows (Res.star [T,S]) (rows++[[.int .i64 3,sv root,.slice none 0 0,.bool t.void,.bool t.sep]]) (([]:List Kt)++[.mk 3 root [] t.void t.sep]):=by
    rw [hrows]; exact TyRows.nil.snoc (t:=.mk 3 root [] t.void t.sep) (Ty.of rfl Tys.nil)
   refine cK (xT (cQ (st_clr Z Z en107 Z (anyType_ct) ?_)))
   unfold tyC
   refine st_alc al25 fun b14=>?_
   refine st_stoW Z Z sz25 Z Z ?_
   refine sK [5,6,9,14] Z (cQ (sV (vF Z fa25_3 Z) (sV (vY Z ld4) ?_)))
   refine sV (vF Z fa25_3 Z) (st_sto Z Z sz4 ?_)
   refine sK [5,6,9,14] Z (cQ (sV (vF Z fa25_4 Z) (sV (vY Z ld4) ?_)))
   refine sV (vF Z fa25_4 Z) (st_sto Z Z sz4 ?_)
   refine sK [6,9,14] Z (cQ (sM Z (sV (v_ldn Z ld25 Z rds_pt) ?_)))
   refine st_buildSlice (cells:=[.int .i64 3,sv root,.slice none 0 0,.bool t.void,.bool t.sep]) Z Tryz.underlying23 inf25 Z Z (by kernel_rfl) (ltn Z) fun b70=>?_
   refine st_app [[.int .i64 3,sv root,.slice none 0 0,.bool t.void,.bool t.sep]] Z Z Tryz.underlying23 inf25 Z (by decide) (show Sel _ (VR wv 25 5 rows) _ from slq) (by simp) Z (fun j u2 hu2=>at_here (rd_cl (by simpa using hu2))) (by simp [Value.oneCell',sv]) (by omega) (by omega) (ltn Z) fun w4 hw4 _=>?_
   refine sA Z (sK [6] Z (cT (xt_ok (r:=VR w4 25 5 (rows++[[.int .i64 3,sv root,.slice none 0 0,.bool t.void,.bool t.sep]])) slq fun hok4=>?_)))
   refine xt_pv (pv_pack (L:=[VR w4 25 5 (rows++[[.int .i64 3,sv root,.slice none 0 0,.bool t.void,.bool t.sep]]),T])) ?_
   simp only [lC,lN]
   have hty:Tys (Res.star [Res.star [VR w4 25 5 (rows++[[.int .i64 3,sv root,.slice none 0 0,.bool t.void,.bool t.sep]]),T],S]) w4 (([]:List Kt)++[.mk 3 root [] t.void t.sep]):=(hro2.mono fun p u g=>rd_up p u (.there .here) g).tys hok4 (fun p u g=>rd_in .here p u (rd_in .here p u g)) (by simp; omega)
   obtain ⟨ra,rc,rfl,_⟩:=id hty.form
   exact xt_rt Z ⟨_,Z,ra,rc,Z,hty⟩ sbq
end
end Go.Hr
namespace Go.Hr
open Go Go.RowKit Go.Ck Go.Proofs Go.Proofs.YtaohbfnepjjdgaaGreat Fx
attribute [local irreducible] Go.Ck.Sub St Cd Xt Nx DrL LsW
section
variable {S T N R:Res} {v:Value} {F:List Fm} {A:List Kt} {l:KS} {s t:Kt} {ts:List Kt} {rows:List (List Value)} {all:List (Nm×Own)} {x:KC}
def rwhyC (l:KS) (all:List (Nm×Own)) (F:List Fm) (s t:Kt):Int :=
 if (((((s.kind == 1) || (s.kind == 2)) || (t.kind == 1)) || (t.kind == 2)) && (s.kind == t.kind))=true then 1
 else if (((((s.kind == 1) || (s.kind == 2)) || (t.kind == 1)) || (t.kind == 2)) || (t.kind == 0))=true then 13
 else if ((s.kind == 0) && t.void)=true then 2
 else if (((s.kind == 0) || s.void) && !t.void)=true then 11
 else if (s.sep && !t.sep)=true then 12
 else if ((t.kind == 3) && (t.name == root))=true then 3
 else if (t.kind == 4)=true then (if ((s.kind == 4) && (s.name == t.name))=true then 4 else 13)
 else if (!(rinst l all (rcK F s) t.name).2)=true then 14
 else if (!(sames (rinst l all (rcK F s) t.name).1 t.args))=true then 15 else 5
end
end Go.Hr
namespace Go.Hr
open Go Go.RowKit Go.Ck Go.Proofs Go.Proofs.YtaohbfnepjjdgaaGreat Fx
attribute [local irreducible] Go.Ck.Sub St Cd Xt Nx DrL LsW
section
variable {S T N R:Res} {v:Value} {F:List Fm} {A:List Kt} {l:KS} {s t:Kt} {ts:List Kt} {rows:List (List Value)} {all:List (Nm×Own)} {x:KC}
theorem inner_zero (h:rightK l F t=0):t.inner l F=0:=by
 unfold rightK at h
 split at h
 ·cases h
 ·exact h
set_option maxHeartbeats 4000000 in
set_option maxRecDepth 100000 in
theorem SupersR_ct (hv:ksysR S v l) (htn:Tiny l) (hl:l.length≤1000000) (c:Nm) {us:List Value} (hu:Ty S us t) (hd:t.depth≤1000000) :
  CtN Tryz.prog 24 #[v,sv c,.agg us.toArray] [S] fun u T=>∃ w,u = .agg #[w,.int .i64 (SupersK l c t).2]∧w.oneCell'=true∧Tys (Res.star [T,S]) w (SupersK l c t).1:=by
 obtain ⟨va,vc,rfl,_⟩:=id hv
 have h1:=fun b hok=>openedR_ct (hv.mono (rd_in (.there .here))) htn hl c (tys_one (b:=b) hu hok) (fun s hs=>by simp at hs; subst hs; exact hd)
 obtain ⟨y0,rfl,hy0⟩:=hu.out
 obtain ⟨ya,yc,rfl,_⟩:=id hy0.form
 refine ct_of (n:=26) Tryz.func24 Z Z (len Z) fun hr w0=>?_
 refine cQ (st_bx Z Z fun b5=>?_)
 refine st_alc al38 fun b6=>?_
 refine sK [0,1,5,6] Z (cQ (sM Z (sM Z (sV (v_ldn Z ld25 Z rds_pt) ?_))))
 refine st_buildSlice (cells:=tyC t (.slice ya t.args.length yc)) Z Tryz.underlying23 inf25 Z Z (by kernel_rfl) (ltn Z) fun b13=>?_
 refine st_pv (pv_of (b:=b13) (n:=1) (sz:=5) (E:=25) [tyC t (.slice ya t.args.length yc)] Z (by simp [tyC]) Z (by decide)) ?_
 simp only [lC,lN]
 refine st_ok (r:=VR (.slice (some ⟨b13,0,none⟩) 1 1) 25 5 [tyC t (.slice ya t.args.length yc)]) slq fun hok=>?_
 refine st_pv (pv_pack (L:=[VR (.slice (some ⟨b13,0,none⟩) 1 1) 25 5 [tyC t (.slice ya t.args.length yc)],S])) ?_
 simp only [lC,lN]
 have ht1:Ty (Res.star [VR (.slice (some ⟨b13,0,none⟩) 1 1) 25 5 [tyC t (.slice ya t.args.length yc)],S]) (tyC t (.slice ya t.args.length yc)) t:=(Ty.of rfl hy0).mono (rd_in (.there .here))
 have hv1:ksysR (Res.star [VR (.slice (some ⟨b13,0,none⟩) 1 1) 25 5 [tyC t (.slice ya t.args.length yc)],S]) (.slice va l.length vc) l:=hv.mono (rd_in (.there .here))
 have hop:=h1 b13 hok
 generalize hSP:Res.star [VR (.slice (some ⟨b13,0,none⟩) 1 1) 25 5 [tyC t (.slice ya t.args.length yc)],S]=SP at *
 refine st_cl Z Z en55 Z (hop) ?_
 rintro u h' ⟨cs,rfl,rfl,hcl,hco,hcx⟩
 simp only [lC,lN]
 refine sM Z (sV (v_extract Z Z) (sV (v_extract Z Z) (st_alc al54 fun b7=>?_)))
 refine st_stoW (vs:=cs) (hl:=by rw [hcl]; rfl) Z Z sz54 hcl hco ?_
 refine sA Z (sK [0,5,6,7,8] Z (cS (cQ (sM Z (sV (v_neq Z Z) (sK [0,5,6,7,8,18] Z (cC Z (fun he=>?_) (fun he=>?_))))))))
 ·have he:askedE l c [t]≠0:=by simpa using he
  rw [show SupersK l c t=([],askedE l c [t]) from if_pos he]
  refine cQ (sM Z (sV (v_build (cells:=[.slice none 0 0,.int .i64 (askedE l c [t])]) Z (fun _=>by kernel_rfl)) ?_))
  refine st_stoW Z Z sz38 Z Z ?_
  refine sK [6] Z (cT (xR (xt_pv (pv_eq hSP.symm) ?_)))
  simp only [lC,lN]
  refine xt_pv (pv_unpack (L:=[VR (.slice (some ⟨b13,0,none⟩) 1 1) 25 5 [tyC t (.slice ya t.args.length yc)],S])) ?_
  simp only [lC,lN]
  exact xt_retV (.cellN Z ld38 Z slq .nil) ⟨VR (.slice (some ⟨b13,0,none⟩) 1 1) 25 5 [tyC t (.slice ya t.args.length yc)],Z,_,Z,Z,Tys.nil⟩ sbr
 ·have he:askedE l c [t]=0:=by simpa using he
  obtain ⟨x,all,hok2⟩:=askedE_zero.1 he
  have hK:=hok2.right
  obtain ⟨x',hx',hcc⟩:=hcx he
  rw [hok2.cls] at hx'
  cases hx'
  have hxl:=(kfind_some hok2.cls).2
  have hit:=inner_zero (hok2.tys t (by simp))
  rw [show SupersK l c t=(supersK l x.formals t,0) by unfold SupersK; rw [if_neg (by simpa using he),fmsOf_some hok2.cls]]
  obtain ⟨d,ff,pv,cr,ffa,ffc,i2,rfl,hone,hrow,_⟩:=hcc
  obtain ⟨fa,fcap,rfl,_⟩:=id hrow
  have hsu:=supersR_ct hK hv1 htn hxl (n0:=sv x.name) (d:=d) (pv:=pv) (c2:=cr) (fs:=.slice ffa x.feats ffc) (ii:=i2) hrow ht1 hit
  unfold tyC at hsu
  refine cK (xT (cQ (sM Z (sV (v_ldn Z ld54 Z rds_pt) ?_))))
  refine sV (v_ldn Z ld25 Z rds_pt) ?_
  refine st_cl Z Z en60 Z (hsu) ?_
  rintro u h' ⟨T,rfl,wa,wc,rfl,hT⟩
  simp only [lC,lN]
  refine sV (v_build (cells:=[.slice wa (supersK l x.formals t).length wc,.int .i64 0]) Z (fun _=>by kernel_rfl)) ?_
  refine st_stoW Z Z sz38 Z Z ?_
  refine sK [6] Z (cT (xt_pv (pv_eq hSP.symm) ?_))
  simp only [lC,lN]
  refine xt_pv (pv_unpack (L:=[VR (.slice (some ⟨b13,0,none⟩) 1 1) 25 5 [tyC t (.slice ya t.args.length yc)],S])) ?_
  simp only [lC,lN]
  refine xt_pv (pv_pack (L:=[VR (.slice (some ⟨b13,0,none⟩) 1 1) 25 5 [tyC t (.slice ya t.args.length yc)],T])) ?_
  simp only [lC,lN]
  exact xt_retV (.cellN Z ld38 Z slq .nil) ⟨Res.star [VR (.slice (some ⟨b13,0,none⟩) 1 1) 25 5 [tyC t (.slice ya t.args.length yc)],T],Z,_,Z,Z,hT.mono fun p u g=>rd_turn p u (by rw [← hSP] at g; exact g)⟩ sbr
end
end Go.Hr
namespace Go.Hr
open Go Go.RowKit Go.Ck Go.Proofs Go.Proofs.YtaohbfnepjjdgaaGreat Fx
attribute [local irreducible] Go.Ck.Sub St Cd Xt Nx DrL LsW
section
variable {S T N R:Res} {v:Value} {F:List Fm} {A:List Kt} {l:KS} {s t:Kt} {ts:List Kt} {rows:List (List Value)} {all:List (Nm×Own)} {x:KC}
set_option maxRecDepth 100000 in
theorem SameWay_ct {M : Res} {v w : Value} {a b : List Nm} (hv : nmsR M v a) (hw : nmsR M w b) : Reads Tryz.prog 39 #[v, w] [M] (.bool (decide (a = b))) := by
 have hml:maxLen=9223372036854775807:=rfl
 obtain ⟨va,vc,rfl,hl1,hl2,_⟩:=id hv
 obtain ⟨wa,wc,rfl,hl3,hl4,_⟩:=id hw
 refine ct_of (n:=26) Tryz.func39 Z Z (len Z) fun hr w0=>?_
 refine cQ (sA Z (sN (nT (cS (cQ (sM Z (sV (v_len Z Tryz.underlying50) (sM Z (sV (v_len Z Tryz.underlying50) (sV (v_neq Z Z) (sK [0,1,4,10] Z (cC Z (fun h1=>?_) (fun h1=>?_)))))))))))))
 ·rw [show decide (a=b)=false from decide_eq_false (fun e=>by
   rw [e] at h1
   have:=bne_iff_ne.1 h1
   exact this Z)]
  refine cQ (sA Z (sK [4] Z (cT (xR ?_))))
  exact xt_rt Z ⟨Z,Z⟩ sbq
 ·have h1:((a.length:Int) != (b.length:Nat))=false:=h1
  have hle:a.length=b.length:=by rw [bne_eq_false_iff_eq] at h1; omega
  refine cK (xT (cS (cQ (sA Z (sK [0,1,4,5] Z (cB (cd_lq (σ := Nat) (fun i=>[(0,.slice va a.length vc),(1,.slice wa b.length wc),(5,.int .i64 (i:Nat))]) (fun _=>M::hr) (fun i=>i≤a.length∧a.take i=b.take i) (fun i=>a.length - i) 0 ⟨Nat.zero_le _,Z⟩ ?_)))))))
  rintro i ⟨hi,hal⟩
  refine cS (cQ (sM Z (sM Z (sV (v_len Z Tryz.underlying50) (sV (v_lss Z Z) (sK [0,1,5,14] Z (cC Z (fun hd=>?_) (fun hd=>?_))))))))
  ·have hlt:i<a.length:=by simpa using hd
   have hlt2:i<b.length:=by omega
   obtain ⟨b1,o1,c1,e1,hr1⟩:=nms_at hv (List.getElem?_eq_getElem hlt)
   cases e1
   obtain ⟨b2,o2,c2,e2,hr2⟩:=nms_at hw (List.getElem?_eq_getElem hlt2)
   cases e2
   refine cK (xT (cS (cB (cS (cd_drawh (ork [(0,2),(1,2),(2,2),(3,1),(4,2),(5,2),(6,2),(7,1),(8,1)] .nil) (fun _=>true) mixed (by kernel_rfl) ?_)))))
   refine dV Z (vM Z) (dV Z (vM Z) (dV Z (vI (k:=i) Z Z sl50 Z hlt Z) (dr_v Z (vY Z ld9) ?_)))
   refine dV Z (vM Z) (dV Z (vM Z) (dV Z (vI (k:=i) Z Z sl50 Z hlt2 Z) (dr_v Z (vY Z ld9) ?_)))
   refine dr_v Z (v_sneq Z Z) (dr_nil (nK [0,1,5,25] Z (nT (cC Z (fun he=>?_) (fun he=>?_)))))
   ·have he:(a[i] != b[i])=true:=he
    rw [show decide (a=b)=false from decide_eq_false (fun e=>by
     subst e
     simp at he)]
    refine cQ (sA Z (sK [4] Z (cT (xW (xR (xR (xW (xR ?_))))))))
    exact xt_rt Z ⟨Z,Z⟩ sbq
   ·have he:(a[i] != b[i])=false:=he
    have he:a[i]=b[i]:=by simpa using he
    refine cK (xB (xT (cR (sM Z (sV (v_add Z Z (by unfold I64 at *; omega)) (sA Z (sN (nK [0,1,5] Z (nx_xt ?_)))))))))
    refine xt_aq (i+1) ⟨hlt,by rw [List.take_succ_eq_append_getElem hlt,List.take_succ_eq_append_getElem hlt2,hal,he]⟩ (Nat.sub_lt_sub_left hlt (Nat.lt_succ_self i))
  ·have hil:i=a.length:=by
    have:¬ i<a.length:=by simpa using hd
    omega
   rw [show decide (a=b)=true from decide_eq_true (by
    rw [hil,List.take_length,hle,List.take_length] at hal; exact hal)]
   refine cd_exit (xE (xE (xY (xT (cQ (sA Z (sK [4] Z (cT ?_))))))))
   exact xt_rt Z ⟨Z,Z⟩ sbq
end
end Go.Hr
namespace Go.Hr
open Go Go.RowKit Go.Ck Go.Proofs Go.Proofs.YtaohbfnepjjdgaaGreat Fx
attribute [local irreducible] Go.Ck.Sub St Cd Xt Nx DrL LsW
section
variable {S T N R:Res} {v:Value} {F:List Fm} {A:List Kt} {l:KS} {s t:Kt} {ts:List Kt} {rows:List (List Value)} {all:List (Nm×Own)} {x:KC}
def lowB (l:KS) (all:List (Nm×Own)) (s t:Kt):Bool:=if (t.name == root)=true then true else (rinst l all s t.name).2 && sames (rinst l all s t.name).1 t.args
def lowR (low:Kt→Kt→Bool) (both:List Kt):List Kt:=(both.zipIdx.filter fun p=>both.zipIdx.all fun q=>decide (q.2=p.2) || !low q.1 p.1).map (·.1)
def joinR (low:Kt→Kt→Bool) (us ut:List Kt):List Kt:=lowR low (us.filter fun a=>ut.any fun b=>a.same b)
def lowJ (l:KS) (all:List (Nm×Own)) (F:List Fm) (s t:Kt):List Kt:=if (((s.kind == 4) && (t.kind == 4)) && (s.name == t.name))=true then [s.with false false] else joinR (lowB l all) (upsK l F s) (upsK l F t)
end
end Go.Hr
namespace Go.Hr
open Go Go.RowKit Go.Ck Go.Proofs Go.Proofs.YtaohbfnepjjdgaaGreat Fx
attribute [local irreducible] Go.Ck.Sub St Cd Xt Nx DrL LsW
section
variable {S T N R:Res} {v:Value} {F:List Fm} {A:List Kt} {l:KS} {s t:Kt} {ts:List Kt} {rows:List (List Value)} {all:List (Nm×Own)} {x:KC}
end
end Go.Hr
namespace Go.Hr
open Go
def nB (s:String):Nm:=s.toUTF8.data.toList
def exT (n:Nm) (az:List Kt):Kt:=.mk 3 n az false false
def exF (n:Nm):Kt:=.mk 4 n [] false false
def exV (t:Kt):Kt:=t.with true t.sep
def exText : Kt := exT (nB "TEXT") []
def exL : KS := [⟨nB "COMPARABLE", [], [], 0⟩, ⟨nB "TEXT", [], [⟨nB "COMPARABLE", []⟩], 0⟩, ⟨nB "LIST", [⟨nB "G", root⟩], [], 0⟩, ⟨nB "SORTED", [⟨nB "H", nB "COMPARABLE"⟩], [⟨nB "LIST", [exF (nB "H")]⟩], 0⟩, ⟨nB "WORDS", [], [⟨nB "SORTED", [exText]⟩], 0⟩, ⟨nB "BAG", [⟨nB "G", root⟩], [⟨nB "LIST", [exF (nB "G")]⟩], 0⟩]
theorem ex_check:(kcheck exL).1=0:=by decide +kernel
theorem ex_inst1 : InstK exL (exT (nB "WORDS") []) (nB "LIST") = ([exText], 0) := by decide +kernel
theorem ex_inst2 : InstK exL (exT (nB "SORTED") [exF (nB "H")]) (nB "LIST") = ([exF (nB "H")], 0) := by decide +kernel
theorem ex_seen : SeenK exL (exT (nB "WORDS") []) (nB "LIST") (exV (exF (nB "G"))) = (exV exText, 0) := by decide +kernel
theorem ex_supers : SupersK exL (nB "WORDS") (exT (nB "WORDS") []) = ([exT (nB "WORDS") [], exT (nB "SORTED") [exText], exT (nB "LIST") [exText], exT root []], 0) := by decide +kernel
theorem ex_why1 : WhyK exL (nB "WORDS") (exT (nB "WORDS") []) (exT (nB "LIST") [exText]) = ((5, [nB "WORDS", nB "SORTED", nB "LIST"]), 0) := by decide +kernel
theorem ex_why2 : (WhyK exL (nB "WORDS") (exT (nB "WORDS") []) (exV (exT (nB "LIST") [exT (nB "COMPARABLE") []]))).1.1 = 15 ∧ (WhyK exL (nB "WORDS") (exT (nB "WORDS") []) (exV (exT (nB "LIST") [exT (nB "COMPARABLE") []]))).2 = 0 := by decide +kernel
theorem ex_why3 : WhyK exL (nB "SORTED") (exF (nB "H")) (exT (nB "COMPARABLE") []) = ((5, [nB "COMPARABLE"]), 0) := by decide +kernel
theorem ex_why4 : WhyK exL (nB "WORDS") zeroT exText = ((11, []), 0) := by decide +kernel
theorem ex_joins1 : JoinsK exL (nB "WORDS") (exT (nB "WORDS") []) (exT (nB "BAG") [exText]) = ([exT (nB "LIST") [exText]], 0) := by decide +kernel
theorem ex_joins2 : JoinsK exL (nB "WORDS") (exT (nB "WORDS") []) (exV (exT (nB "BAG") [exT (nB "COMPARABLE") []])) = ([exV (exT root [])], 0) := by decide +kernel
theorem ex_right1 : askedE exL (nB "WORDS") [exT (nB "SORTED") [exText]] = 0 := by decide +kernel
theorem ex_right2 : askedE exL (nB "WORDS") [exT (nB "SORTED") [exT (nB "LIST") [exText]]] = 8 := by decide +kernel
theorem ex_right3 : askedE exL (nB "WORDS") [exT (nB "LIST") [exV exText]] = 8 := by decide +kernel
end Go.Hr
