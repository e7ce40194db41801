/-
  Package kind: what formals are along a way. Conditions: what is read; each class of the way has the next one among its parents.
  Package kind: what an ancestor's formals are in a class type. Conditions: what is read; a right system.
  Package kind: Instance,Seen. Conditions: what is read; small types.
  Package kind: why a type conforms,or does not. Conditions: what is read; a right system.
  Package kind: Conforms,Why. Conditions: what is read; small types.
-/
import Derived.Test.YtaohbfnepjjdgaaGreatM14
import Derived.Test.YtaohbfnepjjdgaaGreatM7
set_option linter.unusedVariables false
set_option linter.unusedSimpArgs false
namespace Go.Hr
open Go Go.RowKit Go.Ck Go.Proofs Go.Proofs.YtaohbfnepjjdgaaGreat Fx
attribute [local irreducible] Go.Ck.Sub St Cd Xt Nx DrL LsW
section
variable {S T N R:Res} {v:Value} {F:List Fm} {A:List Kt} {l:KS} {m:List (Bs×Value)} {mb:Nat} {s t:Kt} {va:Option Addr} {vc:Nat} {ts:List Kt} {rows:List (List Value)} {way:List Nm}
theorem along_step {i:Nat} (h:i+1<way.length) {x:KC} {p:Kp} (hx:kfind l way[i]=some x) (hp:(x.parents.find? fun q=>q.name == way[i+1])=some p):along l (way.drop i) A=along l (way.drop (i+1)) (p.args.map (Kt.subst x.formals A)):=by
 rw [List.drop_eq_getElem_cons (by omega),List.drop_eq_getElem_cons h,along]
 rw [show parArgs l way[i] way[i+1]=p.args by unfold parArgs; rw [hx,Option.bind_some,hp]; rfl,fmsOf_some hx]
theorem along_last:along l (way.drop (way.length - 1)) A=A:=by
 cases hw:way.drop (way.length - 1) with
 | nil=>exact along_nil
 | cons c t =>
  have hl:(way.drop (way.length - 1)).length≤1:=by rw [List.length_drop]; omega
  rw [hw] at hl
  have:t=[]:=List.eq_nil_of_length_eq_zero (by simp at hl; simp [hl])
  subst this
  exact along_one
set_option maxHeartbeats 8000000 in
set_option maxRecDepth 100000 in
theorem along_ct (hM : KMap S m l) {wa : Option Addr} {wc : Nat} (hw : nmsR N (.slice wa way.length wc) way) (hch : Chain l way) {av : Value} (hA : Tys S av A) :
  CtN Tryz.prog 97 #[.map (some mb),.slice wa way.length wc,av] [S,mps mb m,N] fun u T=>∃ a cap,u = .slice a (along l way A).length cap∧Tys (Res.star [T,S]) u (along l way A):=by
 have hml:maxLen=9223372036854775807:=rfl
 have hrb:reachBytes=140737488351232:=rfl
 obtain ⟨aa,ac,rfl,_⟩:=id hA.form
 refine ct_ofM (n:=35) Tryz.func97 Z Z (len Z) fun hr w0=>?_
 refine cQ (st_bx Z Z fun b5=>?_)
 refine sA Z (sK [0,1,5,6] Z (cS (cQ (sM Z (sM Z (st_cl Z Z en148 Z (steps_ct) ?_))))))
 rintro u h' ⟨c1,c2,rfl,rfl⟩
 refine sK [5,6,14] Z (cB ?_)
 simp only [lC,lN]
 refine cd_vw (vw_unstar (L:=[])) (cd_range' Z en168 fun yl db rec hst hpe hps hasg hbo hkn2=>?_)
 refine ⟨_,Ct.perm (itk_ct (S:=S) (N:=N) (mb:=mb) (m:=m) (σ := Value×Res) (b1:=c1) (b2:=c2) (yl:=yl) (fun q=>pt yl (.loop rec)::pt db (.deferred (some []))::pt b5 (cl [q.1] 23)::q.2::hr)
  (fun i q=>∃ B,Tys (Res.star [q.2,S]) q.1 B∧along l way A=along l (way.drop i) B) (.slice aa A.length ac,Res.star []) ⟨A,hA.mono (rd_in (.there .here)),rfl⟩ hM hw hch ?_) ?_,?_⟩
 ·rintro i ⟨av, T⟩ hlt x p us ps hx hp hcx hkp ⟨B, hB, hal⟩
  simp only at hB
  rw [along_step hlt hx hp] at hal
  obtain ⟨d,f,pv,c2',fa,fc,i2,rfl,hone,hrow,hrowp⟩:=hcx
  obtain ⟨y,p1,p2,p3,p4,rfl,hone2,hy⟩:=hkp
  obtain ⟨ya,yc,rfl,_⟩:=id hy.form
  obtain ⟨ba,bc,rfl,_⟩:=id hB.form
  obtain ⟨fa2,fcap,rfl,_⟩:=id hrow
  refine Yc.perm (yc_of (n:=35) (rec:=rec) (args:=[.agg #[sv x.name,d,.slice fa2 x.formals.length fcap,pv,c2',.slice fa x.feats fc,i2],.agg #[sv p.name,.slice ya p.args.length yc,p1,p2,p3,p4]]) (hf:=pt db (.deferred (some []))::pt b5 (cl [.slice ba B.length bc] 23)::T::S::mps mb m::N::hr) (by rw [hps]; rfl) hkn2 (by rw [hps]; decide) ?_) (by exact (by repeat (first | exact Pm.refl | refine Pm.cons slq ?_):Pm _ _).perm)
  intro hr2 w1
  rw [hasg,hps,hbo]
  simp only [lC,lN]
  refine cQ (st_alc al54 fun b7=>?_)
  refine st_stoW Z Z sz54 Z hone ?_
  refine sK [5,6,7,16] Z (cR (st_alc al79 fun b8=>?_))
  refine st_stoW Z Z sz79 Z hone2 ?_
  refine sN (nK [5,6,7,8] Z (nx_xt (xt_mid Z slq (by first | rfl | assumption) ?_)))
  refine cB (cQ (sA Z (sN (nT (cS (cQ (sV (vF Z fa79_1 Z) (sV (vY Z ld23) ?_))))))))
  refine sV (v_len Z Tryz.underlying23) (sM Z (sK [5,6,7,9,18,19,20] Z (cB ?_)))
  have hbb:=hy.2
  have hsn:∀ j (h:j<p.args.length),(p.args.take (j+1)).map (Kt.subst x.formals B)=(p.args.take j).map (Kt.subst x.formals B)++[(p.args[j]).subst x.formals B]:=fun j h=>by rw [List.take_add_one,List.getElem?_eq_getElem h,List.map_append]; rfl
  refine cd_vw (vw_nil 25 5) (cd_vw (vw_unstar (L:=[])) (cd_pv (pv_pack (L:=[T,S])) ?_))
  simp only [lC,lN]
  refine cd_lq (σ := Value×List (List Value)×Res×Nat) (fun q=>[(5,.pointer (some ⟨b5,0,none⟩)),(7,.pointer (some ⟨b7,0,none⟩)),(9,q.1),(18,.slice ya p.args.length yc),(19,.int .i64 p.args.length),(20,.int .i64 (q.2.2.2:Nat))]) (fun q=>VR q.1 25 5 q.2.1::q.2.2.1::Res.star [T,S]::pt b7 (cl [sv x.name,d,.slice fa2 x.formals.length fcap,pv,c2',.slice fa x.feats fc,i2] 54)::pt b8 (cl [sv p.name,.slice ya p.args.length yc,p1,p2,p3,p4] 79)::pt yl (.loop { rec with state:=.busy })::pt db (.deferred (some []))::pt b5 (cl [.slice ba B.length bc] 23)::mps mb m::N::(hr++hr2)) (fun q=>q.2.2.2≤p.args.length∧q.1.oneCell'=true∧TyRows (Res.star [q.2.2.1,Res.star [T,S]]) q.2.1 ((p.args.take q.2.2.2).map (Kt.subst x.formals B))) (fun q=>p.args.length - q.2.2.2) (.slice none 0 0,[],Res.star [],0) ⟨Nat.zero_le _,rfl,TyRows.nil⟩ ?_
  rintro ⟨wv,rows,Tn,q⟩ ⟨hq,hwv,hro⟩
  simp only at hq hwv hro
  dsimp only
  have hrl:rows.length=q:=by rw [hro.1]; simp; omega
  refine cQ (sV (v_lss Z Z) (sN (nT (cS (cC Z (fun hd=>?_) (fun hd=>?_))))))
  ·have hlt2:q<p.args.length:=by simpa using hd
   obtain ⟨bt,ot,capt,us,e4,hus,hrdt,htt⟩:=(hy.mono (rd_in (k:=[T,S]) (.there .here))).at (List.getElem?_eq_getElem hlt2)
   cases e4
   have hsn:=hsn q hlt2
   generalize p.args[q]=t at htt hsn
   have hones:=htt.ones
   have htt2:=htt
   obtain ⟨z,rfl,hz⟩:=htt.out
   obtain ⟨za,zc,rfl,_⟩:=id hz.form
   have hsc:=subst_ct (hrow.mono (rd_in (k:=[T,S]) (.there .here)) fun _ _ _ h=>h) hB htt2
   unfold tyC at hrdt hones hsc
   refine cK (xT (cS (cB (cQ (sV (vI (k:=q) Z Z sl23 Z hlt2 Z) (sV (v_ldn Z ld25 Z hrdt) ?_))))))
   refine st_alc al25 fun b11=>?_
   refine st_stoW Z Z sz25 Z hones ?_
   refine sK [5,7,9,11,18,19,20] Z (cR (sM Z (sV (vF Z fa54_2 Z) (sV (vY Z ld48) ?_))))
   refine sV (vY Z ld23) ?_
   refine sV (v_ldn Z ld25 Z rds_pt) ?_
   refine st_cl Z Z en29 Z (hsc) ?_
   rintro u h' ⟨T2,rfl,us2,rfl,hT2⟩
   simp only [lC,lN]
   obtain ⟨y2,rfl,hy2⟩:=id hT2.out
   obtain ⟨wa2,wc2,rfl,_⟩:=id hy2.form
   refine st_buildSlice (cells:=tyC (t.subst x.formals B) (.slice wa2 (t.subst x.formals B).args.length wc2)) rfl Tryz.underlying23 inf25 rfl rfl (by kernel_rfl) (ltn rfl) fun b30=>?_
   refine st_app [tyC (t.subst x.formals B) (.slice wa2 (t.subst x.formals B).args.length wc2)] rfl rfl Tryz.underlying23 inf25 rfl (by decide) (show Sel _ (VR wv 25 5 rows) _ from slq) (by simp [tyC]) rfl (fun j u2 hu2=>at_here (rd_cl (by simpa [tyC] using hu2))) (by simp [tyC,Value.oneCell']) (by rw [hrl]; omega) (by rw [hrl]; omega) (ltn rfl) fun w3 hw3 _=>?_
   refine sA Z (sN (nK [5,7,9,18,19,20] Z (nx_xt (xB (xT (cR (sV (v_add Z Z (by unfold I64 at *; omega)) (sM Z (sN (nK [5,7,9,18,19,20] Z (nx_xt (xt_pv (pv_pack (L:=[Tn,T2])) ?_))))))))))))
   simp only [lC,lN]
   refine xt_aq (w3,rows++[tyC (t.subst x.formals B) (.slice wa2 (t.subst x.formals B).args.length wc2)],Res.star [Tn,T2],q+1) ⟨hlt2,hw3,by rw [hsn]; exact (hro.mono fun p u g=>rd_up p u .here g).snoc (hT2.mono fun p u g=>rd_up p u (.there .here) g)⟩ (Nat.sub_lt_sub_left hlt2 (Nat.lt_succ_self q))
  ·have hql:q=p.args.length:=by
    have:¬ q<p.args.length:=by simpa using hd
    omega
   rw [hql,List.take_length] at hro
   refine cd_exit (xE (xE (xY (xT (cR (sM Z (st_sto Z Z sz23 ?_)))))))
   refine sN (nK [] Z (nx_xt (xB (xt_ok (r:=VR wv 25 5 rows) slq fun hok=>?_))))
   refine xt_pv (pv_pack (L:=[VR wv 25 5 rows,Tn])) ?_
   simp only [lC,lN]
   refine xt_pv (pv_unpack (L:=[T,S])) ?_
   simp only [lC,lN]
   refine xt_pv (pv_pack (L:=[T,Res.star [VR wv 25 5 rows,Tn]])) ?_
   simp only [lC,lN]
   have hseen:Tys (Res.star [Res.star [VR wv 25 5 rows,Tn],Res.star [T,S]]) wv (p.args.map (Kt.subst x.formals B)):=(hro.mono fun p u g=>rd_up p u (.there .here) g).tys hok (fun p u g=>rd_in .here p u (rd_in .here p u g)) (by rw [List.length_map]; exact hbb)
   have hseen:=hseen.mono fun p u g=>rd_turn p u g
   obtain ⟨wa2,wc2,rfl,_⟩:=id hseen.form
   refine xt_round slq ⟨rfl,(.slice wa2 (p.args.map (Kt.subst x.formals B)).length wc2,Res.star [T,Res.star [VR (.slice wa2 (p.args.map (Kt.subst x.formals B)).length wc2) 25 5 rows,Tn]]),⟨_,hseen,hal⟩,rfl⟩ ?_
   rw [rec_back hst hpe]
   exact sbr
 ·exact (by repeat (first | exact Pm.refl | refine Pm.cons slq ?_):Pm _ _).perm
 ·rintro u h' ⟨rfl,⟨av,T⟩,⟨B,hB,hal⟩,rfl⟩
  simp only at hB
  rw [along_last] at hal
  subst hal
  obtain ⟨ba,bc,rfl,_⟩:=id hB.form
  refine ⟨rec,_,slq,(by rw [hst]; simp),?_⟩
  rw [hpe]
  dsimp only
  refine xB (xT (cQ (sV (vY Z ld23) ?_)))
  refine sA Z (sK [6] Z (cT ?_))
  exact xt_retM (bs:=[db]) Z Z ⟨T,Z,ba,bc,Z,hB⟩ sbr
end
end Go.Hr
namespace Go.Hr
open Go Go.RowKit Go.Ck Go.Proofs Go.Proofs.YtaohbfnepjjdgaaGreat Fx
attribute [local irreducible] Go.Ck.Sub St Cd Xt Nx DrL LsW
section
variable {S T N R:Res} {v:Value} {F:List Fm} {A:List Kt} {l:KS} {m:List (Bs×Value)} {mb:Nat} {s t:Kt} {va:Option Addr} {vc:Nat} {ts:List Kt} {rows:List (List Value)} {way:List Nm}
theorem chain_way (hR : Right (ksys l)) {a : Nm} : ∀ {way : List Nm} {c : Nm}, Way (ksys l) a way c → (kfind l c).isSome = true → Chain l way
 | [],_,h,_=>h.elim
 | [_],_,_,_=>fun i hi=>by simp at hi
 | x :: y :: t, c, h, hc => by
  obtain ⟨rfl,h2,h3⟩:=h
  obtain ⟨z,hz⟩:=Option.isSome_iff_exists.1 hc
  have ih:=chain_way hR h3 (by rw [kfind_isC]; exact par_isC h2)
  intro i hi
  cases i with
  | zero =>
   refine ⟨z,?_⟩
   have h4:=h2
   rw [kpar hR hz] at h4
   cases hf:z.parents.find? fun q=>q.name == y with
   | none =>
    obtain ⟨q,hq,rfl⟩:=List.mem_map.1 h4
    have:=List.find?_eq_none.1 hf q hq
    simp at this
   | some q=>exact ⟨q,hz,by simpa using hf⟩
  | succ i =>
   obtain ⟨z',p,g1,g2⟩:=ih i (by simpa using hi)
   exact ⟨z',p,by simpa using g1,by simpa using g2⟩
def wayK (l:KS) (c a:Nm):List Nm:=okL (rightE (ksys l) [c,a]) (shortR (ksys l) a c)
def badT (l:KS) (t:Kt):Bool:=((t.kind != 3) || (!(kfind l t.name).isSome && (t.name != root))) || ((t.args.length:Int) != ((fmsOf l t.name).length:Nat))
def instK (l:KS) (t:Kt) (a:Nm):List Kt×Int :=
 if badT l t=true then ([],8) else if a=root then ([],0) else if (kfind l t.name).isSome=false then ([],5) else if wayE (ksys l) t.name a≠0 then ([],5) else (along l (wayK l t.name a) t.args,0)
theorem wayK_way {c a : Nm} (h : wayE (ksys l) c a = 0) : Way (ksys l) a (wayK l c a) c := by
 unfold wayE at h
 split at h
 ·rename_i h1
  split at h
  ·rename_i h2
   unfold wayK
   rw [okL_eq h1]
   unfold has at h2
   obtain ⟨k,hk⟩:=Option.isSome_iff_exists.1 h2
   unfold shortR
   rw [hk]
   exact short_way _ _ _ _ hk
  ·cases h
 ·rename_i h1; exact absurd h h1
set_option maxHeartbeats 4000000 in
set_option maxRecDepth 100000 in
theorem instance_ct (hR : Right (ksys l)) (hM : KMap S m l) (hv : ksysR S (.slice va l.length vc) l) {us : List Value} (ht : Ty S us t) (a : Nm) :
  CtN Tryz.prog 56 #[wV mb va l.length vc,.agg us.toArray,sv a] [S,mps mb m] fun u T=>∃ w,u = .tuple #[w,.int .i64 (instK l t a).2]∧w.oneCell'=true∧Tys (Res.star [T,S]) w (instK l t a).1:=by
 have hml:maxLen=9223372036854775807:=rfl
 have hsys:sysR S (.slice va l.length vc) (ksys l):=hv.sys
 obtain ⟨y,rfl,hy⟩:=ht.out
 obtain ⟨ya,yc,rfl,hylc,hycm,_⟩:=id hy.form
 obtain ⟨d0,dd,fv,pv,c2,fs,ii,hlk,hone,hrow⟩:=map_cls2 hM t.name
 obtain ⟨fa,fcap,rfl,hflc,hfcm,_⟩:=id hrow
 unfold wV tyC instK
 refine ct_of (n:=63) Tryz.func56 Z Z (len Z) fun hr w0=>?_
 refine cQ (st_bx Z Z fun b3=>?_)
 refine st_bx Z Z fun b4=>?_
 refine sA Z (sA Z (sK [2,3,4,6,7] Z (cQ (sV (vF Z fa85_0 Z) (sV (vY Z ld83) ?_)))))
 refine sV (vF Z fa25_1 Z) (sV (vY Z ld9) ?_)
 refine sV (v_is hlk (v_slookup_ok Z Z mp83 inf54 slq)) ?_
 refine sM Z (sV (v_extract Z Z) (sV (v_extract Z Z) (st_alc al54 fun b8=>?_)))
 refine st_stoW Z Z sz54 Z hone ?_
 refine sA Z (sK [2,3,4,6,7,8,9] Z (cS (cQ (sV (vF Z fa25_0 Z) (sV (vY Z ld3) ?_)))))
 refine sV (v_neq Z Z) (sM Z (st_cut (k:=12) (d:=31) (v:=.bool ((t.kind != 3) || (!(kfind l t.name).isSome && (t.name != root)))) (fun hcut=>bool_want (b:=(t.kind != 3)) false (fun hg=>?_) (fun hg=>?_)) ?_))
 ·refine st_sk Z Z hg ?_
  iterate 2 refine st_sk rfl rfl hg ?_
  refine st_sku Z Z ?_
  refine st_sku Z Z ?_
  refine st_sku Z Z ?_
  refine st_sk Z Z hg ?_
  refine sV (vQ (bO Z hg) Z) ?_
  exact hcut _ uG
 ·refine sG Z (bG Z hg) (vM Z) (sG Z (bG Z hg) (v_not Z) (sG Z (bG Z hg) (vM Z) (st_cut (k:=11) (d:=30) (v:=.bool (!(kfind l t.name).isSome && (t.name != root))) (fun hcut=>bool_want (b:=(!(kfind l t.name).isSome)) true (fun hg1=>?_) (fun hg1=>?_)) ?_)))
  ·refine st_sk Z Z hg1 ?_
   iterate 2 refine st_sk rfl rfl hg1 ?_
   refine sG Z (bG Z hg) (vP (bO Z hg1) Z) ?_
   exact hcut _ (uH (by first | rfl | (rw [hg1]; rfl) | simp_all) (uS Z (uS Z (uS Z (uR)))))
  ·refine sG Z (bG Z hg1) (vF Z fa25_1 Z) (sG Z (bG Z hg1) (vY Z ld9) ?_)
   refine sG Z (bG Z hg1) (v_sneq Z Z) (sG Z (bG Z hg) (vQ (bO Z hg1) Z) ?_)
   exact hcut _ (uH (by first | rfl | (rw [hg1]; rfl) | simp_all) (uS Z (uS Z (uS Z (uR)))))
  refine sV (vP (bO Z hg) Z) ?_
  exact hcut _ (uH (by first | rfl | (rw [hg]; rfl) | simp_all) (by repeat (first | exact uR | refine uS Z ?_)))
 refine sM Z (st_cut (k:=21) (d:=40) (v:=.bool (((t.kind != 3) || (!(kfind l t.name).isSome && (t.name != root))) || ((t.args.length:Int) != ((fmsOf l t.name).length:Nat)))) (fun hcut=>bool_want (b:=((t.kind != 3) || (!(kfind l t.name).isSome && (t.name != root)))) false (fun hg=>?_) (fun hg=>?_)) ?_)
 ·refine st_sk Z Z hg ?_
  iterate 6 refine st_sk rfl rfl hg ?_
  refine sV (vQ (bO Z hg) Z) ?_
  exact hcut _ uG
 ·refine sG Z (bG Z hg) (vF Z fa25_2 Z) (sG Z (bG Z hg) (vY Z ld23) ?_)
  refine sG Z (bG Z hg) (v_len Z Tryz.underlying23) (sG Z (bG Z hg) (vF Z fa54_2 Z) (sG Z (bG Z hg) (vY Z ld48) ?_))
  refine sG Z (bG Z hg) (v_len Z Tryz.underlying48) (sG Z (bG Z hg) (v_neq Z Z) (sV (vP (bO Z hg) Z) ?_))
  exact hcut _ uG
 refine sK [2,3,4,6,7,9,40] Z (cC Z (fun hb=>?_) (fun hb=>?_))
 ·have hb:badT l t=true:=hb
  rw [if_pos hb]
  refine cQ (sA Z (sA Z (sK [6,7] Z (cT (xR (xt_vw (vw_unstar (L:=[])) ?_))))))
  exact xt_rt Z ⟨Res.star [],Z,_,Z,Z,Tys.nil⟩ sbq
 ·have hb:badT l t=false:=hb
  have hb:¬ badT l t=true:=by rw [hb]; decide
  rw [if_neg hb]
  refine cK (xT (cS (cQ (sM Z (sV (v_seql Z Z) (sK [2,3,4,6,7,9,42] Z (cC Z (fun ha=>?_) (fun ha=>?_))))))))
  ·have ha:(a == root)=true:=ha
   rw [if_pos (eq_of_beq ha)]
   refine cQ (sA Z (sA Z (sK [6,7] Z (cT (xR (xt_vw (vw_unstar (L:=[])) ?_))))))
   exact xt_rt Z ⟨Res.star [],Z,_,Z,Z,Tys.nil⟩ sbq
  ·have ha:(a == root)=false:=ha
   rw [if_neg (by simpa using ha)]
   refine cK (xT (cS (cQ (sM Z (sV (v_not Z) (sK [2,3,4,6,7,44] Z (cC Z (fun hk=>?_) (fun hk=>?_))))))))
   ·rw [if_pos (by rw [Bool.not_eq_true'] at hk; exact hk)]
    refine cQ (sA Z (sA Z (sK [6,7] Z (cT (xR (xt_vw (vw_unstar (L:=[])) ?_))))))
    exact xt_rt Z ⟨Res.star [],Z,_,Z,Z,Tys.nil⟩ sbq
   ·have hk:(kfind l t.name).isSome=true:=by rw [Bool.not_eq_false'] at hk; exact hk
    rw [if_neg (by rw [hk]; decide)]
    refine cK (xT (cQ (sV (vF Z fa85_1 Z) (sV (vY Z ld22) ?_))))
    refine sV (vF Z fa25_1 Z) (sV (vY Z ld9) ?_)
    refine sM Z (st_cl Z Z en96 Z (Way_ct hsys t.name a) ?_)
    rintro u h' ⟨T0,rfl,w,rfl,hw1,rfl⟩
    simp only [lC,lN]
    refine sM Z (sV (v_extract Z Z) (sV (v_extract Z Z) (sA Z (sA Z (sK [3,4,6,7,10,11] Z (cS (cQ (sM Z (sV (v_neq Z Z) (sK [3,4,6,7,10,55] Z (cC Z (fun hwe=>?_) (fun hwe=>?_))))))))))))
    ·rw [if_pos (by simpa using hwe)]
     refine cQ (sA Z (sA Z (sK [6,7] Z (cT (xR (xt_vw (vw_unstar (L:=[])) ?_))))))
     exact xt_rt Z ⟨Res.star [],Z,_,Z,Z,Tys.nil⟩ sbq
    ·have hwe:wayE (ksys l) t.name a=0:=by simpa using hwe
     rw [if_neg (by simpa using hwe)]
     have hre:rightE (ksys l) [t.name,a]=0:=by
      unfold wayE at hwe
      split at hwe
      ·assumption
      ·exact hwe
     have hwy:=wayK_way hwe
     have hchn:=chain_way hR hwy hk
     have hwk:okL (rightE (ksys l) [t.name,a]) (shortR (ksys l) a t.name)=wayK l t.name a:=rfl
     rw [hwk]
     generalize wayK l t.name a=way at *
     refine cK (xT (cQ (sV (vF Z fa85_0 Z) (sV (vY Z ld83) ?_))))
     refine sM Z (sV (vF Z fa25_2 Z) (sV (vY Z ld23) ?_))
     refine st_ok (r:=NR w way) slq fun hokw=>?_
     have hnw:=nms_own hokw
     obtain ⟨wa,wc,rfl,_⟩:=id hnw
     refine st_cl Z Z en97 Z (along_ct hM hnw hchn hy) ?_
     rintro u h' ⟨T1,rfl,aa,ac,rfl,hT1⟩
     simp only [lC,lN]
     refine st_pv (pv_pack (L:=[T1,S])) ?_
     simp only [lC,lN]
     refine st_cl Z Z en64 Z (clone64_ct hT1) ?_
     rintro u h' ⟨T2,rfl,ca,cc,rfl,hT2⟩
     simp only [lC,lN]
     refine st_pv (pv_unpack (L:=[T1,S])) ?_
     simp only [lC,lN]
     refine st_pv (pv_pack (L:=[T1,T2])) ?_
     simp only [lC,lN]
     refine sA Z (sA Z (sK [6,7] Z (cT ?_)))
     exact xt_rt Z ⟨Res.star [T1,T2],Z,_,Z,Z,hT2.mono fun p u g=>rd_turn p u g⟩ sbq
end
end Go.Hr
namespace Go.Hr
open Go Go.RowKit Go.Ck Go.Proofs Go.Proofs.YtaohbfnepjjdgaaGreat Fx
attribute [local irreducible] Go.Ck.Sub St Cd Xt Nx DrL LsW
section
variable {S T N R:Res} {v:Value} {F:List Fm} {A:List Kt} {l:KS} {m:List (Bs×Value)} {mb:Nat} {s t:Kt} {va:Option Addr} {vc:Nat} {ts:List Kt} {rows:List (List Value)} {way:List Nm}
def InstK (l:KS) (t:Kt) (a:Nm):List Kt×Int:=if (kcheck l).1≠0 then ([],(kcheck l).1) else instK l t a
set_option maxRecDepth 100000 in
theorem Instance_ct (hv:ksysR S v l) (htn:Tiny l) {us:List Value} (ht:Ty S us t) (a:Nm) :
  CtN Tryz.prog 19 #[v,.agg us.toArray,sv a] [S] fun u T=>∃ w,u = .tuple #[w,.int .i64 (InstK l t a).2]∧w.oneCell'=true∧Tys (Res.star [T,S]) w (InstK l t a).1:=by
 obtain ⟨va,vc,rfl,_⟩:=id hv
 have h1:=kcheck_ct hv htn
 have ht2:=ht
 obtain ⟨y,rfl,hy⟩:=ht.out
 obtain ⟨ya,yc,rfl,_⟩:=id hy.form
 unfold InstK
 refine ct_of (n:=26) Tryz.func19 Z Z (len Z) fun hr w0=>?_
 refine cQ (st_bx Z Z fun b4=>?_)
 refine sA Z (sA Z (sK [0,2,4,6,7] Z (cQ (sM Z (st_cl Z Z en46 Z (h1) ?_)))))
 rintro u h' ⟨mb,m,rfl,rfl,hMn⟩
 unfold wV
 simp only [lC,lN]
 refine sM Z (sV (v_extract Z Z) (sV (v_extract Z Z) (sV (v_extract Z Z) (st_alc al85 fun b8=>?_))))
 refine st_stoW Z Z sz85 Z Z ?_
 refine sA Z (sA Z (sK [2,4,6,7,8,9] Z (cS (cQ (sM Z (sV (v_neq Z Z) (sK [2,4,6,7,8,9,18] Z (cC Z (fun hc=>?_) (fun hc=>?_)))))))))
 ·have hc:(kcheck l).1≠0:=by simpa using hc
  rw [if_pos hc]
  refine cQ (sM Z (sA Z (sA Z (sK [6,7] Z (cT (xR (xt_vw (vw_unstar (L:=[])) ?_)))))))
  exact xt_rt Z ⟨Res.star [],Z,_,Z,Z,Tys.nil⟩ sbq
 ·have hc:(kcheck l).1=0:=by simpa using hc
  obtain ⟨all,hK⟩:=kcheck_zero.1 hc
  have hM:=hMn hK.right.uniq
  have hin:=instance_ct (mb:=mb) hK.right hM hv ht2 a
  unfold wV tyC at hin
  rw [if_neg (by simpa using hc)]
  refine cK (xT (cQ (sV (v_ldn Z ld85 Z rds_pt) ?_)))
  refine sV (v_ldn Z ld25 Z rds_pt) ?_
  refine sM Z (st_cl Z Z en56 Z (hin) ?_)
  rintro u h' ⟨T,rfl,w,rfl,hw,hT⟩
  simp only [lC,lN]
  refine sV (v_extract Z Z) (sV (v_extract Z Z) (sA Z (sA Z (sK [6,7] Z (cT ?_)))))
  exact xt_rt Z ⟨T,Z,w,Z,hw,hT⟩ sbq
def SeenK (l:KS) (g:Kt) (o:Nm) (t:Kt):Kt×Int :=
 if (InstK l g o).2≠0 then (zeroT,(InstK l g o).2) else match kfind l o with
 | none=>(zeroT,5)
 | some x=>if rightK l x.formals t≠0 then (zeroT,rightK l x.formals t) else (t.subst x.formals (InstK l g o).1,0)
theorem Ty.zero:Ty S [.int .i64 0,sv [],.slice none 0 0,.bool false,.bool false] zeroT:=Ty.of (t:=zeroT) rfl Tys.nil
set_option maxHeartbeats 4000000 in
set_option maxRecDepth 100000 in
theorem Seen_ct (hv : ksysR S v l) (htn : Tiny l) {g : Kt} {gs us : List Value} (hg : Ty S gs g) (o : Nm) (ht : Ty S us t) (hd : t.depth ≤ 1000000) :
  CtN Tryz.prog 21 #[v,.agg gs.toArray,sv o,.agg us.toArray] [S] fun u T=>∃ ws:List Value,u = .tuple #[.agg ws.toArray,.int .i64 (SeenK l g o t).2]∧Ty (Res.star [T,S]) ws (SeenK l g o t).1:=by
 obtain ⟨va,vc,rfl,_⟩:=id hv
 have h1:=kcheck_ct hv htn
 have hg2:=hg
 have ht2:=ht
 obtain ⟨y,rfl,hy⟩:=hg.out
 obtain ⟨ya,yc,rfl,_⟩:=id hy.form
 obtain ⟨z,rfl,hz⟩:=ht.out
 obtain ⟨za,zc,rfl,_⟩:=id hz.form
 unfold SeenK
 refine ct_of (n:=64) Tryz.func21 Z Z (len Z) fun hr w0=>?_
 refine cQ (st_bx Z Z fun b5=>?_)
 refine st_bx Z Z fun b7=>?_
 refine st_alc al25 fun b8=>?_
 refine sA Z (sK [0,2,5,7,8,9] Z (cQ (sM Z (st_cl Z Z en46 Z (h1) ?_))))
 rintro u h' ⟨mb,m,rfl,rfl,hMn⟩
 unfold wV
 simp only [lC,lN]
 refine sM Z (sV (v_extract Z Z) (sV (v_extract Z Z) (sV (v_extract Z Z) (st_alc al85 fun b10=>?_))))
 refine st_stoW Z Z sz85 Z Z ?_
 refine sA Z (sA Z (sK [2,5,7,8,9,10,11] Z (cS (cQ (sM Z (sV (v_neq Z Z) (sK [2,5,7,8,9,10,11,24] Z (cC Z (fun hc=>?_) (fun hc=>?_)))))))))
 ·have hc:(kcheck l).1≠0:=by simpa using hc
  rw [show InstK l g o=([],(kcheck l).1) from if_pos hc]
  dsimp only
  rw [if_pos hc]
  refine cQ (sV (v_build (cells:=[.int .i64 0,sv [],.slice none 0 0,.bool false,.bool false]) Z (fun _=>by kernel_rfl)) ?_)
  refine sM Z (st_stoW Z Z sz25 Z Z ?_)
  refine sA Z (sK [8,9] Z (cT (xR (xt_vw (vw_unstar (L:=[])) ?_))))
  exact xt_retV (.cellN Z ld25 Z slq (.tmp Z .nil)) ⟨Res.star [],Z,_,Z,Ty.zero⟩ sbr
 ·have hc:(kcheck l).1=0:=by simpa using hc
  obtain ⟨all,hK⟩:=kcheck_zero.1 hc
  have hM:=hMn hK.right.uniq
  have hin:=instance_ct (mb:=mb) hK.right hM hv hg2 o
  obtain ⟨d0,dd,fv,pv,c2,fs,ii,hlk,hone,hrow⟩:=map_cls2 hM o
  obtain ⟨e0,ed,fv2,pv2,c22,fs2,ii2,hlk2,hrow2⟩:=map_cls hM o
  have hri:=fun x hx=>right_kct (mb:=mb) (c:=o) (x:=x) hK.head hM hv hx hz hd
  unfold wV tyC at hin hri
  rw [show InstK l g o=instK l g o from if_neg (by simpa using hc)]
  refine cK (xT (cQ (sV (v_ldn Z ld85 Z rds_pt) ?_)))
  refine sV (v_ldn Z ld25 Z rds_pt) ?_
  refine sM Z (st_cl Z Z en56 Z (hin) ?_)
  rintro u h' ⟨T,rfl,w,rfl,hw,hT⟩
  simp only [lC,lN]
  refine sM Z (sV (v_extract Z Z) (sV (v_extract Z Z) (sA Z (sA Z (sK [2,7,8,9,10,11,13] Z (cS (cQ (sM Z (sV (v_neq Z Z) (sK [2,7,8,9,10,11,13,35] Z (cC Z (fun hi=>?_) (fun hi=>?_))))))))))))
  ·have hi:(instK l g o).2≠0:=by simpa using hi
   rw [if_pos hi]
   refine cQ (sV (v_build (cells:=[.int .i64 0,sv [],.slice none 0 0,.bool false,.bool false]) Z (fun _=>by kernel_rfl)) ?_)
   refine sM Z (st_stoW Z Z sz25 Z Z ?_)
   refine sA Z (sK [8,9] Z (cT (xR ?_)))
   exact xt_retV (.cellN Z ld25 Z slq (.tmp Z .nil)) ⟨T,Z,_,Z,Ty.zero⟩ sbr
  ·have hi:(instK l g o).2=0:=by simpa using hi
   rw [if_neg (by simpa using hi)]
   refine cK (xT (cS (cQ (sV (vF Z fa85_0 Z) (sV (vY Z ld83) ?_)))))
   refine sM Z (sV (v_is hlk (v_slookup_ok Z Z mp83 inf54 slq)) ?_)
   refine sM Z (sV (v_extract Z Z) (sV (v_extract Z Z) (st_alc al54 fun b14=>?_)))
   refine st_stoW Z Z sz54 Z hone ?_
   refine sA Z (sK [2,7,8,9,10,13,15] Z (cQ (sM Z (sV (v_not Z) (sK [2,7,8,9,10,13,46] Z ?_)))))
   cases hx:kfind l o with
   | none =>
    simp only [Option.isSome_none]
    refine cd_true Z ?_
    refine cQ (sV (v_build (cells:=[.int .i64 0,sv [],.slice none 0 0,.bool false,.bool false]) Z (fun _=>by kernel_rfl)) ?_)
    refine st_stoW Z Z sz25 Z Z ?_
    refine sA Z (sK [8,9] Z (cT (xR ?_)))
    exact xt_retV (.cellN Z ld25 Z slq (.tmp Z .nil)) ⟨T,Z,_,Z,Ty.zero⟩ sbr
   | some x =>
    simp only [Option.isSome_some]
    rw [fmsOf_some hx] at hrow2
    obtain ⟨fa,fcap,rfl,_⟩:=id hrow2
    refine cd_false Z ?_
    refine cK (xT (cS (cQ (sV (v_ldn Z ld85 Z rds_pt) ?_))))
    refine sM Z (sV (v_ldn Z ld25 Z rds_pt) ?_)
    refine st_cl Z Z en58 Z (hri x hx) ?_
    rintro u h' ⟨rfl,rfl⟩
    simp only [lC,lN]
    refine sA Z (sK [2,7,8,9,10,13,16] Z (cQ (sM Z (sV (v_neq Z Z) (sK [2,7,8,9,10,13,16,53] Z (cC Z (fun he=>?_) (fun he=>?_)))))))
    ·have he:rightK l x.formals t≠0:=by simpa using he
     rw [if_pos he]
     refine cQ (sV (v_build (cells:=[.int .i64 0,sv [],.slice none 0 0,.bool false,.bool false]) Z (fun _=>by kernel_rfl)) ?_)
     refine sM Z (st_stoW Z Z sz25 Z Z ?_)
     refine sA Z (sK [8,9] Z (cT (xR ?_)))
     exact xt_retV (.cellN Z ld25 Z slq (.tmp Z .nil)) ⟨T,Z,_,Z,Ty.zero⟩ sbr
    ·rw [if_neg (by simpa using he)]
     refine cK (xT (cQ (sV (vF Z fa85_0 Z) (sV (vY Z ld83) ?_))))
     refine sM Z (st_pv (pv_pack (L:=[T,S])) ?_)
     simp only [lC,lN]
     refine sV (v_is hlk2 (v_slookup Z Z mp83 inf54 slq)) ?_
     refine sV (v_field1 Z Tryz.underlying54 Z (fun w=>by simp [isAgg,run_underlying Tryz.underlying48]) Z) ?_
     refine sM Z (sV (v_ldn Z ld25 Z rds_pt) ?_)
     refine st_cl rfl rfl en29 rfl ((subst_ct (S:=Res.star [T,S]) (hrow2.mono (rd_in (.there .here)) fun _ _ _ h=>h) hT (ht2.mono (rd_in (.there .here))))) ?_
     rintro u h' ⟨T2,rfl,ws,rfl,hT2⟩
     simp only [lC,lN]
     obtain ⟨q,rfl,hq⟩:=id hT2.out
     obtain ⟨qa,qc,rfl,_⟩:=id hq.form
     refine st_pv (pv_unpack (L:=[T,S])) ?_
     simp only [lC,lN]
     refine st_pv (pv_pack (L:=[T,T2])) ?_
     simp only [lC,lN]
     refine st_stoW Z Z sz25 Z Z ?_
     refine sA Z (sK [8,9] Z (cT ?_))
     exact xt_retV (.cellN Z ld25 Z slq (.tmp Z .nil)) ⟨Res.star [T,T2],Z,_,Z,hT2.mono fun p u g=>rd_turn p u g⟩ sbr
end
end Go.Hr
namespace Go.Hr
open Go Go.RowKit Go.Ck Go.Proofs Go.Proofs.YtaohbfnepjjdgaaGreat Fx
attribute [local irreducible] Go.Ck.Sub St Cd Xt Nx DrL LsW
section
variable {S T N R:Res} {v:Value} {F:List Fm} {A:List Kt} {l:KS} {m:List (Bs×Value)} {mb:Nat} {s t:Kt} {va:Option Addr} {vc:Nat} {ts:List Kt} {rows:List (List Value)} {way:List Nm}
def whyC (l:KS) (F:List Fm) (s t:Kt):Int×List Nm :=
 if ((s.kind == t.kind) && plainK s.kind)=true then (1,[])
 else if ((s.kind == 0) && t.void)=true then (2,[])
 else if ((plainK s.kind || plainK t.kind) || (t.kind == 0))=true then (13,[])
 else if (((s.kind == 0) || s.void) && !t.void)=true then (11,[])
 else if (s.sep && !t.sep)=true then (12,[])
 else if ((t.kind == 3) && (t.name == root))=true then (3,[])
 else if (((t.kind == 4) && (s.kind == 4)) && (s.name == t.name))=true then (4,[])
 else if (t.kind == 4)=true then (13,[])
 else if (instK l (ctK F s) t.name).2≠0 then (14,[])
 else if sames (instK l (ctK F s) t.name).1 t.args=true then (5,wayK l (ctK F s).name t.name) else (15,wayK l (ctK F s).name t.name)
set_option maxRecDepth 100000 in
theorem plain_ct {k:Int}:Reads Tryz.prog 109 #[.int .i64 k] [] (.bool (plainK k)):=by
 unfold plainK
 refine ct_of (n:=9) Tryz.func109 Z Z (len Z) fun hr w0=>?_
 refine cQ (sA Z (sN (nT (cQ (sM Z (sV (v_eql Z Z) (sM Z (st_cut (k:=6) (d:=8) (v:=.bool (k == 1 || k == 2)) (fun hcut=>bool_want (b:=(k == 1)) false (fun hg=>?_) (fun hg=>?_)) ?_))))))))
 ·refine st_sk Z Z hg ?_
  refine st_sk Z Z hg ?_
  refine sV (vQ (bO Z hg) Z) ?_
  exact hcut _ uG
 ·refine sG Z (bG Z hg) (vM Z) (sG Z (bG Z hg) (v_eql Z Z) (sV (vP (bO Z hg) Z) ?_))
  exact hcut _ uG
 refine sA Z (sK [2] Z (cT ?_))
 exact xt_rt Z ⟨Z,Z⟩ sbq
set_option maxHeartbeats 8000000 in
set_option maxRecDepth 100000 in
theorem why_ct (hR : Right (ksys l)) (hM : KMap S m l) (hv : ksysR S (.slice va l.length vc) l) (c : Nm) {us ws : List Value} (hs : Ty S us s) (ht : Ty S ws t) :
  CtN Tryz.prog 69 #[wV mb va l.length vc,sv c,.agg us.toArray,.agg ws.toArray] [S,mps mb m] fun u T=>∃ w,u = .agg #[.int .i64 (whyC l (fmsOf l c) s t).1,w]∧w.oneCell'=true∧nmsR (Res.star [T,S]) w (whyC l (fmsOf l c) s t).2:=by
 have hml:maxLen=9223372036854775807:=rfl
 have hsys:sysR S (.slice va l.length vc) (ksys l):=hv.sys
 obtain ⟨x,rfl,hx⟩:=hs.out
 obtain ⟨xa,xc,rfl,_⟩:=id hx.form
 obtain ⟨y,rfl,hy⟩:=ht.out
 obtain ⟨ya,yc,rfl,_⟩:=id hy.form
 have hcl := @classType_ct S l m mb s hM c va l.length vc xa s.args.length xc
 have hct:=ctK_ty (F:=fmsOf l c) hx
 obtain ⟨za,zn,zc,hcv⟩:∃ za zn zc,ctV s (.slice xa s.args.length xc) = .slice za zn zc:=by
  unfold ctV
  split
  ·exact ⟨_,_,_,Z⟩
  ·exact ⟨_,_,_,Z⟩
 rw [hcv] at hcl hct
 have hin:=instance_ct (mb:=mb) hR hM hv hct t.name
 unfold whyC
 unfold wV tyC at hin
 unfold tyC at hcl ⊢
 unfold wV
 refine ct_of (n:=146) Tryz.func69 Z Z (len Z) fun hr w0=>?_
 refine cQ (st_bx Z Z fun b4=>?_)
 refine st_bx Z Z fun b6=>?_
 refine st_bx Z Z fun b7=>?_
 refine st_alc al61 fun b8=>?_
 refine sK [1,4,6,7,8] Z (cQ (sA Z (sN (nT (cS (cB (cQ (sV (vF Z fa25_0 Z) (sV (vY Z ld3) ?_)))))))))
 refine sV (vF Z fa25_0 Z) (sV (vY Z ld3) ?_)
 refine sV (v_eql Z Z) (sM Z (st_cut (k:=11) (d:=27) (v:=.bool ((s.kind == t.kind) && plainK s.kind)) (fun hcut=>bool_want (b:=(s.kind == t.kind)) true (fun hg=>?_) (fun hg=>?_)) ?_))
 ·refine st_sk Z Z hg ?_
  iterate 3 refine st_sk rfl rfl hg ?_
  refine sV (vP (bO Z hg) Z) ?_
  exact hcut _ uG
 ·refine sG Z (bG Z hg) (vM Z) (sG Z (bG Z hg) (vF Z fa25_0 Z) (sG Z (bG Z hg) (vY Z ld3) ?_))
  refine st_clrg Z (bG Z hg) Z Z en109 Z (plain_ct) ?_
  refine sV (vQ (bO Z hg) Z) ?_
  exact hcut _ uG
 refine sA Z (sK [1,4,6,7,8,9,16] Z (cC Z (fun h0=>?_) (fun h0=>?_)))
 ·have h0:((s.kind == t.kind) && plainK s.kind)=true:=h0
  rw [if_pos h0]
  refine cQ (sV (v_build (cells:=[.int .i64 1,.slice none 0 0]) Z (fun _=>by kernel_rfl)) ?_)
  refine st_stoW Z Z sz61 Z Z ?_
  refine sK [8] Z (cT (xW (xR (xt_vw (vw_unstar (L:=[])) ?_))))
  exact xt_retV (.cellN Z ld61 Z slq .nil) ⟨Res.star [],Z,_,Z,Z,Row.nil⟩ sbr
 ·have h0:¬ ((s.kind == t.kind) && plainK s.kind)=true:=by rw [show ((s.kind == t.kind) && plainK s.kind)=false from h0]; decide
  rw [if_neg h0]
  refine cQ (sV (vF Z fa25_0 Z) (sV (vY Z ld3) ?_))
  refine sV (v_eql Z Z) (sM Z (st_cut (k:=7) (d:=36) (v:=.bool ((s.kind == 0) && t.void)) (fun hcut=>bool_want (b:=(s.kind == 0)) true (fun hg=>?_) (fun hg=>?_)) ?_))
  ·refine st_sk Z Z hg ?_
   refine st_sk Z Z hg ?_
   refine sV (vP (bO Z hg) Z) ?_
   exact hcut _ uG
  ·refine sG Z (bG Z hg) (vF Z fa25_3 Z) (sG Z (bG Z hg) (vY Z ld4) ?_)
   refine sV (vQ (bO Z hg) Z) ?_
   exact hcut _ uG
  refine sA Z (sK [1,4,6,7,8,9,29] Z (cC Z (fun h1=>?_) (fun h1=>?_)))
  ·have h1:((s.kind == 0) && t.void)=true:=h1
   rw [if_pos h1]
   refine cQ (sV (v_build (cells:=[.int .i64 2,.slice none 0 0]) Z (fun _=>by kernel_rfl)) ?_)
   refine st_stoW Z Z sz61 Z Z ?_
   refine sK [8] Z (cT (xW (xR (xt_vw (vw_unstar (L:=[])) ?_))))
   exact xt_retV (.cellN Z ld61 Z slq .nil) ⟨Res.star [],Z,_,Z,Z,Row.nil⟩ sbr
  ·have h1:¬ ((s.kind == 0) && t.void)=true:=by rw [show ((s.kind == 0) && t.void)=false from h1]; decide
   rw [if_neg h1]
   refine cQ (sM Z (sV (vF Z fa25_0 Z) (sV (vY Z ld3) ?_)))
   refine st_clr Z Z en109 Z (plain_ct) ?_
   refine sM Z (st_cut (k:=10) (d:=48) (v:=.bool (plainK s.kind || plainK t.kind)) (fun hcut=>bool_want (b:=(plainK s.kind)) false (fun hg=>?_) (fun hg=>?_)) ?_)
   ·refine st_sk Z Z hg ?_
    iterate 3 refine st_sk rfl rfl hg ?_
    refine sV (vQ (bO Z hg) Z) ?_
    exact hcut _ uG
   ·refine sG Z (bG Z hg) (vM Z) (sG Z (bG Z hg) (vF Z fa25_0 Z) (sG Z (bG Z hg) (vY Z ld3) ?_))
    refine st_clrg Z (bG Z hg) Z Z en109 Z (plain_ct) ?_
    refine sV (vP (bO Z hg) Z) ?_
    exact hcut _ uG
   refine sM Z (st_cut (k:=15) (d:=53) (v:=.bool ((plainK s.kind || plainK t.kind) || (t.kind == 0))) (fun hcut=>bool_want (b:=(plainK s.kind || plainK t.kind)) false (fun hg=>?_) (fun hg=>?_)) ?_)
   ·refine st_sk Z Z hg ?_
    iterate 2 refine st_sk rfl rfl hg ?_
    refine sV (vQ (bO Z hg) Z) ?_
    exact hcut _ uG
   ·refine sG Z (bG Z hg) (vF Z fa25_0 Z) (sG Z (bG Z hg) (vY Z ld3) ?_)
    refine sG Z (bG Z hg) (v_eql Z Z) (sV (vP (bO Z hg) Z) ?_)
    exact hcut _ uG
   refine sA Z (sK [1,4,6,7,8,38] Z (cC Z (fun h2=>?_) (fun h2=>?_)))
   ·have h2:((plainK s.kind || plainK t.kind) || (t.kind == 0))=true:=h2
    rw [if_pos h2]
    refine cQ (sV (v_build (cells:=[.int .i64 13,.slice none 0 0]) Z (fun _=>by kernel_rfl)) ?_)
    refine st_stoW Z Z sz61 Z Z ?_
    refine sK [8] Z (cT (xW (xR (xt_vw (vw_unstar (L:=[])) ?_))))
    exact xt_retV (.cellN Z ld61 Z slq .nil) ⟨Res.star [],Z,_,Z,Z,Row.nil⟩ sbr
   ·have h2:¬ ((plainK s.kind || plainK t.kind) || (t.kind == 0))=true:=by rw [show ((plainK s.kind || plainK t.kind) || (t.kind == 0))=false from h2]; decide
    rw [if_neg h2]
    refine cQ (sV (vF Z fa25_0 Z) (sV (vY Z ld3) ?_))
    refine sV (v_eql Z Z) (sM Z (st_cut (k:=7) (d:=62) (v:=.bool ((s.kind == 0) || s.void)) (fun hcut=>bool_want (b:=(s.kind == 0)) false (fun hg=>?_) (fun hg=>?_)) ?_))
    ·refine st_sk Z Z hg ?_
     refine st_sk Z Z hg ?_
     refine sV (vQ (bO Z hg) Z) ?_
     exact hcut _ uG
    ·refine sG Z (bG Z hg) (vF Z fa25_3 Z) (sG Z (bG Z hg) (vY Z ld4) ?_)
     refine sV (vP (bO Z hg) Z) ?_
     exact hcut _ uG
    refine sM Z (st_cut (k:=12) (d:=67) (v:=.bool (((s.kind == 0) || s.void) && !t.void)) (fun hcut=>bool_want (b:=((s.kind == 0) || s.void)) true (fun hg=>?_) (fun hg=>?_)) ?_)
    ·refine st_sk Z Z hg ?_
     iterate 2 refine st_sk rfl rfl hg ?_
     refine sV (vP (bO Z hg) Z) ?_
     exact hcut _ uG
    ·refine sG Z (bG Z hg) (vF Z fa25_3 Z) (sG Z (bG Z hg) (vY Z ld4) ?_)
     refine sG Z (bG Z hg) (v_not Z) (sV (vQ (bO Z hg) Z) ?_)
     exact hcut _ uG
    refine sA Z (sK [1,4,6,7,8,55] Z (cC Z (fun h3=>?_) (fun h3=>?_)))
    ·have h3:(((s.kind == 0) || s.void) && !t.void)=true:=h3
     rw [if_pos h3]
     refine cQ (sV (v_build (cells:=[.int .i64 11,.slice none 0 0]) Z (fun _=>by kernel_rfl)) ?_)
     refine st_stoW Z Z sz61 Z Z ?_
     refine sK [8] Z (cT (xW (xR (xt_vw (vw_unstar (L:=[])) ?_))))
     exact xt_retV (.cellN Z ld61 Z slq .nil) ⟨Res.star [],Z,_,Z,Z,Row.nil⟩ sbr
    ·have h3:¬ (((s.kind == 0) || s.void) && !t.void)=true:=by rw [show (((s.kind == 0) || s.void) && !t.void)=false from h3]; decide
     rw [if_neg h3]
     refine cQ (sV (vF Z fa25_4 Z) (sV (vY Z ld4) ?_))
     refine sM Z (st_cut (k:=7) (d:=76) (v:=.bool (s.sep && !t.sep)) (fun hcut=>bool_want (b:=(s.sep)) true (fun hg=>?_) (fun hg=>?_)) ?_)
     ·refine st_sk Z Z hg ?_
      iterate 2 refine st_sk rfl rfl hg ?_
      refine sV (vP (bO Z hg) Z) ?_
      exact hcut _ uG
     ·refine sG Z (bG Z hg) (vF Z fa25_4 Z) (sG Z (bG Z hg) (vY Z ld4) ?_)
      refine sG Z (bG Z hg) (v_not Z) (sV (vQ (bO Z hg) Z) ?_)
      exact hcut _ uG
     refine sA Z (sK [1,4,6,7,8,69] Z (cC Z (fun h4=>?_) (fun h4=>?_)))
     ·have h4:(s.sep && !t.sep)=true:=h4
      rw [if_pos h4]
      refine cQ (sV (v_build (cells:=[.int .i64 12,.slice none 0 0]) Z (fun _=>by kernel_rfl)) ?_)
      refine st_stoW Z Z sz61 Z Z ?_
      refine sK [8] Z (cT (xW (xR (xt_vw (vw_unstar (L:=[])) ?_))))
      exact xt_retV (.cellN Z ld61 Z slq .nil) ⟨Res.star [],Z,_,Z,Z,Row.nil⟩ sbr
     ·have h4:¬ (s.sep && !t.sep)=true:=by rw [show (s.sep && !t.sep)=false from h4]; decide
      rw [if_neg h4]
      refine cQ (sV (vF Z fa25_0 Z) (sV (vY Z ld3) ?_))
      refine sV (v_eql Z Z) (sM Z (st_cut (k:=8) (d:=86) (v:=.bool ((t.kind == 3) && (t.name == root))) (fun hcut=>bool_want (b:=(t.kind == 3)) true (fun hg=>?_) (fun hg=>?_)) ?_))
      ·refine st_sk Z Z hg ?_
       iterate 2 refine st_sk rfl rfl hg ?_
       refine sV (vP (bO Z hg) Z) ?_
       exact hcut _ uG
      ·refine sG Z (bG Z hg) (vF Z fa25_1 Z) (sG Z (bG Z hg) (vY Z ld9) ?_)
       refine sG Z (bG Z hg) (v_seql Z Z) (sV (vQ (bO Z hg) Z) ?_)
       exact hcut _ uG
      refine sA Z (sK [1,4,6,7,8,78] Z (cC Z (fun h5=>?_) (fun h5=>?_)))
      ·have h5:((t.kind == 3) && (t.name == root))=true:=h5
       rw [if_pos h5]
       refine cQ (sV (v_build (cells:=[.int .i64 3,.slice none 0 0]) Z (fun _=>by kernel_rfl)) ?_)
       refine st_stoW Z Z sz61 Z Z ?_
       refine sK [8] Z (cT (xW (xR (xt_vw (vw_unstar (L:=[])) ?_))))
       exact xt_retV (.cellN Z ld61 Z slq .nil) ⟨Res.star [],Z,_,Z,Z,Row.nil⟩ sbr
      ·have h5:¬ ((t.kind == 3) && (t.name == root))=true:=by rw [show ((t.kind == 3) && (t.name == root))=false from h5]; decide
       rw [if_neg h5]
       refine cQ (sV (vF Z fa25_0 Z) (sV (vY Z ld3) ?_))
       refine sV (v_eql Z Z) (sM Z (st_cut (k:=8) (d:=96) (v:=.bool ((t.kind == 4) && (s.kind == 4))) (fun hcut=>bool_want (b:=(t.kind == 4)) true (fun hg=>?_) (fun hg=>?_)) ?_))
       ·refine st_sk Z Z hg ?_
        iterate 2 refine st_sk rfl rfl hg ?_
        refine sV (vP (bO Z hg) Z) ?_
        exact hcut _ uG
       ·refine sG Z (bG Z hg) (vF Z fa25_0 Z) (sG Z (bG Z hg) (vY Z ld3) ?_)
        refine sG Z (bG Z hg) (v_eql Z Z) (sV (vQ (bO Z hg) Z) ?_)
        exact hcut _ uG
       refine sM Z (st_cut (k:=15) (d:=103) (v:=.bool (((t.kind == 4) && (s.kind == 4)) && (s.name == t.name))) (fun hcut=>bool_want (b:=((t.kind == 4) && (s.kind == 4))) true (fun hg=>?_) (fun hg=>?_)) ?_)
       ·refine st_sk Z Z hg ?_
        iterate 4 refine st_sk rfl rfl hg ?_
        refine sV (vP (bO Z hg) Z) ?_
        exact hcut _ uG
       ·refine sG Z (bG Z hg) (vF Z fa25_1 Z) (sG Z (bG Z hg) (vY Z ld9) ?_)
        refine sG Z (bG Z hg) (vF Z fa25_1 Z) (sG Z (bG Z hg) (vY Z ld9) ?_)
        refine sG Z (bG Z hg) (v_seql Z Z) (sV (vQ (bO Z hg) Z) ?_)
        exact hcut _ uG
       refine sA Z (sK [1,4,6,7,8,88] Z (cC Z (fun h6=>?_) (fun h6=>?_)))
       ·have h6:(((t.kind == 4) && (s.kind == 4)) && (s.name == t.name))=true:=h6
        rw [if_pos h6]
        refine cQ (sV (v_build (cells:=[.int .i64 4,.slice none 0 0]) Z (fun _=>by kernel_rfl)) ?_)
        refine st_stoW Z Z sz61 Z Z ?_
        refine sK [8] Z (cT (xW (xR (xt_vw (vw_unstar (L:=[])) ?_))))
        exact xt_retV (.cellN Z ld61 Z slq .nil) ⟨Res.star [],Z,_,Z,Z,Row.nil⟩ sbr
       ·have h6:¬ (((t.kind == 4) && (s.kind == 4)) && (s.name == t.name))=true:=by rw [show (((t.kind == 4) && (s.kind == 4)) && (s.name == t.name))=false from h6]; decide
        rw [if_neg h6]
        refine cQ (sV (vF Z fa25_0 Z) (sV (vY Z ld3) ?_))
        refine sV (v_eql Z Z) (sA Z (sK [1,4,6,7,8,105] Z (cC Z (fun h7=>?_) (fun h7=>?_))))
        ·have h7:(t.kind == 4)=true:=h7
         rw [if_pos h7]
         refine cQ (sV (v_build (cells:=[.int .i64 13,.slice none 0 0]) Z (fun _=>by kernel_rfl)) ?_)
         refine st_stoW Z Z sz61 Z Z ?_
         refine sK [8] Z (cT (xW (xR (xt_vw (vw_unstar (L:=[])) ?_))))
         exact xt_retV (.cellN Z ld61 Z slq .nil) ⟨Res.star [],Z,_,Z,Z,Row.nil⟩ sbr
        ·have h7:¬ (t.kind == 4)=true:=by rw [show (t.kind == 4)=false from h7]; decide
         rw [if_neg h7]
         refine cK (xB (xT (cQ ?_)))
         generalize ctK (fmsOf l c) s=ck at *
         refine sV (v_ldn Z ld85 Z rds_pt) ?_
         refine sM Z (sV (v_ldn Z ld25 Z rds_pt) ?_)
         refine st_clr Z Z en76 Z (hcl) ?_
         refine sM Z (sV (v_extract Z Z) (sV (v_extract Z Z) (st_alc al25 fun b10=>?_)))
         refine st_stoW Z Z sz25 Z Z ?_
         refine sA Z (sK [4,7,8,10] Z (cQ (sV (v_ldn Z ld85 Z rds_pt) ?_)))
         refine sV (v_ldn Z ld25 Z rds_pt) ?_
         refine sV (vF Z fa25_1 Z) (sV (vY Z ld9) ?_)
         refine st_cl Z Z en56 Z (hin) ?_
         rintro u h' ⟨T,rfl,w,rfl,hw,hT⟩
         simp only [lC,lN]
         refine sM Z (sV (v_extract Z Z) (sV (v_extract Z Z) (sA Z (sA Z (sK [4,7,8,10,12,13] Z (cS (cQ (sM Z (sV (v_neq Z Z) (sK [4,7,8,10,12,126] Z (cC Z (fun hi=>?_) (fun hi=>?_))))))))))))
         ·rw [if_pos (by simpa using hi)]
          refine cQ (sV (v_build (cells:=[.int .i64 14,.slice none 0 0]) Z (fun _=>by kernel_rfl)) ?_)
          refine st_stoW Z Z sz61 Z Z ?_
          refine sK [8] Z (cT (xR ?_))
          exact xt_retV (.cellN Z ld61 Z slq .nil) ⟨T,Z,_,Z,Z,Row.nil⟩ sbr
         ·rw [if_neg (by simpa using hi)]
          refine cK (xT (cQ (sV (vF Z fa85_1 Z) (sV (vY Z ld22) ?_))))
          refine sV (vF Z fa25_1 Z) (sV (vY Z ld9) ?_)
          refine sV (vF Z fa25_1 Z) (sV (vY Z ld9) ?_)
          refine st_cl Z Z en96 Z (Way_ct hsys ck.name t.name) ?_
          rintro u h' ⟨T0,rfl,w0,rfl,hw1,rfl⟩
          simp only [lC,lN]
          rw [show okL (rightE (ksys l) [ck.name,t.name]) (shortR (ksys l) t.name ck.name)=wayK l ck.name t.name from rfl]
          generalize wayK l ck.name t.name=way at *
          refine st_ok (r:=NR w0 way) slq fun hokw=>?_
          have hnw:=nms_own hokw
          obtain ⟨wya,wyc,rfl,_⟩:=id hnw
          refine sM Z (sV (v_extract Z Z) (sV (v_extract Z Z) (sA Z (sA Z (sK [7,8,12,14] Z (cS (cQ (sM Z (sV (vF Z fa25_2 Z) (sV (vY Z ld23) ?_))))))))))
          refine st_pv (pv_pack (L:=[T,S])) ?_
          simp only [lC,lN]
          refine st_clr Z Z en53 Z (equal_ct hT (hy.mono (rd_in (.there .here)))) ?_
          refine sK [8,14,141] Z (cC Z (fun he=>?_) (fun he=>?_))
          ·rw [if_pos he]
           refine cQ (sM Z (sV (v_build (cells:=[.int .i64 5,.slice wya way.length wyc]) Z (fun _=>by kernel_rfl)) ?_))
           refine st_stoW Z Z sz61 Z Z ?_
           refine sK [8] Z (cT (xR (xt_pv (pv_unpack (L:=[T,S])) ?_)))
           simp only [lC,lN]
           refine xt_pv (pv_pack (L:=[T,NR (.slice wya way.length wyc) way])) ?_
           simp only [lC,lN]
           exact xt_retV (.cellN Z ld61 Z slq .nil) ⟨Res.star [T,NR (.slice wya way.length wyc) way],Z,_,Z,Z,hnw.mono (fun p u g=>rd_in .here p u (rd_in (.there .here) p u g))⟩ sbr
          ·rw [if_neg (by rw [he]; decide)]
           refine cK (xT (cQ (sM Z (sV (v_build (cells:=[.int .i64 15,.slice wya way.length wyc]) Z (fun _=>by kernel_rfl)) ?_))))
           refine st_stoW Z Z sz61 Z Z ?_
           refine sK [8] Z (cT (xt_pv (pv_unpack (L:=[T,S])) ?_))
           simp only [lC,lN]
           refine xt_pv (pv_pack (L:=[T,NR (.slice wya way.length wyc) way])) ?_
           simp only [lC,lN]
           exact xt_retV (.cellN Z ld61 Z slq .nil) ⟨Res.star [T,NR (.slice wya way.length wyc) way],Z,_,Z,Z,hnw.mono (fun p u g=>rd_in .here p u (rd_in (.there .here) p u g))⟩ sbr
end
end Go.Hr
namespace Go.Hr
open Go Go.RowKit Go.Ck Go.Proofs Go.Proofs.YtaohbfnepjjdgaaGreat Fx
attribute [local irreducible] Go.Ck.Sub St Cd Xt Nx DrL LsW
section
variable {S T N R:Res} {v:Value} {F:List Fm} {A:List Kt} {l:KS} {m:List (Bs×Value)} {mb:Nat} {s t:Kt} {va:Option Addr} {vc:Nat} {ts:List Kt} {rows:List (List Value)} {way:List Nm}
theorem tys_two {b:Nat} {us ws:List Value} (hu:Ty S us s) (hw:Ty S ws t) (hok:∃ f,(VR (.slice (some ⟨b,0,none⟩) 2 2) 25 5 [us,ws]).ok f):Tys (Res.star [VR (.slice (some ⟨b,0,none⟩) 2 2) 25 5 [us,ws],S]) (.slice (some ⟨b,0,none⟩) 2 2) [s,t]:=
 ⟨row_vr hok rfl (rd_in .here) fun i us' x h1 h2=>by
  match i,h1,h2 with
  | 0,h1,h2=>cases h1; cases h2; exact hu.mono (rd_in (.there .here))
  | 1,h1,h2=>cases h1; cases h2; exact hw.mono (rd_in (.there .here)),by show 2 * 56≤reachBytes; decide⟩
set_option maxRecDepth 100000 in
theorem conforms_ct (hR:Right (ksys l)) (hM:KMap S m l) (hv:ksysR S (.slice va l.length vc) l) (c:Nm) {us ws:List Value} (hs:Ty S us s) (ht:Ty S ws t) :
  Reads Tryz.prog 67 #[wV mb va l.length vc,sv c,.agg us.toArray,.agg ws.toArray] [S,mps mb m] (.bool (decide ((whyC l (fmsOf l c) s t).1<11))):=by
 have hy:=why_ct (mb:=mb) hR hM hv c hs ht
 obtain ⟨x,rfl,hx⟩:=hs.out
 obtain ⟨xa,xc,rfl,_⟩:=id hx.form
 obtain ⟨y,rfl,hy2⟩:=ht.out
 obtain ⟨ya,yc,rfl,_⟩:=id hy2.form
 unfold wV tyC at hy
 unfold tyC wV
 refine ct_of (n:=16) Tryz.func67 Z Z (len Z) fun hr w0=>?_
 refine cQ (st_bx Z Z fun b4=>?_)
 refine st_bx Z Z fun b6=>?_
 refine st_bx Z Z fun b7=>?_
 refine sA Z (sK [1,4,6,7,8] Z (cQ (sV (v_ldn Z ld85 Z rds_pt) ?_)))
 refine sM Z (sV (v_ldn Z ld25 Z rds_pt) ?_)
 refine sV (v_ldn Z ld25 Z rds_pt) ?_
 refine st_cl Z Z en69 Z (hy) ?_
 rintro u h' ⟨T,rfl,w,rfl,_,_⟩
 simp only [lC,lN]
 refine sV (v_field1 (cs:=[.int .i64 (whyC l (fmsOf l c) s t).1,w]) Z Tryz.underlying61 Z (fun w=>by simp [isAgg,run_underlying Tryz.underlying3]) Z) ?_
 refine sV (v_lss Z Z) (sA Z (sK [8] Z (cT ?_)))
 exact xt_rt Z ⟨Z,Z⟩ sbq
theorem two_right {c:Nm} (h:askedE l c [s,t]=0):∃ all,KRight l all:=by
 obtain ⟨x,all,h⟩:=askedE_zero.1 h
 exact ⟨all,h.right⟩
set_option maxHeartbeats 4000000 in
set_option maxRecDepth 100000 in
theorem Conforms_ct (hv:ksysR S v l) (htn:Tiny l) (c:Nm) {us ws:List Value} (hs:Ty S us s) (ht:Ty S ws t) (hds:s.depth≤1000000) (hdt:t.depth≤1000000) :
  Ct Tryz.prog 33 #[v,sv c,.agg us.toArray,.agg ws.toArray] [S] fun u h'=>u = .tuple #[.bool ((askedE l c [s,t] == 0) && decide ((whyC l (fmsOf l c) s t).1<11)),.int .i64 (askedE l c [s,t])]∧h'=[S]:=by
 obtain ⟨va,vc,rfl,_⟩:=id hv
 have h1:=fun b hok=>kasked_ct (hv.mono (rd_in (.there .here))) htn c (tys_two (b:=b) hs ht hok) (fun s' hs'=>by
  rcases List.mem_cons.1 hs' with rfl | h
  ·exact hds
  ·simp at h; subst h; exact hdt)
 have hcf:=fun b mb m hM hR=>conforms_ct (S:=(Res.star [VR (.slice (some ⟨b,0,none⟩) 2 2) 25 5 [us,ws],S])) (l:=l) (m:=m) (mb:=mb) hR hM (hv.mono (rd_in (.there .here))) c (hs.mono (rd_in (.there .here))) (ht.mono (rd_in (.there .here)))
 obtain ⟨x,rfl,hx⟩:=hs.out
 obtain ⟨xa,xc,rfl,_⟩:=id hx.form
 obtain ⟨y,rfl,hy2⟩:=ht.out
 obtain ⟨ya,yc,rfl,_⟩:=id hy2.form
 unfold wV tyC at hcf
 refine ct_of (n:=31) Tryz.func33 Z Z (len Z) fun hr w0=>?_
 refine cQ (st_bx Z Z fun b6=>?_)
 refine st_bx Z Z fun b7=>?_
 refine sA Z (sA Z (sK [0,1,6,7,8,9] Z (cQ (sM Z (sM Z (sV (v_ldn Z ld25 Z rds_pt) ?_))))))
 refine sV (v_ldn Z ld25 Z rds_pt) ?_
 refine st_buildSlice (cells:=tyC s (.slice xa s.args.length xc)++tyC t (.slice ya t.args.length yc)) Z Tryz.underlying23 inf25 Z Z (by kernel_rfl) (ltn Z) fun b17=>?_
 refine st_pv (pv_of (b:=b17) (n:=2) (sz:=5) (E:=25) [tyC s (.slice xa s.args.length xc),tyC t (.slice ya t.args.length yc)] Z (by simp [tyC]) Z (by decide)) ?_
 simp only [lC,lN]
 refine st_ok (r:=VR (.slice (some ⟨b17,0,none⟩) 2 2) 25 5 [tyC s (.slice xa s.args.length xc),tyC t (.slice ya t.args.length yc)]) slq fun hok=>?_
 refine st_pv (pv_pack (L:=[VR (.slice (some ⟨b17,0,none⟩) 2 2) 25 5 [tyC s (.slice xa s.args.length xc),tyC t (.slice ya t.args.length yc)],S])) ?_
 simp only [lC,lN]
 refine st_cl Z Z en54 Z (h1 b17 hok) ?_
 rintro u h' ⟨mb,m,rfl,rfl,hM⟩
 unfold wV
 simp only [lC,lN]
 refine sM Z (sV (v_extract Z Z) (sV (v_extract Z Z) (st_alc al85 fun b10=>?_)))
 refine st_stoW Z Z sz85 Z Z ?_
 refine sA Z (sK [1,6,7,8,9,10,11] Z (cQ (sM Z (sV (v_eql Z Z) (sM Z (st_cut (k:=9) (d:=29) (v:=.bool ((askedE l c [s,t] == 0) && decide ((whyC l (fmsOf l c) s t).1<11))) (fun hcut=>bool_want (b:=(askedE l c [s,t] == 0)) true (fun hg=>?_) (fun hg=>?_)) ?_))))))
 ·refine st_sk Z Z hg ?_
  iterate 4 refine st_sk rfl rfl hg ?_
  refine sV (vP (bO Z hg) Z) ?_
  exact hcut _ uG
 ·have he:askedE l c [s,t]=0:=eq_of_beq hg
  obtain ⟨all,hK⟩:=two_right he
  have hcc:=hcf b17 mb m (hM he) hK.right
  refine sG Z (bG Z hg) (v_ldn Z ld85 Z rds_pt) ?_
  refine sG Z (bG Z hg) (vM Z) (sG Z (bG Z hg) (v_ldn Z ld25 Z rds_pt) ?_)
  refine sG Z (bG Z hg) (v_ldn Z ld25 Z rds_pt) ?_
  refine st_clrg Z (bG Z hg) Z Z en67 Z (hcc) ?_
  refine sV (vQ (bO Z hg) Z) ?_
  exact hcut _ uG
 refine sM Z (sA Z (sA Z (sK [8,9] Z (cT (xt_pv (pv_unpack (L:=[VR (.slice (some ⟨b17,0,none⟩) 2 2) 25 5 [tyC s (.slice xa s.args.length xc),tyC t (.slice ya t.args.length yc)],S])) ?_)))))
 simp only [lC,lN]
 exact xt_rt Z ⟨Z,Z⟩ sbq
def WhyK (l:KS) (c:Nm) (s t:Kt):(Int×List Nm)×Int:=if askedE l c [s,t]≠0 then ((0,[]),askedE l c [s,t]) else (whyC l (fmsOf l c) s t,0)
set_option maxHeartbeats 4000000 in
set_option maxRecDepth 100000 in
theorem Why_ct (hv:ksysR S v l) (htn:Tiny l) (c:Nm) {us ws:List Value} (hs:Ty S us s) (ht:Ty S ws t) (hds:s.depth≤1000000) (hdt:t.depth≤1000000) :
  CtN Tryz.prog 35 #[v,sv c,.agg us.toArray,.agg ws.toArray] [S] fun u T=>∃ w,u = .tuple #[.agg #[.int .i64 (WhyK l c s t).1.1,w],.int .i64 (WhyK l c s t).2]∧w.oneCell'=true∧nmsR (Res.star [T,S]) w (WhyK l c s t).1.2:=by
 obtain ⟨va,vc,rfl,_⟩:=id hv
 have h1:=fun b hok=>kasked_ct (hv.mono (rd_in (.there .here))) htn c (tys_two (b:=b) hs ht hok) (fun s' hs'=>by
  rcases List.mem_cons.1 hs' with rfl | h
  ·exact hds
  ·simp at h; subst h; exact hdt)
 have hwf:=fun b mb m hM hR=>why_ct (S:=(Res.star [VR (.slice (some ⟨b,0,none⟩) 2 2) 25 5 [us,ws],S])) (l:=l) (m:=m) (mb:=mb) hR hM (hv.mono (rd_in (.there .here))) c (hs.mono (rd_in (.there .here))) (ht.mono (rd_in (.there .here)))
 obtain ⟨x,rfl,hx⟩:=hs.out
 obtain ⟨xa,xc,rfl,_⟩:=id hx.form
 obtain ⟨y,rfl,hy2⟩:=ht.out
 obtain ⟨ya,yc,rfl,_⟩:=id hy2.form
 unfold wV tyC at hwf
 unfold WhyK
 refine ct_of (n:=30) Tryz.func35 Z Z (len Z) fun hr w0=>?_
 refine cQ (st_bx Z Z fun b6=>?_)
 refine st_bx Z Z fun b7=>?_
 refine st_alc al61 fun b8=>?_
 refine sA Z (sK [0,1,6,7,8,9] Z (cQ (sM Z (sM Z (sV (v_ldn Z ld25 Z rds_pt) ?_)))))
 refine sV (v_ldn Z ld25 Z rds_pt) ?_
 refine st_buildSlice (cells:=tyC s (.slice xa s.args.length xc)++tyC t (.slice ya t.args.length yc)) Z Tryz.underlying23 inf25 Z Z (by kernel_rfl) (ltn Z) fun b17=>?_
 refine st_pv (pv_of (b:=b17) (n:=2) (sz:=5) (E:=25) [tyC s (.slice xa s.args.length xc),tyC t (.slice ya t.args.length yc)] Z (by simp [tyC]) Z (by decide)) ?_
 simp only [lC,lN]
 refine st_ok (r:=VR (.slice (some ⟨b17,0,none⟩) 2 2) 25 5 [tyC s (.slice xa s.args.length xc),tyC t (.slice ya t.args.length yc)]) slq fun hok=>?_
 refine st_pv (pv_pack (L:=[VR (.slice (some ⟨b17,0,none⟩) 2 2) 25 5 [tyC s (.slice xa s.args.length xc),tyC t (.slice ya t.args.length yc)],S])) ?_
 simp only [lC,lN]
 refine st_cl Z Z en54 Z (h1 b17 hok) ?_
 rintro u h' ⟨mb,m,rfl,rfl,hM⟩
 unfold wV
 simp only [lC,lN]
 refine sM Z (sV (v_extract Z Z) (sV (v_extract Z Z) (st_alc al85 fun b10=>?_)))
 refine st_stoW Z Z sz85 Z Z ?_
 refine sA Z (sK [1,6,7,8,9,10,11] Z (cS (cQ (sM Z (sV (v_neq Z Z) (sK [1,6,7,8,9,10,11,22] Z (cC Z (fun he=>?_) (fun he=>?_))))))))
 ·rw [if_pos (by simpa using he)]
  refine cQ (sV (v_build (cells:=[.int .i64 0,.slice none 0 0]) Z (fun _=>by kernel_rfl)) ?_)
  refine sM Z (st_stoW Z Z sz61 Z Z ?_)
  refine sA Z (sK [8,9] Z (cT (xR (xt_pv (pv_unpack (L:=[VR (.slice (some ⟨b17,0,none⟩) 2 2) 25 5 [tyC s (.slice xa s.args.length xc),tyC t (.slice ya t.args.length yc)],S])) ?_))))
  simp only [lC,lN]
  exact xt_retV (.cellN Z ld61 Z slq (.tmp Z .nil)) ⟨VR (.slice (some ⟨b17,0,none⟩) 2 2) 25 5 [tyC s (.slice xa s.args.length xc),tyC t (.slice ya t.args.length yc)],Z,_,Z,Z,Row.nil⟩ sbr
 ·have he:askedE l c [s,t]=0:=by simpa using he
  rw [if_neg (by simpa using he)]
  obtain ⟨all,hK⟩:=two_right he
  have hcc:=hwf b17 mb m (hM he) hK.right
  refine cK (xT (cQ (sV (v_ldn Z ld85 Z rds_pt) ?_)))
  refine sM Z (sV (v_ldn Z ld25 Z rds_pt) ?_)
  refine sV (v_ldn Z ld25 Z rds_pt) ?_
  refine st_cl Z Z en69 Z (hcc) ?_
  rintro u h' ⟨T,rfl,w,rfl,hw,hT⟩
  simp only [lC,lN]
  refine st_stoW (vs:=[.int .i64 (whyC l (fmsOf l c) s t).1,w]) Z Z sz61 Z (by simp only [List.all_cons,List.all_nil,hw]; rfl) ?_
  refine sA Z (sK [8,9] Z (cT (xt_pv (pv_unpack (L:=[VR (.slice (some ⟨b17,0,none⟩) 2 2) 25 5 [tyC s (.slice xa s.args.length xc),tyC t (.slice ya t.args.length yc)],S])) ?_)))
  simp only [lC,lN]
  refine xt_pv (pv_pack (L:=[VR (.slice (some ⟨b17,0,none⟩) 2 2) 25 5 [tyC s (.slice xa s.args.length xc),tyC t (.slice ya t.args.length yc)],T])) ?_
  simp only [lC,lN]
  exact xt_retV (.cellN Z ld61 Z slq (.tmp Z .nil)) ⟨Res.star [VR (.slice (some ⟨b17,0,none⟩) 2 2) 25 5 [tyC s (.slice xa s.args.length xc),tyC t (.slice ya t.args.length yc)],T],Z,w,Z,hw,hT.mono fun p u g=>rd_turn p u g⟩ sbr
def chkW (l:KS) (c:Nm) (s t:Kt) (rule:Int) (rw:List Nm):Int :=
 if askedE l c [s,t]≠0 then askedE l c [s,t]
 else if rule≠(whyC l (fmsOf l c) s t).1 then 11
 else if (rule != 5 && rule != 15)=true then (if ((rw.length:Int) == 0)=true then 0 else 11)
 else if (wayC (ksys l) (ctK (fmsOf l c) s).name t.name rw == 0)=true then 0 else 11
set_option maxHeartbeats 4000000 in
set_option maxRecDepth 100000 in
theorem ChkWhy_ct (hv : ksysR S v l) (htn : Tiny l) (c : Nm) {us ws : List Value} (hs : Ty S us s) (ht : Ty S ws t) (hds : s.depth ≤ 1000000) (hdt : t.depth ≤ 1000000) {rule : Int} {rv : Value} {rn : List Nm} (hrw : nmsR S rv rn) (hrl : rn.length ≤ 1099511627776) :
  Ct Tryz.prog 40 #[v,sv c,.agg us.toArray,.agg ws.toArray,.agg #[.int .i64 rule,rv]] [S] fun u h'=>u = .int .i64 (chkW l c s t rule rn)∧h'=[S]:=by
 obtain ⟨va,vc,rfl,_⟩:=id hv
 have h1:=fun b hok=>kasked_ct (hv.mono (rd_in (.there .here))) htn c (tys_two (b:=b) hs ht hok) (fun s' hs'=>by
  rcases List.mem_cons.1 hs' with rfl | h
  ·exact hds
  ·simp at h; subst h; exact hdt)
 have hwf:=fun b mb m hM hR=>why_ct (S:=(Res.star [VR (.slice (some ⟨b,0,none⟩) 2 2) 25 5 [us,ws],S])) (l:=l) (m:=m) (mb:=mb) hR hM (hv.mono (rd_in (.there .here))) c (hs.mono (rd_in (.there .here))) (ht.mono (rd_in (.there .here)))
 obtain ⟨x,rfl,hx⟩:=hs.out
 obtain ⟨xa,xc,rfl,_⟩:=id hx.form
 obtain ⟨y,rfl,hy2⟩:=ht.out
 obtain ⟨ya,yc,rfl,_⟩:=id hy2.form
 have hcl:=fun Q mb m (hM:KMap Q m l) => @classType_ct Q l m mb s hM c va l.length vc xa s.args.length xc
 obtain ⟨za,zn,zc,hcv⟩:∃ za zn zc,ctV s (.slice xa s.args.length xc) = .slice za zn zc:=by
  unfold ctV
  split
  ·exact ⟨_,_,_,Z⟩
  ·exact ⟨_,_,_,Z⟩
 rw [hcv] at hcl
 have hcw:=CheckWay1_ct (l:=ksys l) hv.sys hrw hrl (ctK (fmsOf l c) s).name t.name
 obtain ⟨ra,rc,rfl,_⟩:=id hrw
 unfold wV tyC at hwf
 unfold tyC at hcl
 unfold chkW
 refine ct_of (n:=68) Tryz.func40 Z Z (len Z) fun hr w0=>?_
 refine cQ (st_bx Z Z fun b7=>?_)
 refine st_bx Z Z fun b8=>?_
 refine st_bx Z Z fun b9=>?_
 refine sA Z (sK [0,1,7,8,9,10] Z (cQ (sM Z (sM Z (sV (v_ldn Z ld25 Z rds_pt) ?_)))))
 refine sV (v_ldn Z ld25 Z rds_pt) ?_
 refine st_buildSlice (cells:=tyC s (.slice xa s.args.length xc)++tyC t (.slice ya t.args.length yc)) Z Tryz.underlying23 inf25 Z Z (by kernel_rfl) (ltn Z) fun b21=>?_
 refine st_pv (pv_of (b:=b21) (n:=2) (sz:=5) (E:=25) [tyC s (.slice xa s.args.length xc),tyC t (.slice ya t.args.length yc)] Z (by simp [tyC]) Z (by decide)) ?_
 simp only [lC,lN]
 refine st_ok (r:=VR (.slice (some ⟨b21,0,none⟩) 2 2) 25 5 [tyC s (.slice xa s.args.length xc),tyC t (.slice ya t.args.length yc)]) slq fun hok=>?_
 refine st_pv (pv_pack (L:=[VR (.slice (some ⟨b21,0,none⟩) 2 2) 25 5 [tyC s (.slice xa s.args.length xc),tyC t (.slice ya t.args.length yc)],S])) ?_
 simp only [lC,lN]
 refine st_cl Z Z en54 Z (h1 b21 hok) ?_
 rintro u h' ⟨mb,m,rfl,rfl,hM⟩
 unfold wV
 simp only [lC,lN]
 refine sM Z (sV (v_extract Z Z) (sV (v_extract Z Z) (st_alc al85 fun b11=>?_)))
 refine st_stoW Z Z sz85 Z Z ?_
 refine sA Z (sK [0,1,7,8,9,10,11,12] Z (cS (cQ (sM Z (sV (v_neq Z Z) (sK [0,1,7,8,9,10,11,12,26] Z (cC Z (fun he=>?_) (fun he=>?_))))))))
 ·rw [if_pos (by simpa using he)]
  refine cQ (sM Z (sA Z (sK [10] Z (cT (xR (xt_pv (pv_unpack (L:=[VR (.slice (some ⟨b21,0,none⟩) 2 2) 25 5 [tyC s (.slice xa s.args.length xc),tyC t (.slice ya t.args.length yc)],S])) ?_))))))
  simp only [lC,lN]
  exact xt_rt Z ⟨Z,Z⟩ sbq
 ·have he:askedE l c [s,t]=0:=by simpa using he
  rw [if_neg (by simpa using he)]
  obtain ⟨all,hK⟩:=two_right he
  have hcc:=hwf b21 mb m (hM he) hK.right
  have hcl:=hcl _ mb m (hM he)
  refine cK (xT (cQ (sV (v_ldn Z ld85 Z rds_pt) ?_)))
  refine sM Z (sV (v_ldn Z ld25 Z rds_pt) ?_)
  refine sV (v_ldn Z ld25 Z rds_pt) ?_
  refine st_cl Z Z en69 Z (hcc) ?_
  rintro u h' ⟨T,rfl,w,rfl,hw,hT⟩
  simp only [lC,lN]
  refine st_alc al61 fun b13=>?_
  refine st_stoW (vs:=[.int .i64 (whyC l (fmsOf l c) s t).1,w]) Z Z sz61 Z (by simp only [List.all_cons,List.all_nil,hw]; rfl) ?_
  refine sK [0,1,7,8,9,10,11,13] Z (cS (cQ (sV (vF Z fa61_0 Z) (sV (vY Z ld3) ?_))))
  refine sV (vF Z fa61_0 Z) (sV (vY Z ld3) ?_)
  refine sV (v_neq Z Z) (sK [0,1,7,8,9,10,11,37] Z (cC Z (fun h1=>?_) (fun h1=>?_)))
  ·rw [if_pos (by simpa using h1)]
   refine cQ (sA Z (sK [10] Z (cT (xR (xt_pv (pv_unpack (L:=[VR (.slice (some ⟨b21,0,none⟩) 2 2) 25 5 [tyC s (.slice xa s.args.length xc),tyC t (.slice ya t.args.length yc)],S])) ?_)))))
   simp only [lC,lN]
   exact xt_rt Z ⟨Z,Z⟩ sbq
  ·rw [if_neg (by simpa using h1)]
   refine cK (xT (cS (cQ (sV (vF Z fa61_0 Z) (sV (vY Z ld3) ?_)))))
   refine sV (v_neq Z Z) (sM Z (st_cut (k:=8) (d:=45) (v:=.bool (rule != 5 && rule != 15)) (fun hcut=>bool_want (b:=(rule != 5)) true (fun hg=>?_) (fun hg=>?_)) ?_))
   ·refine st_sk Z Z hg ?_
    iterate 2 refine st_sk rfl rfl hg ?_
    refine sV (vP (bO Z hg) Z) ?_
    exact hcut _ uG
   ·refine sG Z (bG Z hg) (vF Z fa61_0 Z) (sG Z (bG Z hg) (vY Z ld3) ?_)
    refine sG Z (bG Z hg) (v_neq Z Z) (sV (vQ (bO Z hg) Z) ?_)
    exact hcut _ uG
   refine sK [0,1,7,8,9,10,11,45] Z (cC Z (fun h2=>?_) (fun h2=>?_))
   ·have h2:(rule != 5 && rule != 15)=true:=h2
    rw [if_pos h2]
    refine cQ (sV (vF Z fa61_1 Z) (sV (vY Z ld50) ?_))
    refine sV (v_len Z Tryz.underlying50) (sV (v_eql Z Z) (st_clr Z Z en75 Z (unless_ct) ?_))
    refine sA Z (sK [10] Z (cT (xR (xt_pv (pv_unpack (L:=[VR (.slice (some ⟨b21,0,none⟩) 2 2) 25 5 [tyC s (.slice xa s.args.length xc),tyC t (.slice ya t.args.length yc)],S])) ?_))))
    simp only [lC,lN]
    exact xt_rt Z ⟨Z,Z⟩ sbq
   ·have h2:(rule != 5 && rule != 15)=false:=h2
    rw [if_neg (by rw [h2]; decide)]
    generalize ctK (fmsOf l c) s=ck at *
    refine cK (xT (cQ (sV (v_ldn Z ld85 Z rds_pt) ?_)))
    refine sM Z (sV (v_ldn Z ld25 Z rds_pt) ?_)
    refine st_clr Z Z en76 Z (hcl) ?_
    refine sM Z (sV (v_extract Z Z) (sV (v_extract Z Z) (st_alc al25 fun b14=>?_)))
    refine st_stoW Z Z sz25 Z Z ?_
    refine sA Z (sK [0,8,9,10,14] Z (cQ (sM Z (sV (vF Z fa25_1 Z) (sV (vY Z ld9) ?_)))))
    refine sV (vF Z fa25_1 Z) (sV (vY Z ld9) ?_)
    refine sV (vF Z fa61_1 Z) (sV (vY Z ld50) ?_)
    refine st_pv (pv_unpack (L:=[VR (.slice (some ⟨b21,0,none⟩) 2 2) 25 5 [tyC s (.slice xa s.args.length xc),tyC t (.slice ya t.args.length yc)],S])) ?_
    simp only [lC,lN]
    refine st_cl Z Z en77 Z (hcw) ?_
    rintro u h' ⟨rfl,rfl⟩
    simp only [lC,lN]
    refine sV (v_eql Z Z) (st_clr Z Z en75 Z (unless_ct) ?_)
    refine sA Z (sK [10] Z (cT ?_))
    exact xt_rt Z ⟨Z,Z⟩ sbq
end
end Go.Hr
