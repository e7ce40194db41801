/-
  Package kind: instances,walked. Conditions: what is read; right headers; no type of a parent has more than 200 parts.
  Package kind: the first error of a system. Conditions: what is read; no type of a parent is deeper than a million,none has more than 200 parts.
  Package kind: Check,asked,Right,Bound. Conditions: what is read; small types.
  Package kind: the steps of a way,an iterator. Conditions: what is read; each class of the way has the next one among its parents.
-/
import Derived.Test.YtaohbfnepjjdgaaGreatM13
import Derived.Test.YtaohbfnepjjdgaaGreatM7
set_option linter.unusedVariables false
set_option linter.unusedSimpArgs false
namespace Go.Hr
open Go Go.RowKit Go.Ck Go.Proofs Go.Proofs.YtaohbfnepjjdgaaGreat Fx
attribute [local irreducible] Go.Ck.Sub St Cd Xt Nx DrL LsW
section
variable {S T N R:Res} {v:Value} {F:List Fm} {A:List Kt} {l:KS} {m:List (Bs×Value)} {mb:Nat} {s t:Kt} {va:Option Addr} {vc:Nat} {ts:List Kt} {rows:List (List Value)}
set_option maxHeartbeats 8000000 in
set_option maxRecDepth 100000 in
theorem instances_ct (h : HRight l) (hM : KMap S m l) (hv : ksysR S (.slice va l.length vc) l) (hb : ∀ x ∈ l, ∀ p ∈ x.parents, ∀ a ∈ p.args, a.parts ≤ 200) :
  Ct Tryz.prog 83 #[wV mb va l.length vc] [mps mb m,S] fun u h'=>u = .tuple #[.int .i64 (tabsE (tabs l)).1,sv (tabsE (tabs l)).2]∧h'=[mps mb m,S]:=by
 have hml:maxLen=9223372036854775807:=rfl
 have hrb:reachBytes=140737488351232:=rfl
 have hR:=h.right
 have hre:rightE (ksys l) []=0:=rightE_zero.2 ⟨hR,by simp⟩
 have hsys:sysR S (.slice va l.length vc) (ksys l):=hv.sys
 obtain ⟨hTp,hmem⟩:=order_spec hR.acyc hR.uniq
 unfold wV tabs
 refine ct_of (n:=126) Tryz.func83 Z Z (len Z) fun hr w0=>?_
 refine cQ (st_bx Z Z fun b1=>?_)
 refine sA Z (sA Z (sK [1,2,3] Z (cd_scope (cQ (st_smakeMap (ltn Z) fun b24=>?_)))))
 refine sA Z (sK [1,2,3,4] Z (cQ (sV (vF Z fa85_1 Z) (sV (vY Z ld22) ?_))))
 refine st_cl Z Z en139 Z (Order_ct hsys) ?_
 rintro u h' ⟨T0,rfl,w,rfl,hw1,rfl⟩
 simp only [lC,lN]
 rw [hre,okL_eq rfl]
 refine st_ok (r:=NR w (order (ksys l))) slq fun hok=>?_
 have hnr:=nms_own hok
 obtain ⟨oa,oc,rfl,_⟩:=id hnr
 generalize order (ksys l)=ord at *
 refine sM Z (sV (v_extract Z Z) (sV (v_extract Z Z) (sA Z (sA Z (sK [1,2,3,4,5] Z (cQ (sA Z (sA Z (sN (nT (cS (cd_label (xT ?_)))))))))))))
 refine cS (cQ (sM rfl (sV (v_len rfl Tryz.underlying50) (sM rfl (sK [1,2,3,4,7,8,31,32,33] rfl (cB (cd_vw (vw_unstar (L:=[])) (cd_lq (σ := List (Bs×Value)×Res×List (Nm×Own)×Nat) (fun q=>[(1,.pointer (some ⟨b1,0,none⟩)),(4,.map (some b24)),(7,.int .i64 0),(8,sv []),(31,.slice oa ord.length oc),(32,.int .i64 ord.length),(33,.int .i64 (q.2.2.2:Nat))]) (fun q=>pt b1 (cl [.map (some mb),.slice va l.length vc] 85)::mps b24 q.1::q.2.1::NR (.slice oa ord.length oc) ord::mps mb m::S::hr) (fun q=>q.2.2.2≤ord.length∧tabGo l ord []=tabGo l (ord.drop q.2.2.2) q.2.2.1∧q.2.2.1.map (·.1)=ord.take q.2.2.2∧TabR S q.2.1 q.1 q.2.2.1∧∀ c o,alook q.2.2.1 c=some o→Sm o) (fun q=>ord.length - q.2.2.2) ([],Res.star [],[],0) ⟨Nat.zero_le _,rfl,rfl,TabR.nil,fun c o h=>by cases h⟩ ?_))))))))
 rintro ⟨M,T,all,i⟩ ⟨hi,hta,hnm,hT,hS⟩
 simp only at hi hta hnm hT hS
 dsimp only
 refine cQ (sV (v_lss Z Z) (sN (nT (cS (cC Z (fun hd=>?_) (fun hd=>?_))))))
 ·have hlt:i<ord.length:=by simpa using hd
  obtain ⟨bo,oo,cap2,u,e1,hro,hX⟩:=Row.at1 hnr (List.getElem?_eq_getElem hlt)
  cases e1
  have hX:[u]=[sv ord[i]]:=hX
  have hcm:ord[i]∈ord:=List.getElem_mem hlt
  have hmid:=Tp.mid (a:=ord.take i) (c:=ord[i]) (t:=ord.drop (i+1)) (by rw [← List.drop_eq_getElem_cons hlt,List.take_append_drop]; exact hTp)
  have htk:ord.take (i+1)=ord.take i++[ord[i]]:=by rw [List.take_add_one,List.getElem?_eq_getElem hlt]; rfl
  rw [List.drop_eq_getElem_cons hlt] at hta
  generalize ord[i]=c at hX hcm hmid htk hta
  cases hX
  obtain ⟨x,hx⟩:=Option.isSome_iff_exists.1 (by rw [kfind_isC]; exact isC_iff.2 ((hmem c).1 hcm))
  obtain ⟨hxn,hxl⟩:=kfind_some hx
  rw [tabGo,hx] at hta
  simp only [] at hta
  obtain ⟨us,hlk,hcx⟩:=(hM c).2 x hx
  obtain ⟨d,ff,pv,c2,ffa,ffc,i2,rfl,hone,hrow,hrowp⟩:=hcx
  subst hxn
  obtain ⟨fa,fcap,rfl,_⟩:=id hrow
  obtain ⟨pa,pcap,rfl,hplc,hpcm,_⟩:=id hrowp
  have hpar:=kpar hR hx
  have hbx:=hb x hxl
  generalize htg:ownGo l all (pairs l x) (own0 x)=TG at hta
  refine cK (xT (cS (cB (cQ (sV (vI (k:=i) Z Z sl50 Z hlt Z) (sV (vY Z ld9) ?_))))))
  refine sA Z (sK [1,4,7,8,10,31,32,33] Z (cQ (sV (vF Z fa85_0 Z) (sV (vY Z ld83) ?_))))
  refine sM Z (sV (v_is (show (slook m x.name).getD cls0 = .agg ([sv x.name,d,.slice fa x.formals.length fcap,.slice pa x.parents.length pcap,c2,.slice ffa x.feats ffc,i2]:List Value).toArray by rw [hlk]; rfl) (v_slookup Z Z mp83 inf54 slq)) ?_)
  refine st_alc al54 fun b11=>?_
  refine st_stoW Z Z sz54 Z hone ?_
  refine sK [1,4,7,8,10,11,31,32,33] Z (cQ (st_smakeMap (ltn Z) fun b41=>?_))
  refine sM Z (sV (v_ldn Z ld54 Z rds_pt) ?_)
  refine st_cl Z Z en140 Z (own140_ct hrow (h.fm_len hxl)) ?_
  rintro u h' ⟨T1,rfl,a1,c1,rfl,hT1⟩
  simp only [lC,lN]
  refine st_sinsert Z Z Z mp141 slq ?_
  refine sM Z (sA Z (sK [1,4,7,8,10,11,12,31,32,33] Z (cQ (sM Z (sM Z (sM Z (st_smapUpdate Z Z Z mp183 slq ?_)))))))
  refine sK [1,4,7,8,10,11,12,31,32,33] Z (cQ (sV (vF Z fa54_3 Z) (sV (vY Z ld49) ?_)))
  refine sV (v_len Z Tryz.underlying49) (sM Z (sK [1,4,7,8,10,12,31,32,33,50,51,52] Z (cB (cd_pv (pv_pack (L:=[T,T1])) ?_))))
  simp only [lC,lN]
  refine cd_lq (σ := List (Bs×Value)×Res×Own×Nat) (fun q=>[(1,.pointer (some ⟨b1,0,none⟩)),(4,.map (some b24)),(7,.int .i64 0),(8,sv []),(10,sv x.name),(12,.map (some b41)),(31,.slice (some ⟨bo,oo,none⟩) ord.length oc),(32,.int .i64 ord.length),(33,.int .i64 (i:Nat)),(50,.slice pa x.parents.length pcap),(51,.int .i64 x.parents.length),(52,.int .i64 (q.2.2.2:Nat))]) (fun q=>pt b1 (cl [.map (some mb),.slice va l.length vc] 85)::mps b24 (supd M x.name (.map (some b41)))::mps b41 q.1::q.2.1::NR (.slice (some ⟨bo,oo,none⟩) ord.length oc) ord::mps mb m::S::hr) (fun q=>q.2.2.2≤x.parents.length∧TG=ownGo l all (prs l (x.parents.drop q.2.2.2)) q.2.2.1∧OwnR (Res.star [q.2.1,S]) q.1 q.2.2.1∧TabR S q.2.1 M all∧Sm q.2.2.1) (fun q=>x.parents.length - q.2.2.2) (supd [] x.name (.slice a1 x.formals.length c1),Res.star [T,T1],own0 x,0) ⟨Nat.zero_le _,htg.symm,OwnR.nil.upd (hT1.mono fun p u g=>rd_in .here p u (rd_in (.there .here) p u g)),hT.up .here,Sm.own0 (h.fm_len hxl)⟩ ?_
  clear hT hT1 htg
  rintro ⟨mo,T,o,j⟩ ⟨hj,htg,hO,hT,hSo⟩
  simp only at hj htg hO hT hSo
  dsimp only
  refine cQ (sV (v_lss Z Z) (sN (nT (cS (cC Z (fun hdj=>?_) (fun hdj=>?_))))))
  ·have hltj:j<x.parents.length:=by simpa using hdj
   have hmp:=List.getElem_mem hltj
   obtain ⟨bq,oq,capq,us,e2,hus,hrd,hXp⟩:=Row.at hrowp (List.getElem?_eq_getElem hltj)
   cases e2
   rw [List.drop_eq_getElem_cons hltj] at htg
   generalize x.parents[j]=p at hmp hXp htg
   obtain ⟨y,p1,p2,p3,p4,rfl,hone2,hy⟩:=hXp
   obtain ⟨ya,yc,rfl,_⟩:=id hy.form
   have hpn:p.name∈par (ksys l) x.name:=by rw [hpar]; exact List.mem_map_of_mem hmp
   have hre2:rightE (ksys l) [p.name]=0:=rightE_zero.2 ⟨hR,fun n hn=>by simp at hn; subst hn; exact par_isC hpn⟩
   have hpa:p.name∈all.map (·.1):=by rw [hnm]; exact hmid.2 _ hpn
   have hpx:¬ p.name=x.name:=fun e=>hmid.1 (by rw [← hnm,← e]; exact hpa)
   obtain ⟨op,hop⟩:∃ op,alook all p.name=some op:=by
    cases ha:alook all p.name with
    | none=>exact absurd hpa (alook_none.1 ha)
    | some op=>exact ⟨op,rfl⟩
   have hsp:=fun a=>seenT_parts (l:=l) (a:=a) hS (hbx p hmp)
   have hst:∀ a,seenT l all p a=((op a).getD []).map (Kt.subst (fmsOf l p.name) p.args):=fun a=>by unfold seenT; rw [hop]; rfl
   obtain ⟨q0,q1,qf,q2,q3,q4,q5,hlk3,hrow3⟩:=map_cls hM p.name
   obtain ⟨qa,qcap,rfl,_⟩:=id hrow3
   rw [show prs l (p::x.parents.drop (j+1))=((above (ksys l) p.name).map fun a=>(p,a))++prs l (x.parents.drop (j+1)) by simp [prs]] at htg
   refine cK (xT (cS (cB (cQ (sV (vI (k:=j) Z Z sl49 Z hltj Z) (sV (v_ldn Z ld79 Z hrd) ?_))))))
   refine st_alc al79 fun b14=>?_
   refine st_stoW Z Z sz79 Z hone2 ?_
   refine sK [1,4,7,8,10,12,14,31,32,33,50,51,52] Z (cQ (sV (vF Z fa85_1 Z) (sV (vY Z ld22) ?_)))
   refine sV (vF Z fa79_0 Z) (sV (vY Z ld9) ?_)
   refine st_cl Z Z en103 Z (Above_ct hsys p.name) ?_
   rintro u h' ⟨T2,rfl,w2,rfl,hw2,rfl⟩
   simp only [lC,lN]
   rw [hre2,okL_eq rfl]
   refine st_ok (r:=NR w2 (above (ksys l) p.name)) slq fun hok2=>?_
   have hur:=nms_own hok2
   obtain ⟨ua,uc,rfl,_⟩:=id hur
   generalize above (ksys l) p.name=up at *
   refine sM Z (sV (v_extract Z Z) (sV (v_extract Z Z) (sA Z (sA Z (sK [1,4,7,8,10,12,14,15,31,32,33,50,51,52] Z (cQ (sM Z (sV (v_len Z Tryz.underlying50) (sM Z (sK [1,4,7,8,10,12,14,31,32,33,50,51,52,64,65,66] Z (cB (cd_lq (σ := List (Bs×Value)×Res×Own×Nat) (fun q=>[(1,.pointer (some ⟨b1,0,none⟩)),(4,.map (some b24)),(7,.int .i64 0),(8,sv []),(10,sv x.name),(12,.map (some b41)),(14,.pointer (some ⟨b14,0,none⟩)),(31,.slice (some ⟨bo,oo,none⟩) ord.length oc),(32,.int .i64 ord.length),(33,.int .i64 (i:Nat)),(50,.slice (some ⟨bq,oq,none⟩) x.parents.length pcap),(51,.int .i64 x.parents.length),(52,.int .i64 (j:Nat)),(64,.slice ua up.length uc),(65,.int .i64 up.length),(66,.int .i64 (q.2.2.2:Nat))]) (fun q=>pt b1 (cl [.map (some mb),.slice va l.length vc] 85)::pt b14 (cl [sv p.name,.slice ya p.args.length yc,p1,p2,p3,p4] 79)::mps b24 (supd M x.name (.map (some b41)))::mps b41 q.1::q.2.1::NR (.slice ua up.length uc) up::NR (.slice (some ⟨bo,oo,none⟩) ord.length oc) ord::mps mb m::S::hr) (fun q=>q.2.2.2≤up.length∧TG=ownGo l all (((up.drop q.2.2.2).map fun a=>(p,a))++prs l (x.parents.drop (j+1))) q.2.2.1∧OwnR (Res.star [q.2.1,S]) q.1 q.2.2.1∧TabR S q.2.1 M all∧Sm q.2.2.1) (fun q=>up.length - q.2.2.2) (mo,T,o,0) ⟨Nat.zero_le _,htg,hO,hT,hSo⟩ ?_))))))))))))
   clear htg hO hT hSo
   rintro ⟨mo,T,o,k⟩ ⟨hk,htg,hO,hT,hSo⟩
   simp only at hk htg hO hT hSo
   dsimp only
   refine cQ (sV (v_lss Z Z) (sN (nT (cS (cC Z (fun hdk=>?_) (fun hdk=>?_))))))
   ·have hltk:k<up.length:=by simpa using hdk
    obtain ⟨bu,ou,capu,u,e3,hru,hXu⟩:=Row.at1 hur (List.getElem?_eq_getElem hltk)
    cases e3
    have hXu:[u]=[sv up[k]]:=hXu
    rw [List.drop_eq_getElem_cons hltk,List.map_cons,List.cons_append] at htg
    generalize up[k]=a at hXu htg
    cases hXu
    rw [ownGo_step] at htg
    have hsp:=hsp a
    rw [hst a] at htg hsp
    obtain ⟨bp,mp,hlp,hin,hwp⟩:=hT p.name op hop
    obtain ⟨vt,hgv,hvt⟩:=hwp.get a
    obtain ⟨tya,tyc,rfl,_⟩:=id hvt.form
    obtain ⟨wv,hgw,hwas⟩:=hO.get2 a
    generalize hTB:(op a).getD []=tb at *
    refine cK (xT (cS (cB (cQ (sV (vI (k:=k) Z Z sl50 Z hltk Z) (sV (vY Z ld9) ?_))))))
    refine sA Z (sK [1,4,7,8,10,12,14,18,31,32,33,50,51,52,64,65,66] Z (cQ (sA Z (sN (nT (cS (cQ (sM Z (sV (vF Z fa79_0 Z) (sV (vY Z ld9) ?_))))))))))
    refine sV (v_is (show (slook (supd M x.name (.map (some b41))) p.name).getD (.map none) = .map (some bp) by rw [slook_upd,if_neg hpx,hlp]; rfl) (v_slookup Z Z mp183 inf141 slq)) ?_
    refine sM Z (sV (v_is hgv (v_slookupI Z Z mp141 inf23 hin (show Sel _ T _ from slq))) ?_)
    refine sV (v_len Z Tryz.underlying23) (sM Z (sK [1,4,7,8,10,12,14,18,19,31,32,33,50,51,52,64,65,66,75,76,77] Z (cB (cd_vw (vw_nil 25 5) (cd_vw (vw_unstar (L:=[])) (cd_pv (pv_pack (L:=[T,S])) ?_))))))
    simp only [lC,lN]
    refine cd_lq (σ := Value×List (List Value)×Res×Nat) (fun q=>[(1,.pointer (some ⟨b1,0,none⟩)),(4,.map (some b24)),(7,.int .i64 0),(8,sv []),(10,sv x.name),(12,.map (some b41)),(14,.pointer (some ⟨b14,0,none⟩)),(18,sv a),(19,q.1),(31,.slice (some ⟨bo,oo,none⟩) ord.length oc),(32,.int .i64 ord.length),(33,.int .i64 (i:Nat)),(50,.slice (some ⟨bq,oq,none⟩) x.parents.length pcap),(51,.int .i64 x.parents.length),(52,.int .i64 (j:Nat)),(64,.slice (some ⟨bu,ou,none⟩) up.length uc),(65,.int .i64 up.length),(66,.int .i64 (k:Nat)),(75,.slice tya tb.length tyc),(76,.int .i64 tb.length),(77,.int .i64 (q.2.2.2:Nat))]) (fun q=>VR q.1 25 5 q.2.1::q.2.2.1::Res.star [T,S]::pt b1 (cl [.map (some mb),.slice va l.length vc] 85)::pt b14 (cl [sv p.name,.slice ya p.args.length yc,p1,p2,p3,p4] 79)::mps b24 (supd M x.name (.map (some b41)))::mps b41 mo::NR (.slice (some ⟨bu,ou,none⟩) up.length uc) up::NR (.slice (some ⟨bo,oo,none⟩) ord.length oc) ord::mps mb m::hr) (fun q=>q.2.2.2≤tb.length∧q.1.oneCell'=true∧TyRows (Res.star [q.2.2.1,Res.star [T,S]]) q.2.1 ((tb.take q.2.2.2).map (Kt.subst (fmsOf l p.name) p.args))) (fun q=>tb.length - q.2.2.2) (.slice none 0 0,[],Res.star [],0) ⟨Nat.zero_le _,rfl,TyRows.nil⟩ ?_
    rintro ⟨wq,rows,Tn,q⟩ ⟨hq,hwq,hro2⟩
    simp only at hq hwq hro2
    dsimp only
    have hlen:=partss_len (tb.map (Kt.subst (fmsOf l p.name) p.args))
    rw [List.length_map] at hlen
    have hrl:rows.length=q:=by rw [hro2.1]; simp; omega
    refine cQ (sV (v_lss Z Z) (sN (nT (cS (cC Z (fun hdq=>?_) (fun hdq=>?_))))))
    ·have hltq:q<tb.length:=by simpa using hdq
     obtain ⟨bt,ot,capt,us,e4,hus,hrdt,htt⟩:=hvt.at (List.getElem?_eq_getElem hltq)
     cases e4
     have hsn:(tb.take (q+1)).map (Kt.subst (fmsOf l p.name) p.args)=(tb.take q).map (Kt.subst (fmsOf l p.name) p.args)++[(tb[q]).subst (fmsOf l p.name) p.args]:=by rw [List.take_add_one,List.getElem?_eq_getElem hltq,List.map_append]; rfl
     generalize tb[q]=t at htt hsn
     have hones:=htt.ones
     have htt2:=htt
     obtain ⟨z,rfl,hz⟩:=htt.out
     obtain ⟨za,zc,rfl,_⟩:=id hz.form
     have hsc:=subst_ct (hrow3.mono (rd_in (.there .here)) fun _ _ _ h=>h) (hy.mono (rd_in (.there .here))) htt2
     unfold tyC at hrdt hones hsc
     refine cK (xT (cS (cB (cQ (sV (vI (k:=q) Z Z sl23 Z hltq Z) (sV (v_ldn Z ld25 Z hrdt) ?_))))))
     refine st_alc al25 fun b21=>?_
     refine st_stoW Z Z sz25 Z hones ?_
     refine sK [1,4,7,8,10,12,14,18,19,21,31,32,33,50,51,52,64,65,66,75,76,77] Z (cR (sM Z (sV (vF Z fa85_0 Z) (sV (vY Z ld83) ?_))))
     refine sV (vF Z fa79_0 Z) (sV (vY Z ld9) ?_)
     refine sV (v_is hlk3 (v_slookup Z Z mp83 inf54 slq)) ?_
     refine sV (v_field1 Z Tryz.underlying54 Z (fun w=>by simp [isAgg,run_underlying Tryz.underlying48]) Z) ?_
     refine sV (vF Z fa79_1 Z) (sV (vY Z ld23) ?_)
     refine sV (v_ldn Z ld25 Z rds_pt) ?_
     refine st_cl Z Z en29 Z (hsc) ?_
     rintro u h' ⟨T2,rfl,us2,rfl,hT2⟩
     simp only [lC,lN]
     obtain ⟨y2,rfl,hy2⟩:=id hT2.out
     obtain ⟨wa,wc,rfl,_⟩:=id hy2.form
     refine st_buildSlice (cells:=tyC (t.subst (fmsOf l p.name) p.args) (.slice wa (t.subst (fmsOf l p.name) p.args).args.length wc)) rfl Tryz.underlying23 inf25 rfl rfl (by kernel_rfl) (ltn rfl) fun b92=>?_
     refine st_app [tyC (t.subst (fmsOf l p.name) p.args) (.slice wa (t.subst (fmsOf l p.name) p.args).args.length wc)] rfl rfl Tryz.underlying23 inf25 rfl (by decide) (show Sel _ (VR wq 25 5 rows) _ from slq) (by simp [tyC]) rfl (fun j u2 hu2=>at_here (rd_cl (by simpa [tyC] using hu2))) (by simp [tyC,Value.oneCell']) (by rw [hrl]; omega) (by rw [hrl]; omega) (ltn rfl) fun w3 hw3 _=>?_
     refine sA Z (sN (nK [1,4,7,8,10,12,14,18,19,31,32,33,50,51,52,64,65,66,75,76,77] Z (nx_xt (xB (xT (cR (sV (v_add Z Z (by unfold I64 at *; omega)) (sM Z (sN (nK [1,4,7,8,10,12,14,18,19,31,32,33,50,51,52,64,65,66,75,76,77] Z (nx_xt (xt_pv (pv_pack (L:=[Tn,T2])) ?_))))))))))))
     simp only [lC,lN]
     refine xt_aq (w3,rows++[tyC (t.subst (fmsOf l p.name) p.args) (.slice wa (t.subst (fmsOf l p.name) p.args).args.length wc)],Res.star [Tn,T2],q+1) ⟨hltq,hw3,by rw [hsn]; exact (hro2.mono fun p u g=>rd_up p u .here g).snoc (hT2.mono fun p u g=>rd_up p u (.there .here) g)⟩ (Nat.sub_lt_sub_left hltq (Nat.lt_succ_self q))
    ·have hql:q=tb.length:=by
      have:¬ q<tb.length:=by simpa using hdq
      omega
     rw [hql,List.take_length] at hro2
     refine cd_exit (xE (xE (xY (xT (cQ (sM Z (sM Z (st_ok (r:=VR wq 25 5 rows) slq fun hok3=>?_))))))))
     refine st_pv (pv_pack (L:=[VR wq 25 5 rows,Tn])) ?_
     simp only [lC,lN]
     refine st_pv (pv_pack (L:=[Res.star [VR wq 25 5 rows,Tn],Res.star [T,S]])) ?_
     simp only [lC,lN]
     have hseen:Tys (Res.star [Res.star [VR wq 25 5 rows,Tn],Res.star [T,S]]) wq (tb.map (Kt.subst (fmsOf l p.name) p.args)):=(hro2.mono fun p u g=>rd_up p u (.there .here) g).tys hok3 (fun p u g=>rd_in .here p u (rd_in .here p u g)) (by rw [List.length_map]; omega)
     have hwas2:Tys (Res.star [Res.star [VR wq 25 5 rows,Tn],Res.star [T,S]]) wv ((o a).getD []):=hwas.mono (rd_in (.there .here))
     clear hro2 hrl
     generalize tb.map (Kt.subst (fmsOf l p.name) p.args)=seen at hseen htg hsp hlen
     refine sV (v_is hgw (v_slookup_ok Z Z mp141 inf23 slq)) ?_
     refine sM Z (sV (v_extract Z Z) (sV (v_extract Z Z) (sA Z (sA Z (sK [1,4,7,8,10,12,14,18,19,22,23,31,32,33,50,51,52,64,65,66] Z (cQ (sM Z (st_clr Z Z en141 Z ((Parts_ct _ seen wq (Nat.le_refl _) (by omega) hseen)) ?_))))))))
     refine sV (v_leq Z Z) (st_clr Z Z en75 Z (unless_ct) ?_)
     refine sM Z (sV (v_not Z) (sM Z (st_cut (k:=11) (d:=111) (v:=.bool (!(o a).isSome || sames ((o a).getD []) seen)) (fun hcut=>bool_want (b:=(!(o a).isSome)) false (fun hg=>?_) (fun hg=>?_)) ?_)))
     ·refine st_sk Z Z hg ?_
      iterate 2 refine st_sk rfl rfl hg ?_
      refine sV (vQ (bO Z hg) Z) ?_
      exact hcut _ uG
     ·refine sG Z (bG Z hg) (vM Z) (sG Z (bG Z hg) (vM Z) (st_clrg Z (bG Z hg) Z Z en53 Z (equal_ct hwas2 hseen) ?_))
      refine sV (vP (bO Z hg) Z) ?_
      exact hcut _ uG
     refine st_clr Z Z en75 Z (unless_ct) ?_
     refine st_buildSlice (cells:=[.int .i64 (if decide ((partss seen:Int)≤400)=true then 0 else 3),.int .i64 (if (!(o a).isSome || sames ((o a).getD []) seen)=true then 0 else 10)]) Z Tryz.underlying209 inf29 Z Z (by kernel_rfl) (ltn Z) fun b113=>?_
     refine st_cl Z Z en135 Z (firstE_ct (row_ints [if decide ((partss seen:Int)≤400)=true then 0 else 3,if (!(o a).isSome || sames ((o a).getD []) seen)=true then 0 else 10] Z (by decide))) ?_
     rintro u h' ⟨rfl,rfl⟩
     simp only [lC,lN]
     rw [show firstE [if decide ((partss seen:Int)≤400)=true then 0 else 3,if (!(o a).isSome || sames ((o a).getD []) seen)=true then 0 else 10]=stepE o a seen from rfl]
     refine sA Z (sK [1,4,7,8,10,12,14,18,19,31,32,33,50,51,52,64,65,66] Z (cS (cQ (sM Z (sV (v_neq Z Z) (sK [1,4,7,8,10,12,14,18,19,31,32,33,50,51,52,64,65,66,116] Z (cC Z (fun he=>?_) (fun he=>?_))))))))
     ·have he:stepE o a seen≠0:=by simpa using he
      rw [if_pos he] at htg
      rw [htg] at hta
      simp only [] at hta
      rw [hta]
      refine cQ (sM Z (sA Z (sK [1,4,7,8,10,12,14,18,19,31,32,33,50,51,52,64,65,66] Z (cd_exit (xE (xt_exit_block_ne (by decide) ?_))))))
      refine xE (xE (xt_exit_block_ne (by decide) ?_))
      refine xt_exit_block_ne (by decide) ?_
      refine xE (xE (xt_exit_block_ne (by decide) ?_))
      refine xt_exit_block_ne (by decide) ?_
      refine xE (xE (xY (xT (cQ (sM Z (sM Z (sA Z (sA Z (sK [2,3] Z (cT (xt_ret_scope (xt_pv (pv_unpack (L:=[Res.star [VR wq 25 5 rows,Tn],Res.star [T,S]])) ?_))))))))))))
      simp only [lC,lN]
      refine xt_pv (pv_unpack (L:=[T,S])) ?_
      simp only [lC,lN]
      exact xt_rt Z ⟨Z,Z⟩ sbq
     ·have he:stepE o a seen=0:=by simpa using he
      rw [if_neg (by simpa using he)] at htg
      have hs4:=stepE_zero he
      refine cK (xT (cR (sM Z (sM Z (sM Z (st_smapUpdate Z Z Z mp141 slq ?_))))))
      refine sN (nK [1,4,7,8,10,12,14,31,32,33,50,51,52,64,65,66] Z (nx_xt (xB (xT (cR (sV (v_add Z Z (by unfold I64 at *; omega)) (sM Z (sN (nK [1,4,7,8,10,12,14,31,32,33,50,51,52,64,65,66] Z (nx_xt (xt_pv (pv_unpack (L:=[Res.star [VR wq 25 5 rows,Tn],Res.star [T,S]])) ?_)))))))))))
      simp only [lC,lN]
      refine xt_pv (pv_unpack (L:=[T,S])) ?_
      simp only [lC,lN]
      refine xt_pv (pv_pack (L:=[T,Res.star [VR wq 25 5 rows,Tn]])) ?_
      simp only [lC,lN]
      rw [he]
      refine xt_aq (supd mo a wq,Res.star [T,Res.star [VR wq 25 5 rows,Tn]],oupd o a seen,k+1) ⟨hltk,htg,(hO.mono fun p u g=>rd_up p u .here g).upd (hseen.mono fun p u g=>rd_turn p u g),hT.up .here,hSo.upd hs4⟩ (Nat.sub_lt_sub_left hltk (Nat.lt_succ_self k))
   ·have hkl:k=up.length:=by
     have:¬ k<up.length:=by simpa using hdk
     omega
    rw [hkl,List.drop_length,List.map_nil,List.nil_append] at htg
    refine cd_exit (xE (xE (xY (xB (xT (cR (sV (v_add Z Z (by unfold I64 at *; omega)) (sM Z (sN (nK [1,4,7,8,10,12,31,32,33,50,51,52] Z (nx_xt ?_)))))))))))
    refine xt_aq (mo,T,o,j+1) ⟨hltj,htg,hO,hT,hSo⟩ (Nat.sub_lt_sub_left hltj (Nat.lt_succ_self j))
  ·have hjl:j=x.parents.length:=by
    have:¬ j<x.parents.length:=by simpa using hdj
    omega
   rw [hjl,List.drop_length,show prs l []=[] from rfl,ownGo] at htg
   rw [htg] at hta
   simp only [] at hta
   refine cd_exit (xE (xE (xY (xB (xT (cR (sV (v_add Z Z (by unfold I64 at *; omega)) (sM Z (sN (nK [1,4,7,8,31,32,33] Z (nx_xt (xt_pv (pv_pack (L:=[T,mps b41 mo])) ?_))))))))))))
   simp only [lC,lN]
   refine xt_aq (supd M x.name (.map (some b41)),Res.star [T,mps b41 mo],all++[(x.name,o)],i+1) ⟨hlt,hta,by rw [List.map_append,hnm,htk]; rfl,(hT.up .here).snoc (by rw [hnm]; exact hmid.1) (MIn.self.star (.there .here)) (hO.mono fun p u g=>rd_up p u .here g),fun c' o' hc'=>?_⟩ (Nat.sub_lt_sub_left hlt (Nat.lt_succ_self i))
   rw [alook_append] at hc'
   cases ha:alook all c' with
   | some o''=>rw [ha] at hc'; cases hc'; exact hS c' _ ha
   | none =>
    rw [ha,Option.none_or,alook_cons] at hc'
    split at hc'
    ·cases hc'; exact hSo
    ·cases hc'
 ·have hil:i=ord.length:=by
   have:¬ i<ord.length:=by simpa using hd
   omega
  rw [hta,hil,List.drop_length,tabGo]
  refine cd_exit (xE (xE (xY (xT (cQ (sM Z (sM Z (sA Z (sA Z (sK [2,3] Z (cT (xt_ret_scope ?_))))))))))))
  exact xt_rt Z ⟨Z,Z⟩ sbq
end
end Go.Hr
namespace Go.Hr
open Go Go.RowKit Go.Ck Go.Proofs Go.Proofs.YtaohbfnepjjdgaaGreat Fx
attribute [local irreducible] Go.Ck.Sub St Cd Xt Nx DrL LsW
section
variable {S T N R:Res} {v:Value} {F:List Fm} {A:List Kt} {l:KS} {m:List (Bs×Value)} {mb:Nat} {s t:Kt} {va:Option Addr} {vc:Nat} {ts:List Kt} {rows:List (List Value)}
def Tiny (l:KS):Prop:=∀ x∈l,∀ p∈x.parents,∀ a∈p.args,a.parts≤200∧a.depth≤1000000
theorem kcheck_of (h1 : (check (ksys l)).1 = 0) : kcheck l = (match List.find? (fun x => formalsE l x != 0) l with
  | some x=>(formalsE l x,x.name)
  | none=>match List.find? (fun x=>parentsE l x != 0) l with
   | some x=>(parentsE l x,x.name)
   | none=>tabsE (tabs l)):=by
 unfold kcheck
 rw [if_neg (by simpa using h1)]
 cases List.find? (fun x=>formalsE l x != 0) l with
 | some x=>rfl
 | none=>cases List.find? (fun x=>parentsE l x != 0) l with
  | some x=>rfl
  | none=>cases tabs l <;> rfl
set_option maxHeartbeats 8000000 in
set_option maxRecDepth 100000 in
theorem kcheck_ct (hv : ksysR S (.slice va l.length vc) l) (ht : Tiny l) :
  Ct Tryz.prog 46 #[.slice va l.length vc] [S] fun u h'=>∃ mb m,u = .tuple #[wV mb va l.length vc,.int .i64 (kcheck l).1,sv (kcheck l).2]∧h'=[mps mb m,S]∧((nms (ksys l)).Nodup→KMap S m l):=by
 have hml:maxLen=9223372036854775807:=rfl
 have hsys:sysR S (.slice va l.length vc) (ksys l):=hv.sys
 obtain ⟨_,_,hve,hlc,hcm,_⟩:=id hv
 cases hve
 unfold wV
 refine ct_of (n:=64) Tryz.func46 Z Z (len Z) fun hr w0=>?_
 refine cQ (st_alc al85 fun b2=>?_)
 refine sA Z (sA Z (sN (nT (cQ (sM Z (st_cl Z Z en79 Z (opened_ct hv) ?_))))))
 rintro u h' ⟨mb,m,rfl,rfl,hMn⟩
 simp only [lC,lN]
 refine sM Z (sV (v_build (cells:=[.map (some mb),.slice va l.length vc]) Z (fun _=>by kernel_rfl)) ?_)
 refine st_alc al85 fun b5=>?_
 refine st_stoW Z Z sz85 Z Z ?_
 refine sK [0,2,3,4,5] Z (cS (cQ (sM Z (st_cl Z Z en80 Z (Check_ct hsys) ?_))))
 rintro u h' ⟨rfl,rfl⟩
 simp only [lC,lN]
 refine sM Z (sV (v_extract Z Z) (sV (v_extract Z Z) (sA Z (sA Z (sK [0,2,3,4,5,6,7] Z (cQ (sM Z (sV (v_neq Z Z) (sK [0,2,3,4,5,6,7,25] Z (cC Z (fun hc=>?_) (fun hc=>?_)))))))))))
 ·have hc:(check (ksys l)).1≠0:=by simpa using hc
  have hk:kcheck l=check (ksys l):=by unfold kcheck; rw [if_pos hc]
  rw [hk]
  refine cQ (sV (v_ldn Z ld85 Z rds_pt) ?_)
  refine sM Z (sM Z (st_stoW Z Z sz85 Z Z ?_))
  refine sA Z (sA Z (sK [2,3,4] Z (cT (xR ?_))))
  exact xt_retV (.cellN Z ld85 Z slq (.tmp Z (.tmp Z .nil))) ⟨mb,m,Z,Z,hMn⟩ sbr
 ·have hc:(check (ksys l)).1=0:=by simpa using hc
  have hR:=check_zero.1 hc
  have hM:=hMn hR.uniq
  rw [kcheck_of hc]
  refine cK (xT (cS (cQ (sV (v_ldn Z ld85 Z rds_pt) ?_))))
  refine sV (v_makeFunc Z Z) (sV (v_ldn Z ld85 Z rds_pt) ?_)
  refine sV (v_makeFunc Z Z) (st_buildSlice (cells:=[.func (.func 81) #[.agg #[.map (some mb),.slice va l.length vc]] #[],.func (.func 82) #[.agg #[.map (some mb),.slice va l.length vc]] #[]]) Z Tryz.underlying133 inf132 Z Z (by kernel_rfl) (ltn Z) fun b33=>?_)
  refine sV (v_len Z Tryz.underlying133) (sM Z (sK [0,2,3,4,5,33,34,35] Z (cB ?_)))
  have hfm:=fun x us (hx:kclsC S us x)=>formals_ct (mb:=mb) (va:=va) (vc:=vc) hM hx
  unfold wV at hfm
  refine cd_lq (σ := Nat) (fun i=>[(0,.slice va l.length vc),(2,.pointer (some ⟨b2,0,none⟩)),(5,.pointer (some ⟨b5,0,none⟩)),(33,.slice (some ⟨b33,0,none⟩) 2 2),(34,.int .i64 2),(35,.int .i64 (i:Nat))]) (fun _=>pt b2 (cl [.map none,.slice none 0 0] 85)::pt b5 (cl [.map (some mb),.slice va l.length vc] 85)::pt b33 (cl [.func (.func 81) #[.agg #[.map (some mb),.slice va l.length vc]] #[],.func (.func 82) #[.agg #[.map (some mb),.slice va l.length vc]] #[]] 132)::mps mb m::S::hr) (fun i=>i≤2∧(1≤i→List.find? (fun x=>formalsE l x != 0) l=none)∧(2≤i→List.find? (fun x=>parentsE l x != 0) l=none)) (fun i=>2 - i) 0 ⟨by decide,fun h=>absurd h (by decide),fun h=>absurd h (by decide)⟩ ?_
  rintro i ⟨hi,hf1,hf2⟩
  refine cQ (sV (v_lss Z Z) (sN (nT (cS (cC Z (fun hd=>?_) (fun hd=>?_))))))
  ·have hi2:i<2:=by have:=of_decide_eq_true hd; omega
   rcases (by omega:i=0∨i=1) with rfl | rfl
   ·refine cK (xT (cS (cB (cQ (sV (vI (k:=0) Z Z sl133 Z (by decide) Z) ?_)))))
    refine sV (vY Z ld132) ?_
    refine sA Z (sK [0,2,5,9,33,34,35] Z (cQ (sM Z (sV (v_len Z Tryz.underlying22) (sM Z (sN (nT (cB (cd_lq (σ := Nat) (fun j=>[(0,.slice va l.length vc),(2,.pointer (some ⟨b2,0,none⟩)),(5,.pointer (some ⟨b5,0,none⟩)),(33,.slice (some ⟨b33,0,none⟩) 2 2),(34,.int .i64 2),(35,.int .i64 ((0:Nat):Int)),(9,.func (.func 81) #[.agg #[.map (some mb),.slice va l.length vc]] #[]),(39,.slice va l.length vc),(40,.int .i64 l.length),(41,.int .i64 (j:Nat))]) (fun _=>pt b2 (cl [.map none,.slice none 0 0] 85)::pt b5 (cl [.map (some mb),.slice va l.length vc] 85)::pt b33 (cl [.func (.func 81) #[.agg #[.map (some mb),.slice va l.length vc]] #[],.func (.func 82) #[.agg #[.map (some mb),.slice va l.length vc]] #[]] 132)::mps mb m::S::hr) (fun j=>j≤l.length∧List.find? (fun x=>formalsE l x != 0) l=List.find? (fun x=>formalsE l x != 0) (l.drop j)) (fun j=>l.length - j) 0 ⟨Nat.zero_le _,Z⟩ ?_)))))))))
    rintro j ⟨hj,hal⟩
    refine cQ (sV (v_lss Z Z) (sN (nT (cS (cC Z (fun hdj=>?_) (fun hdj=>?_))))))
    ·have hlt:j<l.length:=by simpa using hdj
     have hxl:=List.getElem_mem hlt
     obtain ⟨bx,ox,capx,us,e1,hus,hrd,hcx⟩:=Row.at hv (List.getElem?_eq_getElem hlt)
     cases e1
     rw [List.drop_eq_getElem_cons hlt] at hal
     generalize l[j]=x at hxl hcx hal
     have hct:=hfm x _ hcx
     obtain ⟨d,f,pv,c2,fa,fc,i2,rfl,hone,_⟩:=hcx
     refine cK (xT (cS (cB (cQ (sV (vI (k:=j) Z Z sl22 Z hlt Z) (sV (v_ldn Z ld54 Z hrd) ?_))))))
     refine st_alc al54 fun b11=>?_
     refine st_stoW Z Z sz54 Z hone ?_
     refine sK [0,2,5,9,11,33,34,35,39,40,41] Z (cQ (sM Z (sV (v_ldn Z ld54 Z rds_pt) ?_)))
     refine st_cl Z Z en81 Z (hct) ?_
     rintro u h' ⟨rfl,rfl⟩
     simp only [lC,lN]
     refine sA Z (sK [0,2,5,9,11,12,33,34,35,39,40,41] Z (cQ (sM Z (sV (v_neq Z Z) (sK [0,2,5,9,11,12,33,34,35,39,40,41,49] Z (cC Z (fun he=>?_) (fun he=>?_)))))))
     ·rw [List.find?_cons_of_pos (by simpa using he)] at hal
      rw [hal]
      refine cS (cd_draw (ork [(0,1),(1,2),(2,2),(3,1),(4,0),(5,2),(6,2)] .nil) (fun _=>true) [pt b5 (cl [.map (some mb),.slice (some ⟨bx,ox,none⟩) l.length vc] 85),pt b11 (cl [sv x.name,d,f,pv,c2,.slice fa x.feats fc,i2] 54)] mixed (by kernel_rfl) ?_)
      refine dr_v Z (v_ldn Z ld85 Z rds_pt) ?_
      refine dV Z (vM Z) (dV Z (vF Z fa54_0 Z) (dr_v Z (vY Z ld9) ?_))
      refine dr_eff Z (st_stoW Z Z sz85 Z Z ?_)
      refine dr_nx ?_
      refine dV Z (vA Z) (dV Z (vA Z) (dr_nil (nK [2,3,4] Z (nT (cT (xW (xR (xR (xW (xW (xR (xR (xW (xR ?_))))))))))))))
      exact xt_retV (.cellN Z ld85 Z slq (.tmp Z (.tmp Z .nil))) ⟨mb,m,Z,Z,hMn⟩ sbr
     ·rw [List.find?_cons_of_neg (by simpa using he)] at hal
      refine cK (xB (xT (cR (sV (v_add Z Z (by unfold I64 at *; omega)) (sM Z (sN (nK [0,2,5,9,33,34,35,39,40,41] Z (nx_xt ?_))))))))
      refine xt_aq (j+1) ⟨hlt,hal⟩ (Nat.sub_lt_sub_left hlt (Nat.lt_succ_self j))
    ·have hjl:j=l.length:=by
      have:¬ j<l.length:=by simpa using hdj
      omega
     rw [hjl,List.drop_length] at hal
     refine cd_exit (xE (xE (xY (xB (xT (cR (sV (v_add Z Z (by unfold I64 at *; omega)) (sM Z (sN (nK [0,2,5,33,34,35] Z (nx_xt ?_)))))))))))
     refine xt_aq 1 ⟨by decide,fun _=>hal,fun h=>absurd h (by decide)⟩ (by decide)
   ·have hHR:HRight l:=⟨hR,fun x hx=>by simpa using List.find?_eq_none.1 (hf1 (by decide)) x hx⟩
    refine cK (xT (cS (cB (cQ (sV (vI (k:=1) Z Z sl133 Z (by decide) Z) ?_)))))
    refine sV (vY Z ld132) ?_
    refine sA Z (sK [0,2,5,9,33,34,35] Z (cQ (sM Z (sV (v_len Z Tryz.underlying22) (sM Z (sN (nT (cB (cd_lq (σ := Nat) (fun j=>[(0,.slice va l.length vc),(2,.pointer (some ⟨b2,0,none⟩)),(5,.pointer (some ⟨b5,0,none⟩)),(33,.slice (some ⟨b33,0,none⟩) 2 2),(34,.int .i64 2),(35,.int .i64 ((1:Nat):Int)),(9,.func (.func 82) #[.agg #[.map (some mb),.slice va l.length vc]] #[]),(39,.slice va l.length vc),(40,.int .i64 l.length),(41,.int .i64 (j:Nat))]) (fun _=>pt b2 (cl [.map none,.slice none 0 0] 85)::pt b5 (cl [.map (some mb),.slice va l.length vc] 85)::pt b33 (cl [.func (.func 81) #[.agg #[.map (some mb),.slice va l.length vc]] #[],.func (.func 82) #[.agg #[.map (some mb),.slice va l.length vc]] #[]] 132)::mps mb m::S::hr) (fun j=>j≤l.length∧List.find? (fun x=>parentsE l x != 0) l=List.find? (fun x=>parentsE l x != 0) (l.drop j)) (fun j=>l.length - j) 0 ⟨Nat.zero_le _,Z⟩ ?_)))))))))
    rintro j ⟨hj,hal⟩
    refine cQ (sV (v_lss Z Z) (sN (nT (cS (cC Z (fun hdj=>?_) (fun hdj=>?_))))))
    ·have hlt:j<l.length:=by simpa using hdj
     have hxl:=List.getElem_mem hlt
     obtain ⟨bx,ox,capx,us,e1,hus,hrd,hcx⟩:=Row.at hv (List.getElem?_eq_getElem hlt)
     cases e1
     rw [List.drop_eq_getElem_cons hlt] at hal
     generalize l[j]=x at hxl hcx hal
     have hct:=kparents_ct (mb:=mb) hHR hM hv (kfind_mem hR hxl) hcx (fun p hp a ha=>(ht x hxl p hp a ha).2)
     unfold wV at hct
     obtain ⟨d,f,pv,c2,fa,fc,i2,rfl,hone,_⟩:=hcx
     refine cK (xT (cS (cB (cQ (sV (vI (k:=j) Z Z sl22 Z hlt Z) (sV (v_ldn Z ld54 Z hrd) ?_))))))
     refine st_alc al54 fun b11=>?_
     refine st_stoW Z Z sz54 Z hone ?_
     refine sK [0,2,5,9,11,33,34,35,39,40,41] Z (cQ (sM Z (sV (v_ldn Z ld54 Z rds_pt) ?_)))
     refine st_cl Z Z en82 Z (hct) ?_
     rintro u h' ⟨rfl,rfl⟩
     simp only [lC,lN]
     refine sA Z (sK [0,2,5,9,11,12,33,34,35,39,40,41] Z (cQ (sM Z (sV (v_neq Z Z) (sK [0,2,5,9,11,12,33,34,35,39,40,41,49] Z (cC Z (fun he=>?_) (fun he=>?_)))))))
     ·rw [List.find?_cons_of_pos (by simpa using he)] at hal
      rw [hf1 (by decide)]
      rw [hal]
      refine cS (cd_draw (ork [(0,1),(1,2),(2,2),(3,1),(4,0),(5,2),(6,2)] .nil) (fun _=>true) [pt b5 (cl [.map (some mb),.slice (some ⟨bx,ox,none⟩) l.length vc] 85),pt b11 (cl [sv x.name,d,f,pv,c2,.slice fa x.feats fc,i2] 54)] mixed (by kernel_rfl) ?_)
      refine dr_v Z (v_ldn Z ld85 Z rds_pt) ?_
      refine dV Z (vM Z) (dV Z (vF Z fa54_0 Z) (dr_v Z (vY Z ld9) ?_))
      refine dr_eff Z (st_stoW Z Z sz85 Z Z ?_)
      refine dr_nx ?_
      refine dV Z (vA Z) (dV Z (vA Z) (dr_nil (nK [2,3,4] Z (nT (cT (xW (xR (xR (xW (xW (xR (xR (xW (xR ?_))))))))))))))
      exact xt_retV (.cellN Z ld85 Z slq (.tmp Z (.tmp Z .nil))) ⟨mb,m,Z,Z,hMn⟩ sbr
     ·rw [List.find?_cons_of_neg (by simpa using he)] at hal
      refine cK (xB (xT (cR (sV (v_add Z Z (by unfold I64 at *; omega)) (sM Z (sN (nK [0,2,5,9,33,34,35,39,40,41] Z (nx_xt ?_))))))))
      refine xt_aq (j+1) ⟨hlt,hal⟩ (Nat.sub_lt_sub_left hlt (Nat.lt_succ_self j))
    ·have hjl:j=l.length:=by
      have:¬ j<l.length:=by simpa using hdj
      omega
     rw [hjl,List.drop_length] at hal
     refine cd_exit (xE (xE (xY (xB (xT (cR (sV (v_add Z Z (by unfold I64 at *; omega)) (sM Z (sN (nK [0,2,5,33,34,35] Z (nx_xt ?_)))))))))))
     refine xt_aq 2 ⟨by decide,fun _=>hf1 (by decide),fun _=>hal⟩ (by decide)
  ·have hi2:i=2:=by have:=of_decide_eq_false hd; omega
   subst hi2
   have hHR:HRight l:=⟨hR,fun x hx=>by simpa using List.find?_eq_none.1 (hf1 (by decide)) x hx⟩
   have hin:=instances_ct (mb:=mb) hHR hM hv (fun x hx p hp a ha=>(ht x hx p hp a ha).1)
   unfold wV at hin
   rw [hf1 (by decide),hf2 (by decide)]
   refine cd_exit (xE (xE (xY (xT (cQ (sV (v_ldn Z ld85 Z rds_pt) ?_))))))
   refine st_cl Z Z en83 Z (hin) ?_
   rintro u h' ⟨rfl,rfl⟩
   simp only [lC,lN]
   refine sM Z (sV (v_extract Z Z) (sV (v_extract Z Z) (sA Z (sA Z (sK [2,5,13,14] Z (cQ (sV (v_ldn Z ld85 Z rds_pt) ?_)))))))
   refine sM Z (sM Z (st_stoW Z Z sz85 Z Z ?_))
   refine sA Z (sA Z (sK [2,3,4] Z (cT ?_)))
   exact xt_retV (.cellN Z ld85 Z slq (.tmp Z (.tmp Z .nil))) ⟨mb,m,Z,Z,hMn⟩ sbr
end
end Go.Hr
namespace Go.Hr
open Go Go.RowKit Go.Ck Go.Proofs Go.Proofs.YtaohbfnepjjdgaaGreat Fx
attribute [local irreducible] Go.Ck.Sub St Cd Xt Nx DrL LsW
section
variable {S T N R:Res} {v:Value} {F:List Fm} {A:List Kt} {l:KS} {m:List (Bs×Value)} {mb:Nat} {s t:Kt} {va:Option Addr} {vc:Nat} {ts:List Kt} {rows:List (List Value)}
set_option maxRecDepth 100000 in
theorem KCheck_ct (hv:ksysR S v l) (ht:Tiny l):Ct Tryz.prog 13 #[v] [S] fun u h'=>u = .tuple #[.int .i64 (kcheck l).1,sv (kcheck l).2]∧h'=[S]:=by
 obtain ⟨va,vc,rfl,_⟩:=id hv
 have h1:=kcheck_ct hv ht
 refine ct_of (n:=15) Tryz.func13 Z Z (len Z) fun hr w0=>?_
 refine cQ (sA Z (sA Z (sN (nT (cQ (sM Z (st_cl Z Z en46 Z (h1) ?_)))))))
 rintro u h' ⟨mb,m,rfl,rfl,_⟩
 unfold wV
 simp only [lC,lN]
 refine sM Z (sV (v_extract Z Z) (sV (v_extract Z Z) (sV (v_extract Z Z) (st_alc al85 fun b4=>?_))))
 refine st_stoW Z Z sz85 Z Z ?_
 refine sA Z (sA Z (sK [2,3,5,6] Z (cQ (sM Z (sM Z (sA Z (sA Z (sK [2,3] Z (cT ?_)))))))))
 exact xt_rt Z ⟨Z,Z⟩ sbq
def askedE (l:KS) (c:Nm) (ts:List Kt):Int:=if (kcheck l).1≠0 then (kcheck l).1 else match kfind l c with
 | none=>5
 | some x=>firstE (ts.map (rightK l x.formals))
structure AskOk (l:KS) (c:Nm) (ts:List Kt) (x:KC) (all:List (Nm×Own)):Prop where
 right:KRight l all
 cls:kfind l c=some x
 tys:∀ t∈ts,rightK l x.formals t=0
theorem askedE_zero {c : Nm} : askedE l c ts = 0 ↔ ∃ x all, AskOk l c ts x all := by
 unfold askedE
 constructor
 ·intro h
  split at h
  ·rename_i h1; exact absurd h h1
  ·rename_i h1
   obtain ⟨all,hK⟩:=kcheck_zero.1 (Classical.not_not.1 h1)
   cases hc:kfind l c with
   | none=>rw [hc] at h; exact absurd (show (5:Int)=0 from h) (by decide)
   | some x =>
    rw [hc] at h
    exact ⟨x,all,hK,hc,fun t ht=>firstE_zero.1 h _ (List.mem_map_of_mem ht)⟩
 ·rintro ⟨x,all,hK,hc,ht⟩
  rw [if_neg (by simpa using kcheck_zero.2 ⟨all,hK⟩),hc]
  exact firstE_zero.2 fun e he=>by obtain ⟨t,h1,rfl⟩:=List.mem_map.1 he; exact ht t h1
set_option maxHeartbeats 4000000 in
set_option maxRecDepth 100000 in
theorem kasked_ct (hv : ksysR S (.slice va l.length vc) l) (ht : Tiny l) (c : Nm) {tv : Value} (hts : Tys S tv ts) (hdt : ∀ t ∈ ts, t.depth ≤ 1000000) :
  Ct Tryz.prog 54 #[.slice va l.length vc,sv c,tv] [S] fun u h'=>∃ mb m,u = .tuple #[wV mb va l.length vc,.int .i64 (askedE l c ts)]∧h'=[mps mb m,S]∧(askedE l c ts=0→KMap S m l):=by
 have hml:maxLen=9223372036854775807:=rfl
 obtain ⟨ta,tc,rfl,htlc,htcm,_⟩:=id hts.form
 have h1:=kcheck_ct hv ht
 refine ct_of (n:=52) Tryz.func54 Z Z (len Z) fun hr w0=>?_
 refine cQ (st_alc al85 fun b6=>?_)
 refine sA Z (sN (nT (cQ (sM Z (st_cl Z Z en46 Z (h1) ?_)))))
 rintro u h' ⟨mb,m,rfl,rfl,hMn⟩
 unfold wV
 simp only [lC,lN]
 refine sM Z (sV (v_extract Z Z) (sV (v_extract Z Z) (sV (v_extract Z Z) (st_alc al85 fun b8=>?_))))
 refine st_stoW Z Z sz85 Z Z ?_
 refine sA Z (sA Z (sK [1,2,6,7,8,9] Z (cS (cQ (sM Z (sV (v_neq Z Z) (sK [1,2,6,7,8,9,23] Z (cC Z (fun hc=>?_) (fun hc=>?_)))))))))
 ·have hc:(kcheck l).1≠0:=by simpa using hc
  have hk:askedE l c ts=(kcheck l).1:=if_pos hc
  rw [hk]
  refine cQ (sV (v_ldn Z ld85 Z rds_pt) ?_)
  refine sM Z (st_stoW Z Z sz85 Z Z ?_)
  refine sA Z (sK [6,7] Z (cT (xR ?_)))
  exact xt_retV (.cellN Z ld85 Z slq (.tmp Z .nil)) ⟨mb,m,Z,Z,fun h=>absurd h hc⟩ sbr
 ·have hc:(kcheck l).1=0:=by simpa using hc
  obtain ⟨all,hK⟩:=kcheck_zero.1 hc
  have hM:=hMn hK.right.uniq
  obtain ⟨d0,dd,fv,pv,c2,fs,ii,hlk,hone,_⟩:=map_cls2 hM c
  have hk:askedE l c ts=match kfind l c with
   | none=>5
   | some x=>firstE (ts.map (rightK l x.formals)):=if_neg (by simpa using hc)
  rw [hk]
  refine cK (xT (cS (cQ (sV (vF Z fa85_0 Z) (sV (vY Z ld83) ?_)))))
  refine sM Z (sV (v_is hlk (v_slookup_ok Z Z mp83 inf54 slq)) ?_)
  refine sM Z (sV (v_extract Z Z) (sV (v_extract Z Z) (st_alc al54 fun b11=>?_)))
  refine st_stoW Z Z sz54 Z hone ?_
  refine sA Z (sK [1,2,6,7,8,12] Z (cQ (sM Z (sV (v_not Z) (sK [1,2,6,7,8,34] Z ?_)))))
  cases hx:kfind l c with
  | none =>
   simp only [Option.isSome_none]
   refine cd_true Z ?_
   refine cQ (sV (v_ldn Z ld85 Z rds_pt) ?_)
   refine st_stoW Z Z sz85 Z Z ?_
   refine sA Z (sK [6,7] Z (cT (xR ?_)))
   exact xt_retV (.cellN Z ld85 Z slq (.tmp Z .nil)) ⟨mb,m,Z,Z,fun h=>absurd (show (5:Int)=0 from h) (by decide)⟩ sbr
  | some x =>
   simp only [Option.isSome_some]
   refine cd_false Z ?_
   refine cK (xT (cS (cQ (sM Z (sV (v_len Z Tryz.underlying23) (sM Z (sK [1,6,7,8,36,37,38] Z (cB (cd_lq (σ := Nat) (fun i=>[(1,sv c),(6,.pointer (some ⟨b6,0,none⟩)),(8,.pointer (some ⟨b8,0,none⟩)),(36,.slice ta ts.length tc),(37,.int .i64 ts.length),(38,.int .i64 (i:Nat))]) (fun _=>pt b6 (cl [.map none,.slice none 0 0] 85)::pt b8 (cl [.map (some mb),.slice va l.length vc] 85)::mps mb m::S::hr) (fun i=>i≤ts.length∧firstE (ts.map (rightK l x.formals))=firstE ((ts.drop i).map (rightK l x.formals))) (fun i=>ts.length - i) 0 ⟨Nat.zero_le _,Z⟩ ?_)))))))))
   rintro i ⟨hi,hal⟩
   refine cQ (sV (v_lss Z Z) (sN (nT (cS (cC Z (fun hd=>?_) (fun hd=>?_))))))
   ·have hlt:i<ts.length:=by simpa using hd
    have hmt:=List.getElem_mem hlt
    obtain ⟨b,o,cap2,us,e1,hus,hrd,hta⟩:=hts.at (List.getElem?_eq_getElem hlt)
    cases e1
    rw [List.drop_eq_getElem_cons hlt,List.map_cons,firstE] at hal
    generalize ts[i]=t at hmt hta hal
    have hones:=hta.ones
    obtain ⟨y,rfl,hy⟩:=hta.out
    have hri:=right_kct (mb:=mb) hK.head hM hv hx hy (hdt t hmt)
    obtain ⟨ya,yc,rfl,_⟩:=id hy.form
    unfold wV tyC at hri
    unfold tyC at hrd hones
    refine cK (xT (cS (cB (cQ (sV (vI (k:=i) Z Z sl23 Z hlt Z) (sV (v_ldn Z ld25 Z hrd) ?_))))))
    refine st_alc al25 fun b14=>?_
    refine st_stoW Z Z sz25 Z hones ?_
    refine sK [1,6,8,14,36,37,38] Z (cQ (sV (v_ldn Z ld85 Z rds_pt) ?_))
    refine sM Z (sV (v_ldn Z ld25 Z rds_pt) ?_)
    refine st_cl Z Z en58 Z (hri) ?_
    rintro u h' ⟨rfl,rfl⟩
    simp only [lC,lN]
    refine sA Z (sK [1,6,8,15,36,37,38] Z (cQ (sM Z (sV (v_neq Z Z) (sK [1,6,8,15,36,37,38,47] Z (cC Z (fun he=>?_) (fun he=>?_)))))))
    ·have he:rightK l x.formals t≠0:=by simpa using he
     rw [hal,if_pos he]
     refine cQ (sV (v_ldn Z ld85 Z rds_pt) ?_)
     refine sM Z (st_stoW Z Z sz85 Z Z ?_)
     refine sA Z (sK [6,7] Z (cT (xW (xR (xR (xW (xR ?_)))))))
     exact xt_retV (.cellN Z ld85 Z slq (.tmp Z .nil)) ⟨mb,m,Z,Z,fun _=>hM⟩ sbr
    ·have he:rightK l x.formals t=0:=by simpa using he
     rw [if_neg (by simpa using he)] at hal
     refine cK (xB (xT (cR (sV (v_add Z Z (by unfold I64 at *; omega)) (sM Z (sN (nK [1,6,8,36,37,38] Z (nx_xt ?_))))))))
     refine xt_aq (i+1) ⟨hlt,hal⟩ (Nat.sub_lt_sub_left hlt (Nat.lt_succ_self i))
   ·have hil:i=ts.length:=by
     have:¬ i<ts.length:=by simpa using hd
     omega
    rw [hal,hil,List.drop_length]
    refine cd_exit (xE (xE (xY (xT (cQ (sV (v_ldn Z ld85 Z rds_pt) ?_))))))
    refine st_stoW Z Z sz85 Z Z ?_
    refine sA Z (sK [6,7] Z (cT ?_))
    exact xt_retV (.cellN Z ld85 Z slq (.tmp Z .nil)) ⟨mb,m,Z,Z,fun _=>hM⟩ sbr
theorem tys_one {b:Nat} {us:List Value} (hu:Ty S us t) (hok:∃ f,(VR (.slice (some ⟨b,0,none⟩) 1 1) 25 5 [us]).ok f):Tys (Res.star [VR (.slice (some ⟨b,0,none⟩) 1 1) 25 5 [us],S]) (.slice (some ⟨b,0,none⟩) 1 1) [t]:=
 ⟨row_vr hok rfl (rd_in .here) fun i us' x h1 h2=>by
  match i,h1,h2 with
  | 0,h1,h2=>cases h1; cases h2; exact hu.mono (rd_in (.there .here)),by show 1 * 56≤reachBytes; decide⟩
set_option maxRecDepth 100000 in
theorem KRight_ct (hv:ksysR S v l) (ht:Tiny l) (c:Nm) {us:List Value} (hu:Ty S us t) (hd:t.depth≤1000000):Ct Tryz.prog 17 #[v,sv c,.agg us.toArray] [S] fun u h'=>u = .int .i64 (askedE l c [t])∧h'=[S]:=by
 obtain ⟨va,vc,rfl,_⟩:=id hv
 have h1:=fun b hok=>kasked_ct (hv.mono (rd_in (.there .here))) ht c (tys_one (b:=b) hu hok) (fun s hs=>by simp at hs; subst hs; exact hd)
 obtain ⟨y,rfl,hy⟩:=hu.out
 obtain ⟨ya,yc,rfl,_⟩:=id hy.form
 refine ct_of (n:=18) Tryz.func17 Z Z (len Z) fun hr w0=>?_
 refine cQ (st_bx Z Z fun b5=>?_)
 refine sA Z (sK [0,1,5,6] Z (cQ (sM Z (sM Z (sV (v_ldn Z ld25 Z rds_pt) ?_)))))
 refine st_buildSlice (cells:=tyC t (.slice ya t.args.length yc)) Z Tryz.underlying23 inf25 Z Z (by kernel_rfl) (ltn Z) fun b13=>?_
 refine st_pv (pv_of (b:=b13) (n:=1) (sz:=5) (E:=25) [tyC t (.slice ya t.args.length yc)] Z (by simp [tyC]) Z (by decide)) ?_
 simp only [lC,lN]
 refine st_ok (r:=VR (.slice (some ⟨b13,0,none⟩) 1 1) 25 5 [tyC t (.slice ya t.args.length yc)]) slq fun hok=>?_
 refine st_pv (pv_pack (L:=[VR (.slice (some ⟨b13,0,none⟩) 1 1) 25 5 [tyC t (.slice ya t.args.length yc)],S])) ?_
 simp only [lC,lN]
 refine st_cl Z Z en54 Z (h1 b13 hok) ?_
 rintro u h' ⟨mb,m,rfl,rfl,_⟩
 unfold wV
 simp only [lC,lN]
 refine st_pv (pv_unpack (L:=[VR (.slice (some ⟨b13,0,none⟩) 1 1) 25 5 [tyC t (.slice ya t.args.length yc)],S])) ?_
 simp only [lC,lN]
 refine sM Z (sV (v_extract Z Z) (sV (v_extract Z Z) (st_alc al85 fun b7=>?_)))
 refine st_stoW Z Z sz85 Z Z ?_
 refine sA Z (sK [6,8] Z (cQ (sM Z (sA Z (sK [6] Z (cT ?_))))))
 exact xt_rt Z ⟨Z,Z⟩ sbq
def zeroT:Kt:=.mk 0 [] [] false false
def boundK (l:KS) (c n:Nm):Kt×Int:=if askedE l c []≠0 then (zeroT,askedE l c []) else match fmAt (fmsOf l c) n with
 | none=>(zeroT,5)
 | some f=>(.mk 3 f.bound [] false false,0)
end
end Go.Hr
namespace Go.Hr
open Go Go.RowKit Go.Ck Go.Proofs Go.Proofs.YtaohbfnepjjdgaaGreat Fx
attribute [local irreducible] Go.Ck.Sub St Cd Xt Nx DrL LsW
section
variable {S T N R:Res} {v:Value} {F:List Fm} {A:List Kt} {l:KS} {m:List (Bs×Value)} {mb:Nat} {s t:Kt} {va:Option Addr} {vc:Nat} {ts:List Kt} {rows:List (List Value)} {way:List Nm}
set_option maxRecDepth 100000 in
theorem tell170_ct {n:Nm} {x:Value} {a b c d:Value} {b1 b4 j:Nat} {wa:Option Addr} {wc:Nat} (hw:nmsR N (.slice wa way.length wc) way) (hj:j<way.length):Reads Tryz.prog 170 #[.agg #[sv n,x,a,b,c,d],.pointer (some ⟨b1,0,none⟩),.pointer (some ⟨b4,0,none⟩)] [pt b1 (cl [.slice wa way.length wc] 50),pt b4 (cl [.int .i64 (j:Nat)] 3),N] (.bool (n == way[j])):=by
 obtain ⟨b,o,cap2,u,e1,hrd,hX⟩:=Row.at1 hw (List.getElem?_eq_getElem hj)
 cases e1
 have hX:[u]=[sv way[j]]:=hX
 cases hX
 refine ct_of (n:=12) Tryz.func170 Z Z (len Z) fun hr w0=>?_
 refine cQ (st_bx Z Z fun b3=>?_)
 refine sA Z (sK [1,2,3,4] Z (cS (cd_drawh (ork [(0,2),(1,1),(2,1),(3,1),(4,2),(5,1),(6,1),(7,2)] .nil) (fun _=>true) mixed (by kernel_rfl) ?_)))
 refine dV Z (vF Z fa79_0 Z) (dr_v Z (vY Z ld9) ?_)
 refine dr_v Z (vY Z ld50) ?_
 refine dr_v Z (vY Z ld3) ?_
 refine dV Z (vI (k:=j) Z Z sl50 Z hj Z) (dr_v Z (vY Z ld9) ?_)
 refine dr_v Z (v_seql Z Z) (dV Z (vA Z) (dr_nil (nK [4] Z (nT (cT ?_)))))
 exact xt_rt Z ⟨Z,Z⟩ sbq
set_option maxRecDepth 100000 in
theorem IdxP_ct {ps : List Kp} {A B C : Res} {kf : FuncId} {cp : Array Value} {g : Nm → Bool} (hv : Row S 6 (kparC S) v ps) (hE : Ck.Enters Tryz.prog kf) (hf : ∀ (n : Nm) (x a b c d : Value), Reads Tryz.prog kf (#[] ++ ([.agg #[sv n, x, a, b, c, d]] : List Value).toArray ++ cp) [A, B, C] (.bool (g n))) : Reads Tryz.prog 169 #[v, .func (.func kf) #[] cp] [S, A, B, C] (.int .i64 (ixD (ps.findIdx? fun p => g p.name))) := by
 have hml:maxLen=9223372036854775807:=rfl
 obtain ⟨a,cap,rfl,hlc,hcm,_⟩:=id hv
 refine ct_of (n:=19) Tryz.func169 Z Z (len Z) fun hr w0=>?_
 refine cQ (sA Z (sN (nT (cS (cQ (sM Z (sV (v_len Z Tryz.underlying49) (sM Z (sK [0,1,4,7,8] Z (cB (cd_lq (σ := Nat) (fun i=>[(0,.slice a ps.length cap),(1,.func (.func kf) #[] cp),(7,.int .i64 ps.length),(8,.int .i64 (i:Nat))]) (fun _=>S::A::B::C::hr) (fun i=>i≤ps.length∧∀ j (hj:j<ps.length),j<i→g (ps[j]).name=false) (fun i=>ps.length - i) 0 ⟨Nat.zero_le _,fun j _ hj=>absurd hj (Nat.not_lt_zero _)⟩ ?_)))))))))))
 rintro i ⟨hi,hal⟩
 refine cQ (sV (v_lss Z Z) (sN (nT (cS (cC Z (fun hd=>?_) (fun hd=>?_))))))
 ·have hlt:i<ps.length:=by simpa using hd
  obtain ⟨b,o,cap2,us,e1,hus,hrd,x,pa,pb,pc,pd,rfl,hone,_⟩:=Row.at hv (List.getElem?_eq_getElem hlt)
  cases e1
  have hfx:=hf (ps[i]).name x pa pb pc pd
  refine cK (xT (cS (cB (cQ (sM Z (sA Z (sK [0,1,5,7,8] Z (cQ (sM Z (sM Z (sM Z ?_)))))))))))
  refine sV (vI (k:=i) Z Z sl49 Z hlt Z) (sV (v_ldn Z ld79 Z hrd) ?_)
  refine st_clr Z Z hE Z (hfx) ?_
  refine sK [0,1,5,7,8,16] Z (cC Z (fun he=>?_) (fun he=>?_))
  ·have he:g (ps[i]).name=true:=he
   rw [show (ps.findIdx? fun p=>g p.name)=some i by
    rw [List.findIdx?_eq_some_iff_getElem]
    exact ⟨hlt,he,fun j hj=>by rw [hal j (by omega) hj]; decide⟩]
   refine cQ (sM Z (sA Z (sK [4] Z (cT (xW (xR (xR (xW (xR ?_)))))))))
   exact xt_rt Z ⟨Z,Z⟩ sbq
  ·have he:g (ps[i]).name=false:=he
   refine cK (xB (xT (cR (sV (v_add Z Z (by unfold I64 at *; omega)) (sM Z (sN (nK [0,1,7,8] Z (nx_xt (xt_aq (i+1) ⟨hlt,fun j hj hj2=>?_⟩ (Nat.sub_lt_sub_left hlt (Nat.lt_succ_self i)))))))))))
   by_cases hji:j=i
   ·subst hji; exact he
   ·exact hal j hj (by omega)
 ·have hil:i=ps.length:=by
   have:¬ i<ps.length:=by simpa using hd
   omega
  rw [show (ps.findIdx? fun p=>g p.name)=none by
   rw [List.findIdx?_eq_none_iff]
   intro f hfm
   obtain ⟨j,hj,rfl⟩:=List.getElem_of_mem hfm
   exact hal j hj (by omega)]
  refine cd_exit (xE (xE (xY (xT (cQ (sA Z (sK [4] Z (cT ?_))))))))
  exact xt_rt Z ⟨Z,Z⟩ sbq
set_option maxRecDepth 100000 in
theorem steps_ct {wa:Option Addr} {wn wc:Nat}:Ct Tryz.prog 148 #[.map (some mb),.slice wa wn wc] [] fun u h'=>∃ b1 b2,u = .func (.func 168) #[] #[.pointer (some ⟨b1,0,none⟩),.pointer (some ⟨b2,0,none⟩)]∧h'=[pt b1 (cl [.slice wa wn wc] 50),pt b2 (cl [.map (some mb)] 83)]:=by
 refine ct_of (n:=6) Tryz.func148 Z Z (len Z) fun hr w0=>?_
 refine cQ (st_bx Z Z fun b2=>?_)
 refine st_bx Z Z fun b3=>?_
 refine sA Z (sK [2,3,4] Z (cQ (sV (v_makeFunc Z Z) (sA Z (sK [4] Z (cT ?_))))))
 exact xt_rt Z ⟨b3,b2,Z,Z⟩ sbq
def Chain (l:KS) (way:List Nm):Prop:=∀ i (h:i+1<way.length),∃ x p,kfind l way[i]=some x∧(x.parents.find? fun q=>q.name == way[i+1])=some p
theorem find_idx {ps:List Kp} {p:Kp} {g:Kp→Bool} (h:ps.find? g=some p):∃ k,ps.findIdx? g=some k∧ps[k]? = some p:=by
 obtain ⟨h1,i,hi,h2,h3⟩:=List.find?_eq_some_iff_getElem.1 h
 exact ⟨i,List.findIdx?_eq_some_iff_getElem.2 ⟨hi,by rw [h2]; exact h1,fun j hj=>by simpa using h3 j hj⟩,by rw [List.getElem?_eq_getElem hi,h2]⟩
set_option maxHeartbeats 4000000 in
set_option maxRecDepth 100000 in
theorem itk_ct {σ : Type} {b1 b2 yl : Nat} (Inv : σ → SH) (Φ : Nat → σ → Prop) (s0 : σ) (h0 : Φ 0 s0) (hM : KMap S m l) {wa : Option Addr} {wc : Nat} (hw : nmsR N (.slice wa way.length wc) way) (hch : Chain l way)
  (hy:∀ (i:Nat) (s : σ) (h:i+1<way.length) (x:KC) (p:Kp) (us ps:List Value),kfind l way[i]=some x→(x.parents.find? fun q=>q.name == way[i+1])=some p→kclsC S us x→kparC S ps p → Φ i s →
   Yc Tryz.prog yl #[.agg us.toArray,.agg ps.toArray] (S::mps mb m::N::Inv s) fun u h'=>u = .bool true∧∃ s',Φ (i+1) s'∧h'=S::mps mb m::N::Inv s') :
  Ct Tryz.prog 168 #[.func (.yield yl) #[] #[],.pointer (some ⟨b1,0,none⟩),.pointer (some ⟨b2,0,none⟩)] (pt b1 (cl [.slice wa way.length wc] 50)::pt b2 (cl [.map (some mb)] 83)::S::mps mb m::N::Inv s0) fun u h'=>u = .tuple #[] ∧
   ∃ s,Φ (way.length - 1) s∧h'=pt b1 (cl [.slice wa way.length wc] 50)::pt b2 (cl [.map (some mb)] 83)::S::mps mb m::N::Inv s:=by
 have hml:maxLen=9223372036854775807:=rfl
 obtain ⟨_,_,hwe,hlc,hcm,_⟩:=id hw
 cases hwe
 refine ct_of (n:=38) Tryz.func168 Z Z (len Z) fun hr w0=>?_
 refine cQ (st_alc al3 fun b4=>?_)
 refine st_sto Z Z sz3 ?_
 refine sN (nT (cB (cd_lq (σ := Nat×Nat × σ) (fun q=>[(0,.func (.yield yl) #[] #[]),(1,.pointer (some ⟨b1,0,none⟩)),(2,.pointer (some ⟨b2,0,none⟩)),(4,.pointer (some ⟨q.1,0,none⟩))]) (fun q=>pt q.1 (cl [.int .i64 ((q.2.1+1:Nat):Int)] 3)::pt b1 (cl [.slice wa way.length wc] 50)::pt b2 (cl [.map (some mb)] 83)::S::mps mb m::N::(Inv q.2.2++hr)) (fun q=>q.2.1≤way.length - 1 ∧ Φ q.2.1 q.2.2) (fun q=>way.length - q.2.1) (b4,0,s0) ⟨Nat.zero_le _,h0⟩ ?_)))
 rintro ⟨b4,i,s⟩ ⟨hi,hΦ⟩
 simp only at hi hΦ
 dsimp only
 refine cS (cQ (sV (vY Z ld3) ?_))
 refine sV (vY Z ld50) ?_
 refine sV (v_len Z Tryz.underlying50) (sV (v_lss Z Z) (sK [0,1,2,4,10] Z (cC Z (fun hd=>?_) (fun hd=>?_))))
 ·have hlt:i+1<way.length:=by have:=of_decide_eq_true hd; omega
  have hlt0:i<way.length:=by omega
  obtain ⟨x,p,hx,hp⟩:=hch i hlt
  obtain ⟨us,hlk,hcx⟩:=(hM way[i]).2 x hx
  have hcx2:=hcx
  obtain ⟨d,f,pv,c2,fa,fc,i2,rfl,hone,hrow,hrowp⟩:=hcx
  obtain ⟨k,hk1,hk2⟩:=find_idx hp
  obtain ⟨bw,ow,capw,u,e1,hrw,hX⟩:=Row.at1 hw (List.getElem?_eq_getElem hlt0)
  cases e1
  have hX:[u]=[sv way[i]]:=hX
  cases hX
  have htl:=fun n x a b c d=>tell170_ct (n:=n) (x:=x) (a:=a) (b:=b) (c:=c) (d:=d) (b1:=b1) (b4:=b4) hw hlt
  obtain ⟨bp,op,pcap,ps,e2,hps,hrdp,hkp⟩:=Row.at hrowp hk2
  subst e2
  have hkl:=(List.getElem?_eq_some_iff.1 hk2).1
  refine cK (xT (cS (cB (cS (cd_drawh (ork [(0,1),(1,1),(2,1),(3,2),(4,2),(5,1),(6,1),(7,0),(8,0)] .nil) (fun i => !(Nat.beq i 8)) mixed (by kernel_rfl) ?_)))))
  refine dr_v Z (vY Z ld83) ?_
  refine dr_v Z (vY Z ld50) ?_
  refine dr_v Z (vY Z ld3) ?_
  refine dV Z (v_sub Z Z (by unfold I64 at *; omega)) (dV Z (vI (k:=i) Z Z sl50 (by omega) hlt0 Z) (dr_v Z (vY Z ld9) ?_))
  refine dr_v Z (v_is (show (slook m way[i]).getD cls0 = .agg ([sv x.name,d,f,.slice (some ⟨bp,op,none⟩) x.parents.length pcap,c2,.slice fa x.feats fc,i2]:List Value).toArray by rw [hlk]; rfl) (v_slookup Z Z mp83 inf54 slq)) ?_
  refine dr_eff Z (st_alc al54 fun b5=>dr_nx ?_)
  refine dr_eff Z (st_stoW Z Z sz54 Z hone (dr_nx ?_))
  refine dr_nil (nK [0,1,2,4,5] Z (nT (cQ (sV (vF Z fa54_3 Z) (sV (vY Z ld49) ?_)))))
  refine sV (v_makeFunc Z Z) (st_clr Z Z en169 Z (IdxP_ct (g:=fun n=>n == way[i+1]) hrowp en170 (fun n x a b c d=>htl n x a b c d)) ?_)
  rw [show (x.parents.findIdx? fun p=>p.name == way[i+1])=some k from hk1]
  refine sA Z (sK [0,1,2,4,5,6] Z (cS (cd_drawh (ork [(0,2),(1,2),(2,2),(3,2),(4,1),(5,2),(6,1),(7,2),(8,2),(9,1),(10,0),(11,2),(12,2)] .nil) (fun i => !(Nat.beq i 10)) mixed (by kernel_rfl) ?_)))
  refine dV Z (vM Z) (dV Z (v_lss Z Z) (dV Z (vM Z) ?_))
  rw [show decide (ixD (some k)<0)=false from decide_eq_false (by show ¬ ((k:Int)<0); omega)]
  refine dp_vg Z Z Z (vM Z) (dr_vg Z Z Z (v_ldn Z ld54 Z rds_pt) ?_)
  refine dp_vg Z Z Z (vF Z fa54_3 Z) (dr_vg Z Z Z (vY Z ld49) ?_)
  refine dp_vg Z Z Z (vM Z) (dp_vg Z Z Z (vI (k:=k) Z Z sl49 Z hkl Z) (dr_vg Z Z Z (v_ldn Z ld79 hps hrdp) ?_))
  refine dr_effg Z Z Z (st_yield (gd:=26) (.inr ⟨_,_,Z,Z,Z⟩) Z Z (hy i s hlt x p _ ps hx hp hcx2 hkp hΦ) (Pk.of (hr:=pt b5 (cl [sv x.name,d,f,.slice (some ⟨bp,op,none⟩) x.parents.length pcap,c2,.slice fa x.feats fc,i2] 54)::pt b4 (cl [.int .i64 ((i+1:Nat):Int)] 3)::pt b1 (cl [.slice (some ⟨bw,ow,none⟩) way.length wc] 50)::pt b2 (cl [.map (some mb)] 83)::hr) (by exact List.perm_append_comm_assoc [pt b5 (cl [sv x.name,d,f,.slice (some ⟨bp,op,none⟩) x.parents.length pcap,c2,.slice fa x.feats fc,i2] 54),pt b4 (cl [.int .i64 ((i+1:Nat):Int)] 3),pt b1 (cl [.slice (some ⟨bw,ow,none⟩) way.length wc] 50),pt b2 (cl [.map (some mb)] 83)] (S::mps mb m::N::Inv s) hr)) (ltn Z) ?_)
  rintro u h' ⟨rfl,s',hs',rfl⟩
  refine dr_nx ?_
  refine dp_vg Z Z Z (v_not Z) (dV Z (vP Z Z) (dr_nil (nK [0,1,2,4,36] Z (nT (cd_vw (h':=pt b5 (cl [sv x.name,d,f,.slice (some ⟨bp,op,none⟩) x.parents.length pcap,c2,.slice fa x.feats fc,i2] 54)::pt b4 (cl [.int .i64 ((i+1:Nat):Int)] 3)::pt b1 (cl [.slice (some ⟨bw,ow,none⟩) way.length wc] 50)::pt b2 (cl [.map (some mb)] 83)::S::mps mb m::N::(Inv s'++hr)) (fun _ hh=>Holds.perm (by exact List.perm_append_comm_assoc (S::mps mb m::N::Inv s') [pt b5 (cl [sv x.name,d,f,.slice (some ⟨bp,op,none⟩) x.parents.length pcap,c2,.slice fa x.feats fc,i2] 54),pt b4 (cl [.int .i64 ((i+1:Nat):Int)] 3),pt b1 (cl [.slice (some ⟨bw,ow,none⟩) way.length wc] 50),pt b2 (cl [.map (some mb)] 83)] hr) hh) ?_)))))
  refine cd_false Z ?_
  refine cK (xB (xT (cS (cQ (sV (vY Z ld3) ?_)))))
  refine sK [0,1,2,4,37] Z (cR (st_alc al3 fun b4=>?_))
  refine st_sto Z Z sz3 ?_
  refine sK [0,1,2,4] Z (cR (sV (vY Z ld3) ?_))
  refine sV (v_add Z Z (by unfold I64 at *; omega)) (st_sto Z Z sz3 ?_)
  refine sN (nK [0,1,2,4] Z (nx_xt ?_))
  rw [show ((i+1:Nat):Int)+1=((i+1+1:Nat):Int) by omega]
  refine xt_aq (b4,i+1,s') ⟨by show i+1≤way.length - 1; omega,hs'⟩ (by show way.length - (i+1)<way.length - i; omega)
 ·have hil:i=way.length - 1:=by have:=of_decide_eq_false hd; omega
  subst hil
  refine cd_exit (xE (xE (xY ?_)))
  exact xt_en Z ⟨Z,s,hΦ,Z⟩ sbq
end
end Go.Hr
