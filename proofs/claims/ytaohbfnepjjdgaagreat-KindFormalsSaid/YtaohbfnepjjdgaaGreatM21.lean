/-
  The reference: Check. Conditions: what is read; small types,not too many classes.
  The reference: opened,Right,Bound. Conditions: what is read; small types,not too many classes.
  The reference: instance,Instance,Seen. Conditions: what is read; small types,not too many classes.
-/
import Derived.Test.YtaohbfnepjjdgaaGreatM20
set_option linter.unusedVariables false
set_option linter.unusedSimpArgs false
namespace Go.Hr
open Go Go.RowKit Go.Ck Go.Proofs Go.Proofs.YtaohbfnepjjdgaaGreat Fx
attribute [local irreducible] Go.Ck.Sub St Cd Xt Nx DrL LsW
section
variable {S T N R:Res} {v:Value} {F:List Fm} {A:List Kt} {l:KS} {s t:Kt} {ts:List Kt} {rows:List (List Value)}
def argZs (l:KS) (F FM:List Fm) (az:List Kt):List Int:=(az.zip (FM.map (·.bound))).map fun q=>argE l F q.1 q.2
theorem argZs_drop {FM:List Fm} {az:List Kt} {m:Nat} (h1:m<az.length) (h2:m<FM.length):(argZs l F FM az).drop m=argE l F az[m] FM[m].bound::(argZs l F FM az).drop (m+1):=by
 have hl:m<(argZs l F FM az).length:=by simp [argZs]; omega
 rw [List.drop_eq_getElem_cons hl]
 simp [argZs]
theorem argZs_end {FM:List Fm} {az:List Kt} {m:Nat} (h2:FM.length≤m):(argZs l F FM az).drop m=[]:=List.drop_eq_nil_of_le (by simp [argZs]; omega)
theorem head_right (h1:(check (ksys l)).1=0) (h2:(firstAt (formalsE l) l).1=0):HRight l:=⟨check_zero.1 h1,firstAt_zero h2⟩
theorem parents_drop {x:KC} {k:Nat} (h:k<x.parents.length):(x.parents.drop k).map (parentE l x)=parentE l x x.parents[k]::(x.parents.drop (k+1)).map (parentE l x):=by rw [List.drop_eq_getElem_cons h,List.map_cons]
set_option maxHeartbeats 8000000 in
set_option maxRecDepth 100000 in
theorem CheckR_ct (hv : ksysR S v l) (ht : Tiny l) (hl : l.length ≤ 1000000) : Ct Tryz.prog 14 #[v] [S] fun u h' => u = .tuple #[.int .i64 (kcheck l).1, sv (kcheck l).2] ∧ h' = [S] := by
 have hml:maxLen=9223372036854775807:=rfl
 have hsl:(ksys l).length≤1000000:=by simpa [ksys] using hl
 have hck:=CheckS_ct hv.sys hsl
 have hhd:=headers_ct hv
 have htb:=fun hH=>tablesR_ct hH hv (fun x hx p hp a ha=>(ht x hx p hp a ha).1)
 obtain ⟨va,vc,rfl,hlcv,hcmv,_⟩:=id hv
 refine ct_of (n:=119) Tryz.func14 Z Z (len Z) fun hr w0=>?_
 refine cQ (sA Z (sA Z (sN (nT (cQ (sM Z (st_cl Z Z en47 Z (hck) ?_)))))))
 rintro u h' ⟨rfl,rfl⟩
 simp only [lC,lN]
 refine st_alc al89 fun b4=>?_
 refine st_stoW Z Z sz89 Z Z ?_
 refine sK [0,2,3,4] Z (cS (cQ (sV (vF Z fa89_0 Z) (sV (vY Z ld29) ?_))))
 refine sV (v_neq Z Z) (sK [0,2,3,4,17] Z (cC Z (fun hc=>?_) (fun hc=>?_)))
 ·have hc:(check (ksys l)).1≠0:=by simpa using hc
  rw [show kcheck l=check (ksys l) from if_pos hc]
  refine cS (cd_drawh (ork [(0,2),(1,1),(2,2),(3,1),(4,2),(5,2)] .nil) (fun _=>true) mixed (by kernel_rfl) ?_)
  refine dV Z (vF Z fa89_0 Z) (dr_v Z (vY Z ld29) ?_)
  refine dV Z (vF Z fa89_1 Z) (dr_v Z (vY Z ld9) ?_)
  refine dV Z (vA Z) (dV Z (vA Z) (dr_nil (nK [2,3] Z (nT (cT (xR ?_))))))
  exact xt_rt Z ⟨Z,Z⟩ sbq
 ·have hc:(check (ksys l)).1=0:=by simpa using hc
  rw [kcheck_at hc]
  refine cK (xT (cQ (sM Z (st_clr Z Z en48 Z (hhd) ?_))))
  refine sM Z (sV (v_extract Z Z) (sV (v_extract Z Z) (sA Z (sA Z (sK [0,2,3,5,6] Z (cS (cQ (sM Z (sV (v_neq Z Z) (sK [0,2,3,5,6,28] Z (cC Z (fun hh=>?_) (fun hh=>?_))))))))))))
  ·have hh:(firstAt (formalsE l) l).1≠0:=by simpa using hh
   rw [if_pos hh]
   refine cQ (sM Z (sM Z (sA Z (sA Z (sK [2,3] Z (cT (xR ?_)))))))
   exact xt_rt Z ⟨Z,Z⟩ sbq
  ·have hh:(firstAt (formalsE l) l).1=0:=by simpa using hh
   have hH:HRight l:=head_right hc hh
   have htb:=htb hH
   rw [if_neg (by simpa using hh)]
   refine cK (xT (cS (cQ (sA Z (sK [0,2,3,5,6,7] Z (cB (cd_lq (σ := Nat) (fun i=>[(0,.slice va l.length vc),(7,.int .i64 (i:Nat))]) (fun _=>S::hr) (fun i=>i≤l.length∧firstAt (parentsE l) l=firstAt (parentsE l) (l.drop i)) (fun i=>l.length - i) 0 ⟨Nat.zero_le _,Z⟩ ?_)))))))
   rintro i ⟨hi,hal⟩
   refine cS (cQ (sM Z (sM Z (sV (v_len Z Tryz.underlying22) (sV (v_lss Z Z) (sK [0,7,34] Z (cC Z (fun hd=>?_) (fun hd=>?_))))))))
   ·have hlt:i<l.length:=by simpa using hd
    have hxl:=List.getElem_mem hlt
    obtain ⟨b,o,cap2,us,e1,_,hrd,d,f,pv,c2,ffa,ffc,i2,rfl,hone,hrow,hrowp⟩:=Row.at hv (List.getElem?_eq_getElem hlt)
    cases e1
    rw [List.drop_eq_getElem_cons hlt,firstAt] at hal
    generalize l[i]=x at hrd hone hrow hrowp hal hxl
    obtain ⟨fa,fcap,rfl,hlc2,hcm2,_⟩:=id hrow
    obtain ⟨pa,pcap,rfl,hplc,hpcm,_⟩:=id hrowp
    have hE:∀ e:Int,e≠0→parentsE l x=e→(if (firstAt (parentsE l) l).1≠0 then firstAt (parentsE l) l else tabsE (tabs l))=(e,x.name):=fun e he h=>by
     rw [h,if_pos he] at hal
     rw [hal]; exact if_pos he
    refine cK (xT (cS (cB (cQ (sA Z (sK [0,7,8] Z (cB (cd_lq (σ := Nat) (fun k=>[(0,.slice (some ⟨b,o,none⟩) l.length vc),(7,.int .i64 (i:Nat)),(8,.int .i64 (k:Nat))]) (fun _=>S::hr) (fun k=>k≤x.parents.length∧parentsE l x=firstE ((x.parents.drop k).map (parentE l x))) (fun k=>x.parents.length - k) 0 ⟨Nat.zero_le _,Z⟩ ?_))))))))
    rintro k ⟨hk,hak⟩
    refine cS (cQ (sM Z (sM Z (sM Z (sV (vI (k:=i) Z Z sl22 Z hlt Z) (sV (vF Z fa54_3 Z) (sV (vY Z ld49) ?_)))))))
    refine sV (v_len Z Tryz.underlying49) (sV (v_lss Z Z) (sK [0,7,8,44] Z (cC Z (fun hdk=>?_) (fun hdk=>?_))))
    ·have hltk:k<x.parents.length:=by simpa using hdk
     have hpm:=List.getElem_mem hltk
     obtain ⟨bq,oq,capq,us,e2,hus,hrdp,hXp⟩:=Row.at hrowp (List.getElem?_eq_getElem hltk)
     cases e2
     rw [parents_drop hltk,firstE] at hak
     generalize x.parents[k]=p at hpm hXp hak
     have hsm:=ht x hxl p hpm
     obtain ⟨y,p1,p2,p3,p4,rfl,hone2,hy⟩:=hXp
     obtain ⟨ya,yc,rfl,hyl,hym,_⟩:=id hy.form
     obtain ⟨_,hk4⟩ | ⟨ky,hk3,hky,hxy⟩:=kidx_find l p.name
     ·have:=hH.right.all _ (ksys_mem hxl) p.name (List.mem_map_of_mem hpm)
      rw [← kfind_isC,hk4] at this; cases this
     have hix2:ixD (kidx l p.name)=(ky:Int):=by rw [hk3]; rfl
     have hbd:∀ (i:Nat) f,(fmsOf l p.name)[i]? = some f→f.bound=root∨isC (ksys l) f.bound=true:=fun i f hf=>hH.bnd (n:=p.name) hf
     obtain ⟨bl2,ol2,capl2,us2,e0,_,hrd2,dd,ff2,pv2,cc2,ffa2,ffc2,i3,rfl,_,hrow3,_⟩:=Row.at hv (List.getElem?_eq_getElem hky)
     cases e0
     have hpe:parentE l x p=if p.args.length≠(fmsOf l p.name).length then 8 else firstE (argZs l x.formals (fmsOf l p.name) p.args):=rfl
     rw [← show fmsOf l p.name=l[ky].formals from fmsOf_some hxy] at hrow3
     generalize fmsOf l p.name=FM at hrow3 hbd hpe
     obtain ⟨qa,qcap,rfl,hql,hqm,_⟩:=id hrow3
     have hE2:∀ e:Int,e≠0→parentE l x p=e→(if (firstAt (parentsE l) l).1≠0 then firstAt (parentsE l) l else tabsE (tabs l))=(e,x.name):=fun e he h=>hE e he (by rw [hak,h,if_pos he])
     refine cK (xT (cS (cB (cQ (sM Z (sM Z (sV (vI (k:=i) Z Z sl22 Z hlt Z) (sV (vF Z fa54_3 Z) (sV (vY Z ld49) ?_)))))))))
     refine sM Z (sV (vI (k:=k) Z Z sl49 Z hltk Z) (sV (v_ldn Z ld79 Z hrdp) ?_))
     refine st_alc al79 fun b9=>?_
     refine st_stoW Z Z sz79 Z hone2 ?_
     refine sK [0,7,8,9] Z (cQ (sM Z (sM Z (sV (vF Z fa79_0 Z) (sV (vY Z ld9) ?_)))))
     refine st_clr Z Z en49 Z (findR_ct hv p.name) ?_
     rw [hix2]
     refine sV (vI (k:=ky) Z Z sl22 Z hky Z) (sV (vF Z fa54_2 Z) (sV (vY Z ld48) ?_))
     refine sA Z (sK [0,7,8,9,10] Z (cS (cQ (sV (vF Z fa79_1 Z) (sV (vY Z ld23) ?_)))))
     refine sV (v_len Z Tryz.underlying23) (sM Z (sV (v_len Z Tryz.underlying48) (sV (v_neq Z Z) (sK [0,7,8,9,10,68] Z (cC Z (fun hq=>?_) (fun hq=>?_))))))
     ·rw [if_pos (by have:=bne_iff_ne.1 hq; omega)] at hpe
      rw [hE2 8 (by decide) hpe]
      refine cS (cd_drawh (ork [(0,2),(1,2),(2,2),(3,2),(4,1),(5,2),(6,2)] .nil) (fun _=>true) mixed (by kernel_rfl) ?_)
      refine dV Z (vM Z) (dV Z (vM Z) (dV Z (vI (k:=i) Z Z sl22 Z hlt Z) (dV Z (vF Z fa54_0 Z) (dr_v Z (vY Z ld9) ?_))))
      refine dV Z (vA Z) (dV Z (vA Z) (dr_nil (nK [2,3] Z (nT (cT (xR (xW (xR (xR (xW (xW (xR (xR (xW (xR ?_)))))))))))))))
      exact xt_rt Z ⟨Z,Z⟩ sbq
     ·have hle:p.args.length=FM.length:=by
       have hq:((p.args.length:Int) != (FM.length:Nat))=false:=hq
       rw [bne_eq_false_iff_eq] at hq; omega
      rw [if_neg (by omega)] at hpe
      refine cK (xT (cQ (sA Z (sK [0,7,8,9,10,11] Z (cB (cd_lq (σ := Nat) (fun m=>[(0,.slice (some ⟨b,o,none⟩) l.length vc),(7,.int .i64 (i:Nat)),(8,.int .i64 (k:Nat)),(9,.pointer (some ⟨b9,0,none⟩)),(10,.slice qa FM.length qcap),(11,.int .i64 (m:Nat))]) (fun _=>pt b9 (cl [sv p.name,.slice ya p.args.length yc,p1,p2,p3,p4] 79)::S::hr) (fun m=>m≤FM.length∧parentE l x p=firstE ((argZs l x.formals FM p.args).drop m)) (fun m=>FM.length - m) 0 ⟨Nat.zero_le _,hpe⟩ ?_))))))
      rintro m ⟨hm,ham⟩
      refine cS (cQ (sM Z (sM Z (sV (v_len Z Tryz.underlying48) (sV (v_lss Z Z) (sK [0,7,8,9,10,11,77] Z (cC Z (fun hdm=>?_) (fun hdm=>?_))))))))
      ·have hltm:m<FM.length:=by simpa using hdm
       have hlta:m<p.args.length:=by omega
       have hmem:=List.getElem_mem hlta
       obtain ⟨ba,oa,capa,us,e3,hus,hrda,hta⟩:=hy.at (List.getElem?_eq_getElem hlta)
       cases e3
       have hgf:=List.getElem?_eq_getElem hltm
       obtain ⟨bf,of,capf,e4,hrf⟩:=fm_at hrow3 hgf
       cases e4
       have hbf:=hbd m _ hgf
       rw [argZs_drop hlta hltm,firstE] at ham
       generalize p.args[m]=a at hmem hta ham
       generalize FM[m]=f at hgf hrf hbf ham
       obtain ⟨hsp,hsd⟩:=hsm a hmem
       have hde:=deep_ct hsd hta
       obtain ⟨z,rfl,hz⟩:=hta.out
       have hri:=rightR_go hH hv hxl (n0:=sv x.name) (d:=d) (pv:=.slice (some ⟨bq,oq,none⟩) x.parents.length pcap) (c2:=c2) (fs:=.slice ffa x.feats ffc) (ii:=i2) hrow a.depth a z (Nat.le_refl _) hz
       obtain ⟨za,zc,rfl,_⟩:=id hz.form
       have hac:=argument_of hH hv hxl hrow hbf hri
       unfold tyC at hac hrda hde
       unfold fmA at hrf
       have hge:argE l x.formals a f.bound=if 40<a.depth then 3 else actE l x.formals a f.bound:=rfl
       have hE3:∀ e:Int,e≠0→argE l x.formals a f.bound=e→(if (firstAt (parentsE l) l).1≠0 then firstAt (parentsE l) l else tabsE (tabs l))=(e,x.name):=fun e he h=>hE2 e he (by rw [ham,h,if_pos he])
       refine cK (xT (cS (cB (cS (cd_drawh (ork [(0,2),(1,2),(2,2),(3,2),(4,1),(5,2),(6,1),(7,2),(8,2),(9,1),(10,2),(11,2),(12,2),(13,2),(14,1),(15,1),(16,2)] .nil) (fun _=>true) mixed (by kernel_rfl) ?_)))))
       refine dV Z (vM Z) (dV Z (vM Z) (dV Z (vM Z) (dV Z (vI (k:=i) Z Z sl22 Z hlt Z) (dr_v Z (v_ldn Z ld54 Z hrd) ?_))))
       refine dV Z (vF Z fa79_1 Z) (dr_v Z (vY Z ld23) ?_)
       refine dV Z (vM Z) (dV Z (vI (k:=m) Z Z sl23 Z hlta Z) (dr_v Z (v_ldn Z ld25 Z hrda) ?_))
       refine dV Z (vM Z) (dV Z (vM Z) (dV Z (vI (k:=m) Z Z sl48 Z hltm Z) (dV Z (vF Z fa94_1 Z) (dr_v Z (vY Z ld9) ?_))))
       refine dr_clr Z Z Z en50 Z (hac) ?_
       refine dV Z (vA Z) (dr_nil (nK [0,7,8,9,10,11,12] Z (nT (cS (cQ (sV (vF Z fa79_1 Z) (sV (vY Z ld23) ?_)))))))
       refine sM Z (sV (vI (k:=m) Z Z sl23 Z hlta Z) (sV (v_ldn Z ld25 Z hrda) ?_))
       refine st_clr Z Z en51 Z (hde) ?_
       refine sV (v_gtr Z Z) (sK [0,7,8,9,10,11,12,102] Z (cC Z (fun hq40=>?_) (fun hq40=>?_)))
       ·rw [if_pos (by have:=of_decide_eq_true hq40; omega)] at hge
        rw [hE3 3 (by decide) hge]
        refine cR (sA Z (sK [0,7,8,9,10,11,12] Z (cQ (sM Z (sV (v_neq Z Z) (sK [0,7,8,9,10,11,12,104] Z (cd_true Z ?_)))))))
        refine cS (cd_drawh (ork [(0,2),(1,2),(2,2),(3,2),(4,2),(5,1),(6,2),(7,2)] .nil) (fun _=>true) mixed (by kernel_rfl) ?_)
        refine dV Z (vM Z) (dV Z (vM Z) (dV Z (vM Z) (dV Z (vI (k:=i) Z Z sl22 Z hlt Z) (dV Z (vF Z fa54_0 Z) (dr_v Z (vY Z ld9) ?_)))))
        refine dV Z (vA Z) (dV Z (vA Z) (dr_nil (nK [2,3] Z (nT (cT (xW (xR (xR (xW (xW (xR (xR (xW (xW (xR ?_)))))))))))))))
        refine xR (xW (xR ?_))
        exact xt_rt Z ⟨Z,Z⟩ sbq
       ·rw [if_neg (by have:=of_decide_eq_false hq40; omega)] at hge
        refine cK (xT (cQ (sM Z (sV (v_neq Z Z) (sK [0,7,8,9,10,11,12,104] Z (cC Z (fun he=>?_) (fun he=>?_)))))))
        ·have he:actE l x.formals a f.bound≠0:=by simpa using he
         rw [hE3 _ he hge]
         refine cS (cd_drawh (ork [(0,2),(1,2),(2,2),(3,2),(4,2),(5,1),(6,2),(7,2)] .nil) (fun _=>true) mixed (by kernel_rfl) ?_)
         refine dV Z (vM Z) (dV Z (vM Z) (dV Z (vM Z) (dV Z (vI (k:=i) Z Z sl22 Z hlt Z) (dV Z (vF Z fa54_0 Z) (dr_v Z (vY Z ld9) ?_)))))
         refine dV Z (vA Z) (dV Z (vA Z) (dr_nil (nK [2,3] Z (nT (cT (xW (xR (xR (xW (xW (xR (xR (xW (xW (xR ?_)))))))))))))))
         refine xR (xW (xR ?_))
         exact xt_rt Z ⟨Z,Z⟩ sbq
        ·have he:actE l x.formals a f.bound=0:=by simpa using he
         rw [hge,he,if_neg (by decide)] at ham
         refine cK (xB (xT (cR (sM Z (sV (v_add Z Z (by unfold I64 at *; omega)) (sA Z (sN (nK [0,7,8,9,10,11] Z (nx_xt ?_)))))))))
         refine xt_aq (m+1) ⟨hltm,ham⟩ (Nat.sub_lt_sub_left hltm (Nat.lt_succ_self m))
      ·have hml2:FM.length≤m:=by
        have:¬ m<FM.length:=by simpa using hdm
        omega
       rw [argZs_end hml2,firstE] at ham
       rw [ham,if_neg (by decide)] at hak
       refine cd_exit (xE (xE (xY (xB (xT (cR (sM Z (sV (v_add Z Z (by unfold I64 at *; omega)) (sA Z (sN (nK [0,7,8] Z (nx_xt ?_))))))))))))
       refine xt_aq (k+1) ⟨hltk,hak⟩ (Nat.sub_lt_sub_left hltk (Nat.lt_succ_self k))
    ·have hkl:k=x.parents.length:=by
      have:¬ k<x.parents.length:=by simpa using hdk
      omega
     rw [hkl,List.drop_length,List.map_nil,firstE] at hak
     rw [hak,if_neg (by decide)] at hal
     refine cd_exit (xE (xE (xY (xB (xT (cR (sM Z (sV (v_add Z Z (by unfold I64 at *; omega)) (sA Z (sN (nK [0,7] Z (nx_xt ?_))))))))))))
     refine xt_aq (i+1) ⟨hlt,hal⟩ (Nat.sub_lt_sub_left hlt (Nat.lt_succ_self i))
   ·have hil:i=l.length:=by
     have:¬ i<l.length:=by simpa using hd
     omega
    rw [hil,List.drop_length,firstAt] at hal
    rw [hal,if_neg (by decide)]
    refine cd_exit (xE (xE (xY (xT (cQ (sM Z (st_cl Z Z en52 Z (htb) ?_)))))))
    rintro u h' ⟨T,rfl,mv,rfl,hmv,_⟩
    simp only [lC,lN]
    refine sM Z (sV (v_extract Z Z) (sV (v_extract Z Z) (sV (v_extract Z Z) (sA Z (sA Z (sK [5,6] Z (cQ (sM Z (sM Z (sA Z (sA Z (sK [2,3] Z ?_))))))))))))
    refine cT ?_
    exact xt_rt Z ⟨Z,Z⟩ sbq
end
end Go.Hr
namespace Go.Hr
open Go Go.RowKit Go.Ck Go.Proofs Go.Proofs.YtaohbfnepjjdgaaGreat Fx
attribute [local irreducible] Go.Ck.Sub St Cd Xt Nx DrL LsW
section
variable {S T N R:Res} {v:Value} {F:List Fm} {A:List Kt} {l:KS} {s t:Kt} {ts:List Kt} {rows:List (List Value)}
def cls0C:List Value:=[sv [],.bool false,.slice none 0 0,.slice none 0 0,.slice none 0 0,.slice none 0 0,.slice none 0 0]
set_option maxHeartbeats 4000000 in
set_option maxRecDepth 100000 in
theorem openedR_ct (hv : ksysR S v l) (ht : Tiny l) (hl : l.length ≤ 1000000) (c : Nm) {tv : Value} (hts : Tys S tv ts) (hdt : ∀ t ∈ ts, t.depth ≤ 1000000) :
  Ct Tryz.prog 55 #[v,sv c,tv] [S] fun u h'=>∃ cs:List Value,u = .tuple #[.agg cs.toArray,.int .i64 (askedE l c ts)]∧h'=[S]∧cs.length=7∧cs.all Value.oneCell'=true∧(askedE l c ts=0→∃ x,kfind l c=some x∧kclsC S cs x):=by
 have hml:maxLen=9223372036854775807:=rfl
 have hck:=CheckR_ct hv ht hl
 obtain ⟨ta,tc,rfl,htlc,htcm,_⟩:=id hts.form
 obtain ⟨va,vc,rfl,hlcv,hcmv,_⟩:=id hv
 refine ct_of (n:=52) Tryz.func55 Z Z (len Z) fun hr w0=>?_
 refine cQ (st_alc al54 fun b6=>?_)
 refine sA Z (sN (nT (cQ (sM Z (st_cl Z Z en14 Z (hck) ?_)))))
 rintro u h' ⟨rfl,rfl⟩
 simp only [lC,lN]
 refine sM Z (sV (v_extract Z Z) (sV (v_extract Z Z) (sA Z (sA Z (sK [0,1,2,6,7,8] Z (cS (cQ (sM Z (sV (v_neq Z Z) (sK [0,1,2,6,7,8,19] Z (cC Z (fun hc=>?_) (fun hc=>?_))))))))))))
 ·have hc:(kcheck l).1≠0:=by simpa using hc
  have hk:askedE l c ts=(kcheck l).1:=if_pos hc
  rw [hk]
  refine cQ (sV (v_build (cells:=cls0C) Z (fun _=>by kernel_rfl)) ?_)
  refine sM Z (st_stoW Z Z sz54 Z Z ?_)
  refine sA Z (sK [6,7] Z (cT (xR ?_)))
  exact xt_retV (.cellN Z ld54 Z slq (.tmp Z .nil)) ⟨cls0C,Z,Z,Z,Z,fun h=>absurd h hc⟩ sbr
 ·have hc:(kcheck l).1=0:=by simpa using hc
  obtain ⟨all,hK⟩:=kcheck_zero.1 hc
  have hk:askedE l c ts=match kfind l c with
   | none=>5
   | some x=>firstE (ts.map (rightK l x.formals)):=if_neg (by simpa using hc)
  rw [hk]
  refine cK (xT (cQ (sM Z (sM Z (st_clr Z Z en49 Z (findR_ct hv c) ?_)))))
  obtain ⟨hk1,hk2⟩ | ⟨j,hk1,hkj,hk2⟩:=kidx_find l c
  ·rw [show ixD (kidx l c) = -1 by rw [hk1]; rfl,hk2]
   refine sA Z (sK [0,2,6,7,10] Z (cS (cQ (sM Z (sV (v_lss Z Z) (sK [0,2,6,7,10,26] Z (cd_true Z ?_)))))))
   refine cQ (sV (v_build (cells:=cls0C) Z (fun _=>by kernel_rfl)) ?_)
   refine st_stoW Z Z sz54 Z Z ?_
   refine sA Z (sK [6,7] Z (cT (xR ?_)))
   exact xt_retV (.cellN Z ld54 Z slq (.tmp Z .nil)) ⟨cls0C,Z,Z,Z,Z,fun h=>absurd (show (5:Int)=0 from h) (by decide)⟩ sbr
  ·rw [show ixD (kidx l c) = (j : Int) by rw [hk1]; rfl, hk2]
   obtain ⟨hxn,hxl⟩:=kfind_some hk2
   obtain ⟨bl,ol,capl,us,e0,_,hrd0,hcx⟩:=Row.at hv (List.getElem?_eq_getElem hkj)
   cases e0
   generalize l[j]=x at hk2 hxn hxl hrd0 hcx
   have hcx2:=hcx
   obtain ⟨d,ff,pv,c2,ffa,ffc,i2,rfl,hone,hrow,_⟩:=hcx
   obtain ⟨fa,fcap,rfl,_⟩:=id hrow
   simp only []
   refine sA Z (sK [0,2,6,7,10] Z (cS (cQ (sM Z (sV (v_lss Z Z) (sK [0,2,6,7,10,26] Z ?_))))))
   rw [show decide ((j:Int)<0)=false from decide_eq_false (by omega)]
   refine cd_false Z ?_
   refine cK (xT (cS (cQ (sA Z (sK [0,2,6,7,10,11] Z (cB (cd_lq (σ := Nat) (fun i=>[(0,.slice (some ⟨bl,ol,none⟩) l.length vc),(2,.slice ta ts.length tc),(6,.pointer (some ⟨b6,0,none⟩)),(10,.int .i64 (j:Nat)),(11,.int .i64 (i:Nat))]) (fun _=>pt b6 (cl cls0C 54)::S::hr) (fun i=>i≤ts.length∧firstE (ts.map (rightK l x.formals))=firstE ((ts.drop i).map (rightK l x.formals))) (fun i=>ts.length - i) 0 ⟨Nat.zero_le _,Z⟩ ?_)))))))
   rintro i ⟨hi,hal⟩
   refine cS (cQ (sM Z (sM Z (sV (v_len Z Tryz.underlying23) (sV (v_lss Z Z) (sK [0,2,6,10,11,31] Z (cC Z (fun hd=>?_) (fun hd=>?_))))))))
   ·have hlt:i<ts.length:=by simpa using hd
    have hmt:=List.getElem_mem hlt
    obtain ⟨b,o,cap2,us,e1,hus,hrd,hta⟩:=hts.at (List.getElem?_eq_getElem hlt)
    cases e1
    rw [List.drop_eq_getElem_cons hlt,List.map_cons,firstE] at hal
    generalize ts[i]=t at hmt hta hal
    have hri:=rightIn_ct hK.head hv hxl (n0:=sv x.name) (d:=d) (pv:=pv) (c2:=c2) (fs:=.slice ffa x.feats ffc) (ii:=i2) hrow hta (hdt t hmt)
    obtain ⟨y,rfl,hy⟩:=hta.out
    obtain ⟨ya,yc,rfl,_⟩:=id hy.form
    unfold tyC at hrd hri
    refine cK (xT (cS (cB (cS (cd_drawh (ork [(0,2),(1,2),(2,2),(3,2),(4,1),(5,2),(6,2),(7,2),(8,1),(9,1),(10,2)] .nil) (fun _=>true) mixed (by kernel_rfl) ?_)))))
    refine dV Z (vM Z) (dV Z (vM Z) (dV Z (vM Z) (dV Z (vI (k:=j) Z Z sl22 Z hkj Z) (dr_v Z (v_ldn Z ld54 Z hrd0) ?_))))
    refine dV Z (vM Z) (dV Z (vM Z) (dV Z (vI (k:=i) Z Z sl23 Z hlt Z) (dr_v Z (v_ldn Z ld25 Z hrd) ?_)))
    refine dr_clr Z Z Z en95 Z (hri) ?_
    refine dV Z (vA Z) (dr_nil (nK [0,2,6,10,11,12] Z (nT (cQ (sM Z (sV (v_neq Z Z) (sK [0,2,6,10,11,12,45] Z (cC Z (fun he=>?_) (fun he=>?_)))))))))
    ·have he:rightK l x.formals t≠0:=by simpa using he
     rw [hal,if_pos he]
     refine cQ (sV (v_build (cells:=cls0C) Z (fun _=>by kernel_rfl)) ?_)
     refine sM Z (st_stoW Z Z sz54 Z Z ?_)
     refine sA Z (sK [6,7] Z (cT (xW (xR (xR (xW (xR ?_)))))))
     exact xt_retV (.cellN Z ld54 Z slq (.tmp Z .nil)) ⟨cls0C,Z,Z,Z,Z,fun h=>absurd h he⟩ sbr
    ·have he:rightK l x.formals t=0:=by simpa using he
     rw [if_neg (by simpa using he)] at hal
     refine cK (xB (xT (cR (sM Z (sV (v_add Z Z (by unfold I64 at *; omega)) (sA Z (sN (nK [0,2,6,10,11] Z (nx_xt ?_)))))))))
     refine xt_aq (i+1) ⟨hlt,hal⟩ (Nat.sub_lt_sub_left hlt (Nat.lt_succ_self i))
   ·have hil:i=ts.length:=by
     have:¬ i<ts.length:=by simpa using hd
     omega
    rw [hal,hil,List.drop_length]
    refine cd_exit (xE (xE (xY (xT (cQ (sM Z (sM Z (sV (vI (k:=j) Z Z sl22 Z hkj Z) (sV (v_ldn Z ld54 Z hrd0) ?_)))))))))
    refine st_stoW Z Z sz54 Z hone ?_
    refine sA Z (sK [6,7] Z (cT ?_))
    exact xt_retV (.cellN Z ld54 Z slq (.tmp Z .nil)) ⟨_,Z,Z,Z,hone,fun _=>⟨x,Z,hcx2⟩⟩ sbr
set_option maxRecDepth 100000 in
theorem RightR_ct (hv:ksysR S v l) (ht:Tiny l) (hl:l.length≤1000000) (c:Nm) {us:List Value} (hu:Ty S us t) (hd:t.depth≤1000000):Ct Tryz.prog 18 #[v,sv c,.agg us.toArray] [S] fun u h'=>u = .int .i64 (askedE l c [t])∧h'=[S]:=by
 obtain ⟨va,vc,rfl,_⟩:=id hv
 have h1:=fun b hok=>openedR_ct (hv.mono (rd_in (.there .here))) ht hl c (tys_one (b:=b) hu hok) (fun s hs=>by simp at hs; subst hs; exact hd)
 obtain ⟨y,rfl,hy⟩:=hu.out
 obtain ⟨ya,yc,rfl,_⟩:=id hy.form
 refine ct_of (n:=18) Tryz.func18 Z Z (len Z) fun hr w0=>?_
 refine cQ (st_bx Z Z fun b5=>?_)
 refine sA Z (sK [0,1,5,6] Z (cQ (sM Z (sM Z (sV (v_ldn Z ld25 Z rds_pt) ?_)))))
 refine st_buildSlice (cells:=tyC t (.slice ya t.args.length yc)) Z Tryz.underlying23 inf25 Z Z (by kernel_rfl) (ltn Z) fun b13=>?_
 refine st_pv (pv_of (b:=b13) (n:=1) (sz:=5) (E:=25) [tyC t (.slice ya t.args.length yc)] Z (by simp [tyC]) Z (by decide)) ?_
 simp only [lC,lN]
 refine st_ok (r:=VR (.slice (some ⟨b13,0,none⟩) 1 1) 25 5 [tyC t (.slice ya t.args.length yc)]) slq fun hok=>?_
 refine st_pv (pv_pack (L:=[VR (.slice (some ⟨b13,0,none⟩) 1 1) 25 5 [tyC t (.slice ya t.args.length yc)],S])) ?_
 simp only [lC,lN]
 refine st_cl Z Z en55 Z (h1 b13 hok) ?_
 rintro u h' ⟨cs,rfl,rfl,hcl,hco,_⟩
 simp only [lC,lN]
 refine st_pv (pv_unpack (L:=[VR (.slice (some ⟨b13,0,none⟩) 1 1) 25 5 [tyC t (.slice ya t.args.length yc)],S])) ?_
 simp only [lC,lN]
 refine sM Z (sV (v_extract Z Z) (sV (v_extract Z Z) (st_alc al54 fun b7=>?_)))
 refine st_stoW (vs:=cs) (hl:=by rw [hcl]; rfl) Z Z sz54 hcl hco ?_
 refine sA Z (sK [6,8] Z (cQ (sM Z (sA Z (sK [6] Z (cT ?_))))))
 exact xt_rt Z ⟨Z,Z⟩ sbq
set_option maxRecDepth 100000 in
theorem BoundR_ct (hv : ksysR S v l) (ht : Tiny l) (hl : l.length ≤ 1000000) (c n : Nm) : Ct Tryz.prog 31 #[v, sv c, sv n] [S] fun u h' => u = .tuple #[.agg (tyC (boundK l c n).1 (.slice none 0 0)).toArray, .int .i64 (boundK l c n).2] ∧ h' = [S] := by
 obtain ⟨va,vc,rfl,_⟩:=id hv
 have h1:=openedR_ct hv ht hl c Tys.nil (by simp)
 unfold boundK
 refine ct_of (n:=35) Tryz.func31 Z Z (len Z) fun hr w0=>?_
 refine cQ (st_alc al25 fun b6=>?_)
 refine sA Z (sN (nT (cQ (sM Z (sM Z (st_cl Z Z en55 Z (h1) ?_))))))
 rintro u h' ⟨cs,rfl,rfl,hcl,hco,hcx⟩
 simp only [lC,lN]
 refine sM Z (sV (v_extract Z Z) (sV (v_extract Z Z) (st_alc al54 fun b8=>?_)))
 refine st_stoW (vs:=cs) (hl:=by rw [hcl]; rfl) Z Z sz54 hcl hco ?_
 refine sA Z (sK [2,6,7,8,9] Z (cS (cQ (sM Z (sV (v_neq Z Z) (sK [2,6,7,8,9,18] Z (cC Z (fun hc=>?_) (fun hc=>?_))))))))
 ·have hc:askedE l c []≠0:=by simpa using hc
  rw [if_pos hc]
  refine cQ (sV (v_build (cells:=[.int .i64 0,sv [],.slice none 0 0,.bool false,.bool false]) Z (fun _=>by kernel_rfl)) ?_)
  refine sM Z (st_stoW Z Z sz25 Z Z ?_)
  refine sA Z (sK [6,7] Z (cT (xR ?_)))
  exact xt_retV (.cellN Z ld25 Z slq (.tmp Z .nil)) ⟨Z,Z⟩ sbr
 ·have hc:askedE l c []=0:=by simpa using hc
  rw [if_neg (by simpa using hc)]
  obtain ⟨x,hx,d,ff,pv,c2,ffa,ffc,i2,rfl,hone,hrow,_⟩:=hcx hc
  obtain ⟨fa,fcap,rfl,_⟩:=id hrow
  rw [fmsOf_some hx]
  refine cK (xT (cQ (sV (vF Z fa54_2 Z) (sV (vY Z ld48) ?_))))
  refine sM Z (st_clr Z Z en66 Z (formalR_ct hrow n) ?_)
  cases hf:fidx x.formals n with
  | none =>
   rw [fmAt_none hf]
   refine sA Z (sK [6,7,8,10] Z (cS (cQ (sM Z (sV (v_lss Z Z) (sK [6,7,8,10,26] Z (cd_true Z ?_)))))))
   refine cQ (sV (v_build (cells:=[.int .i64 0,sv [],.slice none 0 0,.bool false,.bool false]) Z (fun _=>by kernel_rfl)) ?_)
   refine st_stoW Z Z sz25 Z Z ?_
   refine sA Z (sK [6,7] Z (cT (xR ?_)))
   exact xt_retV (.cellN Z ld25 Z slq (.tmp Z .nil)) ⟨Z,Z⟩ sbr
  | some i =>
   obtain ⟨hi,hfa⟩:=fidx_at hf
   rw [hfa]
   obtain ⟨b,o,cap2,e1,hrd⟩:=fm_at hrow (List.getElem?_eq_getElem hi)
   cases e1
   generalize x.formals[i]=f at hrd
   unfold fmA at hrd
   rw [show ixD (some i)=(i:Int) from rfl]
   simp only []
   refine sA Z (sK [6,7,8,10] Z (cS (cQ (sM Z (sV (v_lss Z Z) (sK [6,7,8,10,26] Z ?_))))))
   rw [show decide ((i:Int)<0)=false from decide_eq_false (by omega)]
   refine cd_false Z ?_
   refine cK (xT (cQ (sV (vF Z fa54_2 Z) (sV (vY Z ld48) ?_))))
   refine sM Z (sV (vI (k:=i) Z Z sl48 Z hi Z) (sV (vF Z fa94_1 Z) (sV (vY Z ld9) ?_)))
   refine sV (v_build (cells:=[.int .i64 3,sv f.bound,.slice none 0 0,.bool false,.bool false]) Z (fun _=>by kernel_rfl)) ?_
   refine st_stoW Z Z sz25 Z Z ?_
   refine sA Z (sK [6,7] Z (cT ?_))
   exact xt_retV (.cellN Z ld25 Z slq (.tmp Z .nil)) ⟨Z,Z⟩ sbr
end
end Go.Hr
namespace Go.Hr
open Go Go.RowKit Go.Ck Go.Proofs Go.Proofs.YtaohbfnepjjdgaaGreat Fx
attribute [local irreducible] Go.Ck.Sub St Cd Xt Nx DrL LsW
section
variable {S T N R:Res} {v:Value} {F:List Fm} {A:List Kt} {l:KS} {s t:Kt} {ts:List Kt} {rows:List (List Value)} {all:List (Nm×Own)}
theorem ld38:LdN Tryz.prog 38 2:=LdN.of Tryz.underlying38 sz38
theorem v_slookupI_ok {P:Program} {e:Env} {h h':SH} {ty:TypeId} {T K E:TypeId} {x y:Operand} {b:Nat} {m:List (Bs×Value)} {k:Bs} {z:Value} {sz bytes:Nat} {R:Res} (hx:e.ev? x=some (.map (some b))) (hy:e.ev? y=some (sv k)) (hT:MpS P T K E) (hE:Inf P E z sz bytes) (hin:MIn R b m) (hs:Sel h R h') :
  Vop P e h (.lookup T x y true) ty (.tuple #[(slook m k).getD z,.bool (slook m k).isSome]):=
 ⟨by simp,by simp,fun ρ w d pos after g hρ hh=>by
  simp [execOp,hρ x _ hx,hρ y _ hy,run_lookupS hT hE (hin _ (hh.sel hs).1) k true]⟩
def rinst (l:KS) (all:List (Nm×Own)) (t:Kt) (a:Nm):List Kt×Bool :=
 if a=root then ([],true) else if t.name=root then ([],false) else match (alook all t.name).bind (· a) with
 | none=>([],false)
 | some ts=>(ts.map (Kt.subst (fmsOf l t.name) t.args),true)
theorem ix_neg {o:Option Nat}:decide (ixD o<0) = !o.isSome:=by
 cases o with
 | none=>rfl
 | some i=>exact decide_eq_false (by show ¬ (i:Int)<0; omega)
theorem wayE_has (hR : Right (ksys l)) {c a : Nm} (hc : isC (ksys l) c = true) : wayE (ksys l) c a = 0 ↔ has (ksys l) c a = true := by
 unfold wayE
 constructor
 ·intro h
  split at h
  ·split at h
   ·assumption
   ·cases h
  ·rename_i h1; exact absurd h h1
 ·intro h
  have:rightE (ksys l) [c,a]=0:=rightE_zero.2 ⟨hR,fun n hn=>by
   rcases List.mem_cons.1 hn with rfl | hn
   ·exact hc
   ·simp at hn; subst hn; exact has_isC hc h⟩
  rw [if_pos this,if_pos h]
theorem inst_eq (hK : KRight l all) {a : Nm} (hb : badT l t = false) : instK l t a = ((rinst l all t a).1, if (rinst l all t a).2 = true then 0 else 5) := by
 unfold instK rinst
 rw [if_neg (by rw [hb]; decide)]
 by_cases ha:a=root
 ·rw [if_pos ha,if_pos ha]; rfl
 ·rw [if_neg ha, if_neg ha]
  unfold badT at hb
  simp only [Bool.or_eq_false_iff] at hb
  cases hk:kfind l t.name with
  | none =>
   have hn:t.name=root:=by
    have:=hb.1.2
    rw [hk] at this
    simpa using this
   rw [if_pos (show (none:Option KC).isSome=false from rfl),if_pos hn]; rfl
  | some x =>
   have hn:t.name≠root:=fun e=>by rw [e,hK.no_root] at hk; cases hk
   have hlen:t.args.length=x.formals.length:=by
    have:=hb.2
    rw [fmsOf_some hk,bne_eq_false_iff_eq] at this; omega
   have hc:isC (ksys l) t.name=true:=by rw [← kfind_isC,hk]; rfl
   rw [if_neg (show ¬ (some x).isSome=false by simp),if_neg hn]
   have hls:=hK.look_some (a:=a) hk
   by_cases hw:wayE (ksys l) t.name a=0
   ·have hh:=(wayE_has hK.right hc).1 hw
    rw [hh] at hls
    obtain ⟨ts,hts⟩:=Option.isSome_iff_exists.1 hls
    rw [if_neg (by simpa using hw),hts,hK.along (wayK_way hw) hk hlen]
    unfold insT
    rw [hts,fmsOf_some hk]; rfl
   ·have hh:has (ksys l) t.name a=false:=by
     rw [← Bool.not_eq_true]; exact fun e=>hw ((wayE_has hK.right hc).2 e)
    rw [hh] at hls
    rw [if_pos hw]
    cases hts:(alook all t.name).bind (· a) with
    | none=>rfl
    | some ts=>rw [hts] at hls; cases hls
theorem inst_good (hK:KRight l all) {a:Nm} (hb:badT l t=false) (h:(rinst l all t a).2=true):InstK l t a=((rinst l all t a).1,0):=by
 unfold InstK
 rw [if_neg (by simpa using kcheck_zero.2 ⟨all,hK⟩),inst_eq hK hb,h]; rfl
theorem inst_fail (hK : KRight l all) {a : Nm} (hb : badT l t = false) (h : (rinst l all t a).2 = false) : InstK l t a = ([], 5) := by
 unfold InstK
 rw [if_neg (by simpa using kcheck_zero.2 ⟨all,hK⟩),inst_eq hK hb,h]
 have : (rinst l all t a).1 = [] := by
  unfold rinst at h ⊢
  by_cases ha:a=root
  ·rw [if_pos ha] at h; cases h
  ·rw [if_neg ha] at h ⊢
   by_cases hr:t.name=root
   ·rw [if_pos hr]
   ·rw [if_neg hr] at h ⊢
    cases hts:(alook all t.name).bind (· a) with
    | none=>rfl
    | some ts=>rw [hts] at h; cases h
 rw [this]; rfl
set_option maxHeartbeats 4000000 in
set_option maxRecDepth 100000 in
theorem instR_ct (hK : KRight l all) (hv : ksysR S v l) (ht : Tiny l) {us : List Value} (hu : Ty S us t) (hn : t.name = root ∨ (kfind l t.name).isSome = true) (a : Nm) :
  CtN Tryz.prog 57 #[v,.agg us.toArray,sv a] [S] fun u T=>∃ w,u = .tuple #[w,.bool (rinst l all t a).2]∧w.oneCell'=true∧Tys (Res.star [T,S]) w (rinst l all t a).1:=by
 have hml:maxLen=9223372036854775807:=rfl
 have htb:=tablesR_ct hK.head hv (fun x hx p hp a ha=>(ht x hx p hp a ha).1)
 obtain ⟨y,rfl,hy⟩:=hu.out
 obtain ⟨ya,yc,rfl,_⟩:=id hy.form
 obtain ⟨va,vc,rfl,hlcv,hcmv,_⟩:=id hv
 unfold tyC rinst
 refine ct_of (n:=47) Tryz.func57 Z Z (len Z) fun hr w0=>?_
 refine cQ (st_bx Z Z fun b4=>?_)
 refine sA Z (sA Z (sK [0,2,4,6,7] Z (cS (cQ (sM Z (sV (v_seql Z Z) (sK [0,2,4,6,7,14] Z (cC Z (fun ha=>?_) (fun ha=>?_)))))))))
 ·have ha:(a == root)=true:=ha
  rw [if_pos (eq_of_beq ha)]
  refine cQ (sA Z (sA Z (sK [6,7] Z (cT (xR (xt_vw (vw_unstar (L:=[])) ?_))))))
  exact xt_rt Z ⟨Res.star [],Z,_,Z,Z,Tys.nil⟩ sbq
 ·have ha:(a == root)=false:=ha
  rw [if_neg (by simpa using ha)]
  refine cK (xT (cS (cQ (sV (vF Z fa25_1 Z) (sV (vY Z ld9) ?_)))))
  refine sV (v_seql Z Z) (sK [0,2,4,6,7,17] Z (cC Z (fun hr=>?_) (fun hr=>?_)))
  ·have hr:(t.name == root)=true:=hr
   rw [if_pos (eq_of_beq hr)]
   refine cQ (sA Z (sA Z (sK [6,7] Z (cT (xR (xt_vw (vw_unstar (L:=[])) ?_))))))
   exact xt_rt Z ⟨Res.star [],Z,_,Z,Z,Tys.nil⟩ sbq
  ·have hr:(t.name == root)=false:=hr
   have hr:t.name≠root:=by simpa using hr
   rw [if_neg hr]
   obtain ⟨x,hx⟩:=Option.isSome_iff_exists.1 (hn.resolve_left hr)
   obtain ⟨o,ho,hO⟩:=hK.own hx
   rw [ho,Option.bind_some]
   obtain ⟨_,hk4⟩ | ⟨kx,hk3,hkx,hxy⟩:=kidx_find l t.name
   ·rw [hk4] at hx; cases hx
   have hix:ixD (kidx l t.name)=(kx:Int):=by rw [hk3]; rfl
   obtain ⟨bl,ol,capl,us2,e0,_,hrd0,dd,ff2,pv2,cc2,ffa2,ffc2,i3,rfl,_,hrow3,_⟩:=Row.at hv (List.getElem?_eq_getElem hkx)
   cases e0
   rw [← show fmsOf l t.name=l[kx].formals from fmsOf_some hxy] at hrow3
   obtain ⟨qa,qcap,rfl,_⟩:=id hrow3
   refine cK (xT (cQ (sM Z (st_cl Z Z en52 Z (htb) ?_))))
   rintro u h' ⟨T,rfl,mv,rfl,hmv,hall⟩
   simp only [lC,lN]
   obtain ⟨b,M,rfl,hMin,hT⟩:=hall all hK.tab
   obtain ⟨bp,mp,hlp,hin,hwp⟩:=hT t.name o ho
   obtain ⟨vt,hgv,hvt⟩:=hwp.get2 a
   obtain ⟨tya,tyc,rfl,_⟩:=id hvt.form
   refine sM Z (sV (v_extract Z Z) (sV (v_extract Z Z) (sV (v_extract Z Z) (sA Z (sA Z (sA Z (sK [0,2,4,6,7,8] Z (cQ (sM Z (sV (vF Z fa25_1 Z) (sV (vY Z ld9) ?_)))))))))))
   refine sV (v_is (show (slook M t.name).getD (.map none) = .map (some bp) by rw [hlp]; rfl) (v_slookupI Z Z mp96 inf142 hMin (show Sel _ T _ from slq))) ?_
   refine sM Z (sV (v_is hgv (v_slookupI_ok Z Z mp142 inf23 hin (show Sel _ T _ from slq))) ?_)
   refine sM Z (sV (v_extract Z Z) (sV (v_extract Z Z) (sA Z (sA Z (sK [0,4,6,7,11,12] Z (cS (cQ (sM Z (sV (v_not Z) (sK [0,4,6,7,11,34] Z ?_))))))))))
   cases hoa:o a with
   | none =>
    simp only [Option.isSome_none]
    refine cd_true Z ?_
    refine cQ (sA Z (sA Z (sK [6,7] Z (cT (xR ?_)))))
    exact xt_rt Z ⟨T,Z,_,Z,Z,Tys.nil⟩ sbq
   | some tb =>
    rw [hoa] at hvt
    simp only [Option.isSome_some,Option.getD_some] at hvt ⊢
    have hsa:=substAll_ct (hrow3.mono (rd_in (.there .here)) fun _ _ _ h=>h) (hy.mono (rd_in (.there .here))) hvt
    refine cd_false Z ?_
    refine cK (xT (cS (cd_drawh (ork [(0,2),(1,2),(2,2),(3,1),(4,1),(5,2),(6,2),(7,1),(8,2),(9,1),(10,2),(11,0),(12,2),(13,2)] .nil) (fun i => !(Nat.beq i 11)) mixed (by kernel_rfl) ?_)))
    refine dV Z (vM Z) (dV Z (vM Z) (dV Z (vF Z fa25_1 Z) (dr_v Z (vY Z ld9) ?_)))
    refine dr_clr Z Z Z en49 Z (findR_ct hv t.name) ?_
    rw [hix]
    refine dV Z (vI (k:=kx) Z Z sl22 Z hkx Z) (dV Z (vF Z fa54_2 Z) (dr_v Z (vY Z ld48) ?_))
    refine dV Z (vF Z fa25_2 Z) (dr_v Z (vY Z ld23) ?_)
    refine dV Z (vM Z) (dr_eff Z ?_)
    refine st_pv (pv_pack (L:=[T,S])) ?_
    simp only [lC,lN]
    refine st_cl Z Z en93 Z (hsa) ?_
    rintro u h' ⟨Tn,rfl,wa,wc,rfl,hres⟩
    simp only [lC,lN]
    refine st_pv (pv_unpack (L:=[T,S])) ?_
    simp only [lC,lN]
    refine st_pv (pv_pack (L:=[T,Tn])) ?_
    simp only [lC,lN]
    refine dr_nx ?_
    refine dV Z (vA Z) (dV Z (vA Z) (dr_nil (nK [6,7] Z (nT (cT ?_)))))
    exact xt_rt Z ⟨Res.star [T,Tn],Z,_,Z,Z,hres.mono fun p u g=>rd_turn p u g⟩ sbq
set_option maxHeartbeats 4000000 in
set_option maxRecDepth 100000 in
theorem InstanceR_ct (hv : ksysR S v l) (ht : Tiny l) (hl : l.length ≤ 1000000) {us : List Value} (hu : Ty S us t) (a : Nm) :
  CtN Tryz.prog 20 #[v,.agg us.toArray,sv a] [S] fun u T=>∃ w,u = .agg #[w,.int .i64 (InstK l t a).2]∧w.oneCell'=true∧Tys (Res.star [T,S]) w (InstK l t a).1:=by
 have hml:maxLen=9223372036854775807:=rfl
 have hck:=CheckR_ct hv ht hl
 have hin0:=fun all hK hn=>instR_ct (all:=all) hK hv ht hu hn a
 obtain ⟨y,rfl,hy⟩:=hu.out
 obtain ⟨ya,yc,rfl,_⟩:=id hy.form
 obtain ⟨va,vc,rfl,hlcv,hcmv,_⟩:=id hv
 unfold tyC at hin0 ⊢
 refine ct_of (n:=74) Tryz.func20 Z Z (len Z) fun hr w0=>?_
 refine cQ (st_bx Z Z fun b4=>?_)
 refine st_alc al38 fun b6=>?_
 refine sK [0,2,4,6] Z (cQ (sM Z (st_cl Z Z en14 Z (hck) ?_)))
 rintro u h' ⟨rfl,rfl⟩
 simp only [lC,lN]
 refine sM Z (sV (v_extract Z Z) (sV (v_extract Z Z) (sA Z (sA Z (sK [0,2,4,6,7] Z (cS (cQ (sM Z (sV (v_neq Z Z) (sK [0,2,4,6,7,18] Z (cC Z (fun hc=>?_) (fun hc=>?_))))))))))))
 ·have hc:(kcheck l).1≠0:=by simpa using hc
  rw [show InstK l t a=([],(kcheck l).1) from if_pos hc]
  refine cQ (sM Z (sV (v_build (cells:=[.slice none 0 0,.int .i64 (kcheck l).1]) Z (fun _=>by kernel_rfl)) ?_))
  refine st_stoW Z Z sz38 Z Z ?_
  refine sK [6] Z (cT (xR (xt_vw (vw_unstar (L:=[])) ?_)))
  exact xt_retV (.cellN Z ld38 Z slq .nil) ⟨Res.star [],Z,_,Z,Z,Tys.nil⟩ sbr
 ·have hc:(kcheck l).1=0:=by simpa using hc
  obtain ⟨all,hK⟩:=kcheck_zero.1 hc
  have hin:=hin0 all hK
  have hbT:badT l t=true→InstK l t a=([],8):=fun h=>by
   unfold InstK instK
   rw [if_neg (by simpa using hc),if_pos h]
  refine cK (xT (cQ (sM Z (sV (vF Z fa25_1 Z) (sV (vY Z ld9) ?_)))))
  refine st_clr Z Z en49 Z (findR_ct hv t.name) ?_
  refine sA Z (sK [0,2,4,6,9] Z (cS (cQ (sV (vF Z fa25_0 Z) (sV (vY Z ld3) ?_)))))
  refine sV (v_neq Z Z) (sM Z (st_cut (k:=12) (d:=36) (v:=.bool ((t.kind != 3) || (decide (ixD (kidx l t.name)<0) && (t.name != root)))) (fun hcut=>bool_want (b:=(t.kind != 3)) false (fun hg=>?_) (fun hg=>?_)) ?_))
  ·refine st_sk Z Z hg ?_
   iterate 2 refine st_sk rfl rfl hg ?_
   refine st_sku Z Z ?_
   refine st_sku Z Z ?_
   refine st_sku Z Z ?_
   refine st_sk Z Z hg ?_
   refine sV (vQ (bO Z hg) Z) ?_
   exact hcut _ uG
  ·refine sG Z (bG Z hg) (vM Z) (sG Z (bG Z hg) (v_lss Z Z) (sG Z (bG Z hg) (vM Z) (st_cut (k:=11) (d:=35) (v:=.bool (decide (ixD (kidx l t.name)<0) && (t.name != root))) (fun hcut=>bool_want (b:=decide (ixD (kidx l t.name)<0)) true (fun hg1=>?_) (fun hg1=>?_)) ?_)))
   ·refine st_sk Z Z hg1 ?_
    iterate 2 refine st_sk rfl rfl hg1 ?_
    refine sG Z (bG Z hg) (vP (bO Z hg1) Z) ?_
    exact hcut _ (uH (by first | rfl | (rw [hg1]; rfl) | simp_all) (uS Z (uS Z (uS Z (uR)))))
   ·refine sG Z (bG Z hg1) (vF Z fa25_1 Z) (sG Z (bG Z hg1) (vY Z ld9) ?_)
    refine sG Z (bG Z hg1) (v_sneq Z Z) (sG Z (bG Z hg) (vQ (bO Z hg1) Z) ?_)
    exact hcut _ (uH (by first | rfl | (rw [hg1]; rfl) | simp_all) (uS Z (uS Z (uS Z (uR)))))
   refine sV (vP (bO Z hg) Z) ?_
   exact hcut _ (uH (by first | rfl | (rw [hg]; rfl) | simp_all) (by repeat (first | exact uR | refine uS Z ?_)))
  refine sK [0,2,4,6,9,36] Z ?_
  rw [show decide (ixD (kidx l t.name)<0) = !(kfind l t.name).isSome by rw [ix_neg,kidx_is]]
  refine cC Z (fun h1=>?_) (fun h1=>?_)
  ·have h1:((t.kind != 3) || (!(kfind l t.name).isSome && (t.name != root)))=true:=h1
   rw [hbT (show badT l t=true by unfold badT; rw [h1]; rfl)]
   refine cQ (sV (v_build (cells:=[.slice none 0 0,.int .i64 8]) Z (fun _=>by kernel_rfl)) ?_)
   refine st_stoW Z Z sz38 Z Z ?_
   refine sK [6] Z (cT (xR (xt_vw (vw_unstar (L:=[])) ?_)))
   exact xt_retV (.cellN Z ld38 Z slq .nil) ⟨Res.star [],Z,_,Z,Z,Tys.nil⟩ sbr
  ·have h1:((t.kind != 3) || (!(kfind l t.name).isSome && (t.name != root)))=false:=h1
   have hbf:badT l t=((t.args.length:Int) != ((fmsOf l t.name).length:Nat)):=by unfold badT; rw [h1,Bool.false_or]
   obtain ⟨hk1,hk2⟩ | ⟨kx,hk1,hkx,hk2⟩:=kidx_find l t.name
   ·rw [show ixD (kidx l t.name) = -1 by rw [hk1]; rfl]
    have hn:t.name=root:=by
     rw [hk2,Bool.or_eq_false_iff] at h1
     simpa using h1.2
    rw [show fmsOf l t.name=[] by unfold fmsOf; rw [hk2]; rfl] at hbf
    have hin:=hin (.inl hn)
    refine cK (xT (cS (cS (cd_drawh (ork [(0,2),(1,2),(2,2),(3,2),(4,1),(5,2),(6,2),(7,2),(8,2),(9,2),(10,1),(11,2),(12,2),(13,2)] .nil) (fun _=>true) mixed (by kernel_rfl) ?_))))
    refine dV Z (vM Z) (dV Z (v_geq Z Z) (dV Z (vM Z) (dp_sk Z Z Z Z ?_)))
    refine dr_sk Z Z Z Z ?_
    iterate 5 refine dp_sk rfl rfl rfl rfl ?_
    refine dr_sk Z Z Z Z ?_
    iterate 2 refine dp_sk rfl rfl rfl rfl ?_
    refine dV Z (vP Z Z) (dr_nil (nK [0,2,4,6,9,51] Z (nT (cd_false Z ?_))))
    refine cK (xT (cS (cQ (sM Z (sV (v_lss Z Z) (sM Z (sG Z Z (vF Z fa25_2 Z) (sG Z Z (vY Z ld23) ?_))))))))
    refine sG Z Z (v_len Z Tryz.underlying23) (sG Z Z (v_gtr Z Z) (sV (vQ Z Z) (sK [0,2,4,6,60] Z (cC Z (fun h3=>?_) (fun h3=>?_)))))
    ·have h3:(0:Int)<(t.args.length:Nat):=of_decide_eq_true h3
     rw [hbT (by rw [hbf,bne_iff_ne,List.length_nil]; omega)]
     refine cQ (sV (v_build (cells:=[.slice none 0 0,.int .i64 8]) Z (fun _=>by kernel_rfl)) ?_)
     refine st_stoW Z Z sz38 Z Z ?_
     refine sK [6] Z (cT (xR (xt_vw (vw_unstar (L:=[])) ?_)))
     exact xt_retV (.cellN Z ld38 Z slq .nil) ⟨Res.star [],Z,_,Z,Z,Tys.nil⟩ sbr
    ·have h3:¬ (0:Int)<(t.args.length:Nat):=of_decide_eq_false h3
     have hbad:badT l t=false:=by rw [hbf,bne_eq_false_iff_eq,List.length_nil]; omega
     refine cK (xT (cQ (sM Z (sV (v_ldn Z ld25 Z rds_pt) ?_))))
     refine sM Z (st_cl Z Z en57 Z (hin) ?_)
     rintro u h' ⟨T,rfl,w,rfl,hw,hT⟩
     simp only [lC,lN]
     refine sM Z (sV (v_extract Z Z) (sV (v_extract Z Z) (sA Z (sA Z (sK [6,10,11] Z (cS (cQ (sM Z (sV (v_not Z) (sK [6,10,70] Z (cC Z (fun hi=>?_) (fun hi=>?_))))))))))))
     ·have hi:(rinst l all t a).2=false:=by rw [Bool.not_eq_true'] at hi; exact hi
      rw [inst_fail hK hbad hi]
      refine cQ (sV (v_build (cells:=[.slice none 0 0,.int .i64 5]) Z (fun _=>by kernel_rfl)) ?_)
      refine st_stoW Z Z sz38 Z Z ?_
      refine sK [6] Z (cT (xR ?_))
      exact xt_retV (.cellN Z ld38 Z slq .nil) ⟨T,Z,_,Z,Z,Tys.nil⟩ sbr
     ·have hi:(rinst l all t a).2=true:=by rw [Bool.not_eq_false'] at hi; exact hi
      rw [inst_good hK hbad hi]
      obtain ⟨wa,wc,rfl,_⟩:=id hT.form
      refine cK (xT (cQ (sM Z (sV (v_build (cells:=[.slice wa (rinst l all t a).1.length wc,.int .i64 0]) Z (fun _=>by kernel_rfl)) ?_))))
      refine st_stoW Z Z sz38 Z Z ?_
      refine sK [6] Z (cT ?_)
      exact xt_retV (.cellN Z ld38 Z slq .nil) ⟨T,Z,_,Z,Z,hT⟩ sbr
   ·rw [show ixD (kidx l t.name) = (kx : Int) by rw [hk1]; rfl]
    have hin:=hin (.inr (by rw [hk2]; rfl))
    obtain ⟨bl,ol,capl,us2,e0,_,hrd0,dd,ff2,pv2,cc2,ffa2,ffc2,i3,rfl,_,hrow3,_⟩:=Row.at hv (List.getElem?_eq_getElem hkx)
    cases e0
    rw [← show fmsOf l t.name=l[kx].formals from fmsOf_some hk2] at hrow3
    obtain ⟨qa,qcap,rfl,_⟩:=id hrow3
    refine cK (xT (cS (cS (cd_drawh (ork [(0,2),(1,2),(2,2),(3,2),(4,1),(5,2),(6,2),(7,2),(8,2),(9,2),(10,1),(11,2),(12,2),(13,2)] .nil) (fun _=>true) mixed (by kernel_rfl) ?_))))
    refine dV Z (vM Z) (dV Z (v_geq Z Z) (dV Z (vM Z) ?_))
    rw [show decide ((0:Int)≤(kx:Int))=true from decide_eq_true (by omega)]
    refine dp_vg Z Z Z (vF Z fa25_2 Z) (dr_vg Z Z Z (vY Z ld23) ?_)
    refine dp_vg Z Z Z (v_len Z Tryz.underlying23) (dp_vg Z Z Z (vM Z) (dp_vg Z Z Z (vM Z) (dp_vg Z Z Z (vI (k:=kx) Z Z sl22 Z hkx Z) (dp_vg Z Z Z (vF Z fa54_2 Z) (dr_vg Z Z Z (vY Z ld48) ?_)))))
    refine dp_vg Z Z Z (v_len Z Tryz.underlying48) (dp_vg Z Z Z (v_neq Z Z) (dV Z (vQ Z Z) (dr_nil (nK [0,2,4,6,9,51] Z (nT (cC Z (fun h3=>?_) (fun h3=>?_)))))))
    ·have h3:((t.args.length:Int) != ((fmsOf l t.name).length:Nat))=true:=h3
     rw [hbT (by rw [hbf]; exact h3)]
     refine cQ (sV (v_build (cells:=[.slice none 0 0,.int .i64 8]) Z (fun _=>by kernel_rfl)) ?_)
     refine st_stoW Z Z sz38 Z Z ?_
     refine sK [6] Z (cT (xR (xt_vw (vw_unstar (L:=[])) ?_)))
     exact xt_retV (.cellN Z ld38 Z slq .nil) ⟨Res.star [],Z,_,Z,Z,Tys.nil⟩ sbr
    ·have h3:((t.args.length:Int) != ((fmsOf l t.name).length:Nat))=false:=h3
     have hbad:badT l t=false:=by rw [hbf]; exact h3
     refine cK (xT (cS (cQ (sM Z (sV (v_lss Z Z) (sM Z ?_))))))
     rw [show decide ((kx:Int)<0)=false from decide_eq_false (by omega)]
     iterate 4 refine st_sk rfl rfl rfl ?_
     refine sV (vP Z Z) (sK [0,2,4,6,60] Z (cd_false Z ?_))
     refine cK (xT (cQ (sM Z (sV (v_ldn Z ld25 Z rds_pt) ?_))))
     refine sM Z (st_cl Z Z en57 Z (hin) ?_)
     rintro u h' ⟨T,rfl,w,rfl,hw,hT⟩
     simp only [lC,lN]
     refine sM Z (sV (v_extract Z Z) (sV (v_extract Z Z) (sA Z (sA Z (sK [6,10,11] Z (cS (cQ (sM Z (sV (v_not Z) (sK [6,10,70] Z (cC Z (fun hi=>?_) (fun hi=>?_))))))))))))
     ·have hi:(rinst l all t a).2=false:=by rw [Bool.not_eq_true'] at hi; exact hi
      rw [inst_fail hK hbad hi]
      refine cQ (sV (v_build (cells:=[.slice none 0 0,.int .i64 5]) Z (fun _=>by kernel_rfl)) ?_)
      refine st_stoW Z Z sz38 Z Z ?_
      refine sK [6] Z (cT (xR ?_))
      exact xt_retV (.cellN Z ld38 Z slq .nil) ⟨T,Z,_,Z,Z,Tys.nil⟩ sbr
     ·have hi:(rinst l all t a).2=true:=by rw [Bool.not_eq_false'] at hi; exact hi
      rw [inst_good hK hbad hi]
      obtain ⟨wa,wc,rfl,_⟩:=id hT.form
      refine cK (xT (cQ (sM Z (sV (v_build (cells:=[.slice wa (rinst l all t a).1.length wc,.int .i64 0]) Z (fun _=>by kernel_rfl)) ?_))))
      refine st_stoW Z Z sz38 Z Z ?_
      refine sK [6] Z (cT ?_)
      exact xt_retV (.cellN Z ld38 Z slq .nil) ⟨T,Z,_,Z,Z,hT⟩ sbr
end
end Go.Hr
