/-
  The reference: headers. Conditions: what is read.
  The reference: tables of what formals of ancestors are. Conditions: what is read; right headers; no type of a parent has more than 200 parts.
  The reference: Check. Conditions: what is read; small types,not too many classes.
  The reference: opened,Right,Bound. Conditions: what is read; small types,not too many classes.
  The reference: instance,Instance,Seen. Conditions: what is read; small types,not too many classes.
-/
import Derived.Test.YtaohbfnepjjdgaaGreatM20
set_option linter.unusedVariables false
set_option linter.unusedSimpArgs false
namespace Go.Hr
open Go Go.RowKit Go.Ck Go.Proofs Go.Proofs.YtaohbfnepjjdgaaGreat Fx
attribute [local irreducible] Go.Ck.Sub St Cd Xt Nx DrL LsW
section
variable {S T N R:Res} {v:Value} {F:List Fm} {A:List Kt} {l:KS} {s t:Kt} {ts:List Kt} {rows:List (List Value)}
def firstAt (g:KC→Int):List KC→Int×Nm
 | []=>(0,[])
 | x::t=>if g x≠0 then (g x,x.name) else firstAt g t
theorem firstAt_find (g:KC→Int):∀ xs:List KC,firstAt g xs=match List.find? (fun x=>g x != 0) xs with
  | some x=>(g x,x.name)
  | none=>(0,[])
 | []=>rfl
 | x::t=>by
  rw [firstAt,List.find?_cons]
  by_cases h:g x=0
  ·rw [if_neg (by simpa using h),show (g x != 0)=false by simpa using h,firstAt_find g t]
  ·rw [if_pos h,show (g x != 0)=true by simpa using h]
theorem kcheck_at (h1 : (check (ksys l)).1 = 0) : kcheck l = if (firstAt (formalsE l) l).1 ≠ 0 then firstAt (formalsE l) l else if (firstAt (parentsE l) l).1 ≠ 0 then firstAt (parentsE l) l else tabsE (tabs l) := by
 rw [kcheck_of h1,firstAt_find,firstAt_find]
 cases hf:List.find? (fun x=>formalsE l x != 0) l with
 | some x =>
  have:=List.find?_some hf
  simp only
  rw [if_pos (by simpa using this)]
 | none =>
  simp only
  rw [if_neg (by simp)]
  cases hp:List.find? (fun x=>parentsE l x != 0) l with
  | some x =>
   have:=List.find?_some hp
   simp only
   rw [if_pos (by simpa using this)]
  | none=>simp only; rw [if_neg (by simp)]
theorem firstAt_zero {g : KC → Int} : ∀ {xs : List KC}, (firstAt g xs).1 = 0 → ∀ x ∈ xs, g x = 0
 | [],_,x,hx=>by cases hx
 | y::t,h,x,hx=>by
  rw [firstAt] at h
  split at h
  ·rename_i h1; exact absurd h h1
  ·rename_i h1
   rcases List.mem_cons.1 hx with rfl | hx
   ·exact Classical.not_not.1 h1
   ·exact firstAt_zero h x hx
theorem ix_some {o:Option Nat}:decide ((0:Int)≤ixD o)=o.isSome:=by
 cases o with
 | none=>rfl
 | some i=>exact decide_eq_true (Int.natCast_nonneg i)
theorem kidx_is {n:Nm}:(kidx l n).isSome=(kfind l n).isSome:=by
 rcases kidx_find l n with ⟨h1,h2⟩ | ⟨k,h1,_,h2⟩
 ·rw [h1,h2]; rfl
 ·rw [h1,h2]; rfl
set_option maxHeartbeats 4000000 in
set_option maxRecDepth 100000 in
theorem headers_ct (hv : ksysR S v l) : Reads Tryz.prog 48 #[v] [S] (.tuple #[.int .i64 (firstAt (formalsE l) l).1, sv (firstAt (formalsE l) l).2]) := by
 have hml:maxLen=9223372036854775807:=rfl
 obtain ⟨va,vc,rfl,hlc,hcm,_⟩:=id hv
 refine ct_of (n:=86) Tryz.func48 Z Z (len Z) fun hr w0=>?_
 refine cQ (sA Z (sA Z (sN (nT (cS (cQ (sA Z (sN (nT (cB (cd_lq (σ := Nat) (fun i=>[(0,.slice va l.length vc),(4,.int .i64 (i:Nat))]) (fun _=>S::hr) (fun i=>i≤l.length∧firstAt (formalsE l) l=firstAt (formalsE l) (l.drop i)) (fun i=>l.length - i) 0 ⟨Nat.zero_le _,Z⟩ ?_)))))))))))
 rintro i ⟨hi,hal⟩
 refine cS (cQ (sM Z (sM Z (sV (v_len Z Tryz.underlying22) (sV (v_lss Z Z) (sK [0,4,12] Z (cC Z (fun hd=>?_) (fun hd=>?_))))))))
 ·have hlt:i<l.length:=by simpa using hd
  obtain ⟨b,o,cap2,us,e1,_,hrd,d,f,pv,c2,ffa,ffc,i2,rfl,hone,hrow,_⟩:=Row.at hv (List.getElem?_eq_getElem hlt)
  cases e1
  rw [List.drop_eq_getElem_cons hlt,firstAt] at hal
  generalize l[i]=x at hrd hone hrow hal
  obtain ⟨fa,fcap,rfl,hlc2,hcm2,_⟩:=id hrow
  refine cK (xT (cS (cB (cQ (sM Z (sM Z (sV (vI (k:=i) Z Z sl22 Z hlt Z) (sV (v_ldn Z ld54 Z hrd) ?_))))))))
  refine st_alc al54 fun b5=>?_
  refine st_stoW Z Z sz54 Z hone ?_
  refine sK [0,4,5] Z (cS (cQ (sV (vF Z fa54_2 Z) (sV (vY Z ld48) ?_))))
  refine sV (v_len Z Tryz.underlying48) (sV (v_gtr Z Z) (sK [0,4,5,22] Z (cC Z (fun hq=>?_) (fun hq=>?_))))
  ·have h3:formalsE l x=3:=if_pos (by have:=of_decide_eq_true hq; omega)
   rw [h3,if_pos (by decide)] at hal
   rw [hal]
   refine cS (cd_drawh (ork [(0,2),(1,1),(2,2),(3,2)] .nil) (fun _=>true) mixed (by kernel_rfl) ?_)
   refine dV Z (vF Z fa54_0 Z) (dr_v Z (vY Z ld9) ?_)
   refine dV Z (vA Z) (dV Z (vA Z) (dr_nil (nK [2,3] Z (nT (cT (xR (xW (xR (xR (xW (xR ?_)))))))))))
   exact xt_rt Z ⟨Z,Z⟩ sbq
  ·have hfe:formalsE l x=firstE (fmEs l x.formals):=if_neg (by have:=of_decide_eq_false hq; omega)
   rw [hfe] at hal
   refine cK (xT (cQ (sA Z (sK [0,4,5,6] Z (cB (cd_lq (σ := Nat) (fun k=>[(0,.slice (some ⟨b,o,none⟩) l.length vc),(4,.int .i64 (i:Nat)),(5,.pointer (some ⟨b5,0,none⟩)),(6,.int .i64 (k:Nat))]) (fun _=>pt b5 (cl [sv x.name,d,.slice fa x.formals.length fcap,pv,c2,.slice ffa x.feats ffc,i2] 54)::S::hr) (fun k=>k≤x.formals.length∧firstE (fmEs l x.formals)=firstE ((fmEs l x.formals).drop k)) (fun k=>x.formals.length - k) 0 ⟨Nat.zero_le _,Z⟩ ?_))))))
   rintro k ⟨hk,hak⟩
   refine cS (cQ (sM Z (sV (vF Z fa54_2 Z) (sV (vY Z ld48) ?_))))
   refine sV (v_len Z Tryz.underlying48) (sV (v_lss Z Z) (sK [0,4,5,6,29] Z (cC Z (fun hdk=>?_) (fun hdk=>?_))))
   ·have hltk:k<x.formals.length:=by simpa using hdk
    obtain ⟨bf,of,cap3,e2,hrf⟩:=fm_at hrow (List.getElem?_eq_getElem hltk)
    cases e2
    have hrt:=hrow.take (k:=k) (by omega)
    rw [fmEs_drop hltk,firstE] at hak
    generalize x.formals[k]=f at hrf hak
    unfold fmA at hrf
    have hE:∀ e:Int,e≠0→fmE l x.formals k f=e→firstAt (formalsE l) l=(e,x.name):=fun e he h=>by
     rw [h,if_pos he] at hak
     rw [hak,if_pos he] at hal; exact hal
    have hfm:fmE l x.formals k f=if named f.name=false then 4
     else if (kfind l f.name).isSome∨(fidx (x.formals.take k) f.name).isSome then 6
     else if (kfind l f.bound).isSome=false∧f.bound≠root then 5
     else if (fmsOf l f.bound).length≠0 then 8 else 0:=rfl
    refine cK (xT (cS (cB (cQ (sV (vF Z fa54_2 Z) (sV (vY Z ld48) ?_))))))
    refine sM Z (sV (vI (k:=k) Z Z sl48 Z hltk Z) (sV (v_ldn Z ld94 Z hrf) ?_))
    refine st_alc al94 fun b7=>?_
    refine st_stoW Z Z sz94 Z Z ?_
    refine sK [0,4,5,6,7] Z (cS (cQ (sV (vF Z fa94_0 Z) (sV (vY Z ld9) ?_))))
    refine st_clr Z Z en87 Z (capital_ct f.name) ?_
    refine sV (v_not Z) (sK [0,4,5,6,7,40] Z (cC Z (fun hn=>?_) (fun hn=>?_)))
    ·have hn:named f.name=false:=by simpa using hn
     rw [if_pos hn] at hfm
     rw [hE 4 (by decide) hfm]
     refine cS (cd_drawh (ork [(0,2),(1,1),(2,2),(3,2)] .nil) (fun _=>true) mixed (by kernel_rfl) ?_)
     refine dV Z (vF Z fa54_0 Z) (dr_v Z (vY Z ld9) ?_)
     refine dV Z (vA Z) (dV Z (vA Z) (dr_nil (nK [2,3] Z (nT (cT (xR (xW (xR (xR (xW (xW (xR (xR (xW (xR ?_)))))))))))))))
     exact xt_rt Z ⟨Z,Z⟩ sbq
    ·have hn:named f.name=true:=by simpa using hn
     rw [if_neg (by rw [hn]; decide)] at hfm
     refine cK (xT (cS (cS (cd_drawh (ork [(0,2),(1,1),(2,2),(3,1),(4,2),(5,1),(6,1),(7,2),(8,2),(9,2),(10,2),(11,1),(12,1),(13,2),(14,2)] .nil) (fun _=>true) mixed (by kernel_rfl) ?_))))
     refine dV Z (vF Z fa54_2 Z) (dr_v Z (vY Z ld48) ?_)
     refine dV Z (vM Z) (dr_v Z (v_sliceHeadA (hi:=k) Z Z sl48 Z (by omega)) (dV Z (vF Z fa94_0 Z) (dr_v Z (vY Z ld9) ?_)))
     refine dr_clr Z Z Z en66 Z (formalR_ct hrt f.name) ?_
     refine dV Z (v_geq Z Z) (dV Z (vM Z) (dr_cut (k:=6) (d:=57) (v:=.bool (decide ((0:Int)≤ixD (fidx (x.formals.take k) f.name)) || decide ((0:Int)≤ixD (kidx l f.name)))) (fun hcut=>bool_want (b:=decide ((0:Int)≤ixD (fidx (x.formals.take k) f.name))) false (fun hg=>?_) (fun hg=>?_)) ?_))
     ·refine dp_sk Z Z Z hg ?_
      refine dp_sk Z Z Z hg ?_
      iterate 2 refine dr_sk rfl rfl rfl hg ?_
      refine dp_sk Z Z Z hg ?_
      refine dV Z (vQ (bO Z hg) Z) ?_
      exact hcut _ uG
     ·refine dp_vg Z Z (bG Z hg) (vM Z) (dp_vg Z Z (bG Z hg) (vF Z fa94_0 Z) (dr_vg Z Z (bG Z hg) (vY Z ld9) ?_))
      refine dr_clrg Z Z (bG Z hg) Z Z en49 Z (findR_ct hv f.name) ?_
      refine dp_vg Z Z (bG Z hg) (v_geq Z Z) (dV Z (vP (bO Z hg) Z) ?_)
      exact hcut _ uG
     rw [ix_some,ix_some,kidx_is]
     refine dr_nil (nK [0,4,5,6,7,57] Z (nT (cC Z (fun h6=>?_) (fun h6=>?_))))
     ·have h6:((fidx (x.formals.take k) f.name).isSome || (kfind l f.name).isSome)=true:=h6
      rw [if_pos (by rw [Bool.or_eq_true] at h6; exact h6.symm)] at hfm
      rw [hE 6 (by decide) hfm]
      refine cS (cd_drawh (ork [(0,2),(1,1),(2,2),(3,2)] .nil) (fun _=>true) mixed (by kernel_rfl) ?_)
      refine dV Z (vF Z fa54_0 Z) (dr_v Z (vY Z ld9) ?_)
      refine dV Z (vA Z) (dV Z (vA Z) (dr_nil (nK [2,3] Z (nT (cT (xR (xW (xR (xR (xW (xW (xR (xR (xW (xR ?_)))))))))))))))
      exact xt_rt Z ⟨Z,Z⟩ sbq
     ·have h6:((fidx (x.formals.take k) f.name).isSome || (kfind l f.name).isSome)=false:=h6
      rw [Bool.or_eq_false_iff] at h6
      rw [if_neg (by rw [h6.1,h6.2]; decide)] at hfm
      obtain ⟨hk1,hk2⟩ | ⟨j,hk1,hkj,hk2⟩:=kidx_find l f.bound
      ·have hix:ixD (kidx l f.bound) = -1:=by rw [hk1]; rfl
       have hf0:fmsOf l f.bound=[]:=by unfold fmsOf; rw [hk2]; rfl
       refine cK (xT (cQ (sM Z (sV (vF Z fa94_1 Z) (sV (vY Z ld9) ?_)))))
       refine st_clr Z Z en49 Z (findR_ct hv f.bound) ?_
       rw [hix]
       refine sA Z (sK [0,4,5,6,7,8] Z (cS (cQ (sM Z (sV (v_lss Z Z) (sM Z (sG Z Z (vF Z fa94_1 Z) (sG Z Z (vY Z ld9) ?_))))))))
       refine sG Z Z (v_sneq Z Z) (sV (vQ Z Z) (sK [0,4,5,6,8,70] Z (cC Z (fun h5=>?_) (fun h5=>?_))))
       ·have h5:(f.bound != root)=true:=h5
        rw [hk2,if_pos ⟨rfl,by simpa using h5⟩] at hfm
        rw [hE 5 (by decide) hfm]
        refine cS (cd_drawh (ork [(0,2),(1,1),(2,2),(3,2)] .nil) (fun _=>true) mixed (by kernel_rfl) ?_)
        refine dV Z (vF Z fa54_0 Z) (dr_v Z (vY Z ld9) ?_)
        refine dV Z (vA Z) (dV Z (vA Z) (dr_nil (nK [2,3] Z (nT (cT (xR (xW (xR (xR (xW (xW (xR (xR (xW (xR ?_)))))))))))))))
        exact xt_rt Z ⟨Z,Z⟩ sbq
       ·have h5:(f.bound != root)=false:=h5
        rw [if_neg (by simp at h5; simp [h5]),hf0,if_neg (by decide)] at hfm
        rw [hfm,if_neg (by decide)] at hak
        refine cK (xT (cQ (sM Z (sV (v_geq Z Z) (sM Z (st_sk Z Z Z ?_))))))
        iterate 6 refine st_sk rfl rfl rfl ?_
        refine sV (vP Z Z) (sK [0,4,5,6,83] Z (cd_false Z ?_))
        refine cK (xB (xT (cR (sM Z (sV (v_add Z Z (by unfold I64 at *; omega)) (sA Z (sN (nK [0,4,5,6] Z (nx_xt ?_)))))))))
        refine xt_aq (k+1) ⟨hltk,hak⟩ (Nat.sub_lt_sub_left hltk (Nat.lt_succ_self k))
      ·have hix:ixD (kidx l f.bound)=(j:Int):=by rw [hk1]; rfl
       have hf0:fmsOf l f.bound=l[j].formals:=fmsOf_some hk2
       obtain ⟨bl,ol,capl,us,e0,_,hrd0,dd,ff,pv2,cc2,fffa,fffc,i3,rfl,hone0,hrowf,_⟩:=Row.at hv (List.getElem?_eq_getElem hkj)
       cases e0
       rw [hk2,if_neg (by rintro ⟨h,_⟩; cases h),hf0] at hfm
       generalize l[j]=xj at hrd0 hrowf hfm hone0
       obtain ⟨ga,gc,rfl,hlcg,hcmg,_⟩:=id hrowf
       refine cK (xT (cQ (sM Z (sV (vF Z fa94_1 Z) (sV (vY Z ld9) ?_)))))
       refine st_clr Z Z en49 Z (findR_ct hv f.bound) ?_
       rw [hix]
       refine sA Z (sK [0,4,5,6,7,8] Z (cS (cQ (sM Z (sV (v_lss Z Z) (sM Z ?_))))))
       rw [show decide ((j:Int)<0)=false from decide_eq_false (by omega)]
       iterate 3 refine st_sk rfl rfl rfl ?_
       refine sV (vP Z Z) (sK [0,4,5,6,8,70] Z (cd_false Z ?_))
       refine cK (xT (cQ (sM Z (sV (v_geq Z Z) (sM Z ?_)))))
       rw [show decide ((0:Int)≤(j:Int))=true from decide_eq_true (by omega)]
       refine sG Z Z (vM Z) (sG Z Z (vM Z) (sG Z Z (vI (k:=j) Z Z sl22 Z hkj Z) (sG Z Z (vF Z fa54_2 Z) (sG Z Z (vY Z ld48) ?_))))
       refine sG Z Z (v_len Z Tryz.underlying48) (sG Z Z (v_gtr Z Z) (sV (vQ Z Z) (sK [0,4,5,6,83] Z (cC Z (fun h8=>?_) (fun h8=>?_)))))
       ·have h8:(0:Int)<(xj.formals.length:Nat):=of_decide_eq_true h8
        rw [if_pos (by omega)] at hfm
        rw [hE 8 (by decide) hfm]
        refine cS (cd_drawh (ork [(0,2),(1,1),(2,2),(3,2)] .nil) (fun _=>true) mixed (by kernel_rfl) ?_)
        refine dV Z (vF Z fa54_0 Z) (dr_v Z (vY Z ld9) ?_)
        refine dV Z (vA Z) (dV Z (vA Z) (dr_nil (nK [2,3] Z (nT (cT (xW (xR (xR (xW (xW (xR (xR (xW (xR ?_))))))))))))))
        exact xt_rt Z ⟨Z,Z⟩ sbq
       ·have h8:¬ (0:Int)<(xj.formals.length:Nat):=of_decide_eq_false h8
        rw [if_neg (by omega)] at hfm
        rw [hfm,if_neg (by decide)] at hak
        refine cK (xB (xT (cR (sM Z (sV (v_add Z Z (by unfold I64 at *; omega)) (sA Z (sN (nK [0,4,5,6] Z (nx_xt ?_)))))))))
        refine xt_aq (k+1) ⟨hltk,hak⟩ (Nat.sub_lt_sub_left hltk (Nat.lt_succ_self k))
   ·have hkl:k=x.formals.length:=by
     have:¬ k<x.formals.length:=by simpa using hdk
     omega
    rw [List.drop_eq_nil_of_le (by simp [fmEs,hkl]),firstE] at hak
    rw [hak,if_neg (by decide)] at hal
    refine cd_exit (xE (xE (xY (xB (xT (cR (sM Z (sV (v_add Z Z (by unfold I64 at *; omega)) (sA Z (sN (nK [0,4] Z (nx_xt ?_))))))))))))
    refine xt_aq (i+1) ⟨hlt,hal⟩ (Nat.sub_lt_sub_left hlt (Nat.lt_succ_self i))
 ·have hil:i=l.length:=by
   have:¬ i<l.length:=by simpa using hd
   omega
  rw [hil,List.drop_length,firstAt] at hal
  rw [hal]
  refine cd_exit (xE (xE (xY (xT (cQ (sA Z (sA Z (sK [2,3] Z (cT ?_)))))))))
  exact xt_rt Z ⟨Z,Z⟩ sbq
end
end Go.Hr
namespace Go.Hr
open Go Go.RowKit Go.Ck Go.Proofs Go.Proofs.YtaohbfnepjjdgaaGreat Fx
attribute [local irreducible] Go.Ck.Sub St Cd Xt Nx DrL LsW
section
variable {S T N R:Res} {v:Value} {F:List Fm} {A:List Kt} {l:KS} {s t:Kt} {ts:List Kt} {rows:List (List Value)}
theorem stepE_big {o:Own} {a:Nm} {seen:List Kt} (h:400<partss seen):stepE o a seen=3:=by
 unfold stepE
 rw [decide_eq_false (by omega)]; rfl
theorem stepE_clash {o:Own} {a:Nm} {seen:List Kt} (h:partss seen≤400) (hc:((o a).isSome && !(sames ((o a).getD []) seen))=true):stepE o a seen=10:=by
 unfold stepE
 rw [decide_eq_true (by omega),show (!(o a).isSome || sames ((o a).getD []) seen)=false by
  rw [Bool.and_eq_true,Bool.not_eq_true'] at hc
  rw [hc.1,hc.2]; rfl]; rfl
theorem stepE_fine {o:Own} {a:Nm} {seen:List Kt} (h:partss seen≤400) (hc:((o a).isSome && !(sames ((o a).getD []) seen))=false):stepE o a seen=0:=by
 unfold stepE
 rw [decide_eq_true (by omega),show (!(o a).isSome || sames ((o a).getD []) seen)=true by
  cases h1:(o a).isSome with
  | false=>rfl
  | true=>rw [h1,Bool.true_and] at hc; simpa using hc]; rfl
set_option maxHeartbeats 8000000 in
set_option maxRecDepth 100000 in
theorem tablesR_ct (h : HRight l) (hv : ksysR S v l) (hb : ∀ x ∈ l, ∀ p ∈ x.parents, ∀ a ∈ p.args, a.parts ≤ 200) :
  CtN Tryz.prog 52 #[v] [S] fun u T=>∃ mv,u = .tuple #[mv,.int .i64 (tabsE (tabs l)).1,sv (tabsE (tabs l)).2]∧mv.oneCell'=true∧∀ all,tabs l = .ok all→∃ b M,mv = .map (some b)∧MIn T b M∧TabR S T M all:=by
 have hml:maxLen=9223372036854775807:=rfl
 have hrb:reachBytes=140737488351232:=rfl
 have hR:=h.right
 have hre:rightE (ksys l) []=0:=rightE_zero.2 ⟨hR,by simp⟩
 have hl:(ksys l).length≤1000000:=by have:=hR.len; omega
 have hsys:sysR S v (ksys l):=hv.sys
 obtain ⟨hTp,hmem⟩:=order_spec hR.acyc hR.uniq
 obtain ⟨va,vc,rfl,hlcv,hcmv,_⟩:=id hv
 unfold tabs
 refine ct_of (n:=124) Tryz.func52 Z Z (len Z) fun hr w0=>?_
 refine cQ (sA Z (sA Z (sA Z (sN (nT (cQ (st_smakeMap (ltn Z) fun b19=>?_)))))))
 refine sA Z (sK [0,2,3,4,5] Z (cQ (sM Z (st_cl Z Z en90 Z (OrderS_ct hsys hl) ?_))))
 rintro u h' ⟨T0,rfl,w,rfl,hw1,hnr⟩
 simp only [lC,lN]
 rw [hre,okL_eq rfl] at hnr
 refine sV (v_field1 (cs:=[w,.int .i64 (rightE (ksys l) [])]) Z Tryz.underlying123 Z (fun w=>by simp [isAgg,run_underlying Tryz.underlying50]) Z) ?_
 obtain ⟨oa,oc,rfl,_⟩:=id hnr
 generalize order (ksys l)=ord at *
 refine sA rfl (sK [0,2,3,4,5,6] rfl (cS (cQ (sA rfl (sN (nT (cB (cd_vw (vw_unstar (L:=[])) (cd_lq (σ := List (Bs×Value)×Res×List (Nm×Own)×Nat) (fun q=>[(0,.slice va l.length vc),(5,.map (some b19)),(6,.slice oa ord.length oc),(7,.int .i64 (q.2.2.2:Nat))]) (fun q=>mps b19 q.1::q.2.1::T0::S::hr) (fun q=>q.2.2.2≤ord.length∧tabGo l ord []=tabGo l (ord.drop q.2.2.2) q.2.2.1∧q.2.2.1.map (·.1)=ord.take q.2.2.2∧TabR S q.2.1 q.1 q.2.2.1∧∀ c o,alook q.2.2.1 c=some o→Sm o) (fun q=>ord.length - q.2.2.2) ([],Res.star [],[],0) ⟨Nat.zero_le _,rfl,rfl,TabR.nil,fun c o h=>by cases h⟩ ?_)))))))))
 rintro ⟨M,T,all,i⟩ ⟨hi,hta,hnm,hT,hS⟩
 simp only at hi hta hnm hT hS
 dsimp only
 refine cS (cQ (sM Z (sM Z (sV (v_len Z Tryz.underlying50) (sV (v_lss Z Z) (sK [0,5,6,7,26] Z (cC Z (fun hd=>?_) (fun hd=>?_))))))))
 ·have hlt:i<ord.length:=by simpa using hd
  obtain ⟨bo,oo,cap2,u,e1,hro,hX⟩:=Row.at1 hnr (List.getElem?_eq_getElem hlt)
  cases e1
  have hX:[u]=[sv ord[i]]:=hX
  have hcm:ord[i]∈ord:=List.getElem_mem hlt
  have hmid:=Tp.mid (a:=ord.take i) (c:=ord[i]) (t:=ord.drop (i+1)) (by rw [← List.drop_eq_getElem_cons hlt,List.take_append_drop]; exact hTp)
  have htk:ord.take (i+1)=ord.take i++[ord[i]]:=by rw [List.take_add_one,List.getElem?_eq_getElem hlt]; rfl
  rw [List.drop_eq_getElem_cons hlt] at hta
  generalize ord[i]=c at hX hcm hmid htk hta
  cases hX
  obtain ⟨_,hk2⟩ | ⟨kx,hk1,hkx,hx⟩:=kidx_find l c
  ·have:=isC_iff.2 ((hmem c).1 hcm)
   rw [← kfind_isC,hk2] at this; cases this
  have hix:ixD (kidx l c)=(kx:Int):=by rw [hk1]; rfl
  obtain ⟨bl,ol,capl,us,e0,_,hrd0,hcx⟩:=Row.at hv (List.getElem?_eq_getElem hkx)
  cases e0
  generalize l[kx]=x at hrd0 hcx hx
  obtain ⟨hxn,hxl⟩:=kfind_some hx
  rw [tabGo,hx] at hta
  simp only [] at hta
  obtain ⟨d,ff,pv,c2,ffa,ffc,i2,rfl,hone,hrow,hrowp⟩:=hcx
  subst hxn
  obtain ⟨fa,fcap,rfl,_⟩:=id hrow
  obtain ⟨pa,pcap,rfl,hplc,hpcm,_⟩:=id hrowp
  have hpar:=kpar hR hx
  have hbx:=hb x hxl
  generalize htg:ownGo l all (pairs l x) (own0 x)=TG at hta
  refine cK (xT (cS (cB (cQ (sM Z (sM Z (sM Z (sM Z (sV (vI (k:=i) Z Z sl50 Z hlt Z) (sV (vY Z ld9) ?_))))))))))
  refine st_clr Z Z en49 Z (findR_ct hv x.name) ?_
  rw [hix]
  refine sV (vI (k:=kx) Z Z sl22 Z hkx Z) (sV (v_ldn Z ld54 Z hrd0) ?_)
  refine st_alc al54 fun b8=>?_
  refine st_stoW Z Z sz54 Z hone ?_
  refine sK [0,5,6,7,8] Z (cQ (st_smakeMap (ltn Z) fun b38=>?_))
  refine sA Z (sK [0,5,6,7,8,9] Z (cS (cd_drawh (ork [(0,2),(1,2),(2,1),(3,2),(4,1),(5,0),(6,0)] .nil) (fun i => !(Nat.beq i 6)) mixed (by kernel_rfl) ?_)))
  refine dV Z (vM Z) (dV Z (vF Z fa54_0 Z) (dr_v Z (vY Z ld9) ?_))
  refine dV Z (vF Z fa54_2 Z) (dr_v Z (vY Z ld48) ?_)
  refine dr_eff Z (st_cl Z Z en91 Z (ownR_ct hrow (h.fm_len hxl)) ?_)
  rintro u h' ⟨T1,rfl,a1,c1,rfl,hT1⟩
  simp only [lC,lN]
  refine dr_nx ?_
  refine dr_eff Z (st_smapUpdate Z Z Z mp142 slq ?_)
  refine dr_nx ?_
  refine dr_nil (nK [0,5,6,7,8,9] Z (nT (cS (cQ (sA Z (sN (nT (cB (cd_pv (pv_pack (L:=[T,T1])) ?_)))))))))
  simp only [lC,lN]
  refine cd_lq (σ := List (Bs×Value)×Res×Own×Nat) (fun q=>[(0,.slice (some ⟨bl,ol,none⟩) l.length vc),(5,.map (some b19)),(6,.slice (some ⟨bo,oo,none⟩) ord.length oc),(7,.int .i64 (i:Nat)),(8,.pointer (some ⟨b8,0,none⟩)),(9,.map (some b38)),(10,.int .i64 (q.2.2.2:Nat))]) (fun q=>mps b19 M::mps b38 q.1::q.2.1::pt b8 (cl [sv x.name,d,.slice fa x.formals.length fcap,.slice pa x.parents.length pcap,c2,.slice ffa x.feats ffc,i2] 54)::T0::S::hr) (fun q=>q.2.2.2≤x.parents.length∧TG=ownGo l all (prs l (x.parents.drop q.2.2.2)) q.2.2.1∧OwnR (Res.star [q.2.1,S]) q.1 q.2.2.1∧TabR S q.2.1 M all∧Sm q.2.2.1) (fun q=>x.parents.length - q.2.2.2) (supd [] x.name (.slice a1 x.formals.length c1),Res.star [T,T1],own0 x,0) ⟨Nat.zero_le _,htg.symm,OwnR.nil.upd (hT1.mono fun p u g=>rd_in .here p u (rd_in (.there .here) p u g)),hT.up .here,Sm.own0 (h.fm_len hxl)⟩ ?_
  clear hT hT1 htg
  rintro ⟨mo,T,o,j⟩ ⟨hj,htg,hO,hT,hSo⟩
  simp only at hj htg hO hT hSo
  dsimp only
  refine cS (cQ (sM Z (sV (vF Z fa54_3 Z) (sV (vY Z ld49) ?_))))
  refine sV (v_len Z Tryz.underlying49) (sV (v_lss Z Z) (sK [0,5,6,7,8,9,10,49] Z (cC Z (fun hdj=>?_) (fun hdj=>?_))))
  ·have hltj:j<x.parents.length:=by simpa using hdj
   have hmp:=List.getElem_mem hltj
   obtain ⟨bq,oq,capq,us,e2,hus,hrd,hXp⟩:=Row.at hrowp (List.getElem?_eq_getElem hltj)
   cases e2
   rw [List.drop_eq_getElem_cons hltj] at htg
   generalize x.parents[j]=p at hmp hXp htg
   obtain ⟨y,p1,p2,p3,p4,rfl,hone2,hy⟩:=hXp
   obtain ⟨ya,yc,rfl,_⟩:=id hy.form
   have hpn:p.name∈par (ksys l) x.name:=by rw [hpar]; exact List.mem_map_of_mem hmp
   have hre2:rightE (ksys l) [p.name]=0:=rightE_zero.2 ⟨hR,fun n hn=>by simp at hn; subst hn; exact par_isC hpn⟩
   have hpa:p.name∈all.map (·.1):=by rw [hnm]; exact hmid.2 _ hpn
   obtain ⟨op,hop⟩:∃ op,alook all p.name=some op:=by
    cases ha:alook all p.name with
    | none=>exact absurd hpa (alook_none.1 ha)
    | some op=>exact ⟨op,rfl⟩
   have hsp:=fun a=>seenT_parts (l:=l) (a:=a) hS (hbx p hmp)
   have hst:∀ a,seenT l all p a=((op a).getD []).map (Kt.subst (fmsOf l p.name) p.args):=fun a=>by unfold seenT; rw [hop]; rfl
   obtain ⟨_,hk4⟩ | ⟨ky,hk3,hky,hxy⟩:=kidx_find l p.name
   ·have:=par_isC hpn
    rw [← kfind_isC,hk4] at this; cases this
   have hix2:ixD (kidx l p.name)=(ky:Int):=by rw [hk3]; rfl
   obtain ⟨bl2,ol2,capl2,us2,e0,_,hrd2,dd,ff2,pv2,cc2,ffa2,ffc2,i3,rfl,_,hrow3,_⟩:=Row.at hv (List.getElem?_eq_getElem hky)
   cases e0
   rw [← show fmsOf l p.name=l[ky].formals from fmsOf_some hxy] at hrow3
   obtain ⟨qa,qcap,rfl,_⟩:=id hrow3
   rw [show prs l (p::x.parents.drop (j+1))=((above (ksys l) p.name).map fun a=>(p,a))++prs l (x.parents.drop (j+1)) by simp [prs]] at htg
   refine cK (xT (cS (cB (cQ (sV (vF Z fa54_3 Z) (sV (vY Z ld49) ?_))))))
   refine sM Z (sV (vI (k:=j) Z Z sl49 Z hltj Z) (sV (v_ldn Z ld79 Z hrd) ?_))
   refine st_alc al79 fun b11=>?_
   refine st_stoW Z Z sz79 Z hone2 ?_
   refine sK [0,5,6,7,8,9,10,11] Z (cQ (sM Z (sV (vF Z fa79_0 Z) (sV (vY Z ld9) ?_))))
   refine st_cl Z Z en92 Z (AboveS_ct hsys hl p.name) ?_
   rintro u h' ⟨T2,rfl,w2,rfl,hw2,hur⟩
   simp only [lC,lN]
   rw [hre2,okL_eq rfl] at hur
   refine sV (v_field1 (cs:=[w2,.int .i64 (rightE (ksys l) [p.name])]) Z Tryz.underlying123 Z (fun w=>by simp [isAgg,run_underlying Tryz.underlying50]) Z) ?_
   obtain ⟨ua,uc,rfl,_⟩:=id hur
   generalize above (ksys l) p.name=up at *
   refine sA Z (sK [0,5,6,7,8,9,10,11,12] Z (cQ (sM Z (sM Z (sV (vF Z fa79_0 Z) (sV (vY Z ld9) ?_))))))
   refine st_clr Z Z en49 Z (findR_ct hv p.name) ?_
   rw [hix2]
   refine sV (vI (k:=ky) Z Z sl22 Z hky Z) (sV (vF Z fa54_2 Z) (sV (vY Z ld48) ?_))
   refine sA Z (sK [0,5,6,7,8,9,10,11,12,13] Z (cQ (sA Z (sN (nT (cB (cd_lq (σ := List (Bs×Value)×Res×Own×Nat) (fun q=>[(0,.slice (some ⟨bl,ol,none⟩) l.length vc),(5,.map (some b19)),(6,.slice (some ⟨bo,oo,none⟩) ord.length oc),(7,.int .i64 (i:Nat)),(8,.pointer (some ⟨b8,0,none⟩)),(9,.map (some b38)),(10,.int .i64 (j:Nat)),(11,.pointer (some ⟨b11,0,none⟩)),(12,.slice ua up.length uc),(13,.slice qa (fmsOf l p.name).length qcap),(14,.int .i64 (q.2.2.2:Nat))]) (fun q=>mps b19 M::mps b38 q.1::q.2.1::pt b11 (cl [sv p.name,.slice ya p.args.length yc,p1,p2,p3,p4] 79)::pt b8 (cl [sv x.name,d,.slice fa x.formals.length fcap,.slice (some ⟨bq,oq,none⟩) x.parents.length pcap,c2,.slice ffa x.feats ffc,i2] 54)::T2::T0::S::hr) (fun q=>q.2.2.2≤up.length∧TG=ownGo l all (((up.drop q.2.2.2).map fun a=>(p,a))++prs l (x.parents.drop (j+1))) q.2.2.1∧OwnR (Res.star [q.2.1,S]) q.1 q.2.2.1∧TabR S q.2.1 M all∧Sm q.2.2.1) (fun q=>up.length - q.2.2.2) (mo,T,o,0) ⟨Nat.zero_le _,htg,hO,hT,hSo⟩ ?_)))))))
   clear htg hO hT hSo
   rintro ⟨mo,T,o,k⟩ ⟨hk,htg,hO,hT,hSo⟩
   simp only at hk htg hO hT hSo
   dsimp only
   refine cS (cQ (sM Z (sM Z (sV (v_len Z Tryz.underlying50) (sV (v_lss Z Z) (sK [0,5,6,7,8,9,10,11,12,13,14,73] Z (cC Z (fun hdk=>?_) (fun hdk=>?_))))))))
   ·have hltk:k<up.length:=by simpa using hdk
    obtain ⟨bu,ou,capu,u,e3,hru,hXu⟩:=Row.at1 hur (List.getElem?_eq_getElem hltk)
    cases e3
    have hXu:[u]=[sv up[k]]:=hXu
    rw [List.drop_eq_getElem_cons hltk,List.map_cons,List.cons_append] at htg
    generalize up[k]=a at hXu htg
    cases hXu
    rw [ownGo_step] at htg
    have hsp:=hsp a
    rw [hst a] at htg hsp
    obtain ⟨bp,mp,hlp,hin,hwp⟩:=hT p.name op hop
    obtain ⟨vt,hgv,hvt⟩:=hwp.get a
    obtain ⟨tya,tyc,rfl,_⟩:=id hvt.form
    obtain ⟨wv,hgw,hwas⟩:=hO.get2 a
    generalize hTB:(op a).getD []=tb at *
    have hsa:=substAll_ct (hrow3.mono (rd_in (.there .here)) fun _ _ _ h=>h) (hy.mono (rd_in (.there .here))) hvt
    refine cK (xT (cS (cB (cS (cd_drawh (ork [(0,2),(1,2),(2,1),(3,2),(4,2),(5,1),(6,1),(7,2),(8,2),(9,2),(10,1),(11,1),(12,0),(13,2)] .nil) (fun i => !(Nat.beq i 12)) mixed (by kernel_rfl) ?_)))))
    refine dV Z (vM Z) (dV Z (vF Z fa79_1 Z) (dr_v Z (vY Z ld23) ?_))
    refine dV Z (vM Z) (dV Z (vF Z fa79_0 Z) (dr_v Z (vY Z ld9) ?_))
    refine dr_v Z (v_is (show (slook M p.name).getD (.map none) = .map (some bp) by rw [hlp]; rfl) (v_slookup Z Z mp96 inf142 slq)) ?_
    refine dV Z (vM Z) (dV Z (vM Z) (dV Z (vI (k:=k) Z Z sl50 Z hltk Z) (dr_v Z (vY Z ld9) ?_)))
    refine dr_v Z (v_is hgv (v_slookupI Z Z mp142 inf23 hin (show Sel _ T _ from slq))) ?_
    refine dr_eff Z ?_
    refine st_pv (pv_pack (L:=[T,S])) ?_
    simp only [lC,lN]
    refine st_cl Z Z en93 Z (hsa) ?_
    rintro u h' ⟨Tn,rfl,wa,wc,rfl,hseen⟩
    simp only [lC,lN]
    refine st_pv (pv_pack (L:=[Tn,Res.star [T,S]])) ?_
    simp only [lC,lN]
    refine dr_nx ?_
    have hwas2:Tys (Res.star [Tn,Res.star [T,S]]) wv ((o a).getD []):=hwas.mono (rd_in (.there .here))
    generalize tb.map (Kt.subst (fmsOf l p.name) p.args)=seen at hseen htg hsp
    have hwv:wv.oneCell'=true:=hwas.one
    refine dV Z (vA Z) (dr_nil (nK [0,5,6,7,8,9,10,11,12,13,14,15] Z (nT (cS (cQ (sM Z (st_clr Z Z en94 Z ((PartsR_ct _ seen _ (Nat.le_refl _) (by omega) hseen)) ?_)))))))
    refine sV (v_gtr Z Z) (sK [0,5,6,7,8,9,10,11,12,13,14,15,91] Z (cC Z (fun hq=>?_) (fun hq=>?_)))
    ·have hst3:stepE o a seen=3:=stepE_big (by have:=of_decide_eq_true hq; omega)
     rw [hst3,if_pos (by decide)] at htg
     rw [htg] at hta
     simp only [] at hta
     rw [hta]
     refine cS (cd_drawh (ork [(0,2),(1,1),(2,2),(3,2),(4,2)] .nil) (fun _=>true) mixed (by kernel_rfl) ?_)
     refine dV Z (vF Z fa54_0 Z) (dr_v Z (vY Z ld9) ?_)
     refine dV Z (vA Z) (dV Z (vA Z) (dV Z (vA Z) (dr_nil (nK [2,3,4] Z (nT (cT (xR (xW (xR (xR (xW (xW (xR (xR (xW ?_)))))))))))))))
     refine xR (xW (xR (xR (xW (xR (xt_pv (pv_unpack (L:=[Tn,Res.star [T,S]])) ?_))))))
     simp only [lC,lN]
     refine xt_pv (pv_unpack (L:=[T,S])) ?_
     simp only [lC,lN]
     exact xt_rt rfl ⟨T,rfl,_,rfl,rfl,fun all' h'=>by cases h'⟩ sbq
    ·have hq2:partss seen≤400:=by have:=of_decide_eq_false hq; omega
     refine cK (xT (cQ (sM Z (sM Z (sM Z (sV (vI (k:=k) Z Z sl50 Z hltk Z) (sV (vY Z ld9) ?_)))))))
     refine sV (v_is hgw (v_slookup_ok Z Z mp142 inf23 slq)) ?_
     refine sM Z (sV (v_extract Z Z) (sV (v_extract Z Z) (sA Z (sA Z (sK [0,5,6,7,8,9,10,11,12,13,14,15,16,17] Z (cQ (sM Z (sM Z (st_clr Z Z en25 Z (SameTypes_ct hwas2 hseen) ?_)))))))))
     refine sA Z (sK [0,5,6,7,8,9,10,11,12,13,14,15,17,18] Z (cS (cQ (sM Z (sM Z (st_cut (k:=5) (d:=110) (v:=.bool ((o a).isSome && !(sames ((o a).getD []) seen))) (fun hcut=>bool_want (b:=((o a).isSome)) true (fun hg=>?_) (fun hg=>?_)) ?_))))))
     ·refine st_sk Z Z hg ?_
      refine st_sk Z Z hg ?_
      refine sV (vP (bO Z hg) Z) ?_
      exact hcut _ uG
     ·refine sG Z (bG Z hg) (vM Z) (sG Z (bG Z hg) (v_not Z) (sV (vQ (bO Z hg) Z) ?_))
      exact hcut _ uG
     refine sK [0,5,6,7,8,9,10,11,12,13,14,15,110] Z (cC Z (fun hc=>?_) (fun hc=>?_))
     ·have hst10:stepE o a seen=10:=stepE_clash hq2 hc
      rw [hst10,if_pos (by decide)] at htg
      rw [htg] at hta
      simp only [] at hta
      rw [hta]
      refine cS (cd_drawh (ork [(0,2),(1,1),(2,2),(3,2),(4,2)] .nil) (fun _=>true) mixed (by kernel_rfl) ?_)
      refine dV Z (vF Z fa54_0 Z) (dr_v Z (vY Z ld9) ?_)
      refine dV Z (vA Z) (dV Z (vA Z) (dV Z (vA Z) (dr_nil (nK [2,3,4] Z (nT (cT (xR (xW (xR (xR (xW (xW (xR (xR (xW ?_)))))))))))))))
      refine xR (xW (xR (xR (xW (xR (xt_pv (pv_unpack (L:=[Tn,Res.star [T,S]])) ?_))))))
      simp only [lC,lN]
      refine xt_pv (pv_unpack (L:=[T,S])) ?_
      simp only [lC,lN]
      exact xt_rt rfl ⟨T,rfl,_,rfl,rfl,fun all' h'=>by cases h'⟩ sbq
     ·have hst0:stepE o a seen=0:=stepE_fine hq2 hc
      rw [hst0,if_neg (by decide)] at htg
      refine cK (xT (cR (sM Z (sM Z (sM Z (sV (vI (k:=k) Z Z sl50 Z hltk Z) (sV (vY Z ld9) ?_)))))))
      refine sM Z (st_smapUpdate Z Z Z mp142 slq ?_)
      refine sN (nK [0,5,6,7,8,9,10,11,12,13,14] Z (nx_xt (xB (xT (cR (sM Z (sV (v_add Z Z (by unfold I64 at *; omega)) (sA Z (sN (nK [0,5,6,7,8,9,10,11,12,13,14] Z (nx_xt (xt_pv (pv_unpack (L:=[Tn,Res.star [T,S]])) ?_))))))))))))
      simp only [lC,lN]
      refine xt_pv (pv_unpack (L:=[T,S])) ?_
      simp only [lC,lN]
      refine xt_pv (pv_pack (L:=[T,Tn])) ?_
      simp only [lC,lN]
      refine xt_aq (supd mo a (.slice wa seen.length wc),Res.star [T,Tn],oupd o a seen,k+1) ⟨hltk,htg,(hO.mono fun p u g=>rd_up p u .here g).upd (hseen.mono fun p u g=>rd_turn p u g),hT.up .here,hSo.upd hq2⟩ (Nat.sub_lt_sub_left hltk (Nat.lt_succ_self k))
   ·have hkl:k=up.length:=by
     have:¬ k<up.length:=by simpa using hdk
     omega
    rw [hkl,List.drop_length,List.map_nil,List.nil_append] at htg
    refine cd_exit (xE (xE (xY (xB (xT (cR (sM Z (sV (v_add Z Z (by unfold I64 at *; omega)) (sA Z (sN (nK [0,5,6,7,8,9,10] Z (nx_xt ?_))))))))))))
    refine xt_aq (mo,T,o,j+1) ⟨hltj,htg,hO,hT,hSo⟩ (Nat.sub_lt_sub_left hltj (Nat.lt_succ_self j))
  ·have hjl:j=x.parents.length:=by
    have:¬ j<x.parents.length:=by simpa using hdj
    omega
   rw [hjl,List.drop_length,show prs l []=[] from rfl,ownGo] at htg
   rw [htg] at hta
   simp only [] at hta
   refine cd_exit (xE (xE (xY (xT (cR (sM Z (sV (vF Z fa54_0 Z) (sV (vY Z ld9) ?_))))))))
   refine sM Z (st_smapUpdate Z Z Z mp96 slq ?_)
   refine sN (nK [0,5,6,7] Z (nx_xt (xB (xT (cR (sM Z (sV (v_add Z Z (by unfold I64 at *; omega)) (sA Z (sN (nK [0,5,6,7] Z (nx_xt (xt_pv (pv_pack (L:=[T,mps b38 mo])) ?_))))))))))))
   simp only [lC,lN]
   refine xt_aq (supd M x.name (.map (some b38)),Res.star [T,mps b38 mo],all++[(x.name,o)],i+1) ⟨hlt,hta,by rw [List.map_append,hnm,htk]; rfl,(hT.up .here).snoc (by rw [hnm]; exact hmid.1) (MIn.self.star (.there .here)) (hO.mono fun p u g=>rd_up p u .here g),fun c' o' hc'=>?_⟩ (Nat.sub_lt_sub_left hlt (Nat.lt_succ_self i))
   rw [alook_append] at hc'
   cases ha:alook all c' with
   | some o''=>rw [ha] at hc'; cases hc'; exact hS c' _ ha
   | none =>
    rw [ha,Option.none_or,alook_cons] at hc'
    split at hc'
    ·cases hc'; exact hSo
    ·cases hc'
 ·have hil:i=ord.length:=by
   have:¬ i<ord.length:=by simpa using hd
   omega
  rw [hil,List.drop_length,tabGo] at hta
  rw [hta]
  refine cd_exit (xE (xE (xY (xT (cQ (sM Z (sA Z (sA Z (sA Z (sK [2,3,4] Z (cT (xt_pv (pv_pack (L:=[mps b19 M,T])) ?_))))))))))))
  simp only [lC,lN]
  exact xt_rt rfl ⟨Res.star [mps b19 M,T],rfl,_,rfl,rfl,fun all' h'=>by cases h'; exact ⟨b19,M,rfl,MIn.self.star .here,hT.up (.there .here)⟩⟩ sbq
end
end Go.Hr
namespace Go.Hr
open Go Go.RowKit Go.Ck Go.Proofs Go.Proofs.YtaohbfnepjjdgaaGreat Fx
attribute [local irreducible] Go.Ck.Sub St Cd Xt Nx DrL LsW
section
variable {S T N R:Res} {v:Value} {F:List Fm} {A:List Kt} {l:KS} {s t:Kt} {ts:List Kt} {rows:List (List Value)}
def argZs (l:KS) (F FM:List Fm) (az:List Kt):List Int:=(az.zip (FM.map (·.bound))).map fun q=>argE l F q.1 q.2
theorem argZs_drop {FM:List Fm} {az:List Kt} {m:Nat} (h1:m<az.length) (h2:m<FM.length):(argZs l F FM az).drop m=argE l F az[m] FM[m].bound::(argZs l F FM az).drop (m+1):=by
 have hl:m<(argZs l F FM az).length:=by simp [argZs]; omega
 rw [List.drop_eq_getElem_cons hl]
 simp [argZs]
theorem argZs_end {FM:List Fm} {az:List Kt} {m:Nat} (h2:FM.length≤m):(argZs l F FM az).drop m=[]:=List.drop_eq_nil_of_le (by simp [argZs]; omega)
theorem head_right (h1:(check (ksys l)).1=0) (h2:(firstAt (formalsE l) l).1=0):HRight l:=⟨check_zero.1 h1,firstAt_zero h2⟩
theorem parents_drop {x:KC} {k:Nat} (h:k<x.parents.length):(x.parents.drop k).map (parentE l x)=parentE l x x.parents[k]::(x.parents.drop (k+1)).map (parentE l x):=by rw [List.drop_eq_getElem_cons h,List.map_cons]
set_option maxHeartbeats 8000000 in
set_option maxRecDepth 100000 in
theorem CheckR_ct (hv : ksysR S v l) (ht : Tiny l) (hl : l.length ≤ 1000000) : Ct Tryz.prog 14 #[v] [S] fun u h' => u = .tuple #[.int .i64 (kcheck l).1, sv (kcheck l).2] ∧ h' = [S] := by
 have hml:maxLen=9223372036854775807:=rfl
 have hsl:(ksys l).length≤1000000:=by simpa [ksys] using hl
 have hck:=CheckS_ct hv.sys hsl
 have hhd:=headers_ct hv
 have htb:=fun hH=>tablesR_ct hH hv (fun x hx p hp a ha=>(ht x hx p hp a ha).1)
 obtain ⟨va,vc,rfl,hlcv,hcmv,_⟩:=id hv
 refine ct_of (n:=119) Tryz.func14 Z Z (len Z) fun hr w0=>?_
 refine cQ (sA Z (sA Z (sN (nT (cQ (sM Z (st_cl Z Z en47 Z (hck) ?_)))))))
 rintro u h' ⟨rfl,rfl⟩
 simp only [lC,lN]
 refine st_alc al89 fun b4=>?_
 refine st_stoW Z Z sz89 Z Z ?_
 refine sK [0,2,3,4] Z (cS (cQ (sV (vF Z fa89_0 Z) (sV (vY Z ld29) ?_))))
 refine sV (v_neq Z Z) (sK [0,2,3,4,17] Z (cC Z (fun hc=>?_) (fun hc=>?_)))
 ·have hc:(check (ksys l)).1≠0:=by simpa using hc
  rw [show kcheck l=check (ksys l) from if_pos hc]
  refine cS (cd_drawh (ork [(0,2),(1,1),(2,2),(3,1),(4,2),(5,2)] .nil) (fun _=>true) mixed (by kernel_rfl) ?_)
  refine dV Z (vF Z fa89_0 Z) (dr_v Z (vY Z ld29) ?_)
  refine dV Z (vF Z fa89_1 Z) (dr_v Z (vY Z ld9) ?_)
  refine dV Z (vA Z) (dV Z (vA Z) (dr_nil (nK [2,3] Z (nT (cT (xR ?_))))))
  exact xt_rt Z ⟨Z,Z⟩ sbq
 ·have hc:(check (ksys l)).1=0:=by simpa using hc
  rw [kcheck_at hc]
  refine cK (xT (cQ (sM Z (st_clr Z Z en48 Z (hhd) ?_))))
  refine sM Z (sV (v_extract Z Z) (sV (v_extract Z Z) (sA Z (sA Z (sK [0,2,3,5,6] Z (cS (cQ (sM Z (sV (v_neq Z Z) (sK [0,2,3,5,6,28] Z (cC Z (fun hh=>?_) (fun hh=>?_))))))))))))
  ·have hh:(firstAt (formalsE l) l).1≠0:=by simpa using hh
   rw [if_pos hh]
   refine cQ (sM Z (sM Z (sA Z (sA Z (sK [2,3] Z (cT (xR ?_)))))))
   exact xt_rt Z ⟨Z,Z⟩ sbq
  ·have hh:(firstAt (formalsE l) l).1=0:=by simpa using hh
   have hH:HRight l:=head_right hc hh
   have htb:=htb hH
   rw [if_neg (by simpa using hh)]
   refine cK (xT (cS (cQ (sA Z (sK [0,2,3,5,6,7] Z (cB (cd_lq (σ := Nat) (fun i=>[(0,.slice va l.length vc),(7,.int .i64 (i:Nat))]) (fun _=>S::hr) (fun i=>i≤l.length∧firstAt (parentsE l) l=firstAt (parentsE l) (l.drop i)) (fun i=>l.length - i) 0 ⟨Nat.zero_le _,Z⟩ ?_)))))))
   rintro i ⟨hi,hal⟩
   refine cS (cQ (sM Z (sM Z (sV (v_len Z Tryz.underlying22) (sV (v_lss Z Z) (sK [0,7,34] Z (cC Z (fun hd=>?_) (fun hd=>?_))))))))
   ·have hlt:i<l.length:=by simpa using hd
    have hxl:=List.getElem_mem hlt
    obtain ⟨b,o,cap2,us,e1,_,hrd,d,f,pv,c2,ffa,ffc,i2,rfl,hone,hrow,hrowp⟩:=Row.at hv (List.getElem?_eq_getElem hlt)
    cases e1
    rw [List.drop_eq_getElem_cons hlt,firstAt] at hal
    generalize l[i]=x at hrd hone hrow hrowp hal hxl
    obtain ⟨fa,fcap,rfl,hlc2,hcm2,_⟩:=id hrow
    obtain ⟨pa,pcap,rfl,hplc,hpcm,_⟩:=id hrowp
    have hE:∀ e:Int,e≠0→parentsE l x=e→(if (firstAt (parentsE l) l).1≠0 then firstAt (parentsE l) l else tabsE (tabs l))=(e,x.name):=fun e he h=>by
     rw [h,if_pos he] at hal
     rw [hal]; exact if_pos he
    refine cK (xT (cS (cB (cQ (sA Z (sK [0,7,8] Z (cB (cd_lq (σ := Nat) (fun k=>[(0,.slice (some ⟨b,o,none⟩) l.length vc),(7,.int .i64 (i:Nat)),(8,.int .i64 (k:Nat))]) (fun _=>S::hr) (fun k=>k≤x.parents.length∧parentsE l x=firstE ((x.parents.drop k).map (parentE l x))) (fun k=>x.parents.length - k) 0 ⟨Nat.zero_le _,Z⟩ ?_))))))))
    rintro k ⟨hk,hak⟩
    refine cS (cQ (sM Z (sM Z (sM Z (sV (vI (k:=i) Z Z sl22 Z hlt Z) (sV (vF Z fa54_3 Z) (sV (vY Z ld49) ?_)))))))
    refine sV (v_len Z Tryz.underlying49) (sV (v_lss Z Z) (sK [0,7,8,44] Z (cC Z (fun hdk=>?_) (fun hdk=>?_))))
    ·have hltk:k<x.parents.length:=by simpa using hdk
     have hpm:=List.getElem_mem hltk
     obtain ⟨bq,oq,capq,us,e2,hus,hrdp,hXp⟩:=Row.at hrowp (List.getElem?_eq_getElem hltk)
     cases e2
     rw [parents_drop hltk,firstE] at hak
     generalize x.parents[k]=p at hpm hXp hak
     have hsm:=ht x hxl p hpm
     obtain ⟨y,p1,p2,p3,p4,rfl,hone2,hy⟩:=hXp
     obtain ⟨ya,yc,rfl,hyl,hym,_⟩:=id hy.form
     obtain ⟨_,hk4⟩ | ⟨ky,hk3,hky,hxy⟩:=kidx_find l p.name
     ·have:=hH.right.all _ (ksys_mem hxl) p.name (List.mem_map_of_mem hpm)
      rw [← kfind_isC,hk4] at this; cases this
     have hix2:ixD (kidx l p.name)=(ky:Int):=by rw [hk3]; rfl
     have hbd:∀ (i:Nat) f,(fmsOf l p.name)[i]? = some f→f.bound=root∨isC (ksys l) f.bound=true:=fun i f hf=>hH.bnd (n:=p.name) hf
     obtain ⟨bl2,ol2,capl2,us2,e0,_,hrd2,dd,ff2,pv2,cc2,ffa2,ffc2,i3,rfl,_,hrow3,_⟩:=Row.at hv (List.getElem?_eq_getElem hky)
     cases e0
     have hpe:parentE l x p=if p.args.length≠(fmsOf l p.name).length then 8 else firstE (argZs l x.formals (fmsOf l p.name) p.args):=rfl
     rw [← show fmsOf l p.name=l[ky].formals from fmsOf_some hxy] at hrow3
     generalize fmsOf l p.name=FM at hrow3 hbd hpe
     obtain ⟨qa,qcap,rfl,hql,hqm,_⟩:=id hrow3
     have hE2:∀ e:Int,e≠0→parentE l x p=e→(if (firstAt (parentsE l) l).1≠0 then firstAt (parentsE l) l else tabsE (tabs l))=(e,x.name):=fun e he h=>hE e he (by rw [hak,h,if_pos he])
     refine cK (xT (cS (cB (cQ (sM Z (sM Z (sV (vI (k:=i) Z Z sl22 Z hlt Z) (sV (vF Z fa54_3 Z) (sV (vY Z ld49) ?_)))))))))
     refine sM Z (sV (vI (k:=k) Z Z sl49 Z hltk Z) (sV (v_ldn Z ld79 Z hrdp) ?_))
     refine st_alc al79 fun b9=>?_
     refine st_stoW Z Z sz79 Z hone2 ?_
     refine sK [0,7,8,9] Z (cQ (sM Z (sM Z (sV (vF Z fa79_0 Z) (sV (vY Z ld9) ?_)))))
     refine st_clr Z Z en49 Z (findR_ct hv p.name) ?_
     rw [hix2]
     refine sV (vI (k:=ky) Z Z sl22 Z hky Z) (sV (vF Z fa54_2 Z) (sV (vY Z ld48) ?_))
     refine sA Z (sK [0,7,8,9,10] Z (cS (cQ (sV (vF Z fa79_1 Z) (sV (vY Z ld23) ?_)))))
     refine sV (v_len Z Tryz.underlying23) (sM Z (sV (v_len Z Tryz.underlying48) (sV (v_neq Z Z) (sK [0,7,8,9,10,68] Z (cC Z (fun hq=>?_) (fun hq=>?_))))))
     ·rw [if_pos (by have:=bne_iff_ne.1 hq; omega)] at hpe
      rw [hE2 8 (by decide) hpe]
      refine cS (cd_drawh (ork [(0,2),(1,2),(2,2),(3,2),(4,1),(5,2),(6,2)] .nil) (fun _=>true) mixed (by kernel_rfl) ?_)
      refine dV Z (vM Z) (dV Z (vM Z) (dV Z (vI (k:=i) Z Z sl22 Z hlt Z) (dV Z (vF Z fa54_0 Z) (dr_v Z (vY Z ld9) ?_))))
      refine dV Z (vA Z) (dV Z (vA Z) (dr_nil (nK [2,3] Z (nT (cT (xR (xW (xR (xR (xW (xW (xR (xR (xW (xR ?_)))))))))))))))
      exact xt_rt Z ⟨Z,Z⟩ sbq
     ·have hle:p.args.length=FM.length:=by
       have hq:((p.args.length:Int) != (FM.length:Nat))=false:=hq
       rw [bne_eq_false_iff_eq] at hq; omega
      rw [if_neg (by omega)] at hpe
      refine cK (xT (cQ (sA Z (sK [0,7,8,9,10,11] Z (cB (cd_lq (σ := Nat) (fun m=>[(0,.slice (some ⟨b,o,none⟩) l.length vc),(7,.int .i64 (i:Nat)),(8,.int .i64 (k:Nat)),(9,.pointer (some ⟨b9,0,none⟩)),(10,.slice qa FM.length qcap),(11,.int .i64 (m:Nat))]) (fun _=>pt b9 (cl [sv p.name,.slice ya p.args.length yc,p1,p2,p3,p4] 79)::S::hr) (fun m=>m≤FM.length∧parentE l x p=firstE ((argZs l x.formals FM p.args).drop m)) (fun m=>FM.length - m) 0 ⟨Nat.zero_le _,hpe⟩ ?_))))))
      rintro m ⟨hm,ham⟩
      refine cS (cQ (sM Z (sM Z (sV (v_len Z Tryz.underlying48) (sV (v_lss Z Z) (sK [0,7,8,9,10,11,77] Z (cC Z (fun hdm=>?_) (fun hdm=>?_))))))))
      ·have hltm:m<FM.length:=by simpa using hdm
       have hlta:m<p.args.length:=by omega
       have hmem:=List.getElem_mem hlta
       obtain ⟨ba,oa,capa,us,e3,hus,hrda,hta⟩:=hy.at (List.getElem?_eq_getElem hlta)
       cases e3
       have hgf:=List.getElem?_eq_getElem hltm
       obtain ⟨bf,of,capf,e4,hrf⟩:=fm_at hrow3 hgf
       cases e4
       have hbf:=hbd m _ hgf
       rw [argZs_drop hlta hltm,firstE] at ham
       generalize p.args[m]=a at hmem hta ham
       generalize FM[m]=f at hgf hrf hbf ham
       obtain ⟨hsp,hsd⟩:=hsm a hmem
       have hde:=deep_ct hsd hta
       obtain ⟨z,rfl,hz⟩:=hta.out
       have hri:=rightR_go hH hv hxl (n0:=sv x.name) (d:=d) (pv:=.slice (some ⟨bq,oq,none⟩) x.parents.length pcap) (c2:=c2) (fs:=.slice ffa x.feats ffc) (ii:=i2) hrow a.depth a z (Nat.le_refl _) hz
       obtain ⟨za,zc,rfl,_⟩:=id hz.form
       have hac:=argument_of hH hv hxl hrow hbf hri
       unfold tyC at hac hrda hde
       unfold fmA at hrf
       have hge:argE l x.formals a f.bound=if 40<a.depth then 3 else actE l x.formals a f.bound:=rfl
       have hE3:∀ e:Int,e≠0→argE l x.formals a f.bound=e→(if (firstAt (parentsE l) l).1≠0 then firstAt (parentsE l) l else tabsE (tabs l))=(e,x.name):=fun e he h=>hE2 e he (by rw [ham,h,if_pos he])
       refine cK (xT (cS (cB (cS (cd_drawh (ork [(0,2),(1,2),(2,2),(3,2),(4,1),(5,2),(6,1),(7,2),(8,2),(9,1),(10,2),(11,2),(12,2),(13,2),(14,1),(15,1),(16,2)] .nil) (fun _=>true) mixed (by kernel_rfl) ?_)))))
       refine dV Z (vM Z) (dV Z (vM Z) (dV Z (vM Z) (dV Z (vI (k:=i) Z Z sl22 Z hlt Z) (dr_v Z (v_ldn Z ld54 Z hrd) ?_))))
       refine dV Z (vF Z fa79_1 Z) (dr_v Z (vY Z ld23) ?_)
       refine dV Z (vM Z) (dV Z (vI (k:=m) Z Z sl23 Z hlta Z) (dr_v Z (v_ldn Z ld25 Z hrda) ?_))
       refine dV Z (vM Z) (dV Z (vM Z) (dV Z (vI (k:=m) Z Z sl48 Z hltm Z) (dV Z (vF Z fa94_1 Z) (dr_v Z (vY Z ld9) ?_))))
       refine dr_clr Z Z Z en50 Z (hac) ?_
       refine dV Z (vA Z) (dr_nil (nK [0,7,8,9,10,11,12] Z (nT (cS (cQ (sV (vF Z fa79_1 Z) (sV (vY Z ld23) ?_)))))))
       refine sM Z (sV (vI (k:=m) Z Z sl23 Z hlta Z) (sV (v_ldn Z ld25 Z hrda) ?_))
       refine st_clr Z Z en51 Z (hde) ?_
       refine sV (v_gtr Z Z) (sK [0,7,8,9,10,11,12,102] Z (cC Z (fun hq40=>?_) (fun hq40=>?_)))
       ·rw [if_pos (by have:=of_decide_eq_true hq40; omega)] at hge
        rw [hE3 3 (by decide) hge]
        refine cR (sA Z (sK [0,7,8,9,10,11,12] Z (cQ (sM Z (sV (v_neq Z Z) (sK [0,7,8,9,10,11,12,104] Z (cd_true Z ?_)))))))
        refine cS (cd_drawh (ork [(0,2),(1,2),(2,2),(3,2),(4,2),(5,1),(6,2),(7,2)] .nil) (fun _=>true) mixed (by kernel_rfl) ?_)
        refine dV Z (vM Z) (dV Z (vM Z) (dV Z (vM Z) (dV Z (vI (k:=i) Z Z sl22 Z hlt Z) (dV Z (vF Z fa54_0 Z) (dr_v Z (vY Z ld9) ?_)))))
        refine dV Z (vA Z) (dV Z (vA Z) (dr_nil (nK [2,3] Z (nT (cT (xW (xR (xR (xW (xW (xR (xR (xW (xW (xR ?_)))))))))))))))
        refine xR (xW (xR ?_))
        exact xt_rt Z ⟨Z,Z⟩ sbq
       ·rw [if_neg (by have:=of_decide_eq_false hq40; omega)] at hge
        refine cK (xT (cQ (sM Z (sV (v_neq Z Z) (sK [0,7,8,9,10,11,12,104] Z (cC Z (fun he=>?_) (fun he=>?_)))))))
        ·have he:actE l x.formals a f.bound≠0:=by simpa using he
         rw [hE3 _ he hge]
         refine cS (cd_drawh (ork [(0,2),(1,2),(2,2),(3,2),(4,2),(5,1),(6,2),(7,2)] .nil) (fun _=>true) mixed (by kernel_rfl) ?_)
         refine dV Z (vM Z) (dV Z (vM Z) (dV Z (vM Z) (dV Z (vI (k:=i) Z Z sl22 Z hlt Z) (dV Z (vF Z fa54_0 Z) (dr_v Z (vY Z ld9) ?_)))))
         refine dV Z (vA Z) (dV Z (vA Z) (dr_nil (nK [2,3] Z (nT (cT (xW (xR (xR (xW (xW (xR (xR (xW (xW (xR ?_)))))))))))))))
         refine xR (xW (xR ?_))
         exact xt_rt Z ⟨Z,Z⟩ sbq
        ·have he:actE l x.formals a f.bound=0:=by simpa using he
         rw [hge,he,if_neg (by decide)] at ham
         refine cK (xB (xT (cR (sM Z (sV (v_add Z Z (by unfold I64 at *; omega)) (sA Z (sN (nK [0,7,8,9,10,11] Z (nx_xt ?_)))))))))
         refine xt_aq (m+1) ⟨hltm,ham⟩ (Nat.sub_lt_sub_left hltm (Nat.lt_succ_self m))
      ·have hml2:FM.length≤m:=by
        have:¬ m<FM.length:=by simpa using hdm
        omega
       rw [argZs_end hml2,firstE] at ham
       rw [ham,if_neg (by decide)] at hak
       refine cd_exit (xE (xE (xY (xB (xT (cR (sM Z (sV (v_add Z Z (by unfold I64 at *; omega)) (sA Z (sN (nK [0,7,8] Z (nx_xt ?_))))))))))))
       refine xt_aq (k+1) ⟨hltk,hak⟩ (Nat.sub_lt_sub_left hltk (Nat.lt_succ_self k))
    ·have hkl:k=x.parents.length:=by
      have:¬ k<x.parents.length:=by simpa using hdk
      omega
     rw [hkl,List.drop_length,List.map_nil,firstE] at hak
     rw [hak,if_neg (by decide)] at hal
     refine cd_exit (xE (xE (xY (xB (xT (cR (sM Z (sV (v_add Z Z (by unfold I64 at *; omega)) (sA Z (sN (nK [0,7] Z (nx_xt ?_))))))))))))
     refine xt_aq (i+1) ⟨hlt,hal⟩ (Nat.sub_lt_sub_left hlt (Nat.lt_succ_self i))
   ·have hil:i=l.length:=by
     have:¬ i<l.length:=by simpa using hd
     omega
    rw [hil,List.drop_length,firstAt] at hal
    rw [hal,if_neg (by decide)]
    refine cd_exit (xE (xE (xY (xT (cQ (sM Z (st_cl Z Z en52 Z (htb) ?_)))))))
    rintro u h' ⟨T,rfl,mv,rfl,hmv,_⟩
    simp only [lC,lN]
    refine sM Z (sV (v_extract Z Z) (sV (v_extract Z Z) (sV (v_extract Z Z) (sA Z (sA Z (sK [5,6] Z (cQ (sM Z (sM Z (sA Z (sA Z (sK [2,3] Z ?_))))))))))))
    refine cT ?_
    exact xt_rt Z ⟨Z,Z⟩ sbq
end
end Go.Hr
namespace Go.Hr
open Go Go.RowKit Go.Ck Go.Proofs Go.Proofs.YtaohbfnepjjdgaaGreat Fx
attribute [local irreducible] Go.Ck.Sub St Cd Xt Nx DrL LsW
section
variable {S T N R:Res} {v:Value} {F:List Fm} {A:List Kt} {l:KS} {s t:Kt} {ts:List Kt} {rows:List (List Value)}
def cls0C:List Value:=[sv [],.bool false,.slice none 0 0,.slice none 0 0,.slice none 0 0,.slice none 0 0,.slice none 0 0]
set_option maxHeartbeats 4000000 in
set_option maxRecDepth 100000 in
theorem openedR_ct (hv : ksysR S v l) (ht : Tiny l) (hl : l.length ≤ 1000000) (c : Nm) {tv : Value} (hts : Tys S tv ts) (hdt : ∀ t ∈ ts, t.depth ≤ 1000000) :
  Ct Tryz.prog 55 #[v,sv c,tv] [S] fun u h'=>∃ cs:List Value,u = .tuple #[.agg cs.toArray,.int .i64 (askedE l c ts)]∧h'=[S]∧cs.length=7∧cs.all Value.oneCell'=true∧(askedE l c ts=0→∃ x,kfind l c=some x∧kclsC S cs x):=by
 have hml:maxLen=9223372036854775807:=rfl
 have hck:=CheckR_ct hv ht hl
 obtain ⟨ta,tc,rfl,htlc,htcm,_⟩:=id hts.form
 obtain ⟨va,vc,rfl,hlcv,hcmv,_⟩:=id hv
 refine ct_of (n:=52) Tryz.func55 Z Z (len Z) fun hr w0=>?_
 refine cQ (st_alc al54 fun b6=>?_)
 refine sA Z (sN (nT (cQ (sM Z (st_cl Z Z en14 Z (hck) ?_)))))
 rintro u h' ⟨rfl,rfl⟩
 simp only [lC,lN]
 refine sM Z (sV (v_extract Z Z) (sV (v_extract Z Z) (sA Z (sA Z (sK [0,1,2,6,7,8] Z (cS (cQ (sM Z (sV (v_neq Z Z) (sK [0,1,2,6,7,8,19] Z (cC Z (fun hc=>?_) (fun hc=>?_))))))))))))
 ·have hc:(kcheck l).1≠0:=by simpa using hc
  have hk:askedE l c ts=(kcheck l).1:=if_pos hc
  rw [hk]
  refine cQ (sV (v_build (cells:=cls0C) Z (fun _=>by kernel_rfl)) ?_)
  refine sM Z (st_stoW Z Z sz54 Z Z ?_)
  refine sA Z (sK [6,7] Z (cT (xR ?_)))
  exact xt_retV (.cellN Z ld54 Z slq (.tmp Z .nil)) ⟨cls0C,Z,Z,Z,Z,fun h=>absurd h hc⟩ sbr
 ·have hc:(kcheck l).1=0:=by simpa using hc
  obtain ⟨all,hK⟩:=kcheck_zero.1 hc
  have hk:askedE l c ts=match kfind l c with
   | none=>5
   | some x=>firstE (ts.map (rightK l x.formals)):=if_neg (by simpa using hc)
  rw [hk]
  refine cK (xT (cQ (sM Z (sM Z (st_clr Z Z en49 Z (findR_ct hv c) ?_)))))
  obtain ⟨hk1,hk2⟩ | ⟨j,hk1,hkj,hk2⟩:=kidx_find l c
  ·rw [show ixD (kidx l c) = -1 by rw [hk1]; rfl,hk2]
   refine sA Z (sK [0,2,6,7,10] Z (cS (cQ (sM Z (sV (v_lss Z Z) (sK [0,2,6,7,10,26] Z (cd_true Z ?_)))))))
   refine cQ (sV (v_build (cells:=cls0C) Z (fun _=>by kernel_rfl)) ?_)
   refine st_stoW Z Z sz54 Z Z ?_
   refine sA Z (sK [6,7] Z (cT (xR ?_)))
   exact xt_retV (.cellN Z ld54 Z slq (.tmp Z .nil)) ⟨cls0C,Z,Z,Z,Z,fun h=>absurd (show (5:Int)=0 from h) (by decide)⟩ sbr
  ·rw [show ixD (kidx l c) = (j : Int) by rw [hk1]; rfl, hk2]
   obtain ⟨hxn,hxl⟩:=kfind_some hk2
   obtain ⟨bl,ol,capl,us,e0,_,hrd0,hcx⟩:=Row.at hv (List.getElem?_eq_getElem hkj)
   cases e0
   generalize l[j]=x at hk2 hxn hxl hrd0 hcx
   have hcx2:=hcx
   obtain ⟨d,ff,pv,c2,ffa,ffc,i2,rfl,hone,hrow,_⟩:=hcx
   obtain ⟨fa,fcap,rfl,_⟩:=id hrow
   simp only []
   refine sA Z (sK [0,2,6,7,10] Z (cS (cQ (sM Z (sV (v_lss Z Z) (sK [0,2,6,7,10,26] Z ?_))))))
   rw [show decide ((j:Int)<0)=false from decide_eq_false (by omega)]
   refine cd_false Z ?_
   refine cK (xT (cS (cQ (sA Z (sK [0,2,6,7,10,11] Z (cB (cd_lq (σ := Nat) (fun i=>[(0,.slice (some ⟨bl,ol,none⟩) l.length vc),(2,.slice ta ts.length tc),(6,.pointer (some ⟨b6,0,none⟩)),(10,.int .i64 (j:Nat)),(11,.int .i64 (i:Nat))]) (fun _=>pt b6 (cl cls0C 54)::S::hr) (fun i=>i≤ts.length∧firstE (ts.map (rightK l x.formals))=firstE ((ts.drop i).map (rightK l x.formals))) (fun i=>ts.length - i) 0 ⟨Nat.zero_le _,Z⟩ ?_)))))))
   rintro i ⟨hi,hal⟩
   refine cS (cQ (sM Z (sM Z (sV (v_len Z Tryz.underlying23) (sV (v_lss Z Z) (sK [0,2,6,10,11,31] Z (cC Z (fun hd=>?_) (fun hd=>?_))))))))
   ·have hlt:i<ts.length:=by simpa using hd
    have hmt:=List.getElem_mem hlt
    obtain ⟨b,o,cap2,us,e1,hus,hrd,hta⟩:=hts.at (List.getElem?_eq_getElem hlt)
    cases e1
    rw [List.drop_eq_getElem_cons hlt,List.map_cons,firstE] at hal
    generalize ts[i]=t at hmt hta hal
    have hri:=rightIn_ct hK.head hv hxl (n0:=sv x.name) (d:=d) (pv:=pv) (c2:=c2) (fs:=.slice ffa x.feats ffc) (ii:=i2) hrow hta (hdt t hmt)
    obtain ⟨y,rfl,hy⟩:=hta.out
    obtain ⟨ya,yc,rfl,_⟩:=id hy.form
    unfold tyC at hrd hri
    refine cK (xT (cS (cB (cS (cd_drawh (ork [(0,2),(1,2),(2,2),(3,2),(4,1),(5,2),(6,2),(7,2),(8,1),(9,1),(10,2)] .nil) (fun _=>true) mixed (by kernel_rfl) ?_)))))
    refine dV Z (vM Z) (dV Z (vM Z) (dV Z (vM Z) (dV Z (vI (k:=j) Z Z sl22 Z hkj Z) (dr_v Z (v_ldn Z ld54 Z hrd0) ?_))))
    refine dV Z (vM Z) (dV Z (vM Z) (dV Z (vI (k:=i) Z Z sl23 Z hlt Z) (dr_v Z (v_ldn Z ld25 Z hrd) ?_)))
    refine dr_clr Z Z Z en95 Z (hri) ?_
    refine dV Z (vA Z) (dr_nil (nK [0,2,6,10,11,12] Z (nT (cQ (sM Z (sV (v_neq Z Z) (sK [0,2,6,10,11,12,45] Z (cC Z (fun he=>?_) (fun he=>?_)))))))))
    ·have he:rightK l x.formals t≠0:=by simpa using he
     rw [hal,if_pos he]
     refine cQ (sV (v_build (cells:=cls0C) Z (fun _=>by kernel_rfl)) ?_)
     refine sM Z (st_stoW Z Z sz54 Z Z ?_)
     refine sA Z (sK [6,7] Z (cT (xW (xR (xR (xW (xR ?_)))))))
     exact xt_retV (.cellN Z ld54 Z slq (.tmp Z .nil)) ⟨cls0C,Z,Z,Z,Z,fun h=>absurd h he⟩ sbr
    ·have he:rightK l x.formals t=0:=by simpa using he
     rw [if_neg (by simpa using he)] at hal
     refine cK (xB (xT (cR (sM Z (sV (v_add Z Z (by unfold I64 at *; omega)) (sA Z (sN (nK [0,2,6,10,11] Z (nx_xt ?_)))))))))
     refine xt_aq (i+1) ⟨hlt,hal⟩ (Nat.sub_lt_sub_left hlt (Nat.lt_succ_self i))
   ·have hil:i=ts.length:=by
     have:¬ i<ts.length:=by simpa using hd
     omega
    rw [hal,hil,List.drop_length]
    refine cd_exit (xE (xE (xY (xT (cQ (sM Z (sM Z (sV (vI (k:=j) Z Z sl22 Z hkj Z) (sV (v_ldn Z ld54 Z hrd0) ?_)))))))))
    refine st_stoW Z Z sz54 Z hone ?_
    refine sA Z (sK [6,7] Z (cT ?_))
    exact xt_retV (.cellN Z ld54 Z slq (.tmp Z .nil)) ⟨_,Z,Z,Z,hone,fun _=>⟨x,Z,hcx2⟩⟩ sbr
end
end Go.Hr
namespace Go.Hr
open Go Go.RowKit Go.Ck Go.Proofs Go.Proofs.YtaohbfnepjjdgaaGreat Fx
attribute [local irreducible] Go.Ck.Sub St Cd Xt Nx DrL LsW
section
variable {S T N R:Res} {v:Value} {F:List Fm} {A:List Kt} {l:KS} {s t:Kt} {ts:List Kt} {rows:List (List Value)} {all:List (Nm×Own)}
theorem ld38:LdN Tryz.prog 38 2:=LdN.of Tryz.underlying38 sz38
theorem v_slookupI_ok {P:Program} {e:Env} {h h':SH} {ty:TypeId} {T K E:TypeId} {x y:Operand} {b:Nat} {m:List (Bs×Value)} {k:Bs} {z:Value} {sz bytes:Nat} {R:Res} (hx:e.ev? x=some (.map (some b))) (hy:e.ev? y=some (sv k)) (hT:MpS P T K E) (hE:Inf P E z sz bytes) (hin:MIn R b m) (hs:Sel h R h') :
  Vop P e h (.lookup T x y true) ty (.tuple #[(slook m k).getD z,.bool (slook m k).isSome]):=
 ⟨by simp,by simp,fun ρ w d pos after g hρ hh=>by
  simp [execOp,hρ x _ hx,hρ y _ hy,run_lookupS hT hE (hin _ (hh.sel hs).1) k true]⟩
def rinst (l:KS) (all:List (Nm×Own)) (t:Kt) (a:Nm):List Kt×Bool :=
 if a=root then ([],true) else if t.name=root then ([],false) else match (alook all t.name).bind (· a) with
 | none=>([],false)
 | some ts=>(ts.map (Kt.subst (fmsOf l t.name) t.args),true)
theorem wayE_has (hR : Right (ksys l)) {c a : Nm} (hc : isC (ksys l) c = true) : wayE (ksys l) c a = 0 ↔ has (ksys l) c a = true := by
 unfold wayE
 constructor
 ·intro h
  split at h
  ·split at h
   ·assumption
   ·cases h
  ·rename_i h1; exact absurd h h1
 ·intro h
  have:rightE (ksys l) [c,a]=0:=rightE_zero.2 ⟨hR,fun n hn=>by
   rcases List.mem_cons.1 hn with rfl | hn
   ·exact hc
   ·simp at hn; subst hn; exact has_isC hc h⟩
  rw [if_pos this,if_pos h]
theorem inst_eq (hK : KRight l all) {a : Nm} (hb : badT l t = false) : instK l t a = ((rinst l all t a).1, if (rinst l all t a).2 = true then 0 else 5) := by
 unfold instK rinst
 rw [if_neg (by rw [hb]; decide)]
 by_cases ha:a=root
 ·rw [if_pos ha,if_pos ha]; rfl
 ·rw [if_neg ha, if_neg ha]
  unfold badT at hb
  simp only [Bool.or_eq_false_iff] at hb
  cases hk:kfind l t.name with
  | none =>
   have hn:t.name=root:=by
    have:=hb.1.2
    rw [hk] at this
    simpa using this
   rw [if_pos (show (none:Option KC).isSome=false from rfl),if_pos hn]; rfl
  | some x =>
   have hn:t.name≠root:=fun e=>by rw [e,hK.no_root] at hk; cases hk
   have hlen:t.args.length=x.formals.length:=by
    have:=hb.2
    rw [fmsOf_some hk,bne_eq_false_iff_eq] at this; omega
   have hc:isC (ksys l) t.name=true:=by rw [← kfind_isC,hk]; rfl
   rw [if_neg (show ¬ (some x).isSome=false by simp),if_neg hn]
   have hls:=hK.look_some (a:=a) hk
   by_cases hw:wayE (ksys l) t.name a=0
   ·have hh:=(wayE_has hK.right hc).1 hw
    rw [hh] at hls
    obtain ⟨ts,hts⟩:=Option.isSome_iff_exists.1 hls
    rw [if_neg (by simpa using hw),hts,hK.along (wayK_way hw) hk hlen]
    unfold insT
    rw [hts,fmsOf_some hk]; rfl
   ·have hh:has (ksys l) t.name a=false:=by
     rw [← Bool.not_eq_true]; exact fun e=>hw ((wayE_has hK.right hc).2 e)
    rw [hh] at hls
    rw [if_pos hw]
    cases hts:(alook all t.name).bind (· a) with
    | none=>rfl
    | some ts=>rw [hts] at hls; cases hls
set_option maxHeartbeats 4000000 in
set_option maxRecDepth 100000 in
theorem instR_ct (hK : KRight l all) (hv : ksysR S v l) (ht : Tiny l) {us : List Value} (hu : Ty S us t) (hn : t.name = root ∨ (kfind l t.name).isSome = true) (a : Nm) :
  CtN Tryz.prog 57 #[v,.agg us.toArray,sv a] [S] fun u T=>∃ w,u = .tuple #[w,.bool (rinst l all t a).2]∧w.oneCell'=true∧Tys (Res.star [T,S]) w (rinst l all t a).1:=by
 have hml:maxLen=9223372036854775807:=rfl
 have htb:=tablesR_ct hK.head hv (fun x hx p hp a ha=>(ht x hx p hp a ha).1)
 obtain ⟨y,rfl,hy⟩:=hu.out
 obtain ⟨ya,yc,rfl,_⟩:=id hy.form
 obtain ⟨va,vc,rfl,hlcv,hcmv,_⟩:=id hv
 unfold tyC rinst
 refine ct_of (n:=47) Tryz.func57 Z Z (len Z) fun hr w0=>?_
 refine cQ (st_bx Z Z fun b4=>?_)
 refine sA Z (sA Z (sK [0,2,4,6,7] Z (cS (cQ (sM Z (sV (v_seql Z Z) (sK [0,2,4,6,7,14] Z (cC Z (fun ha=>?_) (fun ha=>?_)))))))))
 ·have ha:(a == root)=true:=ha
  rw [if_pos (eq_of_beq ha)]
  refine cQ (sA Z (sA Z (sK [6,7] Z (cT (xR (xt_vw (vw_unstar (L:=[])) ?_))))))
  exact xt_rt Z ⟨Res.star [],Z,_,Z,Z,Tys.nil⟩ sbq
 ·have ha:(a == root)=false:=ha
  rw [if_neg (by simpa using ha)]
  refine cK (xT (cS (cQ (sV (vF Z fa25_1 Z) (sV (vY Z ld9) ?_)))))
  refine sV (v_seql Z Z) (sK [0,2,4,6,7,17] Z (cC Z (fun hr=>?_) (fun hr=>?_)))
  ·have hr:(t.name == root)=true:=hr
   rw [if_pos (eq_of_beq hr)]
   refine cQ (sA Z (sA Z (sK [6,7] Z (cT (xR (xt_vw (vw_unstar (L:=[])) ?_))))))
   exact xt_rt Z ⟨Res.star [],Z,_,Z,Z,Tys.nil⟩ sbq
  ·have hr:(t.name == root)=false:=hr
   have hr:t.name≠root:=by simpa using hr
   rw [if_neg hr]
   obtain ⟨x,hx⟩:=Option.isSome_iff_exists.1 (hn.resolve_left hr)
   obtain ⟨o,ho,hO⟩:=hK.own hx
   rw [ho,Option.bind_some]
   obtain ⟨_,hk4⟩ | ⟨kx,hk3,hkx,hxy⟩:=kidx_find l t.name
   ·rw [hk4] at hx; cases hx
   have hix:ixD (kidx l t.name)=(kx:Int):=by rw [hk3]; rfl
   obtain ⟨bl,ol,capl,us2,e0,_,hrd0,dd,ff2,pv2,cc2,ffa2,ffc2,i3,rfl,_,hrow3,_⟩:=Row.at hv (List.getElem?_eq_getElem hkx)
   cases e0
   rw [← show fmsOf l t.name=l[kx].formals from fmsOf_some hxy] at hrow3
   obtain ⟨qa,qcap,rfl,_⟩:=id hrow3
   refine cK (xT (cQ (sM Z (st_cl Z Z en52 Z (htb) ?_))))
   rintro u h' ⟨T,rfl,mv,rfl,hmv,hall⟩
   simp only [lC,lN]
   obtain ⟨b,M,rfl,hMin,hT⟩:=hall all hK.tab
   obtain ⟨bp,mp,hlp,hin,hwp⟩:=hT t.name o ho
   obtain ⟨vt,hgv,hvt⟩:=hwp.get2 a
   obtain ⟨tya,tyc,rfl,_⟩:=id hvt.form
   refine sM Z (sV (v_extract Z Z) (sV (v_extract Z Z) (sV (v_extract Z Z) (sA Z (sA Z (sA Z (sK [0,2,4,6,7,8] Z (cQ (sM Z (sV (vF Z fa25_1 Z) (sV (vY Z ld9) ?_)))))))))))
   refine sV (v_is (show (slook M t.name).getD (.map none) = .map (some bp) by rw [hlp]; rfl) (v_slookupI Z Z mp96 inf142 hMin (show Sel _ T _ from slq))) ?_
   refine sM Z (sV (v_is hgv (v_slookupI_ok Z Z mp142 inf23 hin (show Sel _ T _ from slq))) ?_)
   refine sM Z (sV (v_extract Z Z) (sV (v_extract Z Z) (sA Z (sA Z (sK [0,4,6,7,11,12] Z (cS (cQ (sM Z (sV (v_not Z) (sK [0,4,6,7,11,34] Z ?_))))))))))
   cases hoa:o a with
   | none =>
    simp only [Option.isSome_none]
    refine cd_true Z ?_
    refine cQ (sA Z (sA Z (sK [6,7] Z (cT (xR ?_)))))
    exact xt_rt Z ⟨T,Z,_,Z,Z,Tys.nil⟩ sbq
   | some tb =>
    rw [hoa] at hvt
    simp only [Option.isSome_some,Option.getD_some] at hvt ⊢
    have hsa:=substAll_ct (hrow3.mono (rd_in (.there .here)) fun _ _ _ h=>h) (hy.mono (rd_in (.there .here))) hvt
    refine cd_false Z ?_
    refine cK (xT (cS (cd_drawh (ork [(0,2),(1,2),(2,2),(3,1),(4,1),(5,2),(6,2),(7,1),(8,2),(9,1),(10,2),(11,0),(12,2),(13,2)] .nil) (fun i => !(Nat.beq i 11)) mixed (by kernel_rfl) ?_)))
    refine dV Z (vM Z) (dV Z (vM Z) (dV Z (vF Z fa25_1 Z) (dr_v Z (vY Z ld9) ?_)))
    refine dr_clr Z Z Z en49 Z (findR_ct hv t.name) ?_
    rw [hix]
    refine dV Z (vI (k:=kx) Z Z sl22 Z hkx Z) (dV Z (vF Z fa54_2 Z) (dr_v Z (vY Z ld48) ?_))
    refine dV Z (vF Z fa25_2 Z) (dr_v Z (vY Z ld23) ?_)
    refine dV Z (vM Z) (dr_eff Z ?_)
    refine st_pv (pv_pack (L:=[T,S])) ?_
    simp only [lC,lN]
    refine st_cl Z Z en93 Z (hsa) ?_
    rintro u h' ⟨Tn,rfl,wa,wc,rfl,hres⟩
    simp only [lC,lN]
    refine st_pv (pv_unpack (L:=[T,S])) ?_
    simp only [lC,lN]
    refine st_pv (pv_pack (L:=[T,Tn])) ?_
    simp only [lC,lN]
    refine dr_nx ?_
    refine dV Z (vA Z) (dV Z (vA Z) (dr_nil (nK [6,7] Z (nT (cT ?_)))))
    exact xt_rt Z ⟨Res.star [T,Tn],Z,_,Z,Z,hres.mono fun p u g=>rd_turn p u g⟩ sbq
end
end Go.Hr
