/-
  The specification: Check,asked. Conditions: what is read.
  The specification: Way,CheckWay. Conditions: what is read.
  The specification: above,Above,Is. Conditions: what is read.
  The specification: under,Below,Touched. Conditions: what is read.
  Nothing (what stood here is not reached in this seat). No condition.
  The specification: all,Order. Conditions: what is read.
  What the arguments of the laws read as: systems of classes,names. No condition.
  Data that is read to its end,none of whose lists is too long: what it is made of. No condition.
  make([]T,n) for elements of many cells. Generic. No condition.
  Types and systems of generic classes in the machine's memory,as data that is read. No condition.
-/
import Derived.Test.YtaohbfnepjjdgaaGreatM11
import Derived.Test.YtaohbfnepjjdgaaGreatM9
import Derived.Test.YtaohbfnepjjdgaaGreatM10
import Derived.Test.YtaohbfnepjjdgaaGreatM7
import Derived.Test.YtaohbfnepjjdgaaGreatM5
import Derived.JoinedCond
import Derived.SizedLaws
import Derived.Test.YtaohbfnepjjdgaaGreatM6
set_option linter.unusedVariables false
set_option linter.unusedSimpArgs false
namespace Go.Hr
open Go Go.RowKit Go.Ck Go.Proofs Go.Proofs.YtaohbfnepjjdgaaGreat Fx
attribute [local irreducible] Go.Ck.Sub St Cd Xt Nx DrL LsW
theorem ld123:LdN Tryz.prog 123 2:=LdN.of Tryz.underlying123 sz123
theorem ld187:LdN Tryz.prog 187 2:=LdN.of Tryz.underlying187 sz187
theorem ld89:LdN Tryz.prog 89 2:=LdN.of Tryz.underlying89 sz89
theorem lost_of {l:Sys} {x:Cls} (h:∀ p∈x.parents,isC l p=true):lost l x=false:=by
 unfold lost
 rw [List.any_eq_false]
 exact fun p hp=>by rw [h p hp]; decide
section
variable {S:Res} {v:Value} {l:Sys}
set_option maxHeartbeats 1000000 in
set_option maxRecDepth 100000 in
theorem CheckS_ct (hv : sysR S v l) (hl : l.length ≤ 1000000) : Ct Tryz.prog 47 #[v] [S] fun u h' => u = .agg #[.int .i64 (check l).1, sv (check l).2] ∧ h' = [S] := by
 obtain ⟨la,cap,rfl,_⟩:=id hv
 refine ct_of (n:=74) Tryz.func47 Z Z (len Z) fun hr w0=>?_
 refine cQ (st_alc al89 fun b2=>?_)
 refine sN (nT (cS (cQ (sM Z (sV (v_len Z Tryz.underlying22) (sV (v_gtr Z Z) (sK [0,2,10] Z (cC Z (fun h24=>?_) (fun h24=>?_)))))))))
 ·have h24:24<l.length:=by
   have:(24:Int)<l.length:=by simpa using h24
   omega
  rw [check_limit h24]
  refine cQ (sV (v_build (cells:=[.int .i64 3,sv []]) Z (fun _=>by kernel_rfl)) ?_)
  refine st_stoW Z Z sz89 Z Z ?_
  refine sK [2] Z (cT (xR ?_))
  exact xt_retV (.cellN Z ld89 Z slq .nil) ⟨Z,Z⟩ sbr
 ·have h24:l.length≤24:=by
   have:¬ (24:Int)<l.length:=by simpa using h24
   omega
  refine cK (xT (cS (cQ (sA Z (sK [0,2,3] Z (cB (cd_lq (σ := Nat) (fun i=>[(0,.slice la l.length cap),(2,.pointer (some ⟨b2,0,none⟩)),(3,.int .i64 (i:Nat))]) (fun _=>pt b2 (cl [.int .i64 0,sv []] 89)::S::hr) (fun i=>i≤l.length∧∀ (j:Nat) (y:Cls),j<i→l[j]? = some y→alone l j y=0) (fun i=>l.length - i) 0 ⟨Nat.zero_le _,fun j y hj=>absurd hj (Nat.not_lt_zero _)⟩ ?_)))))))
  rintro i ⟨hi,hb⟩
  refine cS (cQ (sM Z (sM Z (sV (v_len Z Tryz.underlying22) (sV (v_lss Z Z) (sK [0,2,3,15] Z (cC Z (fun hd=>?_) (fun hd=>?_))))))))
  ·have hlt:i<l.length:=by simpa using hd
   have hxi:=List.getElem?_eq_getElem hlt
   obtain ⟨b,o,cap2,d,f,pa,pc,c2,fa,fc,j2,hv2,hrd,hP,hone⟩:=sys_at hv hxi
   generalize l[i]=x at *
   refine cK (xT (cS (cB (cQ (sM Z (sM Z (st_clr Z Z en84 Z (aloneS_ct hv hl hxi) ?_)))))))
   refine sA Z (sK [0,2,3,4] Z (cQ (sM Z (sV (v_neq Z Z) (sK [0,2,3,4,22] Z (cC Z (fun hn=>?_) (fun hn=>?_)))))))
   ·have hn:alone l i x≠0:=by simpa using hn
    rw [check_alone h24 hxi hb hn]
    refine cQ (sM Z (sM Z (sM Z (sV (vI (k:=i) (congrArg some hv2) Z sl22 Z hlt Z) (sV (vF Z fa54_0 Z) (sV (vY Z ld9) ?_))))))
    refine sV (v_build (cells:=[.int .i64 (alone l i x),sv x.name]) Z (fun _=>by kernel_rfl)) ?_
    refine st_stoW Z Z sz89 Z Z ?_
    refine sK [2] Z (cT (xW (xR (xR (xW (xR ?_))))))
    exact xt_retV (.cellN Z ld89 Z slq .nil) ⟨Z,Z⟩ sbr
   ·have hn:alone l i x=0:=by simpa using hn
    refine cK (xB (xT (cR (sM Z (sV (v_add Z Z (by unfold I64 at *; omega)) (sA Z (sN (nK [0,2,3] Z (nx_xt (xt_aq (i+1) ⟨hlt,fun j y hj hy=>?_⟩ (by show _ - _<_ - _; omega)))))))))))
    by_cases hji:j=i
    ·subst hji; rw [hxi] at hy; cases hy; exact hn
    ·exact hb j y (by omega) hy
  ·have hil:i=l.length:=by
    have:¬ i<l.length:=by simpa using hd
    omega
   have hball:∀ (j:Nat) (y:Cls),l[j]? = some y→alone l j y=0:=fun j y hj=>hb j y (by rw [hil]; exact (List.getElem?_eq_some_iff.1 hj).1) hj
   have hpar:∀ x∈l,x.parents.length≤4:=fun x hx=>by
    obtain ⟨j,hj⟩:=List.getElem?_of_mem hx
    exact (alone_zero.1 (hball j x hj)).1
   refine cd_exit (xE (xE (xY (xT (cS (cQ (sA Z (sK [0,2,5] Z (cB (cd_lq (σ := Nat) (fun i=>[(0,.slice la l.length cap),(2,.pointer (some ⟨b2,0,none⟩)),(5,.int .i64 (i:Nat))]) (fun _=>pt b2 (cl [.int .i64 0,sv []] 89)::S::hr) (fun i=>i≤l.length∧∀ (j:Nat) (y:Cls),j<i→l[j]? = some y→lost l y=false) (fun i=>l.length - i) 0 ⟨Nat.zero_le _,fun j y hj=>absurd hj (Nat.not_lt_zero _)⟩ ?_))))))))))
   rintro i2 ⟨hi2,hls⟩
   refine cS (cQ (sM Z (sM Z (sV (v_len Z Tryz.underlying22) (sV (v_lss Z Z) (sK [0,2,5,33] Z (cC Z (fun hd2=>?_) (fun hd2=>?_))))))))
   ·have hlt:i2<l.length:=by simpa using hd2
    have hxi:=List.getElem?_eq_getElem hlt
    obtain ⟨b,o,cap2,d,f,pa,pc,c2,fa,fc,j2,hv2,hrd,hP,hone⟩:=sys_at hv hxi
    have hpx:=hpar _ (List.getElem_mem hlt)
    generalize l[i2]=x at *
    refine cK (xT (cS (cB (cQ (sA Z (sK [0,2,5,6] Z (cB (cd_lq (σ := Nat) (fun k=>[(0,.slice la l.length cap),(2,.pointer (some ⟨b2,0,none⟩)),(5,.int .i64 (i2:Nat)),(6,.int .i64 (k:Nat))]) (fun _=>pt b2 (cl [.int .i64 0,sv []] 89)::S::hr) (fun k=>k≤x.parents.length∧∀ p∈x.parents.take k,isC l p=true) (fun k=>x.parents.length - k) 0 ⟨Nat.zero_le _,fun p hp=>by simp at hp⟩ ?_))))))))
    rintro k ⟨hk,hkk⟩
    refine cS (cQ (sM Z (sM Z (sM Z (sV (vI (k:=i2) (congrArg some hv2) Z sl22 Z hlt Z) (sV (vF Z fa54_3 Z) (sV (vY Z ld49) ?_)))))))
    refine sV (v_len Z Tryz.underlying49) (sV (v_lss Z Z) (sK [0,2,5,6,43] Z (cC Z (fun hd3=>?_) (fun hd3=>?_))))
    ·have hklt:k<x.parents.length:=by simpa using hd3
     obtain ⟨pb,po,pcap,q1,q2,q3,q4,q5,hpv,hprd,hpone⟩:=par_at hP (List.getElem?_eq_getElem hklt)
     have htk:=List.take_succ_eq_append_getElem hklt
     have hmem:=List.getElem_mem hklt
     generalize x.parents[k]=p at *
     refine cK (xT (cS (cB (cQ (sM Z (sM Z (sM Z (sV (vI (k:=i2) (congrArg some hv2) Z sl22 Z hlt Z) (sV (vF Z fa54_3 Z) (sV (vY Z ld49) ?_))))))))))
     refine sM Z (sV (vI (k:=k) (congrArg some hpv) Z sl49 Z hklt Z) (sV (vF Z fa79_0 Z) (sV (vY Z ld9) ?_)))
     refine st_clr Z Z en85 Z (index_ct hv p (by omega)) ?_
     refine sV (v_lss Z Z) (sK [0,2,5,6,57] Z (cC Z (fun hx=>?_) (fun hx=>?_)))
     ·have hx:isC l p=false:=by
       rw [← ixN_isC]
       have:ixN l p<0:=by simpa using hx
       exact decide_eq_false (by omega)
      have hlo:lost l x=true:=by
       unfold lost
       rw [List.any_eq_true]
       exact ⟨p,hmem,by rw [hx]; rfl⟩
      rw [check_lost h24 hball hxi hls hlo]
      refine cQ (sM Z (sM Z (sV (vI (k:=i2) (congrArg some hv2) Z sl22 Z hlt Z) (sV (vF Z fa54_0 Z) (sV (vY Z ld9) ?_)))))
      refine sV (v_build (cells:=[.int .i64 5,sv x.name]) Z (fun _=>by kernel_rfl)) ?_
      refine st_stoW Z Z sz89 Z Z ?_
      refine sK [2] Z (cT (xW (xR (xR (xW (xW (xR (xR (xW (xR ?_))))))))))
      exact xt_retV (.cellN Z ld89 Z slq .nil) ⟨Z,Z⟩ sbr
     ·have hx:isC l p=true:=by
       rw [← ixN_isC]
       have:¬ ixN l p<0:=by simpa using hx
       exact decide_eq_true (by omega)
      refine cK (xB (xT (cR (sM Z (sV (v_add Z Z (by unfold I64 at *; omega)) (sA Z (sN (nK [0,2,5,6] Z (nx_xt (xt_aq (k+1) ⟨hklt,fun q hq=>?_⟩ (Nat.sub_lt_sub_left hklt (Nat.lt_succ_self k))))))))))))
      rw [htk] at hq
      rcases List.mem_append.1 hq with hq | hq
      ·exact hkk q hq
      ·simp at hq; rw [hq]; exact hx
    ·have hke:k=x.parents.length:=by
      have:¬ k<x.parents.length:=by simpa using hd3
      omega
     subst hke
     rw [List.take_length] at hkk
     refine cd_exit (xE (xE (xY (xB (xT (cR (sM Z (sV (v_add Z Z (by unfold I64 at *; omega)) (sA Z (sN (nK [0,2,5] Z (nx_xt (xt_aq (i2+1) ⟨hlt,fun j y hj hy=>?_⟩ (Nat.sub_lt_sub_left hlt (Nat.lt_succ_self i2)))))))))))))))
     by_cases hji:j=i2
     ·subst hji; rw [hxi] at hy; cases hy; exact lost_of hkk
     ·have hj:j<i2+1:=hj
      exact hls j y (by omega) hy
   ·have hil2:i2=l.length:=by
     have:¬ i2<l.length:=by simpa using hd2
     omega
    have hlall:∀ (j:Nat) (y:Cls),l[j]? = some y→lost l y=false:=fun j y hj=>hls j y (by rw [hil2]; exact (List.getElem?_eq_some_iff.1 hj).1) hj
    refine cd_exit (xE (xE (xY (xT (cQ (sM Z (st_cl Z Z en86 Z (RingS_ct hv h24 (fun x hx=>Nat.le_trans (hpar x hx) (by decide))) ?_)))))))
    rintro u h' ⟨T,rfl,r,hu1,hu,hrl,hrn,hrr⟩
    simp only [lC,lN]
    obtain ⟨ra,rcap,rfl,_⟩:=id hu
    refine sA Z (sK [2,7] Z (cS (cQ (sM Z (sV (v_len Z Tryz.underlying50) (sV (v_gtr Z Z) (sK [2,7,68] Z (cC Z (fun hr0=>?_) (fun hr0=>?_)))))))))
    ·have hr0:0<r.length:=by
      have:(0:Int)<r.length:=by simpa using hr0
      omega
     obtain ⟨r',hr'⟩:∃ r',ring l=some r':=by
      cases h:ring l with
      | some r'=>exact ⟨r',rfl⟩
      | none =>
       rw [hrn.2 (noRing_acyc.2 (ring_none.1 h))] at hr0
       simp at hr0
     have hrd:r'.headD []=r[0]:=by
      rw [hr'] at hrr
      simp only [Option.getD_some] at hrr
      subst hrr
      rw [List.headD_eq_head?_getD,List.head?_eq_getElem?,List.getElem?_eq_getElem hr0]; rfl
     rw [check_ring h24 hball hlall hr',hrd]
     obtain ⟨rb,ro,rcap2,hrv2,hrrd⟩:=nms_at hu (List.getElem?_eq_getElem hr0)
     refine cQ (sM Z (sV (vI (k:=0) (congrArg some hrv2) Z sl50 Z hr0 Z) (sV (vY Z ld9) ?_)))
     refine sV (v_build (cells:=[.int .i64 7,sv r[0]]) Z (fun _=>by kernel_rfl)) ?_
     refine st_stoW Z Z sz89 Z Z ?_
     refine sK [2] Z (cT (xR ?_))
     exact xt_retV (.cellN Z ld89 Z slq .nil) ⟨Z,Z⟩ sbr
    ·have hr0:r=[]:=List.eq_nil_of_length_eq_zero (by
      have:¬ (0:Int)<r.length:=by simpa using hr0
      omega)
     rw [check_ok h24 hball hlall (ring_none.2 (noRing_acyc.1 (hrn.1 hr0)))]
     refine cK (xT (cQ (sV (v_build (cells:=[.int .i64 0,sv []]) Z (fun _=>by kernel_rfl)) ?_)))
     refine st_stoW Z Z sz89 Z Z ?_
     refine sK [2] Z (cT ?_)
     exact xt_retV (.cellN Z ld89 Z slq .nil) ⟨Z,Z⟩ sbr
variable {N:Res} {nv:Value} {ns:List Nm}
set_option maxRecDepth 100000 in
theorem asked_ct (hv : sysR S v l) (hl : l.length ≤ 1000000) (hn : nmsR N nv ns) (hnl : ns.length ≤ 1099511627776) : Reads Tryz.prog 110 #[v, nv] [S, N] (.int .i64 (rightE l ns)) := by
 obtain ⟨la,cap,rfl,_⟩:=id hv
 obtain ⟨na,ncap,rfl,_⟩:=id hn
 refine ct_of (n:=27) Tryz.func110 Z Z (len Z) fun hr w0=>?_
 refine cQ (sA Z (sN (nT (cQ (sM Z (st_cl Z Z en47 Z (CheckS_ct hv hl) ?_))))))
 rintro u h' ⟨rfl,rfl⟩
 simp only [lC,lN]
 refine st_alc al89 fun b5=>?_
 refine st_stoW Z Z sz89 Z Z ?_
 refine sK [0,1,4,5] Z (cS (cQ (sV (vF Z fa89_0 Z) (sV (vY Z ld29) ?_))))
 refine sV (v_neq Z Z) (sK [0,1,4,5,11] Z (cC Z (fun hc=>?_) (fun hc=>?_)))
 ·have hc:¬ (check l).1=0:=by simpa using hc
  rw [show rightE l ns=(check l).1 by unfold rightE; rw [if_neg hc]]
  refine cQ (sV (vF Z fa89_0 Z) (sV (vY Z ld29) ?_))
  refine sA Z (sK [4] Z (cT (xR ?_)))
  exact xt_rt Z ⟨Z,Z⟩ sbq
 ·have hc:(check l).1=0:=by simpa using hc
  refine cK (xT (cS (cQ (sA Z (sK [0,1,4,6] Z (cB (cd_lq (σ := Nat) (fun i=>[(0,.slice la l.length cap),(1,.slice na ns.length ncap),(6,.int .i64 (i:Nat))]) (fun _=>S::N::hr) (fun i=>i≤ns.length∧∀ x∈ns.take i,isC l x=true) (fun i=>ns.length - i) 0 ⟨Nat.zero_le _,fun x hx=>by simp at hx⟩ ?_)))))))
  rintro i ⟨hi,hal⟩
  refine cS (cQ (sM Z (sM Z (sV (v_len Z Tryz.underlying50) (sV (v_lss Z Z) (sK [0,1,6,17] Z (cC Z (fun hd=>?_) (fun hd=>?_))))))))
  ·have hlt:i<ns.length:=by simpa using hd
   obtain ⟨b,o,cap2,hv2,hrd⟩:=nms_at hn (List.getElem?_eq_getElem hlt)
   refine cK (xT (cS (cB (cQ (sM Z (sM Z (sM Z (sV (vI (k:=i) (congrArg some hv2) Z sl50 Z hlt Z) (sV (vY Z ld9) ?_)))))))))
   refine st_clr Z Z en85 Z (index_ct hv ns[i] (by omega)) ?_
   refine sV (v_lss Z Z) (sK [0,1,6,26] Z (cC Z (fun hx=>?_) (fun hx=>?_)))
   ·have hx:isC l ns[i]=false:=by
     rw [← ixN_isC]
     have:ixN l ns[i]<0:=by simpa using hx
     exact decide_eq_false (by omega)
    have he:rightE l ns=5:=by
     unfold rightE
     rw [if_pos hc,if_neg (by rw [List.all_eq_true]; intro h; rw [h _ (List.getElem_mem hlt)] at hx; cases hx)]
    rw [he]
    refine cQ (sA Z (sK [4] Z (cT (xW (xR (xR (xW (xR ?_))))))))
    exact xt_rt Z ⟨Z,Z⟩ sbq
   ·have hx:isC l ns[i]=true:=by
     rw [← ixN_isC]
     have:¬ ixN l ns[i]<0:=by simpa using hx
     exact decide_eq_true (by omega)
    refine cK (xB (xT (cR (sM Z (sV (v_add Z Z (by unfold I64 at *; omega)) (sA Z (sN (nK [0,1,6] Z (nx_xt ?_)))))))))
    refine xt_aq (i+1) ⟨hlt,all_take hlt hal hx⟩ (Nat.sub_lt_sub_left hlt (Nat.lt_succ_self i))
  ·have hil:i=ns.length:=by
    have:¬ i<ns.length:=by simpa using hd
    omega
   subst hil
   rw [List.take_length] at hal
   have he:rightE l ns=0:=by
    unfold rightE
    rw [if_pos hc,if_pos (List.all_eq_true.2 hal)]
   rw [he]
   refine cd_exit (xE (xE (xY (xT (cQ (sA Z (sK [4] Z (cT ?_))))))))
   exact xt_rt Z ⟨Z,Z⟩ sbq
end
end Go.Hr
namespace Go.Hr
open Go Go.RowKit Go.Ck Go.Proofs Go.Proofs.YtaohbfnepjjdgaaGreat Fx
attribute [local irreducible] Go.Ck.Sub St Cd Xt Nx DrL LsW
theorem Right.sel {l:Sys} (hR:Right l):∀ x∈l,x.parents.length≤1099511627776:=fun x hx=>Nat.le_trans (hR.few x hx) (by decide)
theorem dist_self (l:Sys) (c:Nm):dist l c c=some 0:=dist_some.2 ⟨by simp [W],fun i hi=>absurd hi (Nat.not_lt_zero _)⟩
theorem shortR_self (l:Sys) (c:Nm):shortR l c c=[c]:=by unfold shortR; rw [dist_self]; rfl
theorem further_R {l:Sys} {c x:Nm} (hne:c≠x):further l c x=shortR l x c:=further_short hne
theorem shortR_nil {l:Sys} {c x:Nm}:shortR l x c=[]↔has l c x=false:=by
 unfold shortR has
 cases h:dist l x c with
 | none=>simp
 | some k =>
  simp only [Option.isSome_some,reduceCtorEq,iff_false]
  intro e
  have:=short_len l x k c
  rw [e] at this; simp at this
section
variable {S N:Res} {v nv:Value} {l:Sys} {ns:List Nm}
set_option maxRecDepth 100000 in
theorem WayS_ct (hv : sysR S v l) (hl : l.length ≤ 1000000) (c x : Nm) : CtN Tryz.prog 71 #[v, sv c, sv x] [S] fun u T => ∃ w, u = .agg #[w, .int .i64 (wayE l c x)] ∧ w.oneCell' = true ∧ nmsR T w (okL (rightE l [c, x]) (shortR l x c)) := by
 obtain ⟨a,cap,rfl,_⟩:=id hv
 refine ct_of (n:=34) Tryz.func71 Z Z (len Z) fun hr w0=>?_
 refine cQ (st_alc al123 fun b6=>?_)
 refine sN (nT (cQ (sM Z (sM Z (sM Z (st_buildSlice (cells:=[sv c,sv x]) Z Tryz.underlying50 inf9 Z Z (by kernel_rfl) (ltn Z) fun b12=>?_))))))
 refine st_pv (pv_of (b:=b12) (n:=2) (sz:=1) (E:=9) [nC c,nC x] Z (by simp [nC]) Z (by decide)) ?_
 simp only [lC,lN]
 refine st_ok (r:=NR (.slice (some ⟨b12,0,none⟩) 2 2) [c,x]) slq fun hok=>?_
 refine st_clr Z Z en110 Z (asked_ct hv hl (nms_own hok) (by simp)) ?_
 refine sA Z (sK [0,1,2,6,7] Z (cS (cQ (sM Z (sV (v_neq Z Z) (sK [0,1,2,6,7,15] Z (cC Z (fun he=>?_) (fun he=>?_))))))))
 ·have he:¬ rightE l [c,x]=0:=by simpa using he
  have hw:wayE l c x=rightE l [c,x]:=if_neg he
  rw [hw,okL_ne he]
  refine cQ (sM Z (sV (v_build (cells:=[.slice none 0 0,.int .i64 (rightE l [c,x])]) Z (fun _=>by kernel_rfl)) ?_))
  refine st_stoW Z Z sz123 Z Z ?_
  refine sK [6] Z (cT (xR (xt_vw (vw_unstar (L:=[])) ?_)))
  exact xt_retV (.cellN Z ld123 Z slq .nil) ⟨Res.star [],Z,_,Z,Z,Row.nil⟩ sbr
 ·have he:rightE l [c,x]=0:=by simpa using he
  obtain ⟨hR,hm⟩:=rightE_zero.1 he
  have hFl:=hR.len
  have hw:wayE l c x=if has l c x then 0 else 5:=if_pos he
  rw [hw,he,okL_eq rfl]
  refine cK (xT (cS (cQ (sM Z (sM Z (sV (v_seql Z Z) (sK [0,1,2,6,20] Z (cC Z (fun hcx=>?_) (fun hcx=>?_)))))))))
  ·have hcx:c=x:=by simpa using hcx
   subst hcx
   rw [shortR_self,show has l c c=true from has_refl l c]
   refine cQ (sM Z (st_buildSlice (cells:=[sv c]) Z Tryz.underlying50 inf9 Z Z (by kernel_rfl) (ltn Z) fun b22=>?_))
   refine st_pv (pv_of (b:=b22) (n:=1) (sz:=1) (E:=9) [nC c] Z (by simp [nC]) Z (by decide)) ?_
   simp only [lC,lN]
   refine st_ok (r:=NR (.slice (some ⟨b22,0,none⟩) 1 1) [c]) slq fun hok2=>?_
   refine sV (v_build (cells:=[.slice (some ⟨b22,0,none⟩) 1 1,.int .i64 0]) Z (fun _=>by kernel_rfl)) ?_
   refine st_stoW Z Z sz123 Z Z ?_
   refine sK [6] Z (cT (xR ?_))
   exact xt_retV (.cellN Z ld123 Z slq .nil) ⟨NR (.slice (some ⟨b22,0,none⟩) 1 1) [c],Z,_,Z,Z,nms_own hok2⟩ sbr
  ·have hcx:c≠x:=by simpa using hcx
   refine cK (xT (cQ (sM Z (sM Z (sM Z (st_cl Z Z en111 Z (further_ct hv (by omega) hR.sel c x) ?_))))))
   rintro u h' ⟨T,rfl,hu1,hu⟩
   simp only [lC,lN]
   rw [further_R hcx] at hu
   obtain ⟨ua,ucap,rfl,_⟩:=id hu
   have hsl:=Row.lenle hu
   refine sA Z (sK [6,8] Z (cS (cQ (sM Z (sV (v_len Z Tryz.underlying50) (sV (v_eql Z Z) (sK [6,8,30] Z (cC Z (fun h0=>?_) (fun h0=>?_)))))))))
   ·have h0:shortR l x c=[]:=by simpa using h0
    rw [show has l c x=false from shortR_nil.1 h0,h0]
    refine cQ (sV (v_build (cells:=[.slice none 0 0,.int .i64 5]) Z (fun _=>by kernel_rfl)) ?_)
    refine st_stoW Z Z sz123 Z Z ?_
    refine sK [6] Z (cT (xR ?_))
    exact xt_retV (.cellN Z ld123 Z slq .nil) ⟨T,Z,_,Z,Z,Row.nil⟩ sbr
   ·have h0:shortR l x c≠[]:=by simpa using h0
    rw [show has l c x=true by cases h:has l c x with | true=>rfl | false=>exact absurd (shortR_nil.2 h) h0]
    refine cK (xT (cQ (sM Z (sV (v_build (cells:=[.slice ua (shortR l x c).length ucap,.int .i64 0]) Z (fun _=>by kernel_rfl)) ?_))))
    refine st_stoW Z Z sz123 Z Z ?_
    refine sK [6] Z (cT ?_)
    exact xt_retV (.cellN Z ld123 Z slq .nil) ⟨T,Z,_,Z,Z,hu⟩ sbr
set_option maxRecDepth 100000 in
theorem CheckWayS_ct (hv : sysR S v l) (hl : l.length ≤ 1000000) (hn : nmsR S nv ns) (hnl : ns.length ≤ 1099511627776) (c x : Nm) : Reads Tryz.prog 78 #[v, sv c, sv x, nv] [S] (.int .i64 (wayC l c x ns)) := by
 obtain ⟨a,cap,rfl,_⟩:=id hv
 obtain ⟨na,ncap,rfl,hnc,_⟩:=id hn
 refine ct_of (n:=60) Tryz.func78 Z Z (len Z) fun hr w0=>?_
 refine cQ (sA Z (sN (nT (cQ (sM Z (sM Z (sM Z (st_buildSlice (cells:=[sv c,sv x]) Z Tryz.underlying50 inf9 Z Z (by kernel_rfl) (ltn Z) fun b15=>?_))))))))
 refine st_pv (pv_of (b:=b15) (n:=2) (sz:=1) (E:=9) [nC c,nC x] Z (by simp [nC]) Z (by decide)) ?_
 simp only [lC,lN]
 refine st_ok (r:=NR (.slice (some ⟨b15,0,none⟩) 2 2) [c,x]) slq fun hok=>?_
 refine st_clr Z Z en110 Z (asked_ct hv hl (nms_own hok) (by simp)) ?_
 refine sA Z (sK [0,1,2,3,8,9] Z (cS (cQ (sM Z (sV (v_neq Z Z) (sK [0,1,2,3,8,9,18] Z (cC Z (fun he=>?_) (fun he=>?_))))))))
 ·have he:¬ rightE l [c,x]=0:=by simpa using he
  have hw:wayC l c x ns=rightE l [c,x]:=if_neg he
  rw [hw]
  refine cQ (sM Z (sA Z (sK [8] Z (cT (xR ?_)))))
  exact xt_rt Z ⟨Z,Z⟩ sbq
 ·have he:rightE l [c,x]=0:=by simpa using he
  obtain ⟨hR,hm⟩:=rightE_zero.1 he
  have hFl:=hR.len
  have hw:wayC l c x ns=if wayOk l c x ns then 0 else 11:=if_pos he
  rw [hw]
  cases ns with
  | nil =>
   refine cK (xT (cS (cQ (sM Z (sV (v_len Z Tryz.underlying50) (sV (v_eql Z Z) (sM Z (st_sk Z Z Z ?_))))))))
   iterate 4 refine st_sk rfl rfl rfl ?_
   refine sV (vQ Z Z) (sM Z (st_sk Z Z Z ?_))
   iterate 7 refine st_sk rfl rfl rfl ?_
   refine sV (vQ Z Z) (sK [0,3,8,39] Z (cd_true Z ?_))
   refine cQ (sA Z (sK [8] Z (cT (xR ?_))))
   exact xt_rt Z ⟨Z,Z⟩ sbq
  | cons c0 t =>
   obtain ⟨b,o,cap2,hv2,hrd⟩:=nms_at hn (show (c0::t)[0]? = some c0 from rfl)
   obtain ⟨b',o',cap2',hv2',hrd'⟩:=nms_at hn (show (c0::t)[t.length]? = some ((c0::t).getLast (by simp)) by rw [List.getLast_eq_getElem]; simp)
   cases hv2
   cases hv2'
   rw [wayOk_cons]
   generalize hlast:(c0::t).getLast (by simp)=cl0 at *
   refine cK (xT (cS (cQ (sM Z (sV (v_len Z Tryz.underlying50) (sV (v_eql Z Z) (sM Z (st_cut (k:=10) (d:=29) (v:=.bool ((((c0::t).length:Int) == 0) || (c0 != c))) (fun hcut=>bool_want (b:=(((c0::t).length:Int) == 0)) false (fun hg=>?_) (fun hg=>?_)) ?_))))))))
   ·refine st_sk Z Z hg ?_
    iterate 4 refine st_sk rfl rfl hg ?_
    refine sV (vQ (bO Z hg) Z) ?_
    exact hcut _ uG
   ·refine sG Z (bG Z hg) (vM Z) (sG Z (bG Z hg) (vI (k:=0) Z Z sl50 Z (by simp) Z) ?_)
    refine sG Z (bG Z hg) (vY Z ld9) ?_
    refine sG Z (bG Z hg) (vM Z) (sG Z (bG Z hg) (v_sneq Z Z) (sV (vP (bO Z hg) Z) ?_))
    exact hcut _ uG
   refine sM Z (st_cut (k:=20) (d:=39) (v:=.bool (((((c0::t).length:Int) == 0) || (c0 != c)) || (cl0 != x))) (fun hcut=>bool_want (b:=((((c0::t).length:Int) == 0) || (c0 != c))) false (fun hg=>?_) (fun hg=>?_)) ?_)
   ·refine st_sk Z Z hg ?_
    iterate 7 refine st_sk rfl rfl hg ?_
    refine sV (vQ (bO Z hg) Z) ?_
    exact hcut _ uG
   ·refine sG Z (bG Z hg) (vM Z) (sG Z (bG Z hg) (vM Z) (sG Z (bG Z hg) (v_len Z Tryz.underlying50) (sG Z (bG Z hg) (v_sub Z Z (by unfold I64 at *; omega)) (sG Z (bG Z hg) (vI (k:=t.length) Z Z sl50 (by simp) (by simp) Z) ?_))))
    refine sG Z (bG Z hg) (vY Z ld9) ?_
    refine sG Z (bG Z hg) (vM Z) (sG Z (bG Z hg) (v_sneq Z Z) (sV (vP (bO Z hg) Z) ?_))
    exact hcut _ uG
   have h0:(((c0::t).length:Int) == 0)=false:=by simp; omega
   rw [h0,Bool.false_or]
   refine sK [0,3,8,39] Z (cC Z (fun hq=>?_) (fun hq=>?_))
   ·rw [hq]
    refine cQ (sA Z (sK [8] Z (cT (xR ?_))))
    exact xt_rt Z ⟨Z,Z⟩ sbq
   ·rw [hq]
    refine cK (xT (cS (cQ (sA Z (sK [0,3,8,10] Z (cB ?_))))))
    have htl:t.length+1≤1099511627776:=by simpa using hnl
    refine cd_lq (σ := Nat) (fun i=>[(0,.slice a l.length cap),(3,.slice (some ⟨b,o,none⟩) (c0::t).length ncap),(10,.int .i64 ((i:Nat)+1))]) (fun _=>S::hr) (fun i=>i≤t.length∧∀ j,j<i→(par l ((c0::t).getD j [])).contains (t.getD j [])=true) (fun i=>t.length - i) 0 ⟨Nat.zero_le _,fun j hj=>by omega⟩ ?_
    rintro i ⟨hi,hal⟩
    refine cS (cQ (sM Z (sM Z (sV (v_len Z Tryz.underlying50) (sV (v_lss Z Z) (sK [0,3,10,43] Z (cC Z (fun hd=>?_) (fun hd=>?_))))))))
    ·have hlt:i<t.length:=by
      have:(i:Int)+1<((c0::t).length:Nat):=by simpa using hd
      simp only [List.length_cons] at this
      omega
     obtain ⟨tb,to,tcap,htv,htrd⟩:=nms_at hn (show (c0::t)[i+1]? = some t[i] by simp [hlt])
     have hget:(c0::t)[i]? = some ((c0::t).getD i []):=getD_of [] (by simp; omega)
     obtain ⟨wb,wo,wcap,hwv,hwrd⟩:=nms_at hn hget
     have hge:t.getD i []=t[i]:=by simp [hlt]
     generalize hwi:(c0::t).getD i []=wi at hget hwrd
     generalize t[i]=ti at hge htrd
     refine cK (xT (cS (cB (cS (cd_drawh (ork [(0,2),(1,2),(2,2),(3,2),(4,2),(5,1),(7,2),(8,2),(9,2),(10,1),(6,0),(11,0),(12,2)] .nil) (fun i => !(Nat.beq i 11)) mixed (by kernel_rfl) ?_)))))
     refine dV Z (vM Z) (dV Z (vM Z) (dV Z (vM Z) (dV Z (v_sub Z Z (by unfold I64 at *; omega)) (dV Z (vI (k:=i) (congrArg some hwv) Z sl50 (by omega) (by simp; omega) Z) ?_))))
     refine dr_v Z (vY Z ld9) ?_
     refine dV Z (vM Z) (dV Z (vM Z) (dV Z (vI (k:=i+1) (congrArg some htv) Z sl50 (by omega) (by simp; omega) Z) ?_))
     refine dr_v Z (vY Z ld9) ?_
     refine dr_eff Z (st_cl Z Z en127 Z (parents_ct hv wi (by omega) hR.sel) ?_)
     rintro u h' ⟨T,rfl,hu1,rfl,hu⟩
     simp only [lC,lN]
     rw [hR.pars_eq] at *
     have hpf:=hR.par_few wi
     refine dr_nx ?_
     refine dr_eff Z (st_cl Z Z en126 Z (Has_ct hu ti (by omega)) ?_)
     rintro u h' ⟨rfl,rfl⟩
     simp only [lC,lN]
     refine dr_nx ?_
     refine dV Z (vA Z) (dr_nil (nK [0,3,10,11] Z (nT (cQ (sM Z (sV (v_not Z) (sK [0,3,10,59] Z (cC Z (fun hno=>?_) (fun hno=>?_)))))))))
     ·have hno:(par l wi).contains ti=false:=by simpa using hno
      rw [show ((List.range t.length).all fun i=>(par l ((c0::t).getD i [])).contains (t.getD i []))=false from List.all_eq_false.2 ⟨i,List.mem_range.2 hlt,by rw [hwi,hge,hno]; decide⟩]
      refine cQ (sA Z (sK [8] Z (cT (xW (xR (xR (xW (xR ?_))))))))
      exact xt_rt Z ⟨Z,Z⟩ sbq
     ·have hno:(par l wi).contains ti=true:=by simpa using hno
      refine cK (xB (xT (cR (sM Z (sV (v_add Z Z (by unfold I64 at *; omega)) (sA Z (sN (nK [0,3,10] Z (nx_xt (xt_aq (i+1) ⟨hlt,fun j hj=>?_⟩ (by show _ - _<_ - _; omega)))))))))))
      by_cases hji:j=i
      ·subst hji; rw [hwi,hge]; exact hno
      ·exact hal j (by omega)
    ·refine cd_exit (xE (xE (xY (xT (cQ (sA Z (sK [8] Z (cT ?_))))))))
     have hil:i=t.length:=by
      have:¬ (i:Int)+1<((c0::t).length:Nat):=by simpa using hd
      simp only [List.length_cons] at this
      omega
     rw [show ((List.range t.length).all fun i=>(par l ((c0::t).getD i [])).contains (t.getD i []))=true from List.all_eq_true.2 fun j hj=>hal j (by rw [hil]; exact List.mem_range.1 hj)]
     exact xt_rt Z ⟨Z,Z⟩ sbq
end
end Go.Hr
namespace Go.Hr
open Go Go.RowKit Go.Ck Go.Proofs Go.Proofs.YtaohbfnepjjdgaaGreat Fx
attribute [local irreducible] Go.Ck.Sub St Cd Xt Nx DrL LsW
theorem ddL_len {xs o:List Nm}:(dd o xs).length≤o.length+xs.length:=by
 induction xs generalizing o with
 | nil=>simp [dd]
 | cons x t ih =>
  show (dd (step o x) t).length≤_
  have h1:=ih (o:=step o x)
  have h2:(step o x).length≤o.length+1:=by unfold step; split <;> simp
  simp only [List.length_cons]; omega
theorem aboveC_len {l:Sys} (hR:Right l) (c:Nm):(above l c).length≤25:=by
 obtain ⟨h1,h2⟩:=above_spec hR.acyc c
 have h3:=length_le_of_nodup (b:=c::nms l) h1.nodup fun x hx=>by
  rcases has_cases ((h2 x).1 hx) with h | ⟨p,hp,h⟩
  ·rw [h]; exact List.mem_cons_self
  ·exact List.mem_cons_of_mem _ (isC_iff.1 (has_isC (par_isC hp) h))
 have h4:=hR.len
 simp only [List.length_cons,nms,List.length_map] at h3
 omega
theorem aboveC_has {l:Sys} (hR:Right l) (c x:Nm):(above l c).contains x=has l c x:=by
 rw [Bool.eq_iff_iff,List.contains_iff_mem]; exact (above_spec hR.acyc c).2 x
def upTo (l:Sys) (c:Nm) (i:Nat):List Nm:=((par l c).take i).foldl (fun o p=>dd o (above l p)) []
theorem upTo_succ {l:Sys} {c:Nm} {i:Nat} (h:i<(par l c).length):upTo l c (i+1)=dd (upTo l c i) (above l (par l c)[i]):=by
 unfold upTo
 rw [List.take_succ_eq_append_getElem h,List.foldl_append]; rfl
theorem dd_succ {o xs:List Nm} {k:Nat} (h:k<xs.length):dd o (xs.take (k+1))=step (dd o (xs.take k)) xs[k]:=by
 rw [List.take_succ_eq_append_getElem h,dd_snoc]
section
variable {S N:Res} {v nv:Value} {l:Sys} {ns:List Nm}
set_option maxHeartbeats 1000000 in
set_option maxRecDepth 100000 in
theorem aboveS_ct (hv : sysR S v l) (hR : Right l) : ∀ (n : Nat) (c : Nm), rk l c < n → CtN Tryz.prog 146 #[v, sv c] [S] fun u T => u.oneCell' = true ∧ T = NR u (above l c) ∧ nmsR T u (above l c) := by
 obtain ⟨a,cap,rfl,_⟩:=id hv
 have hFl:=hR.len
 intro n
 induction n with
 | zero=>intro c h; omega
 | succ n ih =>
  intro c hc
  have hrec:=above_rec hR.acyc c
  have hfew:=hR.par_few c
  have hup:above l c=upTo l c (par l c).length++[c]:=by rw [hrec]; unfold upTo; rw [List.take_length]
  have hrk:∀ p∈par l c,rk l p<n:=fun p hp=>by have:=rk_lt hR.acyc hp; omega
  refine ct_of (n:=51) Tryz.func146 Z Z (len Z) fun hr w0=>?_
  refine cQ (sA Z (sN (nT (cQ (sA Z (sN (nT (cQ (sM Z (sM Z (st_cl Z Z en127 Z (parents_ct hv c (by omega) hR.sel) ?_)))))))))))
  rintro u h' ⟨T,rfl,hu1,rfl,hpn⟩
  simp only [lC,lN]
  rw [hR.pars_eq] at *
  obtain ⟨pa,pcap,rfl,_⟩:=id hpn
  refine sA Z (sK [0,1,4,5,6] Z (cS (cQ (sA Z (sN (nT (cB (cd_vw (vw_nil 9 1) (cd_lq (σ := Value×Nat) (fun q=>[(0,.slice a l.length cap),(1,sv c),(5,q.1),(6,.slice pa (par l c).length pcap),(7,.int .i64 (q.2:Nat))]) (fun q=>VR q.1 9 1 ((upTo l c q.2).map nC)::NR (.slice pa (par l c).length pcap) (par l c)::S::hr) (fun q=>q.1.oneCell'=true∧q.2≤(par l c).length∧(upTo l c q.2).length≤25 * q.2) (fun q=>(par l c).length - q.2) (.slice none 0 0,0) ⟨Z,Nat.zero_le _,by simp [upTo]⟩ ?_)))))))))
  rintro ⟨w,i⟩ ⟨hw,hi,hwl⟩
  simp only at hw hi hwl
  dsimp only
  refine cS (cQ (sM Z (sM Z (sV (v_len Z Tryz.underlying50) (sV (v_lss Z Z) (sK [0,1,5,6,7,17] Z (cC Z (fun hd=>?_) (fun hd=>?_))))))))
  ·have hlt:i<(par l c).length:=by simpa using hd
   have hpi:=List.getElem?_eq_getElem hlt
   obtain ⟨pb,po,pcap2,hpv2,hprd⟩:=nms_at hpn hpi
   have hsu:=upTo_succ hlt
   have hpk:=hrk _ (List.getElem_mem hlt)
   generalize (par l c)[i]=p at *
   have hal:=aboveC_len hR p
   refine cK (xT (cS (cB (cQ (sM Z (sM Z (sM Z (sV (vI (k:=i) (congrArg some hpv2) Z sl50 Z hlt Z) (sV (vY Z ld9) ?_)))))))))
   refine st_cl Z Z en146 Z (ih p hpk) ?_
   rintro u h' ⟨T,rfl,hu1,rfl,han⟩
   simp only [lC,lN]
   generalize above l p=xs at *
   obtain ⟨aa,acap,rfl,_⟩:=id han
   refine sA Z (sK [0,1,5,6,7,8] Z (cQ (sA Z (sN (nT (cB (cd_lq (σ := Value×Nat) (fun q=>[(0,.slice a l.length cap),(1,sv c),(5,q.1),(6,.slice pa (par l c).length pcap),(7,.int .i64 (i:Nat)),(8,.slice aa xs.length acap),(9,.int .i64 (q.2:Nat))]) (fun q=>VR q.1 9 1 ((dd (upTo l c i) (xs.take q.2)).map nC)::NR (.slice aa xs.length acap) xs::NR (.slice pa (par l c).length pcap) (par l c)::S::hr) (fun q=>q.1.oneCell'=true∧q.2≤xs.length) (fun q=>xs.length - q.2) (w,0) ⟨hw,Nat.zero_le _⟩ ?_)))))))
   rintro ⟨w2,k⟩ ⟨hw2,hk⟩
   simp only at hw2 hk
   dsimp only
   refine cS (cQ (sM Z (sM Z (sV (v_len Z Tryz.underlying50) (sV (v_lss Z Z) (sK [0,1,5,6,7,8,9,29] Z (cC Z (fun hd2=>?_) (fun hd2=>?_))))))))
   ·have hklt:k<xs.length:=by simpa using hd2
    obtain ⟨ab,ao,acap2,hav2,hard⟩:=nms_at han (List.getElem?_eq_getElem hklt)
    have hds:=dd_succ (o:=upTo l c i) hklt
    have hdl:=ddL_len (o:=upTo l c i) (xs:=xs.take k)
    have htl:(xs.take k).length≤25:=by rw [List.length_take]; omega
    generalize dd (upTo l c i) (xs.take k)=o at *
    generalize xs[k]=x at *
    refine cd_ok (r:=NR w2 o) slq fun hok=>?_
    refine cK (xT (cS (cB (cQ (sM Z (sM Z (sM Z (sV (vI (k:=k) (congrArg some hav2) Z sl50 Z hklt Z) (sV (vY Z ld9) ?_)))))))))
    refine st_clr Z Z en126 Z (Has_ct (nms_own hok) x (by omega)) ?_
    refine sA Z (sK [0,1,5,6,7,8,9,10] Z (cQ (sM Z (sV (v_not Z) (sK [0,1,5,6,7,8,9,39] Z (cC Z (fun hx=>?_) (fun hx=>?_)))))))
    ·have hx:x ∉ o:=by simpa using hx
     rw [step_new hx] at hds
     refine cR (sM Z (sM Z (sM Z (sV (vI (k:=k) (congrArg some hav2) Z sl50 Z hklt Z) (sV (vY Z ld9) ?_)))))
     refine st_buildSlice (cells:=[sv x]) Z Tryz.underlying50 inf9 Z Z (by kernel_rfl) (ltn Z) fun b45=>?_
     refine st_app [nC x] Z Z Tryz.underlying50 inf9 Z (by decide) (show Sel _ (VR w2 9 1 (o.map nC)) _ from slq) (by simp [nC]) Z (fun j u2 hu2=>at_here (rd_cl (by simpa [nC] using hu2))) (by simp [nC,Value.oneCell']) (by simp; omega) (by simp; omega) (ltn Z) fun v' hv' _=>?_
     rw [show o.map nC++[nC x]=(dd (upTo l c i) (xs.take (k+1))).map nC by rw [hds,List.map_append]; rfl]
     refine sA Z (sN (nK [0,1,5,6,7,8,9] Z (nx_xt (xB (xT (cR (sM Z (sV (v_add Z Z (by unfold I64 at *; omega)) (sA Z (sN (nK [0,1,5,6,7,8,9] Z (nx_xt ?_))))))))))))
     refine xt_aq (v',k+1) ⟨hv',hklt⟩ (Nat.sub_lt_sub_left hklt (Nat.lt_succ_self k))
    ·have hx:x∈o:=by simpa using hx
     rw [step_mem hx] at hds
     refine cK (xB (xT (cR (sM Z (sV (v_add Z Z (by unfold I64 at *; omega)) (sA Z (sN (nK [0,1,5,6,7,8,9] Z (nx_xt ?_)))))))))
     rw [← hds]
     refine xt_aq (w2,k+1) ⟨hw2,hklt⟩ (Nat.sub_lt_sub_left hklt (Nat.lt_succ_self k))
   ·have hke:k=xs.length:=by
     have:¬ k<xs.length:=by simpa using hd2
     omega
    subst hke
    rw [List.take_length,← hsu]
    have hdl:=ddL_len (o:=upTo l c i) (xs:=xs)
    rw [← hsu] at hdl
    refine cd_exit (xE (xE (xY (xB (xT (cR (sM Z (sV (v_add Z Z (by unfold I64 at *; omega)) (sA Z (sN (nK [0,1,5,6,7] Z (nx_xt ?_))))))))))))
    refine xt_aq (w2,i+1) ⟨hw2,hlt,by show (upTo l c (i+1)).length≤25 * (i+1); omega⟩ (Nat.sub_lt_sub_left hlt (Nat.lt_succ_self i))
  ·have hil:i=(par l c).length:=by
    have:¬ i<(par l c).length:=by simpa using hd
    omega
   subst hil
   refine cd_exit (xE (xE (xY (xT (cQ (sM Z (sM Z (st_buildSlice (cells:=[sv c]) Z Tryz.underlying50 inf9 Z Z (by kernel_rfl) (ltn Z) fun b49=>?_))))))))
   refine st_app [nC c] Z Z Tryz.underlying50 inf9 Z (by decide) (show Sel _ (VR w 9 1 ((upTo l c (par l c).length).map nC)) _ from slq) (by simp [nC]) Z (fun j u2 hu2=>at_here (rd_cl (by simpa [nC] using hu2))) (by simp [nC,Value.oneCell']) (by simp; omega) (by simp; omega) (ltn Z) fun v' hv' _=>?_
   rw [show (upTo l c (par l c).length).map nC++[nC c]=(above l c).map nC by rw [hup,List.map_append]; rfl]
   refine sA Z (sK [4] Z (cT (xt_ok (r:=NR v' (above l c)) slq fun hok=>?_)))
   exact xt_rt Z ⟨NR v' (above l c),Z,hv',Z,nms_own hok⟩ sbq
set_option maxRecDepth 100000 in
theorem aboveT_ct (hv:sysR S v l) (hR:Right l) (c:Nm):CtN Tryz.prog 146 #[v,sv c] [S] fun u T=>u.oneCell'=true∧T=NR u (above l c)∧nmsR T u (above l c):=aboveS_ct hv hR (rk l c+1) c (Nat.lt_succ_self _)
set_option maxRecDepth 100000 in
theorem AboveS_ct (hv:sysR S v l) (hl:l.length≤1000000) (c:Nm):CtN Tryz.prog 92 #[v,sv c] [S] fun u T=>∃ w,u = .agg #[w,.int .i64 (rightE l [c])]∧w.oneCell'=true∧nmsR T w (okL (rightE l [c]) (above l c)):=by
 obtain ⟨a,cap,rfl,_⟩:=id hv
 refine ct_of (n:=18) Tryz.func92 Z Z (len Z) fun hr w0=>?_
 refine cQ (st_alc al123 fun b4=>?_)
 refine sN (nT (cQ (sM Z (sM Z (st_buildSlice (cells:=[sv c]) Z Tryz.underlying50 inf9 Z Z (by kernel_rfl) (ltn Z) fun b8=>?_)))))
 refine st_pv (pv_of (b:=b8) (n:=1) (sz:=1) (E:=9) [nC c] Z (by simp [nC]) Z (by decide)) ?_
 simp only [lC,lN]
 refine st_ok (r:=NR (.slice (some ⟨b8,0,none⟩) 1 1) [c]) slq fun hok=>?_
 refine st_clr Z Z en110 Z (asked_ct hv hl (nms_own hok) (by simp)) ?_
 refine sA Z (sK [0,1,4,5] Z (cS (cQ (sM Z (sV (v_neq Z Z) (sK [0,1,4,5,11] Z (cC Z (fun he=>?_) (fun he=>?_))))))))
 ·have he:¬ rightE l [c]=0:=by simpa using he
  rw [okL_ne he]
  refine cQ (sM Z (sV (v_build (cells:=[.slice none 0 0,.int .i64 (rightE l [c])]) Z (fun _=>by kernel_rfl)) ?_))
  refine st_stoW Z Z sz123 Z Z ?_
  refine sK [4] Z (cT (xR (xt_vw (vw_unstar (L:=[])) ?_)))
  exact xt_retV (.cellN Z ld123 Z slq .nil) ⟨Res.star [],Z,_,Z,Z,Row.nil⟩ sbr
 ·have he:rightE l [c]=0:=by simpa using he
  obtain ⟨hR,hm⟩:=rightE_zero.1 he
  rw [he,okL_eq rfl]
  refine cK (xT (cQ (sM Z (sM Z (st_cl Z Z en146 Z (aboveT_ct hv hR c) ?_)))))
  rintro u h' ⟨T,rfl,hu1,rfl,hu⟩
  simp only [lC,lN]
  obtain ⟨ua,ucap,rfl,_⟩:=id hu
  refine sV (v_build (cells:=[.slice ua (above l c).length ucap,.int .i64 0]) Z (fun _=>by kernel_rfl)) ?_
  refine st_stoW Z Z sz123 Z Z ?_
  refine sK [4] Z (cT ?_)
  exact xt_retV (.cellN Z ld123 Z slq .nil) ⟨_,Z,_,Z,Z,hu⟩ sbr
set_option maxRecDepth 100000 in
theorem IsS_ct (hv:sysR S v l) (hl:l.length≤1000000) (c x:Nm):Reads Tryz.prog 144 #[v,sv c,sv x] [S] (.agg #[.bool (decide (rightE l [c,x]=0) && has l c x),.int .i64 (rightE l [c,x])]):=by
 obtain ⟨a,cap,rfl,_⟩:=id hv
 refine ct_of (n:=23) Tryz.func144 Z Z (len Z) fun hr w0=>?_
 refine cQ (st_alc al187 fun b6=>?_)
 refine sN (nT (cQ (sM Z (sM Z (sM Z (st_buildSlice (cells:=[sv c,sv x]) Z Tryz.underlying50 inf9 Z Z (by kernel_rfl) (ltn Z) fun b11=>?_))))))
 refine st_pv (pv_of (b:=b11) (n:=2) (sz:=1) (E:=9) [nC c,nC x] Z (by simp [nC]) Z (by decide)) ?_
 simp only [lC,lN]
 refine st_ok (r:=NR (.slice (some ⟨b11,0,none⟩) 2 2) [c,x]) slq fun hok=>?_
 refine st_clr Z Z en110 Z (asked_ct hv hl (nms_own hok) (by simp)) ?_
 refine sA Z (sK [0,1,2,6,7] Z (cS (cQ (sM Z (sV (v_neq Z Z) (sK [0,1,2,6,7,14] Z (cC Z (fun he=>?_) (fun he=>?_))))))))
 ·have he:¬ rightE l [c,x]=0:=by simpa using he
  rw [show decide (rightE l [c,x]=0)=false from decide_eq_false he,Bool.false_and]
  refine cQ (sM Z (sV (v_build (cells:=[.bool false,.int .i64 (rightE l [c,x])]) Z (fun _=>by kernel_rfl)) ?_))
  refine st_stoW Z Z sz187 Z Z ?_
  refine sK [6] Z (cT (xR ?_))
  exact xt_retV (.cellN Z ld187 Z slq .nil) ⟨Z,Z⟩ sbr
 ·have he:rightE l [c,x]=0:=by simpa using he
  obtain ⟨hR,hm⟩:=rightE_zero.1 he
  rw [show decide (rightE l [c,x]=0)=true from decide_eq_true he,Bool.true_and,he,← aboveC_has hR]
  have hal:=aboveC_len hR c
  refine cK (xT (cQ (sM Z (sM Z (st_cl Z Z en146 Z (aboveT_ct hv hR c) ?_)))))
  rintro u h' ⟨T,rfl,hu1,rfl,hu⟩
  simp only [lC,lN]
  refine sM Z (st_clr Z Z en126 Z (Has_ct hu x (by omega)) ?_)
  refine sV (v_build (cells:=[.bool ((above l c).contains x),.int .i64 0]) Z (fun _=>by kernel_rfl)) ?_
  refine st_stoW Z Z sz187 Z Z ?_
  refine sK [6] Z (cT ?_)
  exact xt_retV (.cellN Z ld187 Z slq .nil) ⟨Z,Z⟩ sbr
end
end Go.Hr
namespace Go.Hr
open Go Go.RowKit Go.Ck Go.Proofs Go.Proofs.YtaohbfnepjjdgaaGreat Fx
attribute [local irreducible] Go.Ck.Sub St Cd Xt Nx DrL LsW
theorem rightE_nil (l:Sys):rightE l []=(check l).1:=by
 unfold rightE
 split
 ·rename_i h; rw [h]; rfl
 ·rfl
def touF (l:Sys) (ns:List Nm) (i:Nat):List Nm:=((nms l).take i).filter fun c=>ns.any fun a=>has l c a
theorem nms_take {l:Sys} {i:Nat} (h:i<l.length):(nms l).take (i+1)=(nms l).take i++[(l[i]).name]:=by
 rw [List.take_succ_eq_append_getElem (by simpa [nms] using h)]
 simp [nms]
section
variable {S N:Res} {v nv:Value} {l:Sys} {ns:List Nm}
end
end Go.Hr

namespace Go.Hr
open Go Go.RowKit Go.Ck Go.Proofs Go.Proofs.YtaohbfnepjjdgaaGreat Fx
attribute [local irreducible] Go.Ck.Sub St Cd Xt Nx DrL LsW
def opnT (l:Sys) (o:List Nm) (i:Nat):List Nm:=((nms l).take i).filter (opn l o)
theorem opnT_succ {l:Sys} {o:List Nm} {i:Nat} (h:i<l.length):opnT l o (i+1)=opnT l o i++(if opn l o (l[i]).name then [(l[i]).name] else []):=by
 unfold opnT
 rw [nms_take h,List.filter_append,List.filter_cons]
 rfl
theorem opnT_all (l:Sys) (o:List Nm):opnT l o l.length=(nms l).filter (opn l o):=by
 unfold opnT
 rw [List.take_of_length_le (by simp [nms])]
def Bst (xs:List Nm) (b:Nm):Prop:=(xs=[]∧b=[])∨(b∈xs∧∀ y∈xs,lt y b=false)
theorem Bst.yes {xs : List Nm} {b x : Nm} (h : Bst xs b) (hne : ∀ y ∈ xs, y ≠ []) (hc : (b == [] || lt x b) = true) : Bst (xs ++ [x]) x := by
 refine .inr ⟨by simp,fun y hy=>?_⟩
 rcases List.mem_append.1 hy with hy | hy
 ·rcases h with ⟨h1, _⟩ | ⟨h1, h2⟩
  ·rw [h1] at hy; cases hy
  ·rcases Bool.or_eq_true_iff.1 hc with h3 | h3
   ·exact absurd (by simpa using h3) (hne b h1)
   ·cases h4:lt y x with
    | false=>rfl
    | true=>have:=lt_trans h4 h3; rw [h2 y hy] at this; cases this
 ·simp at hy; rw [hy]; exact lt_irrefl x
theorem Bst.no {xs:List Nm} {b x:Nm} (h:Bst xs b) (hc:(b == [] || lt x b)=false):Bst (xs++[x]) b:=by
 obtain ⟨h3,h4⟩:=Bool.or_eq_false_iff.1 hc
 rcases h with ⟨_,h1⟩ | ⟨h1,h2⟩
 ·rw [h1] at h3; simp at h3
 ·refine .inr ⟨by simp [h1],fun y hy=>?_⟩
  rcases List.mem_append.1 hy with hy | hy
  ·exact h2 y hy
  ·simp at hy; rw [hy]; exact h4
theorem Bst.eq {xs:List Nm} {b:Nm} (h:Bst xs b) (hne:xs≠[]):b=minN xs:=by
 rcases h with ⟨h1,_⟩ | ⟨h1,h2⟩
 ·exact absurd h1 hne
 ·exact (minN_uniq h1 h2).symm
theorem Right.ne {l:Sys} (hR:Right l) {x:Nm} (h:x∈nms l):x≠[]:=by
 obtain ⟨c,hc,rfl⟩:=List.mem_map.1 h
 intro e
 have:=hR.nam c hc
 rw [e] at this
 exact absurd this (by decide)
section
variable {S N A B:Res} {v nv w w':Value} {l:Sys} {ns o ps:List Nm}
set_option maxRecDepth 100000 in
theorem all_ct (ho : nmsR A w o) (hp : nmsR B w' ps) (hol : o.length ≤ 1099511627776) (hpl : ps.length ≤ 1099511627776) : Reads Tryz.prog 145 #[w, w'] [A, B] (.bool (ps.all o.contains)) := by
 obtain ⟨oa,ocap,rfl,_⟩:=id ho
 obtain ⟨pa,pcap,rfl,_⟩:=id hp
 refine ct_of (n:=21) Tryz.func145 Z Z (len Z) fun hr w0=>?_
 refine cQ (sA Z (sN (nT (cS (cQ (sA Z (sN (nT (cB (cd_lq (σ := Nat) (fun i=>[(0,.slice oa o.length ocap),(1,.slice pa ps.length pcap),(5,.int .i64 (i:Nat))]) (fun _=>A::B::hr) (fun i=>i≤ps.length∧∀ x∈ps.take i,o.contains x=true) (fun i=>ps.length - i) 0 ⟨Nat.zero_le _,fun x hx=>by simp at hx⟩ ?_))))))))))
 rintro i ⟨hi,hal⟩
 refine cS (cQ (sM Z (sM Z (sV (v_len Z Tryz.underlying50) (sV (v_lss Z Z) (sK [0,1,5,10] Z (cC Z (fun hd=>?_) (fun hd=>?_))))))))
 ·have hlt:i<ps.length:=by simpa using hd
  obtain ⟨b,o2,cap2,hv2,hrd⟩:=nms_at hp (List.getElem?_eq_getElem hlt)
  refine cK (xT (cS (cB (cQ (sM Z (sM Z (sM Z (sV (vI (k:=i) (congrArg some hv2) Z sl50 Z hlt Z) (sV (vY Z ld9) ?_)))))))))
  refine st_clr Z Z en126 Z (Has_ct ho ps[i] hol) ?_
  refine sA Z (sK [0,1,5,6] Z (cQ (sM Z (sV (v_not Z) (sK [0,1,5,20] Z (cC Z (fun hx=>?_) (fun hx=>?_)))))))
  ·have hx:o.contains ps[i]=false:=by simpa using hx
   rw [show ps.all o.contains=false from List.all_eq_false.2 ⟨_,List.getElem_mem hlt,by rw [hx]; decide⟩]
   refine cQ (sA Z (sK [4] Z (cT (xW (xR (xR (xW (xR ?_))))))))
   exact xt_rt Z ⟨Z,Z⟩ sbq
  ·have hx:o.contains ps[i]=true:=by simpa using hx
   refine cK (xB (xT (cR (sM Z (sV (v_add Z Z (by unfold I64 at *; omega)) (sA Z (sN (nK [0,1,5] Z (nx_xt ?_)))))))))
   refine xt_aq (i+1) ⟨hlt,all_take hlt hal hx⟩ (Nat.sub_lt_sub_left hlt (Nat.lt_succ_self i))
 ·have hil:i=ps.length:=by
   have:¬ i<ps.length:=by simpa using hd
   omega
  subst hil
  rw [List.take_length] at hal
  rw [show ps.all o.contains=true from List.all_eq_true.2 hal]
  refine cd_exit (xE (xE (xY (xT (cQ (sA Z (sK [4] Z (cT ?_))))))))
  exact xt_rt Z ⟨Z,Z⟩ sbq
set_option maxHeartbeats 1000000 in
set_option maxRecDepth 100000 in
theorem OrderS_ct (hv : sysR S v l) (hl : l.length ≤ 1000000) : CtN Tryz.prog 90 #[v] [S] fun u T => ∃ w, u = .agg #[w, .int .i64 (rightE l [])] ∧ w.oneCell' = true ∧ nmsR T w (okL (rightE l []) (order l)) := by
 obtain ⟨a,cap,rfl,_⟩:=id hv
 rw [rightE_nil]
 refine ct_of (n:=75) Tryz.func90 Z Z (len Z) fun hr w0=>?_
 refine cQ (st_alc al123 fun b2=>?_)
 refine sN (nT (cQ (sM Z (st_cl Z Z en47 Z (CheckS_ct hv hl) ?_))))
 rintro u h' ⟨rfl,rfl⟩
 simp only [lC,lN]
 refine st_alc al89 fun b3=>?_
 refine st_stoW Z Z sz89 Z Z ?_
 refine sK [0,2,3] Z (cS (cQ (sV (vF Z fa89_0 Z) (sV (vY Z ld29) ?_))))
 refine sV (v_neq Z Z) (sK [0,2,3,14] Z (cC Z (fun he=>?_) (fun he=>?_)))
 ·have he:¬ (check l).1=0:=by simpa using he
  rw [okL_ne he]
  refine cQ (sV (vF Z fa89_0 Z) (sV (vY Z ld29) ?_))
  refine sV (v_build (cells:=[.slice none 0 0,.int .i64 (check l).1]) Z (fun _=>by kernel_rfl)) ?_
  refine st_stoW Z Z sz123 Z Z ?_
  refine sK [2] Z (cT (xR (xt_vw (vw_unstar (L:=[])) ?_)))
  exact xt_retV (.cellN Z ld123 Z slq .nil) ⟨Res.star [],Z,_,Z,Z,Row.nil⟩ sbr
 ·have he:(check l).1=0:=by simpa using he
  have hR:=check_zero.1 he
  have hFl:=hR.len
  rw [he,okL_eq rfl]
  refine cK (xT (cQ (sA Z (sK [0,2,4] Z (cS (cQ (sA Z (sN (nT (cB (cd_vw (vw_nil 9 1) (cd_lq (σ := Value×Nat) (fun q=>[(0,.slice a l.length cap),(2,.pointer (some ⟨b2,0,none⟩)),(4,q.1),(5,.int .i64 (q.2:Nat))]) (fun q=>NR q.1 (ordN l q.2)::pt b2 (cl [.slice none 0 0,.int .i64 0] 123)::S::hr) (fun q=>q.1.oneCell'=true∧q.2≤l.length) (fun q=>l.length - q.2) (.slice none 0 0,0) ⟨Z,Nat.zero_le _⟩ ?_))))))))))))
  rintro ⟨w,i⟩ ⟨hw,hi⟩
  simp only at hw hi
  dsimp only
  refine cS (cQ (sM Z (sM Z (sV (v_len Z Tryz.underlying22) (sV (v_lss Z Z) (sK [0,2,4,5,21] Z (cC Z (fun hd=>?_) (fun hd=>?_))))))))
  ·have hlt:i<l.length:=by simpa using hd
   have hsome:=ordN_some hR.acyc hR.uniq hlt
   have hlen:=ordN_len l i
   have hsu:ordN l (i+1)=ordN l i++[minN ((nms l).filter (opn l (ordN l i)))]:=rfl
   generalize ordN l i=o at *
   refine cd_ok (r:=NR w o) slq fun hok=>?_
   have hno:=nms_own hok
   refine cK (xT (cS (cB (cQ (sA Z (sK [0,2,4,5,6] Z (cS (cQ (sA Z (sN (nT (cB ?_))))))))))))
   refine cd_lq (σ := Nm×Nat) (fun q=>[(0,.slice a l.length cap),(2,.pointer (some ⟨b2,0,none⟩)),(4,w),(5,.int .i64 (i:Nat)),(6,sv q.1),(7,.int .i64 (q.2:Nat))]) (fun _=>NR w o::pt b2 (cl [.slice none 0 0,.int .i64 0] 123)::S::hr) (fun q=>q.2≤l.length∧Bst (opnT l o q.2) q.1) (fun q=>l.length - q.2) ([],0) ⟨Nat.zero_le _,.inl ⟨by simp [opnT],Z⟩⟩ ?_
   rintro ⟨bn,k⟩ ⟨hk,hb⟩
   simp only at hk hb
   dsimp only
   refine cS (cQ (sM Z (sM Z (sV (v_len Z Tryz.underlying22) (sV (v_lss Z Z) (sK [0,2,4,5,6,7,27] Z (cC Z (fun hd2=>?_) (fun hd2=>?_))))))))
   ·have hklt:k<l.length:=by simpa using hd2
    obtain ⟨b,o3,cap2,d,f,pa,pc,c2,fa,fc,j2,hv2,hrd,hP,hone⟩:=sys_at hv (List.getElem?_eq_getElem hklt)
    have hsu2:=opnT_succ (o:=o) hklt
    have hne:∀ y∈opnT l o k,y≠[]:=fun y hy=>hR.ne (List.mem_of_mem_take (List.mem_filter.1 hy).1)
    generalize hcn:(l[k]).name=c at *
    have hpf:=hR.par_few c
    have hop:opn l o c=((!o.contains c) && (par l c).all o.contains):=rfl
    refine cK (xT (cS (cB (cQ (sM Z (sM Z (sM Z (sV (vI (k:=k) (congrArg some hv2) Z sl22 Z hklt Z) (sV (vF Z fa54_0 Z) (sV (vY Z ld9) ?_))))))))))
    refine st_clr Z Z en126 Z (Has_ct hno c (by omega)) ?_
    refine sA Z (sK [0,2,4,5,6,7,8] Z (cQ (sM Z (sM Z (sM Z (sM Z (sV (vI (k:=k) (congrArg some hv2) Z sl22 Z hklt Z) (sV (vF Z fa54_0 Z) (sV (vY Z ld9) ?_)))))))))
    refine st_cl Z Z en127 Z (parents_ct hv c (by omega) hR.sel) ?_
    rintro u h' ⟨T,rfl,hu1,rfl,hpn⟩
    simp only [lC,lN]
    rw [hR.pars_eq] at *
    refine st_clr Z Z en145 Z (all_ct hno hpn (by omega) (by omega)) ?_
    refine sA Z (sK [0,2,4,5,6,7,8,9] Z (cQ (sM Z (sV (v_not Z) (sM Z (st_cut (k:=5) (d:=50) (v:=.bool ((!o.contains c) && (par l c).all o.contains)) (fun hcut=>bool_want (b:=(!o.contains c)) true (fun hg=>?_) (fun hg=>?_)) ?_))))))
    ·refine st_sk Z Z hg ?_
     refine sV (vP (bO Z hg) Z) ?_
     exact hcut _ uG
    ·refine sG Z (bG Z hg) (vM Z) (sV (vQ (bO Z hg) Z) ?_)
     exact hcut _ uG
    rw [← hop]
    refine sM Z (st_cut (k:=18) (d:=63) (v:=.bool (opn l o c && (bn == [] || lt c bn))) (fun hcut=>bool_want (b:=(opn l o c)) true (fun hg=>?_) (fun hg=>?_)) ?_)
    ·refine st_sk Z Z hg ?_
     iterate 2 refine st_sk rfl rfl hg ?_
     refine st_sku Z Z ?_
     refine st_sku Z Z ?_
     refine st_sku Z Z ?_
     refine st_sku Z Z ?_
     refine st_sku Z Z ?_
     refine st_sku Z Z ?_
     refine st_sku Z Z ?_
     refine st_sk Z Z hg ?_
     refine sV (vP (bO Z hg) Z) ?_
     exact hcut _ uG
    ·refine sG Z (bG Z hg) (vM Z) (sG Z (bG Z hg) (v_seql Z Z) (sG Z (bG Z hg) (vM Z) (st_cut (k:=17) (d:=62) (v:=.bool (bn == [] || lt c bn)) (fun hcut=>bool_want (b:=(bn == [])) false (fun hg1=>?_) (fun hg1=>?_)) ?_)))
     ·refine st_sk Z Z hg1 ?_
      iterate 6 refine st_sk rfl rfl hg1 ?_
      refine sG Z (bG Z hg) (vQ (bO Z hg1) Z) ?_
      exact hcut _ (uH (by first | rfl | (rw [hg1]; rfl) | simp_all) (uS Z (uS Z (uS Z (uS Z (uS Z (uS Z (uS Z (uR)))))))))
     ·refine sG Z (bG Z hg1) (vM Z) (sG Z (bG Z hg1) (vM Z) (sG Z (bG Z hg1) (vI (k:=k) (congrArg some hv2) Z sl22 Z hklt Z) (sG Z (bG Z hg1) (vF Z fa54_0 Z) (sG Z (bG Z hg1) (vY Z ld9) ?_))))
      refine sG Z (bG Z hg1) (vM Z) (sG Z (bG Z hg1) (v_slss Z Z) (sG Z (bG Z hg) (vP (bO Z hg1) Z) ?_))
      exact hcut _ (uH (by first | rfl | (rw [hg1]; rfl) | simp_all) (uS Z (uS Z (uS Z (uS Z (uS Z (uS Z (uS Z (uR)))))))))
     refine sV (vQ (bO Z hg) Z) ?_
     exact hcut _ (uH (by first | rfl | (rw [hg]; rfl) | simp_all) (by repeat (first | exact uR | refine uS Z ?_)))
    refine sK [0,2,4,5,6,7,63] Z (cC Z (fun hc=>?_) (fun hc=>?_))
    ·obtain ⟨hc1,hc2⟩:=Bool.and_eq_true_iff.1 hc
     rw [if_pos hc1] at hsu2
     refine cR (sM Z (sM Z (sV (vI (k:=k) (congrArg some hv2) Z sl22 Z hklt Z) (sV (vF Z fa54_0 Z) (sV (vY Z ld9) ?_)))))
     refine sA Z (sN (nK [0,2,4,5,6,7] Z (nx_xt (xB (xT (cR (sM Z (sV (v_add Z Z (by unfold I64 at *; omega)) (sA Z (sN (nK [0,2,4,5,6,7] Z (nx_xt ?_))))))))))))
     refine xt_aq (c,k+1) ⟨hklt,by show Bst (opnT l o (k+1)) c; rw [hsu2]; exact hb.yes hne hc2⟩ (Nat.sub_lt_sub_left hklt (Nat.lt_succ_self k))
    ·have hb2:Bst (opnT l o (k+1)) bn:=by
      rw [hsu2]
      cases ho:opn l o c with
      | false=>rw [if_neg (by decide),List.append_nil]; exact hb
      | true =>
       rw [ho,Bool.true_and] at hc
       rw [if_pos rfl]; exact hb.no hc
     refine cK (xB (xT (cR (sM Z (sV (v_add Z Z (by unfold I64 at *; omega)) (sA Z (sN (nK [0,2,4,5,6,7] Z (nx_xt ?_)))))))))
     refine xt_aq (bn,k+1) ⟨hklt,hb2⟩ (Nat.sub_lt_sub_left hklt (Nat.lt_succ_self k))
   ·have hke:k=l.length:=by
     have:¬ k<l.length:=by simpa using hd2
     omega
    subst hke
    rw [opnT_all] at hb
    have hbe:=hb.eq hsome
    rw [← hbe] at hsu
    refine cd_exit (xE (xE (xY (xT (cR (sM Z (sM Z (st_buildSlice (cells:=[sv bn]) Z Tryz.underlying50 inf9 Z Z (by kernel_rfl) (ltn Z) fun b71=>?_))))))))
    refine st_app [nC bn] Z Z Tryz.underlying50 inf9 Z (by decide) (show Sel _ (NR w o) _ from slq) (by simp [nC]) Z (fun j u2 hu2=>at_here (rd_cl (by simpa [nC] using hu2))) (by simp [nC,Value.oneCell']) (by simp; omega) (by simp; omega) (ltn Z) fun v' hv' _=>?_
    rw [show o.map nC++[nC bn]=(ordN l (i+1)).map nC by rw [hsu,List.map_append]; rfl]
    refine sA Z (sN (nK [0,2,4,5] Z (nx_xt (xB (xT (cR (sM Z (sV (v_add Z Z (by unfold I64 at *; omega)) (sA Z (sN (nK [0,2,4,5] Z (nx_xt ?_))))))))))))
    refine xt_aq (v',i+1) ⟨hv',hlt⟩ (Nat.sub_lt_sub_left hlt (Nat.lt_succ_self i))
  ·have hil:i=l.length:=by
    have:¬ i<l.length:=by simpa using hd
    omega
   subst hil
   rw [show ordN l l.length=order l from rfl]
   refine cd_ok (r:=NR w (order l)) slq fun hok=>?_
   have hkl:=nms_own hok
   obtain ⟨wa,wcap,rfl,_⟩:=id hkl
   refine cd_exit (xE (xE (xY (xT (cQ (sM Z (sV (v_build (cells:=[.slice wa (order l).length wcap,.int .i64 0]) Z (fun _=>by kernel_rfl)) ?_)))))))
   refine st_stoW Z Z sz123 Z Z ?_
   refine sK [2] Z (cT ?_)
   exact xt_retV (.cellN Z ld123 Z slq .nil) ⟨_,Z,_,Z,Z,hkl⟩ sbr
end
end Go.Hr
namespace Go.Ck
open Go Go.RowKit Go.ChangeShapes Go.WideShapes
theorem cells_one {v:Value} (h:v.oneCell'=true):v.cells.toList=[v]:=by
 cases v <;> first | rfl | (simp [Value.oneCell'] at h)
end Go.Ck
namespace Go.Hr
open Go Go.RowKit Go.ChangeShapes Go.WideShapes Go.Ck
def partL:List TypeId:=[3,4,9,25,59,62,185,186,188,189,191,192,194,196,198,201,203]
def parTy:Ty:=.struct [.str,.slice (.any 5 partL),.slice (.any 2 partL),.slice .str,.slice .str,.slice .str]
def clsTy:Ty:=.struct [.str,.bool,.slice (.any 2 partL),.slice parTy,.slice .str,.slice (.any 15 partL),.slice (.any 5 partL)]
def nmOf (s:ByteArray):Nm:=s.data.toList
def parOf (x:parTy.D):Nm:=nmOf (show ByteArray from x.1)
def clsOf (x:clsTy.D):Cls:=⟨nmOf (show ByteArray from x.1),(show List parTy.D from x.2.2.2.1).map parOf,(show List Unit from x.2.2.2.2.2.1).length⟩
def sysOf (y:(Ty.slice clsTy).D):Sys:=(show List clsTy.D from y).map clsOf
def nmsOf (y:(Ty.slice .str).D):List Nm:=(show List ByteArray from y).map nmOf
end Go.Hr
namespace Go.Ck
open Go Go.RowKit Go.ChangeShapes Go.WideShapes
section
variable {H:Type}
theorem weights_mem_all {P:Program} {e:TypeId}:∀ {ds:List (DataW H)} {d:DataW H},d∈ds→∀ n∈d.weights P e,n∈DataW.weightsAll P e ds
 | d0::ds,d,hd,n,hn=>by
  simp only [DataW.weightsAll,List.mem_append]
  rcases List.mem_cons.1 hd with rfl | hd
  ·exact .inl hn
  ·exact .inr (weights_mem_all hd n hn)
variable (enc:TypeId×Value→H) (P:Program) (W:World)
def Gd (n:Nat) (t:TypeId) (cs:List Value):Prop:=∃ x,DataW.trod enc P W 0 (fun _=>true) true n t cs=some x∧∀ m∈x.1.weights P t,m≤reachBytes
variable {enc P W}
theorem Gd.slice {n : Nat} {t e : TypeId} {cs : List Value} (h : Gd enc P W n t cs) (hu : P.underlying t = some (.slice e)) (hsz : 0 < P.cellsOf e) :
  cs=[.slice none 0 0]∨∃ a len cap m,n=m+1∧cs=[.slice (some a) len cap]∧len≤cap∧cap≤maxLen∧len * P.bytesOf e≤reachBytes ∧
   ∀ i,i<len→∃ b o us,a=⟨b,o,none⟩∧us.length=P.cellsOf e∧Rds (old W) b (o+i * P.cellsOf e) us∧Gd enc P W m e us:=by
 obtain ⟨x,h,hz⟩:=h
 rcases DataW.trod_slice hu h with ⟨h0,_⟩ | ⟨a,len,cap,elems,rest,m,hn,h1,hx,_,hl,hc,hlen,hel,_⟩
 ·exact .inl h0
 ·refine .inr ⟨a, len, cap, m, hn, h1, hl, hc, ?_, fun i hi => ?_⟩
  ·have:=hz ((elems.length+rest.length) * P.bytesOf e) (by rw [hx]; simp [DataW.weights,hu])
   rw [hlen] at this
   exact Nat.le_trans (Nat.mul_le_mul_right _ (Nat.le_add_right _ _)) this
  ·have h2:=hel i hi
   rw [List.getElem?_eq_getElem (by omega),Option.bind_eq_some_iff] at h2
   obtain ⟨us,h3,h4⟩:=h2
   obtain ⟨h5,h6⟩:=cells?_at h3
   have hspot:a.spot=none:=by
    have g2:=hel 0 (by omega)
    rw [List.getElem?_eq_getElem (by omega),Option.bind_eq_some_iff] at g2
    obtain ⟨us0,g3,_⟩:=g2
    obtain ⟨g5,g6⟩:=cells?_at g3
    have:=g6 0 (by omega)
    simp only [Nat.zero_mul,Addr.add,if_true] at this
    exact (cell_spot this).1
   obtain ⟨ab,ao,asp⟩:=a
   simp only at hspot
   subst hspot
   refine ⟨ab,ao,us,Z,h5,fun j hj=>?_,elems[i]'(by omega),h4,fun k hk=>hz k ?_⟩
   ·have:=h6 j hj
    rw [Addr.add_lit,Addr.add_lit] at this
    exact rd_old (cell_spot this).2 this
   ·rw [hx]
    simp only [DataW.weights,hu]
    exact List.mem_cons_of_mem _ (List.mem_append_left _ (weights_mem_all (List.mem_map.2 ⟨_,List.getElem_mem (by omega),Z⟩) _ hk))
theorem Gd.struct {n:Nat} {t:TypeId} {fs:Array Field} {cs:List Value} (h:Gd enc P W n t cs) (hu:P.underlying t=some (.struct fs)) :
  ∃ m,n=m+1∧cs.length=P.cellsOf t∧∀ (i:Nat) (f:Field),fs[i]? = some f→Gd enc P W m f.type ((cs.drop f.offset).take (P.cellsOf f.type)):=by
 obtain ⟨x,h,hz⟩:=h
 obtain ⟨xs,m,hn,hx,hcl,hxl,hfe⟩:=DataW.trod_struct hu h
 refine ⟨m,hn,hcl,fun i f hf=>?_⟩
 have h1:=hfe i f hf
 have hlt:i<xs.length:=by rw [hxl]; exact (Array.getElem?_eq_some_iff.1 hf).1
 rw [List.getElem?_eq_getElem hlt] at h1
 refine ⟨xs[i],h1,fun k hk=>hz k ?_⟩
 rw [hx]
 simp only [DataW.weights,hu]
 exact DataW.weights_mem_each (j:=i) (by rw [List.getElem?_map]; simp [hf]) (by rw [List.getElem?_map,List.getElem?_eq_getElem hlt]; rfl) _ hk
end
end Go.Ck
namespace Go.Ck
open Go Go.RowKit
section
variable {c:Cx} {ops:Array Oper} {K:Act→World→Prop} {rest:List Oper} {e:Env} {h:SH}
theorem flat_len {sz:Nat}:∀ {rows:List (List Value)},(∀ r∈rows,r.length=sz)→rows.flatten.length=rows.length * sz
 | [],_=>by simp
 | r::t,h=>by
  rw [List.flatten_cons,List.length_append,h r (by simp),flat_len (rows:=t) fun q hq=>h q (by simp [hq]),List.length_cons,Nat.succ_mul]; omega
theorem splice_rows {sz:Nat} {vs:List Value} (hv:vs.length=sz):∀ {rows:List (List Value)} {m:Nat},(∀ r∈rows,r.length=sz)→m<rows.length→splice rows.flatten (m * sz) vs=(rows.set m vs).flatten
 | [],m,_,hm=>by simp at hm
 | r::t,0,h,_=>by
  have hr:=h r (by simp)
  simp [splice,hv,← hr]
 | r::t,m+1,h,hm=>by
  have hr:=h r (by simp)
  have ih:=splice_rows hv (rows:=t) (m:=m) (fun q hq=>h q (by simp [hq])) (by simpa using hm)
  have ht:=flat_len (sz:=sz) (rows:=t) fun q hq=>h q (by simp [hq])
  rw [List.set_cons_succ,List.flatten_cons,List.flatten_cons,← ih]
  unfold splice
  rw [Nat.succ_mul,show m * sz+sz=r.length+m * sz by omega]
  rw [List.take_length_add_append,show r.length+m * sz+vs.length=r.length+(m * sz+vs.length) by omega,List.drop_length_add_append]
  simp
end
end Go.Ck
namespace Go.Hr
open Go Go.RowKit Go.Ck
def tyC (t:Kt) (x:Value):List Value:=[.int .i64 t.kind,sv t.name,x,.bool t.void,.bool t.sep]
def tyR (S:Res):Nat→List Value→Kt→Prop
 | 0,_,_=>False
 | n+1,us,t=>∃ x,us=tyC t x∧Row S 5 (tyR S n) x t.args∧t.args.length * 56≤reachBytes
section
variable {S T:Res}
theorem tyR.mono (hr:∀ p u,Rd S p u→Rd T p u):∀ {n:Nat} {us:List Value} {t:Kt},tyR S n us t→tyR T n us t
 | 0,_,_,h=>h.elim
 | n+1,us,t,⟨x,h1,h2,h3⟩=>⟨x,h1,h2.mono hr fun _ _ _ h=>tyR.mono hr h,h3⟩
theorem tyR.le:∀ {n m:Nat} {us:List Value} {t:Kt},tyR S n us t→n≤m→tyR S m us t
 | 0,_,_,_,h,_=>h.elim
 | n+1,0,_,_,_,h=>by omega
 | n+1,m+1,us,t,⟨x,h1,h2,h3⟩,h=>⟨x,h1,h2.mono (fun _ _ h=>h) fun _ _ _ g=>tyR.le g (by omega),h3⟩
theorem tyR.depth:∀ {n:Nat} {us:List Value} {t:Kt},tyR S n us t→tyR S t.depth us t
 | 0,_,_,h=>h.elim
 | n+1,us,.mk k nm az v s,⟨x,h1,h2,h3⟩=>⟨x,h1,h2.mono (fun _ _ h=>h) fun us' a ha g=>(tyR.depth g).le (depths_mem ha),h3⟩
def Ty (S:Res) (us:List Value) (t:Kt):Prop:=tyR S t.depth us t
def Tys (S:Res) (v:Value) (ts:List Kt):Prop:=Row S 5 (Ty S) v ts∧ts.length * 56≤reachBytes
theorem Ty.of {us:List Value} {t:Kt} {x:Value} (h1:us=tyC t x) (h2:Tys S x t.args):Ty S us t:=by
 obtain ⟨k,nm,az,v,s⟩:=t
 exact ⟨x,h1,h2.1.mono (fun _ _ h=>h) fun us' a ha g=>tyR.le g (depths_mem ha),h2.2⟩
theorem Ty.out {us:List Value} {t:Kt} (h:Ty S us t):∃ x,us=tyC t x∧Tys S x t.args:=by
 obtain ⟨k,nm,az,v,s⟩:=t
 obtain ⟨x,h1,h2,h3⟩:=h
 exact ⟨x,h1,h2.mono (fun _ _ h=>h) fun us' a ha g=>tyR.depth g,h3⟩
theorem Ty.mono (hr:∀ p u,Rd S p u→Rd T p u) {us:List Value} {t:Kt} (h:Ty S us t):Ty T us t:=tyR.mono hr h
theorem Tys.mono (hr:∀ p u,Rd S p u→Rd T p u) {v:Value} {ts:List Kt} (h:Tys S v ts):Tys T v ts:=⟨h.1.mono hr fun _ _ _ g=>Ty.mono hr g,h.2⟩
theorem Tys.nil:Tys S (.slice none 0 0) []:=⟨Row.nil,by simp⟩
theorem Ty.len {us:List Value} {t:Kt} (h:Ty S us t):us.length=5:=by obtain ⟨x,rfl,_⟩:=h.out; rfl
theorem Tys.one {v:Value} {ts:List Kt} (h:Tys S v ts):v.oneCell'=true:=h.1.one
theorem Ty.ones {us:List Value} {t:Kt} (h:Ty S us t):us.all Value.oneCell'=true:=by
 obtain ⟨x,rfl,h2⟩:=h.out
 simp only [tyC,List.all_cons,List.all_nil,h2.one,Bool.and_true,Bool.true_and]; rfl
theorem Tys.at {v:Value} {ts:List Kt} (h:Tys S v ts) {i:Nat} {t:Kt} (hi:ts[i]? = some t):∃ b o cap us,v = .slice (some ⟨b,o,none⟩) ts.length cap∧us.length=5∧Rds S b (o+i * 5) us∧Ty S us t:=h.1.at hi
theorem Tys.form {v:Value} {ts:List Kt} (h:Tys S v ts):∃ a cap,v = .slice a ts.length cap∧ts.length≤cap∧cap≤maxLen∧(a=none→cap=0):=by
 obtain ⟨a,cap,h1,h2,h3,h4,_⟩:=h.1
 exact ⟨a,cap,h1,h2,h3,h4⟩
theorem Tys.small {v:Value} {ts:List Kt} (h:Tys S v ts):ts.length≤2513169438021:=by
 have:=h.2
 have hr:reachBytes=140737488351232:=rfl
 omega
def fmC (us:List Value) (f:Fm):Prop:=us=[sv f.name,sv f.bound]
def kparC (S:Res) (us:List Value) (p:Kp):Prop:=∃ x a b c d,us=[sv p.name,x,a,b,c,d]∧[sv p.name,x,a,b,c,d].all Value.oneCell'=true∧Tys S x p.args
def kclsC (S:Res) (us:List Value) (x:KC):Prop:=∃ d f pv c fa fc i,us=[sv x.name,d,f,pv,c,.slice fa x.feats fc,i]∧[sv x.name,d,f,pv,c,.slice fa x.feats fc,i].all Value.oneCell'=true∧Row S 2 fmC f x.formals∧Row S 6 (kparC S) pv x.parents
def ksysR (S:Res) (v:Value) (l:KS):Prop:=Row S 7 (kclsC S) v l
theorem kparC.mono (hr:∀ p u,Rd S p u→Rd T p u) {us:List Value} {p:Kp} (h:kparC S us p):kparC T us p:=by
 obtain ⟨x,a,b,c,d,h1,h2,h3⟩:=h
 exact ⟨x,a,b,c,d,h1,h2,h3.mono hr⟩
theorem kclsC.mono (hr:∀ p u,Rd S p u→Rd T p u) {us:List Value} {x:KC} (h:kclsC S us x):kclsC T us x:=by
 obtain ⟨d,f,pv,c,fa,fc,i,h1,h2,h3,h4⟩:=h
 exact ⟨d,f,pv,c,fa,fc,i,h1,h2,h3.mono hr fun _ _ _ h=>h,h4.mono hr fun _ _ _ h=>kparC.mono hr h⟩
theorem ksysR.mono (hr:∀ p u,Rd S p u→Rd T p u) {v:Value} {l:KS} (h:ksysR S v l):ksysR T v l:=Row.mono h hr fun _ _ _ h=>kclsC.mono hr h
theorem row_map {α β : Type} {sz:Nat} {X:List Value → α → Prop} {Y:List Value → β → Prop} {g : α → β} {v:Value} {l:List α} (h:Row S sz X v l) (hx:∀ us x,X us x→Y us (g x)):Row S sz Y v (l.map g):=by
 obtain ⟨a,cap,h1,h2,h3,h4,h5⟩:=h
 refine ⟨a,cap,by rw [h1,List.length_map],by rw [List.length_map]; exact h2,h3,h4,fun i y hi=>?_⟩
 rw [List.getElem?_map] at hi
 obtain ⟨x,hx1,rfl⟩:=Option.map_eq_some_iff.1 hi
 obtain ⟨b,o,us,g1,g2,g3,g4⟩:=h5 i x hx1
 exact ⟨b,o,us,g1,g2,g3,hx _ _ g4⟩
theorem kpar_par {us:List Value} {p:Kp} (h:kparC S us p):parC us p.name:=by
 obtain ⟨x,a,b,c,d,h1,h2,_⟩:=h
 exact ⟨x,a,b,c,d,h1,h2⟩
theorem kcls_cls {us:List Value} {x:KC} (h:kclsC S us x):clsC S us x.cls:=by
 obtain ⟨d,f,pv,c,fa,fc,i,h1,h2,h3,h4⟩:=h
 exact ⟨d,f,pv,c,fa,fc,i,h1,h2,row_map h4 fun _ _ h=>kpar_par h⟩
theorem ksysR.sys {v:Value} {l:KS} (h:ksysR S v l):sysR S v (ksys l):=row_map h fun _ _ h=>kcls_cls h
end
end Go.Hr
