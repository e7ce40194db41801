/-
  The specification: above,Above,Is. Conditions: what is read.
  The specification: under,Below,Touched. Conditions: what is read.
  Nothing (what stood here is not reached in this seat). No condition.
  The specification: all,Order. Conditions: what is read.
  What the arguments of the laws read as: systems of classes,names. No condition.
  Data that is read to its end,none of whose lists is too long: what it is made of. No condition.
  make([]T,n) for elements of many cells. Generic. No condition.
  Types and systems of generic classes in the machine's memory,as data that is read. No condition.
  Package kind: Same; Go's library: slices.EqualFunc,slices.Clone; the reference: Same,SameTypes. Conditions: what is read.
  The reference: Same,SameTypes. Conditions: what is read.
-/
import Derived.Test.YtaohbfnepjjdgaaGreatM11
import Derived.Test.YtaohbfnepjjdgaaGreatM10
import Derived.Test.YtaohbfnepjjdgaaGreatM7
import Derived.Test.YtaohbfnepjjdgaaGreatM5
import Derived.JoinedCond
import Derived.SizedLaws
import Derived.Test.YtaohbfnepjjdgaaGreatM6
set_option linter.unusedVariables false
set_option linter.unusedSimpArgs false
namespace Go.Hr
open Go Go.RowKit Go.Ck Go.Proofs Go.Proofs.YtaohbfnepjjdgaaGreat Fx
attribute [local irreducible] Go.Ck.Sub St Cd Xt Nx DrL LsW
theorem ddL_len {xs o:List Nm}:(dd o xs).length≤o.length+xs.length:=by
 induction xs generalizing o with
 | nil=>simp [dd]
 | cons x t ih =>
  show (dd (step o x) t).length≤_
  have h1:=ih (o:=step o x)
  have h2:(step o x).length≤o.length+1:=by unfold step; split <;> simp
  simp only [List.length_cons]; omega
theorem aboveC_len {l:Sys} (hR:Right l) (c:Nm):(above l c).length≤25:=by
 obtain ⟨h1,h2⟩:=above_spec hR.acyc c
 have h3:=length_le_of_nodup (b:=c::nms l) h1.nodup fun x hx=>by
  rcases has_cases ((h2 x).1 hx) with h | ⟨p,hp,h⟩
  ·rw [h]; exact List.mem_cons_self
  ·exact List.mem_cons_of_mem _ (isC_iff.1 (has_isC (par_isC hp) h))
 have h4:=hR.len
 simp only [List.length_cons,nms,List.length_map] at h3
 omega
theorem aboveC_has {l:Sys} (hR:Right l) (c x:Nm):(above l c).contains x=has l c x:=by
 rw [Bool.eq_iff_iff,List.contains_iff_mem]; exact (above_spec hR.acyc c).2 x
def upTo (l:Sys) (c:Nm) (i:Nat):List Nm:=((par l c).take i).foldl (fun o p=>dd o (above l p)) []
theorem upTo_succ {l:Sys} {c:Nm} {i:Nat} (h:i<(par l c).length):upTo l c (i+1)=dd (upTo l c i) (above l (par l c)[i]):=by
 unfold upTo
 rw [List.take_succ_eq_append_getElem h,List.foldl_append]; rfl
theorem dd_succ {o xs:List Nm} {k:Nat} (h:k<xs.length):dd o (xs.take (k+1))=step (dd o (xs.take k)) xs[k]:=by
 rw [List.take_succ_eq_append_getElem h,dd_snoc]
section
variable {S N:Res} {v nv:Value} {l:Sys} {ns:List Nm}
set_option maxHeartbeats 1000000 in
set_option maxRecDepth 100000 in
theorem aboveS_ct (hv : sysR S v l) (hR : Right l) : ∀ (n : Nat) (c : Nm), rk l c < n → CtN Tryz.prog 146 #[v, sv c] [S] fun u T => u.oneCell' = true ∧ T = NR u (above l c) ∧ nmsR T u (above l c) := by
 obtain ⟨a,cap,rfl,_⟩:=id hv
 have hFl:=hR.len
 intro n
 induction n with
 | zero=>intro c h; omega
 | succ n ih =>
  intro c hc
  have hrec:=above_rec hR.acyc c
  have hfew:=hR.par_few c
  have hup:above l c=upTo l c (par l c).length++[c]:=by rw [hrec]; unfold upTo; rw [List.take_length]
  have hrk:∀ p∈par l c,rk l p<n:=fun p hp=>by have:=rk_lt hR.acyc hp; omega
  refine ct_of (n:=51) Tryz.func146 Z Z (len Z) fun hr w0=>?_
  refine cQ (sA Z (sN (nT (cQ (sA Z (sN (nT (cQ (sM Z (sM Z (st_cl Z Z en127 Z (parents_ct hv c (by omega) hR.sel) ?_)))))))))))
  rintro u h' ⟨T,rfl,hu1,rfl,hpn⟩
  simp only [lC,lN]
  rw [hR.pars_eq] at *
  obtain ⟨pa,pcap,rfl,_⟩:=id hpn
  refine sA Z (sK [0,1,4,5,6] Z (cS (cQ (sA Z (sN (nT (cB (cd_vw (vw_nil 9 1) (cd_lq (σ := Value×Nat) (fun q=>[(0,.slice a l.length cap),(1,sv c),(5,q.1),(6,.slice pa (par l c).length pcap),(7,.int .i64 (q.2:Nat))]) (fun q=>VR q.1 9 1 ((upTo l c q.2).map nC)::NR (.slice pa (par l c).length pcap) (par l c)::S::hr) (fun q=>q.1.oneCell'=true∧q.2≤(par l c).length∧(upTo l c q.2).length≤25 * q.2) (fun q=>(par l c).length - q.2) (.slice none 0 0,0) ⟨Z,Nat.zero_le _,by simp [upTo]⟩ ?_)))))))))
  rintro ⟨w,i⟩ ⟨hw,hi,hwl⟩
  simp only at hw hi hwl
  dsimp only
  refine cS (cQ (sM Z (sM Z (sV (v_len Z Tryz.underlying50) (sV (v_lss Z Z) (sK [0,1,5,6,7,17] Z (cC Z (fun hd=>?_) (fun hd=>?_))))))))
  ·have hlt:i<(par l c).length:=by simpa using hd
   have hpi:=List.getElem?_eq_getElem hlt
   obtain ⟨pb,po,pcap2,hpv2,hprd⟩:=nms_at hpn hpi
   have hsu:=upTo_succ hlt
   have hpk:=hrk _ (List.getElem_mem hlt)
   generalize (par l c)[i]=p at *
   have hal:=aboveC_len hR p
   refine cK (xT (cS (cB (cQ (sM Z (sM Z (sM Z (sV (vI (k:=i) (congrArg some hpv2) Z sl50 Z hlt Z) (sV (vY Z ld9) ?_)))))))))
   refine st_cl Z Z en146 Z (ih p hpk) ?_
   rintro u h' ⟨T,rfl,hu1,rfl,han⟩
   simp only [lC,lN]
   generalize above l p=xs at *
   obtain ⟨aa,acap,rfl,_⟩:=id han
   refine sA Z (sK [0,1,5,6,7,8] Z (cQ (sA Z (sN (nT (cB (cd_lq (σ := Value×Nat) (fun q=>[(0,.slice a l.length cap),(1,sv c),(5,q.1),(6,.slice pa (par l c).length pcap),(7,.int .i64 (i:Nat)),(8,.slice aa xs.length acap),(9,.int .i64 (q.2:Nat))]) (fun q=>VR q.1 9 1 ((dd (upTo l c i) (xs.take q.2)).map nC)::NR (.slice aa xs.length acap) xs::NR (.slice pa (par l c).length pcap) (par l c)::S::hr) (fun q=>q.1.oneCell'=true∧q.2≤xs.length) (fun q=>xs.length - q.2) (w,0) ⟨hw,Nat.zero_le _⟩ ?_)))))))
   rintro ⟨w2,k⟩ ⟨hw2,hk⟩
   simp only at hw2 hk
   dsimp only
   refine cS (cQ (sM Z (sM Z (sV (v_len Z Tryz.underlying50) (sV (v_lss Z Z) (sK [0,1,5,6,7,8,9,29] Z (cC Z (fun hd2=>?_) (fun hd2=>?_))))))))
   ·have hklt:k<xs.length:=by simpa using hd2
    obtain ⟨ab,ao,acap2,hav2,hard⟩:=nms_at han (List.getElem?_eq_getElem hklt)
    have hds:=dd_succ (o:=upTo l c i) hklt
    have hdl:=ddL_len (o:=upTo l c i) (xs:=xs.take k)
    have htl:(xs.take k).length≤25:=by rw [List.length_take]; omega
    generalize dd (upTo l c i) (xs.take k)=o at *
    generalize xs[k]=x at *
    refine cd_ok (r:=NR w2 o) slq fun hok=>?_
    refine cK (xT (cS (cB (cQ (sM Z (sM Z (sM Z (sV (vI (k:=k) (congrArg some hav2) Z sl50 Z hklt Z) (sV (vY Z ld9) ?_)))))))))
    refine st_clr Z Z en126 Z (Has_ct (nms_own hok) x (by omega)) ?_
    refine sA Z (sK [0,1,5,6,7,8,9,10] Z (cQ (sM Z (sV (v_not Z) (sK [0,1,5,6,7,8,9,39] Z (cC Z (fun hx=>?_) (fun hx=>?_)))))))
    ·have hx:x ∉ o:=by simpa using hx
     rw [step_new hx] at hds
     refine cR (sM Z (sM Z (sM Z (sV (vI (k:=k) (congrArg some hav2) Z sl50 Z hklt Z) (sV (vY Z ld9) ?_)))))
     refine st_buildSlice (cells:=[sv x]) Z Tryz.underlying50 inf9 Z Z (by kernel_rfl) (ltn Z) fun b45=>?_
     refine st_app [nC x] Z Z Tryz.underlying50 inf9 Z (by decide) (show Sel _ (VR w2 9 1 (o.map nC)) _ from slq) (by simp [nC]) Z (fun j u2 hu2=>at_here (rd_cl (by simpa [nC] using hu2))) (by simp [nC,Value.oneCell']) (by simp; omega) (by simp; omega) (ltn Z) fun v' hv' _=>?_
     rw [show o.map nC++[nC x]=(dd (upTo l c i) (xs.take (k+1))).map nC by rw [hds,List.map_append]; rfl]
     refine sA Z (sN (nK [0,1,5,6,7,8,9] Z (nx_xt (xB (xT (cR (sM Z (sV (v_add Z Z (by unfold I64 at *; omega)) (sA Z (sN (nK [0,1,5,6,7,8,9] Z (nx_xt ?_))))))))))))
     refine xt_aq (v',k+1) ⟨hv',hklt⟩ (Nat.sub_lt_sub_left hklt (Nat.lt_succ_self k))
    ·have hx:x∈o:=by simpa using hx
     rw [step_mem hx] at hds
     refine cK (xB (xT (cR (sM Z (sV (v_add Z Z (by unfold I64 at *; omega)) (sA Z (sN (nK [0,1,5,6,7,8,9] Z (nx_xt ?_)))))))))
     rw [← hds]
     refine xt_aq (w2,k+1) ⟨hw2,hklt⟩ (Nat.sub_lt_sub_left hklt (Nat.lt_succ_self k))
   ·have hke:k=xs.length:=by
     have:¬ k<xs.length:=by simpa using hd2
     omega
    subst hke
    rw [List.take_length,← hsu]
    have hdl:=ddL_len (o:=upTo l c i) (xs:=xs)
    rw [← hsu] at hdl
    refine cd_exit (xE (xE (xY (xB (xT (cR (sM Z (sV (v_add Z Z (by unfold I64 at *; omega)) (sA Z (sN (nK [0,1,5,6,7] Z (nx_xt ?_))))))))))))
    refine xt_aq (w2,i+1) ⟨hw2,hlt,by show (upTo l c (i+1)).length≤25 * (i+1); omega⟩ (Nat.sub_lt_sub_left hlt (Nat.lt_succ_self i))
  ·have hil:i=(par l c).length:=by
    have:¬ i<(par l c).length:=by simpa using hd
    omega
   subst hil
   refine cd_exit (xE (xE (xY (xT (cQ (sM Z (sM Z (st_buildSlice (cells:=[sv c]) Z Tryz.underlying50 inf9 Z Z (by kernel_rfl) (ltn Z) fun b49=>?_))))))))
   refine st_app [nC c] Z Z Tryz.underlying50 inf9 Z (by decide) (show Sel _ (VR w 9 1 ((upTo l c (par l c).length).map nC)) _ from slq) (by simp [nC]) Z (fun j u2 hu2=>at_here (rd_cl (by simpa [nC] using hu2))) (by simp [nC,Value.oneCell']) (by simp; omega) (by simp; omega) (ltn Z) fun v' hv' _=>?_
   rw [show (upTo l c (par l c).length).map nC++[nC c]=(above l c).map nC by rw [hup,List.map_append]; rfl]
   refine sA Z (sK [4] Z (cT (xt_ok (r:=NR v' (above l c)) slq fun hok=>?_)))
   exact xt_rt Z ⟨NR v' (above l c),Z,hv',Z,nms_own hok⟩ sbq
set_option maxRecDepth 100000 in
theorem aboveT_ct (hv:sysR S v l) (hR:Right l) (c:Nm):CtN Tryz.prog 146 #[v,sv c] [S] fun u T=>u.oneCell'=true∧T=NR u (above l c)∧nmsR T u (above l c):=aboveS_ct hv hR (rk l c+1) c (Nat.lt_succ_self _)
set_option maxRecDepth 100000 in
theorem AboveS_ct (hv:sysR S v l) (hl:l.length≤1000000) (c:Nm):CtN Tryz.prog 92 #[v,sv c] [S] fun u T=>∃ w,u = .agg #[w,.int .i64 (rightE l [c])]∧w.oneCell'=true∧nmsR T w (okL (rightE l [c]) (above l c)):=by
 obtain ⟨a,cap,rfl,_⟩:=id hv
 refine ct_of (n:=18) Tryz.func92 Z Z (len Z) fun hr w0=>?_
 refine cQ (st_alc al123 fun b4=>?_)
 refine sN (nT (cQ (sM Z (sM Z (st_buildSlice (cells:=[sv c]) Z Tryz.underlying50 inf9 Z Z (by kernel_rfl) (ltn Z) fun b8=>?_)))))
 refine st_pv (pv_of (b:=b8) (n:=1) (sz:=1) (E:=9) [nC c] Z (by simp [nC]) Z (by decide)) ?_
 simp only [lC,lN]
 refine st_ok (r:=NR (.slice (some ⟨b8,0,none⟩) 1 1) [c]) slq fun hok=>?_
 refine st_clr Z Z en110 Z (asked_ct hv hl (nms_own hok) (by simp)) ?_
 refine sA Z (sK [0,1,4,5] Z (cS (cQ (sM Z (sV (v_neq Z Z) (sK [0,1,4,5,11] Z (cC Z (fun he=>?_) (fun he=>?_))))))))
 ·have he:¬ rightE l [c]=0:=by simpa using he
  rw [okL_ne he]
  refine cQ (sM Z (sV (v_build (cells:=[.slice none 0 0,.int .i64 (rightE l [c])]) Z (fun _=>by kernel_rfl)) ?_))
  refine st_stoW Z Z sz123 Z Z ?_
  refine sK [4] Z (cT (xR (xt_vw (vw_unstar (L:=[])) ?_)))
  exact xt_retV (.cellN Z ld123 Z slq .nil) ⟨Res.star [],Z,_,Z,Z,Row.nil⟩ sbr
 ·have he:rightE l [c]=0:=by simpa using he
  obtain ⟨hR,hm⟩:=rightE_zero.1 he
  rw [he,okL_eq rfl]
  refine cK (xT (cQ (sM Z (sM Z (st_cl Z Z en146 Z (aboveT_ct hv hR c) ?_)))))
  rintro u h' ⟨T,rfl,hu1,rfl,hu⟩
  simp only [lC,lN]
  obtain ⟨ua,ucap,rfl,_⟩:=id hu
  refine sV (v_build (cells:=[.slice ua (above l c).length ucap,.int .i64 0]) Z (fun _=>by kernel_rfl)) ?_
  refine st_stoW Z Z sz123 Z Z ?_
  refine sK [4] Z (cT ?_)
  exact xt_retV (.cellN Z ld123 Z slq .nil) ⟨_,Z,_,Z,Z,hu⟩ sbr
set_option maxRecDepth 100000 in
theorem IsS_ct (hv:sysR S v l) (hl:l.length≤1000000) (c x:Nm):Reads Tryz.prog 144 #[v,sv c,sv x] [S] (.agg #[.bool (decide (rightE l [c,x]=0) && has l c x),.int .i64 (rightE l [c,x])]):=by
 obtain ⟨a,cap,rfl,_⟩:=id hv
 refine ct_of (n:=23) Tryz.func144 Z Z (len Z) fun hr w0=>?_
 refine cQ (st_alc al187 fun b6=>?_)
 refine sN (nT (cQ (sM Z (sM Z (sM Z (st_buildSlice (cells:=[sv c,sv x]) Z Tryz.underlying50 inf9 Z Z (by kernel_rfl) (ltn Z) fun b11=>?_))))))
 refine st_pv (pv_of (b:=b11) (n:=2) (sz:=1) (E:=9) [nC c,nC x] Z (by simp [nC]) Z (by decide)) ?_
 simp only [lC,lN]
 refine st_ok (r:=NR (.slice (some ⟨b11,0,none⟩) 2 2) [c,x]) slq fun hok=>?_
 refine st_clr Z Z en110 Z (asked_ct hv hl (nms_own hok) (by simp)) ?_
 refine sA Z (sK [0,1,2,6,7] Z (cS (cQ (sM Z (sV (v_neq Z Z) (sK [0,1,2,6,7,14] Z (cC Z (fun he=>?_) (fun he=>?_))))))))
 ·have he:¬ rightE l [c,x]=0:=by simpa using he
  rw [show decide (rightE l [c,x]=0)=false from decide_eq_false he,Bool.false_and]
  refine cQ (sM Z (sV (v_build (cells:=[.bool false,.int .i64 (rightE l [c,x])]) Z (fun _=>by kernel_rfl)) ?_))
  refine st_stoW Z Z sz187 Z Z ?_
  refine sK [6] Z (cT (xR ?_))
  exact xt_retV (.cellN Z ld187 Z slq .nil) ⟨Z,Z⟩ sbr
 ·have he:rightE l [c,x]=0:=by simpa using he
  obtain ⟨hR,hm⟩:=rightE_zero.1 he
  rw [show decide (rightE l [c,x]=0)=true from decide_eq_true he,Bool.true_and,he,← aboveC_has hR]
  have hal:=aboveC_len hR c
  refine cK (xT (cQ (sM Z (sM Z (st_cl Z Z en146 Z (aboveT_ct hv hR c) ?_)))))
  rintro u h' ⟨T,rfl,hu1,rfl,hu⟩
  simp only [lC,lN]
  refine sM Z (st_clr Z Z en126 Z (Has_ct hu x (by omega)) ?_)
  refine sV (v_build (cells:=[.bool ((above l c).contains x),.int .i64 0]) Z (fun _=>by kernel_rfl)) ?_
  refine st_stoW Z Z sz187 Z Z ?_
  refine sK [6] Z (cT ?_)
  exact xt_retV (.cellN Z ld187 Z slq .nil) ⟨Z,Z⟩ sbr
end
end Go.Hr
namespace Go.Hr
open Go Go.RowKit Go.Ck Go.Proofs Go.Proofs.YtaohbfnepjjdgaaGreat Fx
attribute [local irreducible] Go.Ck.Sub St Cd Xt Nx DrL LsW
theorem rightE_nil (l:Sys):rightE l []=(check l).1:=by
 unfold rightE
 split
 ·rename_i h; rw [h]; rfl
 ·rfl
def touF (l:Sys) (ns:List Nm) (i:Nat):List Nm:=((nms l).take i).filter fun c=>ns.any fun a=>has l c a
theorem nms_take {l:Sys} {i:Nat} (h:i<l.length):(nms l).take (i+1)=(nms l).take i++[(l[i]).name]:=by
 rw [List.take_succ_eq_append_getElem (by simpa [nms] using h)]
 simp [nms]
section
variable {S N:Res} {v nv:Value} {l:Sys} {ns:List Nm}
end
end Go.Hr

namespace Go.Hr
open Go Go.RowKit Go.Ck Go.Proofs Go.Proofs.YtaohbfnepjjdgaaGreat Fx
attribute [local irreducible] Go.Ck.Sub St Cd Xt Nx DrL LsW
def opnT (l:Sys) (o:List Nm) (i:Nat):List Nm:=((nms l).take i).filter (opn l o)
theorem opnT_succ {l:Sys} {o:List Nm} {i:Nat} (h:i<l.length):opnT l o (i+1)=opnT l o i++(if opn l o (l[i]).name then [(l[i]).name] else []):=by
 unfold opnT
 rw [nms_take h,List.filter_append,List.filter_cons]
 rfl
theorem opnT_all (l:Sys) (o:List Nm):opnT l o l.length=(nms l).filter (opn l o):=by
 unfold opnT
 rw [List.take_of_length_le (by simp [nms])]
def Bst (xs:List Nm) (b:Nm):Prop:=(xs=[]∧b=[])∨(b∈xs∧∀ y∈xs,lt y b=false)
theorem Bst.yes {xs : List Nm} {b x : Nm} (h : Bst xs b) (hne : ∀ y ∈ xs, y ≠ []) (hc : (b == [] || lt x b) = true) : Bst (xs ++ [x]) x := by
 refine .inr ⟨by simp,fun y hy=>?_⟩
 rcases List.mem_append.1 hy with hy | hy
 ·rcases h with ⟨h1, _⟩ | ⟨h1, h2⟩
  ·rw [h1] at hy; cases hy
  ·rcases Bool.or_eq_true_iff.1 hc with h3 | h3
   ·exact absurd (by simpa using h3) (hne b h1)
   ·cases h4:lt y x with
    | false=>rfl
    | true=>have:=lt_trans h4 h3; rw [h2 y hy] at this; cases this
 ·simp at hy; rw [hy]; exact lt_irrefl x
theorem Bst.no {xs:List Nm} {b x:Nm} (h:Bst xs b) (hc:(b == [] || lt x b)=false):Bst (xs++[x]) b:=by
 obtain ⟨h3,h4⟩:=Bool.or_eq_false_iff.1 hc
 rcases h with ⟨_,h1⟩ | ⟨h1,h2⟩
 ·rw [h1] at h3; simp at h3
 ·refine .inr ⟨by simp [h1],fun y hy=>?_⟩
  rcases List.mem_append.1 hy with hy | hy
  ·exact h2 y hy
  ·simp at hy; rw [hy]; exact h4
theorem Bst.eq {xs:List Nm} {b:Nm} (h:Bst xs b) (hne:xs≠[]):b=minN xs:=by
 rcases h with ⟨h1,_⟩ | ⟨h1,h2⟩
 ·exact absurd h1 hne
 ·exact (minN_uniq h1 h2).symm
theorem Right.ne {l:Sys} (hR:Right l) {x:Nm} (h:x∈nms l):x≠[]:=by
 obtain ⟨c,hc,rfl⟩:=List.mem_map.1 h
 intro e
 have:=hR.nam c hc
 rw [e] at this
 exact absurd this (by decide)
section
variable {S N A B:Res} {v nv w w':Value} {l:Sys} {ns o ps:List Nm}
set_option maxRecDepth 100000 in
theorem all_ct (ho : nmsR A w o) (hp : nmsR B w' ps) (hol : o.length ≤ 1099511627776) (hpl : ps.length ≤ 1099511627776) : Reads Tryz.prog 145 #[w, w'] [A, B] (.bool (ps.all o.contains)) := by
 obtain ⟨oa,ocap,rfl,_⟩:=id ho
 obtain ⟨pa,pcap,rfl,_⟩:=id hp
 refine ct_of (n:=21) Tryz.func145 Z Z (len Z) fun hr w0=>?_
 refine cQ (sA Z (sN (nT (cS (cQ (sA Z (sN (nT (cB (cd_lq (σ := Nat) (fun i=>[(0,.slice oa o.length ocap),(1,.slice pa ps.length pcap),(5,.int .i64 (i:Nat))]) (fun _=>A::B::hr) (fun i=>i≤ps.length∧∀ x∈ps.take i,o.contains x=true) (fun i=>ps.length - i) 0 ⟨Nat.zero_le _,fun x hx=>by simp at hx⟩ ?_))))))))))
 rintro i ⟨hi,hal⟩
 refine cS (cQ (sM Z (sM Z (sV (v_len Z Tryz.underlying50) (sV (v_lss Z Z) (sK [0,1,5,10] Z (cC Z (fun hd=>?_) (fun hd=>?_))))))))
 ·have hlt:i<ps.length:=by simpa using hd
  obtain ⟨b,o2,cap2,hv2,hrd⟩:=nms_at hp (List.getElem?_eq_getElem hlt)
  refine cK (xT (cS (cB (cQ (sM Z (sM Z (sM Z (sV (vI (k:=i) (congrArg some hv2) Z sl50 Z hlt Z) (sV (vY Z ld9) ?_)))))))))
  refine st_clr Z Z en126 Z (Has_ct ho ps[i] hol) ?_
  refine sA Z (sK [0,1,5,6] Z (cQ (sM Z (sV (v_not Z) (sK [0,1,5,20] Z (cC Z (fun hx=>?_) (fun hx=>?_)))))))
  ·have hx:o.contains ps[i]=false:=by simpa using hx
   rw [show ps.all o.contains=false from List.all_eq_false.2 ⟨_,List.getElem_mem hlt,by rw [hx]; decide⟩]
   refine cQ (sA Z (sK [4] Z (cT (xW (xR (xR (xW (xR ?_))))))))
   exact xt_rt Z ⟨Z,Z⟩ sbq
  ·have hx:o.contains ps[i]=true:=by simpa using hx
   refine cK (xB (xT (cR (sM Z (sV (v_add Z Z (by unfold I64 at *; omega)) (sA Z (sN (nK [0,1,5] Z (nx_xt ?_)))))))))
   refine xt_aq (i+1) ⟨hlt,all_take hlt hal hx⟩ (Nat.sub_lt_sub_left hlt (Nat.lt_succ_self i))
 ·have hil:i=ps.length:=by
   have:¬ i<ps.length:=by simpa using hd
   omega
  subst hil
  rw [List.take_length] at hal
  rw [show ps.all o.contains=true from List.all_eq_true.2 hal]
  refine cd_exit (xE (xE (xY (xT (cQ (sA Z (sK [4] Z (cT ?_))))))))
  exact xt_rt Z ⟨Z,Z⟩ sbq
set_option maxHeartbeats 1000000 in
set_option maxRecDepth 100000 in
theorem OrderS_ct (hv : sysR S v l) (hl : l.length ≤ 1000000) : CtN Tryz.prog 90 #[v] [S] fun u T => ∃ w, u = .agg #[w, .int .i64 (rightE l [])] ∧ w.oneCell' = true ∧ nmsR T w (okL (rightE l []) (order l)) := by
 obtain ⟨a,cap,rfl,_⟩:=id hv
 rw [rightE_nil]
 refine ct_of (n:=75) Tryz.func90 Z Z (len Z) fun hr w0=>?_
 refine cQ (st_alc al123 fun b2=>?_)
 refine sN (nT (cQ (sM Z (st_cl Z Z en47 Z (CheckS_ct hv hl) ?_))))
 rintro u h' ⟨rfl,rfl⟩
 simp only [lC,lN]
 refine st_alc al89 fun b3=>?_
 refine st_stoW Z Z sz89 Z Z ?_
 refine sK [0,2,3] Z (cS (cQ (sV (vF Z fa89_0 Z) (sV (vY Z ld29) ?_))))
 refine sV (v_neq Z Z) (sK [0,2,3,14] Z (cC Z (fun he=>?_) (fun he=>?_)))
 ·have he:¬ (check l).1=0:=by simpa using he
  rw [okL_ne he]
  refine cQ (sV (vF Z fa89_0 Z) (sV (vY Z ld29) ?_))
  refine sV (v_build (cells:=[.slice none 0 0,.int .i64 (check l).1]) Z (fun _=>by kernel_rfl)) ?_
  refine st_stoW Z Z sz123 Z Z ?_
  refine sK [2] Z (cT (xR (xt_vw (vw_unstar (L:=[])) ?_)))
  exact xt_retV (.cellN Z ld123 Z slq .nil) ⟨Res.star [],Z,_,Z,Z,Row.nil⟩ sbr
 ·have he:(check l).1=0:=by simpa using he
  have hR:=check_zero.1 he
  have hFl:=hR.len
  rw [he,okL_eq rfl]
  refine cK (xT (cQ (sA Z (sK [0,2,4] Z (cS (cQ (sA Z (sN (nT (cB (cd_vw (vw_nil 9 1) (cd_lq (σ := Value×Nat) (fun q=>[(0,.slice a l.length cap),(2,.pointer (some ⟨b2,0,none⟩)),(4,q.1),(5,.int .i64 (q.2:Nat))]) (fun q=>NR q.1 (ordN l q.2)::pt b2 (cl [.slice none 0 0,.int .i64 0] 123)::S::hr) (fun q=>q.1.oneCell'=true∧q.2≤l.length) (fun q=>l.length - q.2) (.slice none 0 0,0) ⟨Z,Nat.zero_le _⟩ ?_))))))))))))
  rintro ⟨w,i⟩ ⟨hw,hi⟩
  simp only at hw hi
  dsimp only
  refine cS (cQ (sM Z (sM Z (sV (v_len Z Tryz.underlying22) (sV (v_lss Z Z) (sK [0,2,4,5,21] Z (cC Z (fun hd=>?_) (fun hd=>?_))))))))
  ·have hlt:i<l.length:=by simpa using hd
   have hsome:=ordN_some hR.acyc hR.uniq hlt
   have hlen:=ordN_len l i
   have hsu:ordN l (i+1)=ordN l i++[minN ((nms l).filter (opn l (ordN l i)))]:=rfl
   generalize ordN l i=o at *
   refine cd_ok (r:=NR w o) slq fun hok=>?_
   have hno:=nms_own hok
   refine cK (xT (cS (cB (cQ (sA Z (sK [0,2,4,5,6] Z (cS (cQ (sA Z (sN (nT (cB ?_))))))))))))
   refine cd_lq (σ := Nm×Nat) (fun q=>[(0,.slice a l.length cap),(2,.pointer (some ⟨b2,0,none⟩)),(4,w),(5,.int .i64 (i:Nat)),(6,sv q.1),(7,.int .i64 (q.2:Nat))]) (fun _=>NR w o::pt b2 (cl [.slice none 0 0,.int .i64 0] 123)::S::hr) (fun q=>q.2≤l.length∧Bst (opnT l o q.2) q.1) (fun q=>l.length - q.2) ([],0) ⟨Nat.zero_le _,.inl ⟨by simp [opnT],Z⟩⟩ ?_
   rintro ⟨bn,k⟩ ⟨hk,hb⟩
   simp only at hk hb
   dsimp only
   refine cS (cQ (sM Z (sM Z (sV (v_len Z Tryz.underlying22) (sV (v_lss Z Z) (sK [0,2,4,5,6,7,27] Z (cC Z (fun hd2=>?_) (fun hd2=>?_))))))))
   ·have hklt:k<l.length:=by simpa using hd2
    obtain ⟨b,o3,cap2,d,f,pa,pc,c2,fa,fc,j2,hv2,hrd,hP,hone⟩:=sys_at hv (List.getElem?_eq_getElem hklt)
    have hsu2:=opnT_succ (o:=o) hklt
    have hne:∀ y∈opnT l o k,y≠[]:=fun y hy=>hR.ne (List.mem_of_mem_take (List.mem_filter.1 hy).1)
    generalize hcn:(l[k]).name=c at *
    have hpf:=hR.par_few c
    have hop:opn l o c=((!o.contains c) && (par l c).all o.contains):=rfl
    refine cK (xT (cS (cB (cQ (sM Z (sM Z (sM Z (sV (vI (k:=k) (congrArg some hv2) Z sl22 Z hklt Z) (sV (vF Z fa54_0 Z) (sV (vY Z ld9) ?_))))))))))
    refine st_clr Z Z en126 Z (Has_ct hno c (by omega)) ?_
    refine sA Z (sK [0,2,4,5,6,7,8] Z (cQ (sM Z (sM Z (sM Z (sM Z (sV (vI (k:=k) (congrArg some hv2) Z sl22 Z hklt Z) (sV (vF Z fa54_0 Z) (sV (vY Z ld9) ?_)))))))))
    refine st_cl Z Z en127 Z (parents_ct hv c (by omega) hR.sel) ?_
    rintro u h' ⟨T,rfl,hu1,rfl,hpn⟩
    simp only [lC,lN]
    rw [hR.pars_eq] at *
    refine st_clr Z Z en145 Z (all_ct hno hpn (by omega) (by omega)) ?_
    refine sA Z (sK [0,2,4,5,6,7,8,9] Z (cQ (sM Z (sV (v_not Z) (sM Z (st_cut (k:=5) (d:=50) (v:=.bool ((!o.contains c) && (par l c).all o.contains)) (fun hcut=>bool_want (b:=(!o.contains c)) true (fun hg=>?_) (fun hg=>?_)) ?_))))))
    ·refine st_sk Z Z hg ?_
     refine sV (vP (bO Z hg) Z) ?_
     exact hcut _ uG
    ·refine sG Z (bG Z hg) (vM Z) (sV (vQ (bO Z hg) Z) ?_)
     exact hcut _ uG
    rw [← hop]
    refine sM Z (st_cut (k:=18) (d:=63) (v:=.bool (opn l o c && (bn == [] || lt c bn))) (fun hcut=>bool_want (b:=(opn l o c)) true (fun hg=>?_) (fun hg=>?_)) ?_)
    ·refine st_sk Z Z hg ?_
     iterate 2 refine st_sk rfl rfl hg ?_
     refine st_sku Z Z ?_
     refine st_sku Z Z ?_
     refine st_sku Z Z ?_
     refine st_sku Z Z ?_
     refine st_sku Z Z ?_
     refine st_sku Z Z ?_
     refine st_sku Z Z ?_
     refine st_sk Z Z hg ?_
     refine sV (vP (bO Z hg) Z) ?_
     exact hcut _ uG
    ·refine sG Z (bG Z hg) (vM Z) (sG Z (bG Z hg) (v_seql Z Z) (sG Z (bG Z hg) (vM Z) (st_cut (k:=17) (d:=62) (v:=.bool (bn == [] || lt c bn)) (fun hcut=>bool_want (b:=(bn == [])) false (fun hg1=>?_) (fun hg1=>?_)) ?_)))
     ·refine st_sk Z Z hg1 ?_
      iterate 6 refine st_sk rfl rfl hg1 ?_
      refine sG Z (bG Z hg) (vQ (bO Z hg1) Z) ?_
      exact hcut _ (uH (by first | rfl | (rw [hg1]; rfl) | simp_all) (uS Z (uS Z (uS Z (uS Z (uS Z (uS Z (uS Z (uR)))))))))
     ·refine sG Z (bG Z hg1) (vM Z) (sG Z (bG Z hg1) (vM Z) (sG Z (bG Z hg1) (vI (k:=k) (congrArg some hv2) Z sl22 Z hklt Z) (sG Z (bG Z hg1) (vF Z fa54_0 Z) (sG Z (bG Z hg1) (vY Z ld9) ?_))))
      refine sG Z (bG Z hg1) (vM Z) (sG Z (bG Z hg1) (v_slss Z Z) (sG Z (bG Z hg) (vP (bO Z hg1) Z) ?_))
      exact hcut _ (uH (by first | rfl | (rw [hg1]; rfl) | simp_all) (uS Z (uS Z (uS Z (uS Z (uS Z (uS Z (uS Z (uR)))))))))
     refine sV (vQ (bO Z hg) Z) ?_
     exact hcut _ (uH (by first | rfl | (rw [hg]; rfl) | simp_all) (by repeat (first | exact uR | refine uS Z ?_)))
    refine sK [0,2,4,5,6,7,63] Z (cC Z (fun hc=>?_) (fun hc=>?_))
    ·obtain ⟨hc1,hc2⟩:=Bool.and_eq_true_iff.1 hc
     rw [if_pos hc1] at hsu2
     refine cR (sM Z (sM Z (sV (vI (k:=k) (congrArg some hv2) Z sl22 Z hklt Z) (sV (vF Z fa54_0 Z) (sV (vY Z ld9) ?_)))))
     refine sA Z (sN (nK [0,2,4,5,6,7] Z (nx_xt (xB (xT (cR (sM Z (sV (v_add Z Z (by unfold I64 at *; omega)) (sA Z (sN (nK [0,2,4,5,6,7] Z (nx_xt ?_))))))))))))
     refine xt_aq (c,k+1) ⟨hklt,by show Bst (opnT l o (k+1)) c; rw [hsu2]; exact hb.yes hne hc2⟩ (Nat.sub_lt_sub_left hklt (Nat.lt_succ_self k))
    ·have hb2:Bst (opnT l o (k+1)) bn:=by
      rw [hsu2]
      cases ho:opn l o c with
      | false=>rw [if_neg (by decide),List.append_nil]; exact hb
      | true =>
       rw [ho,Bool.true_and] at hc
       rw [if_pos rfl]; exact hb.no hc
     refine cK (xB (xT (cR (sM Z (sV (v_add Z Z (by unfold I64 at *; omega)) (sA Z (sN (nK [0,2,4,5,6,7] Z (nx_xt ?_)))))))))
     refine xt_aq (bn,k+1) ⟨hklt,hb2⟩ (Nat.sub_lt_sub_left hklt (Nat.lt_succ_self k))
   ·have hke:k=l.length:=by
     have:¬ k<l.length:=by simpa using hd2
     omega
    subst hke
    rw [opnT_all] at hb
    have hbe:=hb.eq hsome
    rw [← hbe] at hsu
    refine cd_exit (xE (xE (xY (xT (cR (sM Z (sM Z (st_buildSlice (cells:=[sv bn]) Z Tryz.underlying50 inf9 Z Z (by kernel_rfl) (ltn Z) fun b71=>?_))))))))
    refine st_app [nC bn] Z Z Tryz.underlying50 inf9 Z (by decide) (show Sel _ (NR w o) _ from slq) (by simp [nC]) Z (fun j u2 hu2=>at_here (rd_cl (by simpa [nC] using hu2))) (by simp [nC,Value.oneCell']) (by simp; omega) (by simp; omega) (ltn Z) fun v' hv' _=>?_
    rw [show o.map nC++[nC bn]=(ordN l (i+1)).map nC by rw [hsu,List.map_append]; rfl]
    refine sA Z (sN (nK [0,2,4,5] Z (nx_xt (xB (xT (cR (sM Z (sV (v_add Z Z (by unfold I64 at *; omega)) (sA Z (sN (nK [0,2,4,5] Z (nx_xt ?_))))))))))))
    refine xt_aq (v',i+1) ⟨hv',hlt⟩ (Nat.sub_lt_sub_left hlt (Nat.lt_succ_self i))
  ·have hil:i=l.length:=by
    have:¬ i<l.length:=by simpa using hd
    omega
   subst hil
   rw [show ordN l l.length=order l from rfl]
   refine cd_ok (r:=NR w (order l)) slq fun hok=>?_
   have hkl:=nms_own hok
   obtain ⟨wa,wcap,rfl,_⟩:=id hkl
   refine cd_exit (xE (xE (xY (xT (cQ (sM Z (sV (v_build (cells:=[.slice wa (order l).length wcap,.int .i64 0]) Z (fun _=>by kernel_rfl)) ?_)))))))
   refine st_stoW Z Z sz123 Z Z ?_
   refine sK [2] Z (cT ?_)
   exact xt_retV (.cellN Z ld123 Z slq .nil) ⟨_,Z,_,Z,Z,hkl⟩ sbr
end
end Go.Hr
namespace Go.Ck
open Go Go.RowKit Go.ChangeShapes Go.WideShapes
theorem cells_one {v:Value} (h:v.oneCell'=true):v.cells.toList=[v]:=by
 cases v <;> first | rfl | (simp [Value.oneCell'] at h)
end Go.Ck
namespace Go.Hr
open Go Go.RowKit Go.ChangeShapes Go.WideShapes Go.Ck
def partL:List TypeId:=[3,4,9,25,59,62,185,186,188,189,191,192,194,196,198,201,203]
def parTy:Ty:=.struct [.str,.slice (.any 5 partL),.slice (.any 2 partL),.slice .str,.slice .str,.slice .str]
def clsTy:Ty:=.struct [.str,.bool,.slice (.any 2 partL),.slice parTy,.slice .str,.slice (.any 15 partL),.slice (.any 5 partL)]
def nmOf (s:ByteArray):Nm:=s.data.toList
def parOf (x:parTy.D):Nm:=nmOf (show ByteArray from x.1)
def clsOf (x:clsTy.D):Cls:=⟨nmOf (show ByteArray from x.1),(show List parTy.D from x.2.2.2.1).map parOf,(show List Unit from x.2.2.2.2.2.1).length⟩
def sysOf (y:(Ty.slice clsTy).D):Sys:=(show List clsTy.D from y).map clsOf
def nmsOf (y:(Ty.slice .str).D):List Nm:=(show List ByteArray from y).map nmOf
end Go.Hr
namespace Go.Ck
open Go Go.RowKit Go.ChangeShapes Go.WideShapes
section
variable {H:Type}
theorem weights_mem_all {P:Program} {e:TypeId}:∀ {ds:List (DataW H)} {d:DataW H},d∈ds→∀ n∈d.weights P e,n∈DataW.weightsAll P e ds
 | d0::ds,d,hd,n,hn=>by
  simp only [DataW.weightsAll,List.mem_append]
  rcases List.mem_cons.1 hd with rfl | hd
  ·exact .inl hn
  ·exact .inr (weights_mem_all hd n hn)
variable (enc:TypeId×Value→H) (P:Program) (W:World)
def Gd (n:Nat) (t:TypeId) (cs:List Value):Prop:=∃ x,DataW.trod enc P W 0 (fun _=>true) true n t cs=some x∧∀ m∈x.1.weights P t,m≤reachBytes
variable {enc P W}
theorem Gd.slice {n : Nat} {t e : TypeId} {cs : List Value} (h : Gd enc P W n t cs) (hu : P.underlying t = some (.slice e)) (hsz : 0 < P.cellsOf e) :
  cs=[.slice none 0 0]∨∃ a len cap m,n=m+1∧cs=[.slice (some a) len cap]∧len≤cap∧cap≤maxLen∧len * P.bytesOf e≤reachBytes ∧
   ∀ i,i<len→∃ b o us,a=⟨b,o,none⟩∧us.length=P.cellsOf e∧Rds (old W) b (o+i * P.cellsOf e) us∧Gd enc P W m e us:=by
 obtain ⟨x,h,hz⟩:=h
 rcases DataW.trod_slice hu h with ⟨h0,_⟩ | ⟨a,len,cap,elems,rest,m,hn,h1,hx,_,hl,hc,hlen,hel,_⟩
 ·exact .inl h0
 ·refine .inr ⟨a, len, cap, m, hn, h1, hl, hc, ?_, fun i hi => ?_⟩
  ·have:=hz ((elems.length+rest.length) * P.bytesOf e) (by rw [hx]; simp [DataW.weights,hu])
   rw [hlen] at this
   exact Nat.le_trans (Nat.mul_le_mul_right _ (Nat.le_add_right _ _)) this
  ·have h2:=hel i hi
   rw [List.getElem?_eq_getElem (by omega),Option.bind_eq_some_iff] at h2
   obtain ⟨us,h3,h4⟩:=h2
   obtain ⟨h5,h6⟩:=cells?_at h3
   have hspot:a.spot=none:=by
    have g2:=hel 0 (by omega)
    rw [List.getElem?_eq_getElem (by omega),Option.bind_eq_some_iff] at g2
    obtain ⟨us0,g3,_⟩:=g2
    obtain ⟨g5,g6⟩:=cells?_at g3
    have:=g6 0 (by omega)
    simp only [Nat.zero_mul,Addr.add,if_true] at this
    exact (cell_spot this).1
   obtain ⟨ab,ao,asp⟩:=a
   simp only at hspot
   subst hspot
   refine ⟨ab,ao,us,Z,h5,fun j hj=>?_,elems[i]'(by omega),h4,fun k hk=>hz k ?_⟩
   ·have:=h6 j hj
    rw [Addr.add_lit,Addr.add_lit] at this
    exact rd_old (cell_spot this).2 this
   ·rw [hx]
    simp only [DataW.weights,hu]
    exact List.mem_cons_of_mem _ (List.mem_append_left _ (weights_mem_all (List.mem_map.2 ⟨_,List.getElem_mem (by omega),Z⟩) _ hk))
theorem Gd.struct {n:Nat} {t:TypeId} {fs:Array Field} {cs:List Value} (h:Gd enc P W n t cs) (hu:P.underlying t=some (.struct fs)) :
  ∃ m,n=m+1∧cs.length=P.cellsOf t∧∀ (i:Nat) (f:Field),fs[i]? = some f→Gd enc P W m f.type ((cs.drop f.offset).take (P.cellsOf f.type)):=by
 obtain ⟨x,h,hz⟩:=h
 obtain ⟨xs,m,hn,hx,hcl,hxl,hfe⟩:=DataW.trod_struct hu h
 refine ⟨m,hn,hcl,fun i f hf=>?_⟩
 have h1:=hfe i f hf
 have hlt:i<xs.length:=by rw [hxl]; exact (Array.getElem?_eq_some_iff.1 hf).1
 rw [List.getElem?_eq_getElem hlt] at h1
 refine ⟨xs[i],h1,fun k hk=>hz k ?_⟩
 rw [hx]
 simp only [DataW.weights,hu]
 exact DataW.weights_mem_each (j:=i) (by rw [List.getElem?_map]; simp [hf]) (by rw [List.getElem?_map,List.getElem?_eq_getElem hlt]; rfl) _ hk
end
end Go.Ck
namespace Go.Ck
open Go Go.RowKit
section
variable {c:Cx} {ops:Array Oper} {K:Act→World→Prop} {rest:List Oper} {e:Env} {h:SH}
theorem flat_len {sz:Nat}:∀ {rows:List (List Value)},(∀ r∈rows,r.length=sz)→rows.flatten.length=rows.length * sz
 | [],_=>by simp
 | r::t,h=>by
  rw [List.flatten_cons,List.length_append,h r (by simp),flat_len (rows:=t) fun q hq=>h q (by simp [hq]),List.length_cons,Nat.succ_mul]; omega
theorem splice_rows {sz:Nat} {vs:List Value} (hv:vs.length=sz):∀ {rows:List (List Value)} {m:Nat},(∀ r∈rows,r.length=sz)→m<rows.length→splice rows.flatten (m * sz) vs=(rows.set m vs).flatten
 | [],m,_,hm=>by simp at hm
 | r::t,0,h,_=>by
  have hr:=h r (by simp)
  simp [splice,hv,← hr]
 | r::t,m+1,h,hm=>by
  have hr:=h r (by simp)
  have ih:=splice_rows hv (rows:=t) (m:=m) (fun q hq=>h q (by simp [hq])) (by simpa using hm)
  have ht:=flat_len (sz:=sz) (rows:=t) fun q hq=>h q (by simp [hq])
  rw [List.set_cons_succ,List.flatten_cons,List.flatten_cons,← ih]
  unfold splice
  rw [Nat.succ_mul,show m * sz+sz=r.length+m * sz by omega]
  rw [List.take_length_add_append,show r.length+m * sz+vs.length=r.length+(m * sz+vs.length) by omega,List.drop_length_add_append]
  simp
end
end Go.Ck
namespace Go.Hr
open Go Go.RowKit Go.Ck
def tyC (t:Kt) (x:Value):List Value:=[.int .i64 t.kind,sv t.name,x,.bool t.void,.bool t.sep]
def tyR (S:Res):Nat→List Value→Kt→Prop
 | 0,_,_=>False
 | n+1,us,t=>∃ x,us=tyC t x∧Row S 5 (tyR S n) x t.args∧t.args.length * 56≤reachBytes
section
variable {S T:Res}
theorem tyR.mono (hr:∀ p u,Rd S p u→Rd T p u):∀ {n:Nat} {us:List Value} {t:Kt},tyR S n us t→tyR T n us t
 | 0,_,_,h=>h.elim
 | n+1,us,t,⟨x,h1,h2,h3⟩=>⟨x,h1,h2.mono hr fun _ _ _ h=>tyR.mono hr h,h3⟩
theorem tyR.le:∀ {n m:Nat} {us:List Value} {t:Kt},tyR S n us t→n≤m→tyR S m us t
 | 0,_,_,_,h,_=>h.elim
 | n+1,0,_,_,_,h=>by omega
 | n+1,m+1,us,t,⟨x,h1,h2,h3⟩,h=>⟨x,h1,h2.mono (fun _ _ h=>h) fun _ _ _ g=>tyR.le g (by omega),h3⟩
theorem tyR.depth:∀ {n:Nat} {us:List Value} {t:Kt},tyR S n us t→tyR S t.depth us t
 | 0,_,_,h=>h.elim
 | n+1,us,.mk k nm az v s,⟨x,h1,h2,h3⟩=>⟨x,h1,h2.mono (fun _ _ h=>h) fun us' a ha g=>(tyR.depth g).le (depths_mem ha),h3⟩
def Ty (S:Res) (us:List Value) (t:Kt):Prop:=tyR S t.depth us t
def Tys (S:Res) (v:Value) (ts:List Kt):Prop:=Row S 5 (Ty S) v ts∧ts.length * 56≤reachBytes
theorem Ty.of {us:List Value} {t:Kt} {x:Value} (h1:us=tyC t x) (h2:Tys S x t.args):Ty S us t:=by
 obtain ⟨k,nm,az,v,s⟩:=t
 exact ⟨x,h1,h2.1.mono (fun _ _ h=>h) fun us' a ha g=>tyR.le g (depths_mem ha),h2.2⟩
theorem Ty.out {us:List Value} {t:Kt} (h:Ty S us t):∃ x,us=tyC t x∧Tys S x t.args:=by
 obtain ⟨k,nm,az,v,s⟩:=t
 obtain ⟨x,h1,h2,h3⟩:=h
 exact ⟨x,h1,h2.mono (fun _ _ h=>h) fun us' a ha g=>tyR.depth g,h3⟩
theorem Ty.mono (hr:∀ p u,Rd S p u→Rd T p u) {us:List Value} {t:Kt} (h:Ty S us t):Ty T us t:=tyR.mono hr h
theorem Tys.mono (hr:∀ p u,Rd S p u→Rd T p u) {v:Value} {ts:List Kt} (h:Tys S v ts):Tys T v ts:=⟨h.1.mono hr fun _ _ _ g=>Ty.mono hr g,h.2⟩
theorem Tys.nil:Tys S (.slice none 0 0) []:=⟨Row.nil,by simp⟩
theorem Ty.len {us:List Value} {t:Kt} (h:Ty S us t):us.length=5:=by obtain ⟨x,rfl,_⟩:=h.out; rfl
theorem Tys.one {v:Value} {ts:List Kt} (h:Tys S v ts):v.oneCell'=true:=h.1.one
theorem Ty.ones {us:List Value} {t:Kt} (h:Ty S us t):us.all Value.oneCell'=true:=by
 obtain ⟨x,rfl,h2⟩:=h.out
 simp only [tyC,List.all_cons,List.all_nil,h2.one,Bool.and_true,Bool.true_and]; rfl
theorem Tys.at {v:Value} {ts:List Kt} (h:Tys S v ts) {i:Nat} {t:Kt} (hi:ts[i]? = some t):∃ b o cap us,v = .slice (some ⟨b,o,none⟩) ts.length cap∧us.length=5∧Rds S b (o+i * 5) us∧Ty S us t:=h.1.at hi
theorem Tys.form {v:Value} {ts:List Kt} (h:Tys S v ts):∃ a cap,v = .slice a ts.length cap∧ts.length≤cap∧cap≤maxLen∧(a=none→cap=0):=by
 obtain ⟨a,cap,h1,h2,h3,h4,_⟩:=h.1
 exact ⟨a,cap,h1,h2,h3,h4⟩
theorem Tys.small {v:Value} {ts:List Kt} (h:Tys S v ts):ts.length≤2513169438021:=by
 have:=h.2
 have hr:reachBytes=140737488351232:=rfl
 omega
def fmC (us:List Value) (f:Fm):Prop:=us=[sv f.name,sv f.bound]
def kparC (S:Res) (us:List Value) (p:Kp):Prop:=∃ x a b c d,us=[sv p.name,x,a,b,c,d]∧[sv p.name,x,a,b,c,d].all Value.oneCell'=true∧Tys S x p.args
def kclsC (S:Res) (us:List Value) (x:KC):Prop:=∃ d f pv c fa fc i,us=[sv x.name,d,f,pv,c,.slice fa x.feats fc,i]∧[sv x.name,d,f,pv,c,.slice fa x.feats fc,i].all Value.oneCell'=true∧Row S 2 fmC f x.formals∧Row S 6 (kparC S) pv x.parents
def ksysR (S:Res) (v:Value) (l:KS):Prop:=Row S 7 (kclsC S) v l
theorem kparC.mono (hr:∀ p u,Rd S p u→Rd T p u) {us:List Value} {p:Kp} (h:kparC S us p):kparC T us p:=by
 obtain ⟨x,a,b,c,d,h1,h2,h3⟩:=h
 exact ⟨x,a,b,c,d,h1,h2,h3.mono hr⟩
theorem kclsC.mono (hr:∀ p u,Rd S p u→Rd T p u) {us:List Value} {x:KC} (h:kclsC S us x):kclsC T us x:=by
 obtain ⟨d,f,pv,c,fa,fc,i,h1,h2,h3,h4⟩:=h
 exact ⟨d,f,pv,c,fa,fc,i,h1,h2,h3.mono hr fun _ _ _ h=>h,h4.mono hr fun _ _ _ h=>kparC.mono hr h⟩
theorem ksysR.mono (hr:∀ p u,Rd S p u→Rd T p u) {v:Value} {l:KS} (h:ksysR S v l):ksysR T v l:=Row.mono h hr fun _ _ _ h=>kclsC.mono hr h
theorem row_map {α β : Type} {sz:Nat} {X:List Value → α → Prop} {Y:List Value → β → Prop} {g : α → β} {v:Value} {l:List α} (h:Row S sz X v l) (hx:∀ us x,X us x→Y us (g x)):Row S sz Y v (l.map g):=by
 obtain ⟨a,cap,h1,h2,h3,h4,h5⟩:=h
 refine ⟨a,cap,by rw [h1,List.length_map],by rw [List.length_map]; exact h2,h3,h4,fun i y hi=>?_⟩
 rw [List.getElem?_map] at hi
 obtain ⟨x,hx1,rfl⟩:=Option.map_eq_some_iff.1 hi
 obtain ⟨b,o,us,g1,g2,g3,g4⟩:=h5 i x hx1
 exact ⟨b,o,us,g1,g2,g3,hx _ _ g4⟩
theorem kpar_par {us:List Value} {p:Kp} (h:kparC S us p):parC us p.name:=by
 obtain ⟨x,a,b,c,d,h1,h2,_⟩:=h
 exact ⟨x,a,b,c,d,h1,h2⟩
theorem kcls_cls {us:List Value} {x:KC} (h:kclsC S us x):clsC S us x.cls:=by
 obtain ⟨d,f,pv,c,fa,fc,i,h1,h2,h3,h4⟩:=h
 exact ⟨d,f,pv,c,fa,fc,i,h1,h2,row_map h4 fun _ _ h=>kpar_par h⟩
theorem ksysR.sys {v:Value} {l:KS} (h:ksysR S v l):sysR S v (ksys l):=row_map h fun _ _ h=>kcls_cls h
end
end Go.Hr
namespace Go.Hr
open Go Go.RowKit Go.Ck Go.Proofs Go.Proofs.YtaohbfnepjjdgaaGreat Fx
attribute [local irreducible] Go.Ck.Sub St Cd Xt Nx DrL LsW
section
variable {S T:Res} {v v':Value} {az bz:List Kt} {us us':List Value} {s t:Kt}
theorem same_unfold:s.same t=((((s.kind == t.kind && s.name == t.name) && s.void == t.void) && s.sep == t.sep) && sames s.args t.args):=by
 obtain ⟨k,n,az,w,p⟩:=s
 obtain ⟨k',n',az',w',p'⟩:=t
 rw [Kt.same]; rfl
theorem sames_false {i:Nat} {a b:Kt} (h1:az[i]? = some a) (h2:bz[i]? = some b) (h:a.same b=false):sames az bz=false:=by
 cases hs:sames az bz with
 | false=>rfl
 | true =>
  rw [(sames_iff az bz).1 hs,h2] at h1
  cases h1
  rw [(same_iff a a).2 rfl] at h; cases h
theorem take_snoc_eq {i:Nat} (h:az.take i=bz.take i) {a b:Kt} (h1:az[i]? = some a) (h2:bz[i]? = some b) (hs:a.same b=true):az.take (i+1)=bz.take (i+1):=by
 obtain rfl:=(same_iff a b).1 hs
 obtain ⟨g1,rfl⟩:=List.getElem?_eq_some_iff.1 h1
 obtain ⟨g2,g3⟩:=List.getElem?_eq_some_iff.1 h2
 rw [List.take_succ_eq_append_getElem g1,List.take_succ_eq_append_getElem g2,h,g3]
set_option maxRecDepth 100000 in
theorem EqualF_ct {kf : FuncId} (hE : Ck.Enters Tryz.prog kf) (hv : Tys S v az) (hv' : Tys S v' bz) (hF : ∀ (a b : Kt) us us', a ∈ az → Ty S us a → Ty S us' b → Reads Tryz.prog kf #[.agg us.toArray, .agg us'.toArray] [S] (.bool (a.same b))) : Reads Tryz.prog 53 #[v, v', .func (.func kf) #[] #[]] [S] (.bool (sames az bz)) := by
 have hml:maxLen=9223372036854775807:=rfl
 obtain ⟨a,cap,rfl,hlc,hcm,hnone⟩:=hv.form
 obtain ⟨a',cap',rfl,hlc',hcm',hnone'⟩:=hv'.form
 refine ct_of (n:=32) Tryz.func53 Z Z (len Z) fun hr w0=>?_
 refine cQ (sA Z (sN (nT (cS (cQ (sM Z (sV (v_len Z Tryz.underlying23) (sM Z (sV (v_len Z Tryz.underlying23) (sV (v_neq Z Z) (sK [0,1,2,6,14] Z (cC Z (fun hl=>?_) (fun hl=>?_)))))))))))))
 ·have hl:¬ az.length=bz.length:=by
   have:¬ (az.length:Int)=bz.length:=by simpa using hl
   omega
  rw [show sames az bz=false by
   cases h:sames az bz with
   | false=>rfl
   | true=>rw [(sames_iff az bz).1 h] at hl; exact absurd rfl hl]
  refine cQ (sA Z (sK [6] Z (cT (xR ?_))))
  exact xt_rt Z ⟨Z,Z⟩ sbq
 ·have hl:az.length=bz.length:=by
   have:(az.length:Int)=bz.length:=by simpa using hl
   omega
  refine cK (xT (cS (cQ (sM Z (sV (v_len Z Tryz.underlying23) (sM Z (sK [1,2,6,15,16,17] Z (cB (cd_lq (σ := Nat) (fun i=>[(1,.slice a' bz.length cap'),(2,.func (.func kf) #[] #[]),(15,.slice a az.length cap),(16,.int .i64 az.length),(17,.int .i64 (i:Nat))]) (fun _=>S::hr) (fun i=>i≤az.length∧az.take i=bz.take i) (fun i=>az.length - i) 0 ⟨Nat.zero_le _,Z⟩ ?_)))))))))
  rintro i ⟨hi,hal⟩
  refine cQ (sV (v_lss Z Z) (sN (nT (cS (cC Z (fun hd=>?_) (fun hd=>?_))))))
  ·have hlt:i<az.length:=by simpa using hd
   have hlt':i<bz.length:=by omega
   have hg:=List.getElem?_eq_getElem hlt
   have hg':=List.getElem?_eq_getElem hlt'
   have hmem:=List.getElem_mem hlt
   obtain ⟨b,o,cap2,us,e1,hus,hrd,ht⟩:=hv.at hg
   cases e1
   obtain ⟨b',o',cap2',us',e1,hus',hrd',ht'⟩:=hv'.at hg'
   cases e1
   generalize az[i]=x at hg hmem ht
   generalize bz[i]=y at hg' ht'
   have hone:=ht.ones
   have hone':=ht'.ones
   refine cK (xT (cS (cB (cQ (sM Z (sV (vI (k:=i) Z Z sl23 Z hlt Z) (sV (v_ldn Z ld25 hus hrd) ?_)))))))
   refine st_alc al25 fun b8=>?_
   refine sA Z (st_stoW (hl:=by rw [hus]; rfl) Z Z sz25 hus hone ?_)
   refine sK [1,2,7,8,15,16,17] Z (cQ (sM Z (sM Z (sV (vI (k:=i) Z Z sl23 Z hlt' Z) (sV (v_ldn Z ld25 hus' hrd') ?_)))))
   refine st_alc al25 fun b9=>?_
   refine st_stoW (hl:=by rw [hus']; rfl) Z Z sz25 hus' hone' ?_
   refine sK [1,2,8,9,15,16,17] Z (cQ (sM Z (sV (v_ldn Z ld25 hus rds_pt) ?_)))
   refine sV (v_ldn Z ld25 hus' rds_pt) ?_
   refine st_clr Z Z hE Z ((hF x y us us' hmem ht ht')) ?_
   refine sV (v_not Z) (sK [1,2,15,16,17,30] Z (cC Z (fun hne=>?_) (fun hne=>?_)))
   ·have hne:x.same y=false:=by simpa using hne
    rw [sames_false hg hg' hne]
    refine cQ (sA Z (sK [6] Z (cT (xW (xR (xR (xW (xR ?_))))))))
    exact xt_rt Z ⟨Z,Z⟩ sbq
   ·have hne:x.same y=true:=by simpa using hne
    refine cK (xB (xT (cR (sV (v_add Z Z (by unfold I64 at *; omega)) (sM Z (sN (nK [1,2,15,16,17] Z (nx_xt ?_))))))))
    refine xt_aq (i+1) ⟨hlt,take_snoc_eq hal hg hg' hne⟩ (Nat.sub_lt_sub_left hlt (Nat.lt_succ_self i))
  ·have hil:i=az.length:=by
    have:¬ i<az.length:=by simpa using hd
    omega
   rw [show sames az bz=true from (sames_iff az bz).2 (by
    have:=hal
    rw [hil,List.take_length,hl,List.take_length] at this
    exact this)]
   refine cd_exit (xE (xE (xY (xT (cQ (sA Z (sK [6] Z (cT ?_))))))))
   exact xt_rt Z ⟨Z,Z⟩ sbq
set_option maxRecDepth 100000 in
theorem Same_ct : ∀ (d : Nat) (s t : Kt) (us us' : List Value), s.depth ≤ d → Ty S us s → Ty S us' t → Reads Tryz.prog 15 #[.agg us.toArray, .agg us'.toArray] [S] (.bool (s.same t))
 | 0,s,_,_,_,hd,_,_=>by cases s; simp [Kt.depth] at hd
 | d+1,s,t,us,us',hd,hs,ht=>by
  obtain ⟨x,rfl,hx⟩:=hs.out
  obtain ⟨y,rfl,hy⟩:=ht.out
  have hF:∀ (a b:Kt) us us',a∈s.args→Ty S us a→Ty S us' b→Reads Tryz.prog 15 #[.agg us.toArray,.agg us'.toArray] [S] (.bool (a.same b)):=fun a b us us' ha h1 h2=>Same_ct d a b us us' (by have:=depth_args ha; omega) h1 h2
  rw [same_unfold]
  obtain ⟨xa,xc,rfl,_⟩:=hx.form
  obtain ⟨ya,yc,rfl,_⟩:=hy.form
  unfold tyC
  refine ct_of (n:=38) Tryz.func15 Z Z (len Z) fun hr w0=>?_
  refine cQ (st_bx Z Z fun b2=>?_)
  refine st_bx Z Z fun b3=>?_
  refine sA Z (sK [2,3,4] Z (cQ (sV (vF Z fa25_0 Z) (sV (vY Z ld3) ?_))))
  refine sV (vF Z fa25_0 Z) (sV (vY Z ld3) ?_)
  refine sV (v_eql Z Z) (sM Z (st_cut (k:=12) (d:=16) (v:=.bool (s.kind == t.kind && s.name == t.name)) (fun hcut=>bool_want (b:=(s.kind == t.kind)) true (fun hg=>?_) (fun hg=>?_)) ?_))
  ·refine st_sk Z Z hg ?_
   iterate 4 refine st_sk rfl rfl hg ?_
   refine sV (vP (bO Z hg) Z) ?_
   exact hcut _ uG
  ·refine sG Z (bG Z hg) (vF Z fa25_1 Z) (sG Z (bG Z hg) (vY Z ld9) ?_)
   refine sG Z (bG Z hg) (vF Z fa25_1 Z) (sG Z (bG Z hg) (vY Z ld9) ?_)
   refine sG Z (bG Z hg) (v_seql Z Z) (sV (vQ (bO Z hg) Z) ?_)
   exact hcut _ uG
  refine sM Z (st_cut (k:=19) (d:=23) (v:=.bool ((s.kind == t.kind && s.name == t.name) && s.void == t.void)) (fun hcut=>bool_want (b:=(s.kind == t.kind && s.name == t.name)) true (fun hg=>?_) (fun hg=>?_)) ?_)
  ·refine st_sk Z Z hg ?_
   iterate 4 refine st_sk rfl rfl hg ?_
   refine sV (vP (bO Z hg) Z) ?_
   exact hcut _ uG
  ·refine sG Z (bG Z hg) (vF Z fa25_3 Z) (sG Z (bG Z hg) (vY Z ld4) ?_)
   refine sG Z (bG Z hg) (vF Z fa25_3 Z) (sG Z (bG Z hg) (vY Z ld4) ?_)
   refine sG Z (bG Z hg) (v_eql_bool Tryz.underlying4 Z Z) (sV (vQ (bO Z hg) Z) ?_)
   exact hcut _ uG
  refine sM Z (st_cut (k:=26) (d:=30) (v:=.bool (((s.kind == t.kind && s.name == t.name) && s.void == t.void) && s.sep == t.sep)) (fun hcut=>bool_want (b:=((s.kind == t.kind && s.name == t.name) && s.void == t.void)) true (fun hg=>?_) (fun hg=>?_)) ?_)
  ·refine st_sk Z Z hg ?_
   iterate 4 refine st_sk rfl rfl hg ?_
   refine sV (vP (bO Z hg) Z) ?_
   exact hcut _ uG
  ·refine sG Z (bG Z hg) (vF Z fa25_4 Z) (sG Z (bG Z hg) (vY Z ld4) ?_)
   refine sG Z (bG Z hg) (vF Z fa25_4 Z) (sG Z (bG Z hg) (vY Z ld4) ?_)
   refine sG Z (bG Z hg) (v_eql_bool Tryz.underlying4 Z Z) (sV (vQ (bO Z hg) Z) ?_)
   exact hcut _ uG
  refine sM Z (st_cut (k:=33) (d:=37) (v:=.bool ((((s.kind == t.kind && s.name == t.name) && s.void == t.void) && s.sep == t.sep) && sames s.args t.args)) (fun hcut=>bool_want (b:=(((s.kind == t.kind && s.name == t.name) && s.void == t.void) && s.sep == t.sep)) true (fun hg=>?_) (fun hg=>?_)) ?_)
  ·refine st_sk Z Z hg ?_
   iterate 4 refine st_sk rfl rfl hg ?_
   refine sV (vP (bO Z hg) Z) ?_
   exact hcut _ uG
  ·refine sG Z (bG Z hg) (vF Z fa25_2 Z) (sG Z (bG Z hg) (vY Z ld23) ?_)
   refine sG Z (bG Z hg) (vF Z fa25_2 Z) (sG Z (bG Z hg) (vY Z ld23) ?_)
   refine st_clrg Z (bG Z hg) Z Z en53 Z (EqualF_ct en15 hx hy hF) ?_
   refine sV (vQ (bO Z hg) Z) ?_
   exact hcut _ uG
  refine sA Z (sK [4] Z (cT ?_))
  exact xt_rt Z ⟨Z,Z⟩ sbq
set_option maxRecDepth 100000 in
theorem same_ct (hs:Ty S us s) (ht:Ty S us' t):Reads Tryz.prog 15 #[.agg us.toArray,.agg us'.toArray] [S] (.bool (s.same t)):=Same_ct s.depth s t us us' (Nat.le_refl _) hs ht
set_option maxRecDepth 100000 in
theorem equal_ct (hv:Tys S v az) (hv':Tys S v' bz):Reads Tryz.prog 53 #[v,v',.func (.func 15) #[] #[]] [S] (.bool (sames az bz)):=EqualF_ct en15 hv hv' fun _ _ _ _ _ h1 h2=>same_ct h1 h2
end
end Go.Hr
namespace Go.Hr
open Go Go.RowKit Go.Ck Go.Proofs Go.Proofs.YtaohbfnepjjdgaaGreat Fx
attribute [local irreducible] Go.Ck.Sub St Cd Xt Nx DrL LsW
section
variable {S T:Res} {v v':Value} {az bz:List Kt} {us us':List Value} {s t:Kt}
theorem sameR_len (h:¬ az.length=bz.length):sames az bz=false:=by
 cases hs:sames az bz with
 | false=>rfl
 | true=>rw [(sames_iff az bz).1 hs] at h; exact absurd rfl h
set_option maxRecDepth 100000 in
theorem SameR_ct : ∀ (d : Nat) (s t : Kt) (us us' : List Value), s.depth ≤ d → Ty S us s → Ty S us' t → Reads Tryz.prog 16 #[.agg us.toArray, .agg us'.toArray] [S] (.bool (s.same t))
 | 0,s,_,_,_,hd,_,_=>by cases s; simp [Kt.depth] at hd
 | d + 1, s, t, us, us', hd, hs, ht => by
  have hml:maxLen=9223372036854775807:=rfl
  obtain ⟨x,rfl,hx⟩:=hs.out
  obtain ⟨y,rfl,hy⟩:=ht.out
  have hF:∀ (a b:Kt) us us',a∈s.args→Ty S us a→Ty S us' b→Reads Tryz.prog 16 #[.agg us.toArray,.agg us'.toArray] [S] (.bool (a.same b)):=fun a b us us' ha h1 h2=>SameR_ct d a b us us' (by have:=depth_args ha; omega) h1 h2
  rw [same_unfold]
  obtain ⟨xa,xc,rfl,hlc,hcm,_⟩:=hx.form
  obtain ⟨ya,yc,rfl,hlc',hcm',_⟩:=hy.form
  unfold tyC
  refine ct_of (n:=62) Tryz.func16 Z Z (len Z) fun hr w0=>?_
  refine cQ (st_bx Z Z fun b2=>?_)
  refine st_bx Z Z fun b3=>?_
  refine sA Z (sK [2,3,4] Z (cS (cQ (sV (vF Z fa25_0 Z) (sV (vY Z ld3) ?_)))))
  refine sV (vF Z fa25_0 Z) (sV (vY Z ld3) ?_)
  refine sV (v_neq Z Z) (sM Z (st_cut (k:=12) (d:=18) (v:=.bool ((s.kind != t.kind) || !(s.name == t.name))) (fun hcut=>bool_want (b:=(s.kind != t.kind)) false (fun hg=>?_) (fun hg=>?_)) ?_))
  ·refine st_sk Z Z hg ?_
   iterate 4 refine st_sk rfl rfl hg ?_
   refine sV (vQ (bO Z hg) Z) ?_
   exact hcut _ uG
  ·refine sG Z (bG Z hg) (vF Z fa25_1 Z) (sG Z (bG Z hg) (vY Z ld9) ?_)
   refine sG Z (bG Z hg) (vF Z fa25_1 Z) (sG Z (bG Z hg) (vY Z ld9) ?_)
   refine sG Z (bG Z hg) (v_sneq Z Z) (sV (vP (bO Z hg) Z) ?_)
   exact hcut _ uG
  refine sM Z (st_cut (k:=19) (d:=25) (v:=.bool (((s.kind != t.kind) || !(s.name == t.name)) || (s.void != t.void))) (fun hcut=>bool_want (b:=((s.kind != t.kind) || !(s.name == t.name))) false (fun hg=>?_) (fun hg=>?_)) ?_)
  ·refine st_sk Z Z hg ?_
   iterate 4 refine st_sk rfl rfl hg ?_
   refine sV (vQ (bO Z hg) Z) ?_
   exact hcut _ uG
  ·refine sG Z (bG Z hg) (vF Z fa25_3 Z) (sG Z (bG Z hg) (vY Z ld4) ?_)
   refine sG Z (bG Z hg) (vF Z fa25_3 Z) (sG Z (bG Z hg) (vY Z ld4) ?_)
   refine sG Z (bG Z hg) (v_neq_bool Tryz.underlying4 Z Z) (sV (vP (bO Z hg) Z) ?_)
   exact hcut _ uG
  refine sM Z (st_cut (k:=26) (d:=32) (v:=.bool ((((s.kind != t.kind) || !(s.name == t.name)) || (s.void != t.void)) || (s.sep != t.sep))) (fun hcut=>bool_want (b:=(((s.kind != t.kind) || !(s.name == t.name)) || (s.void != t.void))) false (fun hg=>?_) (fun hg=>?_)) ?_)
  ·refine st_sk Z Z hg ?_
   iterate 4 refine st_sk rfl rfl hg ?_
   refine sV (vQ (bO Z hg) Z) ?_
   exact hcut _ uG
  ·refine sG Z (bG Z hg) (vF Z fa25_4 Z) (sG Z (bG Z hg) (vY Z ld4) ?_)
   refine sG Z (bG Z hg) (vF Z fa25_4 Z) (sG Z (bG Z hg) (vY Z ld4) ?_)
   refine sG Z (bG Z hg) (v_neq_bool Tryz.underlying4 Z Z) (sV (vP (bO Z hg) Z) ?_)
   exact hcut _ uG
  refine sM Z (st_cut (k:=35) (d:=41) (v:=.bool (((((s.kind != t.kind) || !(s.name == t.name)) || (s.void != t.void)) || (s.sep != t.sep)) || ((s.args.length:Int) != t.args.length))) (fun hcut=>bool_want (b:=((((s.kind != t.kind) || !(s.name == t.name)) || (s.void != t.void)) || (s.sep != t.sep))) false (fun hg=>?_) (fun hg=>?_)) ?_)
  ·refine st_sk Z Z hg ?_
   iterate 6 refine st_sk rfl rfl hg ?_
   refine sV (vQ (bO Z hg) Z) ?_
   exact hcut _ uG
  ·refine sG Z (bG Z hg) (vF Z fa25_2 Z) (sG Z (bG Z hg) (vY Z ld23) ?_)
   refine sG Z (bG Z hg) (v_len Z Tryz.underlying23) (sG Z (bG Z hg) (vF Z fa25_2 Z) (sG Z (bG Z hg) (vY Z ld23) ?_))
   refine sG Z (bG Z hg) (v_len Z Tryz.underlying23) (sG Z (bG Z hg) (v_neq Z Z) (sV (vP (bO Z hg) Z) ?_))
   exact hcut _ uG
  refine sK [2,3,4,41] Z (cC Z (fun hq=>?_) (fun hq=>?_))
  ·rw [show ((((s.kind == t.kind && s.name == t.name) && s.void == t.void) && s.sep == t.sep) && sames s.args t.args)=false by
    cases hw:((((s.kind == t.kind && s.name == t.name) && s.void == t.void) && s.sep == t.sep) && sames s.args t.args) with
    | false=>rfl
    | true =>
     simp only [Bool.and_eq_true,beq_iff_eq] at hw
     obtain ⟨⟨⟨⟨w1,w2⟩,w3⟩,w4⟩,w5⟩:=hw
     rw [(sames_iff _ _).1 w5] at hq
     simp [w1,w2,w3,w4] at hq]
   refine cQ (sA Z (sK [4] Z (cT (xR ?_))))
   exact xt_rt Z ⟨Z,Z⟩ sbq
  ·have hq:(((((s.kind != t.kind) || !(s.name == t.name)) || (s.void != t.void)) || (s.sep != t.sep)) || ((s.args.length:Int) != t.args.length))=false:=hq
   simp only [Bool.or_eq_false_iff,bne_eq_false_iff_eq,Bool.not_eq_false',beq_iff_eq] at hq
   obtain ⟨⟨⟨⟨q1,q2⟩,q3⟩,q4⟩,q5⟩:=hq
   have hl:s.args.length=t.args.length:=by omega
   rw [show ((((s.kind == t.kind && s.name == t.name) && s.void == t.void) && s.sep == t.sep) && sames s.args t.args)=sames s.args t.args by simp [q1,q2,q3,q4]]
   refine cK (xT (cS (cQ (sA Z (sK [2,3,4,5] Z (cB (cd_lq (σ := Nat) (fun i=>[(2,.pointer (some ⟨b2,0,none⟩)),(3,.pointer (some ⟨b3,0,none⟩)),(5,.int .i64 (i:Nat))]) (fun _=>pt b2 (cl [.int .i64 s.kind,sv s.name,.slice xa s.args.length xc,.bool s.void,.bool s.sep] 25)::pt b3 (cl [.int .i64 t.kind,sv t.name,.slice ya t.args.length yc,.bool t.void,.bool t.sep] 25)::S::hr) (fun i=>i≤s.args.length∧s.args.take i=t.args.take i) (fun i=>s.args.length - i) 0 ⟨Nat.zero_le _,Z⟩ ?_)))))))
   rintro i ⟨hi,hal⟩
   refine cS (cQ (sM Z (sV (vF Z fa25_2 Z) (sV (vY Z ld23) ?_))))
   refine sV (v_len Z Tryz.underlying23) (sV (v_lss Z Z) (sK [2,3,5,46] Z (cC Z (fun hd=>?_) (fun hd=>?_))))
   ·have hlt:i<s.args.length:=by simpa using hd
    have hlt':i<t.args.length:=by omega
    have hg:=List.getElem?_eq_getElem hlt
    have hg':=List.getElem?_eq_getElem hlt'
    have hmem:=List.getElem_mem hlt
    obtain ⟨b,o,cap2,us,e1,hus,hrd,hta⟩:=hx.at hg
    cases e1
    obtain ⟨b',o',cap2',us',e1,hus',hrd',htb⟩:=hy.at hg'
    cases e1
    generalize s.args[i]=x at hg hmem hta
    generalize t.args[i]=y at hg' htb
    refine cK (xT (cS (cB (cS (cd_drawh (ork [(0,2),(1,1),(2,2),(3,2),(4,1),(5,2),(6,1),(7,2),(8,2),(9,1),(10,1),(11,2)] .nil) (fun _=>true) mixed (by kernel_rfl) ?_)))))
    refine dV Z (vF Z fa25_2 Z) (dr_v Z (vY Z ld23) ?_)
    refine dV Z (vM Z) (dV Z (vI (k:=i) Z Z sl23 Z hlt Z) (dr_v Z (v_ldn Z ld25 hus hrd) ?_))
    refine dV Z (vF Z fa25_2 Z) (dr_v Z (vY Z ld23) ?_)
    refine dV Z (vM Z) (dV Z (vI (k:=i) Z Z sl23 Z hlt' Z) (dr_v Z (v_ldn Z ld25 hus' hrd') ?_))
    refine dr_clr Z Z Z en16 Z ((hF x y us us' hmem hta htb)) ?_
    refine dV Z (vA Z) (dr_nil (nK [2,3,5,6] Z (nT (cQ (sM Z (sV (v_not Z) (sK [2,3,5,61] Z (cC Z (fun hne=>?_) (fun hne=>?_)))))))))
    ·have hne:x.same y=false:=by simpa using hne
     rw [sames_false hg hg' hne]
     refine cQ (sA Z (sK [4] Z (cT (xW (xR (xR (xW (xR ?_))))))))
     exact xt_rt Z ⟨Z,Z⟩ sbq
    ·have hne:x.same y=true:=by simpa using hne
     refine cK (xB (xT (cR (sM Z (sV (v_add Z Z (by unfold I64 at *; omega)) (sA Z (sN (nK [2,3,5] Z (nx_xt ?_)))))))))
     refine xt_aq (i+1) ⟨hlt,take_snoc_eq hal hg hg' hne⟩ (Nat.sub_lt_sub_left hlt (Nat.lt_succ_self i))
   ·have hil:i=s.args.length:=by
     have:¬ i<s.args.length:=by simpa using hd
     omega
    rw [show sames s.args t.args=true from (sames_iff _ _).2 (by
     have:=hal
     rw [hil,List.take_length,hl,List.take_length] at this
     exact this)]
    refine cd_exit (xE (xE (xY (xT (cQ (sA Z (sK [4] Z (cT ?_))))))))
    exact xt_rt Z ⟨Z,Z⟩ sbq
set_option maxRecDepth 100000 in
theorem sameR_ct (hs:Ty S us s) (ht:Ty S us' t):Reads Tryz.prog 16 #[.agg us.toArray,.agg us'.toArray] [S] (.bool (s.same t)):=SameR_ct s.depth s t us us' (Nat.le_refl _) hs ht
set_option maxRecDepth 100000 in
theorem SameTypes_ct (hv : Tys S v az) (hv' : Tys S v' bz) : Reads Tryz.prog 25 #[v, v'] [S] (.bool (sames az bz)) := by
 have hml:maxLen=9223372036854775807:=rfl
 obtain ⟨a,cap,rfl,hlc,hcm,hnone⟩:=hv.form
 obtain ⟨a',cap',rfl,hlc',hcm',hnone'⟩:=hv'.form
 refine ct_of (n:=29) Tryz.func25 Z Z (len Z) fun hr w0=>?_
 refine cQ (sA Z (sN (nT (cS (cQ (sM Z (sV (v_len Z Tryz.underlying23) (sM Z (sV (v_len Z Tryz.underlying23) (sV (v_neq Z Z) (sK [0,1,4,11] Z (cC Z (fun hl=>?_) (fun hl=>?_)))))))))))))
 ·have hl:¬ az.length=bz.length:=by
   have:¬ (az.length:Int)=bz.length:=by simpa using hl
   omega
  rw [sameR_len hl]
  refine cQ (sA Z (sK [4] Z (cT (xR ?_))))
  exact xt_rt Z ⟨Z,Z⟩ sbq
 ·have hl:az.length=bz.length:=by
   have:(az.length:Int)=bz.length:=by simpa using hl
   omega
  refine cK (xT (cS (cQ (sA Z (sK [0,1,4,5] Z (cB (cd_lq (σ := Nat) (fun i=>[(0,.slice a az.length cap),(1,.slice a' bz.length cap'),(5,.int .i64 (i:Nat))]) (fun _=>S::hr) (fun i=>i≤az.length∧az.take i=bz.take i) (fun i=>az.length - i) 0 ⟨Nat.zero_le _,Z⟩ ?_)))))))
  rintro i ⟨hi,hal⟩
  refine cS (cQ (sM Z (sM Z (sV (v_len Z Tryz.underlying23) (sV (v_lss Z Z) (sK [0,1,5,15] Z (cC Z (fun hd=>?_) (fun hd=>?_))))))))
  ·have hlt:i<az.length:=by simpa using hd
   have hlt':i<bz.length:=by omega
   have hg:=List.getElem?_eq_getElem hlt
   have hg':=List.getElem?_eq_getElem hlt'
   obtain ⟨b,o,cap2,us,e1,hus,hrd,hta⟩:=hv.at hg
   cases e1
   obtain ⟨b',o',cap2',us',e1,hus',hrd',htb⟩:=hv'.at hg'
   cases e1
   generalize az[i]=x at hg hta
   generalize bz[i]=y at hg' htb
   refine cK (xT (cS (cB (cS (cd_drawh (ork [(0,2),(1,2),(2,2),(3,1),(4,2),(5,2),(6,2),(7,1),(8,1),(9,2)] .nil) (fun _=>true) mixed (by kernel_rfl) ?_)))))
   refine dV Z (vM Z) (dV Z (vM Z) (dV Z (vI (k:=i) Z Z sl23 Z hlt Z) (dr_v Z (v_ldn Z ld25 hus hrd) ?_)))
   refine dV Z (vM Z) (dV Z (vM Z) (dV Z (vI (k:=i) Z Z sl23 Z hlt' Z) (dr_v Z (v_ldn Z ld25 hus' hrd') ?_)))
   refine dr_clr Z Z Z en16 Z (sameR_ct hta htb) ?_
   refine dV Z (vA Z) (dr_nil (nK [0,1,5,6] Z (nT (cQ (sM Z (sV (v_not Z) (sK [0,1,5,28] Z (cC Z (fun hne=>?_) (fun hne=>?_)))))))))
   ·have hne:x.same y=false:=by simpa using hne
    rw [sames_false hg hg' hne]
    refine cQ (sA Z (sK [4] Z (cT (xW (xR (xR (xW (xR ?_))))))))
    exact xt_rt Z ⟨Z,Z⟩ sbq
   ·have hne:x.same y=true:=by simpa using hne
    refine cK (xB (xT (cR (sM Z (sV (v_add Z Z (by unfold I64 at *; omega)) (sA Z (sN (nK [0,1,5] Z (nx_xt ?_)))))))))
    refine xt_aq (i+1) ⟨hlt,take_snoc_eq hal hg hg' hne⟩ (Nat.sub_lt_sub_left hlt (Nat.lt_succ_self i))
  ·have hil:i=az.length:=by
    have:¬ i<az.length:=by simpa using hd
    omega
   rw [show sames az bz=true from (sames_iff _ _).2 (by
    have:=hal
    rw [hil,List.take_length,hl,List.take_length] at this
    exact this)]
   refine cd_exit (xE (xE (xY (xT (cQ (sA Z (sK [4] Z (cT ?_))))))))
   exact xt_rt Z ⟨Z,Z⟩ sbq
end
end Go.Hr
