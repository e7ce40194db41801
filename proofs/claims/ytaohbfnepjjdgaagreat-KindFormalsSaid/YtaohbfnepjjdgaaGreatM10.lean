/-
  Package heir: Above,Is,Way,Below,Touched. Conditions: what is read.
  Package heir: Touched; Go's library: Collect. Conditions: what is read.
  Package heir: CheckWay,CheckRing. Conditions: what is read.
  Package heir: Ways. Conditions: what is read.
  Package heir: Order. Conditions: what is read.
  Nothing (what stood here is not reached in this seat). No condition.
  Package heir: filter,Least. Conditions: what is read.
  Lists of lists of names in the machine's memory: read,owned. Generic but for the types' numbers. No condition.
  Package heir: Levels. Conditions: what is read.
  A range over a function within a round of another one; structs of texts held against each other. Generic: nothing of the program is named here. No condition.
  Nothing (what stood here is not reached in this seat). No condition.
  Nothing (what stood here is not reached in this seat). No condition.
  Nothing (what stood here is not reached in this seat). No condition.
  Nothing (what stood here is not reached in this seat). No condition.
  Nothing (what stood here is not reached in this seat). No condition.
  Nothing (what stood here is not reached in this seat). No condition.
  Nothing (what stood here is not reached in this seat). No condition.
  Package heir: Touched,CheckWay,CheckRing with names that are read where the system is read. Conditions: what is read.
  Nothing (what stood here is not reached in this seat). No condition.
  Nothing (what stood here is not reached in this seat). No condition.
  The specification: named,alone. Conditions: what is read.
  Rows appended whole; the specification: Before,first. Conditions: what is read.
-/
import Derived.Test.YtaohbfnepjjdgaaGreatM9
import Derived.Test.YtaohbfnepjjdgaaGreatM2
import Derived.RangeFuncNested
set_option linter.unusedVariables false
set_option linter.unusedSimpArgs false
namespace Go.Hr
open Go Go.Ck Go.Proofs Go.Proofs.YtaohbfnepjjdgaaGreat Fx
attribute [local irreducible] Go.Ck.Sub St Cd Xt Nx DrL LsW
def okL {α : Type} (e:Int) (xs:List α):List α := if e=0 then xs else []
theorem okL_ne {α : Type} {e:Int} {xs:List α} (h:e≠0):okL e xs=[]:=if_neg h
theorem okL_eq {α : Type} {e:Int} {xs:List α} (h:e=0):okL e xs=xs:=if_pos h
theorem ne_true {e:Int} (h:e≠0):(e != 0)=true:=by simpa using h
section
variable {S N:Res} {v nv:Value} {l:Sys} {ns:List Nm}
set_option maxRecDepth 100000 in
theorem Above_ct (hv:sysR S v l) (c:Nm):CtN Tryz.prog 103 #[v,sv c] [S] fun u T=>∃ w,u = .tuple #[w,.int .i64 (rightE l [c])]∧w.oneCell'=true∧T=NR w (okL (rightE l [c]) (above l c)):=by
 obtain ⟨a,cap,rfl,_⟩:=id hv
 refine ct_of (n:=21) Tryz.func103 Z Z (len Z) fun hr w0=>?_
 refine cQ (sA Z (sA Z (sN (nT (cQ (sM Z (sM Z (st_buildSlice (cells:=[sv c]) Z Tryz.underlying50 inf9 Z Z (by kernel_rfl) (ltn Z) fun b11=>?_))))))))
 refine st_pv (pv_of (b:=b11) (n:=1) (sz:=1) (E:=9) [nC c] Z (by simp [nC]) Z (by decide)) ?_
 simp only [lC,lN]
 refine st_ok (r:=NR (.slice (some ⟨b11,0,none⟩) 1 1) [c]) slq fun hok=>?_
 refine st_cl Z Z en122 Z (right_ct hv (nms_own hok) (by simp)) ?_
 rintro u h' (⟨he,rfl,rfl⟩ | ⟨he,mb,rfl,rfl⟩)
 ·simp only [lC,lN]
  unfold gr0
  refine sM Z (sV (v_extract Z Z) (sV (v_extract Z Z) (st_alc al165 fun b6=>?_)))
  refine st_stoW Z Z sz165 Z Z ?_
  refine sA Z (sK [1,4,5,6,7] Z (cS (cQ (sM Z (sV (v_neq Z Z) (sK [1,4,5,6,7,16] Z ?_))))))
  rw [ne_true he]
  refine cd_true Z ?_
  refine cQ (sM Z (sA Z (sA Z (sK [4,5] Z (cT (xR ?_))))))
  rw [okL_ne he]
  refine xt_vw (vw_nil 9 1) ?_
  exact xt_rt Z ⟨NR (.slice none 0 0) [],Z,_,Z,Z,Z⟩ sbq
 ·obtain ⟨hR,hm⟩:=rightE_zero.1 he
  rw [he,okL_eq rfl]
  simp only [lC,lN]
  refine sM Z (sV (v_extract Z Z) (sV (v_extract Z Z) (st_alc al165 fun b6=>?_)))
  refine st_stoW Z Z sz165 Z Z ?_
  refine sA Z (sK [1,4,5,6,7] Z (cS (cQ (sM Z (sV (v_neq Z Z) (sK [1,4,5,6,7,16] Z (cd_false Z ?_)))))))
  refine cK (xT (cQ (sV (v_ldn Z ld165 Z rds_pt) ?_)))
  refine sM Z (st_cl Z Z en150 Z (above_ct hv hR.fine hR.acyc (hm c (by simp))) ?_)
  rintro u h' ⟨hu,rfl⟩
  simp only [lC,lN]
  refine sA Z (sA Z (sK [4,5] Z (cT ?_)))
  exact xt_rt Z ⟨_,Z,_,Z,hu,Z⟩ sbq
set_option maxRecDepth 100000 in
theorem Is_ct (hv:sysR S v l) (c x:Nm):Ct Tryz.prog 175 #[v,sv c,sv x] [S] fun u h'=>u = .tuple #[.bool (decide (rightE l [c,x]=0) && has l c x),.int .i64 (rightE l [c,x])]∧h'=[S]:=by
 obtain ⟨a,cap,rfl,_⟩:=id hv
 refine ct_of (n:=25) Tryz.func175 Z Z (len Z) fun hr w0=>?_
 refine cQ (sA Z (sA Z (sN (nT (cQ (sM Z (sM Z (sM Z (st_buildSlice (cells:=[sv c,sv x]) Z Tryz.underlying50 inf9 Z Z (by kernel_rfl) (ltn Z) fun b14=>?_)))))))))
 refine st_pv (pv_of (b:=b14) (n:=2) (sz:=1) (E:=9) [nC c,nC x] Z (by simp [nC]) Z (by decide)) ?_
 simp only [lC,lN]
 refine st_ok (r:=NR (.slice (some ⟨b14,0,none⟩) 2 2) [c,x]) slq fun hok=>?_
 refine st_cl Z Z en122 Z (right_ct hv (nms_own hok) (by simp)) ?_
 rintro u h' (⟨he,rfl,rfl⟩ | ⟨he,mb,rfl,rfl⟩)
 ·simp only [lC,lN]
  unfold gr0
  refine sM Z (sV (v_extract Z Z) (sV (v_extract Z Z) (st_alc al165 fun b8=>?_)))
  refine st_stoW Z Z sz165 Z Z ?_
  refine sA Z (sK [1,2,6,7,8,9] Z (cS (cQ (sM Z (sV (v_neq Z Z) (sK [1,2,6,7,8,9,19] Z ?_))))))
  rw [ne_true he]
  refine cd_true Z ?_
  refine cQ (sM Z (sA Z (sA Z (sK [6,7] Z (cT (xR ?_))))))
  rw [show (decide (rightE l [c,x]=0))=false from decide_eq_false he,Bool.false_and]
  exact xt_rt Z ⟨Z,Z⟩ sbq
 ·obtain ⟨hR,hm⟩:=rightE_zero.1 he
  rw [he]
  simp only [lC,lN]
  refine sM Z (sV (v_extract Z Z) (sV (v_extract Z Z) (st_alc al165 fun b8=>?_)))
  refine st_stoW Z Z sz165 Z Z ?_
  refine sA Z (sK [1,2,6,7,8,9] Z (cS (cQ (sM Z (sV (v_neq Z Z) (sK [1,2,6,7,8,9,19] Z (cd_false Z ?_)))))))
  refine cK (xT (cQ (sV (v_ldn Z ld165 Z rds_pt) ?_)))
  refine sM Z (sM Z (st_cl Z Z en178 Z (has_ct hv hR.fine hR.acyc (hm c (by simp)) x) ?_))
  rintro u h' ⟨rfl,rfl⟩
  simp only [lC,lN]
  refine sA Z (sA Z (sK [6,7] Z (cT ?_)))
  exact xt_rt Z ⟨Z,Z⟩ sbq
def wayE (l:Sys) (c x:Nm):Int:=if rightE l [c,x]=0 then (if has l c x then 0 else 5) else rightE l [c,x]
set_option maxRecDepth 100000 in
theorem Way_ct (hv : sysR S v l) (c x : Nm) : CtN Tryz.prog 96 #[v, sv c, sv x] [S] fun u T => ∃ w, u = .tuple #[w, .int .i64 (wayE l c x)] ∧ w.oneCell' = true ∧ T = NR w (okL (rightE l [c, x]) (shortR l x c)) := by
 obtain ⟨a,cap,rfl,_⟩:=id hv
 refine ct_of (n:=29) Tryz.func96 Z Z (len Z) fun hr w0=>?_
 refine cQ (sA Z (sA Z (sN (nT (cQ (sM Z (sM Z (sM Z (st_buildSlice (cells:=[sv c,sv x]) Z Tryz.underlying50 inf9 Z Z (by kernel_rfl) (ltn Z) fun b15=>?_)))))))))
 refine st_pv (pv_of (b:=b15) (n:=2) (sz:=1) (E:=9) [nC c,nC x] Z (by simp [nC]) Z (by decide)) ?_
 simp only [lC,lN]
 refine st_ok (r:=NR (.slice (some ⟨b15,0,none⟩) 2 2) [c,x]) slq fun hok=>?_
 refine st_cl Z Z en122 Z (right_ct hv (nms_own hok) (by simp)) ?_
 rintro u h' (⟨he,rfl,rfl⟩ | ⟨he,mb,rfl,rfl⟩)
 ·have hw:wayE l c x=rightE l [c,x]:=if_neg he
  rw [hw]
  simp only [lC,lN]
  unfold gr0
  refine sM Z (sV (v_extract Z Z) (sV (v_extract Z Z) (st_alc al165 fun b8=>?_)))
  refine st_stoW Z Z sz165 Z Z ?_
  refine sA Z (sK [1,2,6,7,8,9] Z (cS (cQ (sM Z (sV (v_neq Z Z) (sK [1,2,6,7,8,9,20] Z ?_))))))
  rw [ne_true he]
  refine cd_true Z ?_
  refine cQ (sM Z (sA Z (sA Z (sK [6,7] Z (cT (xR ?_))))))
  rw [okL_ne he]
  refine xt_vw (vw_nil 9 1) ?_
  exact xt_rt Z ⟨NR (.slice none 0 0) [],Z,_,Z,Z,Z⟩ sbq
 ·obtain ⟨hR,hm⟩:=rightE_zero.1 he
  have hw:wayE l c x=if has l c x then 0 else 5:=if_pos he
  rw [hw,he,okL_eq rfl]
  simp only [lC,lN]
  refine sM Z (sV (v_extract Z Z) (sV (v_extract Z Z) (st_alc al165 fun b8=>?_)))
  refine st_stoW Z Z sz165 Z Z ?_
  refine sA Z (sK [1,2,6,7,8,9] Z (cS (cQ (sM Z (sV (v_neq Z Z) (sK [1,2,6,7,8,9,20] Z (cd_false Z ?_)))))))
  refine cK (xT (cQ (sV (v_ldn Z ld165 Z rds_pt) ?_)))
  refine sM Z (sM Z (st_cl Z Z en147 Z (shortest_ct hv hR.fine c x) ?_))
  rintro u h' ⟨T,rfl,wa,cp,rfl,hwa,rfl⟩
  unfold has
  simp only [lC,lN]
  cases hd:dist l x c
  ·rw [hd] at hwa
   have hwa:wa=none:=by simpa using hwa
   subst hwa
   have hsr:shortR l x c=[]:=by unfold shortR; rw [hd]
   rw [hsr]
   refine sA Z (sK [6,7,10] Z (cS (cQ (sM Z (sV (v_eql_slice_nil Z Z Tryz.underlying50) (sK [6,7,10,27] Z (cd_true Z ?_)))))))
   refine cQ (sA Z (sA Z (sK [6,7] Z (cT (xR (xt_vw (vw_nil 9 1) ?_))))))
   exact xt_rt Z ⟨NR (.slice none 0 0) [],Z,_,Z,Z,Z⟩ sbq
  ·rw [hd] at hwa
   obtain ⟨wb,rfl⟩:∃ wb,wa=some wb:=by
    cases wa with
    | none=>cases hwa
    | some wb=>exact ⟨wb,rfl⟩
   refine sA Z (sK [6,7,10] Z (cS (cQ (sM Z (sV (v_eql_slice_nil Z Z Tryz.underlying50) (sK [6,7,10,27] Z (cd_false Z ?_)))))))
   refine cK (xT (cQ (sM Z (sA Z (sA Z (sK [6,7] Z (cT ?_)))))))
   exact xt_rt Z ⟨_,Z,_,Z,Z,Z⟩ sbq
end
end Go.Hr
namespace Go.Hr
open Go Go.Ck Go.Proofs Go.Proofs.YtaohbfnepjjdgaaGreat Fx
attribute [local irreducible] Go.Ck.Sub St Cd Xt Nx DrL LsW
section
variable {S N T:Res} {v nv:Value} {l:Sys} {ns:List Nm}
def touchE (l:Sys) (ns:List Nm):Int:=if 48<ns.length then 3 else rightE l []
end
end Go.Hr
namespace Go.Hr
open Go Go.RowKit Go.Ck Go.Proofs Go.Proofs.YtaohbfnepjjdgaaGreat Fx
attribute [local irreducible] Go.Ck.Sub St Cd Xt Nx DrL LsW
def wayC (l:Sys) (c x:Nm) (ns:List Nm):Int:=if rightE l [c,x]=0 then (if wayOk l c x ns then 0 else 11) else rightE l [c,x]
section
variable {S N:Res} {v nv:Value} {l:Sys} {ns:List Nm}
def ringC (l:Sys) (ns:List Nm):Int:=if 24<l.length∨24<ns.length then 3 else if ringOk l ns then 0 else 11
end
end Go.Hr
namespace Go.Hr
open Go Go.RowKit Go.Ck Go.Proofs Go.Proofs.YtaohbfnepjjdgaaGreat Fx
attribute [local irreducible] Go.Ck.Sub St Cd Xt Nx DrL LsW
def iV (n:Nat):Value:=.int .i64 (n:Int)
def okN (e:Int) (n:Nat):Int:=if e=0 then (n:Int) else 0
section
variable {S N:Res} {v nv:Value} {l:Sys} {ns:List Nm}
end
end Go.Hr
namespace Go.Ck
open Go
section
variable {P:Program} {r:Option Nat} {n:Nat} {w0:World} {hr:SH} {R:Value→SH→Prop} {fn:Func} {e:Env} {h h' k:SH} {vs:List Value} {bs:List Nat} {ds:List Deferred}
theorem xt_retMV (hds:ds=bs.map mk) (hv:ResV P k e fn.results.toList vs) (hR:R (outOf vs) h') (hk:Sub (h'++hr) k) (hp:Sub (marks bs++k) h):Xt ⟨P,r,n,ds,w0⟩ .ret (bodyPostM (Fw none) 0 P fn (Post w0 hr R)) e h :=
 fun a w hk' hh hw=>by
  show LeavesInM (Fw none) 0 P fn a.tmps _ a.defers .returning w
  rw [hk'.defers,hds]
  exact leavesM bs w (hh.sub hp) hw fun w' h1 h2=>⟨_,run_resultsV hk' hv h1,_,h',Z,hR,h1.sub hk,h2⟩
end
end Go.Ck
namespace Go.Hr
open Go Go.RowKit Go.Ck Go.Proofs Go.Proofs.YtaohbfnepjjdgaaGreat Fx
attribute [local irreducible] Go.Ck.Sub St Cd Xt Nx DrL LsW
def DoneI (o:List Nm) (D:List (Nm×Unit)):Prop:=∀ x,(alook D x).isSome=o.contains x
theorem DoneI.look {o:List Nm} {D:List (Nm×Unit)} (h:DoneI o D) (x:Nm):(slook (mvG tV D) x).getD (.bool false) = .bool (o.contains x):=by
 rw [slook_mvG,← h x]
 cases alook D x <;> rfl
theorem DoneI.next {o:List Nm} {D:List (Nm×Unit)} (h:DoneI o D) (c:Nm):DoneI (o++[c]) (aupd D c ()):=fun x=>by
 rw [alook_upd]
 by_cases hx:x=c
 ·subst hx; simp
 ·rw [if_neg hx,h x]; simp [hx]
section
variable {S N:Res} {v nv:Value} {l:Sys} {ns:List Nm}
set_option maxHeartbeats 1000000 in
set_option maxRecDepth 100000 in
theorem open_ct {c7 c4 mb bd : Nat} {o : List Nm} {D : List (Nm × Unit)} (hv : sysR S v l) (hF : Fine l) (hD : DoneI o D) (c : Nm) : Reads Tryz.prog 163 #[sv c, .pointer (some ⟨c7, 0, none⟩), .pointer (some ⟨c4, 0, none⟩)] [pt c7 (cl [.map (some bd)] 205), pt c4 (cl [v, .map (some mb)] 165), mps bd (mvG tV D), S, mps mb (kindsM l)] (.bool (opn l o c)) := by
 obtain ⟨a,cap,rfl,_⟩:=id hv
 refine ct_ofM (n:=17) Tryz.func163 Z Z (len Z) fun hr w0=>?_
 refine cQ (st_alc al4 fun b4=>?_)
 refine sN (nT (cS (cQ (sV (vY Z ld205) ?_))))
 refine sM Z (sV (v_is (hD.look c) (v_slookup Z Z mp205 inf4 slq)) ?_)
 refine sK [0,1,2,4,8] Z ?_
 unfold opn
 refine cC Z (fun ho=>?_) (fun ho=>?_)
 ·rw [ho]
  refine cQ (st_sto Z Z sz4 ?_)
  refine sK [4] Z (cT (xR (xt_retMV (bs:=[]) (k:=pt b4 (cl [.bool false] 4)::([pt c7 (cl [.map (some bd)] 205),pt c4 (cl [.slice a l.length cap,.map (some mb)] 165),mps bd (mvG tV D),S,mps mb (kindsM l)]++hr)) Z (.cell1 Z ld4 (at_here (rd_cl Z)) .nil) ⟨Z,Z⟩ ?_ ?_)))
  ·exact Sub.cons (Sub.refl _)
  ·unfold marks
   simp only [lC,lN,List.map_nil]
   exact sbr
 ·rw [ho,Bool.not_false,Bool.true_and]
  refine cK (xT (cS (cQ (sV (v_ldn Z ld165 Z rds_pt) ?_))))
  refine sM Z (st_cl Z Z en125 Z (parents0_ct Z) ?_)
  rintro u h' ⟨n1,n2,rfl,rfl⟩
  refine sK [1,4,11] Z (cB ?_)
  simp only [lC,lN]
  unfold seqv
  refine cd_range' Z en156 fun yl db rec hst hpe hps hasg hbo hkn2=>?_
  refine ⟨_,Ct.perm (it_ct (σ := Unit) (b1:=n1) (b2:=n2) (mb:=mb) (yl:=yl) (c:=c) (fun _=>pt yl (.loop rec)::pt db (.deferred (some []))::pt b4 (cl [.bool false] 4)::pt c7 (cl [.map (some bd)] 205)::pt c4 (cl [.slice a l.length cap,.map (some mb)] 165)::mps bd (mvG tV D)::hr)
   (fun k _=>∀ p∈(par l c).take k,o.contains p=true) (fun _ t=>(∃ p∈par l c,o.contains p=false)∧∃ rec',t=pt yl (.loop rec')::pt db (.deferred (some []))::pt b4 (cl [.bool false] 4)::pt c7 (cl [.map (some bd)] 205)::pt c4 (cl [.slice a l.length cap,.map (some mb)] 165)::mps bd (mvG tV D)::hr∧rec'.state≠.busy∧rec'.pending=some .ret) () (fun p hp=>by simp at hp) hv hF.few ?_) ?_,?_⟩
  ·rintro k _ p hk hal
   obtain ⟨hkl,hke⟩:=List.getElem?_eq_some_iff.1 hk
   refine Yc.perm (yc_of (n:=17) (rec:=rec) (args:=[sv p]) (hf:=pt db (.deferred (some []))::pt b4 (cl [.bool false] 4)::pt c7 (cl [.map (some bd)] 205)::pt c4 (cl [.slice a l.length cap,.map (some mb)] 165)::mps bd (mvG tV D)::S::mps mb (kindsM l)::hr) (by rw [hps]; rfl) hkn2 (by rw [hps]; decide) ?_) (by exact (by repeat (first | exact Pm.refl | refine Pm.cons slq ?_):Pm _ _).perm)
   intro hr2 w1
   rw [hasg,hps,hbo]
   simp only [lC,lN]
   refine cR (sA Z (sN (nK [1,4,5] Z (nx_xt (xt_mid Z slq (by first | rfl | assumption) ?_)))))
   refine cB (cQ (sV (vY Z ld205) ?_))
   refine sM Z (sV (v_is (hD.look p) (v_slookup Z Z mp205 inf4 slq)) ?_)
   refine sV (v_not Z) (sK [4,16] Z (cC Z (fun hno=>?_) (fun hno=>?_)))
   ·have hno:o.contains p=false:=by simpa using hno
    refine cQ (st_sto Z Z sz4 ?_)
    refine sK [4] Z (cT (xW (xt_round_ret slq (.inr ⟨Z,_,Z,⟨p,List.mem_of_getElem? hk,hno⟩,{ ({ rec with state:=.busy }:Loop) with state:=.done,pending:=some .ret },Z,by simp,Z⟩) ?_)))
    exact sbr
   ·have hno:o.contains p=true:=by simpa using hno
    refine cK (xB (xt_round slq (.inl ⟨Z,(),fun q hq=>?_,Z⟩) ?_))
    ·rw [List.take_succ_eq_append_getElem hkl,hke] at hq
     rcases List.mem_append.1 hq with hq | hq
     ·exact hal q hq
     ·simp at hq; rw [hq]; exact hno
    ·rw [rec_back hst hpe]
     exact sbr
  ·exact (by repeat (first | exact Pm.refl | refine Pm.cons slq ?_):Pm _ _).perm
  ·rintro u h' ⟨rfl, (⟨_, hal, rfl⟩ | ⟨_, _, ⟨⟨p, hp, hno⟩, rec', rfl, h2, h3⟩, rfl⟩)⟩
   ·rw [List.take_length] at hal
    rw [show (par l c).all o.contains=true from List.all_eq_true.2 hal]
    refine ⟨rec,_,slq,(by rw [hst]; simp),?_⟩
    rw [hpe]
    dsimp only
    refine xB (xT (cQ (st_sto Z Z sz4 ?_)))
    refine sK [4] Z (cT (xt_retMV (bs:=[db]) (k:=pt b4 (cl [.bool true] 4)::([pt c7 (cl [.map (some bd)] 205),pt c4 (cl [.slice a l.length cap,.map (some mb)] 165),mps bd (mvG tV D),S,mps mb (kindsM l)]++hr)) Z (.cell1 Z ld4 (at_here (rd_cl Z)) .nil) ⟨Z,Z⟩ ?_ ?_))
    ·exact Sub.cons (Sub.refl _)
    ·unfold marks
     simp only [lC,lN,List.map_cons,List.map_nil]
     exact sbr
   ·rw [show (par l c).all o.contains=false from List.all_eq_false.2 ⟨p,hp,by rw [hno]; decide⟩]
    refine ⟨rec',_,slq,h2,?_⟩
    rw [h3]
    dsimp only
    refine cT (xW (xR (xt_retMV (bs:=[db]) (k:=pt b4 (cl [.bool false] 4)::([pt c7 (cl [.map (some bd)] 205),pt c4 (cl [.slice a l.length cap,.map (some mb)] 165),mps bd (mvG tV D),S,mps mb (kindsM l)]++hr)) Z (.cell1 Z ld4 (at_here (rd_cl Z)) .nil) ⟨Z,Z⟩ ?_ ?_)))
    ·exact Sub.cons (Sub.refl _)
    ·unfold marks
     simp only [lC,lN,List.map_cons,List.map_nil]
     exact sbr
set_option maxRecDepth 100000 in
theorem Order_ct (hv : sysR S v l) : CtN Tryz.prog 139 #[v] [S] fun u T => ∃ w, u = .tuple #[w, .int .i64 (rightE l [])] ∧ w.oneCell' = true ∧ T = NR w (okL (rightE l []) (order l)) := by
 obtain ⟨a,cap,rfl,_⟩:=id hv
 refine ct_of (n:=36) Tryz.func139 Z Z (len Z) fun hr w0=>?_
 refine cQ (sA Z (sA Z (sN (nT (cQ (sM Z (st_vw (vw_unstar (L:=[])) (st_cl Z Z en122 Z (right_ct hv (N:=Res.star []) (ns:=[]) Row.nil (by simp)) ?_))))))))
 rintro u h' (⟨he,rfl,rfl⟩ | ⟨he,mb,rfl,rfl⟩)
 ·simp only [lC,lN]
  unfold gr0
  refine sM Z (sV (v_extract Z Z) (sV (v_extract Z Z) (st_alc al165 fun b4=>?_)))
  refine st_stoW Z Z sz165 Z Z ?_
  refine sA Z (sK [0,2,3,4,5] Z (cS (cQ (sM Z (sV (v_neq Z Z) (sK [0,2,3,4,5,16] Z ?_))))))
  rw [ne_true he]
  refine cd_true Z ?_
  refine cQ (sM Z (sA Z (sA Z (sK [2,3] Z (cT (xR ?_))))))
  rw [okL_ne he]
  refine xt_vw (vw_nil 9 1) ?_
  exact xt_rt Z ⟨NR (.slice none 0 0) [],Z,_,Z,Z,Z⟩ sbq
 ·obtain ⟨hR,_⟩:=rightE_zero.1 he
  have hFl:=hR.len
  rw [he,okL_eq rfl]
  simp only [lC,lN]
  refine sM Z (sV (v_extract Z Z) (sV (v_extract Z Z) (st_alc al165 fun b4=>?_)))
  refine st_stoW Z Z sz165 Z Z ?_
  refine sA Z (sK [0,2,3,4,5] Z (cS (cQ (sM Z (sV (v_neq Z Z) (sK [0,2,3,4,5,16] Z (cd_false Z ?_)))))))
  refine cK (xT (cQ (sA Z (sK [0,2,3,4,6] Z (cQ (st_smakeMap (ltn Z) fun b18=>?_))))))
  refine st_alc al205 fun b7=>?_
  refine st_sto Z Z sz205 ?_
  refine sK [0,2,3,4,6,7] Z (cQ (sV (v_makeFunc Z Z) (sA Z (sK [0,2,3,4,6,7,8] Z (cS (cQ (sM Z (sV (v_len Z Tryz.underlying22) (sM Z (sK [2,3,4,6,7,8,21,22] Z (cB ?_)))))))))))
  refine cd_vw (vw_nil 9 1) ?_
  rw [show ([]:List (Bs×Value))=mvG tV [] from rfl]
  refine cd_lq (σ := Nat×Value×List (Nm×Unit)) (fun q=>[(4,.pointer (some ⟨b4,0,none⟩)),(6,q.2.1),(7,.pointer (some ⟨b7,0,none⟩)),(8,.func (.func 163) #[] #[.pointer (some ⟨b7,0,none⟩),.pointer (some ⟨b4,0,none⟩)]),(21,.int .i64 l.length),(22,.int .i64 (q.1:Nat))]) (fun q=>NR q.2.1 (ordN l q.1)::pt b4 (cl [.slice a l.length cap,.map (some mb)] 165)::pt b7 (cl [.map (some b18)] 205)::mps b18 (mvG tV q.2.2)::mps mb (kindsM l)::S::hr) (fun q=>q.1≤l.length∧q.2.1.oneCell'=true∧DoneI (ordN l q.1) q.2.2) (fun q=>l.length - q.1) (0,.slice none 0 0,[]) ⟨Nat.zero_le _,Z,fun x=>rfl⟩ ?_
  rintro ⟨i,w,D⟩ ⟨hi,hw,hD⟩
  simp only at hi hw hD
  dsimp only
  have holen:=ordN_len l i
  refine cQ (sV (v_lss Z Z) (sN (nT (cS (cC Z (fun hd=>?_) (fun hd=>?_))))))
  ·refine cK (xT (cS (cB (cQ ?_))))
   have hlt:i<l.length:=by simpa using hd
   have hne:=ordN_some hR.acyc hR.uniq hlt
   have hsl:((nms l).filter (opn l (ordN l i))).length≤24:=Nat.le_trans (List.length_filter_le _ _) (by simp [nms]; omega)
   refine sV (v_ldn Z ld165 Z rds_pt) ?_
   refine sM Z (st_cl Z Z en165 Z (ctn_star (names_ct (S:=Res.star [pt b7 (cl [.map (some b18)] 205),pt b4 (cl [.slice a l.length cap,.map (some mb)] 165),mps b18 (mvG tV D),S,mps mb (kindsM l)]) (kf:=163) (cp := #[.pointer (some ⟨b7,0,none⟩),.pointer (some ⟨b4,0,none⟩)]) (g:=opn l (ordN l i)) (mb:=mb) (hv.mono (rd_in slq)) hR.fine en163 fun d _=>reads_one (open_ct hv hR.fine hD d))) ?_)
   rintro u h' ⟨T,rfl,hu,rfl⟩
   simp only [lC,lN]
   refine st_ok (r:=NR u ((nms l).filter (opn l (ordN l i)))) slq fun hok=>?_
   refine st_cl Z Z en164 Z (Min_ct (nms_own hok) (by omega) hne) ?_
   rintro u2 h' ⟨rfl,rfl⟩
   simp only [lC,lN]
   generalize hmn:minN ((nms l).filter (opn l (ordN l i)))=z at *
   have hord:ordN l (i+1)=ordN l i++[z]:=by rw [ordN,hmn]
   refine sA Z (sK [4,6,7,8,9,21,22] Z (cQ (sV (vY Z ld205) ?_)))
   refine sM Z (st_smapUpdate Z Z Z mp205 slq ?_)
   refine sK [4,6,7,8,9,21,22] Z (cR (sM Z (sM Z ?_)))
   rw [show supd (mvG tV D) z (.bool true)=mvG tV (aupd D z ()) from supd_mvG tV D z ()]
   refine st_buildSlice (cells:=[sv z]) Z Tryz.underlying50 inf9 Z Z (by kernel_rfl) (ltn Z) fun b32=>?_
   refine st_app [nC z] Z Z Tryz.underlying50 inf9 Z (by decide) (show Sel _ (NR w (ordN l i)) _ from slq) (by simp [nC]) Z (fun j u2 hu2=>at_here (rd_cl (by simpa [nC] using hu2))) (by simp [nC,Value.oneCell']) (by rw [List.length_map]; omega) (by rw [List.length_map]; omega) (ltn Z) fun w3 hw3 _=>?_
   rw [show (ordN l i).map nC++[nC z]=(ordN l (i+1)).map nC by rw [hord]; simp]
   refine sA Z (sN (nK [4,6,7,8,21,22] Z (nx_xt (xB (xT (cR (sV (v_add Z Z (by unfold I64 at *; omega)) (sM Z (sN (nK [4,6,7,8,21,22] Z (nx_xt ?_)))))))))))
   refine xt_aq (i+1,w3,aupd D z ()) ⟨hlt,hw3,by show DoneI (ordN l (i+1)) (aupd D z ()); rw [hord]; exact hD.next z⟩ (by show _ - _<_ - _; omega)
  ·have hil:i=l.length:=by
    have:¬ i<l.length:=by simpa using hd
    omega
   subst hil
   refine cd_exit (xE (xE (xY (xT (cQ (sM Z (sA Z (sA Z (sK [2,3] Z (cT ?_))))))))))
   exact xt_rt Z ⟨_,Z,_,Z,hw,Z⟩ sbq
end
end Go.Hr

namespace Go.Hr
open Go Go.RowKit Go.Ck Go.Proofs Go.Proofs.YtaohbfnepjjdgaaGreat Fx
attribute [local irreducible] Go.Ck.Sub St Cd Xt Nx DrL LsW
section
variable {S N T:Res} {v nv:Value} {l:Sys} {ns:List Nm} {kf:FuncId} {cp:Array Value} {g:Nm→Bool}
end
end Go.Hr
namespace Go.Hr
open Go Go.RowKit Go.Ck
theorem v_imax {P : Program} {e : Env} {h : SH} {ty : TypeId} {x y : Operand} {ts : Array TypeId} {a b : Nat} (hx : e.ev? x = some (.int .i64 (a : Int))) (hy : e.ev? y = some (.int .i64 (b : Int))) : Vop P e h (.call { callee := .builtin .max, args := #[x, y], argTypes := ts }) ty (.int .i64 ((max a b : Nat) : Int)) :=
 ⟨by simp,by simp,fun ρ w d pos after g hρ _=>by
  by_cases hab:a≤b
  ·have:(if (b:Int)>(a:Int) then (b:Int) else (a:Int))=(b:Int):=by split <;> omega
   rw [Nat.max_eq_right hab]
   simp [execOp,resolve,invoke,builtin,hρ x _ hx,hρ y _ hy,Builtin.max_,Builtin.max2,this]
   omega
  ·have:(if (b:Int)>(a:Int) then (b:Int) else (a:Int))=(a:Int):=by split <;> omega
   rw [Nat.max_eq_left (by omega)]
   simp [execOp,resolve,invoke,builtin,hρ x _ hx,hρ y _ hy,Builtin.max_,Builtin.max2,this]
   omega⟩
def nlV:Value:=.slice none 0 0
def llC (S:Res) (us:List Value) (xs:List Nm):Prop:=∃ u,us=[u]∧nmsR S u xs
def llR (S:Res) (w:Value) (xss:List (List Nm)):Prop:=Row S 1 (llC S) w xss
def lrow (vals:List Value) (xss:List (List Nm)):Nat→Res:=fun i=>NR (vals.getD i nlV) (xss.getD i [])
def LR (w:Value) (vals:List Value) (xss:List (List Nm)):Res:=Res.star [VR w 50 1 (vals.map fun u=>[u]),RS xss.length (lrow vals xss)]
theorem llR.mono {S S':Res} (hr:∀ p u,Rd S p u→Rd S' p u) {w:Value} {xss:List (List Nm)} (h:llR S w xss):llR S' w xss:=Row.mono h hr fun _ _ _ ⟨u,h1,h2⟩=>⟨u,h1,h2.mono hr⟩
theorem ll_at {S:Res} {w:Value} {xss:List (List Nm)} (h:llR S w xss) {i:Nat} {xs:List Nm} (hi:xss[i]? = some xs):∃ b o cap u,w = .slice (some ⟨b,o,none⟩) xss.length cap∧Rd S ⟨b,o+i * 1,none⟩ u∧nmsR S u xs:=by
 obtain ⟨b,o,cap,u,h1,h2,u',h3,h4⟩:=Row.at1 h hi
 cases h3
 exact ⟨b,o,cap,u,h1,h2,h4⟩
def mixR (rs:List (List Nm)) (k:Nat):List (List Nm):=(rs.take k).map srt++rs.drop k
/-! ## The rows of an order -/
variable {l:Sys}
theorem Tp.take {o : List Nm} (h : Tp l o) (n : Nat) : Tp l (o.take n) := by
 induction h with
 | nil=>simpa using Tp.nil
 | @snoc o c h1 h2 h3 ih =>
  rcases Nat.lt_or_ge o.length n with hn | hn
  ·rw [List.take_of_length_le (by simp; omega)]
   exact h1.snoc h2 h3
  ·rw [List.take_append_of_le_length hn]
   exact ih
end Go.Hr
namespace Go.Hr
open Go Go.RowKit Go.Ck Go.Proofs Go.Proofs.YtaohbfnepjjdgaaGreat Fx
attribute [local irreducible] Go.Ck.Sub St Cd Xt Nx DrL LsW
section
variable {S N T:Res} {v nv:Value} {l:Sys} {ns:List Nm}
end
end Go.Hr
namespace Go.Ck
open Go Go.RowKit
/-! ## Structs of texts -/
def isStr:Option TypeDesc→Bool
 | some .string=>true
 | _=>false
def okStrs (P:Program):List Field→Nat→Bool
 | [],_=>true
 | f :: t, i => (f.name != "_") && isStr (P.underlying f.type) && Nat.beq f.offset i && okStrs P t (i + 1)
def EqS (P:Program) (T:TypeId) (n:Nat):Prop:=P.eqGuardType P.depth T=false∧∀ (xs ys:List Bs) (w:World),xs.length=n→ys.length=n →
 (Op.equalIn 10000 T (.agg (xs.map sv).toArray) (.agg (ys.map sv).toArray)).run P w = .ok (xs == ys) w
theorem isStr_of {o:Option TypeDesc} (h:isStr o=true):o=some .string:=by
 unfold isStr at h; split at h
 ·rfl
 ·cases h
theorem run_part_str {P:Program} {T:TypeId} (hu:P.underlying T=some .string) {xs:List Bs} {i:Nat} {x:Bs} (hx:xs[i]? = some x) (w:World):(part T (xs.map sv).toArray i).run P w = .ok (sv x) w:=by
 have hi:(isAgg T).run P w = .ok false w:=by
  unfold isAgg
  simp only [Sem.run_bind,run_underlying hu,Result.andThen_ok]
  rfl
 unfold part
 have:(xs.map sv).toArray[i]? = some (sv x):=by simp [hx]
 simp only [Sem.run_bind,hi,Result.andThen_ok,Bool.false_eq_true,if_false,this,Sem.run_pure]
theorem run_eqStrs {P : Program} {d : Nat} {xs ys : List Bs} {w : World} : ∀ (fs : List Field) (i : Nat), okStrs P fs i = true → xs.length = i + fs.length → ys.length = i + fs.length →
  (Op.eqFields (d+1) (xs.map sv).toArray (ys.map sv).toArray fs).run P w = .ok (xs.drop i == ys.drop i) w
 | [],i,_,hx,hy=>by
  have h1:xs.drop i=[]:=List.drop_of_length_le (by simp at hx; omega)
  have h2:ys.drop i=[]:=List.drop_of_length_le (by simp at hy; omega)
  rw [h1,h2]
  simp [Op.eqFields]
 | f::t,i,h,hx,hy=>by
  simp only [okStrs,Bool.and_eq_true,bne_iff_ne] at h
  obtain ⟨⟨⟨h1,h2⟩,h3⟩,h4⟩:=h
  have h3':=Nat.eq_of_beq_eq_true h3
  simp only [List.length_cons] at hx hy
  have hxi:i<xs.length:=by omega
  have hyi:i<ys.length:=by omega
  have hu:P.underlying f.type=some .string:=isStr_of h2
  unfold Op.eqFields
  rw [if_pos h1,h3']
  simp only [Sem.run_bind,run_part_str hu (List.getElem?_eq_getElem hxi),run_part_str hu (List.getElem?_eq_getElem hyi),Result.andThen_ok,run_equalIn_string w d f.type _ _ hu,toList_bs]
  have hb:(xs.drop i == ys.drop i)=(xs[i] == ys[i] && (xs.drop (i+1) == ys.drop (i+1))):=by
   rw [List.drop_eq_getElem_cons hxi,List.drop_eq_getElem_cons hyi]; rfl
  rw [hb]
  by_cases he:xs[i]=ys[i]
  ·rw [if_neg (by simp [he]),run_eqStrs t (i+1) h4 (by omega) (by omega),he]
   simp only [beq_self_eq_true,Bool.true_and]
  ·rw [if_pos (by simp [he]),beq_eq_false_iff_ne.2 he]
   rfl
theorem EqS.of {P:Program} {T:TypeId} {fs:Array Field} {n:Nat} (h1:P.underlying T=some (.struct fs)) (h2:P.stoodInHeld T=false) (h3:P.eqGuardType P.depth T=false) (h4:okStrs P fs.toList 0=true) (hn:fs.size=n):EqS P T n:=by
 refine ⟨h3,fun xs ys w hx hy=>?_⟩
 have hf:P.fieldsOf T=fs:=by simp [Program.fieldsOf,h1]
 rw [run_equalIn_struct w 9999 T _ _ (by rw [hf]; exact h1) h2,hf,run_eqStrs fs.toList 0 h4 (by simp [hx,hn]) (by simp [hy,hn])]
 simp
section
variable {P:Program} {e:Env} {h h':SH} {ty:TypeId}
end
end Go.Ck







namespace Go.Hr
open Go Go.RowKit Go.Ck Go.Proofs Go.Proofs.YtaohbfnepjjdgaaGreat Fx
attribute [local irreducible] Go.Ck.Sub St Cd Xt Nx DrL LsW
section
variable {S:Res} {v nv:Value} {l:Sys} {ns:List Nm}
end
end Go.Hr


namespace Go.Hr
open Go Go.RowKit Go.Ck Go.Proofs Go.Proofs.YtaohbfnepjjdgaaGreat Fx
attribute [local irreducible] Go.Ck.Sub St Cd Xt Nx DrL LsW
theorem ok_odd (c:UInt8):(((!(decide (65≤(c.toNat:Int)) && decide ((c.toNat:Int)≤90))) && !(decide (48≤(c.toNat:Int)) && decide ((c.toNat:Int)≤57))) && ((c.toNat:Int) != 95)) = !okB c:=by
 have h1:decide (65≤(c.toNat:Int))=decide (65≤c.toNat):=decide_eq_decide.2 (by omega)
 have h2:decide ((c.toNat:Int)≤90)=decide (c.toNat≤90):=decide_eq_decide.2 (by omega)
 have h3:decide (48≤(c.toNat:Int))=decide (48≤c.toNat):=decide_eq_decide.2 (by omega)
 have h4:decide ((c.toNat:Int)≤57)=decide (c.toNat≤57):=decide_eq_decide.2 (by omega)
 have h5:((c.toNat:Int) != 95) = !(c.toNat == 95):=by
  rw [bne]
  congr 1
  rw [Bool.eq_iff_iff,beq_iff_eq,beq_iff_eq]
  omega
 rw [h1,h2,h3,h4,h5]
 unfold okB upper digit
 rw [Bool.not_or,Bool.not_or]
theorem named_no {u:UInt8} {t:Nm} (h:((((((u::t).length:Int) == 0) || decide (20<((u::t).length:Int))) || decide ((u.toNat:Int)<65)) || decide (90<(u.toNat:Int)))=true):named (u::t)=false:=by
 unfold named upper
 simp only [Bool.or_eq_true,decide_eq_true_eq,beq_iff_eq,List.length_cons] at h
 rw [Bool.and_eq_false_iff,Bool.and_eq_false_iff,Bool.and_eq_false_iff]
 left; left
 rcases h with ((h | h) | h) | h
 ·omega
 ·left; simp; omega
 ·right; simp; omega
 ·right; simp; omega
theorem named_yes {u:UInt8} {t:Nm} (h:((((((u::t).length:Int) == 0) || decide (20<((u::t).length:Int))) || decide ((u.toNat:Int)<65)) || decide (90<(u.toNat:Int)))=false) (h2:∀ c∈u::t,okB c=true):named (u::t) = !reserved.contains (u::t):=by
 have h3:((u::t).all fun b=>upper b || digit b || b.toNat == 95)=true:=List.all_eq_true.2 h2
 unfold named
 simp only [Bool.or_eq_false_iff,decide_eq_false_iff_not,beq_eq_false_iff_ne,List.length_cons] at h
 obtain ⟨⟨⟨a1,a2⟩,a3⟩,a4⟩:=h
 have h4:upper u=true:=by unfold upper; simp; omega
 rw [h3]
 show (decide ((u::t).length≤20) && upper u && true && !reserved.contains (u::t))=_
 rw [h4,show decide ((u::t).length≤20)=true by simp; omega]
 simp
theorem named_odd {u:UInt8} {t:Nm} {c:UInt8} (hc:c∈u::t) (h:okB c=false):named (u::t)=false:=by
 have h3:((u::t).all fun b=>upper b || digit b || b.toNat == 95)=false:=List.all_eq_false.2 ⟨c,hc,by unfold okB at h; rw [h]; decide⟩
 unfold named
 rw [h3]; simp
set_option maxRecDepth 100000 in
theorem namedS_ct (s : Nm) : Reads Tryz.prog 142 #[sv s] [] (.bool (named s)) := by
 cases s with
 | nil =>
  refine ct_of (n:=67) Tryz.func142 Z Z (len Z) fun hr w0=>?_
  refine cQ (sA Z (sN (nT (cS (cQ (sM Z (sV (v_slen Z Tryz.underlying9) (sV (v_eql Z Z) (sM Z (st_sk Z Z Z ?_))))))))))
  iterate 2 refine st_sk rfl rfl rfl ?_
  refine sV (vQ Z Z) (sM Z (st_sk Z Z Z ?_))
  iterate 2 refine st_sk rfl rfl rfl ?_
  refine sV (vQ Z Z) (sM Z (st_sk Z Z Z ?_))
  iterate 2 refine st_sk rfl rfl rfl ?_
  refine sV (vQ Z Z) (sK [0,2,24] Z (cd_true Z ?_))
  refine cQ (sA Z (sK [2] Z (cT (xR ?_))))
  exact xt_rt Z ⟨Z,Z⟩ sbq
 | cons u t =>
  refine ct_of (n:=67) Tryz.func142 Z Z (len Z) fun hr w0=>?_
  refine cQ (sA Z (sN (nT (cS (cQ (sM Z (sV (v_slen Z Tryz.underlying9) (sV (v_eql Z Z) (sM Z (st_cut (k:=8) (d:=14) (v:=.bool ((((u::t).length:Int) == 0) || decide (20<((u::t).length:Int)))) (fun hcut=>bool_want (b:=(((u::t).length:Int) == 0)) false (fun hg=>?_) (fun hg=>?_)) ?_))))))))))
  ·refine st_sk Z Z hg ?_
   iterate 2 refine st_sk rfl rfl hg ?_
   refine sV (vQ (bO Z hg) Z) ?_
   exact hcut _ uG
  ·refine sG Z (bG Z hg) (vM Z) (sG Z (bG Z hg) (v_slen Z Tryz.underlying9) (sG Z (bG Z hg) (v_gtr Z Z) (sV (vP (bO Z hg) Z) ?_)))
   exact hcut _ uG
  refine sM Z (st_cut (k:=13) (d:=19) (v:=.bool (((((u::t).length:Int) == 0) || decide (20<((u::t).length:Int))) || decide ((u.toNat:Int)<65))) (fun hcut=>bool_want (b:=(((u::t).length:Int) == 0) || decide (20<((u::t).length:Int))) false (fun hg=>?_) (fun hg=>?_)) ?_)
  ·refine st_sk Z Z hg ?_
   iterate 2 refine st_sk rfl rfl hg ?_
   refine sV (vQ (bO Z hg) Z) ?_
   exact hcut _ uG
  ·refine sG Z (bG Z hg) (vM Z) (sG Z (bG Z hg) (v_sindex (k:=0) Z Z Tryz.underlying9 Z Z) (sG Z (bG Z hg) (v_lss Z Z) (sV (vP (bO Z hg) Z) ?_)))
   exact hcut _ uG
  refine sM Z (st_cut (k:=18) (d:=24) (v:=.bool ((((((u::t).length:Int) == 0) || decide (20<((u::t).length:Int))) || decide ((u.toNat:Int)<65)) || decide (90<(u.toNat:Int)))) (fun hcut=>bool_want (b:=((((u::t).length:Int) == 0) || decide (20<((u::t).length:Int))) || decide ((u.toNat:Int)<65)) false (fun hg=>?_) (fun hg=>?_)) ?_)
  ·refine st_sk Z Z hg ?_
   iterate 2 refine st_sk rfl rfl hg ?_
   refine sV (vQ (bO Z hg) Z) ?_
   exact hcut _ uG
  ·refine sG Z (bG Z hg) (vM Z) (sG Z (bG Z hg) (v_sindex (k:=0) Z Z Tryz.underlying9 Z Z) (sG Z (bG Z hg) (v_gtr Z Z) (sV (vP (bO Z hg) Z) ?_)))
   exact hcut _ uG
  refine sK [0,2,24] Z (cC Z (fun hx=>?_) (fun hx=>?_))
  ·rw [named_no hx]
   refine cQ (sA Z (sK [2] Z (cT (xR ?_))))
   exact xt_rt Z ⟨Z,Z⟩ sbq
  ·have hl20:(u::t).length≤20:=by
    simp only [Bool.or_eq_false_iff,decide_eq_false_iff_not] at hx
    omega
   have hyes:=named_yes hx
   have hodd := @named_odd u t
   generalize hs:u::t=s at *
   refine cK (xT (cS (cQ (sA Z (sK [0,2,3] Z (cB (cd_lq (σ := Nat) (fun i=>[(0,sv s),(3,.int .i64 (i:Nat))]) (fun _=>hr) (fun i=>i≤s.length∧∀ (j:Nat) c,j<i→s[j]? = some c→okB c=true) (fun i=>s.length - i) 0 ⟨Nat.zero_le _,fun j c hj=>by omega⟩ ?_)))))))
   rintro i ⟨hi,hok⟩
   refine cS (cQ (sM Z (sM Z (sV (v_slen Z Tryz.underlying9) (sV (v_lss Z Z) (sK [0,3,28] Z (cC Z (fun hd=>?_) (fun hd=>?_))))))))
   ·have hlt:i<s.length:=by simpa using hd
    have hci:=List.getElem?_eq_getElem hlt
    have hcm:s[i]∈s:=List.getElem_mem hlt
    generalize s[i]=c at *
    refine cK (xT (cS (cB (cQ (sM Z (sM Z (sV (v_sindex (k:=i) Z Z Tryz.underlying9 Z hci) (sV (v_geq Z Z) (sM Z (st_cut (k:=10) (d:=40) (v:=.bool (decide (65≤(c.toNat:Int)) && decide ((c.toNat:Int)≤90))) (fun hcut=>bool_want (b:=decide (65≤(c.toNat:Int))) true (fun hg=>?_) (fun hg=>?_)) ?_))))))))))
    ·refine st_sk Z Z hg ?_
     iterate 3 refine st_sk rfl rfl hg ?_
     refine sV (vP (bO Z hg) Z) ?_
     exact hcut _ uG
    ·refine sG Z (bG Z hg) (vM Z) (sG Z (bG Z hg) (vM Z) (sG Z (bG Z hg) (v_sindex (k:=i) Z Z Tryz.underlying9 Z hci) (sG Z (bG Z hg) (v_leq Z Z) (sV (vQ (bO Z hg) Z) ?_))))
     exact hcut _ uG
    refine sA Z (sK [0,3,4] Z (cQ (sM Z (sM Z (sV (v_sindex (k:=i) Z Z Tryz.underlying9 Z hci) (sV (v_geq Z Z) (sM Z (st_cut (k:=10) (d:=50) (v:=.bool (decide (48≤(c.toNat:Int)) && decide ((c.toNat:Int)≤57))) (fun hcut=>bool_want (b:=decide (48≤(c.toNat:Int))) true (fun hg=>?_) (fun hg=>?_)) ?_))))))))
    ·refine st_sk Z Z hg ?_
     iterate 3 refine st_sk rfl rfl hg ?_
     refine sV (vP (bO Z hg) Z) ?_
     exact hcut _ uG
    ·refine sG Z (bG Z hg) (vM Z) (sG Z (bG Z hg) (vM Z) (sG Z (bG Z hg) (v_sindex (k:=i) Z Z Tryz.underlying9 Z hci) (sG Z (bG Z hg) (v_leq Z Z) (sV (vQ (bO Z hg) Z) ?_))))
     exact hcut _ uG
    refine sA Z (sK [0,3,4,5] Z (cQ (sM Z (sV (v_not Z) (sM Z (st_cut (k:=6) (d:=56) (v:=.bool ((!(decide (65≤(c.toNat:Int)) && decide ((c.toNat:Int)≤90))) && !(decide (48≤(c.toNat:Int)) && decide ((c.toNat:Int)≤57)))) (fun hcut=>bool_want (b:=(!(decide (65≤(c.toNat:Int)) && decide ((c.toNat:Int)≤90)))) true (fun hg=>?_) (fun hg=>?_)) ?_))))))
    ·refine st_sk Z Z hg ?_
     refine st_sk Z Z hg ?_
     refine sV (vP (bO Z hg) Z) ?_
     exact hcut _ uG
    ·refine sG Z (bG Z hg) (vM Z) (sG Z (bG Z hg) (v_not Z) (sV (vQ (bO Z hg) Z) ?_))
     exact hcut _ uG
    refine sM Z (st_cut (k:=12) (d:=62) (v:=.bool (((!(decide (65≤(c.toNat:Int)) && decide ((c.toNat:Int)≤90))) && !(decide (48≤(c.toNat:Int)) && decide ((c.toNat:Int)≤57))) && ((c.toNat:Int) != 95))) (fun hcut=>bool_want (b:=((!(decide (65≤(c.toNat:Int)) && decide ((c.toNat:Int)≤90))) && !(decide (48≤(c.toNat:Int)) && decide ((c.toNat:Int)≤57)))) true (fun hg=>?_) (fun hg=>?_)) ?_)
    ·refine st_sk Z Z hg ?_
     iterate 3 refine st_sk rfl rfl hg ?_
     refine sV (vP (bO Z hg) Z) ?_
     exact hcut _ uG
    ·refine sG Z (bG Z hg) (vM Z) (sG Z (bG Z hg) (vM Z) (sG Z (bG Z hg) (v_sindex (k:=i) Z Z Tryz.underlying9 Z hci) (sG Z (bG Z hg) (v_neq Z Z) (sV (vQ (bO Z hg) Z) ?_))))
     exact hcut _ uG
    refine sK [0,3,62] Z ?_
    rw [ok_odd]
    refine cC Z (fun hc=>?_) (fun hc=>?_)
    ·have hc:okB c=false:=by simpa using hc
     rw [hodd hcm hc]
     refine cQ (sA Z (sK [2] Z (cT (xW (xR (xR (xW (xR ?_))))))))
     exact xt_rt Z ⟨Z,Z⟩ sbq
    ·have hc:okB c=true:=by simpa using hc
     refine cK (xB (xT (cR (sM Z (sV (v_add Z Z (by unfold I64 at *; omega)) (sA Z (sN (nK [0,3] Z (nx_xt (xt_aq (i+1) ⟨hlt,fun j c' hj hc'=>?_⟩ (by show _ - _<_ - _; omega)))))))))))
     by_cases hji:j=i
     ·subst hji; rw [hci] at hc'; cases hc'; exact hc
     ·exact hok j c' (by omega) hc'
   ·have hie:i=s.length:=by
     have:¬ i<s.length:=by simpa using hd
     omega
    rw [hyes fun c hc=>by
     obtain ⟨j,hj,rfl⟩:=List.getElem_of_mem hc
     exact hok j _ (by omega) (List.getElem?_eq_getElem hj)]
    refine cd_exit (xE (xE (xY (xT (cQ (sM Z (st_clr Z Z en166 Z (reserved_ct s) ?_)))))))
    refine sA Z (sK [6] Z (cQ (sM Z (sV (v_not Z) (sA Z (sK [2] Z (cT ?_)))))))
    exact xt_rt Z ⟨Z,Z⟩ sbq
theorem idx_le {l : Sys} {i : Nat} {x : Cls} (hx : l[i]? = some x) : ∃ k, idx l x.name = some k ∧ k ≤ i := by
 cases hh:idx l x.name with
 | none =>
  unfold idx at hh
  rw [List.findIdx?_eq_none_iff] at hh
  have:=hh x (List.mem_of_getElem? hx)
  simp at this
 | some k =>
  refine ⟨k,Z,?_⟩
  obtain ⟨_,_,h3⟩:=List.findIdx?_eq_some_iff_getElem.1 hh
  rcases Nat.lt_or_ge i k with h | h
  ·have:=h3 i h
   obtain ⟨_,he⟩:=List.getElem?_eq_some_iff.1 hx
   rw [he] at this; simp at this
  ·exact h
section
variable {S:Res} {v:Value} {l:Sys}
set_option maxRecDepth 100000 in
theorem aloneS_ct (hv : sysR S v l) (hl : l.length ≤ 1000000) {i : Nat} {x : Cls} (hx : l[i]? = some x) : Reads Tryz.prog 84 #[v, .int .i64 (i : Int)] [S] (.int .i64 (alone l i x)) := by
 obtain ⟨la,cap,rfl,_⟩:=id hv
 obtain ⟨hil,_⟩:=List.getElem?_eq_some_iff.1 hx
 obtain ⟨b,o,cap2,d,f,pa,pc,c2,fa,fc,j2,hv2,hrd,hP,hone⟩:=sys_at hv hx
 obtain ⟨ki,hki,hkle⟩:=idx_le hx
 have hix:ixN l x.name=(ki:Int):=by unfold ixN; rw [hki]
 refine ct_of (n:=66) Tryz.func84 Z Z (len Z) fun hr w0=>?_
 refine cQ (sA Z (sN (nT (cS (cQ (sM Z (sM Z (sV (vI (k:=i) (congrArg some hv2) Z sl22 Z hil Z) (sV (vF Z fa54_3 Z) (sV (vY Z ld49) ?_))))))))))
 refine sV (v_len Z Tryz.underlying49) (sV (v_gtr Z Z) (sK [0,1,4,14] Z (cC Z (fun h4=>?_) (fun h4=>?_))))
 ·have h4:4<x.parents.length:=by
   have:(4:Int)<x.parents.length:=by simpa using h4
   omega
  rw [show alone l i x=3 by unfold alone; rw [if_pos h4]]
  refine cQ (sA Z (sK [4] Z (cT (xR ?_))))
  exact xt_rt Z ⟨Z,Z⟩ sbq
 ·have h4:¬ 4<x.parents.length:=by
   have:¬ (4:Int)<x.parents.length:=by simpa using h4
   omega
  refine cK (xT (cQ (sM Z (sM Z (sV (vI (k:=i) (congrArg some hv2) Z sl22 Z hil Z) (sV (vF Z fa54_0 Z) (sV (vY Z ld9) ?_)))))))
  refine st_clr Z Z en142 Z (namedS_ct x.name) ?_
  refine sA Z (sK [0,1,4,5] Z (cS (cQ (sM Z (sV (v_not Z) (sK [0,1,4,22] Z (cC Z (fun hn=>?_) (fun hn=>?_))))))))
  ·have hn:named x.name=false:=by simpa using hn
   rw [show alone l i x=4 by unfold alone; rw [if_neg h4,if_pos hn]]
   refine cQ (sA Z (sK [4] Z (cT (xR ?_))))
   exact xt_rt Z ⟨Z,Z⟩ sbq
  ·have hn:named x.name=true:=by simpa using hn
   refine cK (xT (cS (cQ (sM Z (sM Z (sM Z (sV (vI (k:=i) (congrArg some hv2) Z sl22 Z hil Z) (sV (vF Z fa54_0 Z) (sV (vY Z ld9) ?_)))))))))
   refine st_clr Z Z en85 Z (index_ct hv x.name (by omega)) ?_
   rw [hix]
   refine sM Z (sV (v_lss Z Z) (sK [0,1,4,31] Z (cC Z (fun hk=>?_) (fun hk=>?_))))
   ·have hk:ki<i:=by
     have:(ki:Int)<i:=by simpa using hk
     omega
    rw [show alone l i x=6 by unfold alone; rw [if_neg h4,if_neg (by rw [hn]; decide),if_pos (.inl (by rw [hki]; intro e; cases e; omega))]]
    refine cQ (sA Z (sK [4] Z (cT (xR ?_))))
    exact xt_rt Z ⟨Z,Z⟩ sbq
   ·have hk:ki=i:=by
     have:¬ (ki:Int)<i:=by simpa using hk
     omega
    subst hk
    have ha6:¬ x.parents.Nodup→alone l ki x=6:=fun h=>by unfold alone; rw [if_neg h4,if_neg (by rw [hn]; decide),if_pos (.inr h)]
    have ha0:x.parents.Nodup→alone l ki x=0:=fun h=>alone_zero.2 ⟨by omega,hn,hki,h⟩
    refine cK (xT (cS (cQ (sA Z (sK [0,1,4,6] Z (cB (cd_lq (σ := Nat) (fun k=>[(0,.slice la l.length cap),(1,.int .i64 (ki:Nat)),(6,.int .i64 (k:Nat))]) (fun _=>S::hr) (fun k=>k≤x.parents.length∧∀ (a b:Nat) (ha:a<x.parents.length) (hb:b<x.parents.length),a<b→b<k→x.parents[a]≠x.parents[b]) (fun k=>x.parents.length - k) 0 ⟨Nat.zero_le _,fun a b ha hb h1 h2=>by omega⟩ ?_)))))))
    rintro k ⟨hkl,hne⟩
    refine cS (cQ (sM Z (sM Z (sM Z (sV (vI (k:=ki) (congrArg some hv2) Z sl22 Z hil Z) (sV (vF Z fa54_3 Z) (sV (vY Z ld49) ?_)))))))
    refine sV (v_len Z Tryz.underlying49) (sV (v_lss Z Z) (sK [0,1,6,39] Z (cC Z (fun hd=>?_) (fun hd=>?_))))
    ·have hklt:k<x.parents.length:=by simpa using hd
     obtain ⟨pb,po,pcap,q1,q2,q3,q4,q5,hpv,hprd,hpone⟩:=par_at hP (List.getElem?_eq_getElem hklt)
     refine cK (xT (cS (cB (cQ (sA Z (sK [0,1,6,7] Z (cB (cd_lq (σ := Nat) (fun j=>[(0,.slice la l.length cap),(1,.int .i64 (ki:Nat)),(6,.int .i64 (k:Nat)),(7,.int .i64 (j:Nat))]) (fun _=>S::hr) (fun j=>j≤k∧∀ (a:Nat) (ha:a<x.parents.length),a<j→x.parents[a]≠x.parents[k]) (fun j=>k - j) 0 ⟨Nat.zero_le _,fun a ha h1=>by omega⟩ ?_))))))))
     rintro j ⟨hjk,hnj⟩
     refine cS (cQ (sM Z (sM Z (sV (v_lss Z Z) (sK [0,1,6,7,44] Z (cC Z (fun hd2=>?_) (fun hd2=>?_)))))))
     ·have hjlt:j<k:=by
       have:(j:Int)<k:=by simpa using hd2
       omega
      have hjl:j<x.parents.length:=by omega
      obtain ⟨ub,uo,ucap,r1,r2,r3,r4,r5,huv,hurd,huone⟩:=par_at hP (List.getElem?_eq_getElem hjl)
      refine cK (xT (cS (cB (cS (cd_drawh (ork [(0,2),(1,2),(2,2),(3,2),(4,1),(5,2),(6,2),(7,2),(8,1),(9,2),(10,2),(11,2),(12,2),(13,1),(14,2),(15,2),(16,2),(17,1),(18,1)] .nil) (fun _=>true) mixed (by kernel_rfl) ?_)))))
      refine dV Z (vM Z) (dV Z (vM Z) (dV Z (vI (k:=ki) (congrArg some hv2) Z sl22 Z hil Z) (dV Z (vF Z fa54_3 Z) (dr_v Z (vY Z ld49) ?_))))
      refine dV Z (vM Z) (dV Z (vI (k:=j) (congrArg some huv) Z sl49 Z hjl Z) (dV Z (vF Z fa79_0 Z) (dr_v Z (vY Z ld9) ?_)))
      refine dV Z (vM Z) (dV Z (vM Z) (dV Z (vI (k:=ki) (congrArg some hv2) Z sl22 Z hil Z) (dV Z (vF Z fa54_3 Z) (dr_v Z (vY Z ld49) ?_))))
      refine dV Z (vM Z) (dV Z (vI (k:=k) (congrArg some hpv) Z sl49 Z hklt Z) (dV Z (vF Z fa79_0 Z) (dr_v Z (vY Z ld9) ?_)))
      refine dr_v Z (v_seql Z Z) (dr_nil (nK [0,1,6,7,65] Z (nT (cC Z (fun he=>?_) (fun he=>?_)))))
      ·have he:x.parents[j]=x.parents[k]:=by simpa using he
       rw [ha6 fun hnd=>List.pairwise_iff_getElem.1 (List.nodup_iff_pairwise_ne.1 hnd) j k hjl hklt hjlt he]
       refine cQ (sA Z (sK [4] Z (cT (xW (xR (xR (xW (xW (xR (xR (xW (xR ?_))))))))))))
       exact xt_rt Z ⟨Z,Z⟩ sbq
      ·have he:x.parents[j]≠x.parents[k]:=by simpa using he
       refine cK (xB (xT (cR (sM Z (sV (v_add Z Z (by unfold I64 at *; omega)) (sA Z (sN (nK [0,1,6,7] Z (nx_xt (xt_aq (j+1) ⟨hjlt,fun a ha h1=>?_⟩ (by show _ - _<_ - _; omega)))))))))))
       by_cases haj:a=j
       ·subst haj; exact he
       ·exact hnj a ha (by omega)
     ·have hje:j=k:=by
       have:¬ (j:Int)<k:=by simpa using hd2
       omega
      refine cd_exit (xE (xE (xY (xB (xT (cR (sM Z (sV (v_add Z Z (by unfold I64 at *; omega)) (sA Z (sN (nK [0,1,6] Z (nx_xt (xt_aq (k+1) ⟨hklt,fun a b ha hb h1 h2=>?_⟩ (by show _ - _<_ - _; omega))))))))))))))
      by_cases hbk:b=k
      ·subst hbk; exact hnj a ha (by omega)
      ·exact hne a b ha hb h1 (by omega)
    ·have hke:k=x.parents.length:=by
      have:¬ k<x.parents.length:=by simpa using hd
      omega
     rw [ha0 (List.nodup_iff_pairwise_ne.2 (List.pairwise_iff_getElem.2 fun a b ha hb h1=>hne a b ha hb h1 (by omega)))]
     refine cd_exit (xE (xE (xY (xT (cQ (sA Z (sK [4] Z (cT ?_))))))))
     exact xt_rt Z ⟨Z,Z⟩ sbq
end
end Go.Hr
namespace Go.Ck
open Go Go.RowKit
theorem v_app_nils {P:Program} {e:Env} {h:SH} {t E ty:TypeId} {x y:Operand} {z:Value} {sz bytes:Nat} {a:Option Addr} {n cp:Nat} (hx:e.ev? x=some (.slice a n cp)) (hy:e.ev? y=some (.slice none 0 0)) (hT:P.underlying t=some (.slice E)) (hE:Inf P E z sz bytes) (hn:n≤cp):Vop P e h (.call { callee:=.builtin .append,args := #[x,y],argTypes := #[t,t] }) ty (.slice a n cp):=
 ⟨by simp,by simp,fun ρ w d pos after g hρ _=>by
  obtain ⟨i,hi,hz,hisz,hiby⟩:=hE.parts
  cases a <;> simp [execOp,resolve,invoke,builtin,hρ x _ hx,hρ y _ hy,Builtin.append_,run_underlying hT,sizeOf,typeInfo,hi,Builtin.lenOf,Builtin.firstCells,loadCells,loadCellsFrom,hn,storeCells]⟩
section
variable {α : Type} {S:Res} {sz:Nat} {X:List Value → α → Prop}
theorem Row.take {a:Option Addr} {n cp k:Nat} {l:List α} (h:Row S sz X (.slice a n cp) l) (hk:k≤l.length):Row S sz X (.slice a k cp) (l.take k):=by
 obtain ⟨a',cap,he,h2,h3,h4,h5⟩:=h
 cases he
 refine ⟨a,cp,by rw [List.length_take,Nat.min_eq_left hk],by rw [List.length_take]; omega,h3,h4,fun i x hi=>?_⟩
 rw [List.getElem?_take] at hi
 split at hi
 ·exact h5 i x hi
 ·cases hi
theorem Row.drop {b o n cp k:Nat} {l:List α} (h:Row S sz X (.slice (some ⟨b,o,none⟩) n cp) l) (hk:k≤l.length):Row S sz X (.slice (some ⟨b,if cp=k then o else o+k * sz,none⟩) (n - k) (cp - k)) (l.drop k):=by
 obtain ⟨a',cap,he,h2,h3,h4,h5⟩:=h
 cases he
 refine ⟨_,_,by rw [List.length_drop],by rw [List.length_drop]; omega,by omega,(fun h=>by cases h),fun i x hi=>?_⟩
 rw [List.getElem?_drop] at hi
 have hlt:=(List.getElem?_eq_some_iff.1 hi).1
 obtain ⟨b2,o2,us,e,h6,h7,h8⟩:=h5 (k+i) x hi
 cases e
 refine ⟨_,_,us,Z,h6,?_,h8⟩
 rw [if_neg (by omega),Nat.add_assoc,← Nat.add_mul]; exact h7
variable {c:Cx} {ops:Array Oper} {K:Act→World→Prop} {rest:List Oper} {e:Env} {h h' h'':SH}
theorem st_apr {l : List α} {v v1 z : Value} {E t ty : TypeId} {bytes d : Nat} {x y : Operand} {pos : String} {after : Array Edge} {rows : List (List Value)} (hv : Row S sz X v l)
  (hx:e.ev? x=some v1) (hy:e.ev? y=some v) (ht:c.P.underlying t=some (.slice E)) (hE:Inf c.P E z sz bytes) (hzs:z.cells.size=sz) (hsz:0<sz)
  (hs:Sel h (VR v1 E sz rows) h') (hS:Sel h' S h'') (h1:∀ us x,x∈l→X us x→∀ u∈us,u.oneCell'=true) (hb:(rows.length+l.length) * bytes≤140737488355328) (h63:rows.length+l.length≤9223372036854775807) (hd:d<c.n)
  (hnx:∀ v' news,v'.oneCell'=true→news.length=l.length→(∀ r∈news,r.length=sz)→(∀ (i:Nat) us x,news[i]? = some us→l[i]? = some x→X us x)→St c ops K rest ((d,v')::e) (VR v' E sz (rows++news)::h')) :
  St c ops K (⟨some d,.call { callee:=.builtin .append,args := #[x,y],argTypes := #[t,t] },ty,pos,after,none⟩::rest) e h:=by
 obtain ⟨a,cap,rfl,hlc,hcm,hnone,hel⟩:=id hv
 have key:St c ops K (⟨some d,.call { callee:=.builtin .append,args := #[x,y],argTypes := #[t,t] },ty,pos,after,none⟩::rest) e (VR v1 E sz rows::h'):=by
  cases a with
  | none =>
   have hc0:cap=0:=hnone rfl
   have hl0:l=[]:=List.eq_nil_of_length_eq_zero (by omega)
   subst hl0 hc0
   refine st_ok .here fun ⟨f,hf⟩=>?_
   have hn:=hnx v1 []
   rw [List.append_nil] at hn
   rcases VR.form hf with ⟨rfl,g1⟩ | ⟨b,o,cp,rfl,g1,g2⟩
   ·exact st_val (v_app_nils hx hy ht hE (Nat.le_refl _)) hd (hn Z Z (by simp) fun i us x h=>by simp at h)
   ·exact st_val (v_app_nils hx hy ht hE g1) hd (hn Z Z (by simp) fun i us x h=>by simp at h)
  | some a =>
   obtain ⟨news,r1,r2,r3,r4⟩:=hv.cells
   exact st_appA news hx hy ht hE hzs hsz .here r2 r1 (fun j u hu=>by obtain ⟨b2,o,hb2,hr⟩:=r4 j u hu; cases hb2; rw [Addr.add_lit]; exact ⟨S,_,.there hS,hr⟩) (fun u hu=>by obtain ⟨us,h2,h3⟩:=List.mem_flatten.1 hu; obtain ⟨i,hi,rfl⟩:=List.mem_iff_getElem.1 h2; exact h1 _ l[i] (List.getElem_mem _) (r3 i _ _ (List.getElem?_eq_getElem hi) (List.getElem?_eq_getElem (by omega))) u h3) hb h63 hd fun v' hv' _=>hnx v' news hv' r1 r2 r3
 exact St.perm hs.perm key
end
end Go.Ck
namespace Go.Hr
open Go Go.RowKit Go.Ck Go.Proofs Go.Proofs.YtaohbfnepjjdgaaGreat Fx
attribute [local irreducible] Go.Ck.Sub St Cd Xt Nx DrL LsW
theorem lexLt_cons_same {a:Nm} {x y:List Nm}:lexLt (a::x) (a::y)=lexLt x y:=by simp [lexLt,lt_irrefl]
theorem lexLt_cons_ne {a b:Nm} {x y:List Nm} (h:a≠b):lexLt (a::x) (b::y)=lt a b:=by simp [lexLt,h]
theorem news_names {news:List (List Value)} {xs:List Nm} (h1:news.length=xs.length) (h2:∀ (i:Nat) us x,news[i]? = some us→xs[i]? = some x→strC us x):news=xs.map nC:=by
 apply List.ext_getElem (by simpa using h1)
 intro i hi hi2
 rw [List.getElem_map]
 exact h2 i _ _ (List.getElem?_eq_getElem hi) (List.getElem?_eq_getElem (by omega))
theorem str_one {us:List Value} {x:Nm} (h:strC us x):∀ u∈us,u.oneCell'=true:=fun u hu=>by
 unfold strC at h
 subst h
 simp at hu
 subst hu; rfl
section
variable {S S':Res} {v v':Value}
set_option maxRecDepth 100000 in
theorem Before_ct {xs ys : List Nm} (hv : nmsR S v xs) (hv' : nmsR S' v' ys) (hl : xs.length ≤ 1099511627776) (hl' : ys.length ≤ 1099511627776) : Reads Tryz.prog 143 #[v, v'] [S, S'] (.bool (lexLt xs ys)) := by
 obtain ⟨a,cap,rfl,_⟩:=id hv
 obtain ⟨a',cap',rfl,_⟩:=id hv'
 refine ct_of (n:=41) Tryz.func143 Z Z (len Z) fun hr w0=>?_
 refine cQ (sA Z (sN (nT (cS (cQ (sA Z (sN (nT (cB (cd_lq (σ := Nat) (fun i=>[(0,.slice a xs.length cap),(1,.slice a' ys.length cap'),(5,.int .i64 (i:Nat))]) (fun _=>S::S'::hr) (fun i=>i≤xs.length∧i≤ys.length∧lexLt xs ys=lexLt (xs.drop i) (ys.drop i)) (fun i=>xs.length - i) 0 ⟨Nat.zero_le _,Nat.zero_le _,Z⟩ ?_))))))))))
 rintro i ⟨hi,hi',hne⟩
 refine cS (cQ (sM Z (sM Z (sV (v_len Z Tryz.underlying50) (sV (v_lss Z Z) (sM Z (st_cut (k:=10) (d:=15) (v:=.bool (decide ((i:Int)<xs.length) && decide ((i:Int)<ys.length))) (fun hcut=>bool_want (b:=decide ((i:Int)<xs.length)) true (fun hg=>?_) (fun hg=>?_)) ?_)))))))
 ·refine st_sk Z Z hg ?_
  iterate 3 refine st_sk rfl rfl hg ?_
  refine sV (vP (bO Z hg) Z) ?_
  exact hcut _ uG
 ·refine sG Z (bG Z hg) (vM Z) (sG Z (bG Z hg) (vM Z) (sG Z (bG Z hg) (v_len Z Tryz.underlying50) (sG Z (bG Z hg) (v_lss Z Z) (sV (vQ (bO Z hg) Z) ?_))))
  exact hcut _ uG
 refine sK [0,1,5,15] Z (cC Z (fun hd=>?_) (fun hd=>?_))
 ·have hlt:i<xs.length:=by have:=of_decide_eq_true (Bool.and_eq_true_iff.1 hd).1; omega
  have hlt':i<ys.length:=by have:=of_decide_eq_true (Bool.and_eq_true_iff.1 hd).2; omega
  obtain ⟨b,o,cap2,hv2,hrd⟩:=nms_at hv (List.getElem?_eq_getElem hlt)
  obtain ⟨b',o',cap2',hv2',hrd'⟩:=nms_at hv' (List.getElem?_eq_getElem hlt')
  have e1:xs.drop i=xs[i]::xs.drop (i+1):=(List.getElem_cons_drop hlt).symm
  have e2:ys.drop i=ys[i]::ys.drop (i+1):=(List.getElem_cons_drop hlt').symm
  rw [e1,e2] at hne
  refine cK (xT (cS (cB (cS (cd_drawh (ork [(0,2),(1,2),(2,2),(3,1),(4,2),(5,2),(6,2),(7,1),(8,1)] .nil) (fun _=>true) mixed (by kernel_rfl) ?_)))))
  refine dV Z (vM Z) (dV Z (vM Z) (dV Z (vI (k:=i) (congrArg some hv2) Z sl50 Z hlt Z) (dr_v Z (vY Z ld9) ?_)))
  refine dV Z (vM Z) (dV Z (vM Z) (dV Z (vI (k:=i) (congrArg some hv2') Z sl50 Z hlt' Z) (dr_v Z (vY Z ld9) ?_)))
  refine dr_v Z (v_sneq Z Z) (dr_nil (nK [0,1,5,26] Z (nT (cC Z (fun he=>?_) (fun he=>?_)))))
  ·have he:xs[i]≠ys[i]:=fun e=>by rw [e] at he; simp at he
   rw [lexLt_cons_ne he] at hne
   rw [hne]
   refine cS (cd_drawh (ork [(0,2),(1,2),(2,2),(3,1),(4,2),(5,2),(6,2),(7,1),(8,2),(9,2)] .nil) (fun _=>true) mixed (by kernel_rfl) ?_)
   refine dV Z (vM Z) (dV Z (vM Z) (dV Z (vI (k:=i) (congrArg some hv2) Z sl50 Z hlt Z) (dr_v Z (vY Z ld9) ?_)))
   refine dV Z (vM Z) (dV Z (vM Z) (dV Z (vI (k:=i) (congrArg some hv2') Z sl50 Z hlt' Z) (dr_v Z (vY Z ld9) ?_)))
   refine dV Z (v_slss Z Z) (dV Z (vA Z) (dr_nil (nK [4] Z (nT (cT (xW (xR (xR (xW (xR ?_))))))))))
   exact xt_rt Z ⟨Z,Z⟩ sbq
  ·have he:xs[i]=ys[i]:=by simpa using he
   rw [he,lexLt_cons_same] at hne
   refine cK (xB (xT (cR (sM Z (sV (v_add Z Z (by unfold I64 at *; omega)) (sA Z (sN (nK [0,1,5] Z (nx_xt ?_)))))))))
   refine xt_aq (i+1) ⟨hlt,hlt',hne⟩ (by show _ - _<_ - _; omega)
 ·refine cd_exit (xE (xE (xY (xT (cQ (sM Z (sV (v_len Z Tryz.underlying50) (sM Z (sV (v_len Z Tryz.underlying50) (sV (v_lss Z Z) (sA Z (sK [4] Z ?_))))))))))))
  refine cT ?_
  have hend : lexLt xs ys = decide ((xs.length : Int) < ys.length) := by
   rw [hne]
   rcases Nat.lt_or_ge i xs.length with h1 | h1
   ·have h2:i=ys.length:=by
     rcases Bool.and_eq_false_iff.1 hd with h | h <;> have:=of_decide_eq_false h <;> omega
    rw [List.drop_of_length_le (by omega:ys.length≤i)]
    rw [show decide ((xs.length:Int)<ys.length)=false by simp; omega]
    cases xs.drop i <;> rfl
   ·rw [List.drop_of_length_le h1]
    rcases Nat.lt_or_ge i ys.length with h2 | h2
    ·rw [← List.getElem_cons_drop h2]
     rw [show decide ((xs.length:Int)<ys.length)=true by simp; omega]
     rfl
    ·rw [List.drop_of_length_le h2]
     rw [show decide ((xs.length:Int)<ys.length)=false by simp; omega]
     rfl
  rw [hend]
  exact xt_rt Z ⟨Z,Z⟩ sbq
end
end Go.Hr
