/-
  Go's library: slices.Reverse of names. Condition: the names are owned.
  Package kind: the class types to which a type conforms. Conditions: what is read; a right system.
  Package kind: lists of types searched,sifted by a given function. Conditions: what is read,what the function says.
  Package kind: the functions within joins. Conditions: what is read; a right system.
  A store of a whole row. Generic. No condition.
-/
import Derived.Test.YtaohbfnepjjdgaaGreatM15
set_option linter.unusedVariables false
set_option linter.unusedSimpArgs false
namespace Go.Hr
open Go Go.RowKit Go.Ck Go.Proofs Go.Proofs.YtaohbfnepjjdgaaGreat Fx
attribute [local irreducible] Go.Ck.Sub St Cd Xt Nx DrL LsW
section
variable {xs ys:List Nm} {v:Value}
def Rv (xs ys:List Nm) (j:Nat):Prop:=ys.length=xs.length∧∀ i,i<xs.length→ys[i]? = if i<j∨xs.length≤i+j then xs[xs.length - 1 - i]? else xs[i]?
theorem Rv.zero:Rv xs xs 0:=⟨rfl,fun i hi=>by rw [if_neg (by omega)]⟩
theorem Rv.step {j : Nat} (h : Rv xs ys j) (hj : j < xs.length - 1 - j) {p q : Nm} (hp : ys[j]? = some p) (hq : ys[xs.length - 1 - j]? = some q) : Rv xs ((ys.set j q).set (xs.length - 1 - j) p) (j + 1) := by
 obtain ⟨h1,h2⟩:=h
 refine ⟨by simp [h1],fun i hi=>?_⟩
 have e1:=h2 j (by omega)
 have e2:=h2 (xs.length - 1 - j) (by omega)
 rw [if_neg (by omega),hp] at e1
 rw [if_neg (by omega),hq] at e2
 rw [List.getElem?_set,List.getElem?_set]
 by_cases hi1:xs.length - 1 - j=i
 ·rw [if_pos hi1,if_pos (by simp [h1]; omega),if_pos (by omega),show xs.length - 1 - i=j by omega,e1]
 ·rw [if_neg hi1]
  by_cases hi2:j=i
  ·subst hi2
   rw [if_pos rfl,if_pos (by omega),if_pos (by omega),e2]
  ·rw [if_neg hi2,h2 i hi]
   by_cases hc:i<j∨xs.length≤i+j
   ·rw [if_pos hc,if_pos (by omega)]
   ·rw [if_neg hc,if_neg (by omega)]
theorem Rv.done {j:Nat} (h:Rv xs ys j) (hj:¬ (j:Int)<(xs.length:Int) - 1 - j):ys=xs.reverse:=by
 obtain ⟨h1,h2⟩:=h
 apply List.ext_getElem?
 intro i
 by_cases hi:i<xs.length
 ·rw [h2 i hi,List.getElem?_reverse hi]
  by_cases hc:i<j∨xs.length≤i+j
  ·rw [if_pos hc]
  ·rw [if_neg hc,show xs.length - 1 - i=i by omega]
 ·rw [List.getElem?_eq_none (by omega),List.getElem?_eq_none (by simp; omega)]
set_option maxRecDepth 100000 in
theorem Reverse_ct:Ct Tryz.prog 104 #[v] [NR v xs] fun u h'=>u = .tuple #[]∧h'=[NR v xs.reverse]:=by
 have hml:maxLen=9223372036854775807:=rfl
 refine ct_of (n:=28) Tryz.func104 Z Z (len Z) fun hr w0=>?_
 refine cd_ok (r:=NR v xs) slq fun hok=>?_
 obtain ⟨a,cap,rfl,hlc,hcm,_⟩:=id (nms_own hok)
 clear hok
 refine cQ (sM Z (sV (v_len Z Tryz.underlying50) (sV (v_sub Z Z (by unfold I64 at *; omega)) (sA Z (sA Z (sK [0,2,3] Z (cB (cd_lq (σ := List Nm×Nat×Int) (fun q=>[(0,.slice a xs.length cap),(2,.int .i64 (q.2.1:Nat)),(3,.int .i64 q.2.2)]) (fun q=>NR (.slice a xs.length cap) q.1::hr) (fun q=>q.2.1≤xs.length∧q.2.2=(xs.length:Int) - 1 - (q.2.1:Nat)∧Rv xs q.1 q.2.1) (fun q=>xs.length - q.2.1) (xs,0,(xs.length:Int) - 1) ⟨Nat.zero_le _,by show (xs.length:Int) - 1=(xs.length:Int) - 1 - (0:Nat); omega,Rv.zero⟩ ?_))))))))
 rintro ⟨ys,j,z⟩ ⟨hj,hz,hrv⟩
 simp only at hj hz hrv
 dsimp only
 refine cS (cQ (sM Z (sM Z (sV (v_lss Z Z) (sK [0,2,3,9] Z (cC Z (fun hd=>?_) (fun hd=>?_)))))))
 ·have hd:(j:Int)<z:=of_decide_eq_true hd
  have hd:(j:Int)<(xs.length:Int) - 1 - j:=by omega
  refine cd_ok (r:=NR (.slice a xs.length cap) ys) slq fun hok=>?_
  have hnr:=nms_own hok
  have hyl:=hrv.1
  have hlt1:j<ys.length:=by omega
  have hlt2:xs.length - 1 - j<ys.length:=by omega
  have hg1:=List.getElem?_eq_getElem hlt1
  have hg2:=List.getElem?_eq_getElem hlt2
  obtain ⟨b,o,cap2,u,e1,hr1,hX⟩:=Row.at1 hnr hg1
  obtain ⟨b',o',cap3,u',e2,hr2,hX'⟩:=Row.at1 hnr hg2
  have hst:=hrv.step (by omega) hg1 hg2
  generalize ys[j]=p at hg1 hX hst
  generalize ys[xs.length - 1 - j]=q at hg2 hX' hst
  have hX:[u]=[sv p]:=hX
  have hX':[u']=[sv q]:=hX'
  cases hX
  cases hX'
  rw [hyl] at e1 e2
  cases e1
  cases e2
  have hv1:(ys.map nC)[j]? = some [sv p]:=by rw [List.getElem?_map,hg1]; rfl
  have hs1:(ys.map nC).set j ([sv p].set 0 (sv q))=(ys.set j q).map nC:=by rw [List.map_set]; rfl
  have hg3:(ys.set j q)[xs.length - 1 - j]? = some q:=by rw [List.getElem?_set_ne (by omega),hg2]
  have hv2:((ys.set j q).map nC)[xs.length - 1 - j]? = some [sv q]:=by rw [List.getElem?_map,hg3]; rfl
  have hs2:((ys.set j q).map nC).set (xs.length - 1 - j) ([sv q].set 0 (sv p))=((ys.set j q).set (xs.length - 1 - j) p).map nC:=by rw [List.map_set (l:=ys.set j q)]; rfl
  refine cK (xT (cS (cB (cd_drawh (ork [(0,2),(1,2),(2,2),(3,2),(4,2),(5,2),(6,2),(7,1),(8,2),(9,2),(10,2),(11,1),(12,2),(13,0),(14,2),(15,0)] .nil) (fun i => !(Nat.beq i 13 || Nat.beq i 15)) mixed (by kernel_rfl) ?_))))
  refine dV Z (vM Z) (dV Z (vM Z) (dV Z (vM Z) (dV Z (vM Z) (dV Z (vM Z) (dV Z (vM Z) (dV Z (vI (k:=xs.length - 1 - j) Z Z sl50 (by omega) (by omega) Z) (dr_v Z (vY Z ld9) ?_)))))))
  refine dV Z (vM Z) (dV Z (vM Z) (dV Z (vI (k:=j) Z Z sl50 Z (by omega) Z) (dr_v Z (vY Z ld9) ?_)))
  refine dV Z (vI (k:=j) Z Z sl50 Z (by omega) Z) (dr_eff Z (st_vr (sz:=1) (m:=j) (k:=0) Z Z sz9 Z hv1 (by decide) hs1 slq (dr_nx ?_)))
  refine dV Z (vI (k:=xs.length - 1 - j) Z Z sl50 (by omega) (by omega) Z) (dr_eff Z (st_vr (sz:=1) (m:=xs.length - 1 - j) (k:=0) Z Z sz9 Z hv2 (by decide) hs2 slq (dr_nx ?_)))
  refine dr_nil (nK [0,2,3] Z (nx_xt (xB (xT (cR (sM Z (sV (v_add Z Z (by unfold I64 at *; omega)) (sM Z (sV (v_sub Z Z (by unfold I64 at *; omega)) (sA Z (sA Z (sN (nK [0,2,3] Z (nx_xt ?_))))))))))))))
  refine xt_aq ((ys.set j q).set (xs.length - 1 - j) p,j+1,z - 1) ⟨by show j+1≤xs.length; omega,by show z - 1=(xs.length:Int) - 1 - ((j+1:Nat):Int); omega,hst⟩ (by show xs.length - (j+1)<xs.length - j; omega)
 ·have hd:¬ (j:Int)<z:=of_decide_eq_false hd
  have hd:¬ (j:Int)<(xs.length:Int) - 1 - j:=by omega
  rw [← hrv.done hd]
  refine cd_exit (xE (xE (xY ?_)))
  exact xt_en Z ⟨Z,Z⟩ sbq
end
end Go.Hr
namespace Go.Hr
open Go Go.RowKit Go.Ck Go.Proofs Go.Proofs.YtaohbfnepjjdgaaGreat Fx
attribute [local irreducible] Go.Ck.Sub St Cd Xt Nx DrL LsW
section
variable {S T N R:Res} {v:Value} {F:List Fm} {A:List Kt} {l:KS} {m:List (Bs×Value)} {mb:Nat} {s t:Kt} {va:Option Addr} {vc:Nat} {ts:List Kt} {rows:List (List Value)} {way:List Nm}
def upK (l:KS) (c:Nm):List Nm:=(okL (rightE (ksys l) [c]) (above (ksys l) c)).reverse
def supE (l:KS) (ck t:Kt) (a:Nm):Kt:=.mk 3 a (instK l ck a).1 t.void t.sep
def supersK (l:KS) (F:List Fm) (t:Kt):List Kt:=if ctB F t=true then (upK l (ctK F t).name).map (supE l (ctK F t) t)++[.mk 3 root [] t.void t.sep] else []
theorem up_len (hR:Right (ksys l)) (c:Nm):(okL (rightE (ksys l) [c]) (above (ksys l) c)).length≤24:=by
 by_cases h:rightE (ksys l) [c]=0
 ·rw [okL_eq h]
  obtain ⟨_,hm⟩:=rightE_zero.1 h
  obtain ⟨h1,h2⟩:=above_spec hR.acyc c
  have:=length_le_of_nodup (b:=nms (ksys l)) h1.nodup fun x hx=>isC_iff.1 (has_isC (hm c (by simp)) ((h2 x).1 hx))
  have h3:=hR.len
  simp only [nms,List.length_map] at this
  omega
 ·rw [okL_ne h]; exact Nat.zero_le _
set_option maxHeartbeats 8000000 in
set_option maxRecDepth 100000 in
theorem supers_ct (hR : Right (ksys l)) (hM : KMap S m l) (hv : ksysR S (.slice va l.length vc) l) (c : Nm) {us : List Value} (ht : Ty S us t) :
  CtN Tryz.prog 59 #[wV mb va l.length vc,sv c,.agg us.toArray] [S,mps mb m] fun u T=>∃ a cap,u = .slice a (supersK l (fmsOf l c) t).length cap∧Tys (Res.star [T,S]) u (supersK l (fmsOf l c) t):=by
 have hml:maxLen=9223372036854775807:=rfl
 have hrb:reachBytes=140737488351232:=rfl
 have hsys:sysR S (.slice va l.length vc) (ksys l):=hv.sys
 obtain ⟨x,rfl,hx⟩:=ht.out
 obtain ⟨xa,xc,rfl,_⟩:=id hx.form
 have hcl := @classType_ct S l m mb t hM c va l.length vc xa t.args.length xc
 have hct:=ctK_ty (F:=fmsOf l c) hx
 obtain ⟨za,zn,zc,hcv⟩:∃ za zn zc,ctV t (.slice xa t.args.length xc) = .slice za zn zc:=by
  unfold ctV
  split
  ·exact ⟨_,_,_,Z⟩
  ·exact ⟨_,_,_,Z⟩
 rw [hcv] at hcl hct
 have hin:=fun a=>instance_ct (mb:=mb) hR hM hv hct a
 unfold supersK
 unfold wV tyC at hin
 unfold tyC at hcl ⊢
 unfold wV
 generalize hck:ctK (fmsOf l c) t=ck at *
 refine ct_of (n:=63) Tryz.func59 Z Z (len Z) fun hr w0=>?_
 refine cQ (st_bx Z Z fun b3=>?_)
 refine st_bx Z Z fun b5=>?_
 refine sA Z (sK [1,3,5,6] Z (cQ (sV (v_ldn Z ld85 Z rds_pt) ?_)))
 refine sM Z (sV (v_ldn Z ld25 Z rds_pt) ?_)
 refine st_clr Z Z en76 Z (hcl) ?_
 refine sM Z (sV (v_extract Z Z) (sV (v_extract Z Z) (st_alc al25 fun b7=>?_)))
 refine st_stoW Z Z sz25 Z Z ?_
 refine sA Z (sK [3,5,6,7,8] Z (cS (cQ (sM Z (sV (v_not Z) (sK [3,5,6,7,24] Z (cC Z (fun hb=>?_) (fun hb=>?_))))))))
 ·have hb:¬ ctB (fmsOf l c) t=true:=by rw [Bool.not_eq_true'] at hb; rw [hb]; decide
  rw [if_neg hb]
  refine cQ (sA Z (sK [6] Z (cT (xR (xt_vw (vw_unstar (L:=[])) ?_)))))
  exact xt_rt Z ⟨Res.star [],Z,none,0,Z,Tys.nil⟩ sbq
 ·have hb:ctB (fmsOf l c) t=true:=by rw [Bool.not_eq_false'] at hb; exact hb
  rw [if_pos hb]
  have hul:=up_len hR ck.name
  refine cK (xT (cQ (sA Z (sK [3,5,6,7,9] Z (cQ (sV (vF Z fa85_1 Z) (sV (vY Z ld22) ?_)))))))
  refine sV (vF Z fa25_1 Z) (sV (vY Z ld9) ?_)
  refine st_cl Z Z en103 Z (Above_ct hsys ck.name) ?_
  rintro u h' ⟨T0,rfl,w0,rfl,hw0,rfl⟩
  simp only [lC,lN]
  refine sM Z (sV (v_extract Z Z) (sV (v_extract Z Z) (sA Z (sA Z (sK [3,5,6,7,9,10] Z (cQ (sM Z (st_cl Z Z en104 Z (Reverse_ct) ?_))))))))
  rintro u h' ⟨rfl,rfl⟩
  simp only [lC,lN]
  rw [show (okL (rightE (ksys l) [ck.name]) (above (ksys l) ck.name)).reverse=upK l ck.name from rfl]
  rw [← List.length_reverse,show (okL (rightE (ksys l) [ck.name]) (above (ksys l) ck.name)).reverse=upK l ck.name from rfl] at hul
  generalize upK l ck.name=up at *
  refine st_ok (r:=NR w0 up) slq fun hok=>?_
  have hur:=nms_own hok
  obtain ⟨ua,uc,rfl,_⟩:=id hur
  refine sK [3,5,6,7,9,10] Z (cS (cQ (sM Z (sV (v_len Z Tryz.underlying50) (sM Z (sK [3,5,6,7,9,35,36,37] Z (cB (cd_vw (vw_nil 25 5) (cd_vw (vw_unstar (L:=[])) (cd_lq (σ := Value×List (List Value)×Res×Nat) (fun q=>[(3,.pointer (some ⟨b3,0,none⟩)),(5,.pointer (some ⟨b5,0,none⟩)),(7,.pointer (some ⟨b7,0,none⟩)),(9,q.1),(35,.slice ua up.length uc),(36,.int .i64 up.length),(37,.int .i64 (q.2.2.2:Nat))]) (fun q=>VR q.1 25 5 q.2.1::q.2.2.1::pt b3 (cl [.map (some mb),.slice va l.length vc] 85)::pt b5 (cl [.int .i64 t.kind,sv t.name,.slice xa t.args.length xc,.bool t.void,.bool t.sep] 25)::pt b7 (cl [.int .i64 ck.kind,sv ck.name,.slice za zn zc,.bool ck.void,.bool ck.sep] 25)::NR (.slice ua up.length uc) up::S::mps mb m::hr) (fun q=>q.2.2.2≤up.length∧q.1.oneCell'=true∧TyRows (Res.star [q.2.2.1,S]) q.2.1 ((up.take q.2.2.2).map (supE l ck t))) (fun q=>up.length - q.2.2.2) (.slice none 0 0,[],Res.star [],0) ⟨Nat.zero_le _,Z,TyRows.nil⟩ ?_))))))))))
  rintro ⟨wv,rows,T,i⟩ ⟨hi,hwv,hro⟩
  simp only at hi hwv hro
  dsimp only
  have hrl:rows.length=i:=by rw [hro.1]; simp; omega
  refine cQ (sV (v_lss Z Z) (sN (nT (cS (cC Z (fun hd=>?_) (fun hd=>?_))))))
  ·have hlt:i<up.length:=by simpa using hd
   obtain ⟨bu,ou,capu,u,e1,hru,hX⟩:=Row.at1 hur (List.getElem?_eq_getElem hlt)
   cases e1
   have hX:[u]=[sv up[i]]:=hX
   have hsn:(up.take (i+1)).map (supE l ck t)=(up.take i).map (supE l ck t)++[supE l ck t up[i]]:=by rw [List.take_add_one,List.getElem?_eq_getElem hlt,List.map_append]; rfl
   generalize up[i]=a at hX hsn
   cases hX
   refine cK (xT (cS (cB (cQ (sV (vI (k:=i) Z Z sl50 Z hlt Z) (sV (vY Z ld9) ?_))))))
   refine sA Z (sK [3,5,7,9,13,35,36,37] Z (cQ (sV (v_ldn Z ld85 Z rds_pt) ?_)))
   refine sV (v_ldn Z ld25 Z rds_pt) ?_
   refine sM Z (st_cl Z Z en56 Z (hin a) ?_)
   rintro u h' ⟨T2,rfl,w2,rfl,hw2,hT2⟩
   simp only [lC,lN]
   obtain ⟨ya,yc,rfl,_⟩:=id hT2.form
   have hel:Ty (Res.star [T2,S]) [.int .i64 3,sv a,.slice ya (instK l ck a).1.length yc,.bool t.void,.bool t.sep] (supE l ck t a):=Ty.of (t:=supE l ck t a) rfl hT2
   refine sM Z (sV (v_extract Z Z) (sV (v_extract Z Z) (sA Z (sA Z (sK [3,5,7,9,13,14,35,36,37] Z (cd_drawh (ork [(0,2),(1,2),(2,2),(3,1),(4,1),(5,1),(6,0),(7,0),(8,2)] .nil) (fun i => !(Nat.beq i 6 || Nat.beq i 7)) mixed (by kernel_rfl) ?_))))))
   refine dV Z (vM Z) (dV Z (vM Z) (dV Z (vM Z) (dr_clr Z Z Z en106 Z (class_ct) ?_)))
   refine dr_v Z (v_ldn Z ld25 Z rds_pt) ?_
   refine dr_clr Z Z Z en105 Z (with_raw) ?_
   refine dr_eff Z (st_buildSlice (cells:=[.int .i64 3,sv a,.slice ya (instK l ck a).1.length yc,.bool t.void,.bool t.sep]) Z Tryz.underlying23 inf25 Z Z (by kernel_rfl) (ltn Z) fun b54=>dr_nx ?_)
   refine dr_eff Z (st_app [[.int .i64 3,sv a,.slice ya (instK l ck a).1.length yc,.bool t.void,.bool t.sep]] Z Z Tryz.underlying23 inf25 Z (by decide) (show Sel _ (VR wv 25 5 rows) _ from slq) (by simp) Z (fun j u2 hu2=>at_here (rd_cl (by simpa using hu2))) (by simp [Value.oneCell']) (by rw [hrl]; omega) (by rw [hrl]; omega) (ltn Z) fun w3 hw3 _=>dr_nx ?_)
   refine dV Z (vA Z) (dr_nil (nK [3,5,7,9,35,36,37] Z (nx_xt (xB (xT (cR (sV (v_add Z Z (by unfold I64 at *; omega)) (sM Z (sN (nK [3,5,7,9,35,36,37] Z (nx_xt (xt_pv (pv_pack (L:=[T,T2])) ?_))))))))))))
   simp only [lC,lN]
   refine xt_aq (w3,rows++[[.int .i64 3,sv a,.slice ya (instK l ck a).1.length yc,.bool t.void,.bool t.sep]],Res.star [T,T2],i+1) ⟨hlt,hw3,by rw [hsn]; exact (hro.mono fun p u g=>rd_up p u .here g).snoc (hel.mono fun p u g=>rd_up p u (.there .here) g)⟩ (Nat.sub_lt_sub_left hlt (Nat.lt_succ_self i))
  ·have hil:i=up.length:=by
    have:¬ i<up.length:=by simpa using hd
    omega
   rw [hil,List.take_length] at hro
   have hrl2:rows.length=up.length:=by rw [hrl,hil]
   have hro2:=hro.snoc (t:=.mk 3 root [] t.void t.sep) (Ty.of rfl Tys.nil)
   refine cd_exit (xE (xE (xY (xT (cS (cd_drawh (ork [(0,2),(1,1),(2,1),(3,1),(4,0),(5,0),(6,2)] .nil) (fun i => !(Nat.beq i 4 || Nat.beq i 5)) mixed (by kernel_rfl) ?_))))))
   refine dV Z (vM Z) (dr_clr Z Z Z en106 Z (class_ct) ?_)
   refine dr_v Z (v_ldn Z ld25 Z rds_pt) ?_
   refine dr_clr Z Z Z en105 Z (with_raw) ?_
   refine dr_eff Z (st_buildSlice (cells:=[.int .i64 3,sv root,.slice none 0 0,.bool t.void,.bool t.sep]) Z Tryz.underlying23 inf25 Z Z (by kernel_rfl) (ltn Z) fun b61=>dr_nx ?_)
   refine dr_eff Z (st_app [[.int .i64 3,sv root,.slice none 0 0,.bool t.void,.bool t.sep]] Z Z Tryz.underlying23 inf25 Z (by decide) (show Sel _ (VR wv 25 5 rows) _ from slq) (by simp) Z (fun j u2 hu2=>at_here (rd_cl (by simpa using hu2))) (by simp [Value.oneCell']) (by rw [hrl2]; omega) (by rw [hrl2]; omega) (ltn Z) fun w4 hw4 _=>dr_nx ?_)
   refine dV Z (vA Z) (dr_nil (nK [6] Z (nT (cT (xt_ok (r:=VR w4 25 5 (rows++[[.int .i64 3,sv root,.slice none 0 0,.bool t.void,.bool t.sep]])) slq fun hok4=>?_)))))
   refine xt_pv (pv_pack (L:=[VR w4 25 5 (rows++[[.int .i64 3,sv root,.slice none 0 0,.bool t.void,.bool t.sep]]),T])) ?_
   simp only [lC,lN]
   have hty:Tys (Res.star [Res.star [VR w4 25 5 (rows++[[.int .i64 3,sv root,.slice none 0 0,.bool t.void,.bool t.sep]]),T],S]) w4 (up.map (supE l ck t)++[.mk 3 root [] t.void t.sep]):=(hro2.mono fun p u g=>rd_up p u (.there .here) g).tys hok4 (fun p u g=>rd_in .here p u (rd_in .here p u g)) (by simp; omega)
   obtain ⟨ra,rc,rfl,_⟩:=id hty.form
   exact xt_rt Z ⟨_,Z,ra,rc,Z,hty⟩ sbq
def SupersK (l:KS) (c:Nm) (t:Kt):List Kt×Int:=if askedE l c [t]≠0 then ([],askedE l c [t]) else (supersK l (fmsOf l c) t,0)
set_option maxHeartbeats 4000000 in
set_option maxRecDepth 100000 in
theorem Supers_ct (hv:ksysR S v l) (htn:Tiny l) (c:Nm) {us:List Value} (hu:Ty S us t) (hd:t.depth≤1000000) :
  CtN Tryz.prog 23 #[v,sv c,.agg us.toArray] [S] fun u T=>∃ w,u = .tuple #[w,.int .i64 (SupersK l c t).2]∧w.oneCell'=true∧Tys (Res.star [T,S]) w (SupersK l c t).1:=by
 obtain ⟨va,vc,rfl,_⟩:=id hv
 have h1:=fun b hok=>kasked_ct (hv.mono (rd_in (.there .here))) htn c (tys_one (b:=b) hu hok) (fun s hs=>by simp at hs; subst hs; exact hd)
 have hsp:=fun b mb m hM hR=>supers_ct (S:=(Res.star [VR (.slice (some ⟨b,0,none⟩) 1 1) 25 5 [us],S])) (l:=l) (m:=m) (mb:=mb) hR hM (hv.mono (rd_in (.there .here))) c (hu.mono (rd_in (.there .here)))
 obtain ⟨y,rfl,hy⟩:=hu.out
 obtain ⟨ya,yc,rfl,_⟩:=id hy.form
 unfold wV tyC at hsp
 unfold SupersK
 refine ct_of (n:=25) Tryz.func23 Z Z (len Z) fun hr w0=>?_
 refine cQ (st_bx Z Z fun b5=>?_)
 refine sA Z (sA Z (sK [0,1,5,6,7] Z (cQ (sM Z (sM Z (sV (v_ldn Z ld25 Z rds_pt) ?_))))))
 refine st_buildSlice (cells:=tyC t (.slice ya t.args.length yc)) Z Tryz.underlying23 inf25 Z Z (by kernel_rfl) (ltn Z) fun b14=>?_
 refine st_pv (pv_of (b:=b14) (n:=1) (sz:=5) (E:=25) [tyC t (.slice ya t.args.length yc)] Z (by simp [tyC]) Z (by decide)) ?_
 simp only [lC,lN]
 refine st_ok (r:=VR (.slice (some ⟨b14,0,none⟩) 1 1) 25 5 [tyC t (.slice ya t.args.length yc)]) slq fun hok=>?_
 refine st_pv (pv_pack (L:=[VR (.slice (some ⟨b14,0,none⟩) 1 1) 25 5 [tyC t (.slice ya t.args.length yc)],S])) ?_
 simp only [lC,lN]
 refine st_cl Z Z en54 Z (h1 b14 hok) ?_
 rintro u h' ⟨mb,m,rfl,rfl,hM⟩
 unfold wV
 simp only [lC,lN]
 refine sM Z (sV (v_extract Z Z) (sV (v_extract Z Z) (st_alc al85 fun b8=>?_)))
 refine st_stoW Z Z sz85 Z Z ?_
 refine sA Z (sK [1,5,6,7,8,9] Z (cS (cQ (sM Z (sV (v_neq Z Z) (sK [1,5,6,7,8,9,19] Z (cC Z (fun he=>?_) (fun he=>?_))))))))
 ·rw [if_pos (by simpa using he)]
  refine cQ (sM Z (sA Z (sA Z (sK [6,7] Z (cT (xR (xt_pv (pv_unpack (L:=[VR (.slice (some ⟨b14,0,none⟩) 1 1) 25 5 [tyC t (.slice ya t.args.length yc)],S])) ?_)))))))
  simp only [lC,lN]
  exact xt_rt Z ⟨VR (.slice (some ⟨b14,0,none⟩) 1 1) 25 5 [tyC t (.slice ya t.args.length yc)],Z,_,Z,Z,Tys.nil⟩ sbq
 ·have he:askedE l c [t]=0:=by simpa using he
  rw [if_neg (by simpa using he)]
  obtain ⟨x,all,hK⟩:=askedE_zero.1 he
  have hcc:=hsp b14 mb m (hM he) hK.right.right
  refine cK (xT (cQ (sV (v_ldn Z ld85 Z rds_pt) ?_)))
  refine sM Z (sV (v_ldn Z ld25 Z rds_pt) ?_)
  refine st_cl Z Z en59 Z (hcc) ?_
  rintro u h' ⟨T,rfl,wa,wc,rfl,hT⟩
  simp only [lC,lN]
  refine sA Z (sA Z (sK [6,7] Z (cT (xt_pv (pv_unpack (L:=[VR (.slice (some ⟨b14,0,none⟩) 1 1) 25 5 [tyC t (.slice ya t.args.length yc)],S])) ?_))))
  simp only [lC,lN]
  refine xt_pv (pv_pack (L:=[VR (.slice (some ⟨b14,0,none⟩) 1 1) 25 5 [tyC t (.slice ya t.args.length yc)],T])) ?_
  simp only [lC,lN]
  exact xt_rt Z ⟨Res.star [VR (.slice (some ⟨b14,0,none⟩) 1 1) 25 5 [tyC t (.slice ya t.args.length yc)],T],Z,_,Z,Z,hT.mono fun p u g=>rd_turn p u g⟩ sbq
end
end Go.Hr
namespace Go.Hr
open Go Go.RowKit Go.Ck Go.Proofs Go.Proofs.YtaohbfnepjjdgaaGreat Fx
attribute [local irreducible] Go.Ck.Sub St Cd Xt Nx DrL LsW
section
variable {S T N R:Res} {v:Value} {s t:Kt} {ts:List Kt} {rows:List (List Value)} {kf:FuncId} {cp:Array Value} {g:Kt→Bool}
def Says (S N:Res) (kf:FuncId) (cp:Array Value) (ts:List Kt) (g:Kt→Bool):Prop:=∀ (t:Kt) (us:List Value),t∈ts→Ty S us t→Reads Tryz.prog kf (#[]++([.agg us.toArray]:List Value).toArray++cp) [S,N] (.bool (g t))
set_option maxRecDepth 100000 in
theorem IdxT_ct (hv : Tys S v ts) (hE : Ck.Enters Tryz.prog kf) (hf : Says S N kf cp ts g) : Reads Tryz.prog 152 #[v, .func (.func kf) #[] cp] [S, N] (.int .i64 (ixD (ts.findIdx? g))) := by
 have hml:maxLen=9223372036854775807:=rfl
 obtain ⟨a,cap,rfl,hlc,hcm,_⟩:=id hv.form
 refine ct_of (n:=19) Tryz.func152 Z Z (len Z) fun hr w0=>?_
 refine cQ (sA Z (sN (nT (cS (cQ (sM Z (sV (v_len Z Tryz.underlying23) (sM Z (sK [0,1,4,7,8] Z (cB (cd_lq (σ := Nat) (fun i=>[(0,.slice a ts.length cap),(1,.func (.func kf) #[] cp),(7,.int .i64 ts.length),(8,.int .i64 (i:Nat))]) (fun _=>S::N::hr) (fun i=>i≤ts.length∧∀ j (hj:j<ts.length),j<i→g ts[j]=false) (fun i=>ts.length - i) 0 ⟨Nat.zero_le _,fun j _ hj=>absurd hj (Nat.not_lt_zero _)⟩ ?_)))))))))))
 rintro i ⟨hi,hal⟩
 refine cQ (sV (v_lss Z Z) (sN (nT (cS (cC Z (fun hd=>?_) (fun hd=>?_))))))
 ·have hlt:i<ts.length:=by simpa using hd
  obtain ⟨b,o,cap2,us,e1,hus,hrd,hta⟩:=hv.at (List.getElem?_eq_getElem hlt)
  cases e1
  have hfx:=hf ts[i] us (List.getElem_mem hlt) hta
  obtain ⟨y,rfl,hy⟩:=hta.out
  obtain ⟨ya,yc,rfl,_⟩:=id hy.form
  unfold tyC at hrd hfx
  refine cK (xT (cS (cB (cQ (sM Z (sA Z (sK [0,1,5,7,8] Z (cQ (sM Z (sM Z (sM Z ?_)))))))))))
  refine sV (vI (k:=i) Z Z sl23 Z hlt Z) (sV (v_ldn Z ld25 Z hrd) ?_)
  refine st_clr Z Z hE Z (hfx) ?_
  refine sK [0,1,5,7,8,16] Z (cC Z (fun he=>?_) (fun he=>?_))
  ·have he:g ts[i]=true:=he
   rw [show ts.findIdx? g=some i by
    rw [List.findIdx?_eq_some_iff_getElem]
    exact ⟨hlt,he,fun j hj=>by rw [hal j (by omega) hj]; decide⟩]
   refine cQ (sM Z (sA Z (sK [4] Z (cT (xW (xR (xR (xW (xR ?_)))))))))
   exact xt_rt Z ⟨Z,Z⟩ sbq
  ·have he:g ts[i]=false:=he
   refine cK (xB (xT (cR (sV (v_add Z Z (by unfold I64 at *; omega)) (sM Z (sN (nK [0,1,7,8] Z (nx_xt (xt_aq (i+1) ⟨hlt,fun j hj hj2=>?_⟩ (Nat.sub_lt_sub_left hlt (Nat.lt_succ_self i)))))))))))
   by_cases hji:j=i
   ·subst hji; exact he
   ·exact hal j hj (by omega)
 ·have hil:i=ts.length:=by
   have:¬ i<ts.length:=by simpa using hd
   omega
  rw [show ts.findIdx? g=none by
   rw [List.findIdx?_eq_none_iff]
   intro f hfm
   obtain ⟨j,hj,rfl⟩:=List.getElem_of_mem hfm
   exact hal j hj (by omega)]
  refine cd_exit (xE (xE (xY (xT (cQ (sA Z (sK [4] Z (cT ?_))))))))
  exact xt_rt Z ⟨Z,Z⟩ sbq
set_option maxRecDepth 100000 in
theorem has116_ct (hv:Tys S v ts) (hE:Ck.Enters Tryz.prog kf) (hf:Says S N kf cp ts g):Reads Tryz.prog 116 #[v,.func (.func kf) #[] cp] [S,N] (.bool (ts.any g)):=by
 obtain ⟨a,cap,rfl,_⟩:=id hv.form
 refine ct_of (n:=9) Tryz.func116 Z Z (len Z) fun hr w0=>?_
 refine cQ (sA Z (sN (nT (cQ (sM Z (sM Z (st_clr Z Z en152 Z (IdxT_ct (g:=g) hv hE hf) ?_)))))))
 refine sV (v_geq Z Z) (sA Z (sK [4] Z (cT ?_)))
 rw [show decide (0≤ixD (ts.findIdx? g))=ts.any g by
  have h1:(ts.findIdx? g).isSome=ts.any g:=by first | exact List.findIdx?_isSome | simp
  rw [← h1]
  cases ts.findIdx? g with
  | none=>rfl
  | some i=>exact decide_eq_true (Int.natCast_nonneg i)]
 exact xt_rt Z ⟨Z,Z⟩ sbq
set_option maxRecDepth 100000 in
theorem sifted_ct (hv : Tys S v ts) (hE : Ck.Enters Tryz.prog kf) (hf : Says S N kf cp ts g) : CtN Tryz.prog 114 #[v, .func (.func kf) #[] cp] [S, N] fun u T => ∃ a cap rows, u = .slice a (ts.filter g).length cap ∧ T = VR u 25 5 rows ∧ TyRows S rows (ts.filter g) ∧ Tys (Res.star [T, S]) u (ts.filter g) := by
 have hml:maxLen=9223372036854775807:=rfl
 have hrb:reachBytes=140737488351232:=rfl
 have hbb:=hv.2
 obtain ⟨a,cap,rfl,hlc,hcm,_⟩:=id hv.form
 refine ct_of (n:=23) Tryz.func114 Z Z (len Z) fun hr w0=>?_
 refine cQ (sA Z (sN (nT (cQ (sA Z (sN (nT (cS (cQ (sM Z (sV (v_len Z Tryz.underlying23) (sM Z ?_))))))))))))
 refine sK [1,4,5,8,9,10] Z (cB (cd_vw (vw_nil 25 5) (cd_lq (σ := Value×List (List Value)×Nat) (fun q=>[(1,.func (.func kf) #[] cp),(5,q.1),(8,.slice a ts.length cap),(9,.int .i64 ts.length),(10,.int .i64 (q.2.2:Nat))]) (fun q=>VR q.1 25 5 q.2.1::S::N::hr) (fun q=>q.2.2≤ts.length∧q.1.oneCell'=true∧TyRows S q.2.1 ((ts.take q.2.2).filter g)) (fun q=>ts.length - q.2.2) (.slice none 0 0,[],0) ⟨Nat.zero_le _,Z,TyRows.nil⟩ ?_)))
 rintro ⟨wv,rows,i⟩ ⟨hi,hwv,hro⟩
 simp only at hi hwv hro
 dsimp only
 have hfl:((ts.take i).filter g).length≤i:=by
  have:=List.length_filter_le g (ts.take i)
  simp at this; omega
 have hrl:rows.length≤i:=by rw [hro.1]; exact hfl
 refine cQ (sV (v_lss Z Z) (sN (nT (cS (cC Z (fun hd=>?_) (fun hd=>?_))))))
 ·have hlt:i<ts.length:=by simpa using hd
  obtain ⟨b,o,cap2,us,e1,hus,hrd,hta⟩:=hv.at (List.getElem?_eq_getElem hlt)
  cases e1
  have hfx:=hf ts[i] us (List.getElem_mem hlt) hta
  have hsn:(ts.take (i+1)).filter g=(ts.take i).filter g++(if g ts[i]=true then [ts[i]] else []):=by
   rw [List.take_add_one,List.getElem?_eq_getElem hlt,List.filter_append]
   congr 1
   by_cases h:g ts[i]=true <;> simp [h]
  generalize ts[i]=t at hta hfx hsn
  have hta2:=hta
  obtain ⟨y,rfl,hy⟩:=hta.out
  obtain ⟨ya,yc,rfl,_⟩:=id hy.form
  unfold tyC at hrd hfx
  refine cK (xT (cS (cB (cQ (sV (vI (k:=i) Z Z sl23 Z hlt Z) (sV (v_ldn Z ld25 Z hrd) ?_))))))
  refine st_alc al25 fun b7=>?_
  refine st_stoW Z Z sz25 Z Z ?_
  refine sK [1,5,7,8,9,10] Z (cQ (sM Z (sV (v_ldn Z ld25 Z rds_pt) ?_)))
  refine st_clr Z Z hE Z (hfx) ?_
  refine sK [1,5,7,8,9,10,16] Z (cC Z (fun he=>?_) (fun he=>?_))
  ·have he:g t=true:=he
   rw [if_pos he] at hsn
   refine cR (sM Z (sV (v_ldn Z ld25 Z rds_pt) ?_))
   refine st_buildSlice (cells:=tyC t (.slice ya t.args.length yc)) Z Tryz.underlying23 inf25 Z Z (by kernel_rfl) (ltn Z) fun b19=>?_
   refine st_app [tyC t (.slice ya t.args.length yc)] Z Z Tryz.underlying23 inf25 Z (by decide) (show Sel _ (VR wv 25 5 rows) _ from slq) (by simp [tyC]) Z (fun j u2 hu2=>at_here (rd_cl (by simpa [tyC] using hu2))) (by simp [tyC,Value.oneCell']) (by omega) (by omega) (ltn Z) fun w3 hw3 _=>?_
   refine sA Z (sN (nK [1,5,8,9,10] Z (nx_xt (xB (xT (cR (sV (v_add Z Z (by unfold I64 at *; omega)) (sM Z (sN (nK [1,5,8,9,10] Z (nx_xt ?_)))))))))))
   refine xt_aq (w3,rows++[tyC t (.slice ya t.args.length yc)],i+1) ⟨hlt,hw3,by rw [hsn]; exact hro.snoc hta2⟩ (Nat.sub_lt_sub_left hlt (Nat.lt_succ_self i))
  ·have he:¬ g t=true:=by rw [show g t=false from he]; decide
   rw [if_neg he,List.append_nil] at hsn
   refine cK (xB (xT (cR (sV (v_add Z Z (by unfold I64 at *; omega)) (sM Z (sN (nK [1,5,8,9,10] Z (nx_xt ?_))))))))
   refine xt_aq (wv,rows,i+1) ⟨hlt,hwv,by rw [hsn]; exact hro⟩ (Nat.sub_lt_sub_left hlt (Nat.lt_succ_self i))
 ·have hil:i=ts.length:=by
   have:¬ i<ts.length:=by simpa using hd
   omega
  rw [hil,List.take_length] at hro hfl
  refine cd_exit (xE (xE (xY (xT (cQ (sM Z (sA Z (sK [4] Z (cT (xt_ok (r:=VR wv 25 5 rows) slq fun hok=>?_))))))))))
  have hty:Tys (Res.star [VR wv 25 5 rows,S]) wv (ts.filter g):=(hro.mono (rd_in (.there .here))).tys hok (rd_in .here) (by omega)
  obtain ⟨ra,rc,rfl,_⟩:=id hty.form
  exact xt_rt Z ⟨_,Z,ra,rc,rows,Z,Z,hro,hty⟩ sbq
end
end Go.Hr
namespace Go.Hr
open Go Go.RowKit Go.Ck Go.Proofs Go.Proofs.YtaohbfnepjjdgaaGreat Fx
attribute [local irreducible] Go.Ck.Sub St Cd Xt Nx DrL LsW
section
variable {S T N R:Res} {v:Value} {l:KS} {m:List (Bs×Value)} {mb:Nat} {s t:Kt} {va:Option Addr} {vc:Nat} {ts up:List Kt}
theorem says117 {b:Nat} {y:Value} (hy:Tys S y s.args):Says S (pt b (cl (tyC s y) 25)) 117 #[.pointer (some ⟨b,0,none⟩)] ts (fun t=>t.same s):=fun t us _ ht=>by
 have hs:Ty S (tyC s y) s:=Ty.of rfl hy
 have h1:=same_ct ht hs
 obtain ⟨ya,yc,rfl,_⟩:=id hy.form
 obtain ⟨z,rfl,hz⟩:=ht.out
 obtain ⟨za,zc,rfl,_⟩:=id hz.form
 unfold tyC at h1 ⊢
 refine ct_of (n:=7) Tryz.func117 Z Z (len Z) fun hr w0=>?_
 refine cQ (st_bx Z Z fun b2=>?_)
 refine sA Z (sK [1,2,3] Z (cQ (sV (v_ldn Z ld25 Z rds_pt) ?_)))
 refine sV (v_ldn Z ld25 Z rds_pt) ?_
 refine st_clr Z Z en15 Z (h1) ?_
 refine sA Z (sK [3] Z (cT ?_))
 exact xt_rt Z ⟨Z,Z⟩ sbq
theorem says115 {b:Nat} {wa:Option Addr} {wc:Nat} (hu:Tys S (.slice wa up.length wc) up):Says S (pt b (cl [.slice wa up.length wc] 23)) 115 #[.pointer (some ⟨b,0,none⟩)] ts (fun s=>up.any fun t=>t.same s):=fun s us _ hs=>by
 obtain ⟨z,rfl,hz⟩:=hs.out
 have h1:=fun b=>has116_ct (g:=fun t=>t.same s) hu en117 (says117 (b:=b) (s:=s) hz)
 obtain ⟨za,zc,rfl,_⟩:=id hz.form
 unfold tyC at h1 ⊢
 refine ct_of (n:=7) Tryz.func115 Z Z (len Z) fun hr w0=>?_
 refine cQ (st_bx Z Z fun b2=>?_)
 refine sA Z (sK [1,2,3] Z (cQ (sV (vY Z ld23) ?_)))
 refine sV (v_makeFunc Z Z) (st_clr Z Z en116 Z ((h1 b2)) ?_)
 refine sA Z (sK [3] Z (cT ?_))
 exact xt_rt Z ⟨Z,Z⟩ sbq
def WN (b1 b2 b3 mb:Nat) (x:List Value) (E:TypeId) (va:Option Addr) (vn vc:Nat) (c:Nm) (m:List (Bs×Value)):SH:=[pt b1 (cl x E),pt b2 (cl [.map (some mb),.slice va vn vc] 85),pt b3 (cl [sv c] 9),mps mb m]
theorem says119 (hR:Right (ksys l)) (hM:KMap S m l) (hv:ksysR S (.slice va l.length vc) l) (c:Nm) {b1 b2 b3:Nat} {y:Value} (hy:Tys S y s.args) :
  Says S (Res.star (WN b1 b2 b3 mb (tyC s y) 25 va l.length vc c m)) 119 #[.pointer (some ⟨b1,0,none⟩),.pointer (some ⟨b2,0,none⟩),.pointer (some ⟨b3,0,none⟩)] ts (fun o => !(o.same s) && decide ((whyC l (fmsOf l c) o s).1<11)):=fun o us _ ho=>by
 have hs:Ty S (tyC s y) s:=Ty.of rfl hy
 have h1:=same_ct ho hs
 have h2:=conforms_ct (mb:=mb) hR hM hv c ho hs
 obtain ⟨ya,yc,rfl,_⟩:=id hy.form
 obtain ⟨z,rfl,hz⟩:=ho.out
 obtain ⟨za,zc,rfl,_⟩:=id hz.form
 unfold wV tyC at h2
 unfold WN
 unfold tyC at h1 ⊢
 refine ct_of (n:=17) Tryz.func119 Z Z (len Z) fun hr w0=>?_
 refine cd_pv (pv_unpack (L:=[pt b1 (cl [.int .i64 s.kind,sv s.name,.slice ya s.args.length yc,.bool s.void,.bool s.sep] 25),pt b2 (cl [.map (some mb),.slice va l.length vc] 85),pt b3 (cl [sv c] 9),mps mb m])) ?_
 simp only [lC,lN]
 refine cQ (st_bx Z Z fun b4=>?_)
 refine sA Z (sK [1,2,3,4,5] Z (cQ (sV (v_ldn Z ld25 Z rds_pt) ?_)))
 refine sV (v_ldn Z ld25 Z rds_pt) ?_
 refine st_clr Z Z en15 Z (h1) ?_
 refine sV (v_not Z) (sM Z (st_cut (k:=11) (d:=16) (v:=.bool (!(o.same s) && decide ((whyC l (fmsOf l c) o s).1<11))) (fun hcut=>bool_want (b:=(!(o.same s))) true (fun hg=>?_) (fun hg=>?_)) ?_))
 ·refine st_sk Z Z hg ?_
  iterate 4 refine st_sk rfl rfl hg ?_
  refine sV (vP (bO Z hg) Z) ?_
  exact hcut _ uG
 ·refine sG Z (bG Z hg) (v_ldn Z ld85 Z rds_pt) ?_
  refine sG Z (bG Z hg) (vY Z ld9) ?_
  refine sG Z (bG Z hg) (v_ldn Z ld25 Z rds_pt) ?_
  refine sG Z (bG Z hg) (v_ldn Z ld25 Z rds_pt) ?_
  refine st_clrg Z (bG Z hg) Z Z en67 Z (h2) ?_
  refine sV (vQ (bO Z hg) Z) ?_
  exact hcut _ uG
 refine sA Z (sK [5] Z (cT (xt_pv (pv_pack (L:=[pt b1 (cl [.int .i64 s.kind,sv s.name,.slice ya s.args.length yc,.bool s.void,.bool s.sep] 25),pt b2 (cl [.map (some mb),.slice va l.length vc] 85),pt b3 (cl [sv c] 9),mps mb m])) ?_)))
 simp only [lC,lN]
 exact xt_rt Z ⟨Z,Z⟩ sbq
theorem says118 (hR:Right (ksys l)) (hM:KMap S m l) (hv:ksysR S (.slice va l.length vc) l) (c:Nm) {p1 p2 p3:Nat} {wa:Option Addr} {wc:Nat} (hu:Tys S (.slice wa up.length wc) up) :
  Says S (Res.star (WN p1 p2 p3 mb [.slice wa up.length wc] 23 va l.length vc c m)) 118 #[.pointer (some ⟨p1,0,none⟩),.pointer (some ⟨p2,0,none⟩),.pointer (some ⟨p3,0,none⟩)] ts (fun s => !(up.any fun o => !(o.same s) && decide ((whyC l (fmsOf l c) o s).1<11))):=fun s us _ hs=>by
 obtain ⟨z,rfl,hz⟩:=hs.out
 have h1:=fun b=>has116_ct hu en119 (says119 (mb:=mb) (m:=m) (s:=s) (ts:=up) hR hM hv c (b1:=b) (b2:=p2) (b3:=p3) hz)
 obtain ⟨za,zc,rfl,_⟩:=id hz.form
 unfold WN tyC at h1
 unfold WN
 unfold tyC
 refine ct_of (n:=10) Tryz.func118 Z Z (len Z) fun hr w0=>?_
 refine cd_pv (pv_unpack (L:=[pt p1 (cl [.slice wa up.length wc] 23),pt p2 (cl [.map (some mb),.slice va l.length vc] 85),pt p3 (cl [sv c] 9),mps mb m])) ?_
 simp only [lC,lN]
 refine cQ (st_bx Z Z fun b4=>?_)
 refine sA Z (sK [1,2,3,4,5] Z (cQ (sV (vY Z ld23) ?_)))
 refine sV (v_makeFunc Z Z) (st_pv (pv_pack (L:=[pt b4 (cl [.int .i64 s.kind,sv s.name,.slice za s.args.length zc,.bool s.void,.bool s.sep] 25),pt p2 (cl [.map (some mb),.slice va l.length vc] 85),pt p3 (cl [sv c] 9),mps mb m])) ?_)
 simp only [lC,lN]
 refine st_clr Z Z en116 Z ((h1 b4)) ?_
 refine st_pv (pv_unpack (L:=[pt b4 (cl [.int .i64 s.kind,sv s.name,.slice za s.args.length zc,.bool s.void,.bool s.sep] 25),pt p2 (cl [.map (some mb),.slice va l.length vc] 85),pt p3 (cl [sv c] 9),mps mb m])) ?_
 simp only [lC,lN]
 refine sV (v_not Z) (sA Z (sK [5] Z (cT (xt_pv (pv_pack (L:=[pt p1 (cl [.slice wa up.length wc] 23),pt p2 (cl [.map (some mb),.slice va l.length vc] 85),pt p3 (cl [sv c] 9),mps mb m])) ?_))))
 simp only [lC,lN]
 exact xt_rt Z ⟨Z,Z⟩ sbq
end
end Go.Hr
namespace Go.Ck
open Go Go.RowKit
theorem splice_mid {pre R j vs:List Value} {k:Nat} (hk:k+vs.length≤R.length):splice (pre++(R++j)) (pre.length+k) vs=pre++(splice R k vs++j):=by
 unfold splice
 rw [List.take_length_add_append,List.take_append_of_le_length (by omega),show pre.length+k+vs.length=pre.length+(k+vs.length) by omega,List.drop_length_add_append,List.drop_append_of_le_length hk]
 simp only [List.append_assoc]
theorem rows_len {sz:Nat} {rows:List (List Value)} (h:∀ r∈rows,r.length=sz):rows.flatten.length=rows.length * sz:=by
 induction rows with
 | nil=>simp
 | cons r t ih =>
  rw [List.flatten_cons,List.length_append,ih fun q hq=>h q (by simp [hq]),h r (by simp),List.length_cons,Nat.add_mul]
  omega
section
variable {c:Cx} {ops:Array Oper} {K:Act→World→Prop} {rest:List Oper} {e:Env} {h h' hr:SH}
theorem st_vrN {T E : TypeId} {x y : Operand} {ty : TypeId} {pos : String} {after : Array Edge} {b o n cp m sz : Nat} {rows : List (List Value)} {vs : List Value}
  (hx:e.ev? x=some (.pointer (some ⟨b,o+m * sz,none⟩))) (hy:e.ev? y=some (.agg vs.toArray)) (hT:Sz c.P T sz) (hn:vs.length=sz) (h1:∀ v∈vs,v.oneCell'=true) (hm:m<rows.length) (hs:Sel h (VR (.slice (some ⟨b,o,none⟩) n cp) E sz rows) h')
  (hnx:St c ops K rest e (VR (.slice (some ⟨b,o,none⟩) n cp) E sz (rows.set m vs)::h')) :
  St c ops K (⟨none,.store T x y,ty,pos,after,none⟩::rest) e h:=fun a w hk hh hs'=>by
 obtain ⟨⟨g1,g2⟩,hd,ht⟩:=hh.sel hs
 rcases g2 with ⟨h3,_⟩ | ⟨b',o',cp',pre,j,h3,hb,hp,hc1,hc2,hc3⟩
 ·cases h3
 ·cases h3
  have hfl:=rows_len g1
  have hle:m * sz+sz≤rows.flatten.length:=by
   rw [hfl]
   have:=Nat.mul_le_mul_right sz (show m+1≤rows.length from hm)
   rw [Nat.add_mul] at this; omega
  have hpt:Holds w (pt b (cl (pre++(rows.flatten++j)) E)::h'):=⟨hb,fun c hc=>by rw [show c=b from hc]; exact hd b ⟨o,_,cp,rfl⟩,ht⟩
  refine st_storeN (h:=pt b (cl (pre++(rows.flatten++j)) E)::h') hx hy hT hn h1 .here (by simp only [List.length_append]; omega) ?_ a w hk hpt hs'
  subst hp
  rw [splice_mid (by omega),splice_rows hn g1 hm]
  intro a w hk hh hw
  refine hnx a w hk ⟨⟨fun q hq=>?_,.inr ⟨b,pre.length,cp,pre,j,by rw [List.length_set],hh.1,Z,by rw [List.length_set]; exact hc1,hc2,?_⟩⟩,fun c hc=>?_,hh.2.2⟩ hw
  ·rcases List.mem_or_eq_of_mem_set hq with hq | rfl
   ·exact g1 q hq
   ·exact hn
  ·have:(rows.set m vs).flatten.length=rows.flatten.length:=by
    rw [rows_len (sz:=sz) fun q hq=>?_,hfl,List.length_set]
    rcases List.mem_or_eq_of_mem_set hq with hq | rfl
    ·exact g1 q hq
    ·exact hn
   rw [List.length_append,this,← List.length_append]; exact hc3
  ·obtain ⟨o2,_,cp2,h4⟩:=hc
   cases h4
   exact hh.2.1 b Z
end
end Go.Ck
