/-
  Package kind: the least types to which two conform. Conditions: what is read; a right system.
  Package kind: Joins. Conditions: what is read; small types.
  The reference: names of classes. No condition.
  The reference: right types. Conditions: what is read; right headers.
  The reference: right types,however deep. Conditions: what is read; right headers.
  The reference: formals replaced,formals as types,parts. Conditions: what is read.
  The reference: headers. Conditions: what is read.
  The reference: tables of what formals of ancestors are. Conditions: what is read; right headers; no type of a parent has more than 200 parts.
  The reference: Check. Conditions: what is read; small types,not too many classes.
  The reference: opened,Right,Bound. Conditions: what is read; small types,not too many classes.
  The reference: instance,Instance,Seen. Conditions: what is read; small types,not too many classes.
  The reference: Seen,supers. Conditions: what is read; small types,not too many classes.
  The reference: why one type conforms to another. Conditions: what is read; small types; a right system.
  The reference: Supers,Conforms,Why,CheckWhy. Conditions: what is read; small types,not too many classes.
  The reference: CheckWhy,SameWay. Conditions: what is read; small types,not too many classes.
  The reference: joins. Conditions: what is read; small types; a right system.
  The reference: Joins,and that it is what package kind has. Conditions: what is read; small types,not too many classes.
  The chapter's example of generic classes: what package kind has of it. No condition.
-/
import Derived.Test.YtaohbfnepjjdgaaGreatM16
import Derived.Test.YtaohbfnepjjdgaaGreatM10
set_option linter.unusedVariables false
set_option linter.unusedSimpArgs false
namespace Go.Hr
open Go Go.RowKit Go.Ck Go.Proofs Go.Proofs.YtaohbfnepjjdgaaGreat Fx
attribute [local irreducible] Go.Ck.Sub St Cd Xt Nx DrL LsW
section
variable {S T N R:Res} {v:Value} {l:KS} {m:List (Bs×Value)} {mb:Nat} {s t:Kt} {va:Option Addr} {vc:Nat} {ts up:List Kt}
def upsK (l:KS) (F:List Fm) (t:Kt):List Kt:=supersK l F (t.with false false)
def bothK (l:KS) (F:List Fm) (s t:Kt):List Kt:=(upsK l F s).filter fun x=>(upsK l F t).any fun y=>y.same x
def lowK (l:KS) (F:List Fm) (s t:Kt):List Kt:=(bothK l F s t).filter fun x => !((bothK l F s t).any fun o => !(o.same x) && decide ((whyC l F o x).1<11))
def joinsK (l:KS) (F:List Fm) (s t:Kt):List Kt :=
 if ((s.kind == t.kind) && !isNmd s)=true then [s]
 else if ((s.kind == 0) && isNmd t)=true then [t.with true t.sep]
 else if ((t.kind == 0) && isNmd s)=true then [s.with true s.sep]
 else if (!isNmd s || !isNmd t)=true then []
 else if (((s.kind == 4) && (t.kind == 4)) && (s.name == t.name))=true then [s.with (s.void || t.void) (s.sep || t.sep)]
 else (lowK l F s t).map fun x=>x.with (s.void || t.void) (s.sep || t.sep)
theorem TyRows.set {rows : List (List Value)} (h : TyRows R rows ts) (i : Nat) {us : List Value} (ht : Ty R us t) : TyRows R (rows.set i us) (ts.set i t) := by
 obtain ⟨h1,h2,h3⟩:=h
 refine ⟨by simp [h1],fun r hr=>?_,fun j us' t' g1 g2=>?_⟩
 ·rcases List.mem_or_eq_of_mem_set hr with hr | rfl
  ·exact h2 r hr
  ·exact ht.len
 ·by_cases hj:i=j
  ·subst hj
   rw [List.getElem?_set_self (by have:=(List.getElem?_eq_some_iff.1 g1).1; simpa using this)] at g1
   rw [List.getElem?_set_self (by have:=(List.getElem?_eq_some_iff.1 g2).1; simpa using this)] at g2
   cases g1; cases g2; exact ht
  ·rw [List.getElem?_set_ne hj] at g1
   rw [List.getElem?_set_ne hj] at g2
   exact h3 j us' t' g1 g2
theorem vr_addr {la:Option Addr} {n lc:Nat} {rows:List (List Value)} {E:TypeId} {sz:Nat} (hok:∃ f,(VR (.slice la n lc) E sz rows).ok f) (h0:0<rows.length):∃ b o,la=some ⟨b,o,none⟩:=by
 obtain ⟨f,hf⟩:=hok
 rcases VR.form hf with ⟨_,rfl⟩ | ⟨b,o,cp,h1,_,_⟩
 ·simp at h0
 ·cases h1; exact ⟨b,o,rfl⟩
set_option maxHeartbeats 8000000 in
set_option maxRecDepth 100000 in
theorem joins_ct (hR : Right (ksys l)) (hM : KMap S m l) (hv : ksysR S (.slice va l.length vc) l) (c : Nm) {us ws : List Value} (hs : Ty S us s) (ht : Ty S ws t) :
  CtN Tryz.prog 72 #[wV mb va l.length vc,sv c,.agg us.toArray,.agg ws.toArray] [S,mps mb m] fun u T=>∃ a cap,u = .slice a (joinsK l (fmsOf l c) s t).length cap∧Tys (Res.star [T,S]) u (joinsK l (fmsOf l c) s t):=by
 have hml:maxLen=9223372036854775807:=rfl
 have hrb:reachBytes=140737488351232:=rfl
 have hs2:=hs
 obtain ⟨x,rfl,hx⟩:=hs.out
 obtain ⟨xa,xc,rfl,_⟩:=id hx.form
 obtain ⟨y,rfl,hy⟩:=ht.out
 obtain ⟨ya,yc,rfl,_⟩:=id hy.form
 have hns := @isNamed_ct s xa s.args.length xc
 have hnt := @isNamed_ct t ya t.args.length yc
 unfold joinsK
 unfold tyC at hns hnt
 unfold tyC wV
 refine ct_of (n:=124) Tryz.func72 Z Z (len Z) fun hr w0=>?_
 refine cQ (st_bx Z Z fun b4=>?_)
 refine st_bx Z Z fun b5=>?_
 refine st_bx Z Z fun b6=>?_
 refine st_bx Z Z fun b7=>?_
 refine sA Z (sK [4,5,6,7,8] Z (cQ (sV (vF Z fa25_3 Z) (sV (vY Z ld4) ?_))))
 refine sM Z (st_cut (k:=6) (d:=20) (v:=.bool (s.void || t.void)) (fun hcut=>bool_want (b:=(s.void)) false (fun hg=>?_) (fun hg=>?_)) ?_)
 ·refine st_sk Z Z hg ?_
  refine st_sk Z Z hg ?_
  refine sV (vQ (bO Z hg) Z) ?_
  exact hcut _ uG
 ·refine sG Z (bG Z hg) (vF Z fa25_3 Z) (sG Z (bG Z hg) (vY Z ld4) ?_)
  refine sV (vP (bO Z hg) Z) ?_
  exact hcut _ uG
 refine sV (vF Z fa25_4 Z) (sV (vY Z ld4) ?_)
 refine sM Z (st_cut (k:=12) (d:=26) (v:=.bool (s.sep || t.sep)) (fun hcut=>bool_want (b:=(s.sep)) false (fun hg=>?_) (fun hg=>?_)) ?_)
 ·refine st_sk Z Z hg ?_
  refine st_sk Z Z hg ?_
  refine sV (vQ (bO Z hg) Z) ?_
  exact hcut _ uG
 ·refine sG Z (bG Z hg) (vF Z fa25_4 Z) (sG Z (bG Z hg) (vY Z ld4) ?_)
  refine sV (vP (bO Z hg) Z) ?_
  exact hcut _ uG
 refine sV (v_build (cells:=[.int .i64 0,sv [],.slice none 0 0,.bool (s.void || t.void),.bool (s.sep || t.sep)]) Z (fun _=>by kernel_rfl)) ?_
 refine st_alc al25 fun b9=>?_
 refine st_stoW Z Z sz25 Z Z ?_
 refine sK [4,5,6,7,8,9] Z (cS (cB (cQ (sV (vF Z fa25_0 Z) (sV (vY Z ld3) ?_)))))
 refine sV (vF Z fa25_0 Z) (sV (vY Z ld3) ?_)
 refine sV (v_eql Z Z) (sM Z (st_cut (k:=10) (d:=38) (v:=.bool ((s.kind == t.kind) && !isNmd s)) (fun hcut=>bool_want (b:=(s.kind == t.kind)) true (fun hg=>?_) (fun hg=>?_)) ?_))
 ·refine st_sk Z Z hg ?_
  iterate 2 refine st_sk rfl rfl hg ?_
  refine sV (vP (bO Z hg) Z) ?_
  exact hcut _ uG
 ·refine sG Z (bG Z hg) (v_ldn Z ld25 Z rds_pt) ?_
  refine st_clrg Z (bG Z hg) Z Z en112 Z (hns) ?_
  refine sG Z (bG Z hg) (v_not Z) (sV (vQ (bO Z hg) Z) ?_)
  exact hcut _ uG
 refine sA Z (sK [4,5,6,7,8,9,28] Z (cC Z (fun h0=>?_) (fun h0=>?_)))
 ·have h0:((s.kind == t.kind) && !isNmd s)=true:=h0
  rw [if_pos h0]
  refine cQ (sV (v_ldn Z ld25 Z rds_pt) ?_)
  refine st_buildSlice (cells:=tyC s (.slice xa s.args.length xc)) Z Tryz.underlying23 inf25 Z Z (by kernel_rfl) (ltn Z) fun b40=>?_
  refine st_pv (pv_of (b:=b40) (n:=1) (sz:=5) (E:=25) [tyC s (.slice xa s.args.length xc)] Z (by simp [tyC]) Z (by decide)) ?_
  simp only [lC,lN]
  refine st_ok (r:=VR (.slice (some ⟨b40,0,none⟩) 1 1) 25 5 [tyC s (.slice xa s.args.length xc)]) slq fun hok=>?_
  refine sA Z (sK [8] Z (cT (xW (xR ?_))))
  exact xt_rt Z ⟨VR (.slice (some ⟨b40,0,none⟩) 1 1) 25 5 [tyC s (.slice xa s.args.length xc)],Z,_,_,Z,tys_one hs2 hok⟩ sbq
 ·have h0:¬ ((s.kind == t.kind) && !isNmd s)=true:=by rw [show ((s.kind == t.kind) && !isNmd s)=false from h0]; decide
  rw [if_neg h0]
  refine cS (cQ (sV (vF Z fa25_0 Z) (sV (vY Z ld3) ?_)))
  refine sV (v_eql Z Z) (sM Z (st_cut (k:=7) (d:=48) (v:=.bool ((s.kind == 0) && isNmd t)) (fun hcut=>bool_want (b:=(s.kind == 0)) true (fun hg=>?_) (fun hg=>?_)) ?_))
  ·refine st_sk Z Z hg ?_
   refine st_sk Z Z hg ?_
   refine sV (vP (bO Z hg) Z) ?_
   exact hcut _ uG
  ·refine sG Z (bG Z hg) (v_ldn Z ld25 Z rds_pt) ?_
   refine st_clrg Z (bG Z hg) Z Z en112 Z (hnt) ?_
   refine sV (vQ (bO Z hg) Z) ?_
   exact hcut _ uG
  refine sA Z (sK [4,5,6,7,8,9,41] Z (cC Z (fun h1=>?_) (fun h1=>?_)))
  ·have h1:((s.kind == 0) && isNmd t)=true:=h1
   have hk:(s.kind == 0)=true:=by simp only [Bool.and_eq_true] at h1; exact h1.1
   rw [if_pos h1]
   refine cK (xT ?_)
   rw [h1]
   refine cd_true Z ?_
   refine cQ (sV (v_ldn Z ld25 Z rds_pt) ?_)
   refine st_alc al25 fun b10=>?_
   refine st_stoW Z Z sz25 Z Z ?_
   refine sK [4,5,6,7,8,9,10] Z (cS (cQ (sV (vF Z fa25_0 Z) (sV (vY Z ld3) ?_))))
   refine sV (v_eql Z Z) (sK [4,5,6,7,8,9,10,59] Z ?_)
   rw [hk]
   refine cd_true Z ?_
   refine cR (sV (v_ldn Z ld25 Z rds_pt) ?_)
   refine st_stoW Z Z sz25 Z Z ?_
   refine sK [4,5,6,7,8,9,10] Z (cQ (sV (vF Z fa25_3 Z) (st_sto Z Z sz4 ?_)))
   refine sK [4,5,6,7,8,9,10] Z (cQ (sV (v_ldn Z ld25 Z rds_pt) ?_))
   refine st_buildSlice (cells:=[.int .i64 t.kind,sv t.name,.slice ya t.args.length yc,.bool true,.bool t.sep]) Z Tryz.underlying23 inf25 Z Z (by kernel_rfl) (ltn Z) fun b63=>?_
   refine st_pv (pv_of (b:=b63) (n:=1) (sz:=5) (E:=25) [[.int .i64 t.kind,sv t.name,.slice ya t.args.length yc,.bool true,.bool t.sep]] Z (by simp) Z (by decide)) ?_
   simp only [lC,lN]
   refine st_ok (r:=VR (.slice (some ⟨b63,0,none⟩) 1 1) 25 5 [[.int .i64 t.kind,sv t.name,.slice ya t.args.length yc,.bool true,.bool t.sep]]) slq fun hok=>?_
   refine sA Z (sK [8] Z (cT (xW (xR ?_))))
   exact xt_rt Z ⟨VR (.slice (some ⟨b63,0,none⟩) 1 1) 25 5 [[.int .i64 t.kind,sv t.name,.slice ya t.args.length yc,.bool true,.bool t.sep]],Z,_,_,Z,tys_one (Ty.of (t:=t.with true t.sep) Z hy) hok⟩ sbq
  ·have h1:((s.kind == 0) && isNmd t)=false:=h1
   rw [if_neg (by rw [h1]; decide)]
   refine cR (sV (vF Z fa25_0 Z) (sV (vY Z ld3) ?_))
   refine sV (v_eql Z Z) (sM Z (st_cut (k:=7) (d:=55) (v:=.bool ((t.kind == 0) && isNmd s)) (fun hcut=>bool_want (b:=(t.kind == 0)) true (fun hg=>?_) (fun hg=>?_)) ?_))
   ·refine st_sk Z Z hg ?_
    refine st_sk Z Z hg ?_
    refine sV (vP (bO Z hg) Z) ?_
    exact hcut _ uG
   ·refine sG Z (bG Z hg) (v_ldn Z ld25 Z rds_pt) ?_
    refine st_clrg Z (bG Z hg) Z Z en112 Z (hns) ?_
    refine sV (vQ (bO Z hg) Z) ?_
    exact hcut _ uG
   refine sA Z (sK [4,5,6,7,8,9,41] Z (cC Z (fun h2=>?_) (fun h2=>?_)))
   ·have h2:((t.kind == 0) && isNmd s)=true:=h2
    have hk:(s.kind == 0)=false:=by
     simp only [Bool.and_eq_true] at h2
     have:=h2.2
     unfold isNmd at this
     rw [beq_eq_false_iff_ne]
     intro h; rw [h] at this; exact absurd this (by decide)
    rw [if_pos h2]
    refine cQ (sV (v_ldn Z ld25 Z rds_pt) ?_)
    refine st_alc al25 fun b10=>?_
    refine st_stoW Z Z sz25 Z Z ?_
    refine sK [4,5,6,7,8,9,10] Z (cS (cQ (sV (vF Z fa25_0 Z) (sV (vY Z ld3) ?_))))
    refine sV (v_eql Z Z) (sK [4,5,6,7,8,9,10,59] Z ?_)
    rw [hk]
    refine cd_false Z ?_
    refine cK (xT (cQ (sV (vF Z fa25_3 Z) (st_sto Z Z sz4 ?_))))
    refine sK [4,5,6,7,8,9,10] Z (cQ (sV (v_ldn Z ld25 Z rds_pt) ?_))
    refine st_buildSlice (cells:=[.int .i64 s.kind,sv s.name,.slice xa s.args.length xc,.bool true,.bool s.sep]) Z Tryz.underlying23 inf25 Z Z (by kernel_rfl) (ltn Z) fun b63=>?_
    refine st_pv (pv_of (b:=b63) (n:=1) (sz:=5) (E:=25) [[.int .i64 s.kind,sv s.name,.slice xa s.args.length xc,.bool true,.bool s.sep]] Z (by simp) Z (by decide)) ?_
    simp only [lC,lN]
    refine st_ok (r:=VR (.slice (some ⟨b63,0,none⟩) 1 1) 25 5 [[.int .i64 s.kind,sv s.name,.slice xa s.args.length xc,.bool true,.bool s.sep]]) slq fun hok=>?_
    refine sA Z (sK [8] Z (cT (xW (xR ?_))))
    exact xt_rt Z ⟨VR (.slice (some ⟨b63,0,none⟩) 1 1) 25 5 [[.int .i64 s.kind,sv s.name,.slice xa s.args.length xc,.bool true,.bool s.sep]],Z,_,_,Z,tys_one (Ty.of (t:=s.with true s.sep) Z hx) hok⟩ sbq
   ·have h2:((t.kind == 0) && isNmd s)=false:=h2
    rw [if_neg (by rw [h2]; decide)]
    refine cQ (sV (v_ldn Z ld25 Z rds_pt) ?_)
    refine st_clr Z Z en112 Z (hns) ?_
    refine sV (v_not Z) (sM Z (st_cut (k:=8) (d:=72) (v:=.bool (!isNmd s || !isNmd t)) (fun hcut=>bool_want (b:=(!isNmd s)) false (fun hg=>?_) (fun hg=>?_)) ?_))
    ·refine st_sk Z Z hg ?_
     iterate 2 refine st_sk rfl rfl hg ?_
     refine sV (vQ (bO Z hg) Z) ?_
     exact hcut _ uG
    ·refine sG Z (bG Z hg) (v_ldn Z ld25 Z rds_pt) ?_
     refine st_clrg Z (bG Z hg) Z Z en112 Z (hnt) ?_
     refine sG Z (bG Z hg) (v_not Z) (sV (vP (bO Z hg) Z) ?_)
     exact hcut _ uG
    refine sA Z (sK [4,5,6,7,8,9,64] Z (cC Z (fun h3=>?_) (fun h3=>?_)))
    ·have h3:(!isNmd s || !isNmd t)=true:=h3
     rw [if_pos h3]
     refine cQ (sA Z (sK [8] Z (cT (xW (xR (xt_vw (vw_unstar (L:=[])) ?_))))))
     exact xt_rt Z ⟨Res.star [],Z,none,0,Z,Tys.nil⟩ sbq
    ·have h3:(!isNmd s || !isNmd t)=false:=h3
     rw [if_neg (by rw [h3]; decide)]
     refine cQ (sV (vF Z fa25_0 Z) (sV (vY Z ld3) ?_))
     refine sV (v_eql Z Z) (sM Z (st_cut (k:=8) (d:=81) (v:=.bool ((s.kind == 4) && (t.kind == 4))) (fun hcut=>bool_want (b:=(s.kind == 4)) true (fun hg=>?_) (fun hg=>?_)) ?_))
     ·refine st_sk Z Z hg ?_
      iterate 2 refine st_sk rfl rfl hg ?_
      refine sV (vP (bO Z hg) Z) ?_
      exact hcut _ uG
     ·refine sG Z (bG Z hg) (vF Z fa25_0 Z) (sG Z (bG Z hg) (vY Z ld3) ?_)
      refine sG Z (bG Z hg) (v_eql Z Z) (sV (vQ (bO Z hg) Z) ?_)
      exact hcut _ uG
     refine sM Z (st_cut (k:=15) (d:=88) (v:=.bool (((s.kind == 4) && (t.kind == 4)) && (s.name == t.name))) (fun hcut=>bool_want (b:=((s.kind == 4) && (t.kind == 4))) true (fun hg=>?_) (fun hg=>?_)) ?_)
     ·refine st_sk Z Z hg ?_
      iterate 4 refine st_sk rfl rfl hg ?_
      refine sV (vP (bO Z hg) Z) ?_
      exact hcut _ uG
     ·refine sG Z (bG Z hg) (vF Z fa25_1 Z) (sG Z (bG Z hg) (vY Z ld9) ?_)
      refine sG Z (bG Z hg) (vF Z fa25_1 Z) (sG Z (bG Z hg) (vY Z ld9) ?_)
      refine sG Z (bG Z hg) (v_seql Z Z) (sV (vQ (bO Z hg) Z) ?_)
      exact hcut _ uG
     refine sA Z (sK [4,5,6,7,8,9,73] Z (cC Z (fun h4=>?_) (fun h4=>?_)))
     ·have h4:(((s.kind == 4) && (t.kind == 4)) && (s.name == t.name))=true:=h4
      rw [if_pos h4]
      refine cQ (sV (v_ldn Z ld25 Z rds_pt) ?_)
      refine sV (v_ldn Z ld25 Z rds_pt) ?_
      refine st_clr Z Z en105 Z (with_raw) ?_
      refine st_buildSlice (cells:=[.int .i64 s.kind,sv s.name,.slice xa s.args.length xc,.bool (s.void || t.void),.bool (s.sep || t.sep)]) Z Tryz.underlying23 inf25 Z Z (by kernel_rfl) (ltn Z) fun b92=>?_
      refine st_pv (pv_of (b:=b92) (n:=1) (sz:=5) (E:=25) [[.int .i64 s.kind,sv s.name,.slice xa s.args.length xc,.bool (s.void || t.void),.bool (s.sep || t.sep)]] Z (by simp) Z (by decide)) ?_
      simp only [lC,lN]
      refine st_ok (r:=VR (.slice (some ⟨b92,0,none⟩) 1 1) 25 5 [[.int .i64 s.kind,sv s.name,.slice xa s.args.length xc,.bool (s.void || t.void),.bool (s.sep || t.sep)]]) slq fun hok=>?_
      refine sA Z (sK [8] Z (cT (xW (xR ?_))))
      exact xt_rt Z ⟨VR (.slice (some ⟨b92,0,none⟩) 1 1) 25 5 [[.int .i64 s.kind,sv s.name,.slice xa s.args.length xc,.bool (s.void || t.void),.bool (s.sep || t.sep)]],Z,_,_,Z,tys_one (Ty.of (t:=s.with (s.void || t.void) (s.sep || t.sep)) Z hx) hok⟩ sbq
     ·have h4:(((s.kind == 4) && (t.kind == 4)) && (s.name == t.name))=false:=h4
      rw [if_neg (by rw [h4]; decide)]
      refine cK (xB (xT (cS (cd_drawh (ork [(0,1),(1,1),(2,1),(3,1)] (.two 4 (ork [(5,0),(6,0)] .nil) 5 (ork [(4,0),(6,0)] .nil))) (fun i => !(Nat.beq i 4 || Nat.beq i 6)) mixed (by kernel_rfl) ?_))))
      have hsut:=supers_ct (mb:=mb) hR hM hv c (Ty.of (us:=tyC (t.with false false) (.slice ya t.args.length yc)) (t:=t.with false false) rfl hy)
      have hsus:=supers_ct (mb:=mb) hR hM hv c (Ty.of (us:=tyC (s.with false false) (.slice xa s.args.length xc)) (t:=s.with false false) rfl hx)
      have hbt := @bare_ct t ya t.args.length yc
      have hbs := @bare_ct s xa s.args.length xc
      rw [show supersK l (fmsOf l c) (t.with false false)=upsK l (fmsOf l c) t from rfl] at hsut
      rw [show supersK l (fmsOf l c) (s.with false false)=upsK l (fmsOf l c) s from rfl] at hsus
      unfold wV tyC at hsut hsus
      unfold tyC at hbt hbs
      unfold lowK bothK
      refine dr_v Z (v_ldn Z ld85 Z rds_pt) ?_
      refine dr_v Z (vY Z ld9) ?_
      refine dr_v Z (v_ldn Z ld25 Z rds_pt) ?_
      refine dr_clr Z Z Z en113 Z (hbt) ?_
      generalize upsK l (fmsOf l c) t=ut at *
      generalize upsK l (fmsOf l c) s=us at *
      refine dr_cutK (α := {q:Nat×Option Addr×Nat×Res // Tys (Res.star [q.2.2.2,S]) (.slice q.2.1 ut.length q.2.2.1) ut}) (fun q=>[(4,.pointer (some ⟨b4,0,none⟩)),(5,.pointer (some ⟨b5,0,none⟩)),(6,.pointer (some ⟨b6,0,none⟩)),(7,.pointer (some ⟨b7,0,none⟩)),(9,.pointer (some ⟨b9,0,none⟩)),(11,.pointer (some ⟨q.1.1,0,none⟩))]) (fun q=>pt q.1.1 (cl [.slice q.1.2.1 ut.length q.1.2.2.1] 23)::q.1.2.2.2::pt b4 (cl [.map (some mb),.slice va l.length vc] 85)::pt b5 (cl [sv c] 9)::pt b6 (cl [.int .i64 s.kind,sv s.name,.slice xa s.args.length xc,.bool s.void,.bool s.sep] 25)::pt b7 (cl [.int .i64 t.kind,sv t.name,.slice ya t.args.length yc,.bool t.void,.bool t.sep] 25)::pt b9 (cl [.int .i64 0,sv [],.slice none 0 0,.bool (s.void || t.void),.bool (s.sep || t.sep)] 25)::S::mps mb m::hr) (fun q=>?_) (fun hcont=>?_)
      ·refine nT ?_
       obtain ⟨⟨b11,oa,oc,T1⟩,hoth⟩:=q
       dsimp only at hoth ⊢
       refine cS (cd_drawh (ork [(0,1),(1,1),(2,1),(3,1),(5,2)] (.two 4 (.two 6 (ork [(7,0),(8,0)] .nil) 7 (ork [(6,0),(8,0)] .nil)) 7 (ork [(4,0),(6,0),(8,0)] .nil))) (fun i => !(Nat.beq i 4 || Nat.beq i 6 || Nat.beq i 8)) mixed (by kernel_rfl) ?_)
       refine dr_v Z (v_ldn Z ld85 Z rds_pt) ?_
       refine dr_v Z (vY Z ld9) ?_
       refine dr_v Z (v_ldn Z ld25 Z rds_pt) ?_
       refine dr_clr Z Z Z en113 Z (hbs) ?_
       refine dV Z (v_makeFunc Z Z) (dr_cutK (α := {q:Nat×Option Addr×Nat×Res // Tys (Res.star [q.2.2.2,S]) (.slice q.2.1 (us.filter fun s=>ut.any fun t=>t.same s).length q.2.2.1) (us.filter fun s=>ut.any fun t=>t.same s)}) (fun q=>[(4,.pointer (some ⟨b4,0,none⟩)),(5,.pointer (some ⟨b5,0,none⟩)),(6,.pointer (some ⟨b6,0,none⟩)),(7,.pointer (some ⟨b7,0,none⟩)),(9,.pointer (some ⟨b9,0,none⟩)),(12,.pointer (some ⟨q.1.1,0,none⟩))]) (fun q=>pt q.1.1 (cl [.slice q.1.2.1 (us.filter fun s=>ut.any fun t=>t.same s).length q.1.2.2.1] 23)::q.1.2.2.2::pt b4 (cl [.map (some mb),.slice va l.length vc] 85)::pt b5 (cl [sv c] 9)::pt b6 (cl [.int .i64 s.kind,sv s.name,.slice xa s.args.length xc,.bool s.void,.bool s.sep] 25)::pt b7 (cl [.int .i64 t.kind,sv t.name,.slice ya t.args.length yc,.bool t.void,.bool t.sep] 25)::pt b9 (cl [.int .i64 0,sv [],.slice none 0 0,.bool (s.void || t.void),.bool (s.sep || t.sep)] 25)::S::mps mb m::hr) (fun q=>?_) (fun hcont=>?_))
       ·refine nT ?_
        obtain ⟨⟨b12,wa,wc,T⟩,hboth⟩:=q
        dsimp only at hboth ⊢
        generalize (us.filter fun s=>ut.any fun t=>t.same s)=both at *
        refine cd_pv (pv_pack (L:=[T,S])) ?_
        simp only [lC,lN]
        have hM2:KMap (Res.star [T,S]) m l:=hM.mono (rd_in (.there .here))
        have hv2:ksysR (Res.star [T,S]) (.slice va l.length vc) l:=hv.mono (rd_in (.there .here))
        have hsy:=says118 (mb:=mb) (ts:=both) (p1:=b12) (p2:=b4) (p3:=b5) hR hM2 hv2 c hboth
        unfold WN at hsy
        refine cQ (sV (vY Z ld23) ?_)
        refine sV (v_makeFunc Z Z) (st_pv (pv_pack (L:=[pt b12 (cl [.slice wa both.length wc] 23),pt b4 (cl [.map (some mb),.slice va l.length vc] 85),pt b5 (cl [sv c] 9),mps mb m])) ?_)
        simp only [lC,lN]
        refine st_cl Z Z en114 Z (sifted_ct hboth en118 hsy) ?_
        rintro u h' ⟨T4,rfl,la,lc,rows,rfl,rfl,hrows,_⟩
        simp only [lC,lN]
        generalize hlow:(both.filter fun s => !(both.any fun o => !(o.same s) && decide ((whyC l (fmsOf l c) o s).1<11)))=low at *
        refine st_pv (pv_unpack (L:=[pt b12 (cl [.slice wa both.length wc] 23),pt b4 (cl [.map (some mb),.slice va l.length vc] 85),pt b5 (cl [sv c] 9),mps mb m])) ?_
        simp only [lC,lN]
        refine sA Z (sK [9,13] Z (cS (cQ (sM Z (sV (v_len Z Tryz.underlying23) (sM Z (sK [9,13,109,110] Z (cB ?_))))))))
        have hlr:low.length * 56≤reachBytes:=by
         have h1:low.length≤both.length:=by rw [← hlow]; exact List.length_filter_le _ _
         have h2:=hboth.2
         omega
        refine cd_lq (σ := List (List Value)×Nat) (fun q=>[(9,.pointer (some ⟨b9,0,none⟩)),(13,.slice la low.length lc),(109,.int .i64 low.length),(110,.int .i64 (q.2:Nat))]) (fun q=>VR (.slice la low.length lc) 25 5 q.1::Res.star [T,S]::pt b9 (cl [.int .i64 0,sv [],.slice none 0 0,.bool (s.void || t.void),.bool (s.sep || t.sep)] 25)::mps mb m::hr) (fun q=>q.2≤low.length∧TyRows (Res.star [T,S]) q.1 ((low.take q.2).map (fun x=>x.with (s.void || t.void) (s.sep || t.sep))++low.drop q.2)) (fun q=>low.length - q.2) (rows,0) ⟨Nat.zero_le _,hrows⟩ ?_
        rintro ⟨rw,i⟩ ⟨hi,hro⟩
        simp only at hi hro
        dsimp only
        refine cQ (sV (v_lss Z Z) (sN (nT (cS (cC Z (fun hd=>?_) (fun hd=>?_))))))
        ·have hlt:i<low.length:=by simpa using hd
         refine cd_ok (r:=VR (.slice la low.length lc) 25 5 rw) slq fun hok=>?_
         have hrl:rw.length=low.length:=by rw [hro.1]; simp; omega
         obtain ⟨b,o,rfl⟩:=vr_addr hok (by omega)
         have hri:rw[i]? = some rw[i]:=List.getElem?_eq_getElem (by omega)
         have hti:=hro.2.2 i _ low[i] hri (by rw [List.getElem?_append_right (by simp; omega)]; simp [hlt,Nat.min_eq_left hi])
         have hsl:(((low.take i).map (fun x=>x.with (s.void || t.void) (s.sep || t.sep))++low.drop i).set i ((low[i]).with (s.void || t.void) (s.sep || t.sep)))=(low.take (i+1)).map (fun x=>x.with (s.void || t.void) (s.sep || t.sep))++low.drop (i+1):=by
          rw [List.set_append_right _ _ (by simp; omega),List.length_map,List.length_take,Nat.min_eq_left hi,Nat.sub_self,List.drop_eq_getElem_cons hlt,List.set_cons_zero,show low.take (i+1)=low.take i++[low[i]] by rw [List.take_add_one,List.getElem?_eq_getElem hlt]; rfl,List.map_append,List.append_assoc]
          rfl
         have hiw:i<rw.length:=by omega
         generalize low[i]=x at hti hsl
         obtain ⟨z,hz,hzt⟩:=hti.out
         obtain ⟨za,zc,rfl,_⟩:=id hzt.form
         rw [hz] at hri
         unfold tyC at hri
         have hrd:=rds_vr (E:=25) (sz:=5) (b:=b) (o:=o) (n:=low.length) (cp:=lc) hri
         have hst:=hro.set i (us:=[.int .i64 x.kind,sv x.name,.slice za x.args.length zc,.bool (s.void || t.void),.bool (s.sep || t.sep)]) (Ty.of (t:=x.with (s.void || t.void) (s.sep || t.sep)) rfl hzt)
         rw [hsl] at hst
         refine cK (xT (cS (cB (cQ (sM Z (sA Z (sK [9,13,14,109,110] Z (cd_drawh (ork [(0,2),(1,2),(2,2),(3,2),(4,2),(5,1),(6,1),(7,1),(8,2),(9,0)] .nil) (fun i => !(Nat.beq i 9)) mixed (by kernel_rfl) ?_))))))))
         refine dV Z (vM Z) (dV Z (vM Z) (dV Z (vM Z) (dV Z (vM Z) (dV Z (vI (k:=i) Z Z sl23 Z hlt Z) (dr_v Z (v_ldn Z ld25 Z hrd) ?_)))))
         refine dr_v Z (v_ldn Z ld25 Z rds_pt) ?_
         refine dr_clr Z Z Z en105 Z (with_raw) ?_
         refine dV Z (vI (k:=i) Z Z sl23 Z hlt Z) (dr_eff Z (st_vrN Z Z sz25 Z (by simp [Value.oneCell',sv]) hiw slq ?_))
         refine dr_nx ?_
         refine dr_nil (nK [9,13,109,110] Z (nx_xt (xB (xT (cR (sV (v_add Z Z (by unfold I64 at *; omega)) (sM Z (sN (nK [9,13,109,110] Z (nx_xt ?_))))))))))
         refine xt_aq (rw.set i [.int .i64 x.kind,sv x.name,.slice za x.args.length zc,.bool (s.void || t.void),.bool (s.sep || t.sep)],i+1) ⟨hlt,hst⟩ (Nat.sub_lt_sub_left hlt (Nat.lt_succ_self i))
        ·have hil:i=low.length:=by
          have:¬ i<low.length:=by simpa using hd
          omega
         rw [hil,List.take_length,List.drop_length,List.append_nil] at hro
         refine cd_exit (xE (xE (xY (xT (cQ (sM Z (sA Z (sK [8] Z (cT (xt_ok (r:=VR (.slice la low.length lc) 25 5 rw) slq fun hok=>?_))))))))))
         refine xt_pv (pv_unpack (L:=[T,S])) ?_
         simp only [lC,lN]
         refine xt_pv (pv_pack (L:=[VR (.slice la low.length lc) 25 5 rw,T])) ?_
         simp only [lC,lN]
         have hty:Tys (Res.star [Res.star [VR (.slice la low.length lc) 25 5 rw,T],S]) (.slice la low.length lc) (low.map fun x=>x.with (s.void || t.void) (s.sep || t.sep)):=(hro.mono fun p u g=>rd_up p u (.there .here) g).tys hok (fun p u g=>rd_in .here p u (rd_in .here p u g)) (by rw [List.length_map]; exact hlr)
         exact xt_rt Z ⟨_,Z,la,lc,(by rw [List.length_map]; rfl),hty⟩ sbq
       ·refine dr_two Z Z ?_ ?_
        ·refine st_cl Z Z en59 Z (hsus) ?_
         rintro u h' ⟨T2,rfl,sa,sc,rfl,hsu⟩
         simp only [lC,lN]
         refine st_pv (pv_pack (L:=[T1,T2])) ?_
         simp only [lC,lN]
         refine st_pv (pv_pack (L:=[Res.star [T1,T2],S])) ?_
         simp only [lC,lN]
         have hot:Tys (Res.star [Res.star [T1,T2],S]) (.slice oa ut.length oc) ut:=hoth.mono fun p u g=>rd_up p u .here g
         have hsu:Tys (Res.star [Res.star [T1,T2],S]) (.slice sa us.length sc) us:=hsu.mono fun p u g=>rd_up p u (.there .here) g
         refine dr_nx ?_
         refine dr_two Z Z ?_ ?_
         ·refine st_cl Z Z en114 Z (sifted_ct hsu en115 (says115 hot)) ?_
          rintro u h' ⟨T3,rfl,wa,wc,rows,rfl,hT3,_,hboth⟩
          clear hT3
          simp only [lC,lN]
          refine st_pv (pv_unpack (L:=[Res.star [T1,T2],S])) ?_
          simp only [lC,lN]
          refine st_pv (pv_pack (L:=[Res.star [T1,T2],T3])) ?_
          simp only [lC,lN]
          refine dr_nx ?_
          refine dr_eff Z (st_alc al23 fun b12=>dr_nx ?_)
          refine dr_eff Z (st_sto Z Z sz23 (dr_nx ?_))
          exact dr_nil (hcont ⟨(b12,wa,wc,Res.star [Res.star [T1,T2],T3]),hboth.mono fun p u g=>rd_turn p u g⟩ _ _ ⟨Z,Z,Z,Z,Z,Z,trivial⟩ sbr)
         ·refine st_alc al23 fun b12=>dr_nx ?_
          refine dr_eff Z (st_cl Z Z en114 Z (sifted_ct hsu en115 (says115 hot)) ?_)
          rintro u h' ⟨T3,rfl,wa,wc,rows,rfl,hT3,_,hboth⟩
          clear hT3
          simp only [lC,lN]
          refine st_pv (pv_unpack (L:=[Res.star [T1,T2],S])) ?_
          simp only [lC,lN]
          refine st_pv (pv_pack (L:=[Res.star [T1,T2],T3])) ?_
          simp only [lC,lN]
          refine dr_nx ?_
          refine dr_eff Z (st_sto Z Z sz23 (dr_nx ?_))
          exact dr_nil (hcont ⟨(b12,wa,wc,Res.star [Res.star [T1,T2],T3]),hboth.mono fun p u g=>rd_turn p u g⟩ _ _ ⟨Z,Z,Z,Z,Z,Z,trivial⟩ sbr)
        ·refine st_alc al23 fun b12=>dr_nx ?_
         refine dr_eff Z (st_cl Z Z en59 Z (hsus) ?_)
         rintro u h' ⟨T2,rfl,sa,sc,rfl,hsu⟩
         simp only [lC,lN]
         refine st_pv (pv_pack (L:=[T1,T2])) ?_
         simp only [lC,lN]
         refine st_pv (pv_pack (L:=[Res.star [T1,T2],S])) ?_
         simp only [lC,lN]
         have hot:Tys (Res.star [Res.star [T1,T2],S]) (.slice oa ut.length oc) ut:=hoth.mono fun p u g=>rd_up p u .here g
         have hsu:Tys (Res.star [Res.star [T1,T2],S]) (.slice sa us.length sc) us:=hsu.mono fun p u g=>rd_up p u (.there .here) g
         refine dr_nx ?_
         refine dr_eff Z (st_cl Z Z en114 Z (sifted_ct hsu en115 (says115 hot)) ?_)
         rintro u h' ⟨T3,rfl,wa,wc,rows,rfl,hT3,_,hboth⟩
         clear hT3
         simp only [lC,lN]
         refine st_pv (pv_unpack (L:=[Res.star [T1,T2],S])) ?_
         simp only [lC,lN]
         refine st_pv (pv_pack (L:=[Res.star [T1,T2],T3])) ?_
         simp only [lC,lN]
         refine dr_nx ?_
         refine dr_eff Z (st_sto Z Z sz23 (dr_nx ?_))
         exact dr_nil (hcont ⟨(b12,wa,wc,Res.star [Res.star [T1,T2],T3]),hboth.mono fun p u g=>rd_turn p u g⟩ _ _ ⟨Z,Z,Z,Z,Z,Z,trivial⟩ sbr)
      ·refine dr_two Z Z ?_ ?_
       ·refine st_cl Z Z en59 Z (hsut) ?_
        rintro u h' ⟨T1,rfl,oa,oc,rfl,hoth⟩
        simp only [lC,lN]
        refine dr_nx ?_
        refine dr_eff Z (st_alc al23 fun b11=>dr_nx ?_)
        refine dr_eff Z (st_sto Z Z sz23 (dr_nx ?_))
        exact dr_nil (hcont ⟨(b11,oa,oc,T1),hoth⟩ _ _ ⟨Z,Z,Z,Z,Z,Z,trivial⟩ sbr)
       ·refine st_alc al23 fun b11=>dr_nx ?_
        refine dr_eff Z (st_cl Z Z en59 Z (hsut) ?_)
        rintro u h' ⟨T1,rfl,oa,oc,rfl,hoth⟩
        simp only [lC,lN]
        refine dr_nx ?_
        refine dr_eff Z (st_sto Z Z sz23 (dr_nx ?_))
        exact dr_nil (hcont ⟨(b11,oa,oc,T1),hoth⟩ _ _ ⟨Z,Z,Z,Z,Z,Z,trivial⟩ sbr)
end
end Go.Hr
namespace Go.Hr
open Go Go.RowKit Go.Ck Go.Proofs Go.Proofs.YtaohbfnepjjdgaaGreat Fx
attribute [local irreducible] Go.Ck.Sub St Cd Xt Nx DrL LsW
section
variable {S T N R:Res} {v:Value} {l:KS} {m:List (Bs×Value)} {mb:Nat} {s t:Kt} {va:Option Addr} {vc:Nat} {ts up:List Kt}
def JoinsK (l:KS) (c:Nm) (s t:Kt):List Kt×Int:=if askedE l c [s,t]≠0 then ([],askedE l c [s,t]) else (joinsK l (fmsOf l c) s t,0)
set_option maxHeartbeats 4000000 in
set_option maxRecDepth 100000 in
theorem Joins_ct (hv:ksysR S v l) (htn:Tiny l) (c:Nm) {us ws:List Value} (hs:Ty S us s) (ht:Ty S ws t) (hds:s.depth≤1000000) (hdt:t.depth≤1000000) :
  CtN Tryz.prog 37 #[v,sv c,.agg us.toArray,.agg ws.toArray] [S] fun u T=>∃ w,u = .tuple #[w,.int .i64 (JoinsK l c s t).2]∧w.oneCell'=true∧Tys (Res.star [T,S]) w (JoinsK l c s t).1:=by
 obtain ⟨va,vc,rfl,_⟩:=id hv
 have h1:=fun b hok=>kasked_ct (hv.mono (rd_in (.there .here))) htn c (tys_two (b:=b) hs ht hok) (fun s' hs'=>by
  rcases List.mem_cons.1 hs' with rfl | h
  ·exact hds
  ·simp at h; subst h; exact hdt)
 have hwf:=fun b mb m hM hR=>joins_ct (S:=(Res.star [VR (.slice (some ⟨b,0,none⟩) 2 2) 25 5 [us,ws],S])) (l:=l) (m:=m) (mb:=mb) hR hM (hv.mono (rd_in (.there .here))) c (hs.mono (rd_in (.there .here))) (ht.mono (rd_in (.there .here)))
 obtain ⟨x,rfl,hx⟩:=hs.out
 obtain ⟨xa,xc,rfl,_⟩:=id hx.form
 obtain ⟨y,rfl,hy2⟩:=ht.out
 obtain ⟨ya,yc,rfl,_⟩:=id hy2.form
 unfold wV tyC at hwf
 unfold JoinsK
 refine ct_of (n:=29) Tryz.func37 Z Z (len Z) fun hr w0=>?_
 refine cQ (st_bx Z Z fun b6=>?_)
 refine st_bx Z Z fun b7=>?_
 refine sA Z (sA Z (sK [0,1,6,7,8,9] Z (cQ (sM Z (sM Z (sV (v_ldn Z ld25 Z rds_pt) ?_))))))
 refine sV (v_ldn Z ld25 Z rds_pt) ?_
 refine st_buildSlice (cells:=tyC s (.slice xa s.args.length xc)++tyC t (.slice ya t.args.length yc)) Z Tryz.underlying23 inf25 Z Z (by kernel_rfl) (ltn Z) fun b17=>?_
 refine st_pv (pv_of (b:=b17) (n:=2) (sz:=5) (E:=25) [tyC s (.slice xa s.args.length xc),tyC t (.slice ya t.args.length yc)] Z (by simp [tyC]) Z (by decide)) ?_
 simp only [lC,lN]
 refine st_ok (r:=VR (.slice (some ⟨b17,0,none⟩) 2 2) 25 5 [tyC s (.slice xa s.args.length xc),tyC t (.slice ya t.args.length yc)]) slq fun hok=>?_
 refine st_pv (pv_pack (L:=[VR (.slice (some ⟨b17,0,none⟩) 2 2) 25 5 [tyC s (.slice xa s.args.length xc),tyC t (.slice ya t.args.length yc)],S])) ?_
 simp only [lC,lN]
 refine st_cl Z Z en54 Z (h1 b17 hok) ?_
 rintro u h' ⟨mb,m,rfl,rfl,hM⟩
 unfold wV
 simp only [lC,lN]
 refine sM Z (sV (v_extract Z Z) (sV (v_extract Z Z) (st_alc al85 fun b10=>?_)))
 refine st_stoW Z Z sz85 Z Z ?_
 refine sA Z (sK [1,6,7,8,9,10,11] Z (cS (cQ (sM Z (sV (v_neq Z Z) (sK [1,6,7,8,9,10,11,22] Z (cC Z (fun he=>?_) (fun he=>?_))))))))
 ·rw [if_pos (by simpa using he)]
  refine cQ (sM Z (sA Z (sA Z (sK [8,9] Z (cT (xR (xt_pv (pv_unpack (L:=[VR (.slice (some ⟨b17,0,none⟩) 2 2) 25 5 [tyC s (.slice xa s.args.length xc),tyC t (.slice ya t.args.length yc)],S])) ?_)))))))
  simp only [lC,lN]
  exact xt_rt Z ⟨VR (.slice (some ⟨b17,0,none⟩) 2 2) 25 5 [tyC s (.slice xa s.args.length xc),tyC t (.slice ya t.args.length yc)],Z,_,Z,Z,Tys.nil⟩ sbq
 ·have he:askedE l c [s,t]=0:=by simpa using he
  rw [if_neg (by simpa using he)]
  obtain ⟨all,hK⟩:=two_right he
  have hcc:=hwf b17 mb m (hM he) hK.right
  refine cK (xT (cQ (sV (v_ldn Z ld85 Z rds_pt) ?_)))
  refine sM Z (sV (v_ldn Z ld25 Z rds_pt) ?_)
  refine sV (v_ldn Z ld25 Z rds_pt) ?_
  refine st_cl Z Z en72 Z (hcc) ?_
  rintro u h' ⟨T,rfl,wa,wc,rfl,hT⟩
  simp only [lC,lN]
  refine sA Z (sA Z (sK [8,9] Z (cT (xt_pv (pv_unpack (L:=[VR (.slice (some ⟨b17,0,none⟩) 2 2) 25 5 [tyC s (.slice xa s.args.length xc),tyC t (.slice ya t.args.length yc)],S])) ?_))))
  simp only [lC,lN]
  refine xt_pv (pv_pack (L:=[VR (.slice (some ⟨b17,0,none⟩) 2 2) 25 5 [tyC s (.slice xa s.args.length xc),tyC t (.slice ya t.args.length yc)],T])) ?_
  simp only [lC,lN]
  exact xt_rt Z ⟨Res.star [VR (.slice (some ⟨b17,0,none⟩) 2 2) 25 5 [tyC s (.slice xa s.args.length xc),tyC t (.slice ya t.args.length yc)],T],Z,_,Z,Z,hT.mono fun p u g=>rd_turn p u g⟩ sbq
end
end Go.Hr
namespace Go.Hr
open Go Go.RowKit Go.Ck Go.Proofs Go.Proofs.YtaohbfnepjjdgaaGreat Fx
attribute [local irreducible] Go.Ck.Sub St Cd Xt Nx DrL LsW
end Go.Hr
namespace Go.Hr
open Go Go.RowKit Go.Ck Go.Proofs Go.Proofs.YtaohbfnepjjdgaaGreat Fx
attribute [local irreducible] Go.Ck.Sub St Cd Xt Nx DrL LsW
section
variable {S T N R:Res} {v:Value} {F:List Fm} {l:KS} {s t:Kt}
def rcK (F:List Fm) (t:Kt):Kt:=if t.kind=3 then t else if t.kind=4∧(fidx F t.name).isSome=true then .mk 3 (boundOf F t.name) [] false false else .mk 0 [] [] false false
def rcB (F:List Fm) (t:Kt):Bool:=t.kind == 3 || (t.kind == 4 && (fidx F t.name).isSome)
def bndR (l:KS) (F:List Fm) (t:Kt) (b:Nm):Bool:=if (b == root)=true then true else if (!rcB F t || ((rcK F t).name == root))=true then false else (rightE (ksys l) [(rcK F t).name,b] == 0) && (decide (rightE (ksys l) [(rcK F t).name,b]=0) && has (ksys l) (rcK F t).name b)
end
end Go.Hr
namespace Go.Hr
open Go Go.RowKit Go.Ck Go.Proofs Go.Proofs.YtaohbfnepjjdgaaGreat Fx
attribute [local irreducible] Go.Ck.Sub St Cd Xt Nx DrL LsW
section
variable {S T N R:Res} {v:Value} {F:List Fm} {l:KS} {s t:Kt}
end
end Go.Hr
namespace Go.Hr
open Go Go.RowKit Go.Ck Go.Proofs Go.Proofs.YtaohbfnepjjdgaaGreat Fx
attribute [local irreducible] Go.Ck.Sub St Cd Xt Nx DrL LsW
section
variable {S T N R:Res} {v:Value} {F:List Fm} {A:List Kt} {l:KS} {s t:Kt} {ts:List Kt} {rows:List (List Value)}
end
end Go.Hr
namespace Go.Hr
open Go Go.RowKit Go.Ck Go.Proofs Go.Proofs.YtaohbfnepjjdgaaGreat Fx
attribute [local irreducible] Go.Ck.Sub St Cd Xt Nx DrL LsW
section
variable {S T N R:Res} {v:Value} {F:List Fm} {A:List Kt} {l:KS} {s t:Kt} {ts:List Kt} {rows:List (List Value)}
def firstAt (g:KC→Int):List KC→Int×Nm
 | []=>(0,[])
 | x::t=>if g x≠0 then (g x,x.name) else firstAt g t
end
end Go.Hr
namespace Go.Hr
open Go Go.RowKit Go.Ck Go.Proofs Go.Proofs.YtaohbfnepjjdgaaGreat Fx
attribute [local irreducible] Go.Ck.Sub St Cd Xt Nx DrL LsW
section
variable {S T N R:Res} {v:Value} {F:List Fm} {A:List Kt} {l:KS} {s t:Kt} {ts:List Kt} {rows:List (List Value)}
end
end Go.Hr
namespace Go.Hr
open Go Go.RowKit Go.Ck Go.Proofs Go.Proofs.YtaohbfnepjjdgaaGreat Fx
attribute [local irreducible] Go.Ck.Sub St Cd Xt Nx DrL LsW
section
variable {S T N R:Res} {v:Value} {F:List Fm} {A:List Kt} {l:KS} {s t:Kt} {ts:List Kt} {rows:List (List Value)}
def argZs (l:KS) (F FM:List Fm) (az:List Kt):List Int:=(az.zip (FM.map (·.bound))).map fun q=>argE l F q.1 q.2
end
end Go.Hr
namespace Go.Hr
open Go Go.RowKit Go.Ck Go.Proofs Go.Proofs.YtaohbfnepjjdgaaGreat Fx
attribute [local irreducible] Go.Ck.Sub St Cd Xt Nx DrL LsW
section
variable {S T N R:Res} {v:Value} {F:List Fm} {A:List Kt} {l:KS} {s t:Kt} {ts:List Kt} {rows:List (List Value)}
def cls0C:List Value:=[sv [],.bool false,.slice none 0 0,.slice none 0 0,.slice none 0 0,.slice none 0 0,.slice none 0 0]
end
end Go.Hr
namespace Go.Hr
open Go Go.RowKit Go.Ck Go.Proofs Go.Proofs.YtaohbfnepjjdgaaGreat Fx
attribute [local irreducible] Go.Ck.Sub St Cd Xt Nx DrL LsW
section
variable {S T N R:Res} {v:Value} {F:List Fm} {A:List Kt} {l:KS} {s t:Kt} {ts:List Kt} {rows:List (List Value)} {all:List (Nm×Own)}
def rinst (l:KS) (all:List (Nm×Own)) (t:Kt) (a:Nm):List Kt×Bool :=
 if a=root then ([],true) else if t.name=root then ([],false) else match (alook all t.name).bind (· a) with
 | none=>([],false)
 | some ts=>(ts.map (Kt.subst (fmsOf l t.name) t.args),true)
theorem wayE_has (hR : Right (ksys l)) {c a : Nm} (hc : isC (ksys l) c = true) : wayE (ksys l) c a = 0 ↔ has (ksys l) c a = true := by
 unfold wayE
 constructor
 ·intro h
  split at h
  ·split at h
   ·assumption
   ·cases h
  ·rename_i h1; exact absurd h h1
 ·intro h
  have:rightE (ksys l) [c,a]=0:=rightE_zero.2 ⟨hR,fun n hn=>by
   rcases List.mem_cons.1 hn with rfl | hn
   ·exact hc
   ·simp at hn; subst hn; exact has_isC hc h⟩
  rw [if_pos this,if_pos h]
theorem inst_eq (hK : KRight l all) {a : Nm} (hb : badT l t = false) : instK l t a = ((rinst l all t a).1, if (rinst l all t a).2 = true then 0 else 5) := by
 unfold instK rinst
 rw [if_neg (by rw [hb]; decide)]
 by_cases ha:a=root
 ·rw [if_pos ha,if_pos ha]; rfl
 ·rw [if_neg ha, if_neg ha]
  unfold badT at hb
  simp only [Bool.or_eq_false_iff] at hb
  cases hk:kfind l t.name with
  | none =>
   have hn:t.name=root:=by
    have:=hb.1.2
    rw [hk] at this
    simpa using this
   rw [if_pos (show (none:Option KC).isSome=false from rfl),if_pos hn]; rfl
  | some x =>
   have hn:t.name≠root:=fun e=>by rw [e,hK.no_root] at hk; cases hk
   have hlen:t.args.length=x.formals.length:=by
    have:=hb.2
    rw [fmsOf_some hk,bne_eq_false_iff_eq] at this; omega
   have hc:isC (ksys l) t.name=true:=by rw [← kfind_isC,hk]; rfl
   rw [if_neg (show ¬ (some x).isSome=false by simp),if_neg hn]
   have hls:=hK.look_some (a:=a) hk
   by_cases hw:wayE (ksys l) t.name a=0
   ·have hh:=(wayE_has hK.right hc).1 hw
    rw [hh] at hls
    obtain ⟨ts,hts⟩:=Option.isSome_iff_exists.1 hls
    rw [if_neg (by simpa using hw),hts,hK.along (wayK_way hw) hk hlen]
    unfold insT
    rw [hts,fmsOf_some hk]; rfl
   ·have hh:has (ksys l) t.name a=false:=by
     rw [← Bool.not_eq_true]; exact fun e=>hw ((wayE_has hK.right hc).2 e)
    rw [hh] at hls
    rw [if_pos hw]
    cases hts:(alook all t.name).bind (· a) with
    | none=>rfl
    | some ts=>rw [hts] at hls; cases hls
theorem inst_good (hK:KRight l all) {a:Nm} (hb:badT l t=false) (h:(rinst l all t a).2=true):InstK l t a=((rinst l all t a).1,0):=by
 unfold InstK
 rw [if_neg (by simpa using kcheck_zero.2 ⟨all,hK⟩),inst_eq hK hb,h]; rfl
end
end Go.Hr
namespace Go.Hr
open Go Go.RowKit Go.Ck Go.Proofs Go.Proofs.YtaohbfnepjjdgaaGreat Fx
attribute [local irreducible] Go.Ck.Sub St Cd Xt Nx DrL LsW
section
variable {S T N R:Res} {v:Value} {F:List Fm} {A:List Kt} {l:KS} {s t:Kt} {ts:List Kt} {rows:List (List Value)} {all:List (Nm×Own)} {x:KC}
set_option maxRecDepth 100000 in
theorem rc_ct (h:rcB F t=true):(rcK F t).name=(ctK F t).name∧(rcK F t).args=(ctK F t).args:=by
 unfold rcB at h
 unfold rcK ctK
 by_cases h3:t.kind=3
 ·rw [if_pos h3,if_pos h3]; exact ⟨rfl,rfl⟩
 ·rw [show (t.kind == 3)=false by simpa using h3,Bool.false_or,Bool.and_eq_true] at h
  have h4:t.kind=4:=eq_of_beq h.1
  rw [if_neg h3,if_neg h3,if_pos ⟨h4,h.2⟩,if_pos h4]
  exact ⟨boundOf_fm,Z⟩
theorem ct_right (hK:KRight l all) (hx:x∈l) (hin:t.inner l x.formals=0) (h:rcB x.formals t=true):badT l (ctK x.formals t)=false∧((rcK x.formals t).name=root∨(kfind l (rcK x.formals t).name).isSome=true):=by
 have hn:isNmd t=true:=by
  unfold rcB at h
  unfold isNmd
  rw [Bool.or_eq_true,Bool.and_eq_true] at h
  rw [Bool.or_eq_true]
  exact h.imp id (·.1)
 obtain ⟨h1,h2,h3⟩:=ctK_name (F:=x.formals) (nmd_iff.1 hn)
 have hc:=hK.head.ct hx hin hn
 rw [(rc_ct h).1]
 unfold badT
 rw [h3,h1,h2]
 rcases hc with ⟨g1,g2⟩ | ⟨y,g1,g2⟩
 ·refine ⟨?_,.inl g1⟩
  rw [g1,g2]
  simp only [bne_self_eq_false,Bool.and_false,Bool.or_false,Bool.false_or]
  rw [show fmsOf l root=[] by unfold fmsOf; rw [hK.no_root]; rfl]; rfl
 ·refine ⟨?_,.inr (by rw [g1]; rfl)⟩
  rw [g1,fmsOf_some g1,g2]
  simp
end
end Go.Hr
namespace Go.Hr
open Go Go.RowKit Go.Ck Go.Proofs Go.Proofs.YtaohbfnepjjdgaaGreat Fx
attribute [local irreducible] Go.Ck.Sub St Cd Xt Nx DrL LsW
section
variable {S T N R:Res} {v:Value} {F:List Fm} {A:List Kt} {l:KS} {s t:Kt} {ts:List Kt} {rows:List (List Value)} {all:List (Nm×Own)} {x:KC}
def rwhyC (l:KS) (all:List (Nm×Own)) (F:List Fm) (s t:Kt):Int :=
 if (((((s.kind == 1) || (s.kind == 2)) || (t.kind == 1)) || (t.kind == 2)) && (s.kind == t.kind))=true then 1
 else if (((((s.kind == 1) || (s.kind == 2)) || (t.kind == 1)) || (t.kind == 2)) || (t.kind == 0))=true then 13
 else if ((s.kind == 0) && t.void)=true then 2
 else if (((s.kind == 0) || s.void) && !t.void)=true then 11
 else if (s.sep && !t.sep)=true then 12
 else if ((t.kind == 3) && (t.name == root))=true then 3
 else if (t.kind == 4)=true then (if ((s.kind == 4) && (s.name == t.name))=true then 4 else 13)
 else if (!(rinst l all (rcK F s) t.name).2)=true then 14
 else if (!(sames (rinst l all (rcK F s) t.name).1 t.args))=true then 15 else 5
theorem rcB_of (hs:s.inner l F=0) (hn:isNmd s=true):rcB F s=true:=by
 obtain ⟨k,n,az,w,z⟩:=s
 unfold rcB
 rcases nmd_iff.1 hn with e | e <;> (simp only [Kt.kind] at e; subst e)
 ·rfl
 ·obtain ⟨_,_,i,h1,h2⟩:=inner_formal hs
  show ((4:Int) == 3 || ((4:Int) == 4 && (fidx F n).isSome))=true
  rw [h1]; rfl
end
end Go.Hr
namespace Go.Hr
open Go Go.RowKit Go.Ck Go.Proofs Go.Proofs.YtaohbfnepjjdgaaGreat Fx
attribute [local irreducible] Go.Ck.Sub St Cd Xt Nx DrL LsW
section
variable {S T N R:Res} {v:Value} {F:List Fm} {A:List Kt} {l:KS} {s t:Kt} {ts:List Kt} {rows:List (List Value)} {all:List (Nm×Own)} {x:KC}
theorem inner_zero (h:rightK l F t=0):t.inner l F=0:=by
 unfold rightK at h
 split at h
 ·cases h
 ·exact h
theorem whyC_way:(whyC l F s t).2=if (((whyC l F s t).1 == 5) || ((whyC l F s t).1 == 15))=true then wayK l (ctK F s).name t.name else []:=by
 unfold whyC
 by_cases c0:((s.kind == t.kind) && plainK s.kind)=true
 ·rw [if_pos c0]; rfl
 rw [if_neg c0]
 by_cases c1:((s.kind == 0) && t.void)=true
 ·rw [if_pos c1]; rfl
 rw [if_neg c1]
 by_cases c2:((plainK s.kind || plainK t.kind) || (t.kind == 0))=true
 ·rw [if_pos c2]; rfl
 rw [if_neg c2]
 by_cases c3:(((s.kind == 0) || s.void) && !t.void)=true
 ·rw [if_pos c3]; rfl
 rw [if_neg c3]
 by_cases c4:(s.sep && !t.sep)=true
 ·rw [if_pos c4]; rfl
 rw [if_neg c4]
 by_cases c5:((t.kind == 3) && (t.name == root))=true
 ·rw [if_pos c5]; rfl
 rw [if_neg c5]
 by_cases c6:(((t.kind == 4) && (s.kind == 4)) && (s.name == t.name))=true
 ·rw [if_pos c6]; rfl
 rw [if_neg c6]
 by_cases c7:(t.kind == 4)=true
 ·rw [if_pos c7]; rfl
 rw [if_neg c7]
 by_cases c8:(instK l (ctK F s) t.name).2≠0
 ·rw [if_pos c8]; rfl
 rw [if_neg c8]
 by_cases c9:sames (instK l (ctK F s) t.name).1 t.args=true
 ·rw [if_pos c9]; rfl
 rw [if_neg c9]
 rfl
end
end Go.Hr
namespace Go.Hr
open Go Go.RowKit Go.Ck Go.Proofs Go.Proofs.YtaohbfnepjjdgaaGreat Fx
attribute [local irreducible] Go.Ck.Sub St Cd Xt Nx DrL LsW
section
variable {S T N R:Res} {v:Value} {F:List Fm} {A:List Kt} {l:KS} {s t:Kt} {ts:List Kt} {rows:List (List Value)} {all:List (Nm×Own)} {x:KC}
set_option maxRecDepth 100000 in
theorem SameWay_ct {M : Res} {v w : Value} {a b : List Nm} (hv : nmsR M v a) (hw : nmsR M w b) : Reads Tryz.prog 39 #[v, w] [M] (.bool (decide (a = b))) := by
 have hml:maxLen=9223372036854775807:=rfl
 obtain ⟨va,vc,rfl,hl1,hl2,_⟩:=id hv
 obtain ⟨wa,wc,rfl,hl3,hl4,_⟩:=id hw
 refine ct_of (n:=26) Tryz.func39 Z Z (len Z) fun hr w0=>?_
 refine cQ (sA Z (sN (nT (cS (cQ (sM Z (sV (v_len Z Tryz.underlying50) (sM Z (sV (v_len Z Tryz.underlying50) (sV (v_neq Z Z) (sK [0,1,4,10] Z (cC Z (fun h1=>?_) (fun h1=>?_)))))))))))))
 ·rw [show decide (a=b)=false from decide_eq_false (fun e=>by
   rw [e] at h1
   have:=bne_iff_ne.1 h1
   exact this Z)]
  refine cQ (sA Z (sK [4] Z (cT (xR ?_))))
  exact xt_rt Z ⟨Z,Z⟩ sbq
 ·have h1:((a.length:Int) != (b.length:Nat))=false:=h1
  have hle:a.length=b.length:=by rw [bne_eq_false_iff_eq] at h1; omega
  refine cK (xT (cS (cQ (sA Z (sK [0,1,4,5] Z (cB (cd_lq (σ := Nat) (fun i=>[(0,.slice va a.length vc),(1,.slice wa b.length wc),(5,.int .i64 (i:Nat))]) (fun _=>M::hr) (fun i=>i≤a.length∧a.take i=b.take i) (fun i=>a.length - i) 0 ⟨Nat.zero_le _,Z⟩ ?_)))))))
  rintro i ⟨hi,hal⟩
  refine cS (cQ (sM Z (sM Z (sV (v_len Z Tryz.underlying50) (sV (v_lss Z Z) (sK [0,1,5,14] Z (cC Z (fun hd=>?_) (fun hd=>?_))))))))
  ·have hlt:i<a.length:=by simpa using hd
   have hlt2:i<b.length:=by omega
   obtain ⟨b1,o1,c1,e1,hr1⟩:=nms_at hv (List.getElem?_eq_getElem hlt)
   cases e1
   obtain ⟨b2,o2,c2,e2,hr2⟩:=nms_at hw (List.getElem?_eq_getElem hlt2)
   cases e2
   refine cK (xT (cS (cB (cS (cd_drawh (ork [(0,2),(1,2),(2,2),(3,1),(4,2),(5,2),(6,2),(7,1),(8,1)] .nil) (fun _=>true) mixed (by kernel_rfl) ?_)))))
   refine dV Z (vM Z) (dV Z (vM Z) (dV Z (vI (k:=i) Z Z sl50 Z hlt Z) (dr_v Z (vY Z ld9) ?_)))
   refine dV Z (vM Z) (dV Z (vM Z) (dV Z (vI (k:=i) Z Z sl50 Z hlt2 Z) (dr_v Z (vY Z ld9) ?_)))
   refine dr_v Z (v_sneq Z Z) (dr_nil (nK [0,1,5,25] Z (nT (cC Z (fun he=>?_) (fun he=>?_)))))
   ·have he:(a[i] != b[i])=true:=he
    rw [show decide (a=b)=false from decide_eq_false (fun e=>by
     subst e
     simp at he)]
    refine cQ (sA Z (sK [4] Z (cT (xW (xR (xR (xW (xR ?_))))))))
    exact xt_rt Z ⟨Z,Z⟩ sbq
   ·have he:(a[i] != b[i])=false:=he
    have he:a[i]=b[i]:=by simpa using he
    refine cK (xB (xT (cR (sM Z (sV (v_add Z Z (by unfold I64 at *; omega)) (sA Z (sN (nK [0,1,5] Z (nx_xt ?_)))))))))
    refine xt_aq (i+1) ⟨hlt,by rw [List.take_succ_eq_append_getElem hlt,List.take_succ_eq_append_getElem hlt2,hal,he]⟩ (Nat.sub_lt_sub_left hlt (Nat.lt_succ_self i))
  ·have hil:i=a.length:=by
    have:¬ i<a.length:=by simpa using hd
    omega
   rw [show decide (a=b)=true from decide_eq_true (by
    rw [hil,List.take_length,hle,List.take_length] at hal; exact hal)]
   refine cd_exit (xE (xE (xY (xT (cQ (sA Z (sK [4] Z (cT ?_))))))))
   exact xt_rt Z ⟨Z,Z⟩ sbq
end
end Go.Hr
namespace Go.Hr
open Go Go.RowKit Go.Ck Go.Proofs Go.Proofs.YtaohbfnepjjdgaaGreat Fx
attribute [local irreducible] Go.Ck.Sub St Cd Xt Nx DrL LsW
section
variable {S T N R:Res} {v:Value} {F:List Fm} {A:List Kt} {l:KS} {s t:Kt} {ts:List Kt} {rows:List (List Value)} {all:List (Nm×Own)} {x:KC}
def lowB (l:KS) (all:List (Nm×Own)) (s t:Kt):Bool:=if (t.name == root)=true then true else (rinst l all s t.name).2 && sames (rinst l all s t.name).1 t.args
def lowR (low:Kt→Kt→Bool) (both:List Kt):List Kt:=(both.zipIdx.filter fun p=>both.zipIdx.all fun q=>decide (q.2=p.2) || !low q.1 p.1).map (·.1)
def joinR (low:Kt→Kt→Bool) (us ut:List Kt):List Kt:=lowR low (us.filter fun a=>ut.any fun b=>a.same b)
def lowJ (l:KS) (all:List (Nm×Own)) (F:List Fm) (s t:Kt):List Kt:=if (((s.kind == 4) && (t.kind == 4)) && (s.name == t.name))=true then [s.with false false] else joinR (lowB l all) (upsK l F s) (upsK l F t)
end
end Go.Hr
namespace Go.Hr
open Go Go.RowKit Go.Ck Go.Proofs Go.Proofs.YtaohbfnepjjdgaaGreat Fx
attribute [local irreducible] Go.Ck.Sub St Cd Xt Nx DrL LsW
section
variable {S T N R:Res} {v:Value} {F:List Fm} {A:List Kt} {l:KS} {s t:Kt} {ts:List Kt} {rows:List (List Value)} {all:List (Nm×Own)} {x:KC}
end
end Go.Hr
namespace Go.Hr
open Go
def nB (s:String):Nm:=s.toUTF8.data.toList
def exT (n:Nm) (az:List Kt):Kt:=.mk 3 n az false false
def exF (n:Nm):Kt:=.mk 4 n [] false false
def exV (t:Kt):Kt:=t.with true t.sep
def exText : Kt := exT (nB "TEXT") []
def exL : KS := [⟨nB "COMPARABLE", [], [], 0⟩, ⟨nB "TEXT", [], [⟨nB "COMPARABLE", []⟩], 0⟩, ⟨nB "LIST", [⟨nB "G", root⟩], [], 0⟩, ⟨nB "SORTED", [⟨nB "H", nB "COMPARABLE"⟩], [⟨nB "LIST", [exF (nB "H")]⟩], 0⟩, ⟨nB "WORDS", [], [⟨nB "SORTED", [exText]⟩], 0⟩, ⟨nB "BAG", [⟨nB "G", root⟩], [⟨nB "LIST", [exF (nB "G")]⟩], 0⟩]
theorem ex_check:(kcheck exL).1=0:=by decide +kernel
theorem ex_inst1 : InstK exL (exT (nB "WORDS") []) (nB "LIST") = ([exText], 0) := by decide +kernel
theorem ex_inst2 : InstK exL (exT (nB "SORTED") [exF (nB "H")]) (nB "LIST") = ([exF (nB "H")], 0) := by decide +kernel
theorem ex_seen : SeenK exL (exT (nB "WORDS") []) (nB "LIST") (exV (exF (nB "G"))) = (exV exText, 0) := by decide +kernel
theorem ex_supers : SupersK exL (nB "WORDS") (exT (nB "WORDS") []) = ([exT (nB "WORDS") [], exT (nB "SORTED") [exText], exT (nB "LIST") [exText], exT root []], 0) := by decide +kernel
theorem ex_why1 : WhyK exL (nB "WORDS") (exT (nB "WORDS") []) (exT (nB "LIST") [exText]) = ((5, [nB "WORDS", nB "SORTED", nB "LIST"]), 0) := by decide +kernel
theorem ex_why2 : (WhyK exL (nB "WORDS") (exT (nB "WORDS") []) (exV (exT (nB "LIST") [exT (nB "COMPARABLE") []]))).1.1 = 15 ∧ (WhyK exL (nB "WORDS") (exT (nB "WORDS") []) (exV (exT (nB "LIST") [exT (nB "COMPARABLE") []]))).2 = 0 := by decide +kernel
theorem ex_why3 : WhyK exL (nB "SORTED") (exF (nB "H")) (exT (nB "COMPARABLE") []) = ((5, [nB "COMPARABLE"]), 0) := by decide +kernel
theorem ex_why4 : WhyK exL (nB "WORDS") zeroT exText = ((11, []), 0) := by decide +kernel
theorem ex_joins1 : JoinsK exL (nB "WORDS") (exT (nB "WORDS") []) (exT (nB "BAG") [exText]) = ([exT (nB "LIST") [exText]], 0) := by decide +kernel
theorem ex_joins2 : JoinsK exL (nB "WORDS") (exT (nB "WORDS") []) (exV (exT (nB "BAG") [exT (nB "COMPARABLE") []])) = ([exV (exT root [])], 0) := by decide +kernel
theorem ex_right1 : askedE exL (nB "WORDS") [exT (nB "SORTED") [exText]] = 0 := by decide +kernel
theorem ex_right2 : askedE exL (nB "WORDS") [exT (nB "SORTED") [exT (nB "LIST") [exText]]] = 8 := by decide +kernel
theorem ex_right3 : askedE exL (nB "WORDS") [exT (nB "LIST") [exV exText]] = 8 := by decide +kernel
end Go.Hr
