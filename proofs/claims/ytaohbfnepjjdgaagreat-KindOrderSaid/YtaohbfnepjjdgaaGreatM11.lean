/-
  The reference: Same,SameTypes. Conditions: what is read.
  Package kind and its reference: small functions on types; depth,parts,Clone. Conditions: what is read.
  Calls that may panic,as the last operation of a region; functions that return nothing or panic with an error. Generic: nothing of the program is named here. No condition.
  Package kind: must,named,the map of a system,formals by their names,class types. Conditions: what is read.
  A deferred function that recovers: interface values compared with nil,asserted. Generic. No condition.
  Data that is read to its end is made of values of one cell. Generic. No condition.
-/
import Derived.Test.YtaohbfnepjjdgaaGreatM10
import Derived.RecoverIn
import Derived.Test.YtaohbfnepjjdgaaGreatM9
set_option linter.unusedVariables false
set_option linter.unusedSimpArgs false
namespace Go.Hr
open Go Go.RowKit Go.Ck Go.Proofs Go.Proofs.YtaohbfnepjjdgaaGreat Fx
attribute [local irreducible] Go.Ck.Sub St Cd Xt Nx DrL LsW
section
variable {S T:Res} {v v':Value} {az bz:List Kt} {us us':List Value} {s t:Kt}
theorem sameR_len (h:¬ az.length=bz.length):sames az bz=false:=by
 cases hs:sames az bz with
 | false=>rfl
 | true=>rw [(sames_iff az bz).1 hs] at h; exact absurd rfl h
set_option maxRecDepth 100000 in
theorem SameR_ct : ∀ (d : Nat) (s t : Kt) (us us' : List Value), s.depth ≤ d → Ty S us s → Ty S us' t → Reads Tryz.prog 16 #[.agg us.toArray, .agg us'.toArray] [S] (.bool (s.same t))
 | 0,s,_,_,_,hd,_,_=>by cases s; simp [Kt.depth] at hd
 | d + 1, s, t, us, us', hd, hs, ht => by
  have hml:maxLen=9223372036854775807:=rfl
  obtain ⟨x,rfl,hx⟩:=hs.out
  obtain ⟨y,rfl,hy⟩:=ht.out
  have hF:∀ (a b:Kt) us us',a∈s.args→Ty S us a→Ty S us' b→Reads Tryz.prog 16 #[.agg us.toArray,.agg us'.toArray] [S] (.bool (a.same b)):=fun a b us us' ha h1 h2=>SameR_ct d a b us us' (by have:=depth_args ha; omega) h1 h2
  rw [same_unfold]
  obtain ⟨xa,xc,rfl,hlc,hcm,_⟩:=hx.form
  obtain ⟨ya,yc,rfl,hlc',hcm',_⟩:=hy.form
  unfold tyC
  refine ct_of (n:=62) Tryz.func16 Z Z (len Z) fun hr w0=>?_
  refine cQ (st_bx Z Z fun b2=>?_)
  refine st_bx Z Z fun b3=>?_
  refine sA Z (sK [2,3,4] Z (cS (cQ (sV (vF Z fa25_0 Z) (sV (vY Z ld3) ?_)))))
  refine sV (vF Z fa25_0 Z) (sV (vY Z ld3) ?_)
  refine sV (v_neq Z Z) (sM Z (st_cut (k:=12) (d:=18) (v:=.bool ((s.kind != t.kind) || !(s.name == t.name))) (fun hcut=>bool_want (b:=(s.kind != t.kind)) false (fun hg=>?_) (fun hg=>?_)) ?_))
  ·refine st_sk Z Z hg ?_
   iterate 4 refine st_sk rfl rfl hg ?_
   refine sV (vQ (bO Z hg) Z) ?_
   exact hcut _ uG
  ·refine sG Z (bG Z hg) (vF Z fa25_1 Z) (sG Z (bG Z hg) (vY Z ld9) ?_)
   refine sG Z (bG Z hg) (vF Z fa25_1 Z) (sG Z (bG Z hg) (vY Z ld9) ?_)
   refine sG Z (bG Z hg) (v_sneq Z Z) (sV (vP (bO Z hg) Z) ?_)
   exact hcut _ uG
  refine sM Z (st_cut (k:=19) (d:=25) (v:=.bool (((s.kind != t.kind) || !(s.name == t.name)) || (s.void != t.void))) (fun hcut=>bool_want (b:=((s.kind != t.kind) || !(s.name == t.name))) false (fun hg=>?_) (fun hg=>?_)) ?_)
  ·refine st_sk Z Z hg ?_
   iterate 4 refine st_sk rfl rfl hg ?_
   refine sV (vQ (bO Z hg) Z) ?_
   exact hcut _ uG
  ·refine sG Z (bG Z hg) (vF Z fa25_3 Z) (sG Z (bG Z hg) (vY Z ld4) ?_)
   refine sG Z (bG Z hg) (vF Z fa25_3 Z) (sG Z (bG Z hg) (vY Z ld4) ?_)
   refine sG Z (bG Z hg) (v_neq_bool Tryz.underlying4 Z Z) (sV (vP (bO Z hg) Z) ?_)
   exact hcut _ uG
  refine sM Z (st_cut (k:=26) (d:=32) (v:=.bool ((((s.kind != t.kind) || !(s.name == t.name)) || (s.void != t.void)) || (s.sep != t.sep))) (fun hcut=>bool_want (b:=(((s.kind != t.kind) || !(s.name == t.name)) || (s.void != t.void))) false (fun hg=>?_) (fun hg=>?_)) ?_)
  ·refine st_sk Z Z hg ?_
   iterate 4 refine st_sk rfl rfl hg ?_
   refine sV (vQ (bO Z hg) Z) ?_
   exact hcut _ uG
  ·refine sG Z (bG Z hg) (vF Z fa25_4 Z) (sG Z (bG Z hg) (vY Z ld4) ?_)
   refine sG Z (bG Z hg) (vF Z fa25_4 Z) (sG Z (bG Z hg) (vY Z ld4) ?_)
   refine sG Z (bG Z hg) (v_neq_bool Tryz.underlying4 Z Z) (sV (vP (bO Z hg) Z) ?_)
   exact hcut _ uG
  refine sM Z (st_cut (k:=35) (d:=41) (v:=.bool (((((s.kind != t.kind) || !(s.name == t.name)) || (s.void != t.void)) || (s.sep != t.sep)) || ((s.args.length:Int) != t.args.length))) (fun hcut=>bool_want (b:=((((s.kind != t.kind) || !(s.name == t.name)) || (s.void != t.void)) || (s.sep != t.sep))) false (fun hg=>?_) (fun hg=>?_)) ?_)
  ·refine st_sk Z Z hg ?_
   iterate 6 refine st_sk rfl rfl hg ?_
   refine sV (vQ (bO Z hg) Z) ?_
   exact hcut _ uG
  ·refine sG Z (bG Z hg) (vF Z fa25_2 Z) (sG Z (bG Z hg) (vY Z ld23) ?_)
   refine sG Z (bG Z hg) (v_len Z Tryz.underlying23) (sG Z (bG Z hg) (vF Z fa25_2 Z) (sG Z (bG Z hg) (vY Z ld23) ?_))
   refine sG Z (bG Z hg) (v_len Z Tryz.underlying23) (sG Z (bG Z hg) (v_neq Z Z) (sV (vP (bO Z hg) Z) ?_))
   exact hcut _ uG
  refine sK [2,3,4,41] Z (cC Z (fun hq=>?_) (fun hq=>?_))
  ·rw [show ((((s.kind == t.kind && s.name == t.name) && s.void == t.void) && s.sep == t.sep) && sames s.args t.args)=false by
    cases hw:((((s.kind == t.kind && s.name == t.name) && s.void == t.void) && s.sep == t.sep) && sames s.args t.args) with
    | false=>rfl
    | true =>
     simp only [Bool.and_eq_true,beq_iff_eq] at hw
     obtain ⟨⟨⟨⟨w1,w2⟩,w3⟩,w4⟩,w5⟩:=hw
     rw [(sames_iff _ _).1 w5] at hq
     simp [w1,w2,w3,w4] at hq]
   refine cQ (sA Z (sK [4] Z (cT (xR ?_))))
   exact xt_rt Z ⟨Z,Z⟩ sbq
  ·have hq:(((((s.kind != t.kind) || !(s.name == t.name)) || (s.void != t.void)) || (s.sep != t.sep)) || ((s.args.length:Int) != t.args.length))=false:=hq
   simp only [Bool.or_eq_false_iff,bne_eq_false_iff_eq,Bool.not_eq_false',beq_iff_eq] at hq
   obtain ⟨⟨⟨⟨q1,q2⟩,q3⟩,q4⟩,q5⟩:=hq
   have hl:s.args.length=t.args.length:=by omega
   rw [show ((((s.kind == t.kind && s.name == t.name) && s.void == t.void) && s.sep == t.sep) && sames s.args t.args)=sames s.args t.args by simp [q1,q2,q3,q4]]
   refine cK (xT (cS (cQ (sA Z (sK [2,3,4,5] Z (cB (cd_lq (σ := Nat) (fun i=>[(2,.pointer (some ⟨b2,0,none⟩)),(3,.pointer (some ⟨b3,0,none⟩)),(5,.int .i64 (i:Nat))]) (fun _=>pt b2 (cl [.int .i64 s.kind,sv s.name,.slice xa s.args.length xc,.bool s.void,.bool s.sep] 25)::pt b3 (cl [.int .i64 t.kind,sv t.name,.slice ya t.args.length yc,.bool t.void,.bool t.sep] 25)::S::hr) (fun i=>i≤s.args.length∧s.args.take i=t.args.take i) (fun i=>s.args.length - i) 0 ⟨Nat.zero_le _,Z⟩ ?_)))))))
   rintro i ⟨hi,hal⟩
   refine cS (cQ (sM Z (sV (vF Z fa25_2 Z) (sV (vY Z ld23) ?_))))
   refine sV (v_len Z Tryz.underlying23) (sV (v_lss Z Z) (sK [2,3,5,46] Z (cC Z (fun hd=>?_) (fun hd=>?_))))
   ·have hlt:i<s.args.length:=by simpa using hd
    have hlt':i<t.args.length:=by omega
    have hg:=List.getElem?_eq_getElem hlt
    have hg':=List.getElem?_eq_getElem hlt'
    have hmem:=List.getElem_mem hlt
    obtain ⟨b,o,cap2,us,e1,hus,hrd,hta⟩:=hx.at hg
    cases e1
    obtain ⟨b',o',cap2',us',e1,hus',hrd',htb⟩:=hy.at hg'
    cases e1
    generalize s.args[i]=x at hg hmem hta
    generalize t.args[i]=y at hg' htb
    refine cK (xT (cS (cB (cS (cd_drawh (ork [(0,2),(1,1),(2,2),(3,2),(4,1),(5,2),(6,1),(7,2),(8,2),(9,1),(10,1),(11,2)] .nil) (fun _=>true) mixed (by kernel_rfl) ?_)))))
    refine dV Z (vF Z fa25_2 Z) (dr_v Z (vY Z ld23) ?_)
    refine dV Z (vM Z) (dV Z (vI (k:=i) Z Z sl23 Z hlt Z) (dr_v Z (v_ldn Z ld25 hus hrd) ?_))
    refine dV Z (vF Z fa25_2 Z) (dr_v Z (vY Z ld23) ?_)
    refine dV Z (vM Z) (dV Z (vI (k:=i) Z Z sl23 Z hlt' Z) (dr_v Z (v_ldn Z ld25 hus' hrd') ?_))
    refine dr_clr Z Z Z en16 Z ((hF x y us us' hmem hta htb)) ?_
    refine dV Z (vA Z) (dr_nil (nK [2,3,5,6] Z (nT (cQ (sM Z (sV (v_not Z) (sK [2,3,5,61] Z (cC Z (fun hne=>?_) (fun hne=>?_)))))))))
    ·have hne:x.same y=false:=by simpa using hne
     rw [sames_false hg hg' hne]
     refine cQ (sA Z (sK [4] Z (cT (xW (xR (xR (xW (xR ?_))))))))
     exact xt_rt Z ⟨Z,Z⟩ sbq
    ·have hne:x.same y=true:=by simpa using hne
     refine cK (xB (xT (cR (sM Z (sV (v_add Z Z (by unfold I64 at *; omega)) (sA Z (sN (nK [2,3,5] Z (nx_xt ?_)))))))))
     refine xt_aq (i+1) ⟨hlt,take_snoc_eq hal hg hg' hne⟩ (Nat.sub_lt_sub_left hlt (Nat.lt_succ_self i))
   ·have hil:i=s.args.length:=by
     have:¬ i<s.args.length:=by simpa using hd
     omega
    rw [show sames s.args t.args=true from (sames_iff _ _).2 (by
     have:=hal
     rw [hil,List.take_length,hl,List.take_length] at this
     exact this)]
    refine cd_exit (xE (xE (xY (xT (cQ (sA Z (sK [4] Z (cT ?_))))))))
    exact xt_rt Z ⟨Z,Z⟩ sbq
set_option maxRecDepth 100000 in
theorem sameR_ct (hs:Ty S us s) (ht:Ty S us' t):Reads Tryz.prog 16 #[.agg us.toArray,.agg us'.toArray] [S] (.bool (s.same t)):=SameR_ct s.depth s t us us' (Nat.le_refl _) hs ht
set_option maxRecDepth 100000 in
theorem SameTypes_ct (hv : Tys S v az) (hv' : Tys S v' bz) : Reads Tryz.prog 25 #[v, v'] [S] (.bool (sames az bz)) := by
 have hml:maxLen=9223372036854775807:=rfl
 obtain ⟨a,cap,rfl,hlc,hcm,hnone⟩:=hv.form
 obtain ⟨a',cap',rfl,hlc',hcm',hnone'⟩:=hv'.form
 refine ct_of (n:=29) Tryz.func25 Z Z (len Z) fun hr w0=>?_
 refine cQ (sA Z (sN (nT (cS (cQ (sM Z (sV (v_len Z Tryz.underlying23) (sM Z (sV (v_len Z Tryz.underlying23) (sV (v_neq Z Z) (sK [0,1,4,11] Z (cC Z (fun hl=>?_) (fun hl=>?_)))))))))))))
 ·have hl:¬ az.length=bz.length:=by
   have:¬ (az.length:Int)=bz.length:=by simpa using hl
   omega
  rw [sameR_len hl]
  refine cQ (sA Z (sK [4] Z (cT (xR ?_))))
  exact xt_rt Z ⟨Z,Z⟩ sbq
 ·have hl:az.length=bz.length:=by
   have:(az.length:Int)=bz.length:=by simpa using hl
   omega
  refine cK (xT (cS (cQ (sA Z (sK [0,1,4,5] Z (cB (cd_lq (σ := Nat) (fun i=>[(0,.slice a az.length cap),(1,.slice a' bz.length cap'),(5,.int .i64 (i:Nat))]) (fun _=>S::hr) (fun i=>i≤az.length∧az.take i=bz.take i) (fun i=>az.length - i) 0 ⟨Nat.zero_le _,Z⟩ ?_)))))))
  rintro i ⟨hi,hal⟩
  refine cS (cQ (sM Z (sM Z (sV (v_len Z Tryz.underlying23) (sV (v_lss Z Z) (sK [0,1,5,15] Z (cC Z (fun hd=>?_) (fun hd=>?_))))))))
  ·have hlt:i<az.length:=by simpa using hd
   have hlt':i<bz.length:=by omega
   have hg:=List.getElem?_eq_getElem hlt
   have hg':=List.getElem?_eq_getElem hlt'
   obtain ⟨b,o,cap2,us,e1,hus,hrd,hta⟩:=hv.at hg
   cases e1
   obtain ⟨b',o',cap2',us',e1,hus',hrd',htb⟩:=hv'.at hg'
   cases e1
   generalize az[i]=x at hg hta
   generalize bz[i]=y at hg' htb
   refine cK (xT (cS (cB (cS (cd_drawh (ork [(0,2),(1,2),(2,2),(3,1),(4,2),(5,2),(6,2),(7,1),(8,1),(9,2)] .nil) (fun _=>true) mixed (by kernel_rfl) ?_)))))
   refine dV Z (vM Z) (dV Z (vM Z) (dV Z (vI (k:=i) Z Z sl23 Z hlt Z) (dr_v Z (v_ldn Z ld25 hus hrd) ?_)))
   refine dV Z (vM Z) (dV Z (vM Z) (dV Z (vI (k:=i) Z Z sl23 Z hlt' Z) (dr_v Z (v_ldn Z ld25 hus' hrd') ?_)))
   refine dr_clr Z Z Z en16 Z (sameR_ct hta htb) ?_
   refine dV Z (vA Z) (dr_nil (nK [0,1,5,6] Z (nT (cQ (sM Z (sV (v_not Z) (sK [0,1,5,28] Z (cC Z (fun hne=>?_) (fun hne=>?_)))))))))
   ·have hne:x.same y=false:=by simpa using hne
    rw [sames_false hg hg' hne]
    refine cQ (sA Z (sK [4] Z (cT (xW (xR (xR (xW (xR ?_))))))))
    exact xt_rt Z ⟨Z,Z⟩ sbq
   ·have hne:x.same y=true:=by simpa using hne
    refine cK (xB (xT (cR (sM Z (sV (v_add Z Z (by unfold I64 at *; omega)) (sA Z (sN (nK [0,1,5] Z (nx_xt ?_)))))))))
    refine xt_aq (i+1) ⟨hlt,take_snoc_eq hal hg hg' hne⟩ (Nat.sub_lt_sub_left hlt (Nat.lt_succ_self i))
  ·have hil:i=az.length:=by
    have:¬ i<az.length:=by simpa using hd
    omega
   rw [show sames az bz=true from (sames_iff _ _).2 (by
    have:=hal
    rw [hil,List.take_length,hl,List.take_length] at this
    exact this)]
   refine cd_exit (xE (xE (xY (xT (cQ (sA Z (sK [4] Z (cT ?_))))))))
   exact xt_rt Z ⟨Z,Z⟩ sbq
end
end Go.Hr
namespace Go.Ck
open Go Go.RowKit
theorem rd_sub {k k':SH} (s:Sub k k') (p:Addr) (u:Value) (h:Rd (Res.star k) p u):Rd (Res.star k') p u:=fun w hw=>h w (Holds.sub s hw)
theorem rd_ok {Q R:Res} (hq:∀ f,R.ok f→Q.ok f) (p:Addr) (u:Value) (h:Rd Q p u):Rd R p u:=fun w hw=>h w (hq _ hw)
theorem rd_up {L k:SH} (p:Addr) (u:Value) {T:Res} {L':SH} (s:Sel L T L') (h:Rd (Res.star (T::k)) p u):Rd (Res.star (Res.star L::k)) p u:=fun w hw=>by
 have h1:HoldsF (hp w) (L++k):=star_iff.1 hw
 have h2:HoldsF (hp w) ((T::L')++k):=(HoldsF.perm (s.perm.append_right k)).1 h1
 refine h w ?_
 have h3:HoldsF (hp w) (T::(L'++k)):=h2
 have h4:(T::(L'++k)).Perm (L'++(T::k)):=List.perm_middle.symm
 exact (HoldsF.append.1 ((HoldsF.perm h4).1 h3)).2.1
end Go.Ck
namespace Go.Hr
open Go Go.RowKit Go.Ck Go.Proofs Go.Proofs.YtaohbfnepjjdgaaGreat Fx
attribute [local irreducible] Go.Ck.Sub St Cd Xt Nx DrL LsW
section
variable {S T:Res} {v v' x y:Value} {az bz:List Kt} {us us':List Value} {s t:Kt}
theorem with_raw {k k':Int} {n n':Nm} {v w v' w':Bool} {xa ya:Option Addr} {xn xc yn yc:Nat}:Reads Tryz.prog 105 #[.agg #[.int .i64 k,sv n,.slice xa xn xc,.bool v,.bool w],.agg #[.int .i64 k',sv n',.slice ya yn yc,.bool v',.bool w']] [] (.agg #[.int .i64 k,sv n,.slice xa xn xc,.bool v',.bool w']):=by
 refine ct_of (n:=12) Tryz.func105 Z Z (len Z) fun hr w0=>?_
 refine cQ (st_bx Z Z fun b2=>?_)
 refine st_bx Z Z fun b3=>?_
 refine st_alc al25 fun b4=>?_
 refine sK [2,3,4] Z (cS (cd_draw (ork [(0,2),(1,1),(2,2),(3,1),(4,2),(5,0),(6,2),(7,0)] .nil) (fun i => !(Nat.beq i 7)) [pt b3 (cl [.int .i64 k',sv n',.slice ya yn yc,.bool v',.bool w'] 25)] mixed (by kernel_rfl) ?_))
 refine dV Z (vF Z fa25_3 Z) (dr_v Z (vY Z ld4) ?_)
 refine dV Z (vF Z fa25_4 Z) (dr_v Z (vY Z ld4) ?_)
 refine dV Z (vF Z fa25_3 Z) (dr_eff Z (st_sto Z Z sz4 ?_))
 refine dr_nx ?_
 refine dV Z (vF Z fa25_4 Z) (dr_eff Z (st_sto Z Z sz4 (dr_nx ?_)))
 refine dr_nil (nK [2,4] Z (nT (cQ (sV (v_ldn Z ld25 Z rds_pt) ?_))))
 refine st_stoW Z Z sz25 Z Z ?_
 refine sK [4] Z (cT ?_)
 exact xt_retV (.cellN Z ld25 Z slq .nil) ⟨Z,Z⟩ sbr
set_option maxRecDepth 100000 in
theorem with_ct {xa ya:Option Addr} {xn xc yn yc:Nat}:Reads Tryz.prog 105 #[.agg (tyC s (.slice xa xn xc)).toArray,.agg (tyC t (.slice ya yn yc)).toArray] [] (.agg (tyC (s.with t.void t.sep) (.slice xa xn xc)).toArray):=with_raw
set_option maxRecDepth 100000 in
theorem class_ct {n:Nm} {xa:Option Addr} {xn xc:Nat}:Reads Tryz.prog 106 #[sv n,.slice xa xn xc] [] (.agg #[.int .i64 3,sv n,.slice xa xn xc,.bool false,.bool false]):=by
 refine ct_of (n:=8) Tryz.func106 Z Z (len Z) fun hr w0=>?_
 refine cQ (st_alc al25 fun b4=>?_)
 refine sN (nT (cQ (sM Z (sM Z (sV (v_build (cells:=[.int .i64 3,sv n,.slice xa xn xc,.bool false,.bool false]) Z (fun _=>by kernel_rfl)) ?_)))))
 refine st_stoW Z Z sz25 Z Z ?_
 refine sK [4] Z (cT ?_)
 exact xt_retV (.cellN Z ld25 Z slq .nil) ⟨Z,Z⟩ sbr
set_option maxRecDepth 100000 in
theorem bare_ct {xa:Option Addr} {xn xc:Nat}:Reads Tryz.prog 113 #[.agg (tyC s (.slice xa xn xc)).toArray] [] (.agg (tyC (s.with false false) (.slice xa xn xc)).toArray):=by
 unfold tyC
 refine ct_of (n:=6) Tryz.func113 Z Z (len Z) fun hr w0=>?_
 refine cQ (st_bx Z Z fun b1=>?_)
 refine st_alc al25 fun b2=>?_
 refine sK [1,2] Z (cQ (sV (v_ldn Z ld25 Z rds_pt) ?_))
 refine sV (v_build (cells:=[.int .i64 0,sv [],.slice none 0 0,.bool false,.bool false]) Z (fun _=>by kernel_rfl)) ?_
 refine st_clr Z Z en105 Z (with_ct (s:=s) (t:=.mk 0 [] [] false false)) ?_
 unfold tyC
 refine st_stoW Z Z sz25 Z Z ?_
 refine sK [2] Z (cT ?_)
 exact xt_retV (.cellN Z ld25 Z slq .nil) ⟨Z,Z⟩ sbr
set_option maxRecDepth 100000 in
theorem isNamed_ct {xa:Option Addr} {xn xc:Nat}:Reads Tryz.prog 112 #[.agg (tyC s (.slice xa xn xc)).toArray] [] (.bool (isNmd s)):=by
 unfold tyC
 refine ct_of (n:=11) Tryz.func112 Z Z (len Z) fun hr w0=>?_
 refine cQ (st_bx Z Z fun b1=>?_)
 refine sA Z (sK [1,2] Z (cQ (sV (vF Z fa25_0 Z) (sV (vY Z ld3) ?_))))
 refine sV (v_eql Z Z) (sM Z (st_cut (k:=8) (d:=10) (v:=.bool (s.kind == 3 || s.kind == 4)) (fun hcut=>bool_want (b:=(s.kind == 3)) false (fun hg=>?_) (fun hg=>?_)) ?_))
 ·refine st_sk Z Z hg ?_
  iterate 2 refine st_sk rfl rfl hg ?_
  refine sV (vQ (bO Z hg) Z) ?_
  exact hcut _ uG
 ·refine sG Z (bG Z hg) (vF Z fa25_0 Z) (sG Z (bG Z hg) (vY Z ld3) ?_)
  refine sG Z (bG Z hg) (v_eql Z Z) (sV (vP (bO Z hg) Z) ?_)
  exact hcut _ uG
 refine sA Z (sK [2] Z (cT ?_))
 exact xt_rt Z ⟨Z,Z⟩ sbq
set_option maxRecDepth 100000 in
theorem unless_ct {b:Bool} {e:Int}:Reads Tryz.prog 75 #[.bool b,.int .i64 e] [] (.int .i64 (if b=true then 0 else e)):=by
 cases b
 ·refine ct_of (n:=7) Tryz.func75 Z Z (len Z) fun hr w0=>?_
  refine cQ (sA Z (sN (nT (cS (cQ (sM Z (sK [1,4,5] Z (cd_false Z ?_))))))))
  refine cK (xT (cQ (sM Z (sA Z (sK [4] Z (cT ?_))))))
  exact xt_rt Z ⟨Z,Z⟩ sbq
 ·refine ct_of (n:=7) Tryz.func75 Z Z (len Z) fun hr w0=>?_
  refine cQ (sA Z (sN (nT (cS (cQ (sM Z (sK [1,4,5] Z (cd_true Z ?_))))))))
  refine cQ (sA Z (sK [4] Z (cT (xR ?_))))
  exact xt_rt Z ⟨Z,Z⟩ sbq
/-! ## Depth, parts -/
theorem depths_take {i:Nat} {a:Kt} (h:az[i]? = some a):depths (az.take (i+1))=max (depths (az.take i)) a.depth:=by
 obtain ⟨hi,rfl⟩:=List.getElem?_eq_some_iff.1 h
 rw [List.take_succ_eq_append_getElem hi]
 generalize az.take i=l
 induction l with
 | nil=>simp [depths]
 | cons b t ih=>simp only [List.cons_append,depths,ih]; omega
theorem partss_take {i:Nat} {a:Kt} (h:az[i]? = some a):partss (az.take (i+1))=partss (az.take i)+a.parts:=by
 obtain ⟨hi,rfl⟩:=List.getElem?_eq_some_iff.1 h
 rw [List.take_succ_eq_append_getElem hi,partss_append]
 simp [partss]
theorem depths_take_le {i:Nat}:depths (az.take i)≤depths az:=depths_le fun a ha=>depths_mem (List.mem_of_mem_take ha)
theorem partss_take_le:∀ (i:Nat) (az:List Kt),partss (az.take i)≤partss az
 | 0,az=>by simp [partss]
 | i+1,[]=>by simp
 | i+1,a::t=>by
  simp only [List.take_succ_cons,partss]
  have:=partss_take_le i t
  omega
theorem parts_eq:s.parts=1+partss s.args:=by cases s; rfl
theorem depth_eq:s.depth=depths s.args+1:=by cases s; rfl
theorem partss_len:∀ (az:List Kt),az.length≤partss az
 | []=>by simp
 | a::t=>by
  have:=partss_len t
  simp only [List.length_cons,partss,parts_eq]; omega
set_option maxRecDepth 100000 in
theorem Depth_ct : ∀ (d : Nat) (s : Kt) (us : List Value), s.depth ≤ d → s.depth ≤ 1000000 → Ty S us s → Reads Tryz.prog 101 #[.agg us.toArray] [S] (.int .i64 s.depth)
 | 0,s,_,hd,_,_=>by cases s; simp [Kt.depth] at hd
 | d + 1, s, us, hd, hb, hs => by
  have hml:maxLen=9223372036854775807:=rfl
  obtain ⟨x,rfl,hx⟩:=hs.out
  have hF:∀ (a:Kt) us,a∈s.args→Ty S us a→Reads Tryz.prog 101 #[.agg us.toArray] [S] (.int .i64 a.depth):=fun a us ha h1=>Depth_ct d a us (by have:=depth_args ha; omega) (by have:=depth_args ha; omega) h1
  obtain ⟨xa,xc,rfl,hlc,hcm,_⟩:=hx.form
  rw [depth_eq] at hb ⊢
  unfold tyC
  refine ct_of (n:=20) Tryz.func101 Z Z (len Z) fun hr w0=>?_
  refine cQ (st_bx Z Z fun b1=>?_)
  refine sA Z (sK [1,2] Z (cQ (sA Z (sN (nT (cS (cQ (sV (vF Z fa25_2 Z) (sV (vY Z ld23) ?_)))))))))
  refine sV (v_len Z Tryz.underlying23) (sM Z (sK [2,3,7,8,9] Z (cB (cd_lq (σ := Nat) (fun i=>[(3,.int .i64 (depths (s.args.take i):Nat)),(7,.slice xa s.args.length xc),(8,.int .i64 s.args.length),(9,.int .i64 (i:Nat))]) (fun _=>S::hr) (fun i=>i≤s.args.length) (fun i=>s.args.length - i) 0 (Nat.zero_le _) ?_))))
  rintro i hi
  have hdi:depths (s.args.take i)≤depths s.args:=depths_take_le
  refine cQ (sV (v_lss Z Z) (sN (nT (cS (cC Z (fun hd=>?_) (fun hd=>?_))))))
  ·have hlt:i<s.args.length:=by simpa using hd
   have hg:=List.getElem?_eq_getElem hlt
   have hmem:=List.getElem_mem hlt
   obtain ⟨b,o,cap2,us,e1,hus,hrd,hta⟩:=hx.at hg
   cases e1
   generalize s.args[i]=x at hg hmem hta
   have hone:=hta.ones
   have htk:=depths_take hg
   refine cK (xT (cS (cB (cQ (sV (vI (k:=i) Z Z sl23 Z hlt Z) (sV (v_ldn Z ld25 hus hrd) ?_))))))
   refine st_alc al25 fun b5=>?_
   refine st_stoW (hl:=by rw [hus]; rfl) Z Z sz25 hus hone ?_
   refine sK [3,5,7,8,9] Z (cR (sM Z (sV (v_ldn Z ld25 hus rds_pt) ?_)))
   refine st_clr Z Z en101 Z ((hF x us hmem hta)) ?_
   refine sV (v_imax Z Z) (sA Z (sN (nK [3,7,8,9] Z (nx_xt (xB (xT (cR (sV (v_add Z Z (by unfold I64 at *; omega)) (sM Z (sN (nK [3,7,8,9] Z (nx_xt ?_))))))))))))
   rw [← htk]
   refine xt_aq (i+1) hlt (Nat.sub_lt_sub_left hlt (Nat.lt_succ_self i))
  ·have hil:i=s.args.length:=by
    have:¬ i<s.args.length:=by simpa using hd
    omega
   rw [hil,List.take_length]
   refine cd_exit (xE (xE (xY (xT (cQ (sM Z (sV (v_add Z Z (by unfold I64 at *; omega)) (sA Z (sK [2] Z (cT ?_))))))))))
   exact xt_rt Z ⟨Z,Z⟩ sbq
set_option maxRecDepth 100000 in
theorem depth_ct (hb:s.depth≤1000000) (hs:Ty S us s):Reads Tryz.prog 101 #[.agg us.toArray] [S] (.int .i64 s.depth):=Depth_ct s.depth s us (Nat.le_refl _) hb hs
set_option maxRecDepth 100000 in
theorem Parts_ct : ∀ (d : Nat) (az : List Kt) (v : Value), depths az ≤ d → partss az ≤ 1000000000 → Tys S v az → Reads Tryz.prog 141 #[v] [S] (.int .i64 (partss az : Nat)) := by
 intro d
 induction d with
 | zero =>
  intro az v hd hb hv
  cases az with
  | cons a t=>exfalso; simp only [depths,depth_eq] at hd; omega
  | nil =>
   obtain ⟨xa,xc,rfl,hlc,hcm,_⟩:=hv.form
   refine ct_of (n:=21) Tryz.func141 Z Z (len Z) fun hr w0=>?_
   refine cQ (sA Z (sN (nT (cQ (sM Z (sV (v_len Z Tryz.underlying23) (sA Z (sK [0,2,3] Z (cS (cQ (sM Z ?_)))))))))))
   refine sV (v_len Z Tryz.underlying23) (sM Z (sK [2,3,8,9,10] Z (cB (cd_lq (σ := Nat) (fun i=>[(3,.int .i64 0),(9,.int .i64 0),(10,.int .i64 (i:Nat))]) (fun _=>S::hr) (fun i=>i=0) (fun i=>0) 0 Z ?_))))
   rintro i rfl
   refine cQ (sV (v_lss Z Z) (sN (nT (cS (cd_false Z ?_)))))
   refine cd_exit (xE (xE (xY (xT (cQ (sM Z (sA Z (sK [2] Z (cT ?_)))))))))
   exact xt_rt Z ⟨Z,Z⟩ sbq
 | succ d ih =>
  intro az v hd hb hv
  have hml:maxLen=9223372036854775807:=rfl
  have hpl:=partss_len az
  obtain ⟨xa,xc,rfl,hlc,hcm,_⟩:=hv.form
  have hF:∀ (a:Kt) x,a∈az→Tys S x a.args→Reads Tryz.prog 141 #[x] [S] (.int .i64 (partss a.args:Nat)):=fun a x ha h1=>ih a.args x (by have:=depths_mem ha; rw [depth_eq] at this; omega) (by
   have h2:a.parts≤partss az:=by
    obtain ⟨i,hi,rfl⟩:=List.getElem_of_mem ha
    have h3:=partss_take (List.getElem?_eq_getElem hi)
    have h4:=partss_take_le (i+1) az
    omega
   rw [parts_eq] at h2; omega) h1
  refine ct_of (n:=21) Tryz.func141 Z Z (len Z) fun hr w0=>?_
  refine cQ (sA Z (sN (nT (cQ (sM Z (sV (v_len Z Tryz.underlying23) (sA Z (sK [0,2,3] Z (cS (cQ (sM Z ?_)))))))))))
  refine sV (v_len Z Tryz.underlying23) (sM Z (sK [2,3,8,9,10] Z (cB (cd_lq (σ := Nat) (fun i=>[(3,.int .i64 ((az.length - i+partss (az.take i):Nat))),(8,.slice xa az.length xc),(9,.int .i64 az.length),(10,.int .i64 (i:Nat))]) (fun _=>S::hr) (fun i=>i≤az.length) (fun i=>az.length - i) 0 (Nat.zero_le _) ?_))))
  rintro i hi
  have hdi:=partss_take_le i az
  refine cQ (sV (v_lss Z Z) (sN (nT (cS (cC Z (fun hd=>?_) (fun hd=>?_))))))
  ·have hlt:i<az.length:=by simpa using hd
   have hg:=List.getElem?_eq_getElem hlt
   have hmem:=List.getElem_mem hlt
   obtain ⟨b,o,cap2,us,e1,hus,hrd,hta⟩:=hv.at hg
   cases e1
   generalize az[i]=x at hg hmem hta
   have hone:=hta.ones
   have htk:=partss_take hg
   have hle:=partss_take_le (i+1) az
   have hpx:=parts_eq (s:=x)
   obtain ⟨y,rfl,hy⟩:=hta.out
   obtain ⟨ya,yc,rfl,_⟩:=id hy.form
   unfold tyC at hrd hone
   refine cK (xT (cS (cB (cQ (sV (vI (k:=i) Z Z sl23 Z hlt Z) (sV (v_ldn Z ld25 Z hrd) ?_))))))
   refine st_alc al25 fun b5=>?_
   refine st_stoW Z Z sz25 Z hone ?_
   refine sK [3,5,8,9,10] Z (cR (sM Z (sV (vF Z fa25_2 Z) (sV (vY Z ld23) ?_))))
   refine st_clr Z Z en141 Z ((hF x _ hmem hy)) ?_
   refine sV (v_add Z Z (by unfold I64 at *; omega)) (sA Z (sN (nK [3,8,9,10] Z (nx_xt (xB (xT (cR (sV (v_add Z Z (by unfold I64 at *; omega)) (sM Z (sN (nK [3,8,9,10] Z (nx_xt ?_))))))))))))
   rw [show ((az.length - i+partss (az.take i):Nat):Int)+(partss x.args:Nat)=((az.length - (i+1)+partss (az.take (i+1)):Nat):Int) by omega]
   refine xt_aq (i+1) hlt (Nat.sub_lt_sub_left hlt (Nat.lt_succ_self i))
  ·have hil:i=az.length:=by
    have:¬ i<az.length:=by simpa using hd
    omega
   rw [hil,List.take_length,Nat.sub_self,Nat.zero_add]
   refine cd_exit (xE (xE (xY (xT (cQ (sM Z (sA Z (sK [2] Z (cT ?_)))))))))
   exact xt_rt Z ⟨Z,Z⟩ sbq
end
end Go.Hr
namespace Go.Ck
open Go Go.RowKit
def wrE (T:TypeId) (e:Int):PanicEntry:={ v:=.iface T (.agg #[.int .i64 e]),recovered:=false }
def PostE (T:TypeId) (w0:World) (h:SH) (er:Int) (en:Ending) (w:World):Prop:=((er=0∧en = .returned (.tuple #[]))∨(er≠0∧en = .panicked [wrE T er]))∧Holds w h∧Same w0 w
def Cpe (P:Program) (T:TypeId) (k:FuncId) (args:Array Value) (hf:SH) (er:Int):Prop :=
 ∀ (hr:SH) (w:World),Holds w (hf++hr)→Calls P k args w (PostE T w (hf++hr) er)
theorem cpe_of {P:Program} {T:TypeId} {k:FuncId} {fn:Func} {x:Code} {n:Nat} {l:List Value} {hf:SH} {er:Int} (hF:P.funcs[k]? = some fn) (hb:fn.body=some x) (hnt:fn.ntmps=n) (hn:l.length≤n)
  (hc:∀ (hr:SH) (w0:World),Cd ⟨P,none,n,[],w0⟩ x (bodyPost P fn (PostE T w0 (hf++hr) er)) (Env.ofArgs 0 l) (hf++hr)):Cpe P T k l.toArray hf er:=fun hr w hh=>by
 refine calls_fw (r:=none) (n:=0) (callsIn_of_wp hF hb trivial (hc hr w _ w ⟨?_,Z,fun i v hi=>?_⟩ hh (Same.refl w)))
 ·simp; omega
 ·obtain ⟨_,h2⟩:=Env.ofArgs_get hi
  simp only [Nat.sub_zero] at h2
  have hlt:i<l.length:=(List.getElem?_eq_some_iff.1 h2).1
  rw [List.getElem?_eq_getElem hlt,Option.some.injEq] at h2
  simp [Array.getElem?_append,hlt,h2]
section
variable {P:Program} {T:TypeId} {n:Nat} {w0:World} {fn:Func} {h h':SH} {e:Env} {er:Int} {r:Option Nat} {ex:Exit}
theorem xt_rtE (he:er=0) (hv:fn.results = #[]) (hx:ex = .normal∨ex = .ret) (hp:Sub h' h):Xt ⟨P,r,n,[],w0⟩ ex (bodyPost P fn (PostE T w0 h' er)) e h:=fun a w hk hh hw=>by
 have hr:(results fn a.tmps).run P w = .ok (.tuple #[]) w:=by unfold results; rw [hv]; simp
 have hpost:PostE T w0 h' er (.returned (.tuple #[])) w:=⟨.inl ⟨he,rfl⟩,hh.sub hp,hw⟩
 rcases hx with rfl | rfl <;> exact ⟨hk.defers,_,hr,hpost⟩
theorem xt_panE (he:er≠0) (hp:Sub h' h):Xt ⟨P,r,n,[],w0⟩ (.panic [wrE T er]) (bodyPost P fn (PostE T w0 h' er)) e h:=fun a w hk hh hw=>⟨hk.defers,.inr ⟨he,rfl⟩,hh.sub hp,hw⟩
end

section
variable {c:Cx} {Q:Exit→Act→World→Prop} {e:Env} {h:SH} {ch:List PanicEntry}
theorem xp_then {K:Act→World→Prop} (hx:Xt c (.panic ch) Q e h):Xt c (.panic ch) (Exit.then K Q) e h:=hx
theorem xp_block {id:Nat} (hx:Xt c (.panic ch) Q e h):Xt c (.panic ch) (Exit.inBlock id Q) e h:=hx
end
theorem xt_panE' {P:Program} {T:TypeId} {n:Nat} {w0:World} {fn:Func} {h h':SH} {e:Env} {er er':Int} {r:Option Nat} (h1:er'≠0) (he:er=er') (hp:Sub h' h):Xt ⟨P,r,n,[],w0⟩ (.panic [wrE T er']) (bodyPost P fn (PostE T w0 h' er)) e h:=by
 subst he; exact xt_panE h1 hp

/-! ## The last operation of a region -/
section
variable {c:Cx} {ops:Array Oper} {Q:Exit→Act→World→Prop} {e:Env} {h hr:SH}
theorem LsW.append {P : Program} {r : Option Nat} {l2 : List Oper} : ∀ (l1 : List Oper) (a : Act) (w : World), LsW P r ops (fun a w => Go.wpListIn (Fw r) 0 P ops Q l2 a w) l1 a w → Go.wpListIn (Fw r) 0 P ops Q (l1 ++ l2) a w
 | [],a,w,h=>h
 | o::rest,a,w,h=>by
  unfold LsW at h
  rw [List.cons_append]
  unfold Go.wpListIn
  split
  ·rename_i hw
   rw [if_pos hw] at h
   exact OpW.wpIn (OpW.mono (fun a w h=>LsW.append rest a w h) h)
  ·rename_i hw
   rw [if_neg hw] at h
   exact ⟨fun _ _=>trivial,LsW.append rest _ w h⟩
theorem cd_regP {id:Nat} {l:List Oper} (hs:St c l.toArray (fun a w=>Go.wpListIn (Fw c.r) 0 c.P l.toArray Q (l.drop (l.length - 1)) a w) l.dropLast e h):Cd c (.region id l.toArray false) Q e h:=fun a w hk hh hw=>by
 refine wpIn_region_lit ?_
 have h1:=LsW.append _ a w (hs a w hk hh hw)
 rwa [List.dropLast_eq_take,List.take_append_drop] at h1
theorem st_cutP {K:Act→World→Prop} {rest:List Oper} {l:List Oper} {k d:Nat} {v:Value} (h2:(∀ e2,SSub ((d,v)::e) e2→St c l.toArray K (l.dropLast.drop k) e2 h)→St c l.toArray K rest e h) (h1:St c l.toArray K (l.dropLast.drop k) ((d,v)::e) h):St c l.toArray K rest e h :=
 h2 fun _ hs a w hk hh hw=>h1 a w (hk.ssub hs) hh hw
theorem pan_op {T:TypeId} {d:Nat} {f:Operand} {az:Array Operand} {ts:Array TypeId} {ty:TypeId} {pos:String} {after:Array Edge} {k:FuncId} {fi cp:Array Value} {vs:List Value} {args:Array Value} {hf:SH} {er:Int} {K:Act→World→Prop}
  (hv:e.ev? f=some (.func (.func k) fi cp)) (has:az.toList.mapM e.ev? = some vs) (hE:Enters c.P k) (ha:fi++vs.toArray++cp=args) (ct:Cpe c.P T k args hf er) (pk:Pk h hf hr) (hd:d<c.n)
  (h0:er=0→Nx c K ((d,.tuple #[])::e) h) (h1:er≠0→Xt c (.panic [wrE T er]) Q e h) {a:Act} {w:World} (hk:Kn c.n c.ds a e) (hh:Holds w h) (hw:Same c.w0 w) :
  Oper.wpIn (Fw c.r) 0 c.P ⟨some d,.call { callee:=.value f,args:=az,argTypes:=ts },ty,pos,after,none⟩ a w K Q:=by
 refine ⟨fun _ _=>trivial,?_⟩
 show Oper.uponIn (Fw c.r) 0 c.P _ a K Q ((Oper.semAt c.r a.eval _).run c.P w)
 rw [Oper.semAt_eq _ _ _ (by simp),run_call hv has hE ha hk.evs]
 refine ⟨fw_depth c.r _,callsIn_fw ((ct hr w (hh.pk pk)).mono fun en w' ⟨hen,hH,hS⟩=>?_)⟩
 rcases hen with ⟨h2,rfl⟩ | ⟨h2,rfl⟩
 ·exact h0 h2 _ w' (hk.put _ hd) (hH.perm pk.perm.symm) (hw.trans hS)
 ·exact h1 h2 a w' hk (hH.perm pk.perm.symm) (hw.trans hS)
theorem nx_pan {T:TypeId} {d:Nat} {f:Operand} {az:Array Operand} {ts:Array TypeId} {ty:TypeId} {pos:String} {after:Array Edge} {k:FuncId} {fi cp:Array Value} {vs:List Value} {args:Array Value} {hf:SH} {er:Int}
  (hv:e.ev? f=some (.func (.func k) fi cp)) (has:az.toList.mapM e.ev? = some vs) (hE:Enters c.P k) (ha:fi++vs.toArray++cp=args) (ct:Cpe c.P T k args hf er)
  (h0:er=0→Nx c (Q .normal) ((d,.tuple #[])::e) h) (h1:er≠0→Xt c (.panic [wrE T er]) Q e h)
  (pk:Pk h hf hr:=by repeat (first | exact Pk.nil | (apply Pk.cons; (repeat (first | exact Sel.here | apply Sel.there))))) (hd:d<c.n:=by exact ltn rfl) :
  Nx c (fun a w=>Go.wpListIn (Fw c.r) 0 c.P ops Q [⟨some d,.call { callee:=.value f,args:=az,argTypes:=ts },ty,pos,after,none⟩] a w) e h:=fun a w hk hh hw=>by
 show Go.wpListIn (Fw c.r) 0 c.P ops Q [_] a w
 unfold Go.wpListIn
 rw [if_pos (by simp [Region.wanted])]
 exact pan_op hv has hE ha ct pk hd (K:=fun a w=>Go.wpListIn (Fw c.r) 0 c.P ops Q [] a w) h0 h1 hk hh hw
theorem nx_halt {x:Operand} {d:Option Nat} {ty:TypeId} {pos:String} {after:Array Edge} {T:TypeId} {er:Int} (hx:e.ev? x=some (.iface T (.agg #[.int .i64 er]))) (h1:Xt c (.panic [wrE T er]) Q e h) :
  Nx c (fun a w=>Go.wpListIn (Fw c.r) 0 c.P ops Q [⟨d,.panic x,ty,pos,after,none⟩] a w) e h:=fun a w hk hh hw=>by
 show Go.wpListIn (Fw c.r) 0 c.P ops Q [_] a w
 unfold Go.wpListIn
 rw [if_pos (by simp [Region.wanted])]
 refine ⟨fun _ _=>trivial,?_⟩
 show Oper.uponIn (Fw c.r) 0 c.P _ a _ Q ((Oper.semAt c.r a.eval _).run c.P w)
 rw [Oper.semAt_eq _ _ _ (by simp)]
 simp only [execOp,hk.ev hx]
 have hrun:(Instr.panic (.iface T (.agg #[.int .i64 er]))).run c.P w = .halt (.panic (.iface T (.agg #[.int .i64 er]))) w:=rfl
 simp only [Sem.run_bind,hrun]
 exact h1 a w hk hh hw
theorem v_iface {P:Program} {e:Env} {h:SH} {ty T:TypeId} {x:Operand} {v:Value} (hx:e.ev? x=some v) (hv:∀ w,(Instr.makeInterface T v).run P w = .ok (.iface T v) w):Vop P e h (.makeInterface T x) ty (.iface T v):=
 ⟨by simp,by simp,fun ρ w d pos after g hρ _=>by
  simp only [execOp,hρ x _ hx,Sem.run_bind,hv,Result.andThen_ok,Sem.run_pure]⟩

/-! ## The last operation of a region that draws its order -/
variable {hC:SH} {m:Nat} {KP:Act→World→Prop}
def AnyP (c:Cx) (ops:Array Oper) (hC:SH) (m:Nat) (KP:Act→World→Prop):Nat→Array Bool→Act→SH→Prop
 | 0,listed,a,h=>Region.ready .any ops listed=[m]∧∀ w,Holds w h→Same c.w0 w→KP a w
 | f+1,listed,a,h=>Region.ready .any ops listed≠[]∧m ∉ Region.ready .any ops listed∧∀ i∈Region.ready .any ops listed,opH c ops (fun _=>true) hC i (AnyP c ops hC m KP f (listed.setIfInBounds i true)) a h
theorem un_of_ready {i:Nat} {listed:Array Bool} (hr:i∈Region.ready .any ops listed):listed.getD i false=false:=by
 have h0:=(mem_ready.1 hr).1
 rcases Nat.lt_or_ge i listed.size with h' | h'
 ·simp [h'] at h0 ⊢; exact h0
 ·simp [Array.getElem?_eq_none h']
theorem anyP_first {i : Nat} {oi : Oper} {v : Value} {hP : SH} (hkp : hP = hC ∨ hP = []) (hi : ops[i]? = some oi) (hsel : ∀ (j : Nat) (o : Oper), ops[j]? = some o → (∀ cs b, o.op ≠ .select cs b) ∧ ∀ k, o.op ≠ .defer k) (hm : Dep ops m i) :
  ∀ (f:Nat) (listed:Array Bool) (a:Act) (h:SH),Closed ops listed→Sub hP h →
   (∀ j oj,ops[j]? = some oj→j≠i→listed.getD j true=false→(∀ e∈oj.after,Region.binds .any e=true→e.on≠i)→oi.apart ops oj=true) →
   i∈Region.ready .any ops listed→YieldsH c ops hP oi v a →
   AnyP c ops hC m KP f (listed.setIfInBounds i true) (a.put oi.dst v) h→AnyP c ops hC m KP (f+1) listed a h:=by
 intro f
 induction f with
 | zero =>
  intro listed a h hcl hsub _ hr hy H
  have hnm:=hm.notReady hcl (un_of_ready hr)
  refine ⟨fun h0=>(by rw [h0] at hr; cases hr),hnm,fun j hj=>?_⟩
  by_cases hji:j=i
  ·subst hji; exact hy.opH hi hsub H
  ·have:=ready_mono hj hji
   rw [H.1] at this
   have:j=m:=by simpa using this
   subst this
   exact absurd hj hnm
 | succ f ih =>
  intro listed a h hcl hsub hfree hr hy H
  have hiun:=un_of_ready hr
  have hnm:=hm.notReady hcl hiun
  refine ⟨fun h0=>(by rw [h0] at hr; cases hr),hnm,fun j hj=>?_⟩
  by_cases hji:j=i
  ·subst hji; exact hy.opH hi hsub H
  ·have h1 := H.2.2 j (ready_mono hj hji)
   obtain ⟨hjun,oj,hoj,hall⟩:=mem_ready.1 hj
   have hkeep:∀ h',(Sub hC h→Sub hC h')→Sub hP h':=fun h' k=>by
    rcases hkp with h0 | h0
    ·subst h0; exact k hsub
    ·subst h0; exact Sub.nil _
   have hnot:∀ e∈oj.after,Region.binds .any e=true→e.on≠i:=fun e he hb heq=>by
    have h1:=hall e he hb
    rw [heq,hiun] at h1; cases h1
   obtain ⟨ap1,ap2,ap3⟩:=Oper.apart_spec (hfree j oj hoj hji hjun hnot)
   have hnext:∀ (u:Value) (h':SH),Sub hP h'→AnyP c ops hC m KP f ((listed.setIfInBounds i true).setIfInBounds j true) ((a.put oi.dst v).put oj.dst u) h'→AnyP c ops hC m KP (f+1) (listed.setIfInBounds j true) (a.put oj.dst u) h':=by
    intro u h' hs' hN
    refine ih _ _ h' (hcl.set hj) hs' (fun k ok hk hki hun hno=>hfree k ok hk hki ?_ hno) (ready_mono hr (Ne.symm hji)) (hy.put (hsel i oi hi).1 (hsel i oi hi).2 ap3 u) ?_
    ·by_cases hjk:j=k
     ·subst hjk; exact hjun
     ·rw [getD_set_ne true hjk] at hun; exact hun
    ·rw [Array.setIfInBounds_comm _ _ hji,← Act.put_comm a v u ap2]
     exact hN
   unfold opH at h1 ⊢
   simp only [hoj] at h1 ⊢
   rw [wanted_put oj a oi.dst v ap1] at h1
   split
   ·rename_i hw
    rw [if_pos hw] at h1
    intro w g1 g2
    have h2:=h1 w g1 g2
    unfold OpV at h2 ⊢
    rw [semAt_put (hsel j oj hoj).1 (hsel j oj hoj).2 a oi.dst v ap1] at h2
    exact opUpon_mono (fun u w' ⟨h',k1,k2,k3,k4⟩=>⟨h',k1,k2,k3,hnext u h' (hkeep h' (k3 trivial)) k4⟩) h2
   ·rename_i hw
    rw [if_neg hw] at h1
    exact hnext undef h hsub h1
theorem AnyP.wp (hQ : ∀ a w, KP a w → wpOpIn (Fw c.r) 0 c.P ops Q m (Q .normal) a w) (hlast : ∀ listed, Region.ready .any ops listed = [m] → Region.ready .any ops (listed.setIfInBounds m true) = []) :
  ∀ (f:Nat) (listed:Array Bool) (a:Act) (h:SH) (w:World),AnyP c ops hC m KP f listed a h→Holds w h→Same c.w0 w→wpAnyIn (Fw c.r) 0 c.P .any ops Q (f+1) listed a w
 | 0,listed,a,h,w,H,h1,h2=>by
  refine ⟨fun h0=>(by rw [H.1] at h0; cases h0),fun i hi=>?_⟩
  rw [H.1] at hi
  have:i=m:=by simpa using hi
  subst this
  exact wpOpIn_mono (fun a w hq=>⟨hlast listed H.1,hq⟩) (hQ a w (H.2 w h1 h2))
 | f + 1, listed, a, h, w, H, h1, h2 => by
  refine ⟨fun h0=>absurd h0 H.1,fun i hi=>?_⟩
  have hh:=H.2.2 i hi
  unfold opH at hh
  unfold wpOpIn
  split
  ·rename_i ho; rw [ho] at hh; exact hh.elim
  ·rename_i o ho
   simp only [ho] at hh
   split
   ·rename_i hw
    rw [if_pos hw] at hh
    exact OpW.wpIn ((hh w h1 h2).mono fun v w' ⟨h',g1,g2,_,g4⟩=>AnyP.wp hQ hlast f _ _ h' w' g4 g1 g2)
   ·rename_i hw
    rw [if_neg hw] at hh
    exact ⟨fun _ _=>trivial,AnyP.wp hQ hlast f _ _ h w hh h1 h2⟩
def okPm (ops:Array Oper) (m:Nat) (M:Array Nat):Ord→Array Bool→Bool
 | .nil,listed=>decide (Region.ready .any ops listed=[m])
 | .cons (i,true) t,listed=>(Region.ready .any ops listed).contains i && Region.free .any ops listed i && tb M m i && decide (m<ops.size) && decide (i<ops.size) && okPm ops m M t (listed.setIfInBounds i true)
 | .pure i t,listed=>(Region.ready .any ops listed).contains i && Region.free .any ops listed i && tb M m i && decide (m<ops.size) && decide (i<ops.size) && okPm ops m M t (listed.setIfInBounds i true)
 | _,_=>false
theorem DrL.anyP {M : Array Nat} (hsel : noSelDef ops = true) (hM : tbOk ops M = true) : ∀ (p : Ord) (listed : Array Bool) (e : Env) (h : SH) (a : Act), listed.size = ops.size → Closed ops listed → okPm ops m M p listed = true →
  DrL c ops (fun _=>true) hC KP p e h→Kn c.n c.ds a e→AnyP c ops hC m KP p.length listed a h
 | .nil,listed,e,h,a,_,_,hB,H,hk=>⟨by simpa [okPm] using hB,fun w h1 h2=>H a w hk h1 h2⟩
 | .cons (i,true) t,listed,e,h,a,hsz,hcl,hB,H,hk=>by
  simp only [okPm,Bool.and_eq_true,decide_eq_true_eq] at hB
  obtain ⟨⟨⟨⟨⟨hr,hf⟩,hd⟩,hm⟩,hi⟩,hB'⟩:=hB
  obtain ⟨hsub,o,v,ho,hy,e',he',hn⟩:=H
  have hr':i∈Region.ready .any ops listed:=by simpa using hr
  exact anyP_first (.inl Z) ho (noSelDef_spec hsel) (tbOk_dep hM m i hm hi hd) t.length listed a h hcl hsub (Region.free_spec ho hf) hr' (hy a hk)
   (DrL.anyP hsel hM t _ e' h _ (by simpa using hsz) (hcl.set hr') hB' hn (he' a hk))
 | .pure i t,listed,e,h,a,hsz,hcl,hB,H,hk=>by
  simp only [okPm,Bool.and_eq_true,decide_eq_true_eq] at hB
  obtain ⟨⟨⟨⟨⟨hr,hf⟩,hd⟩,hm⟩,hi⟩,hB'⟩:=hB
  obtain ⟨o,v,ho,hy,e',he',hn⟩:=H
  have hr':i∈Region.ready .any ops listed:=by simpa using hr
  exact anyP_first (.inr Z) ho (noSelDef_spec hsel) (tbOk_dep hM m i hm hi hd) t.length listed a h hcl (Sub.nil _) (Region.free_spec ho hf) hr' (hy a hk)
   (DrL.anyP hsel hM t _ e' h _ (by simpa using hsz) (hcl.set hr') hB' hn (he' a hk))
 | .cons (_,false) _,_,_,_,_,_,_,hB,_,_=>by simp [okPm] at hB
 | .two _ _ _ _,_,_,_,_,_,_,hB,_,_=>by simp [okPm] at hB
 | .three _ _ _ _ _ _,_,_,_,_,_,_,hB,_,_=>by simp [okPm] at hB
theorem ready_last {m:Nat} {listed:Array Bool} (h:Region.ready .any ops listed=[m]) (hm:(List.range ops.size).all (fun j=>match ops[j]? with | some o=>o.after.all (fun e=>e.on != m && decide (e.on<j)) | none=>true)=true):Region.ready .any ops (listed.setIfInBounds m true)=[]:=by
 rw [List.eq_nil_iff_forall_not_mem]
 intro j hj
 have hlt:m<listed.size:=by
  have h0:=(mem_ready.1 (show m∈Region.ready .any ops listed by rw [h]; simp)).1
  rcases Nat.lt_or_ge m listed.size with h' | h'
  ·exact h'
  ·simp [Array.getElem?_eq_none h'] at h0
 obtain ⟨h1,o,ho,h2⟩:=mem_ready.1 hj
 have hjm:j≠m:=fun e=>by subst e; simp [hlt] at h1
 have hjl:j<ops.size:=(Array.getElem?_eq_some_iff.1 ho).1
 have h3:=List.all_eq_true.1 hm j (List.mem_range.2 hjl)
 rw [ho] at h3
 have:j∈Region.ready .any ops listed:=mem_ready.2 ⟨by rw [getD_set_ne true (Ne.symm hjm)] at h1; exact h1,o,ho,fun e he hb=>by
  have h4:=h2 e he hb
  have h5:=Array.all_eq_true'.1 h3 e he
  simp only [Bool.and_eq_true,bne_iff_ne,ne_eq] at h5
  rw [getD_set_ne false (fun e'=>h5.1 e'.symm)] at h4
  exact h4⟩
 rw [h] at this
 exact hjm (by simpa using this)
theorem nx_panD {T:TypeId} {d:Nat} {f:Operand} {az:Array Operand} {ts:Array TypeId} {ty:TypeId} {pos:String} {after:Array Edge} {k:FuncId} {fi cp:Array Value} {vs:List Value} {args:Array Value} {hf:SH} {er:Int}
  (hi:ops[m]? = some ⟨some d,.call { callee:=.value f,args:=az,argTypes:=ts },ty,pos,after,none⟩)
  (hv:e.ev? f=some (.func (.func k) fi cp)) (has:az.toList.mapM e.ev? = some vs) (hE:Enters c.P k) (ha:fi++vs.toArray++cp=args) (ct:Cpe c.P T k args hf er)
  (h0:er=0→Nx c (Q .normal) ((d,.tuple #[])::e) h) (h1:er≠0→Xt c (.panic [wrE T er]) Q e h)
  (pk:Pk h hf hr:=by repeat (first | exact Pk.nil | (apply Pk.cons; (repeat (first | exact Sel.here | apply Sel.there))))) (hd:d<c.n:=by exact ltn rfl) :
  Nx c (fun a w=>wpOpIn (Fw c.r) 0 c.P ops Q m (Q .normal) a w) e h:=fun a w hk hh hw=>by
 show wpOpIn (Fw c.r) 0 c.P ops Q m (Q .normal) a w
 unfold wpOpIn
 simp only [hi]
 rw [if_pos (by simp [Region.wanted])]
 exact pan_op hv has hE ha ct pk hd (K:=Q .normal) h0 h1 hk hh hw
end
theorem cd_drawP {c:Cx} {id:Nat} {l:List Oper} {Q:Exit→Act→World→Prop} {e:Env} {h:SH} (p:Ord) (m:Nat) (hm:c.P.follows .mixedOrders=true)
  (hB:(noSelDef l.toArray && tbOk l.toArray (Region.before l.toArray) && okPm l.toArray m (Region.before l.toArray) p (Array.replicate l.toArray.size false) && decide (p.length+1=l.toArray.size) && decide (m<l.toArray.size) && (List.range l.toArray.size).all (fun j=>match l.toArray[j]? with | some o=>o.after.all (fun e=>e.on != m && decide (e.on<j)) | none=>true))=true)
  (hd:DrL c l.toArray (fun _=>true) h (fun a w=>wpOpIn (Fw c.r) 0 c.P l.toArray Q m (Q .normal) a w) p e h):Cd c (.region id l.toArray true) Q e h:=fun a w hk hh hw=>by
 simp only [Bool.and_eq_true,decide_eq_true_eq] at hB
 obtain ⟨⟨⟨⟨⟨h1,h2⟩,h3⟩,h4⟩,h5⟩,h6⟩:=hB
 refine wpIn_region_any hm ?_
 have hcl:Closed l.toArray (Array.replicate l.toArray.size false):=fun j o _ hl=>by rw [getD_falses] at hl; cases hl
 have hany:=DrL.anyP h1 h2 p _ e h a (by simp) hcl h3 hd hk
 have h7:=AnyP.wp (Q:=Q) (fun _ _ hq=>hq) (fun listed hl=>ready_last hl h6) _ _ _ _ _ hany (Holds.grew hh (Grew.drawn w (w.drawn+1))) (hw.trans (Grew.drawn w (w.drawn+1)).toSame)
 rw [h4] at h7
 exact h7
end Go.Ck
namespace Go.Hr
open Go Go.RowKit Go.Ck Go.Proofs Go.Proofs.YtaohbfnepjjdgaaGreat Fx
attribute [local irreducible] Go.Ck.Sub St Cd Xt Nx DrL LsW
set_option maxRecDepth 100000 in
theorem must_ct {b:Bool} {e:Int} (he:e≠0):Cpe Tryz.prog 194 100 #[.bool b,.int .i64 e] [] (if b=true then 0 else e):=by
 cases b
 ·refine cpe_of (n:=9) Tryz.func100 Z Z (len Z) fun hr w0=>?_
  refine cQ (sM Z (sV (v_not Z) (sK [1,5] Z (cd_true Z ?_))))
  refine cd_regP (sM Z (sV (v_build (cells:=[.int .i64 e]) Z (fun _=>by kernel_rfl)) ?_))
  refine sV (v_iface Z fun w=>by simp [Instr.makeInterface,run_underlying Tryz.underlying194]) ?_
  refine sN (nx_halt Z ?_)
  exact xt_panE he (sbq)
 ·refine cpe_of (n:=9) Tryz.func100 Z Z (len Z) fun hr w0=>?_
  refine cQ (sM Z (sV (v_not Z) (sK [1,5] Z (cd_false Z ?_))))
  refine cK ?_
  exact xt_rtE Z Z (.inl Z) (sbq)
end Go.Hr
namespace Go.Ck
open Go Go.RowKit
section
variable {P:Program} {e:Env} {h:SH} {ty:TypeId}
theorem v_neq_iface_nil {T t' U:TypeId} {x y:Operand} {v:Value} (hx:e.ev? x=some (.iface U v)) (hy:e.ev? y=some .nilIface) (hT:P.underlying T=some (.interface #[])):Vop P e h (.binOp .neq T x y t') ty (.bool true):=
 ⟨by simp,by simp,fun ρ w d pos after g hρ _=>by
  have hq:∀ k,(Op.equalIn (k+1) T (.iface U v) .nilIface).run P w = .ok false w:=fun k=>by simp [Op.equalIn,run_underlying hT]
  simp [execOp,hρ x _ hx,hρ y _ hy,eqGuard,binOp,Op.equal,Op.maxDepth,hq 9999]⟩
theorem v_neq_nil_nil {T t':TypeId} {x:Operand} (hx:e.ev? x=some .nilIface) (hT:P.underlying T=some (.interface #[])):Vop P e h (.binOp .neq T x (.const .nilIface) t') ty (.bool false):=
 ⟨by simp,by simp,fun ρ w d pos after g hρ _=>by
  have hq:∀ k,(Op.equalIn (k+1) T .nilIface .nilIface).run P w = .ok true w:=fun k=>by simp [Op.equalIn,run_underlying hT]
  simp [execOp,hρ x _ hx,hρ (.const .nilIface) .nilIface rfl,eqGuard,binOp,Op.equal,Op.maxDepth,hq 9999]⟩
theorem v_assert {T U:TypeId} {x:Operand} {v:Value} {fs:Array Field} (hx:e.ev? x=some (.iface U v)) (hU:P.underlying U=some (.struct fs)):Vop P e h (.typeAssert x T U true) ty (.tuple #[v,.bool true]):=
 ⟨by simp,by simp,fun ρ w d pos after g hρ _=>by
  simp [execOp,hρ x _ hx,Instr.typeAssert,run_underlying hU]⟩
end
end Go.Ck
namespace Go.Hr
open Go Go.RowKit Go.Ck Go.Proofs Go.Proofs.YtaohbfnepjjdgaaGreat Fx
set_option maxRecDepth 100000 in
theorem catch_pan {b : Nat} {z er : Int} {hr : SH} {w : World} (hh : Holds w (pt b (cl [.int .i64 z] 29) :: hr)) : CallsDIn (Fw none) 0 Tryz.prog 149 #[.pointer (some ⟨b, 0, none⟩)] (.panicking [wrE 194 er]) w fun e u' w' =>
  e = .returned (.tuple #[])∧u' = .panicking [{ wrE 194 er with recovered:=true }]∧Holds w' (pt b (cl [.int .i64 er] 29)::hr)∧Same w w':=by
 refine callsDIn_of_wpSIn Tryz.func149 Z trivial fun c₀ cs hu=>?_
 apply wpSIn_seq
 apply wpSIn_region
 simp [wpOpsSIn,go_sem,recoverD,hu,Exit.thenS,wrE]
 refine wpSIn_of_wpIn Z ((show Cd ⟨Tryz.prog,none,17,[],w⟩ _ _ [(0,.pointer (some ⟨b,0,none⟩)),(1,.iface 194 (.agg #[.int .i64 er]))] (pt b (cl [.int .i64 z] 29)::hr) from ?_) _ w ⟨by simp,Z,fun i v hi=>?_⟩ hh (Same.refl w))
 ·refine cS ?_
  refine cR (sM Z (sV (v_neq_iface_nil Z Z Tryz.underlying20) (sN (nT (cd_true Z ?_)))))
  refine cQ (sM Z (sV (v_assert Z Tryz.underlying194) (sM Z (sV (v_extract Z Z) (sV (v_extract Z Z) (st_alc al194 fun b2=>?_))))))
  refine st_stoW Z Z sz194 Z Z ?_
  refine sA Z (sN (nT (cS (cQ (sM Z (sV (v_not Z) (sN (nT (cd_false Z ?_)))))))))
  refine cK (xT (cR (sV (vF Z fa194_0 Z) (sV (vY Z ld29) ?_))))
  refine st_sto Z Z sz29 ?_
  refine sN ((show Nx _ _ _ (pt b (cl [.int .i64 er] 29)::_) from ?_))
  intro a w' hk hh' hw'
  refine ⟨hk.defers,_,Z,.tuple #[],by simp [results,Tryz.f149],Z,Z,?_,hw'⟩
  exact Holds.sub (by (repeat (refine Sub.sel slq ?_)); (repeat apply Sub.cons); exact Sub.refl _) hh'
 ·simp only [Env.get?] at hi
  by_cases h0:i=0
  ·subst h0; simp at hi; subst hi; simp
  ·by_cases h1:i=1
   ·subst h1
    rw [show Nat.beq 0 1=false from rfl] at hi
    simp at hi
    subst hi; simp
   ·rw [beq_ne (fun e=>h0 e.symm),beq_ne (fun e=>h1 e.symm)] at hi; cases hi
set_option maxRecDepth 100000 in
theorem catch_idle {b:Nat} {h:SH} {w:World} (hh:Holds w h):CallsDIn (Fw none) 0 Tryz.prog 149 #[.pointer (some ⟨b,0,none⟩)] .returning w fun e u' w' =>
  e = .returned (.tuple #[])∧u' = .returning∧Holds w' h∧Same w w':=by
 refine callsDIn_of_wpSIn Tryz.func149 Z trivial fun c₀ cs hu=>?_
 apply wpSIn_seq
 apply wpSIn_region
 simp [wpOpsSIn,go_sem,recoverD,hu,Exit.thenS]
 refine wpSIn_of_wpIn Z ((show Cd ⟨Tryz.prog,none,17,[],w⟩ _ _ [(1,.nilIface)] h from ?_) _ w ⟨by simp,Z,fun i v hi=>?_⟩ hh (Same.refl w))
 ·refine cS ?_
  refine cR (sM Z (sV (v_neq_nil_nil Z Tryz.underlying20) (sN (nT (cd_false Z ?_)))))
  refine cK ?_
  intro a w' hk hh' hw'
  refine ⟨hk.defers,c₀.mode,by cases c₀; rfl,.tuple #[],by simp [results,Tryz.f149],rfl,hu,hh',hw'⟩
 ·simp only [Env.get?] at hi
  by_cases h1:i=1
  ·subst h1; simp at hi; subst hi; simp
  ·rw [beq_ne (fun e=>h1 e.symm)] at hi; cases hi
def CpeF (P:Program) (T:TypeId) (kf:FuncId) (cp:Array Value) (hf:SH) (er:Int):Prop:=Cpe P T kf cp hf er
set_option maxRecDepth 100000 in
theorem caught_ct {kf : FuncId} {cp : Array Value} {hf : SH} {er : Int} (hE : Ck.Enters Tryz.prog kf) (hb : Cpe Tryz.prog 194 kf cp hf er) : Ct Tryz.prog 98 #[.func (.func kf) #[] cp] hf fun u h' => u = .int .i64 er ∧ h' = hf := fun hr w0 hh0 => by
 refine calls_fw (r:=none) (n:=0) (callsIn_of_wp_defers Tryz.func98 Z trivial ?_)
 refine (show Cd ⟨Tryz.prog,none,6,[],w0⟩ _ _ [(0,.func (.func kf) #[] cp)] (hf++hr) from ?_) _ w0 ⟨by simp,Z,fun i v hi=>?_⟩ hh0 (Same.refl w0)
 ·refine cS ?_
  refine cR (st_alc al29 fun b2=>?_)
  refine sN (nT (cS (cd_regP (sV (v_makeFunc Z Z) (sN ?_)))))
  intro a w hk hh hw
  show Go.wpListIn (Fw none) 0 Tryz.prog _ _ [_] a w
  unfold Go.wpListIn
  rw [if_pos (by simp [Region.wanted])]
  refine ⟨fun _ _=>trivial,?_⟩
  show Oper.uponIn (Fw none) 0 Tryz.prog _ a _ _ ((Oper.semAt none a.eval _).run Tryz.prog w)
  rw [Oper.semAt_none]
  have e3:a.eval (.tmp 3) = .func (.func 149) #[] #[.pointer (some ⟨b2,0,none⟩)]:=hk.ev rfl
  have hrun : (execOp a.eval ⟨none, .defer { callee := .value (.tmp 3), args := #[], argTypes := #[] }, 0, "kind.go:183", #[{ on := 0, ground := Ground.data }], none⟩).run Tryz.prog w = .ok (.defer { target := .fn (.func 149) #[.pointer (some ⟨b2, 0, none⟩)], args := #[] }) w := by
   simp [execOp,resolve,e3,Deferred.ofValue]
  rw [hrun,Oper.uponIn_defer]
  unfold Go.wpListIn
  refine (show Cd ⟨Tryz.prog,none,6,[{ target:=.fn (.func 149) #[.pointer (some ⟨b2,0,none⟩)],args := #[] }],w0⟩ _ _ [(0,.func (.func kf) #[] cp),(2,.pointer (some ⟨b2,0,none⟩))] (pt b2 (cl [.int .i64 0] 29)::(hf++hr)) from ?_) _ w ⟨hk.size,by simp [Act.put,hk.defers],fun i v hi=>?_⟩ hh hw
  ·refine cS ?_
   refine cd_regP (sM Z (sN (nx_pan Z Z hE Z (by simpa using hb) (fun hp0=>?_) (fun hp1=>?_) (.of ((List.perm_append_comm (l₁ := [pt b2 (cl [.int .i64 0] 29)]) (l₂ := hf++hr)).trans (by rw [List.append_assoc]))))))
   ·intro a w hk hh hw
    refine (show Cd ⟨Tryz.prog,none,6,[{ target:=.fn (.func 149) #[.pointer (some ⟨b2,0,none⟩)],args := #[] }],w0⟩ _ _ [(2,.pointer (some ⟨b2,0,none⟩))] (pt b2 (cl [.int .i64 0] 29)::(hf++hr)) from ?_) a w (hk.weaken ⟨Z,trivial⟩) hh hw
    refine cQ (st_sto Z Z sz29 ?_)
    refine sN (nT (cT ?_))
    intro a w hk hh hw
    show LeavesIn (Fw none) 0 Tryz.prog _ _ _ a.defers .returning w
    rw [hk.defers]
    refine leavesIn_cons (f:=149) (args := #[.pointer (some ⟨b2,0,none⟩)]) (by simp) (by simp [Fw,Fence.wide]) (by simp [go_sem]) (fun _ _=>trivial) ?_
    refine (catch_idle hh).mono ?_
    rintro e u' w'' ⟨rfl,rfl,hH,hS⟩
    refine ⟨_,run_resultsV hk (.cell1 Z ld29 (at_here (rd_cl Z)) .nil) hH,_,hf,Z,⟨by rw [hp0]; rfl,Z⟩,hH.2.2,hw.trans hS⟩
   ·intro a w hk hh hw
    show LeavesIn (Fw none) 0 Tryz.prog _ _ _ a.defers (.panicking _) w
    rw [hk.defers]
    refine leavesIn_cons (f:=149) (args := #[.pointer (some ⟨b2,0,none⟩)]) (by simp) (by simp [Fw,Fence.wide]) (by simp [go_sem]) (fun _ _=>trivial) ?_
    refine (catch_pan hh).mono ?_
    rintro e u' w'' ⟨rfl,rfl,hH,hS⟩
    refine ⟨_,run_resultsV hk (.cell1 Z ld29 (at_here (rd_cl Z)) .nil) hH,_,hf,Z,⟨Z,Z⟩,hH.2.2,hw.trans hS⟩
  ·simp only [Env.get?] at hi
   by_cases h0:i=0
   ·subst h0
    simp at hi
    subst hi
    exact hk.get 0 _ Z
   ·rw [beq_ne (fun e=>h0 e.symm)] at hi
    simp only [cond_false] at hi
    by_cases h2:i=2
    ·subst h2
     simp at hi
     subst hi
     exact hk.get 2 _ Z
    ·rw [beq_ne (fun e=>h2 e.symm)] at hi; cases hi
 ·simp only [Env.get?] at hi
  by_cases h1:i=0
  ·subst h1; simp at hi; subst hi; simp
  ·rw [beq_ne (fun e=>h1 e.symm)] at hi; cases hi
end Go.Hr
namespace Go.Ck
open Go Go.RowKit Go.ChangeShapes Go.WideShapes
def oneB (P:Program) (L:List TypeId):Bool:=L.all fun t=>match P.underlying t with
 | some (.int _)=>true
 | some .bool=>true
 | some .string=>true
 | some (.slice _)=>true
 | some (.struct fs)=>(List.range (P.cellsOf t)).all fun k=>fs.toList.any fun f=>L.contains f.type && Nat.ble f.offset k && Nat.blt k (f.offset+P.cellsOf f.type)
 | _=>false
theorem Gd.one {H : Type} {enc : TypeId × Value → H} {P : Program} {W : World} {L : List TypeId} (hL : oneB P L = true) : ∀ (n : Nat) (t : TypeId) (cs : List Value), t ∈ L → Gd enc P W n t cs → ∀ u ∈ cs, u.oneCell' = true
 | 0,t,cs,_,⟨x,h,_⟩=>by simp [DataW.trod] at h
 | n + 1, t, cs, ht, hg => by
  have hc:=List.all_eq_true.1 hL t ht
  obtain ⟨x,h,hz⟩:=id hg
  cases hu:P.underlying t with
  | none=>rw [hu] at hc; cases hc
  | some d =>
   rw [hu] at hc
   cases d with
   | int k=>obtain ⟨q,rfl,_⟩:=DataW.trod_int hu h; intro u hm; simp at hm; subst hm; rfl
   | bool=>obtain ⟨q,rfl,_⟩:=DataW.trod_bool hu h; intro u hm; simp at hm; subst hm; rfl
   | string=>obtain ⟨q,rfl,_⟩:=DataW.trod_string hu h; intro u hm; simp at hm; subst hm; rfl
   | slice e =>
    rcases DataW.trod_slice hu h with ⟨rfl,_⟩ | ⟨a,len,cap,_,_,_,_,rfl,_⟩ <;> (intro u hm; simp at hm; subst hm; rfl)
   | struct fs =>
    obtain ⟨m,hm,hcl,hf⟩:=hg.struct hu
    obtain rfl:n=m:=by omega
    intro u hu2
    obtain ⟨k,hk,rfl⟩:=List.getElem_of_mem hu2
    have h1:=List.all_eq_true.1 hc k (List.mem_range.2 (by omega))
    obtain ⟨f,hfm,h2⟩:=List.any_eq_true.1 h1
    simp only [Bool.and_eq_true] at h2
    obtain ⟨⟨h3,h4⟩,h5⟩:=h2
    have h4:=Nat.le_of_ble_eq_true h4
    have h5:k<f.offset+P.cellsOf f.type:=Nat.lt_of_succ_le (by simpa [Nat.blt] using h5)
    obtain ⟨i,hi⟩:=List.getElem?_of_mem hfm
    refine Gd.one hL n f.type _ (by simpa using h3) (hf i f (by simpa using hi)) _ ?_
    refine List.mem_iff_getElem?.2 ⟨k - f.offset,?_⟩
    rw [List.getElem?_take,if_pos (by omega),List.getElem?_drop,show f.offset+(k - f.offset)=k by omega,List.getElem?_eq_getElem hk]
   | _=>cases hc
/-! ## The same, out of any resource -/
section
variable (P:Program)
def Gr (S:Res):Nat→TypeId→List Value→Prop
 | 0,_,_=>False
 | n+1,t,cs=>match P.underlying t with
  | some (.int _)=>∃ v,cs=[v]∧v.oneCell'=true
  | some .bool=>∃ v,cs=[v]∧v.oneCell'=true
  | some .string=>∃ v,cs=[v]∧v.oneCell'=true
  | some (.slice e)=>∃ (l:List Unit) (v:Value),cs=[v]∧Row S (P.cellsOf e) (fun us _=>Gr S n e us) v l∧l.length * P.bytesOf e≤reachBytes
  | some (.struct fs)=>cs.length=P.cellsOf t∧∀ (i:Nat) (f:Field),fs[i]? = some f→Gr S n f.type ((cs.drop f.offset).take (P.cellsOf f.type))
  | _=>False
def kinB (L:List TypeId):Bool:=L.all fun t=>match P.underlying t with
 | some (.int _)=>true
 | some .bool=>true
 | some .string=>true
 | some (.slice e)=>L.contains e && Nat.blt 0 (P.cellsOf e)
 | some (.struct fs)=>fs.toList.all fun f=>L.contains f.type
 | _=>false
def flatB (L:List TypeId):Bool:=L.all fun t=>match P.underlying t with
 | some (.int _)=>true
 | some .bool=>true
 | some .string=>true
 | some (.struct fs)=>fs.toList.all fun f=>L.contains f.type
 | _=>false
inductive Gall (S:Res) (n:Nat) (cs:List Value):List Field→Prop
 | nil:Gall S n cs []
 | cons {f:Field} {fs:List Field}:Gr P S n f.type ((cs.drop f.offset).take (P.cellsOf f.type))→Gall S n cs fs→Gall S n cs (f::fs)
end
section
variable {P:Program} {S T:Res}
theorem Gr.row {n:Nat} {t e:TypeId} {v:Value} (h:Gr P S n t [v]) (hu:P.underlying t=some (.slice e)):∃ (m:Nat) (l:List Unit),n=m+1∧Row S (P.cellsOf e) (fun us _=>Gr P S m e us) v l∧l.length * P.bytesOf e≤reachBytes:=by
 cases n with
 | zero=>exact h.elim
 | succ n =>
  simp only [Gr,hu] at h
  obtain ⟨l,v',h1,h2,h3⟩:=h
  cases h1
  exact ⟨n,l,Z,h2,h3⟩
theorem Gr.slice {n : Nat} {t e : TypeId} {v : Value} (h : Gr P S n t [v]) (hu : P.underlying t = some (.slice e)) (_ : 0 < P.cellsOf e) :
  [v]=[Value.slice none 0 0]∨∃ a len cap m,n=m+1∧[v]=[Value.slice (some a) len cap]∧len≤cap∧cap≤maxLen∧len * P.bytesOf e≤reachBytes ∧
   ∀ i,i<len→∃ b o us,a=⟨b,o,none⟩∧us.length=P.cellsOf e∧Rds S b (o+i * P.cellsOf e) us∧Gr P S m e us:=by
 obtain ⟨m,l,hm,⟨a,cap,rfl,h1,h2,h3,h4⟩,hb⟩:=h.row hu
 cases a with
 | none =>
  have hc:=h3 rfl
  subst hc
  rw [show l.length=0 by omega]
  exact .inl Z
 | some a =>
  refine .inr ⟨a,l.length,cap,m,hm,Z,h1,h2,hb,fun i hi=>?_⟩
  obtain ⟨b,o,us,e1,e2,e3,e4⟩:=h4 i _ (List.getElem?_eq_getElem hi)
  exact ⟨b,o,us,Option.some.inj e1,e2,e3,e4⟩
theorem Gr.struct {n:Nat} {t:TypeId} {fs:Array Field} {cs:List Value} (h:Gr P S n t cs) (hu:P.underlying t=some (.struct fs)) :
  ∃ m,n=m+1∧cs.length=P.cellsOf t∧∀ (i:Nat) (f:Field),fs[i]? = some f→Gr P S m f.type ((cs.drop f.offset).take (P.cellsOf f.type)):=by
 cases n with
 | zero=>exact h.elim
 | succ n =>
  simp only [Gr,hu] at h
  exact ⟨n,Z,h⟩
theorem Gall.at {n:Nat} {cs:List Value}:∀ {fs:List Field},Gall P S n cs fs→∀ (i:Nat) (f:Field),fs[i]? = some f→Gr P S n f.type ((cs.drop f.offset).take (P.cellsOf f.type))
 | _,.nil,i,f,h=>by simp at h
 | _,.cons h _,0,f,hf=>by simp at hf; subst hf; exact h
 | _,.cons _ ht,i+1,f,hf=>ht.at i f (by simpa using hf)
theorem Gr.mk {n k:Nat} {t:TypeId} {fs:Array Field} {cs:List Value} (hu:P.underlying t=some (.struct fs)) (hk:P.cellsOf t=k) (hl:cs.length=k) (h:Gall P S n cs fs.toList):Gr P S (n+1) t cs:=by
 subst hk
 simp only [Gr,hu]
 exact ⟨hl,fun i f hf=>h.at i f (by simpa using hf)⟩
theorem Gr.mono (hr : ∀ p u, Rd S p u → Rd T p u) : ∀ {n : Nat} {t : TypeId} {cs : List Value}, Gr P S n t cs → Gr P T n t cs
 | 0,_,_,h=>h.elim
 | n + 1, t, cs, h => by
  unfold Gr at h ⊢
  cases hu:P.underlying t with
  | none=>rw [hu] at h; exact h.elim
  | some d =>
   rw [hu] at h
   cases d with
   | int k=>exact h
   | bool=>exact h
   | string=>exact h
   | slice e =>
    obtain ⟨l,v,h1,h2,h3⟩:=h
    exact ⟨l,v,h1,h2.mono hr fun _ _ _ h=>Gr.mono hr h,h3⟩
   | struct fs=>exact ⟨h.1,fun i f hf=>Gr.mono hr (h.2 i f hf)⟩
   | _=>exact h.elim
theorem Gr.up : ∀ {n : Nat} {t : TypeId} {cs : List Value}, Gr P S n t cs → Gr P S (n + 1) t cs
 | 0,_,_,h=>h.elim
 | n + 1, t, cs, h => by
  unfold Gr at h ⊢
  cases hu:P.underlying t with
  | none=>rw [hu] at h; exact h.elim
  | some d =>
   rw [hu] at h
   cases d with
   | int k=>exact h
   | bool=>exact h
   | string=>exact h
   | slice e =>
    obtain ⟨l,v,h1,h2,h3⟩:=h
    exact ⟨l,v,h1,h2.mono (fun _ _ h=>h) fun _ _ _ h=>Gr.up h,h3⟩
   | struct fs=>exact ⟨h.1,fun i f hf=>Gr.up (h.2 i f hf)⟩
   | _=>exact h.elim
theorem Gr.one {L : List TypeId} (hL : oneB P L = true) : ∀ (n : Nat) (t : TypeId) (cs : List Value), t ∈ L → Gr P S n t cs → ∀ u ∈ cs, u.oneCell' = true
 | 0,t,cs,_,h=>h.elim
 | n + 1, t, cs, ht, hg => by
  have hc:=List.all_eq_true.1 hL t ht
  have h:=hg
  unfold Gr at h
  cases hu:P.underlying t with
  | none=>rw [hu] at hc; cases hc
  | some d =>
   rw [hu] at hc h
   cases d with
   | int k=>obtain ⟨q,rfl,hq⟩:=h; intro u hm; simp at hm; subst hm; exact hq
   | bool=>obtain ⟨q,rfl,hq⟩:=h; intro u hm; simp at hm; subst hm; exact hq
   | string=>obtain ⟨q,rfl,hq⟩:=h; intro u hm; simp at hm; subst hm; exact hq
   | slice e =>
    obtain ⟨l,v,rfl,⟨a,cap,rfl,_⟩,_⟩:=h
    intro u hm; simp at hm; subst hm; rfl
   | struct fs =>
    obtain ⟨hcl,hf⟩:=h
    intro u hu2
    obtain ⟨k,hk,rfl⟩:=List.getElem_of_mem hu2
    have h1:=List.all_eq_true.1 hc k (List.mem_range.2 (by omega))
    obtain ⟨f,hfm,h2⟩:=List.any_eq_true.1 h1
    simp only [Bool.and_eq_true] at h2
    obtain ⟨⟨h3,h4⟩,h5⟩:=h2
    have h4:=Nat.le_of_ble_eq_true h4
    have h5:k<f.offset+P.cellsOf f.type:=Nat.lt_of_succ_le (by simpa [Nat.blt] using h5)
    obtain ⟨i,hi⟩:=List.getElem?_of_mem hfm
    refine Gr.one hL n f.type _ (by simpa using h3) (hf i f (by simpa using hi)) _ ?_
    refine List.mem_iff_getElem?.2 ⟨k - f.offset,?_⟩
    rw [List.getElem?_take,if_pos (by omega),List.getElem?_drop,show f.offset+(k - f.offset)=k by omega,List.getElem?_eq_getElem hk]
   | _=>cases hc
theorem Gr.cut {n o k:Nat} {t:TypeId} {us vs:List Value} (h:Gr P S n t vs) (hk:P.cellsOf t=k) (he:(us.drop o).take k=vs):Gr P S n t ((us.drop o).take (P.cellsOf t)):=by
 rw [hk,he]; exact h
end
end Go.Ck
