/-
  Package kind: Check,asked,Right,Bound. Conditions: what is read; small types.
  Package kind: the steps of a way,an iterator. Conditions: what is read; each class of the way has the next one among its parents.
  Package kind: what formals are along a way. Conditions: what is read; each class of the way has the next one among its parents.
  Package kind: what an ancestor's formals are in a class type. Conditions: what is read; a right system.
  Package kind: Instance,Seen. Conditions: what is read; small types.
-/
import Derived.Test.YtaohbfnepjjdgaaGreatM16
import Derived.Test.YtaohbfnepjjdgaaGreatM8
set_option linter.unusedVariables false
set_option linter.unusedSimpArgs false
namespace Go.Hr
open Go Go.RowKit Go.Ck Go.Proofs Go.Proofs.YtaohbfnepjjdgaaGreat Fx
attribute [local irreducible] Go.Ck.Sub St Cd Xt Nx DrL LsW
section
variable {S T N R:Res} {v:Value} {F:List Fm} {A:List Kt} {l:KS} {m:List (Bs×Value)} {mb:Nat} {s t:Kt} {va:Option Addr} {vc:Nat} {ts:List Kt} {rows:List (List Value)}
set_option maxRecDepth 100000 in
theorem KCheck_ct (hv:ksysR S v l) (ht:Tiny l):Ct Tryz.prog 13 #[v] [S] fun u h'=>u = .tuple #[.int .i64 (kcheck l).1,sv (kcheck l).2]∧h'=[S]:=by
 obtain ⟨va,vc,rfl,_⟩:=id hv
 have h1:=kcheck_ct hv ht
 refine ct_of (n:=15) Tryz.func13 Z Z (len Z) fun hr w0=>?_
 refine cQ (sA Z (sA Z (sN (nT (cQ (sM Z (st_cl Z Z en46 Z (h1) ?_)))))))
 rintro u h' ⟨mb,m,rfl,rfl,_⟩
 unfold wV
 simp only [lC,lN]
 refine sM Z (sV (v_extract Z Z) (sV (v_extract Z Z) (sV (v_extract Z Z) (st_alc al85 fun b4=>?_))))
 refine st_stoW Z Z sz85 Z Z ?_
 refine sA Z (sA Z (sK [2,3,5,6] Z (cQ (sM Z (sM Z (sA Z (sA Z (sK [2,3] Z (cT ?_)))))))))
 exact xt_rt Z ⟨Z,Z⟩ sbq
def askedE (l:KS) (c:Nm) (ts:List Kt):Int:=if (kcheck l).1≠0 then (kcheck l).1 else match kfind l c with
 | none=>5
 | some x=>firstE (ts.map (rightK l x.formals))
structure AskOk (l:KS) (c:Nm) (ts:List Kt) (x:KC) (all:List (Nm×Own)):Prop where
 right:KRight l all
 cls:kfind l c=some x
 tys:∀ t∈ts,rightK l x.formals t=0
theorem askedE_zero {c : Nm} : askedE l c ts = 0 ↔ ∃ x all, AskOk l c ts x all := by
 unfold askedE
 constructor
 ·intro h
  split at h
  ·rename_i h1; exact absurd h h1
  ·rename_i h1
   obtain ⟨all,hK⟩:=kcheck_zero.1 (Classical.not_not.1 h1)
   cases hc:kfind l c with
   | none=>rw [hc] at h; exact absurd (show (5:Int)=0 from h) (by decide)
   | some x =>
    rw [hc] at h
    exact ⟨x,all,hK,hc,fun t ht=>firstE_zero.1 h _ (List.mem_map_of_mem ht)⟩
 ·rintro ⟨x,all,hK,hc,ht⟩
  rw [if_neg (by simpa using kcheck_zero.2 ⟨all,hK⟩),hc]
  exact firstE_zero.2 fun e he=>by obtain ⟨t,h1,rfl⟩:=List.mem_map.1 he; exact ht t h1
set_option maxHeartbeats 4000000 in
set_option maxRecDepth 100000 in
theorem kasked_ct (hv : ksysR S (.slice va l.length vc) l) (ht : Tiny l) (c : Nm) {tv : Value} (hts : Tys S tv ts) (hdt : ∀ t ∈ ts, t.depth ≤ 1000000) :
  Ct Tryz.prog 54 #[.slice va l.length vc,sv c,tv] [S] fun u h'=>∃ mb m,u = .tuple #[wV mb va l.length vc,.int .i64 (askedE l c ts)]∧h'=[mps mb m,S]∧(askedE l c ts=0→KMap S m l):=by
 have hml:maxLen=9223372036854775807:=rfl
 obtain ⟨ta,tc,rfl,htlc,htcm,_⟩:=id hts.form
 have h1:=kcheck_ct hv ht
 refine ct_of (n:=52) Tryz.func54 Z Z (len Z) fun hr w0=>?_
 refine cQ (st_alc al85 fun b6=>?_)
 refine sA Z (sN (nT (cQ (sM Z (st_cl Z Z en46 Z (h1) ?_)))))
 rintro u h' ⟨mb,m,rfl,rfl,hMn⟩
 unfold wV
 simp only [lC,lN]
 refine sM Z (sV (v_extract Z Z) (sV (v_extract Z Z) (sV (v_extract Z Z) (st_alc al85 fun b8=>?_))))
 refine st_stoW Z Z sz85 Z Z ?_
 refine sA Z (sA Z (sK [1,2,6,7,8,9] Z (cS (cQ (sM Z (sV (v_neq Z Z) (sK [1,2,6,7,8,9,23] Z (cC Z (fun hc=>?_) (fun hc=>?_)))))))))
 ·have hc:(kcheck l).1≠0:=by simpa using hc
  have hk:askedE l c ts=(kcheck l).1:=if_pos hc
  rw [hk]
  refine cQ (sV (v_ldn Z ld85 Z rds_pt) ?_)
  refine sM Z (st_stoW Z Z sz85 Z Z ?_)
  refine sA Z (sK [6,7] Z (cT (xR ?_)))
  exact xt_retV (.cellN Z ld85 Z slq (.tmp Z .nil)) ⟨mb,m,Z,Z,fun h=>absurd h hc⟩ sbr
 ·have hc:(kcheck l).1=0:=by simpa using hc
  obtain ⟨all,hK⟩:=kcheck_zero.1 hc
  have hM:=hMn hK.right.uniq
  obtain ⟨d0,dd,fv,pv,c2,fs,ii,hlk,hone,_⟩:=map_cls2 hM c
  have hk:askedE l c ts=match kfind l c with
   | none=>5
   | some x=>firstE (ts.map (rightK l x.formals)):=if_neg (by simpa using hc)
  rw [hk]
  refine cK (xT (cS (cQ (sV (vF Z fa85_0 Z) (sV (vY Z ld83) ?_)))))
  refine sM Z (sV (v_is hlk (v_slookup_ok Z Z mp83 inf54 slq)) ?_)
  refine sM Z (sV (v_extract Z Z) (sV (v_extract Z Z) (st_alc al54 fun b11=>?_)))
  refine st_stoW Z Z sz54 Z hone ?_
  refine sA Z (sK [1,2,6,7,8,12] Z (cQ (sM Z (sV (v_not Z) (sK [1,2,6,7,8,34] Z ?_)))))
  cases hx:kfind l c with
  | none =>
   simp only [Option.isSome_none]
   refine cd_true Z ?_
   refine cQ (sV (v_ldn Z ld85 Z rds_pt) ?_)
   refine st_stoW Z Z sz85 Z Z ?_
   refine sA Z (sK [6,7] Z (cT (xR ?_)))
   exact xt_retV (.cellN Z ld85 Z slq (.tmp Z .nil)) ⟨mb,m,Z,Z,fun h=>absurd (show (5:Int)=0 from h) (by decide)⟩ sbr
  | some x =>
   simp only [Option.isSome_some]
   refine cd_false Z ?_
   refine cK (xT (cS (cQ (sM Z (sV (v_len Z Tryz.underlying23) (sM Z (sK [1,6,7,8,36,37,38] Z (cB (cd_lq (σ := Nat) (fun i=>[(1,sv c),(6,.pointer (some ⟨b6,0,none⟩)),(8,.pointer (some ⟨b8,0,none⟩)),(36,.slice ta ts.length tc),(37,.int .i64 ts.length),(38,.int .i64 (i:Nat))]) (fun _=>pt b6 (cl [.map none,.slice none 0 0] 85)::pt b8 (cl [.map (some mb),.slice va l.length vc] 85)::mps mb m::S::hr) (fun i=>i≤ts.length∧firstE (ts.map (rightK l x.formals))=firstE ((ts.drop i).map (rightK l x.formals))) (fun i=>ts.length - i) 0 ⟨Nat.zero_le _,Z⟩ ?_)))))))))
   rintro i ⟨hi,hal⟩
   refine cQ (sV (v_lss Z Z) (sN (nT (cS (cC Z (fun hd=>?_) (fun hd=>?_))))))
   ·have hlt:i<ts.length:=by simpa using hd
    have hmt:=List.getElem_mem hlt
    obtain ⟨b,o,cap2,us,e1,hus,hrd,hta⟩:=hts.at (List.getElem?_eq_getElem hlt)
    cases e1
    rw [List.drop_eq_getElem_cons hlt,List.map_cons,firstE] at hal
    generalize ts[i]=t at hmt hta hal
    have hones:=hta.ones
    obtain ⟨y,rfl,hy⟩:=hta.out
    have hri:=right_kct (mb:=mb) hK.head hM hv hx hy (hdt t hmt)
    obtain ⟨ya,yc,rfl,_⟩:=id hy.form
    unfold wV tyC at hri
    unfold tyC at hrd hones
    refine cK (xT (cS (cB (cQ (sV (vI (k:=i) Z Z sl23 Z hlt Z) (sV (v_ldn Z ld25 Z hrd) ?_))))))
    refine st_alc al25 fun b14=>?_
    refine st_stoW Z Z sz25 Z hones ?_
    refine sK [1,6,8,14,36,37,38] Z (cQ (sV (v_ldn Z ld85 Z rds_pt) ?_))
    refine sM Z (sV (v_ldn Z ld25 Z rds_pt) ?_)
    refine st_cl Z Z en58 Z (hri) ?_
    rintro u h' ⟨rfl,rfl⟩
    simp only [lC,lN]
    refine sA Z (sK [1,6,8,15,36,37,38] Z (cQ (sM Z (sV (v_neq Z Z) (sK [1,6,8,15,36,37,38,47] Z (cC Z (fun he=>?_) (fun he=>?_)))))))
    ·have he:rightK l x.formals t≠0:=by simpa using he
     rw [hal,if_pos he]
     refine cQ (sV (v_ldn Z ld85 Z rds_pt) ?_)
     refine sM Z (st_stoW Z Z sz85 Z Z ?_)
     refine sA Z (sK [6,7] Z (cT (xW (xR (xR (xW (xR ?_)))))))
     exact xt_retV (.cellN Z ld85 Z slq (.tmp Z .nil)) ⟨mb,m,Z,Z,fun _=>hM⟩ sbr
    ·have he:rightK l x.formals t=0:=by simpa using he
     rw [if_neg (by simpa using he)] at hal
     refine cK (xB (xT (cR (sV (v_add Z Z (by unfold I64 at *; omega)) (sM Z (sN (nK [1,6,8,36,37,38] Z (nx_xt ?_))))))))
     refine xt_aq (i+1) ⟨hlt,hal⟩ (Nat.sub_lt_sub_left hlt (Nat.lt_succ_self i))
   ·have hil:i=ts.length:=by
     have:¬ i<ts.length:=by simpa using hd
     omega
    rw [hal,hil,List.drop_length]
    refine cd_exit (xE (xE (xY (xT (cQ (sV (v_ldn Z ld85 Z rds_pt) ?_))))))
    refine st_stoW Z Z sz85 Z Z ?_
    refine sA Z (sK [6,7] Z (cT ?_))
    exact xt_retV (.cellN Z ld85 Z slq (.tmp Z .nil)) ⟨mb,m,Z,Z,fun _=>hM⟩ sbr
theorem tys_one {b:Nat} {us:List Value} (hu:Ty S us t) (hok:∃ f,(VR (.slice (some ⟨b,0,none⟩) 1 1) 25 5 [us]).ok f):Tys (Res.star [VR (.slice (some ⟨b,0,none⟩) 1 1) 25 5 [us],S]) (.slice (some ⟨b,0,none⟩) 1 1) [t]:=
 ⟨row_vr hok rfl (rd_in .here) fun i us' x h1 h2=>by
  match i,h1,h2 with
  | 0,h1,h2=>cases h1; cases h2; exact hu.mono (rd_in (.there .here)),by show 1 * 56≤reachBytes; decide⟩
set_option maxRecDepth 100000 in
theorem KRight_ct (hv:ksysR S v l) (ht:Tiny l) (c:Nm) {us:List Value} (hu:Ty S us t) (hd:t.depth≤1000000):Ct Tryz.prog 17 #[v,sv c,.agg us.toArray] [S] fun u h'=>u = .int .i64 (askedE l c [t])∧h'=[S]:=by
 obtain ⟨va,vc,rfl,_⟩:=id hv
 have h1:=fun b hok=>kasked_ct (hv.mono (rd_in (.there .here))) ht c (tys_one (b:=b) hu hok) (fun s hs=>by simp at hs; subst hs; exact hd)
 obtain ⟨y,rfl,hy⟩:=hu.out
 obtain ⟨ya,yc,rfl,_⟩:=id hy.form
 refine ct_of (n:=18) Tryz.func17 Z Z (len Z) fun hr w0=>?_
 refine cQ (st_bx Z Z fun b5=>?_)
 refine sA Z (sK [0,1,5,6] Z (cQ (sM Z (sM Z (sV (v_ldn Z ld25 Z rds_pt) ?_)))))
 refine st_buildSlice (cells:=tyC t (.slice ya t.args.length yc)) Z Tryz.underlying23 inf25 Z Z (by kernel_rfl) (ltn Z) fun b13=>?_
 refine st_pv (pv_of (b:=b13) (n:=1) (sz:=5) (E:=25) [tyC t (.slice ya t.args.length yc)] Z (by simp [tyC]) Z (by decide)) ?_
 simp only [lC,lN]
 refine st_ok (r:=VR (.slice (some ⟨b13,0,none⟩) 1 1) 25 5 [tyC t (.slice ya t.args.length yc)]) slq fun hok=>?_
 refine st_pv (pv_pack (L:=[VR (.slice (some ⟨b13,0,none⟩) 1 1) 25 5 [tyC t (.slice ya t.args.length yc)],S])) ?_
 simp only [lC,lN]
 refine st_cl Z Z en54 Z (h1 b13 hok) ?_
 rintro u h' ⟨mb,m,rfl,rfl,_⟩
 unfold wV
 simp only [lC,lN]
 refine st_pv (pv_unpack (L:=[VR (.slice (some ⟨b13,0,none⟩) 1 1) 25 5 [tyC t (.slice ya t.args.length yc)],S])) ?_
 simp only [lC,lN]
 refine sM Z (sV (v_extract Z Z) (sV (v_extract Z Z) (st_alc al85 fun b7=>?_)))
 refine st_stoW Z Z sz85 Z Z ?_
 refine sA Z (sK [6,8] Z (cQ (sM Z (sA Z (sK [6] Z (cT ?_))))))
 exact xt_rt Z ⟨Z,Z⟩ sbq
def zeroT:Kt:=.mk 0 [] [] false false
def boundK (l:KS) (c n:Nm):Kt×Int:=if askedE l c []≠0 then (zeroT,askedE l c []) else match fmAt (fmsOf l c) n with
 | none=>(zeroT,5)
 | some f=>(.mk 3 f.bound [] false false,0)
end
end Go.Hr
namespace Go.Hr
open Go Go.RowKit Go.Ck Go.Proofs Go.Proofs.YtaohbfnepjjdgaaGreat Fx
attribute [local irreducible] Go.Ck.Sub St Cd Xt Nx DrL LsW
section
variable {S T N R:Res} {v:Value} {F:List Fm} {A:List Kt} {l:KS} {m:List (Bs×Value)} {mb:Nat} {s t:Kt} {va:Option Addr} {vc:Nat} {ts:List Kt} {rows:List (List Value)} {way:List Nm}
set_option maxRecDepth 100000 in
theorem tell170_ct {n:Nm} {x:Value} {a b c d:Value} {b1 b4 j:Nat} {wa:Option Addr} {wc:Nat} (hw:nmsR N (.slice wa way.length wc) way) (hj:j<way.length):Reads Tryz.prog 170 #[.agg #[sv n,x,a,b,c,d],.pointer (some ⟨b1,0,none⟩),.pointer (some ⟨b4,0,none⟩)] [pt b1 (cl [.slice wa way.length wc] 50),pt b4 (cl [.int .i64 (j:Nat)] 3),N] (.bool (n == way[j])):=by
 obtain ⟨b,o,cap2,u,e1,hrd,hX⟩:=Row.at1 hw (List.getElem?_eq_getElem hj)
 cases e1
 have hX:[u]=[sv way[j]]:=hX
 cases hX
 refine ct_of (n:=12) Tryz.func170 Z Z (len Z) fun hr w0=>?_
 refine cQ (st_bx Z Z fun b3=>?_)
 refine sA Z (sK [1,2,3,4] Z (cS (cd_drawh (ork [(0,2),(1,1),(2,1),(3,1),(4,2),(5,1),(6,1),(7,2)] .nil) (fun _=>true) mixed (by kernel_rfl) ?_)))
 refine dV Z (vF Z fa79_0 Z) (dr_v Z (vY Z ld9) ?_)
 refine dr_v Z (vY Z ld50) ?_
 refine dr_v Z (vY Z ld3) ?_
 refine dV Z (vI (k:=j) Z Z sl50 Z hj Z) (dr_v Z (vY Z ld9) ?_)
 refine dr_v Z (v_seql Z Z) (dV Z (vA Z) (dr_nil (nK [4] Z (nT (cT ?_)))))
 exact xt_rt Z ⟨Z,Z⟩ sbq
set_option maxRecDepth 100000 in
theorem IdxP_ct {ps : List Kp} {A B C : Res} {kf : FuncId} {cp : Array Value} {g : Nm → Bool} (hv : Row S 6 (kparC S) v ps) (hE : Ck.Enters Tryz.prog kf) (hf : ∀ (n : Nm) (x a b c d : Value), Reads Tryz.prog kf (#[] ++ ([.agg #[sv n, x, a, b, c, d]] : List Value).toArray ++ cp) [A, B, C] (.bool (g n))) : Reads Tryz.prog 169 #[v, .func (.func kf) #[] cp] [S, A, B, C] (.int .i64 (ixD (ps.findIdx? fun p => g p.name))) := by
 have hml:maxLen=9223372036854775807:=rfl
 obtain ⟨a,cap,rfl,hlc,hcm,_⟩:=id hv
 refine ct_of (n:=19) Tryz.func169 Z Z (len Z) fun hr w0=>?_
 refine cQ (sA Z (sN (nT (cS (cQ (sM Z (sV (v_len Z Tryz.underlying49) (sM Z (sK [0,1,4,7,8] Z (cB (cd_lq (σ := Nat) (fun i=>[(0,.slice a ps.length cap),(1,.func (.func kf) #[] cp),(7,.int .i64 ps.length),(8,.int .i64 (i:Nat))]) (fun _=>S::A::B::C::hr) (fun i=>i≤ps.length∧∀ j (hj:j<ps.length),j<i→g (ps[j]).name=false) (fun i=>ps.length - i) 0 ⟨Nat.zero_le _,fun j _ hj=>absurd hj (Nat.not_lt_zero _)⟩ ?_)))))))))))
 rintro i ⟨hi,hal⟩
 refine cQ (sV (v_lss Z Z) (sN (nT (cS (cC Z (fun hd=>?_) (fun hd=>?_))))))
 ·have hlt:i<ps.length:=by simpa using hd
  obtain ⟨b,o,cap2,us,e1,hus,hrd,x,pa,pb,pc,pd,rfl,hone,_⟩:=Row.at hv (List.getElem?_eq_getElem hlt)
  cases e1
  have hfx:=hf (ps[i]).name x pa pb pc pd
  refine cK (xT (cS (cB (cQ (sM Z (sA Z (sK [0,1,5,7,8] Z (cQ (sM Z (sM Z (sM Z ?_)))))))))))
  refine sV (vI (k:=i) Z Z sl49 Z hlt Z) (sV (v_ldn Z ld79 Z hrd) ?_)
  refine st_clr Z Z hE Z (hfx) ?_
  refine sK [0,1,5,7,8,16] Z (cC Z (fun he=>?_) (fun he=>?_))
  ·have he:g (ps[i]).name=true:=he
   rw [show (ps.findIdx? fun p=>g p.name)=some i by
    rw [List.findIdx?_eq_some_iff_getElem]
    exact ⟨hlt,he,fun j hj=>by rw [hal j (by omega) hj]; decide⟩]
   refine cQ (sM Z (sA Z (sK [4] Z (cT (xW (xR (xR (xW (xR ?_)))))))))
   exact xt_rt Z ⟨Z,Z⟩ sbq
  ·have he:g (ps[i]).name=false:=he
   refine cK (xB (xT (cR (sV (v_add Z Z (by unfold I64 at *; omega)) (sM Z (sN (nK [0,1,7,8] Z (nx_xt (xt_aq (i+1) ⟨hlt,fun j hj hj2=>?_⟩ (Nat.sub_lt_sub_left hlt (Nat.lt_succ_self i)))))))))))
   by_cases hji:j=i
   ·subst hji; exact he
   ·exact hal j hj (by omega)
 ·have hil:i=ps.length:=by
   have:¬ i<ps.length:=by simpa using hd
   omega
  rw [show (ps.findIdx? fun p=>g p.name)=none by
   rw [List.findIdx?_eq_none_iff]
   intro f hfm
   obtain ⟨j,hj,rfl⟩:=List.getElem_of_mem hfm
   exact hal j hj (by omega)]
  refine cd_exit (xE (xE (xY (xT (cQ (sA Z (sK [4] Z (cT ?_))))))))
  exact xt_rt Z ⟨Z,Z⟩ sbq
set_option maxRecDepth 100000 in
theorem steps_ct {wa:Option Addr} {wn wc:Nat}:Ct Tryz.prog 148 #[.map (some mb),.slice wa wn wc] [] fun u h'=>∃ b1 b2,u = .func (.func 168) #[] #[.pointer (some ⟨b1,0,none⟩),.pointer (some ⟨b2,0,none⟩)]∧h'=[pt b1 (cl [.slice wa wn wc] 50),pt b2 (cl [.map (some mb)] 83)]:=by
 refine ct_of (n:=6) Tryz.func148 Z Z (len Z) fun hr w0=>?_
 refine cQ (st_bx Z Z fun b2=>?_)
 refine st_bx Z Z fun b3=>?_
 refine sA Z (sK [2,3,4] Z (cQ (sV (v_makeFunc Z Z) (sA Z (sK [4] Z (cT ?_))))))
 exact xt_rt Z ⟨b3,b2,Z,Z⟩ sbq
def Chain (l:KS) (way:List Nm):Prop:=∀ i (h:i+1<way.length),∃ x p,kfind l way[i]=some x∧(x.parents.find? fun q=>q.name == way[i+1])=some p
theorem find_idx {ps:List Kp} {p:Kp} {g:Kp→Bool} (h:ps.find? g=some p):∃ k,ps.findIdx? g=some k∧ps[k]? = some p:=by
 obtain ⟨h1,i,hi,h2,h3⟩:=List.find?_eq_some_iff_getElem.1 h
 exact ⟨i,List.findIdx?_eq_some_iff_getElem.2 ⟨hi,by rw [h2]; exact h1,fun j hj=>by simpa using h3 j hj⟩,by rw [List.getElem?_eq_getElem hi,h2]⟩
set_option maxHeartbeats 4000000 in
set_option maxRecDepth 100000 in
theorem itk_ct {σ : Type} {b1 b2 yl : Nat} (Inv : σ → SH) (Φ : Nat → σ → Prop) (s0 : σ) (h0 : Φ 0 s0) (hM : KMap S m l) {wa : Option Addr} {wc : Nat} (hw : nmsR N (.slice wa way.length wc) way) (hch : Chain l way)
  (hy:∀ (i:Nat) (s : σ) (h:i+1<way.length) (x:KC) (p:Kp) (us ps:List Value),kfind l way[i]=some x→(x.parents.find? fun q=>q.name == way[i+1])=some p→kclsC S us x→kparC S ps p → Φ i s →
   Yc Tryz.prog yl #[.agg us.toArray,.agg ps.toArray] (S::mps mb m::N::Inv s) fun u h'=>u = .bool true∧∃ s',Φ (i+1) s'∧h'=S::mps mb m::N::Inv s') :
  Ct Tryz.prog 168 #[.func (.yield yl) #[] #[],.pointer (some ⟨b1,0,none⟩),.pointer (some ⟨b2,0,none⟩)] (pt b1 (cl [.slice wa way.length wc] 50)::pt b2 (cl [.map (some mb)] 83)::S::mps mb m::N::Inv s0) fun u h'=>u = .tuple #[] ∧
   ∃ s,Φ (way.length - 1) s∧h'=pt b1 (cl [.slice wa way.length wc] 50)::pt b2 (cl [.map (some mb)] 83)::S::mps mb m::N::Inv s:=by
 have hml:maxLen=9223372036854775807:=rfl
 obtain ⟨_,_,hwe,hlc,hcm,_⟩:=id hw
 cases hwe
 refine ct_of (n:=38) Tryz.func168 Z Z (len Z) fun hr w0=>?_
 refine cQ (st_alc al3 fun b4=>?_)
 refine st_sto Z Z sz3 ?_
 refine sN (nT (cB (cd_lq (σ := Nat×Nat × σ) (fun q=>[(0,.func (.yield yl) #[] #[]),(1,.pointer (some ⟨b1,0,none⟩)),(2,.pointer (some ⟨b2,0,none⟩)),(4,.pointer (some ⟨q.1,0,none⟩))]) (fun q=>pt q.1 (cl [.int .i64 ((q.2.1+1:Nat):Int)] 3)::pt b1 (cl [.slice wa way.length wc] 50)::pt b2 (cl [.map (some mb)] 83)::S::mps mb m::N::(Inv q.2.2++hr)) (fun q=>q.2.1≤way.length - 1 ∧ Φ q.2.1 q.2.2) (fun q=>way.length - q.2.1) (b4,0,s0) ⟨Nat.zero_le _,h0⟩ ?_)))
 rintro ⟨b4,i,s⟩ ⟨hi,hΦ⟩
 simp only at hi hΦ
 dsimp only
 refine cS (cQ (sV (vY Z ld3) ?_))
 refine sV (vY Z ld50) ?_
 refine sV (v_len Z Tryz.underlying50) (sV (v_lss Z Z) (sK [0,1,2,4,10] Z (cC Z (fun hd=>?_) (fun hd=>?_))))
 ·have hlt:i+1<way.length:=by have:=of_decide_eq_true hd; omega
  have hlt0:i<way.length:=by omega
  obtain ⟨x,p,hx,hp⟩:=hch i hlt
  obtain ⟨us,hlk,hcx⟩:=(hM way[i]).2 x hx
  have hcx2:=hcx
  obtain ⟨d,f,pv,c2,fa,fc,i2,rfl,hone,hrow,hrowp⟩:=hcx
  obtain ⟨k,hk1,hk2⟩:=find_idx hp
  obtain ⟨bw,ow,capw,u,e1,hrw,hX⟩:=Row.at1 hw (List.getElem?_eq_getElem hlt0)
  cases e1
  have hX:[u]=[sv way[i]]:=hX
  cases hX
  have htl:=fun n x a b c d=>tell170_ct (n:=n) (x:=x) (a:=a) (b:=b) (c:=c) (d:=d) (b1:=b1) (b4:=b4) hw hlt
  obtain ⟨bp,op,pcap,ps,e2,hps,hrdp,hkp⟩:=Row.at hrowp hk2
  subst e2
  have hkl:=(List.getElem?_eq_some_iff.1 hk2).1
  refine cK (xT (cS (cB (cS (cd_drawh (ork [(0,1),(1,1),(2,1),(3,2),(4,2),(5,1),(6,1),(7,0),(8,0)] .nil) (fun i => !(Nat.beq i 8)) mixed (by kernel_rfl) ?_)))))
  refine dr_v Z (vY Z ld83) ?_
  refine dr_v Z (vY Z ld50) ?_
  refine dr_v Z (vY Z ld3) ?_
  refine dV Z (v_sub Z Z (by unfold I64 at *; omega)) (dV Z (vI (k:=i) Z Z sl50 (by omega) hlt0 Z) (dr_v Z (vY Z ld9) ?_))
  refine dr_v Z (v_is (show (slook m way[i]).getD cls0 = .agg ([sv x.name,d,f,.slice (some ⟨bp,op,none⟩) x.parents.length pcap,c2,.slice fa x.feats fc,i2]:List Value).toArray by rw [hlk]; rfl) (v_slookup Z Z mp83 inf54 slq)) ?_
  refine dr_eff Z (st_alc al54 fun b5=>dr_nx ?_)
  refine dr_eff Z (st_stoW Z Z sz54 Z hone (dr_nx ?_))
  refine dr_nil (nK [0,1,2,4,5] Z (nT (cQ (sV (vF Z fa54_3 Z) (sV (vY Z ld49) ?_)))))
  refine sV (v_makeFunc Z Z) (st_clr Z Z en169 Z (IdxP_ct (g:=fun n=>n == way[i+1]) hrowp en170 (fun n x a b c d=>htl n x a b c d)) ?_)
  rw [show (x.parents.findIdx? fun p=>p.name == way[i+1])=some k from hk1]
  refine sA Z (sK [0,1,2,4,5,6] Z (cS (cd_drawh (ork [(0,2),(1,2),(2,2),(3,2),(4,1),(5,2),(6,1),(7,2),(8,2),(9,1),(10,0),(11,2),(12,2)] .nil) (fun i => !(Nat.beq i 10)) mixed (by kernel_rfl) ?_)))
  refine dV Z (vM Z) (dV Z (v_lss Z Z) (dV Z (vM Z) ?_))
  rw [show decide (ixD (some k)<0)=false from decide_eq_false (by show ¬ ((k:Int)<0); omega)]
  refine dp_vg Z Z Z (vM Z) (dr_vg Z Z Z (v_ldn Z ld54 Z rds_pt) ?_)
  refine dp_vg Z Z Z (vF Z fa54_3 Z) (dr_vg Z Z Z (vY Z ld49) ?_)
  refine dp_vg Z Z Z (vM Z) (dp_vg Z Z Z (vI (k:=k) Z Z sl49 Z hkl Z) (dr_vg Z Z Z (v_ldn Z ld79 hps hrdp) ?_))
  refine dr_effg Z Z Z (st_yield (gd:=26) (.inr ⟨_,_,Z,Z,Z⟩) Z Z (hy i s hlt x p _ ps hx hp hcx2 hkp hΦ) (Pk.of (hr:=pt b5 (cl [sv x.name,d,f,.slice (some ⟨bp,op,none⟩) x.parents.length pcap,c2,.slice fa x.feats fc,i2] 54)::pt b4 (cl [.int .i64 ((i+1:Nat):Int)] 3)::pt b1 (cl [.slice (some ⟨bw,ow,none⟩) way.length wc] 50)::pt b2 (cl [.map (some mb)] 83)::hr) (by exact List.perm_append_comm_assoc [pt b5 (cl [sv x.name,d,f,.slice (some ⟨bp,op,none⟩) x.parents.length pcap,c2,.slice fa x.feats fc,i2] 54),pt b4 (cl [.int .i64 ((i+1:Nat):Int)] 3),pt b1 (cl [.slice (some ⟨bw,ow,none⟩) way.length wc] 50),pt b2 (cl [.map (some mb)] 83)] (S::mps mb m::N::Inv s) hr)) (ltn Z) ?_)
  rintro u h' ⟨rfl,s',hs',rfl⟩
  refine dr_nx ?_
  refine dp_vg Z Z Z (v_not Z) (dV Z (vP Z Z) (dr_nil (nK [0,1,2,4,36] Z (nT (cd_vw (h':=pt b5 (cl [sv x.name,d,f,.slice (some ⟨bp,op,none⟩) x.parents.length pcap,c2,.slice fa x.feats fc,i2] 54)::pt b4 (cl [.int .i64 ((i+1:Nat):Int)] 3)::pt b1 (cl [.slice (some ⟨bw,ow,none⟩) way.length wc] 50)::pt b2 (cl [.map (some mb)] 83)::S::mps mb m::N::(Inv s'++hr)) (fun _ hh=>Holds.perm (by exact List.perm_append_comm_assoc (S::mps mb m::N::Inv s') [pt b5 (cl [sv x.name,d,f,.slice (some ⟨bp,op,none⟩) x.parents.length pcap,c2,.slice fa x.feats fc,i2] 54),pt b4 (cl [.int .i64 ((i+1:Nat):Int)] 3),pt b1 (cl [.slice (some ⟨bw,ow,none⟩) way.length wc] 50),pt b2 (cl [.map (some mb)] 83)] hr) hh) ?_)))))
  refine cd_false Z ?_
  refine cK (xB (xT (cS (cQ (sV (vY Z ld3) ?_)))))
  refine sK [0,1,2,4,37] Z (cR (st_alc al3 fun b4=>?_))
  refine st_sto Z Z sz3 ?_
  refine sK [0,1,2,4] Z (cR (sV (vY Z ld3) ?_))
  refine sV (v_add Z Z (by unfold I64 at *; omega)) (st_sto Z Z sz3 ?_)
  refine sN (nK [0,1,2,4] Z (nx_xt ?_))
  rw [show ((i+1:Nat):Int)+1=((i+1+1:Nat):Int) by omega]
  refine xt_aq (b4,i+1,s') ⟨by show i+1≤way.length - 1; omega,hs'⟩ (by show way.length - (i+1)<way.length - i; omega)
 ·have hil:i=way.length - 1:=by have:=of_decide_eq_false hd; omega
  subst hil
  refine cd_exit (xE (xE (xY ?_)))
  exact xt_en Z ⟨Z,s,hΦ,Z⟩ sbq
end
end Go.Hr
namespace Go.Hr
open Go Go.RowKit Go.Ck Go.Proofs Go.Proofs.YtaohbfnepjjdgaaGreat Fx
attribute [local irreducible] Go.Ck.Sub St Cd Xt Nx DrL LsW
section
variable {S T N R:Res} {v:Value} {F:List Fm} {A:List Kt} {l:KS} {m:List (Bs×Value)} {mb:Nat} {s t:Kt} {va:Option Addr} {vc:Nat} {ts:List Kt} {rows:List (List Value)} {way:List Nm}
theorem along_step {i:Nat} (h:i+1<way.length) {x:KC} {p:Kp} (hx:kfind l way[i]=some x) (hp:(x.parents.find? fun q=>q.name == way[i+1])=some p):along l (way.drop i) A=along l (way.drop (i+1)) (p.args.map (Kt.subst x.formals A)):=by
 rw [List.drop_eq_getElem_cons (by omega),List.drop_eq_getElem_cons h,along]
 rw [show parArgs l way[i] way[i+1]=p.args by unfold parArgs; rw [hx,Option.bind_some,hp]; rfl,fmsOf_some hx]
theorem along_last:along l (way.drop (way.length - 1)) A=A:=by
 cases hw:way.drop (way.length - 1) with
 | nil=>exact along_nil
 | cons c t =>
  have hl:(way.drop (way.length - 1)).length≤1:=by rw [List.length_drop]; omega
  rw [hw] at hl
  have:t=[]:=List.eq_nil_of_length_eq_zero (by simp at hl; simp [hl])
  subst this
  exact along_one
set_option maxHeartbeats 8000000 in
set_option maxRecDepth 100000 in
theorem along_ct (hM : KMap S m l) {wa : Option Addr} {wc : Nat} (hw : nmsR N (.slice wa way.length wc) way) (hch : Chain l way) {av : Value} (hA : Tys S av A) :
  CtN Tryz.prog 97 #[.map (some mb),.slice wa way.length wc,av] [S,mps mb m,N] fun u T=>∃ a cap,u = .slice a (along l way A).length cap∧Tys (Res.star [T,S]) u (along l way A):=by
 have hml:maxLen=9223372036854775807:=rfl
 have hrb:reachBytes=140737488351232:=rfl
 obtain ⟨aa,ac,rfl,_⟩:=id hA.form
 refine ct_ofM (n:=35) Tryz.func97 Z Z (len Z) fun hr w0=>?_
 refine cQ (st_bx Z Z fun b5=>?_)
 refine sA Z (sK [0,1,5,6] Z (cS (cQ (sM Z (sM Z (st_cl Z Z en148 Z (steps_ct) ?_))))))
 rintro u h' ⟨c1,c2,rfl,rfl⟩
 refine sK [5,6,14] Z (cB ?_)
 simp only [lC,lN]
 refine cd_vw (vw_unstar (L:=[])) (cd_range' Z en168 fun yl db rec hst hpe hps hasg hbo hkn2=>?_)
 refine ⟨_,Ct.perm (itk_ct (S:=S) (N:=N) (mb:=mb) (m:=m) (σ := Value×Res) (b1:=c1) (b2:=c2) (yl:=yl) (fun q=>pt yl (.loop rec)::pt db (.deferred (some []))::pt b5 (cl [q.1] 23)::q.2::hr)
  (fun i q=>∃ B,Tys (Res.star [q.2,S]) q.1 B∧along l way A=along l (way.drop i) B) (.slice aa A.length ac,Res.star []) ⟨A,hA.mono (rd_in (.there .here)),rfl⟩ hM hw hch ?_) ?_,?_⟩
 ·rintro i ⟨av, T⟩ hlt x p us ps hx hp hcx hkp ⟨B, hB, hal⟩
  simp only at hB
  rw [along_step hlt hx hp] at hal
  obtain ⟨d,f,pv,c2',fa,fc,i2,rfl,hone,hrow,hrowp⟩:=hcx
  obtain ⟨y,p1,p2,p3,p4,rfl,hone2,hy⟩:=hkp
  obtain ⟨ya,yc,rfl,_⟩:=id hy.form
  obtain ⟨ba,bc,rfl,_⟩:=id hB.form
  obtain ⟨fa2,fcap,rfl,_⟩:=id hrow
  refine Yc.perm (yc_of (n:=35) (rec:=rec) (args:=[.agg #[sv x.name,d,.slice fa2 x.formals.length fcap,pv,c2',.slice fa x.feats fc,i2],.agg #[sv p.name,.slice ya p.args.length yc,p1,p2,p3,p4]]) (hf:=pt db (.deferred (some []))::pt b5 (cl [.slice ba B.length bc] 23)::T::S::mps mb m::N::hr) (by rw [hps]; rfl) hkn2 (by rw [hps]; decide) ?_) (by exact (by repeat (first | exact Pm.refl | refine Pm.cons slq ?_):Pm _ _).perm)
  intro hr2 w1
  rw [hasg,hps,hbo]
  simp only [lC,lN]
  refine cQ (st_alc al54 fun b7=>?_)
  refine st_stoW Z Z sz54 Z hone ?_
  refine sK [5,6,7,16] Z (cR (st_alc al79 fun b8=>?_))
  refine st_stoW Z Z sz79 Z hone2 ?_
  refine sN (nK [5,6,7,8] Z (nx_xt (xt_mid Z slq (by first | rfl | assumption) ?_)))
  refine cB (cQ (sA Z (sN (nT (cS (cQ (sV (vF Z fa79_1 Z) (sV (vY Z ld23) ?_))))))))
  refine sV (v_len Z Tryz.underlying23) (sM Z (sK [5,6,7,9,18,19,20] Z (cB ?_)))
  have hbb:=hy.2
  have hsn:∀ j (h:j<p.args.length),(p.args.take (j+1)).map (Kt.subst x.formals B)=(p.args.take j).map (Kt.subst x.formals B)++[(p.args[j]).subst x.formals B]:=fun j h=>by rw [List.take_add_one,List.getElem?_eq_getElem h,List.map_append]; rfl
  refine cd_vw (vw_nil 25 5) (cd_vw (vw_unstar (L:=[])) (cd_pv (pv_pack (L:=[T,S])) ?_))
  simp only [lC,lN]
  refine cd_lq (σ := Value×List (List Value)×Res×Nat) (fun q=>[(5,.pointer (some ⟨b5,0,none⟩)),(7,.pointer (some ⟨b7,0,none⟩)),(9,q.1),(18,.slice ya p.args.length yc),(19,.int .i64 p.args.length),(20,.int .i64 (q.2.2.2:Nat))]) (fun q=>VR q.1 25 5 q.2.1::q.2.2.1::Res.star [T,S]::pt b7 (cl [sv x.name,d,.slice fa2 x.formals.length fcap,pv,c2',.slice fa x.feats fc,i2] 54)::pt b8 (cl [sv p.name,.slice ya p.args.length yc,p1,p2,p3,p4] 79)::pt yl (.loop { rec with state:=.busy })::pt db (.deferred (some []))::pt b5 (cl [.slice ba B.length bc] 23)::mps mb m::N::(hr++hr2)) (fun q=>q.2.2.2≤p.args.length∧q.1.oneCell'=true∧TyRows (Res.star [q.2.2.1,Res.star [T,S]]) q.2.1 ((p.args.take q.2.2.2).map (Kt.subst x.formals B))) (fun q=>p.args.length - q.2.2.2) (.slice none 0 0,[],Res.star [],0) ⟨Nat.zero_le _,rfl,TyRows.nil⟩ ?_
  rintro ⟨wv,rows,Tn,q⟩ ⟨hq,hwv,hro⟩
  simp only at hq hwv hro
  dsimp only
  have hrl:rows.length=q:=by rw [hro.1]; simp; omega
  refine cQ (sV (v_lss Z Z) (sN (nT (cS (cC Z (fun hd=>?_) (fun hd=>?_))))))
  ·have hlt2:q<p.args.length:=by simpa using hd
   obtain ⟨bt,ot,capt,us,e4,hus,hrdt,htt⟩:=(hy.mono (rd_in (k:=[T,S]) (.there .here))).at (List.getElem?_eq_getElem hlt2)
   cases e4
   have hsn:=hsn q hlt2
   generalize p.args[q]=t at htt hsn
   have hones:=htt.ones
   have htt2:=htt
   obtain ⟨z,rfl,hz⟩:=htt.out
   obtain ⟨za,zc,rfl,_⟩:=id hz.form
   have hsc:=subst_ct (hrow.mono (rd_in (k:=[T,S]) (.there .here)) fun _ _ _ h=>h) hB htt2
   unfold tyC at hrdt hones hsc
   refine cK (xT (cS (cB (cQ (sV (vI (k:=q) Z Z sl23 Z hlt2 Z) (sV (v_ldn Z ld25 Z hrdt) ?_))))))
   refine st_alc al25 fun b11=>?_
   refine st_stoW Z Z sz25 Z hones ?_
   refine sK [5,7,9,11,18,19,20] Z (cR (sM Z (sV (vF Z fa54_2 Z) (sV (vY Z ld48) ?_))))
   refine sV (vY Z ld23) ?_
   refine sV (v_ldn Z ld25 Z rds_pt) ?_
   refine st_cl Z Z en29 Z (hsc) ?_
   rintro u h' ⟨T2,rfl,us2,rfl,hT2⟩
   simp only [lC,lN]
   obtain ⟨y2,rfl,hy2⟩:=id hT2.out
   obtain ⟨wa2,wc2,rfl,_⟩:=id hy2.form
   refine st_buildSlice (cells:=tyC (t.subst x.formals B) (.slice wa2 (t.subst x.formals B).args.length wc2)) rfl Tryz.underlying23 inf25 rfl rfl (by kernel_rfl) (ltn rfl) fun b30=>?_
   refine st_app [tyC (t.subst x.formals B) (.slice wa2 (t.subst x.formals B).args.length wc2)] rfl rfl Tryz.underlying23 inf25 rfl (by decide) (show Sel _ (VR wv 25 5 rows) _ from slq) (by simp [tyC]) rfl (fun j u2 hu2=>at_here (rd_cl (by simpa [tyC] using hu2))) (by simp [tyC,Value.oneCell']) (by rw [hrl]; omega) (by rw [hrl]; omega) (ltn rfl) fun w3 hw3 _=>?_
   refine sA Z (sN (nK [5,7,9,18,19,20] Z (nx_xt (xB (xT (cR (sV (v_add Z Z (by unfold I64 at *; omega)) (sM Z (sN (nK [5,7,9,18,19,20] Z (nx_xt (xt_pv (pv_pack (L:=[Tn,T2])) ?_))))))))))))
   simp only [lC,lN]
   refine xt_aq (w3,rows++[tyC (t.subst x.formals B) (.slice wa2 (t.subst x.formals B).args.length wc2)],Res.star [Tn,T2],q+1) ⟨hlt2,hw3,by rw [hsn]; exact (hro.mono fun p u g=>rd_up p u .here g).snoc (hT2.mono fun p u g=>rd_up p u (.there .here) g)⟩ (Nat.sub_lt_sub_left hlt2 (Nat.lt_succ_self q))
  ·have hql:q=p.args.length:=by
    have:¬ q<p.args.length:=by simpa using hd
    omega
   rw [hql,List.take_length] at hro
   refine cd_exit (xE (xE (xY (xT (cR (sM Z (st_sto Z Z sz23 ?_)))))))
   refine sN (nK [] Z (nx_xt (xB (xt_ok (r:=VR wv 25 5 rows) slq fun hok=>?_))))
   refine xt_pv (pv_pack (L:=[VR wv 25 5 rows,Tn])) ?_
   simp only [lC,lN]
   refine xt_pv (pv_unpack (L:=[T,S])) ?_
   simp only [lC,lN]
   refine xt_pv (pv_pack (L:=[T,Res.star [VR wv 25 5 rows,Tn]])) ?_
   simp only [lC,lN]
   have hseen:Tys (Res.star [Res.star [VR wv 25 5 rows,Tn],Res.star [T,S]]) wv (p.args.map (Kt.subst x.formals B)):=(hro.mono fun p u g=>rd_up p u (.there .here) g).tys hok (fun p u g=>rd_in .here p u (rd_in .here p u g)) (by rw [List.length_map]; exact hbb)
   have hseen:=hseen.mono fun p u g=>rd_turn p u g
   obtain ⟨wa2,wc2,rfl,_⟩:=id hseen.form
   refine xt_round slq ⟨rfl,(.slice wa2 (p.args.map (Kt.subst x.formals B)).length wc2,Res.star [T,Res.star [VR (.slice wa2 (p.args.map (Kt.subst x.formals B)).length wc2) 25 5 rows,Tn]]),⟨_,hseen,hal⟩,rfl⟩ ?_
   rw [rec_back hst hpe]
   exact sbr
 ·exact (by repeat (first | exact Pm.refl | refine Pm.cons slq ?_):Pm _ _).perm
 ·rintro u h' ⟨rfl,⟨av,T⟩,⟨B,hB,hal⟩,rfl⟩
  simp only at hB
  rw [along_last] at hal
  subst hal
  obtain ⟨ba,bc,rfl,_⟩:=id hB.form
  refine ⟨rec,_,slq,(by rw [hst]; simp),?_⟩
  rw [hpe]
  dsimp only
  refine xB (xT (cQ (sV (vY Z ld23) ?_)))
  refine sA Z (sK [6] Z (cT ?_))
  exact xt_retM (bs:=[db]) Z Z ⟨T,Z,ba,bc,Z,hB⟩ sbr
end
end Go.Hr
namespace Go.Hr
open Go Go.RowKit Go.Ck Go.Proofs Go.Proofs.YtaohbfnepjjdgaaGreat Fx
attribute [local irreducible] Go.Ck.Sub St Cd Xt Nx DrL LsW
section
variable {S T N R:Res} {v:Value} {F:List Fm} {A:List Kt} {l:KS} {m:List (Bs×Value)} {mb:Nat} {s t:Kt} {va:Option Addr} {vc:Nat} {ts:List Kt} {rows:List (List Value)} {way:List Nm}
theorem chain_way (hR : Right (ksys l)) {a : Nm} : ∀ {way : List Nm} {c : Nm}, Way (ksys l) a way c → (kfind l c).isSome = true → Chain l way
 | [],_,h,_=>h.elim
 | [_],_,_,_=>fun i hi=>by simp at hi
 | x :: y :: t, c, h, hc => by
  obtain ⟨rfl,h2,h3⟩:=h
  obtain ⟨z,hz⟩:=Option.isSome_iff_exists.1 hc
  have ih:=chain_way hR h3 (by rw [kfind_isC]; exact par_isC h2)
  intro i hi
  cases i with
  | zero =>
   refine ⟨z,?_⟩
   have h4:=h2
   rw [kpar hR hz] at h4
   cases hf:z.parents.find? fun q=>q.name == y with
   | none =>
    obtain ⟨q,hq,rfl⟩:=List.mem_map.1 h4
    have:=List.find?_eq_none.1 hf q hq
    simp at this
   | some q=>exact ⟨q,hz,by simpa using hf⟩
  | succ i =>
   obtain ⟨z',p,g1,g2⟩:=ih i (by simpa using hi)
   exact ⟨z',p,by simpa using g1,by simpa using g2⟩
def wayK (l:KS) (c a:Nm):List Nm:=okL (rightE (ksys l) [c,a]) (shortR (ksys l) a c)
def badT (l:KS) (t:Kt):Bool:=((t.kind != 3) || (!(kfind l t.name).isSome && (t.name != root))) || ((t.args.length:Int) != ((fmsOf l t.name).length:Nat))
def instK (l:KS) (t:Kt) (a:Nm):List Kt×Int :=
 if badT l t=true then ([],8) else if a=root then ([],0) else if (kfind l t.name).isSome=false then ([],5) else if wayE (ksys l) t.name a≠0 then ([],5) else (along l (wayK l t.name a) t.args,0)
theorem wayK_way {c a : Nm} (h : wayE (ksys l) c a = 0) : Way (ksys l) a (wayK l c a) c := by
 unfold wayE at h
 split at h
 ·rename_i h1
  split at h
  ·rename_i h2
   unfold wayK
   rw [okL_eq h1]
   unfold has at h2
   obtain ⟨k,hk⟩:=Option.isSome_iff_exists.1 h2
   unfold shortR
   rw [hk]
   exact short_way _ _ _ _ hk
  ·cases h
 ·rename_i h1; exact absurd h h1
set_option maxHeartbeats 4000000 in
set_option maxRecDepth 100000 in
theorem instance_ct (hR : Right (ksys l)) (hM : KMap S m l) (hv : ksysR S (.slice va l.length vc) l) {us : List Value} (ht : Ty S us t) (a : Nm) :
  CtN Tryz.prog 56 #[wV mb va l.length vc,.agg us.toArray,sv a] [S,mps mb m] fun u T=>∃ w,u = .tuple #[w,.int .i64 (instK l t a).2]∧w.oneCell'=true∧Tys (Res.star [T,S]) w (instK l t a).1:=by
 have hml:maxLen=9223372036854775807:=rfl
 have hsys:sysR S (.slice va l.length vc) (ksys l):=hv.sys
 obtain ⟨y,rfl,hy⟩:=ht.out
 obtain ⟨ya,yc,rfl,hylc,hycm,_⟩:=id hy.form
 obtain ⟨d0,dd,fv,pv,c2,fs,ii,hlk,hone,hrow⟩:=map_cls2 hM t.name
 obtain ⟨fa,fcap,rfl,hflc,hfcm,_⟩:=id hrow
 unfold wV tyC instK
 refine ct_of (n:=63) Tryz.func56 Z Z (len Z) fun hr w0=>?_
 refine cQ (st_bx Z Z fun b3=>?_)
 refine st_bx Z Z fun b4=>?_
 refine sA Z (sA Z (sK [2,3,4,6,7] Z (cQ (sV (vF Z fa85_0 Z) (sV (vY Z ld83) ?_)))))
 refine sV (vF Z fa25_1 Z) (sV (vY Z ld9) ?_)
 refine sV (v_is hlk (v_slookup_ok Z Z mp83 inf54 slq)) ?_
 refine sM Z (sV (v_extract Z Z) (sV (v_extract Z Z) (st_alc al54 fun b8=>?_)))
 refine st_stoW Z Z sz54 Z hone ?_
 refine sA Z (sK [2,3,4,6,7,8,9] Z (cS (cQ (sV (vF Z fa25_0 Z) (sV (vY Z ld3) ?_)))))
 refine sV (v_neq Z Z) (sM Z (st_cut (k:=12) (d:=31) (v:=.bool ((t.kind != 3) || (!(kfind l t.name).isSome && (t.name != root)))) (fun hcut=>bool_want (b:=(t.kind != 3)) false (fun hg=>?_) (fun hg=>?_)) ?_))
 ·refine st_sk Z Z hg ?_
  iterate 2 refine st_sk rfl rfl hg ?_
  refine st_sku Z Z ?_
  refine st_sku Z Z ?_
  refine st_sku Z Z ?_
  refine st_sk Z Z hg ?_
  refine sV (vQ (bO Z hg) Z) ?_
  exact hcut _ uG
 ·refine sG Z (bG Z hg) (vM Z) (sG Z (bG Z hg) (v_not Z) (sG Z (bG Z hg) (vM Z) (st_cut (k:=11) (d:=30) (v:=.bool (!(kfind l t.name).isSome && (t.name != root))) (fun hcut=>bool_want (b:=(!(kfind l t.name).isSome)) true (fun hg1=>?_) (fun hg1=>?_)) ?_)))
  ·refine st_sk Z Z hg1 ?_
   iterate 2 refine st_sk rfl rfl hg1 ?_
   refine sG Z (bG Z hg) (vP (bO Z hg1) Z) ?_
   exact hcut _ (uH (by first | rfl | (rw [hg1]; rfl) | simp_all) (uS Z (uS Z (uS Z (uR)))))
  ·refine sG Z (bG Z hg1) (vF Z fa25_1 Z) (sG Z (bG Z hg1) (vY Z ld9) ?_)
   refine sG Z (bG Z hg1) (v_sneq Z Z) (sG Z (bG Z hg) (vQ (bO Z hg1) Z) ?_)
   exact hcut _ (uH (by first | rfl | (rw [hg1]; rfl) | simp_all) (uS Z (uS Z (uS Z (uR)))))
  refine sV (vP (bO Z hg) Z) ?_
  exact hcut _ (uH (by first | rfl | (rw [hg]; rfl) | simp_all) (by repeat (first | exact uR | refine uS Z ?_)))
 refine sM Z (st_cut (k:=21) (d:=40) (v:=.bool (((t.kind != 3) || (!(kfind l t.name).isSome && (t.name != root))) || ((t.args.length:Int) != ((fmsOf l t.name).length:Nat)))) (fun hcut=>bool_want (b:=((t.kind != 3) || (!(kfind l t.name).isSome && (t.name != root)))) false (fun hg=>?_) (fun hg=>?_)) ?_)
 ·refine st_sk Z Z hg ?_
  iterate 6 refine st_sk rfl rfl hg ?_
  refine sV (vQ (bO Z hg) Z) ?_
  exact hcut _ uG
 ·refine sG Z (bG Z hg) (vF Z fa25_2 Z) (sG Z (bG Z hg) (vY Z ld23) ?_)
  refine sG Z (bG Z hg) (v_len Z Tryz.underlying23) (sG Z (bG Z hg) (vF Z fa54_2 Z) (sG Z (bG Z hg) (vY Z ld48) ?_))
  refine sG Z (bG Z hg) (v_len Z Tryz.underlying48) (sG Z (bG Z hg) (v_neq Z Z) (sV (vP (bO Z hg) Z) ?_))
  exact hcut _ uG
 refine sK [2,3,4,6,7,9,40] Z (cC Z (fun hb=>?_) (fun hb=>?_))
 ·have hb:badT l t=true:=hb
  rw [if_pos hb]
  refine cQ (sA Z (sA Z (sK [6,7] Z (cT (xR (xt_vw (vw_unstar (L:=[])) ?_))))))
  exact xt_rt Z ⟨Res.star [],Z,_,Z,Z,Tys.nil⟩ sbq
 ·have hb:badT l t=false:=hb
  have hb:¬ badT l t=true:=by rw [hb]; decide
  rw [if_neg hb]
  refine cK (xT (cS (cQ (sM Z (sV (v_seql Z Z) (sK [2,3,4,6,7,9,42] Z (cC Z (fun ha=>?_) (fun ha=>?_))))))))
  ·have ha:(a == root)=true:=ha
   rw [if_pos (eq_of_beq ha)]
   refine cQ (sA Z (sA Z (sK [6,7] Z (cT (xR (xt_vw (vw_unstar (L:=[])) ?_))))))
   exact xt_rt Z ⟨Res.star [],Z,_,Z,Z,Tys.nil⟩ sbq
  ·have ha:(a == root)=false:=ha
   rw [if_neg (by simpa using ha)]
   refine cK (xT (cS (cQ (sM Z (sV (v_not Z) (sK [2,3,4,6,7,44] Z (cC Z (fun hk=>?_) (fun hk=>?_))))))))
   ·rw [if_pos (by rw [Bool.not_eq_true'] at hk; exact hk)]
    refine cQ (sA Z (sA Z (sK [6,7] Z (cT (xR (xt_vw (vw_unstar (L:=[])) ?_))))))
    exact xt_rt Z ⟨Res.star [],Z,_,Z,Z,Tys.nil⟩ sbq
   ·have hk:(kfind l t.name).isSome=true:=by rw [Bool.not_eq_false'] at hk; exact hk
    rw [if_neg (by rw [hk]; decide)]
    refine cK (xT (cQ (sV (vF Z fa85_1 Z) (sV (vY Z ld22) ?_))))
    refine sV (vF Z fa25_1 Z) (sV (vY Z ld9) ?_)
    refine sM Z (st_cl Z Z en96 Z (Way_ct hsys t.name a) ?_)
    rintro u h' ⟨T0,rfl,w,rfl,hw1,rfl⟩
    simp only [lC,lN]
    refine sM Z (sV (v_extract Z Z) (sV (v_extract Z Z) (sA Z (sA Z (sK [3,4,6,7,10,11] Z (cS (cQ (sM Z (sV (v_neq Z Z) (sK [3,4,6,7,10,55] Z (cC Z (fun hwe=>?_) (fun hwe=>?_))))))))))))
    ·rw [if_pos (by simpa using hwe)]
     refine cQ (sA Z (sA Z (sK [6,7] Z (cT (xR (xt_vw (vw_unstar (L:=[])) ?_))))))
     exact xt_rt Z ⟨Res.star [],Z,_,Z,Z,Tys.nil⟩ sbq
    ·have hwe:wayE (ksys l) t.name a=0:=by simpa using hwe
     rw [if_neg (by simpa using hwe)]
     have hre:rightE (ksys l) [t.name,a]=0:=by
      unfold wayE at hwe
      split at hwe
      ·assumption
      ·exact hwe
     have hwy:=wayK_way hwe
     have hchn:=chain_way hR hwy hk
     have hwk:okL (rightE (ksys l) [t.name,a]) (shortR (ksys l) a t.name)=wayK l t.name a:=rfl
     rw [hwk]
     generalize wayK l t.name a=way at *
     refine cK (xT (cQ (sV (vF Z fa85_0 Z) (sV (vY Z ld83) ?_))))
     refine sM Z (sV (vF Z fa25_2 Z) (sV (vY Z ld23) ?_))
     refine st_ok (r:=NR w way) slq fun hokw=>?_
     have hnw:=nms_own hokw
     obtain ⟨wa,wc,rfl,_⟩:=id hnw
     refine st_cl Z Z en97 Z (along_ct hM hnw hchn hy) ?_
     rintro u h' ⟨T1,rfl,aa,ac,rfl,hT1⟩
     simp only [lC,lN]
     refine st_pv (pv_pack (L:=[T1,S])) ?_
     simp only [lC,lN]
     refine st_cl Z Z en64 Z (clone64_ct hT1) ?_
     rintro u h' ⟨T2,rfl,ca,cc,rfl,hT2⟩
     simp only [lC,lN]
     refine st_pv (pv_unpack (L:=[T1,S])) ?_
     simp only [lC,lN]
     refine st_pv (pv_pack (L:=[T1,T2])) ?_
     simp only [lC,lN]
     refine sA Z (sA Z (sK [6,7] Z (cT ?_)))
     exact xt_rt Z ⟨Res.star [T1,T2],Z,_,Z,Z,hT2.mono fun p u g=>rd_turn p u g⟩ sbq
end
end Go.Hr
namespace Go.Hr
open Go Go.RowKit Go.Ck Go.Proofs Go.Proofs.YtaohbfnepjjdgaaGreat Fx
attribute [local irreducible] Go.Ck.Sub St Cd Xt Nx DrL LsW
section
variable {S T N R:Res} {v:Value} {F:List Fm} {A:List Kt} {l:KS} {m:List (Bs×Value)} {mb:Nat} {s t:Kt} {va:Option Addr} {vc:Nat} {ts:List Kt} {rows:List (List Value)} {way:List Nm}
def InstK (l:KS) (t:Kt) (a:Nm):List Kt×Int:=if (kcheck l).1≠0 then ([],(kcheck l).1) else instK l t a
set_option maxRecDepth 100000 in
theorem Instance_ct (hv:ksysR S v l) (htn:Tiny l) {us:List Value} (ht:Ty S us t) (a:Nm) :
  CtN Tryz.prog 19 #[v,.agg us.toArray,sv a] [S] fun u T=>∃ w,u = .tuple #[w,.int .i64 (InstK l t a).2]∧w.oneCell'=true∧Tys (Res.star [T,S]) w (InstK l t a).1:=by
 obtain ⟨va,vc,rfl,_⟩:=id hv
 have h1:=kcheck_ct hv htn
 have ht2:=ht
 obtain ⟨y,rfl,hy⟩:=ht.out
 obtain ⟨ya,yc,rfl,_⟩:=id hy.form
 unfold InstK
 refine ct_of (n:=26) Tryz.func19 Z Z (len Z) fun hr w0=>?_
 refine cQ (st_bx Z Z fun b4=>?_)
 refine sA Z (sA Z (sK [0,2,4,6,7] Z (cQ (sM Z (st_cl Z Z en46 Z (h1) ?_)))))
 rintro u h' ⟨mb,m,rfl,rfl,hMn⟩
 unfold wV
 simp only [lC,lN]
 refine sM Z (sV (v_extract Z Z) (sV (v_extract Z Z) (sV (v_extract Z Z) (st_alc al85 fun b8=>?_))))
 refine st_stoW Z Z sz85 Z Z ?_
 refine sA Z (sA Z (sK [2,4,6,7,8,9] Z (cS (cQ (sM Z (sV (v_neq Z Z) (sK [2,4,6,7,8,9,18] Z (cC Z (fun hc=>?_) (fun hc=>?_)))))))))
 ·have hc:(kcheck l).1≠0:=by simpa using hc
  rw [if_pos hc]
  refine cQ (sM Z (sA Z (sA Z (sK [6,7] Z (cT (xR (xt_vw (vw_unstar (L:=[])) ?_)))))))
  exact xt_rt Z ⟨Res.star [],Z,_,Z,Z,Tys.nil⟩ sbq
 ·have hc:(kcheck l).1=0:=by simpa using hc
  obtain ⟨all,hK⟩:=kcheck_zero.1 hc
  have hM:=hMn hK.right.uniq
  have hin:=instance_ct (mb:=mb) hK.right hM hv ht2 a
  unfold wV tyC at hin
  rw [if_neg (by simpa using hc)]
  refine cK (xT (cQ (sV (v_ldn Z ld85 Z rds_pt) ?_)))
  refine sV (v_ldn Z ld25 Z rds_pt) ?_
  refine sM Z (st_cl Z Z en56 Z (hin) ?_)
  rintro u h' ⟨T,rfl,w,rfl,hw,hT⟩
  simp only [lC,lN]
  refine sV (v_extract Z Z) (sV (v_extract Z Z) (sA Z (sA Z (sK [6,7] Z (cT ?_)))))
  exact xt_rt Z ⟨T,Z,w,Z,hw,hT⟩ sbq
def SeenK (l:KS) (g:Kt) (o:Nm) (t:Kt):Kt×Int :=
 if (InstK l g o).2≠0 then (zeroT,(InstK l g o).2) else match kfind l o with
 | none=>(zeroT,5)
 | some x=>if rightK l x.formals t≠0 then (zeroT,rightK l x.formals t) else (t.subst x.formals (InstK l g o).1,0)
theorem Ty.zero:Ty S [.int .i64 0,sv [],.slice none 0 0,.bool false,.bool false] zeroT:=Ty.of (t:=zeroT) rfl Tys.nil
set_option maxHeartbeats 4000000 in
set_option maxRecDepth 100000 in
theorem Seen_ct (hv : ksysR S v l) (htn : Tiny l) {g : Kt} {gs us : List Value} (hg : Ty S gs g) (o : Nm) (ht : Ty S us t) (hd : t.depth ≤ 1000000) :
  CtN Tryz.prog 21 #[v,.agg gs.toArray,sv o,.agg us.toArray] [S] fun u T=>∃ ws:List Value,u = .tuple #[.agg ws.toArray,.int .i64 (SeenK l g o t).2]∧Ty (Res.star [T,S]) ws (SeenK l g o t).1:=by
 obtain ⟨va,vc,rfl,_⟩:=id hv
 have h1:=kcheck_ct hv htn
 have hg2:=hg
 have ht2:=ht
 obtain ⟨y,rfl,hy⟩:=hg.out
 obtain ⟨ya,yc,rfl,_⟩:=id hy.form
 obtain ⟨z,rfl,hz⟩:=ht.out
 obtain ⟨za,zc,rfl,_⟩:=id hz.form
 unfold SeenK
 refine ct_of (n:=64) Tryz.func21 Z Z (len Z) fun hr w0=>?_
 refine cQ (st_bx Z Z fun b5=>?_)
 refine st_bx Z Z fun b7=>?_
 refine st_alc al25 fun b8=>?_
 refine sA Z (sK [0,2,5,7,8,9] Z (cQ (sM Z (st_cl Z Z en46 Z (h1) ?_))))
 rintro u h' ⟨mb,m,rfl,rfl,hMn⟩
 unfold wV
 simp only [lC,lN]
 refine sM Z (sV (v_extract Z Z) (sV (v_extract Z Z) (sV (v_extract Z Z) (st_alc al85 fun b10=>?_))))
 refine st_stoW Z Z sz85 Z Z ?_
 refine sA Z (sA Z (sK [2,5,7,8,9,10,11] Z (cS (cQ (sM Z (sV (v_neq Z Z) (sK [2,5,7,8,9,10,11,24] Z (cC Z (fun hc=>?_) (fun hc=>?_)))))))))
 ·have hc:(kcheck l).1≠0:=by simpa using hc
  rw [show InstK l g o=([],(kcheck l).1) from if_pos hc]
  dsimp only
  rw [if_pos hc]
  refine cQ (sV (v_build (cells:=[.int .i64 0,sv [],.slice none 0 0,.bool false,.bool false]) Z (fun _=>by kernel_rfl)) ?_)
  refine sM Z (st_stoW Z Z sz25 Z Z ?_)
  refine sA Z (sK [8,9] Z (cT (xR (xt_vw (vw_unstar (L:=[])) ?_))))
  exact xt_retV (.cellN Z ld25 Z slq (.tmp Z .nil)) ⟨Res.star [],Z,_,Z,Ty.zero⟩ sbr
 ·have hc:(kcheck l).1=0:=by simpa using hc
  obtain ⟨all,hK⟩:=kcheck_zero.1 hc
  have hM:=hMn hK.right.uniq
  have hin:=instance_ct (mb:=mb) hK.right hM hv hg2 o
  obtain ⟨d0,dd,fv,pv,c2,fs,ii,hlk,hone,hrow⟩:=map_cls2 hM o
  obtain ⟨e0,ed,fv2,pv2,c22,fs2,ii2,hlk2,hrow2⟩:=map_cls hM o
  have hri:=fun x hx=>right_kct (mb:=mb) (c:=o) (x:=x) hK.head hM hv hx hz hd
  unfold wV tyC at hin hri
  rw [show InstK l g o=instK l g o from if_neg (by simpa using hc)]
  refine cK (xT (cQ (sV (v_ldn Z ld85 Z rds_pt) ?_)))
  refine sV (v_ldn Z ld25 Z rds_pt) ?_
  refine sM Z (st_cl Z Z en56 Z (hin) ?_)
  rintro u h' ⟨T,rfl,w,rfl,hw,hT⟩
  simp only [lC,lN]
  refine sM Z (sV (v_extract Z Z) (sV (v_extract Z Z) (sA Z (sA Z (sK [2,7,8,9,10,11,13] Z (cS (cQ (sM Z (sV (v_neq Z Z) (sK [2,7,8,9,10,11,13,35] Z (cC Z (fun hi=>?_) (fun hi=>?_))))))))))))
  ·have hi:(instK l g o).2≠0:=by simpa using hi
   rw [if_pos hi]
   refine cQ (sV (v_build (cells:=[.int .i64 0,sv [],.slice none 0 0,.bool false,.bool false]) Z (fun _=>by kernel_rfl)) ?_)
   refine sM Z (st_stoW Z Z sz25 Z Z ?_)
   refine sA Z (sK [8,9] Z (cT (xR ?_)))
   exact xt_retV (.cellN Z ld25 Z slq (.tmp Z .nil)) ⟨T,Z,_,Z,Ty.zero⟩ sbr
  ·have hi:(instK l g o).2=0:=by simpa using hi
   rw [if_neg (by simpa using hi)]
   refine cK (xT (cS (cQ (sV (vF Z fa85_0 Z) (sV (vY Z ld83) ?_)))))
   refine sM Z (sV (v_is hlk (v_slookup_ok Z Z mp83 inf54 slq)) ?_)
   refine sM Z (sV (v_extract Z Z) (sV (v_extract Z Z) (st_alc al54 fun b14=>?_)))
   refine st_stoW Z Z sz54 Z hone ?_
   refine sA Z (sK [2,7,8,9,10,13,15] Z (cQ (sM Z (sV (v_not Z) (sK [2,7,8,9,10,13,46] Z ?_)))))
   cases hx:kfind l o with
   | none =>
    simp only [Option.isSome_none]
    refine cd_true Z ?_
    refine cQ (sV (v_build (cells:=[.int .i64 0,sv [],.slice none 0 0,.bool false,.bool false]) Z (fun _=>by kernel_rfl)) ?_)
    refine st_stoW Z Z sz25 Z Z ?_
    refine sA Z (sK [8,9] Z (cT (xR ?_)))
    exact xt_retV (.cellN Z ld25 Z slq (.tmp Z .nil)) ⟨T,Z,_,Z,Ty.zero⟩ sbr
   | some x =>
    simp only [Option.isSome_some]
    rw [fmsOf_some hx] at hrow2
    obtain ⟨fa,fcap,rfl,_⟩:=id hrow2
    refine cd_false Z ?_
    refine cK (xT (cS (cQ (sV (v_ldn Z ld85 Z rds_pt) ?_))))
    refine sM Z (sV (v_ldn Z ld25 Z rds_pt) ?_)
    refine st_cl Z Z en58 Z (hri x hx) ?_
    rintro u h' ⟨rfl,rfl⟩
    simp only [lC,lN]
    refine sA Z (sK [2,7,8,9,10,13,16] Z (cQ (sM Z (sV (v_neq Z Z) (sK [2,7,8,9,10,13,16,53] Z (cC Z (fun he=>?_) (fun he=>?_)))))))
    ·have he:rightK l x.formals t≠0:=by simpa using he
     rw [if_pos he]
     refine cQ (sV (v_build (cells:=[.int .i64 0,sv [],.slice none 0 0,.bool false,.bool false]) Z (fun _=>by kernel_rfl)) ?_)
     refine sM Z (st_stoW Z Z sz25 Z Z ?_)
     refine sA Z (sK [8,9] Z (cT (xR ?_)))
     exact xt_retV (.cellN Z ld25 Z slq (.tmp Z .nil)) ⟨T,Z,_,Z,Ty.zero⟩ sbr
    ·rw [if_neg (by simpa using he)]
     refine cK (xT (cQ (sV (vF Z fa85_0 Z) (sV (vY Z ld83) ?_))))
     refine sM Z (st_pv (pv_pack (L:=[T,S])) ?_)
     simp only [lC,lN]
     refine sV (v_is hlk2 (v_slookup Z Z mp83 inf54 slq)) ?_
     refine sV (v_field1 Z Tryz.underlying54 Z (fun w=>by simp [isAgg,run_underlying Tryz.underlying48]) Z) ?_
     refine sM Z (sV (v_ldn Z ld25 Z rds_pt) ?_)
     refine st_cl rfl rfl en29 rfl ((subst_ct (S:=Res.star [T,S]) (hrow2.mono (rd_in (.there .here)) fun _ _ _ h=>h) hT (ht2.mono (rd_in (.there .here))))) ?_
     rintro u h' ⟨T2,rfl,ws,rfl,hT2⟩
     simp only [lC,lN]
     obtain ⟨q,rfl,hq⟩:=id hT2.out
     obtain ⟨qa,qc,rfl,_⟩:=id hq.form
     refine st_pv (pv_unpack (L:=[T,S])) ?_
     simp only [lC,lN]
     refine st_pv (pv_pack (L:=[T,T2])) ?_
     simp only [lC,lN]
     refine st_stoW Z Z sz25 Z Z ?_
     refine sA Z (sK [8,9] Z (cT ?_))
     exact xt_retV (.cellN Z ld25 Z slq (.tmp Z .nil)) ⟨Res.star [T,T2],Z,_,Z,hT2.mono fun p u g=>rd_turn p u g⟩ sbr
end
end Go.Hr
