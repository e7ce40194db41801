/-
  The reference: joins. Conditions: what is read; small types; a right system.
  The reference: Joins,and that it is what package kind has. Conditions: what is read; small types,not too many classes.
  The chapter's example of generic classes: what package kind has of it. No condition.
-/
import Derived.Test.YtaohbfnepjjdgaaGreatM22
set_option linter.unusedVariables false
set_option linter.unusedSimpArgs false
namespace Go.Hr
open Go Go.RowKit Go.Ck Go.Proofs Go.Proofs.YtaohbfnepjjdgaaGreat Fx
attribute [local irreducible] Go.Ck.Sub St Cd Xt Nx DrL LsW
section
variable {S T N R:Res} {v:Value} {F:List Fm} {A:List Kt} {l:KS} {s t:Kt} {ts:List Kt} {rows:List (List Value)} {all:List (Nm×Own)} {x:KC}
def lowB (l:KS) (all:List (Nm×Own)) (s t:Kt):Bool:=if (t.name == root)=true then true else (rinst l all s t.name).2 && sames (rinst l all s t.name).1 t.args
set_option maxRecDepth 100000 in
theorem lower_ct (hK : KRight l all) (hv : ksysR S v l) (htn : Tiny l) {us ws : List Value} (hs : Ty S us s) (ht : Ty S ws t) (hn : s.name = root ∨ (kfind l s.name).isSome = true) :
  Reads Tryz.prog 121 #[v,.agg us.toArray,.agg ws.toArray] [S] (.bool (lowB l all s t)):=by
 have hia:=instR_ct hK hv htn hs hn t.name
 obtain ⟨y,rfl,hy⟩:=hs.out
 obtain ⟨ya,yc,rfl,_⟩:=id hy.form
 obtain ⟨z,rfl,hz⟩:=ht.out
 obtain ⟨wa,wc,rfl,_⟩:=id hz.form
 obtain ⟨va,vc,rfl,hlcv,hcmv,_⟩:=id hv
 unfold lowB
 unfold tyC at hia ⊢
 refine ct_of (n:=27) Tryz.func121 Z Z (len Z) fun hr w0=>?_
 refine cQ (st_bx Z Z fun b4=>?_)
 refine st_bx Z Z fun b5=>?_
 refine sA Z (sK [0,4,5,6] Z (cS (cQ (sV (vF Z fa25_1 Z) (sV (vY Z ld9) ?_)))))
 refine sV (v_seql Z Z) (sK [0,4,5,6,11] Z (cC Z (fun h1=>?_) (fun h1=>?_)))
 ·rw [if_pos (show (t.name == root)=true from h1)]
  refine cQ (sA Z (sK [6] Z (cT (xR ?_))))
  exact xt_rt Z ⟨Z,Z⟩ sbq
 ·have h1:(t.name == root)=false:=h1
  rw [if_neg (by rw [h1]; decide)]
  refine cK (xT (cQ (sM Z (sV (v_ldn Z ld25 Z rds_pt) ?_))))
  refine sV (vF Z fa25_1 Z) (sV (vY Z ld9) ?_)
  refine st_cl Z Z en57 Z (hia) ?_
  rintro u h' ⟨T,rfl,w,rfl,hw,hT⟩
  simp only [lC,lN]
  obtain ⟨ra,rc,rfl,_⟩:=id hT.form
  refine sM Z (sV (v_extract Z Z) (sV (v_extract Z Z) (sA Z (sA Z (sK [5,6,7,8] Z (cQ (sM Z (sM Z (st_pv (pv_pack (L:=[T,S])) ?_)))))))))
  simp only [lC,lN]
  refine st_cut (k:=7) (d:=26) (v:=.bool ((rinst l all s t.name).2 && sames (rinst l all s t.name).1 t.args)) (fun hcut=>bool_want (b:=((rinst l all s t.name).2)) true (fun hg=>?_) (fun hg=>?_)) ?_
  ·refine st_sk Z Z hg ?_
   iterate 3 refine st_sk rfl rfl hg ?_
   refine sV (vP (bO Z hg) Z) ?_
   exact hcut _ uG
  ·refine sG Z (bG Z hg) (vM Z) (sG Z (bG Z hg) (vF Z fa25_2 Z) (sG Z (bG Z hg) (vY Z ld23) ?_))
   refine st_clrg Z (bG Z hg) Z Z en25 Z (SameTypes_ct hT (hz.mono (rd_in (.there .here)))) ?_
   refine sV (vQ (bO Z hg) Z) ?_
   exact hcut _ uG
  refine sA Z (sK [6] Z (cT (xt_pv (pv_unpack (L:=[T,S])) ?_)))
  simp only [lC,lN]
  exact xt_rt Z ⟨Z,Z⟩ sbq
def lowR (low:Kt→Kt→Bool) (both:List Kt):List Kt:=(both.zipIdx.filter fun p=>both.zipIdx.all fun q=>decide (q.2=p.2) || !low q.1 p.1).map (·.1)
def joinR (low:Kt→Kt→Bool) (us ut:List Kt):List Kt:=lowR low (us.filter fun a=>ut.any fun b=>a.same b)
def lowJ (l:KS) (all:List (Nm×Own)) (F:List Fm) (s t:Kt):List Kt:=if (((s.kind == 4) && (t.kind == 4)) && (s.name == t.name))=true then [s.with false false] else joinR (lowB l all) (upsK l F s) (upsK l F t)
theorem zip_take {α : Type} {xs:List α} {k:Nat} (h:k<xs.length):xs.zipIdx.take (k+1)=xs.zipIdx.take k++[(xs[k],k)]:=by
 rw [List.take_add_one,List.getElem?_zipIdx,List.getElem?_eq_getElem h,Nat.zero_add]; rfl
theorem zip_all {α : Type} {xs:List α} {g : α × Nat→Bool} {k:Nat} (h:k<xs.length):(xs.zipIdx.take (k+1)).all g=((xs.zipIdx.take k).all g && g (xs[k],k)):=by
 rw [zip_take h,List.all_append]; simp
theorem vr_form {v:Value} {E:TypeId} {sz:Nat} {rows:List (List Value)} (hok:∃ f,(VR v E sz rows).ok f):∃ a cp,v = .slice a rows.length cp∧rows.length≤cp∧cp≤maxLen:=by
 obtain ⟨f,hf⟩:=hok
 rcases VR.form hf with ⟨rfl,rfl⟩ | ⟨b,o,cp,rfl,h1,h2⟩
 ·exact ⟨none,0,Z,by simp,by decide⟩
 ·exact ⟨_,_,Z,h1,h2⟩
theorem inner_bare (h : s.inner l F = 0) (hn : isNmd s = true) : (s.with false false).inner l F = 0 := by
 obtain ⟨k,n,az,w,z⟩:=s
 show Kt.inner l F (.mk k n az false false)=0
 rcases nmd_iff.1 hn with e | e <;> (simp only [Kt.kind] at e; subst e)
 ·rw [inner_cls] at h ⊢; exact h
 ·rw [inner_fml] at h ⊢
  split at h
  ·rename_i h1
   rw [if_pos (by rw [Bool.and_eq_true] at h1 ⊢; exact ⟨h1.1,rfl⟩)]
   exact h
  ·cases h
set_option maxHeartbeats 8000000 in
set_option maxRecDepth 100000 in
theorem joinsR_ct (hK : KRight l all) (hv : ksysR S v l) (htn : Tiny l) (hx : x ∈ l) {n0 d pv cr fs ii : Value} {fa : Option Addr} {fc : Nat} (hrow : Row S 2 fmC (.slice fa x.formals.length fc) x.formals) {us ws : List Value} (hs : Ty S us s) (ht : Ty S ws t) (his : s.inner l x.formals = 0) (hit : t.inner l x.formals = 0) (hns : isNmd s = true) (hnt : isNmd t = true)
  (hcls:∀ o∈upsK l x.formals s,o.name=root∨(kfind l o.name).isSome=true) :
  CtN Tryz.prog 74 #[v,.agg #[n0,d,.slice fa x.formals.length fc,pv,cr,fs,ii],.agg us.toArray,.agg ws.toArray] [S] fun u T=>∃ a cap rows T',u = .slice a (lowJ l all x.formals s t).length cap∧T=Res.star [VR u 25 5 rows,T']∧TyRows (Res.star [T',S]) rows (lowJ l all x.formals s t):=by
 have hml:maxLen=9223372036854775807:=rfl
 have hrb:reachBytes=140737488351232:=rfl
 obtain ⟨y,rfl,hy⟩:=hs.out
 obtain ⟨ya,yc,rfl,_⟩:=id hy.form
 obtain ⟨z,rfl,hz⟩:=ht.out
 obtain ⟨za,zc,rfl,_⟩:=id hz.form
 have hbs := @bareR_ct s ya s.args.length yc
 have hbt := @bareR_ct t za t.args.length zc
 have hss:=supersR_ct hK hv htn hx (n0:=n0) (d:=d) (pv:=pv) (c2:=cr) (fs:=fs) (ii:=ii) hrow (Ty.of (us:=tyC (s.with false false) (.slice ya s.args.length yc)) (t:=s.with false false) rfl hy) (inner_bare his hns)
 have hst:=supersR_ct hK hv htn hx (n0:=n0) (d:=d) (pv:=pv) (c2:=cr) (fs:=fs) (ii:=ii) hrow (Ty.of (us:=tyC (t.with false false) (.slice za t.args.length zc)) (t:=t.with false false) rfl hz) (inner_bare hit hnt)
 rw [show supersK l x.formals (s.with false false)=upsK l x.formals s from rfl] at hss
 rw [show supersK l x.formals (t.with false false)=upsK l x.formals t from rfl] at hst
 obtain ⟨va,vc,rfl,hlcv,hcmv,_⟩:=id hv
 unfold lowJ
 unfold tyC at hbs hbt hss hst ⊢
 refine ct_of (n:=116) Tryz.func74 Z Z (len Z) fun hr w0=>?_
 refine cQ (st_bx Z Z fun b5=>?_)
 refine st_bx Z Z fun b6=>?_
 refine st_bx Z Z fun b7=>?_
 refine sA Z (sK [0,5,6,7,8] Z (cS (cQ (sV (vF Z fa25_0 Z) (sV (vY Z ld3) ?_)))))
 refine sV (v_eql Z Z) (sM Z (st_cut (k:=8) (d:=26) (v:=.bool ((s.kind == 4) && (t.kind == 4))) (fun hcut=>bool_want (b:=(s.kind == 4)) true (fun hg=>?_) (fun hg=>?_)) ?_))
 ·refine st_sk Z Z hg ?_
  iterate 2 refine st_sk rfl rfl hg ?_
  refine sV (vP (bO Z hg) Z) ?_
  exact hcut _ uG
 ·refine sG Z (bG Z hg) (vF Z fa25_0 Z) (sG Z (bG Z hg) (vY Z ld3) ?_)
  refine sG Z (bG Z hg) (v_eql Z Z) (sV (vQ (bO Z hg) Z) ?_)
  exact hcut _ uG
 refine sM Z (st_cut (k:=15) (d:=33) (v:=.bool (((s.kind == 4) && (t.kind == 4)) && (s.name == t.name))) (fun hcut=>bool_want (b:=((s.kind == 4) && (t.kind == 4))) true (fun hg=>?_) (fun hg=>?_)) ?_)
 ·refine st_sk Z Z hg ?_
  iterate 4 refine st_sk rfl rfl hg ?_
  refine sV (vP (bO Z hg) Z) ?_
  exact hcut _ uG
 ·refine sG Z (bG Z hg) (vF Z fa25_1 Z) (sG Z (bG Z hg) (vY Z ld9) ?_)
  refine sG Z (bG Z hg) (vF Z fa25_1 Z) (sG Z (bG Z hg) (vY Z ld9) ?_)
  refine sG Z (bG Z hg) (v_seql Z Z) (sV (vQ (bO Z hg) Z) ?_)
  exact hcut _ uG
 refine sK [0,5,6,7,8,33] Z (cC Z (fun h4=>?_) (fun h4=>?_))
 ·rw [if_pos (show (((s.kind == 4) && (t.kind == 4)) && (s.name == t.name))=true from h4)]
  refine cQ (sV (v_ldn Z ld25 Z rds_pt) ?_)
  refine st_clr Z Z en120 Z (hbs) ?_
  refine st_buildSlice (cells:=[.int .i64 s.kind,sv s.name,.slice ya s.args.length yc,.bool false,.bool false]) Z Tryz.underlying23 inf25 Z Z (by kernel_rfl) (ltn Z) fun b36=>?_
  refine st_pv (pv_of (b:=b36) (n:=1) (sz:=5) (E:=25) [[.int .i64 s.kind,sv s.name,.slice ya s.args.length yc,.bool false,.bool false]] Z (by simp) Z (by decide)) ?_
  simp only [lC,lN]
  refine sA Z (sK [8] Z (cT (xR (xt_vw (vw_unstar (L:=[])) (xt_pv (pv_pack (L:=[VR (.slice (some ⟨b36,0,none⟩) 1 1) 25 5 [[.int .i64 s.kind,sv s.name,.slice ya s.args.length yc,.bool false,.bool false]],Res.star []])) ?_)))))
  simp only [lC,lN]
  exact xt_rt Z ⟨_,Z,some ⟨b36,0,none⟩,1,[[.int .i64 s.kind,sv s.name,.slice ya s.args.length yc,.bool false,.bool false]],Res.star [],Z,Z,TyRows.nil.snoc (Ty.of (t:=s.with false false) Z (hy.mono (rd_in (.there .here))))⟩ sbq
 ·have h4:(((s.kind == 4) && (t.kind == 4)) && (s.name == t.name))=false:=h4
  rw [if_neg (by rw [h4]; decide)]
  unfold joinR
  generalize upsK l x.formals s=us at *
  generalize upsK l x.formals t=ut at *
  refine cK (xT (cS (cd_drawh (ork [(0,2),(1,1),(2,1),(3,1),(4,0),(5,2)] .nil) (fun i => !(Nat.beq i 4)) mixed (by kernel_rfl) ?_)))
  refine dV Z (vM Z) (dr_v Z (v_ldn Z ld54 Z rds_pt) ?_)
  refine dr_v Z (v_ldn Z ld25 Z rds_pt) ?_
  refine dr_clr Z Z Z en120 Z (hbs) ?_
  refine dr_eff Z (st_cl Z Z en60 Z (hss) ?_)
  rintro u h' ⟨T1,rfl,sa,sc,rfl,hT1⟩
  simp only [lC,lN]
  refine dr_nx ?_
  refine dV Z (vA Z) (dr_nil (nK [0,5,7,8,9] Z (nT (cS (cd_drawh (ork [(0,2),(1,1),(2,1),(3,1),(4,0),(5,2)] .nil) (fun i => !(Nat.beq i 4)) mixed (by kernel_rfl) ?_)))))
  refine dV Z (vM Z) (dr_v Z (v_ldn Z ld54 Z rds_pt) ?_)
  refine dr_v Z (v_ldn Z ld25 Z rds_pt) ?_
  refine dr_clr Z Z Z en120 Z (hbt) ?_
  refine dr_eff Z (st_cl Z Z en60 Z (hst) ?_)
  rintro u h' ⟨T2,rfl,ta,tc,rfl,hT2⟩
  simp only [lC,lN]
  refine st_pv (pv_pack (L:=[T1,T2])) ?_
  simp only [lC,lN]
  refine st_pv (pv_pack (L:=[Res.star [T1,T2],S])) ?_
  simp only [lC,lN]
  have hus:Tys (Res.star [Res.star [T1,T2],S]) (.slice sa us.length sc) us:=hT1.mono fun p u g=>rd_up p u .here g
  have hut:Tys (Res.star [Res.star [T1,T2],S]) (.slice ta ut.length tc) ut:=hT2.mono fun p u g=>rd_up p u (.there .here) g
  have hv2:ksysR (Res.star [Res.star [T1,T2],S]) (.slice va l.length vc) l:=hv.mono (rd_in (.there .here))
  clear hT1 hT2
  generalize hRR:Res.star [Res.star [T1,T2],S]=R at *
  have hub:=hus.2
  obtain ⟨_,_,hq,hul,hum,_⟩:=hus.form
  cases hq
  obtain ⟨_,_,hq,htl,htm,_⟩:=hut.form
  cases hq
  refine dr_nx ?_
  refine dV Z (vA Z) (dr_nil (nK [0,8,9,10] Z (nT (cQ (sA Z (sN (nT (cS (cQ (sA Z (sN (nT (cB (cd_vw (vw_nil 25 5) (cd_lq (σ := Value×List (List Value)×Nat) (fun q=>[(0,.slice va l.length vc),(9,.slice sa us.length sc),(10,.slice ta ut.length tc),(11,q.1),(12,.int .i64 (q.2.2:Nat))]) (fun q=>VR q.1 25 5 q.2.1::R::hr) (fun q=>q.2.2≤us.length∧q.1.oneCell'=true∧TyRows R q.2.1 ((us.take q.2.2).filter fun a=>ut.any fun b=>a.same b)) (fun q=>us.length - q.2.2) (.slice none 0 0,[],0) ⟨Nat.zero_le _,Z,TyRows.nil⟩ ?_)))))))))))))))
  rintro ⟨wv,rows,i⟩ ⟨hi,hwv,hro⟩
  simp only at hi hwv hro
  dsimp only
  have hrl:rows.length≤i:=by rw [hro.1]; exact Nat.le_trans (List.length_filter_le _ _) (by simp; omega)
  refine cS (cQ (sM Z (sM Z (sV (v_len Z Tryz.underlying23) (sV (v_lss Z Z) (sK [0,9,10,11,12,50] Z (cC Z (fun hd=>?_) (fun hd=>?_))))))))
  ·have hlt:i<us.length:=by simpa using hd
   obtain ⟨b,o,cap2,cs,e1,hcs,hrd,hta⟩:=hus.at (List.getElem?_eq_getElem hlt)
   cases e1
   have hsn:(us.take (i+1)).filter (fun a=>ut.any fun b=>a.same b)=(us.take i).filter (fun a=>ut.any fun b=>a.same b)++(if (ut.any fun b=>(us[i]).same b)=true then [us[i]] else []):=by
    rw [List.take_add_one,List.getElem?_eq_getElem hlt,List.filter_append]
    congr 1
    by_cases h:(ut.any fun b=>(us[i]).same b)=true <;> simp [h]
   generalize us[i]=a at hta hsn
   have hta2:=hta
   obtain ⟨q,rfl,hqa⟩:=hta.out
   obtain ⟨qa,qc,rfl,_⟩:=id hqa.form
   unfold tyC at hrd
   refine cK (xT (cS (cB (cQ (sA Z (sK [0,9,10,11,12,13] Z (cB (cd_lq (σ := Nat) (fun k=>[(0,.slice va l.length vc),(9,.slice (some ⟨b,o,none⟩) us.length sc),(10,.slice ta ut.length tc),(11,wv),(12,.int .i64 (i:Nat)),(13,.int .i64 (k:Nat))]) (fun _=>VR wv 25 5 rows::R::hr) (fun k=>k≤ut.length∧((ut.take k).any fun b=>a.same b)=false) (fun k=>ut.length - k) 0 ⟨Nat.zero_le _,Z⟩ ?_))))))))
   rintro k ⟨hk,hak⟩
   refine cS (cQ (sM Z (sM Z (sV (v_len Z Tryz.underlying23) (sV (v_lss Z Z) (sK [0,9,10,11,12,13,56] Z (cC Z (fun hdk=>?_) (fun hdk=>?_))))))))
   ·have hltk:k<ut.length:=by simpa using hdk
    obtain ⟨b2,o2,cap3,cs2,e2,hcs2,hrd2,htb⟩:=hut.at (List.getElem?_eq_getElem hltk)
    cases e2
    have hmem:=List.getElem_mem hltk
    have htk:ut.take (k+1)=ut.take k++[ut[k]]:=by rw [List.take_add_one,List.getElem?_eq_getElem hltk]; rfl
    generalize ut[k]=b' at htb hmem htk
    have hsm:=sameR_ct hta2 htb
    obtain ⟨q',rfl,hqb⟩:=htb.out
    obtain ⟨qa',qc',rfl,_⟩:=id hqb.form
    unfold tyC at hrd2 hsm
    refine cK (xT (cS (cB (cS (cd_drawh (ork [(0,2),(1,2),(2,2),(3,1),(4,2),(5,2),(6,2),(7,1),(8,1),(9,2)] .nil) (fun _=>true) mixed (by kernel_rfl) ?_)))))
    refine dV Z (vM Z) (dV Z (vM Z) (dV Z (vI (k:=i) Z Z sl23 Z hlt Z) (dr_v Z (v_ldn Z ld25 Z hrd) ?_)))
    refine dV Z (vM Z) (dV Z (vM Z) (dV Z (vI (k:=k) Z Z sl23 Z hltk Z) (dr_v Z (v_ldn Z ld25 Z hrd2) ?_)))
    refine dr_clr Z Z Z en16 Z (hsm) ?_
    refine dV Z (vA Z) (dr_nil (nK [0,9,10,11,12,13,14] Z (nT (cQ (sM Z (sK [0,9,10,11,12,13,68] Z (cC Z (fun he=>?_) (fun he=>?_))))))))
    ·have he:a.same b'=true:=he
     rw [if_pos (List.any_eq_true.2 ⟨b',hmem,he⟩)] at hsn
     refine cQ (sM Z (sM Z (sM Z (sV (vI (k:=i) Z Z sl23 Z hlt Z) (sV (v_ldn Z ld25 Z hrd) ?_)))))
     refine st_buildSlice (cells:=tyC a (.slice qa a.args.length qc)) Z Tryz.underlying23 inf25 Z Z (by kernel_rfl) (ltn Z) fun b74=>?_
     refine st_app [tyC a (.slice qa a.args.length qc)] Z Z Tryz.underlying23 inf25 Z (by decide) (show Sel _ (VR wv 25 5 rows) _ from slq) (by simp [tyC]) Z (fun j u2 hu2=>at_here (rd_cl (by simpa [tyC] using hu2))) (by simp [tyC,Value.oneCell']) (by omega) (by omega) (ltn Z) fun w3 hw3 _=>?_
     refine sA Z (sK [0,9,10,11,12,13] Z (cd_exit (xt_exit_block_ne (by decide) ?_)))
     refine xE (xE (xY (xB (xT (cR (sM Z (sV (v_add Z Z (by unfold I64 at *; omega)) (sA Z (sN (nK [0,9,10,11,12] Z (nx_xt ?_)))))))))))
     refine xt_aq (w3,rows++[tyC a (.slice qa a.args.length qc)],i+1) ⟨hlt,hw3,by rw [hsn]; exact hro.snoc hta2⟩ (Nat.sub_lt_sub_left hlt (Nat.lt_succ_self i))
    ·have he:a.same b'=false:=he
     refine cK (xB (xT (cR (sM Z (sV (v_add Z Z (by unfold I64 at *; omega)) (sA Z (sN (nK [0,9,10,11,12,13] Z (nx_xt ?_)))))))))
     refine xt_aq (k+1) ⟨hltk,by rw [htk,List.any_append,hak]; simp [he]⟩ (Nat.sub_lt_sub_left hltk (Nat.lt_succ_self k))
   ·have hkl:k=ut.length:=by
     have:¬ k<ut.length:=by simpa using hdk
     omega
    rw [hkl,List.take_length] at hak
    rw [if_neg (by rw [hak]; decide),List.append_nil] at hsn
    refine cd_exit (xE (xE (xY (xB (xT (cR (sM Z (sV (v_add Z Z (by unfold I64 at *; omega)) (sA Z (sN (nK [0,9,10,11,12] Z (nx_xt ?_))))))))))))
    refine xt_aq (wv,rows,i+1) ⟨hlt,hwv,by rw [hsn]; exact hro⟩ (Nat.sub_lt_sub_left hlt (Nat.lt_succ_self i))
  ·have hil:i=us.length:=by
    have:¬ i<us.length:=by simpa using hd
    omega
   rw [hil,List.take_length] at hro
   have hcl2:∀ o∈(us.filter fun a=>ut.any fun b=>a.same b),o.name=root∨(kfind l o.name).isSome=true:=fun o ho=>hcls o (List.mem_filter.1 ho).1
   have hbl:(us.filter fun a=>ut.any fun b=>a.same b).length≤us.length:=List.length_filter_le _ _
   generalize (us.filter fun a=>ut.any fun b=>a.same b)=both at *
   unfold lowR
   refine cd_ok (r:=VR wv 25 5 rows) slq fun hok=>?_
   obtain ⟨ba,bc,rfl,hbc1,hbc2⟩:=vr_form hok
   have hrl2:=hro.1
   rw [hrl2] at hbc1 hok ⊢
   refine cd_exit (xE (xE (xY (xT (cQ (sA Z (sK [0,11,15] Z (cS (cQ (sA Z (sN (nT ?_))))))))))))
   refine cB (cd_vw (vw_nil 25 5) (cd_lq (σ := Value×List (List Value)×Nat) (fun q=>[(0,.slice va l.length vc),(11,.slice ba both.length bc),(15,q.1),(16,.int .i64 (q.2.2:Nat))]) (fun q=>VR q.1 25 5 q.2.1::VR (.slice ba both.length bc) 25 5 rows::R::hr) (fun q=>q.2.2≤both.length∧q.1.oneCell'=true∧TyRows R q.2.1 (((both.zipIdx.take q.2.2).filter fun p=>both.zipIdx.all fun q=>decide (q.2=p.2) || !lowB l all q.1 p.1).map (·.1))) (fun q=>both.length - q.2.2) (.slice none 0 0,[],0) ⟨Nat.zero_le _,Z,TyRows.nil⟩ ?_))
   rintro ⟨ov,orw,i⟩ ⟨hi,hov,hor⟩
   simp only at hi hov hor
   dsimp only
   have horl:orw.length≤i:=by
    rw [hor.1,List.length_map]
    exact Nat.le_trans (List.length_filter_le _ _) (by simp; omega)
   refine cS (cQ (sM Z (sM Z (sV (v_len Z Tryz.underlying23) (sV (v_lss Z Z) (sK [0,11,15,16,79] Z (cC Z (fun hd2=>?_) (fun hd2=>?_))))))))
   ·have hlt:i<both.length:=by simpa using hd2
    obtain ⟨b,o,rfl⟩:=vr_addr hok (by omega)
    have hri:rows[i]? = some rows[i]:=List.getElem?_eq_getElem (by omega)
    have hti:=hro.2.2 i _ both[i] hri (List.getElem?_eq_getElem hlt)
    have hti2:=hti
    obtain ⟨q,hq,hqt⟩:=hti.out
    obtain ⟨qa,qc,rfl,_⟩:=id hqt.form
    rw [hq] at hri hti2
    have hz2:=zip_take hlt
    unfold tyC at hri
    have hrdi:=rds_vr (E:=25) (sz:=5) (b:=b) (o:=o) (n:=both.length) (cp:=bc) hri
    have hall:∀ k (hk:k<both.length),(both.zipIdx.take (k+1)).all (fun q=>decide (q.2=i) || !lowB l all q.1 both[i])=((both.zipIdx.take k).all (fun q=>decide (q.2=i) || !lowB l all q.1 both[i]) && (decide (k=i) || !lowB l all both[k] both[i])):=fun k hk=>zip_all hk
    generalize both[i]=x at *
    refine cK (xT (cS (cB (cQ (sA Z (sK [0,11,15,16,17] Z (cS (cQ (sA Z (sN (nT (cB ?_))))))))))))
    refine cd_lq (σ := Nat) (fun k=>[(0,.slice va l.length vc),(11,.slice (some ⟨b,o,none⟩) both.length bc),(15,ov),(16,.int .i64 (i:Nat)),(17,.bool ((both.zipIdx.take k).all (fun q=>decide (q.2=i) || !lowB l all q.1 x))),(18,.int .i64 (k:Nat))]) (fun _=>VR ov 25 5 orw::VR (.slice (some ⟨b,o,none⟩) both.length bc) 25 5 rows::R::hr) (fun k=>k≤both.length) (fun k=>both.length - k) 0 (Nat.zero_le _) ?_
    rintro k hk
    refine cS (cQ (sM Z (sM Z (sV (v_len Z Tryz.underlying23) (sV (v_lss Z Z) (sK [0,11,15,16,17,18,85] Z (cC Z (fun hdk=>?_) (fun hdk=>?_))))))))
    ·have hltk:k<both.length:=by simpa using hdk
     have hrk:rows[k]? = some rows[k]:=List.getElem?_eq_getElem (by omega)
     have htk:=hro.2.2 k _ both[k] hrk (List.getElem?_eq_getElem hltk)
     have htk2:=htk
     obtain ⟨q',hq',hqt'⟩:=htk.out
     obtain ⟨qa',qc',rfl,_⟩:=id hqt'.form
     rw [hq'] at hrk htk2
     have hlw:=lower_ct hK hv2 htn htk2 hti2 (hcl2 _ (List.getElem_mem hltk))
     unfold tyC at hrk hlw
     have hrdk:=rds_vr (E:=25) (sz:=5) (b:=b) (o:=o) (n:=both.length) (cp:=bc) hrk
     have hallk:=hall k hltk
     generalize both[k]=y at *
     rw [show decide (k=i)=((k:Int) == (i:Int)) by
      rw [Bool.eq_iff_iff,decide_eq_true_eq,beq_iff_eq]; omega] at hallk
     generalize (both.zipIdx.take k).all (fun q=>decide (q.2=i) || !lowB l all q.1 x)=ak at *
     refine cK (xT (cS (cB (cd_drawh (ork [(0,2),(1,2),(2,2),(3,2),(4,2),(5,2),(6,2),(7,2),(8,2),(9,2),(10,1),(11,2),(12,2),(13,2),(14,1),(15,1),(16,2),(17,2),(18,2),(19,2)] .nil) (fun _=>true) mixed (by kernel_rfl) ?_))))
     refine dV Z (vM Z) (dV Z (vM Z) (dr_cut (k:=17) (d:=106) (v:=.bool (ak && (((k:Int) == (i:Int)) || !lowB l all y x))) (fun hcut=>bool_want (b:=(ak)) true (fun hg=>?_) (fun hg=>?_)) ?_))
     ·refine dp_sk Z Z Z hg ?_
      iterate 3 refine dp_sk rfl rfl rfl hg ?_
      refine dp_sku Z Z Z ?_
      refine dp_sku Z Z Z ?_
      refine dp_sku Z Z Z ?_
      refine dp_sku Z Z Z ?_
      refine dr_sku Z Z Z ?_
      refine dp_sku Z Z Z ?_
      refine dp_sku Z Z Z ?_
      refine dp_sku Z Z Z ?_
      refine dr_sku Z Z Z ?_
      refine dr_sku Z Z Z ?_
      refine dp_sku Z Z Z ?_
      refine dp_sk Z Z Z hg ?_
      refine dV Z (vP (bO Z hg) Z) ?_
      exact hcut _ uG
     ·refine dp_vg Z Z (bG Z hg) (vM Z) (dp_vg Z Z (bG Z hg) (vM Z) (dp_vg Z Z (bG Z hg) (v_eql Z Z) (dp_vg Z Z (bG Z hg) (vM Z) (dr_cut (k:=12) (d:=105) (v:=.bool (((k:Int) == (i:Int)) || !lowB l all y x)) (fun hcut=>bool_want (b:=((k:Int) == (i:Int))) false (fun hg1=>?_) (fun hg1=>?_)) ?_))))
      ·refine dp_sk Z Z Z hg1 ?_
       iterate 3 refine dp_sk rfl rfl rfl hg1 ?_
       refine dr_sk Z Z Z hg1 ?_
       iterate 3 refine dp_sk rfl rfl rfl hg1 ?_
       iterate 2 refine dr_sk rfl rfl rfl hg1 ?_
       refine dp_sk Z Z Z hg1 ?_
       refine dp_vg Z Z (bG Z hg) (vQ (bO Z hg1) Z) ?_
       exact hcut _ (uH (by first | rfl | (rw [hg1]; rfl) | simp_all) (uS Z (uS Z (uS Z (uS Z (uS Z (uS Z (uS Z (uS Z (uS Z (uS Z (uS Z (uR)))))))))))))
      ·refine dp_vg Z Z (bG Z hg1) (vM Z) (dp_vg Z Z (bG Z hg1) (vM Z) (dp_vg Z Z (bG Z hg1) (vM Z) (dp_vg Z Z (bG Z hg1) (vI (k:=k) Z Z sl23 Z hltk Z) (dr_vg Z Z (bG Z hg1) (v_ldn Z ld25 Z hrdk) ?_))))
       refine dp_vg Z Z (bG Z hg1) (vM Z) (dp_vg Z Z (bG Z hg1) (vM Z) (dp_vg Z Z (bG Z hg1) (vI (k:=i) Z Z sl23 Z hlt Z) (dr_vg Z Z (bG Z hg1) (v_ldn Z ld25 Z hrdi) ?_)))
       refine dr_clrg Z Z (bG Z hg1) Z Z en121 Z (hlw) ?_
       refine dp_vg Z Z (bG Z hg1) (v_not Z) (dp_vg Z Z (bG Z hg) (vP (bO Z hg1) Z) ?_)
       exact hcut _ (uH (by first | rfl | (rw [hg1]; rfl) | simp_all) (uS Z (uS Z (uS Z (uS Z (uS Z (uS Z (uS Z (uS Z (uS Z (uS Z (uS Z (uR)))))))))))))
      refine dV Z (vQ (bO Z hg) Z) ?_
      exact hcut _ (uH (by first | rfl | (rw [hg]; rfl) | simp_all) (by repeat (first | exact uR | refine uS Z ?_)))
     rw [← hallk]
     refine dV Z (vA Z) (dr_nil (nK [0,11,15,16,17,18] Z (nx_xt (xB (xT (cR (sM Z (sV (v_add Z Z (by unfold I64 at *; omega)) (sA Z (sN (nK [0,11,15,16,17,18] Z (nx_xt ?_))))))))))))
     refine xt_aq (k+1) hltk (Nat.sub_lt_sub_left hltk (Nat.lt_succ_self k))
    ·have hkl:k=both.length:=by
      have:¬ k<both.length:=by simpa using hdk
      omega
     rw [hkl,show both.zipIdx.take both.length=both.zipIdx from List.take_of_length_le (by simp)]
     have hsn:((both.zipIdx.take (i+1)).filter fun p=>both.zipIdx.all fun q=>decide (q.2=p.2) || !lowB l all q.1 p.1).map (·.1)=((both.zipIdx.take i).filter fun p=>both.zipIdx.all fun q=>decide (q.2=p.2) || !lowB l all q.1 p.1).map (·.1)++(if (both.zipIdx.all fun q=>decide (q.2=i) || !lowB l all q.1 x)=true then [x] else []):=by
      rw [hz2,List.filter_append,List.map_append]
      congr 1
      by_cases h:(both.zipIdx.all fun q=>decide (q.2=i) || !lowB l all q.1 x)=true
      ·rw [if_pos h,List.filter_cons]; dsimp only; rw [if_pos h]; rfl
      ·rw [if_neg h,List.filter_cons]; dsimp only; rw [if_neg h]; rfl
     generalize (both.zipIdx.all fun q=>decide (q.2=i) || !lowB l all q.1 x)=ab at *
     refine cd_exit (xE (xE (xY (xT (cQ (sM Z (sK [0,11,15,16,107] Z (cC Z (fun ha=>?_) (fun ha=>?_)))))))))
     ·rw [if_pos ha] at hsn
      refine cR (sM Z (sM Z (sM Z (sV (vI (k:=i) Z Z sl23 Z hlt Z) (sV (v_ldn Z ld25 Z hrdi) ?_)))))
      refine st_buildSlice (cells:=tyC x (.slice qa x.args.length qc)) Z Tryz.underlying23 inf25 Z Z (by kernel_rfl) (ltn Z) fun b113=>?_
      refine st_app [tyC x (.slice qa x.args.length qc)] Z Z Tryz.underlying23 inf25 Z (by decide) (show Sel _ (VR ov 25 5 orw) _ from slq) (by simp [tyC]) Z (fun j u2 hu2=>at_here (rd_cl (by simpa [tyC] using hu2))) (by simp [tyC,Value.oneCell']) (by omega) (by omega) (ltn Z) fun w3 hw3 _=>?_
      refine sA Z (sN (nK [0,11,15,16] Z (nx_xt (xB (xT (cR (sM Z (sV (v_add Z Z (by unfold I64 at *; omega)) (sA Z (sN (nK [0,11,15,16] Z (nx_xt ?_))))))))))))
      refine xt_aq (w3,orw++[tyC x (.slice qa x.args.length qc)],i+1) ⟨hlt,hw3,by show TyRows _ _ (List.map _ (List.filter _ (List.take (i+1) _))); rw [hsn]; exact hor.snoc hti2⟩ (Nat.sub_lt_sub_left hlt (Nat.lt_succ_self i))
     ·rw [if_neg (by rw [ha]; decide),List.append_nil] at hsn
      refine cK (xB (xT (cR (sM Z (sV (v_add Z Z (by unfold I64 at *; omega)) (sA Z (sN (nK [0,11,15,16] Z (nx_xt ?_)))))))))
      refine xt_aq (ov,orw,i+1) ⟨hlt,hov,by show TyRows _ _ (List.map _ (List.filter _ (List.take (i+1) _))); rw [hsn]; exact hor⟩ (Nat.sub_lt_sub_left hlt (Nat.lt_succ_self i))
   ·have hil2:i=both.length:=by
     have:¬ i<both.length:=by simpa using hd2
     omega
    rw [hil2,show both.zipIdx.take both.length=both.zipIdx from List.take_of_length_le (by simp)] at hor
    refine cd_exit (xE (xE (xY (xT (cQ (sM Z (sA Z (sK [8] Z (cT (xt_ok (r:=VR ov 25 5 orw) slq fun hoko=>?_))))))))))
    obtain ⟨oa,oc,rfl,_⟩:=vr_form hoko
    rw [hor.1]
    refine xt_pv (pv_eq hRR.symm) ?_
    simp only [lC,lN]
    refine xt_pv (pv_unpack (L:=[Res.star [T1,T2],S])) ?_
    simp only [lC,lN]
    refine xt_pv (pv_pack (L:=[VR (.slice oa _ oc) 25 5 orw,Res.star [T1,T2]])) ?_
    simp only [lC,lN]
    rw [← hRR] at hor
    exact xt_rt Z ⟨_,Z,oa,oc,orw,Res.star [T1,T2],Z,Z,hor⟩ sbq
end
end Go.Hr
namespace Go.Hr
open Go Go.RowKit Go.Ck Go.Proofs Go.Proofs.YtaohbfnepjjdgaaGreat Fx
attribute [local irreducible] Go.Ck.Sub St Cd Xt Nx DrL LsW
section
variable {S T N R:Res} {v:Value} {F:List Fm} {A:List Kt} {l:KS} {s t:Kt} {ts:List Kt} {rows:List (List Value)} {all:List (Nm×Own)} {x:KC}
theorem up_mem (hR:Right (ksys l)) {c a:Nm} (h:a∈upK l c):isC (ksys l) c=true∧has (ksys l) c a=true∧isC (ksys l) a=true:=by
 unfold upK at h
 rw [List.mem_reverse] at h
 by_cases hr:rightE (ksys l) [c]=0
 ·rw [okL_eq hr] at h
  have hc:=(rightE_zero.1 hr).2 c (by simp)
  have hh:=((above_spec hR.acyc c).2 a).1 h
  exact ⟨hc,hh,has_isC hc hh⟩
 ·rw [okL_ne hr] at h; cases h
theorem supers_elems (hK : KRight l all) (hx : x ∈ l) (hin : t.inner l x.formals = 0) {o : Kt} (ho : o ∈ supersK l x.formals t) : o.kind = 3 ∧ o.void = t.void ∧ o.sep = t.sep ∧ badT l o = false ∧ (o.name = root ∨ (kfind l o.name).isSome = true) := by
 unfold supersK at ho
 rw [ctB_rcB] at ho
 split at ho
 ·rename_i hb
  rcases List.mem_append.1 ho with ho | ho
  ·obtain ⟨a,ha,rfl⟩:=List.mem_map.1 ho
   obtain ⟨h1,h2,h3⟩:=up_mem hK.right ha
   have h3':=h3
   rw [← kfind_isC] at h3'
   obtain ⟨y,hy⟩:=Option.isSome_iff_exists.1 h3'
   refine ⟨Z,Z,Z,?_,.inr h3'⟩
   have hb2:=(ct_right hK hx hin hb).1
   have hcs:=h1
   rw [← kfind_isC] at hcs
   obtain ⟨z,hz⟩:=Option.isSome_iff_exists.1 hcs
   have hls:=hK.look_some (a:=a) hz
   rw [h2] at hls
   obtain ⟨ts,hts⟩:=Option.isSome_iff_exists.1 hls
   have hne:a≠root:=fun e=>by rw [e,hK.no_root] at hy; cases hy
   have hne2:(ctK x.formals t).name≠root:=fun e=>by rw [e,hK.no_root] at hz; cases hz
   have hlen:(instK l (ctK x.formals t) a).1.length=y.formals.length:=by
    rw [inst_eq hK hb2]
    unfold rinst
    rw [if_neg hne,if_neg hne2,hts]
    simp only [List.length_map]
    have:=hK.ins_len _ z hz a y hy h2
    unfold insT at this
    rw [hts] at this
    exact this
   show badT l (.mk 3 a (instK l (ctK x.formals t) a).1 t.void t.sep)=false
   unfold badT
   show ((((3:Int) != 3) || (!(kfind l a).isSome && (a != root))) || (((instK l (ctK x.formals t) a).1.length:Int) != ((fmsOf l a).length:Nat)))=false
   rw [hy,fmsOf_some hy,hlen]
   simp
  ·simp at ho
   subst ho
   refine ⟨Z,Z,Z,?_,.inl Z⟩
   unfold badT
   show ((((3:Int) != 3) || (!(kfind l root).isSome && (root != root))) || ((([]:List Kt).length:Int) != ((fmsOf l root).length:Nat)))=false
   rw [show fmsOf l root=[] by unfold fmsOf; rw [hK.no_root]; rfl,hK.no_root]
   decide
 ·cases ho
theorem supers_nodup (hK : KRight l all) : (supersK l F t).Nodup := by
 unfold supersK
 split
 ·have hn : ((upK l (ctK F t).name).map (supE l (ctK F t) t) ++ [Kt.mk 3 root [] t.void t.sep]).map Kt.name = upK l (ctK F t).name ++ [root] := by
   rw [List.map_append,List.map_map]
   congr 1
   conv=>rhs; rw [← List.map_id (upK l (ctK F t).name)]
   exact List.map_congr_left fun a _=>rfl
  have hd:(upK l (ctK F t).name++[root]).Nodup:=by
   rw [List.nodup_append]
   refine ⟨?_,by simp,fun a ha b hb=>?_⟩
   ·unfold upK
    rw [(List.reverse_perm _).nodup_iff]
    by_cases hr:rightE (ksys l) [(ctK F t).name]=0
    ·rw [okL_eq hr]; exact (above_spec hK.right.acyc _).1.nodup
    ·rw [okL_ne hr]; exact List.nodup_nil
   ·simp at hb
    subst hb
    intro e
    have:=(up_mem hK.right ha).2.2
    rw [e,← kfind_isC,hK.no_root] at this; cases this
  rw [← hn] at hd
  rw [List.nodup_iff_pairwise_ne,List.pairwise_map] at hd
  rw [List.nodup_iff_pairwise_ne]
  refine hd.imp ?_
  intro a b h e
  exact h (by rw [e])
 ·exact List.nodup_nil
theorem low_why (hK:KRight l all) {o y:Kt} (ho:o.kind=3) (hy:y.kind=3) (hov:o.void=false) (hos:o.sep=false) (hb:badT l o=false):decide ((whyC l F o y).1<11)=lowB l all o y:=by
 have hc:ctK F o=o:=if_pos ho
 unfold whyC lowB
 rw [hc,inst_eq hK hb]
 simp only [ho,hy,hov,hos]
 generalize rinst l all o y.name=q
 obtain ⟨q1,q2⟩:=q
 by_cases hr:y.name=root
 ·simp [hr,plainK]
 ·have hr2:(y.name == root)=false:=by simpa using hr
  cases q2 <;> cases hs:sames q1 y.args <;> simp [hr2,plainK,hr,hs]
theorem lowR_filter {low g : Kt → Kt → Bool} {both : List Kt} (hn : both.Nodup) (hg : ∀ o ∈ both, ∀ y ∈ both, g o y = low o y) : lowR low both = both.filter fun y => !(both.any fun o => !(o.same y) && g o y) := by
 unfold lowR
 have h1:both.filter (fun y => !(both.any fun o => !(o.same y) && g o y))=((both.zipIdx.filter ((fun y => !(both.any fun o => !(o.same y) && g o y)) ∘ Prod.fst)).map Prod.fst):=by
  rw [← List.filter_map,List.zipIdx_map_fst]
 rw [h1]
 congr 1
 refine List.filter_congr fun p hp=>?_
 obtain ⟨y,i⟩:=p
 have hpi:=List.mem_zipIdx_iff_getElem?.1 hp
 obtain ⟨hi,hyi⟩:=List.getElem?_eq_some_iff.1 hpi
 have hym:y∈both:=List.mem_of_getElem? hpi
 rw [Bool.eq_iff_iff]
 simp only [Function.comp_apply,Bool.not_eq_true',List.all_eq_true,List.any_eq_false,Bool.or_eq_true,decide_eq_true_eq,Bool.and_eq_true,not_and]
 constructor
 ·intro h o ho hs
  obtain ⟨j,hj⟩:=List.getElem?_of_mem ho
  rcases h (o,j) (List.mem_zipIdx_iff_getElem?.2 hj) with h2 | h2
  ·have h2:j=i:=h2
   subst h2
   rw [hpi] at hj
   cases hj
   rw [(same_iff y y).2 rfl] at hs; cases hs
  ·rw [hg o ho y hym,h2]; decide
 ·rintro h ⟨o, j⟩ hoj
  have hj:=List.mem_zipIdx_iff_getElem?.1 hoj
  have hom:o∈both:=List.mem_of_getElem? hj
  by_cases hji:j=i
  ·exact .inl hji
  ·right
   have hne:o≠y:=by
    intro e
    obtain ⟨hjl,hoj2⟩:=List.getElem?_eq_some_iff.1 hj
    apply hji
    exact (List.getElem_inj hn (h₀ := hjl) (h₁ := hi)).1 (by rw [hoj2,hyi,e])
   have hs:o.same y=false:=by rw [← Bool.not_eq_true]; exact fun e=>hne ((same_iff _ _).1 e)
   have:=h o hom hs
   rw [hg o hom y hym] at this
   simpa using this
theorem same_comm (a b:Kt):a.same b=b.same a:=by
 rw [Bool.eq_iff_iff,same_iff,same_iff]; exact eq_comm
theorem joins_lowJ (hK : KRight l all) (hx : x ∈ l) (his : s.inner l x.formals = 0) (hit : t.inner l x.formals = 0) (hns : isNmd s = true) (hnt : isNmd t = true) : joinsK l x.formals s t = (lowJ l all x.formals s t).map fun y => y.with (s.void || t.void) (s.sep || t.sep) := by
 have hs0:(s.kind == 0)=false:=by
  rcases nmd_iff.1 hns with h | h <;> rw [h] <;> decide
 have ht0:(t.kind == 0)=false:=by
  rcases nmd_iff.1 hnt with h | h <;> rw [h] <;> decide
 unfold joinsK lowJ
 rw [hns,hnt,hs0,ht0]
 simp only [Bool.not_true,Bool.and_false,Bool.false_and,Bool.or_false,Bool.false_eq_true,if_false]
 by_cases h4:(((s.kind == 4) && (t.kind == 4)) && (s.name == t.name))=true
 ·rw [if_pos h4,if_pos h4]; rfl
 ·rw [if_neg h4,if_neg h4]
  congr 1
  unfold lowK joinR bothK
  have hfe:(upsK l x.formals s).filter (fun y=>(upsK l x.formals t).any fun z=>z.same y)=(upsK l x.formals s).filter fun a=>(upsK l x.formals t).any fun b=>a.same b:=by
   refine List.filter_congr fun a _=>?_
   congr 1
   exact funext fun b=>same_comm b a
  rw [hfe]
  have hel:∀ o∈(upsK l x.formals s).filter fun a=>(upsK l x.formals t).any fun b=>a.same b,o.kind=3∧o.void=false∧o.sep=false∧badT l o=false:=fun o ho=>by
   obtain ⟨h1,h2,h3,h5,_⟩:=supers_elems (t:=s.with false false) hK hx (inner_bare his hns) (List.mem_filter.1 ho).1
   exact ⟨h1,h2,h3,h5⟩
  have hnd:((upsK l x.formals s).filter fun a=>(upsK l x.formals t).any fun b=>a.same b).Nodup:=(supers_nodup (t:=s.with false false) hK).sublist List.filter_sublist
  generalize ((upsK l x.formals s).filter fun a=>(upsK l x.formals t).any fun b=>a.same b)=both at *
  exact (lowR_filter hnd fun o ho y hy=>by
   obtain ⟨h1,h2,h3,h5⟩:=hel o ho
   exact low_why hK h1 (hel y hy).1 h2 h3 h5).symm
theorem lowJ_len (hK : KRight l all) : (lowJ l all F s t).length ≤ 25 := by
 unfold lowJ
 split
 ·simp
 ·unfold joinR lowR
  rw [List.length_map]
  refine Nat.le_trans (List.length_filter_le _ _) ?_
  rw [List.length_zipIdx]
  refine Nat.le_trans (List.length_filter_le _ _) ?_
  unfold upsK supersK
  split
  ·rw [List.length_append,List.length_map]
   have:=up_len hK.right (ctK F (s.with false false)).name
   unfold upK
   rw [List.length_reverse]
   simp only [List.length_cons,List.length_nil]
   omega
  ·simp
set_option maxHeartbeats 8000000 in
set_option maxRecDepth 100000 in
theorem JoinsR_ct (hv : ksysR S v l) (htn : Tiny l) (hl : l.length ≤ 1000000) (c : Nm) {us ws : List Value} (hs : Ty S us s) (ht : Ty S ws t) (hds : s.depth ≤ 1000000) (hdt : t.depth ≤ 1000000) :
  CtN Tryz.prog 38 #[v,sv c,.agg us.toArray,.agg ws.toArray] [S] fun u T=>∃ w,u = .agg #[w,.int .i64 (JoinsK l c s t).2]∧w.oneCell'=true∧Tys (Res.star [T,S]) w (JoinsK l c s t).1:=by
 have hml:maxLen=9223372036854775807:=rfl
 have hrb:reachBytes=140737488351232:=rfl
 obtain ⟨va,vc,rfl,_⟩:=id hv
 have h1:=fun b hok=>openedR_ct (hv.mono (rd_in (.there .here))) htn hl c (tys_two (b:=b) hs ht hok) (fun s' hs'=>by
  rcases List.mem_cons.1 hs' with rfl | h
  ·exact hds
  ·simp at h; subst h; exact hdt)
 obtain ⟨x0,rfl,hx0⟩:=hs.out
 obtain ⟨xa,xc,rfl,_⟩:=id hx0.form
 obtain ⟨y0,rfl,hy0⟩:=ht.out
 obtain ⟨ya,yc,rfl,_⟩:=id hy0.form
 refine ct_of (n:=99) Tryz.func38 Z Z (len Z) fun hr w0=>?_
 refine cQ (st_bx Z Z fun b6=>?_)
 refine st_bx Z Z fun b7=>?_
 refine st_alc al38 fun b8=>?_
 refine sK [0,1,6,7,8] Z (cQ (sM Z (sM Z (sV (v_ldn Z ld25 Z rds_pt) ?_))))
 refine sV (v_ldn Z ld25 Z rds_pt) ?_
 refine st_buildSlice (cells:=tyC s (.slice xa s.args.length xc)++tyC t (.slice ya t.args.length yc)) Z Tryz.underlying23 inf25 Z Z (by kernel_rfl) (ltn Z) fun b19=>?_
 refine st_pv (pv_of (b:=b19) (n:=2) (sz:=5) (E:=25) [tyC s (.slice xa s.args.length xc),tyC t (.slice ya t.args.length yc)] Z (by simp [tyC]) Z (by decide)) ?_
 simp only [lC,lN]
 refine st_ok (r:=VR (.slice (some ⟨b19,0,none⟩) 2 2) 25 5 [tyC s (.slice xa s.args.length xc),tyC t (.slice ya t.args.length yc)]) slq fun hok=>?_
 refine st_pv (pv_pack (L:=[VR (.slice (some ⟨b19,0,none⟩) 2 2) 25 5 [tyC s (.slice xa s.args.length xc),tyC t (.slice ya t.args.length yc)],S])) ?_
 simp only [lC,lN]
 have hs1:Ty (Res.star [VR (.slice (some ⟨b19,0,none⟩) 2 2) 25 5 [tyC s (.slice xa s.args.length xc),tyC t (.slice ya t.args.length yc)],S]) (tyC s (.slice xa s.args.length xc)) s:=(Ty.of rfl hx0).mono (rd_in (.there .here))
 have ht1:Ty (Res.star [VR (.slice (some ⟨b19,0,none⟩) 2 2) 25 5 [tyC s (.slice xa s.args.length xc),tyC t (.slice ya t.args.length yc)],S]) (tyC t (.slice ya t.args.length yc)) t:=(Ty.of rfl hy0).mono (rd_in (.there .here))
 have hv1:ksysR (Res.star [VR (.slice (some ⟨b19,0,none⟩) 2 2) 25 5 [tyC s (.slice xa s.args.length xc),tyC t (.slice ya t.args.length yc)],S]) (.slice va l.length vc) l:=hv.mono (rd_in (.there .here))
 have hop:=h1 b19 hok
 generalize hSP:Res.star [VR (.slice (some ⟨b19,0,none⟩) 2 2) 25 5 [tyC s (.slice xa s.args.length xc),tyC t (.slice ya t.args.length yc)],S]=SP at *
 refine st_cl Z Z en55 Z (hop) ?_
 rintro u h' ⟨cs,rfl,rfl,hcl,hco,hcx⟩
 simp only [lC,lN]
 refine sM Z (sV (v_extract Z Z) (sV (v_extract Z Z) (st_alc al54 fun b9=>?_)))
 refine st_stoW (vs:=cs) (hl:=by rw [hcl]; rfl) Z Z sz54 hcl hco ?_
 refine sA Z (sK [0,6,7,8,9,10] Z (cS (cQ (sM Z (sV (v_neq Z Z) (sK [0,6,7,8,9,10,24] Z (cC Z (fun he=>?_) (fun he=>?_))))))))
 ·have he:askedE l c [s,t]≠0:=by simpa using he
  rw [show JoinsK l c s t=([],askedE l c [s,t]) from if_pos he]
  refine cQ (sM Z (sV (v_build (cells:=[.slice none 0 0,.int .i64 (askedE l c [s,t])]) Z (fun _=>by kernel_rfl)) ?_))
  refine st_stoW Z Z sz38 Z Z ?_
  refine sK [8] Z (cT (xR (xt_pv (pv_eq hSP.symm) ?_)))
  simp only [lC,lN]
  refine xt_pv (pv_unpack (L:=[VR (.slice (some ⟨b19,0,none⟩) 2 2) 25 5 [tyC s (.slice xa s.args.length xc),tyC t (.slice ya t.args.length yc)],S])) ?_
  simp only [lC,lN]
  exact xt_retV (.cellN Z ld38 Z slq .nil) ⟨VR (.slice (some ⟨b19,0,none⟩) 2 2) 25 5 [tyC s (.slice xa s.args.length xc),tyC t (.slice ya t.args.length yc)],Z,_,Z,Z,Tys.nil⟩ sbr
 ·have he:askedE l c [s,t]=0:=by simpa using he
  obtain ⟨x,all,hok2⟩:=askedE_zero.1 he
  have hK:=hok2.right
  obtain ⟨x',hx',hcc⟩:=hcx he
  rw [hok2.cls] at hx'
  cases hx'
  have hxl:=(kfind_some hok2.cls).2
  have his:=inner_zero (hok2.tys s (by simp))
  have hit:=inner_zero (hok2.tys t (by simp))
  have hfm:fmsOf l c=x.formals:=fmsOf_some hok2.cls
  obtain ⟨d,ff,pv,cr,ffa,ffc,i2,rfl,hone,hrow,_⟩:=hcc
  obtain ⟨fa,fcap,rfl,_⟩:=id hrow
  rw [show JoinsK l c s t=(joinsK l x.formals s t,0) by unfold JoinsK; rw [if_neg (by simpa using he),hfm]]
  have hfs := @refers_ct s xa s.args.length xc
  have hft := @refers_ct t ya t.args.length yc
  have hjn:=fun hns hnt=>joinsR_ct (s:=s) (t:=t) hK hv1 htn hxl (n0:=sv x.name) (d:=d) (pv:=pv) (cr:=cr) (fs:=.slice ffa x.feats ffc) (ii:=i2) hrow hs1 ht1 his hit hns hnt (fun o ho=>(supers_elems (t:=s.with false false) hK hxl (inner_bare his hns) ho).2.2.2.2)
  have hjl:=fun hns hnt=>joins_lowJ (s:=s) (t:=t) hK hxl his hit hns hnt
  unfold tyC at hfs hft hjn
  refine cK (xT (cQ (sV (v_ldn Z ld25 Z rds_pt) ?_)))
  refine st_clr Z Z en73 Z (hfs) ?_
  refine sM Z (st_cut (k:=6) (d:=32) (v:=.bool (isNmd s && isNmd t)) (fun hcut=>bool_want (b:=(isNmd s)) true (fun hg=>?_) (fun hg=>?_)) ?_)
  ·refine st_sk Z Z hg ?_
   refine st_sk Z Z hg ?_
   refine sV (vP (bO Z hg) Z) ?_
   exact hcut _ uG
  ·refine sG Z (bG Z hg) (v_ldn Z ld25 Z rds_pt) ?_
   refine st_clrg Z (bG Z hg) Z Z en73 Z (hft) ?_
   refine sV (vQ (bO Z hg) Z) ?_
   exact hcut _ uG
  refine sA Z (sK [0,6,7,8,9,11] Z (cS (cQ (sM Z (sV (v_not Z) (sK [0,6,7,8,9,34] Z (cC Z (fun hrf=>?_) (fun hrf=>?_))))))))
  ·have hrf:(isNmd s && isNmd t)=false:=by rw [Bool.not_eq_true'] at hrf; exact hrf
   refine cS (cQ (sV (vF Z fa25_0 Z) (sV (vY Z ld3) ?_)))
   refine sV (vF Z fa25_0 Z) (sV (vY Z ld3) ?_)
   refine sV (v_eql Z Z) (sK [0,6,7,8,9,39] Z (cC Z (fun hk=>?_) (fun hk=>?_)))
   ·have hk:(s.kind == t.kind)=true:=hk
    have hns:isNmd s=false:=by
     have h1:isNmd t=isNmd s:=by unfold isNmd; rw [eq_of_beq hk]
     rw [h1,Bool.and_self] at hrf; exact hrf
    have hj:joinsK l x.formals s t=[s]:=by unfold joinsK; rw [if_pos (by rw [hk,hns]; rfl)]
    rw [hj]
    refine cQ (sV (v_ldn Z ld25 Z rds_pt) ?_)
    refine st_buildSlice (cells:=tyC s (.slice xa s.args.length xc)) Z Tryz.underlying23 inf25 Z Z (by kernel_rfl) (ltn Z) fun b41=>?_
    refine st_pv (pv_of (b:=b41) (n:=1) (sz:=5) (E:=25) [tyC s (.slice xa s.args.length xc)] Z (by simp [tyC]) Z (by decide)) ?_
    simp only [lC,lN]
    refine st_ok (r:=VR (.slice (some ⟨b41,0,none⟩) 1 1) 25 5 [tyC s (.slice xa s.args.length xc)]) slq fun hok3=>?_
    refine sV (v_build (cells:=[.slice (some ⟨b41,0,none⟩) 1 1,.int .i64 0]) Z (fun _=>by kernel_rfl)) ?_
    refine st_stoW Z Z sz38 Z Z ?_
    refine sK [8] Z (cT (xR (xR (xt_pv (pv_eq hSP.symm) ?_))))
    simp only [lC,lN]
    refine xt_pv (pv_unpack (L:=[VR (.slice (some ⟨b19,0,none⟩) 2 2) 25 5 [tyC s (.slice xa s.args.length xc),tyC t (.slice ya t.args.length yc)],S])) ?_
    simp only [lC,lN]
    exact xt_retV (.cellN Z ld38 Z slq .nil) ⟨VR (.slice (some ⟨b41,0,none⟩) 1 1) 25 5 [tyC s (.slice xa s.args.length xc)],Z,_,Z,Z,tys_one (Ty.of Z hx0) hok3⟩ sbr
   ·have hk:(s.kind == t.kind)=false:=hk
    have hj1:¬ ((s.kind == t.kind) && !isNmd s)=true:=by rw [hk,Bool.false_and]; decide
    refine cK (xT (cS (cQ (sV (vF Z fa25_0 Z) (sV (vY Z ld3) ?_)))))
    refine sV (v_eql Z Z) (sM Z (st_cut (k:=7) (d:=49) (v:=.bool ((s.kind == 0) && isNmd t)) (fun hcut=>bool_want (b:=(s.kind == 0)) true (fun hg=>?_) (fun hg=>?_)) ?_))
    ·refine st_sk Z Z hg ?_
     refine st_sk Z Z hg ?_
     refine sV (vP (bO Z hg) Z) ?_
     exact hcut _ uG
    ·refine sG Z (bG Z hg) (v_ldn Z ld25 Z rds_pt) ?_
     refine st_clrg Z (bG Z hg) Z Z en73 Z (hft) ?_
     refine sV (vQ (bO Z hg) Z) ?_
     exact hcut _ uG
    refine sK [0,6,7,8,9,49] Z (cC Z (fun h2=>?_) (fun h2=>?_))
    ·have h2:((s.kind == 0) && isNmd t)=true:=h2
     have hj:joinsK l x.formals s t=[t.with true t.sep]:=by unfold joinsK; rw [if_neg hj1,if_pos h2]
     rw [hj]
     refine cQ (sV (vF Z fa25_3 Z) (st_sto Z Z sz4 ?_))
     refine sK [0,6,7,8,9] Z (cQ (sV (v_ldn Z ld25 Z rds_pt) ?_))
     refine st_buildSlice (cells:=[.int .i64 t.kind,sv t.name,.slice ya t.args.length yc,.bool true,.bool t.sep]) Z Tryz.underlying23 inf25 Z Z (by kernel_rfl) (ltn Z) fun b52=>?_
     refine st_pv (pv_of (b:=b52) (n:=1) (sz:=5) (E:=25) [[.int .i64 t.kind,sv t.name,.slice ya t.args.length yc,.bool true,.bool t.sep]] Z (by simp) Z (by decide)) ?_
     simp only [lC,lN]
     refine st_ok (r:=VR (.slice (some ⟨b52,0,none⟩) 1 1) 25 5 [[.int .i64 t.kind,sv t.name,.slice ya t.args.length yc,.bool true,.bool t.sep]]) slq fun hok3=>?_
     refine sV (v_build (cells:=[.slice (some ⟨b52,0,none⟩) 1 1,.int .i64 0]) Z (fun _=>by kernel_rfl)) ?_
     refine st_stoW Z Z sz38 Z Z ?_
     refine sK [8] Z (cT (xR (xR (xt_pv (pv_eq hSP.symm) ?_))))
     simp only [lC,lN]
     refine xt_pv (pv_unpack (L:=[VR (.slice (some ⟨b19,0,none⟩) 2 2) 25 5 [tyC s (.slice xa s.args.length xc),tyC t (.slice ya t.args.length yc)],S])) ?_
     simp only [lC,lN]
     exact xt_retV (.cellN Z ld38 Z slq .nil) ⟨VR (.slice (some ⟨b52,0,none⟩) 1 1) 25 5 [[.int .i64 t.kind,sv t.name,.slice ya t.args.length yc,.bool true,.bool t.sep]],Z,_,Z,Z,tys_one (Ty.of (t:=t.with true t.sep) Z hy0) hok3⟩ sbr
    ·have h2:((s.kind == 0) && isNmd t)=false:=h2
     refine cK (xT (cS (cQ (sV (vF Z fa25_0 Z) (sV (vY Z ld3) ?_)))))
     refine sV (v_eql Z Z) (sM Z (st_cut (k:=7) (d:=60) (v:=.bool ((t.kind == 0) && isNmd s)) (fun hcut=>bool_want (b:=(t.kind == 0)) true (fun hg=>?_) (fun hg=>?_)) ?_))
     ·refine st_sk Z Z hg ?_
      refine st_sk Z Z hg ?_
      refine sV (vP (bO Z hg) Z) ?_
      exact hcut _ uG
     ·refine sG Z (bG Z hg) (v_ldn Z ld25 Z rds_pt) ?_
      refine st_clrg Z (bG Z hg) Z Z en73 Z (hfs) ?_
      refine sV (vQ (bO Z hg) Z) ?_
      exact hcut _ uG
     refine sK [0,6,7,8,9,60] Z (cC Z (fun h3=>?_) (fun h3=>?_))
     ·have h3:((t.kind == 0) && isNmd s)=true:=h3
      have hj:joinsK l x.formals s t=[s.with true s.sep]:=by unfold joinsK; rw [if_neg hj1,if_neg (by rw [h2]; decide),if_pos h3]
      rw [hj]
      refine cQ (sV (vF Z fa25_3 Z) (st_sto Z Z sz4 ?_))
      refine sK [0,6,7,8,9] Z (cQ (sV (v_ldn Z ld25 Z rds_pt) ?_))
      refine st_buildSlice (cells:=[.int .i64 s.kind,sv s.name,.slice xa s.args.length xc,.bool true,.bool s.sep]) Z Tryz.underlying23 inf25 Z Z (by kernel_rfl) (ltn Z) fun b63=>?_
      refine st_pv (pv_of (b:=b63) (n:=1) (sz:=5) (E:=25) [[.int .i64 s.kind,sv s.name,.slice xa s.args.length xc,.bool true,.bool s.sep]] Z (by simp) Z (by decide)) ?_
      simp only [lC,lN]
      refine st_ok (r:=VR (.slice (some ⟨b63,0,none⟩) 1 1) 25 5 [[.int .i64 s.kind,sv s.name,.slice xa s.args.length xc,.bool true,.bool s.sep]]) slq fun hok3=>?_
      refine sV (v_build (cells:=[.slice (some ⟨b63,0,none⟩) 1 1,.int .i64 0]) Z (fun _=>by kernel_rfl)) ?_
      refine st_stoW Z Z sz38 Z Z ?_
      refine sK [8] Z (cT (xR (xR (xt_pv (pv_eq hSP.symm) ?_))))
      simp only [lC,lN]
      refine xt_pv (pv_unpack (L:=[VR (.slice (some ⟨b19,0,none⟩) 2 2) 25 5 [tyC s (.slice xa s.args.length xc),tyC t (.slice ya t.args.length yc)],S])) ?_
      simp only [lC,lN]
      exact xt_retV (.cellN Z ld38 Z slq .nil) ⟨VR (.slice (some ⟨b63,0,none⟩) 1 1) 25 5 [[.int .i64 s.kind,sv s.name,.slice xa s.args.length xc,.bool true,.bool s.sep]],Z,_,Z,Z,tys_one (Ty.of (t:=s.with true s.sep) Z hx0) hok3⟩ sbr
     ·have h3:((t.kind == 0) && isNmd s)=false:=h3
      have hj:joinsK l x.formals s t=[]:=by
       unfold joinsK
       rw [if_neg hj1,if_neg (by rw [h2]; decide),if_neg (by rw [h3]; decide),if_pos]
       rw [← Bool.not_and,hrf]; rfl
      rw [hj]
      refine cK (xT (cQ (sV (v_build (cells:=[.slice none 0 0,.int .i64 0]) Z (fun _=>by kernel_rfl)) ?_)))
      refine st_stoW Z Z sz38 Z Z ?_
      refine sK [8] Z (cT (xR (xt_pv (pv_eq hSP.symm) ?_)))
      simp only [lC,lN]
      refine xt_pv (pv_unpack (L:=[VR (.slice (some ⟨b19,0,none⟩) 2 2) 25 5 [tyC s (.slice xa s.args.length xc),tyC t (.slice ya t.args.length yc)],S])) ?_
      simp only [lC,lN]
      exact xt_retV (.cellN Z ld38 Z slq .nil) ⟨VR (.slice (some ⟨b19,0,none⟩) 2 2) 25 5 [tyC s (.slice xa s.args.length xc),tyC t (.slice ya t.args.length yc)],Z,_,Z,Z,Tys.nil⟩ sbr
  ·have hrf:(isNmd s && isNmd t)=true:=by rw [Bool.not_eq_false'] at hrf; exact hrf
   rw [Bool.and_eq_true] at hrf
   have hjn:=hjn hrf.1 hrf.2
   rw [hjl hrf.1 hrf.2]
   have hlb:=lowJ_len (l:=l) (all:=all) (F:=x.formals) (s:=s) (t:=t) hK
   generalize lowJ l all x.formals s t=low at *
   refine cK (xT (cQ (sM Z (sV (v_ldn Z ld54 Z rds_pt) ?_))))
   refine sV (v_ldn Z ld25 Z rds_pt) ?_
   refine sV (v_ldn Z ld25 Z rds_pt) ?_
   refine st_cl Z Z en74 Z (hjn) ?_
   rintro u h' ⟨T0,rfl,la,lc,rows,T,rfl,rfl,hrows⟩
   simp only [lC,lN]
   refine st_pv (pv_unpack (L:=[VR (.slice la low.length lc) 25 5 rows,T])) ?_
   simp only [lC,lN]
   refine st_ok (r:=VR (.slice la low.length lc) 25 5 rows) slq fun hok0=>?_
   have hcap:low.length≤lc∧lc≤maxLen:=by
    obtain ⟨a,cp,h1,h2,h3⟩:=vr_form hok0
    simp only [Value.slice.injEq] at h1
    obtain ⟨_,h5,h6⟩:=h1
    rw [h5,h6]
    exact ⟨h2,h3⟩
   refine sA Z (sK [6,7,8,12] Z (cS (cQ (sA Z (sN (nT (cB (cd_lq (σ := List (List Value)×Nat) (fun q=>[(6,.pointer (some ⟨b6,0,none⟩)),(7,.pointer (some ⟨b7,0,none⟩)),(8,.pointer (some ⟨b8,0,none⟩)),(12,.slice la low.length lc),(13,.int .i64 (q.2:Nat))]) (fun q=>VR (.slice la low.length lc) 25 5 q.1::T::pt b6 (cl [.int .i64 s.kind,sv s.name,.slice xa s.args.length xc,.bool s.void,.bool s.sep] 25)::pt b7 (cl [.int .i64 t.kind,sv t.name,.slice ya t.args.length yc,.bool t.void,.bool t.sep] 25)::pt b8 (cl [.slice none 0 0,.int .i64 0] 38)::SP::hr) (fun q=>q.2≤low.length∧TyRows (Res.star [T,SP]) q.1 ((low.take q.2).map (fun y=>y.with (s.void || t.void) (s.sep || t.sep))++low.drop q.2)) (fun q=>low.length - q.2) (rows,0) ⟨Nat.zero_le _,hrows⟩ ?_))))))))
   rintro ⟨rw,i⟩ ⟨hi,hro⟩
   simp only at hi hro
   dsimp only
   refine cS (cQ (sM Z (sM Z (sV (v_len Z Tryz.underlying23) (sV (v_lss Z Z) (sK [6,7,8,12,13,74] Z (cC Z (fun hd=>?_) (fun hd=>?_))))))))
   ·have hlt:i<low.length:=by simpa using hd
    refine cd_ok (r:=VR (.slice la low.length lc) 25 5 rw) slq fun hok2=>?_
    have hrl:rw.length=low.length:=by rw [hro.1]; simp; omega
    obtain ⟨b,o,rfl⟩:=vr_addr hok2 (by omega)
    have hri:rw[i]? = some rw[i]:=List.getElem?_eq_getElem (by omega)
    have hti:=hro.2.2 i _ low[i] hri (by rw [List.getElem?_append_right (by simp; omega)]; simp [hlt,Nat.min_eq_left hi])
    have hsl:(((low.take i).map (fun y=>y.with (s.void || t.void) (s.sep || t.sep))++low.drop i).set i ((low[i]).with (s.void || t.void) (s.sep || t.sep)))=(low.take (i+1)).map (fun y=>y.with (s.void || t.void) (s.sep || t.sep))++low.drop (i+1):=by
     rw [List.set_append_right _ _ (by simp; omega),List.length_map,List.length_take,Nat.min_eq_left hi,Nat.sub_self,List.drop_eq_getElem_cons hlt,List.set_cons_zero,show low.take (i+1)=low.take i++[low[i]] by rw [List.take_add_one,List.getElem?_eq_getElem hlt]; rfl,List.map_append,List.append_assoc]
     rfl
    have hiw:i<rw.length:=by omega
    generalize low[i]=y at hti hsl
    obtain ⟨z,hz,hzt⟩:=hti.out
    obtain ⟨za,zc,rfl,_⟩:=id hzt.form
    rw [hz] at hri
    unfold tyC at hri
    have hst:=hro.set i (us:=[.int .i64 y.kind,sv y.name,.slice za y.args.length zc,.bool (s.void || t.void),.bool (s.sep || t.sep)]) (Ty.of (t:=y.with (s.void || t.void) (s.sep || t.sep)) rfl hzt)
    rw [hsl] at hst
    have hri2:(rw.set i [.int .i64 y.kind,sv y.name,.slice za y.args.length zc,.bool (s.void || t.void),.bool y.sep])[i]? = some [.int .i64 y.kind,sv y.name,.slice za y.args.length zc,.bool (s.void || t.void),.bool y.sep]:=List.getElem?_set_self hiw
    refine cK (xT (cS (cB (cQ (sM Z (sM Z (sV (vF Z fa25_3 Z) (sV (vY Z ld4) ?_))))))))
    refine sM Z (st_cut (k:=8) (d:=84) (v:=.bool (s.void || t.void)) (fun hcut=>bool_want (b:=(s.void)) false (fun hg=>?_) (fun hg=>?_)) ?_)
    ·refine st_sk Z Z hg ?_
     refine st_sk Z Z hg ?_
     refine sV (vQ (bO Z hg) Z) ?_
     exact hcut _ uG
    ·refine sG Z (bG Z hg) (vF Z fa25_3 Z) (sG Z (bG Z hg) (vY Z ld4) ?_)
     refine sV (vP (bO Z hg) Z) ?_
     exact hcut _ uG
    refine sV (vI (k:=i) Z Z sl23 Z hlt Z) (sV (vF Z fa25_3 Z) (st_vr (rows':=rw.set i [.int .i64 y.kind,sv y.name,.slice za y.args.length zc,.bool (s.void || t.void),.bool y.sep]) Z Z sz4 Z hri (by decide) Z slq ?_))
    refine sK [6,7,8,12,13] Z (cR (sM Z (sM Z (sV (vF Z fa25_4 Z) (sV (vY Z ld4) ?_)))))
    refine sM Z (st_cut (k:=8) (d:=94) (v:=.bool (s.sep || t.sep)) (fun hcut=>bool_want (b:=(s.sep)) false (fun hg=>?_) (fun hg=>?_)) ?_)
    ·refine st_sk Z Z hg ?_
     refine st_sk Z Z hg ?_
     refine sV (vQ (bO Z hg) Z) ?_
     exact hcut _ uG
    ·refine sG Z (bG Z hg) (vF Z fa25_4 Z) (sG Z (bG Z hg) (vY Z ld4) ?_)
     refine sV (vP (bO Z hg) Z) ?_
     exact hcut _ uG
    refine sV (vI (k:=i) Z Z sl23 Z hlt Z) (sV (vF Z fa25_4 Z) (st_vr (rows':=rw.set i [.int .i64 y.kind,sv y.name,.slice za y.args.length zc,.bool (s.void || t.void),.bool (s.sep || t.sep)]) Z Z sz4 Z hri2 (by decide) (by rw [List.set_set]; rfl) slq ?_))
    refine sN (nK [6,7,8,12,13] Z (nx_xt (xB (xT (cR (sM Z (sV (v_add Z Z (by unfold I64 at *; omega)) (sA Z (sN (nK [6,7,8,12,13] Z (nx_xt ?_)))))))))))
    refine xt_aq (rw.set i [.int .i64 y.kind,sv y.name,.slice za y.args.length zc,.bool (s.void || t.void),.bool (s.sep || t.sep)],i+1) ⟨hlt,hst⟩ (Nat.sub_lt_sub_left hlt (Nat.lt_succ_self i))
   ·have hil:i=low.length:=by
     have:¬ i<low.length:=by simpa using hd
     omega
    rw [hil,List.take_length,List.drop_length,List.append_nil] at hro
    refine cd_exit (xE (xE (xY (xT (cQ (sM Z (sV (v_build (cells:=[.slice la low.length lc,.int .i64 0]) Z (fun _=>by kernel_rfl)) ?_)))))))
    refine st_stoW Z Z sz38 Z Z ?_
    refine sK [8] Z (cT (xt_ok (r:=VR (.slice la low.length lc) 25 5 rw) slq fun hok2=>?_))
    refine xt_pv (pv_pack (L:=[VR (.slice la low.length lc) 25 5 rw,T])) ?_
    simp only [lC,lN]
    have hty:Tys (Res.star [Res.star [VR (.slice la low.length lc) 25 5 rw,T],SP]) (.slice la low.length lc) (low.map fun y=>y.with (s.void || t.void) (s.sep || t.sep)):=(hro.mono fun p u g=>rd_up p u (.there .here) g).tys hok2 (fun p u g=>rd_in .here p u (rd_in .here p u g)) (by rw [List.length_map]; omega)
    refine xt_pv (pv_eq hSP.symm) ?_
    simp only [lC,lN]
    refine xt_pv (pv_unpack (L:=[VR (.slice (some ⟨b19,0,none⟩) 2 2) 25 5 [tyC s (.slice xa s.args.length xc),tyC t (.slice ya t.args.length yc)],S])) ?_
    simp only [lC,lN]
    refine xt_pv (pv_pack (L:=[VR (.slice (some ⟨b19,0,none⟩) 2 2) 25 5 [tyC s (.slice xa s.args.length xc),tyC t (.slice ya t.args.length yc)],Res.star [VR (.slice la low.length lc) 25 5 rw,T]])) ?_
    simp only [lC,lN]
    exact xt_retV (.cellN Z ld38 Z slq .nil) ⟨_,Z,_,Z,Z,hty.mono fun p u g=>rd_turn p u (by rw [← hSP] at g; exact g)⟩ sbr
end
end Go.Hr
namespace Go.Hr
open Go
def nB (s:String):Nm:=s.toUTF8.data.toList
def exT (n:Nm) (az:List Kt):Kt:=.mk 3 n az false false
def exF (n:Nm):Kt:=.mk 4 n [] false false
def exV (t:Kt):Kt:=t.with true t.sep
def exText : Kt := exT (nB "TEXT") []
def exL : KS := [⟨nB "COMPARABLE", [], [], 0⟩, ⟨nB "TEXT", [], [⟨nB "COMPARABLE", []⟩], 0⟩, ⟨nB "LIST", [⟨nB "G", root⟩], [], 0⟩, ⟨nB "SORTED", [⟨nB "H", nB "COMPARABLE"⟩], [⟨nB "LIST", [exF (nB "H")]⟩], 0⟩, ⟨nB "WORDS", [], [⟨nB "SORTED", [exText]⟩], 0⟩, ⟨nB "BAG", [⟨nB "G", root⟩], [⟨nB "LIST", [exF (nB "G")]⟩], 0⟩]
theorem ex_check:(kcheck exL).1=0:=by decide +kernel
theorem ex_inst1 : InstK exL (exT (nB "WORDS") []) (nB "LIST") = ([exText], 0) := by decide +kernel
theorem ex_inst2 : InstK exL (exT (nB "SORTED") [exF (nB "H")]) (nB "LIST") = ([exF (nB "H")], 0) := by decide +kernel
theorem ex_seen : SeenK exL (exT (nB "WORDS") []) (nB "LIST") (exV (exF (nB "G"))) = (exV exText, 0) := by decide +kernel
theorem ex_supers : SupersK exL (nB "WORDS") (exT (nB "WORDS") []) = ([exT (nB "WORDS") [], exT (nB "SORTED") [exText], exT (nB "LIST") [exText], exT root []], 0) := by decide +kernel
theorem ex_why1 : WhyK exL (nB "WORDS") (exT (nB "WORDS") []) (exT (nB "LIST") [exText]) = ((5, [nB "WORDS", nB "SORTED", nB "LIST"]), 0) := by decide +kernel
theorem ex_why2 : (WhyK exL (nB "WORDS") (exT (nB "WORDS") []) (exV (exT (nB "LIST") [exT (nB "COMPARABLE") []]))).1.1 = 15 ∧ (WhyK exL (nB "WORDS") (exT (nB "WORDS") []) (exV (exT (nB "LIST") [exT (nB "COMPARABLE") []]))).2 = 0 := by decide +kernel
theorem ex_why3 : WhyK exL (nB "SORTED") (exF (nB "H")) (exT (nB "COMPARABLE") []) = ((5, [nB "COMPARABLE"]), 0) := by decide +kernel
theorem ex_why4 : WhyK exL (nB "WORDS") zeroT exText = ((11, []), 0) := by decide +kernel
theorem ex_joins1 : JoinsK exL (nB "WORDS") (exT (nB "WORDS") []) (exT (nB "BAG") [exText]) = ([exT (nB "LIST") [exText]], 0) := by decide +kernel
theorem ex_joins2 : JoinsK exL (nB "WORDS") (exT (nB "WORDS") []) (exV (exT (nB "BAG") [exT (nB "COMPARABLE") []])) = ([exV (exT root [])], 0) := by decide +kernel
theorem ex_right1 : askedE exL (nB "WORDS") [exT (nB "SORTED") [exText]] = 0 := by decide +kernel
theorem ex_right2 : askedE exL (nB "WORDS") [exT (nB "SORTED") [exT (nB "LIST") [exText]]] = 8 := by decide +kernel
theorem ex_right3 : askedE exL (nB "WORDS") [exT (nB "LIST") [exV exText]] = 8 := by decide +kernel
end Go.Hr
