/-
  Package heir: Ring; Go's library: Or. Conditions: what is read.
  The law's at; the specification's SameNames. Conditions: what is read.
  Go's library: IndexFunc,ContainsFunc on names; package heir: names. Conditions: what is read,what the given function does.
  Package heir: Check. Conditions: what is read.
  The law's right. Conditions: what is read.
  Package heir: right,Above,Is. Conditions: what is read.
  Package heir: Above,Is,Way,Below,Touched. Conditions: what is read.
  Package heir: Touched; Go's library: Collect. Conditions: what is read.
  Package heir: CheckWay,CheckRing. Conditions: what is read.
  Package heir: Ways. Conditions: what is read.
-/
import Derived.Test.YtaohbfnepjjdgaaGreatM8
import Derived.Test.YtaohbfnepjjdgaaGreatM1
set_option linter.unusedVariables false
set_option linter.unusedSimpArgs false
namespace Go.Hr
open Go Go.Ck Go.Proofs Go.Proofs.YtaohbfnepjjdgaaGreat Fx
attribute [local irreducible] Go.Ck.Sub St Cd Xt Nx DrL LsW
def numC (us:List Value) (n:Int):Prop:=us=[.int .i64 n]
def orI (xs:List Int):Int:=(xs.find? (· != 0)).getD 0
theorem ring_lt {a b : List Nm} : decide (orI [cmpI a.length b.length, cmpL a b] < 0) = ringLt a b := by
 unfold orI ringLt cmpI
 rw [← cmpL_lt]
 rcases Nat.lt_trichotomy a.length b.length with h | h | h
 ·have h1:(a.length:Int)<b.length:=by omega
  simp [h1,h]
 ·simp only [h,Int.lt_irrefl,if_false,List.find?_cons,bne_self_eq_false,Nat.lt_irrefl,decide_false,Bool.false_or,decide_true,Bool.true_and]
  by_cases hc:cmpL a b=0
  ·simp [hc]
  ·have:(cmpL a b != 0)=true:=by simpa using hc
   rw [this]; rfl
 ·have h1:¬ (a.length:Int)<b.length:=by omega
  have h2:(b.length:Int)<a.length:=by omega
  have h3:¬ a.length<b.length:=by omega
  have h4:¬ a.length=b.length:=by omega
  simp [h1,h2,h3,h4]
section
variable {S:Res} {v:Value} {l:Sys}
set_option maxRecDepth 100000 in
theorem Or_ct {xs : List Int} (hv : Row S 1 numC v xs) (hl : xs.length ≤ 1099511627776) : Reads Tryz.prog 159 #[v] [S] (.int .i64 (orI xs)) := by
 obtain ⟨a,cap,rfl,_⟩:=id hv
 refine ct_of (n:=18) Tryz.func159 Z Z (len Z) fun hr w0=>?_
 refine cQ (sA Z (sN (nT (cQ (sA Z (sN (nT (cS (cQ (sM Z (sV (v_len Z Tryz.underlying219) (sM Z ?_))))))))))))
 refine sK [2,3,6,7,8] Z (cB (cd_lq (σ := Nat) (fun i=>[(3,.int .i64 0),(6,.slice a xs.length cap),(7,.int .i64 xs.length),(8,.int .i64 (i:Nat))]) (fun _=>S::hr) (fun i=>i≤xs.length∧orI xs=orI (xs.drop i)) (fun i=>xs.length - i) 0 ⟨Nat.zero_le _,Z⟩ ?_))
 rintro i ⟨hi,ho⟩
 refine cQ (sV (v_lss Z Z) (sN (nT (cS (cC Z (fun hd=>?_) (fun hd=>?_))))))
 ·have hlt:i<xs.length:=by simpa using hd
  obtain ⟨b,o,cap2,u,hv2,hrd,hu⟩:=Row.at1 hv (List.getElem?_eq_getElem hlt)
  simp only [numC,List.cons.injEq,and_true] at hu
  subst hu
  have hx:xs.drop i=xs[i]::xs.drop (i+1):=(List.getElem_cons_drop hlt).symm
  refine cK (xT (cS (cB (cQ (sV (vI (k:=i) (congrArg some hv2) Z sl219 Z hlt Z) (sV (vY Z ld3) ?_))))))
  refine sA Z (sK [3,5,6,7,8] Z (cQ (sM Z (sM Z (sV (v_neq Z Z) (sK [3,5,6,7,8,14] Z (cC Z (fun hn=>?_) (fun hn=>?_))))))))
  ·refine cQ (sM Z (sA Z (sK [2] Z (cT (xW (xR (xR (xW (xR ?_)))))))))
   rw [ho,hx,show orI (xs[i]::xs.drop (i+1))=xs[i] by unfold orI; rw [List.find?_cons_of_pos (by exact hn)]; rfl]
   exact xt_rt Z ⟨Z,Z⟩ sbq
  ·refine cK (xB (xT (cR (sV (v_add Z Z (by unfold I64 at *; omega)) (sM Z (sN (nK [3,6,7,8] Z (nx_xt (xt_aq (i+1) ⟨hlt,by rw [ho,hx]; unfold orI; rw [List.find?_cons_of_neg (by rw [hn]; decide)]⟩ (by show _ - _<_ - _; omega))))))))))
 ·have hil:i=xs.length:=by
   have:¬ i<xs.length:=by simpa using hd
   omega
  rw [ho,List.drop_eq_nil_of_le (by omega)]
  refine cd_exit (xE (xE (xY (xT (cQ (sM Z (sA Z (sK [2] Z (cT ?_)))))))))
  exact xt_rt Z ⟨Z,Z⟩ sbq
theorem rd_vr_flat {b o n cp j:Nat} {E:TypeId} {sz:Nat} {rows:List (List Value)} {u:Value} (hj:rows.flatten[j]? = some u):Rd (VR (.slice (some ⟨b,o,none⟩) n cp) E sz rows) ⟨b,o+j,none⟩ u:=fun w hw=>by
 obtain ⟨h1,h2⟩:=hw
 rcases h2 with ⟨h3,_⟩ | ⟨b',o',cp',pre,jj,h3,hb,hp,_⟩
 ·cases h3
 ·cases h3
  have hb':w.heap[b]? = _:=hb
  have hlt:=(List.getElem?_eq_some_iff.1 hj).1
  simp only [World.cell?,hb',cl,List.getElem?_toArray,Option.isSome_none,Bool.false_eq_true,if_false]
  rw [List.getElem?_append_right (by omega),hp,show o+j - o=j by omega,List.getElem?_append_left hlt,hj]
theorem flat_nC (xs:List Nm):(xs.map nC).flatten=xs.map sv:=by
 induction xs with
 | nil=>rfl
 | cons x t ih=>rw [List.map_cons,List.flatten_cons,ih]; rfl
theorem flat_drop {xs:List Nm} {j:Nat} {u:Value} (h:((xs.dropLast).map nC).flatten[j]? = some u):(xs.map nC).flatten[j]? = some u:=by
 rw [flat_nC,List.getElem?_map] at h ⊢
 obtain ⟨x,hx,he⟩:=Option.map_eq_some_iff.1 h
 rw [List.dropLast_eq_take,List.getElem?_take] at hx
 split at hx
 ·rw [hx]; simp [he]
 ·cases hx
theorem flat_one {xs:List Nm} {u:Value} (h:u∈(xs.map nC).flatten):u.oneCell'=true:=by
 rw [flat_nC] at h
 obtain ⟨x,_,rfl⟩:=List.mem_map.1 h
 rfl
def BestV (w:Value) (b:Option (List Nm)):Prop:=∃ wa cp,w = .slice wa (b.getD []).length cp∧wa.isNone=b.isNone
def preC (l:Sys) (i:Nat):List (List Nm):=(l.take i).flatMap fun x=>(par l x.name).filterMap (cand l x.name)
theorem preC_all (l:Sys):preC l l.length=cands l:=by
 unfold preC cands nms
 rw [List.take_length,List.flatMap_map]
theorem preC_succ {l:Sys} {i:Nat} (h:i<l.length):preC l (i+1)=preC l i++(par l (l[i]).name).filterMap (cand l (l[i]).name):=by
 unfold preC
 rw [List.take_succ_eq_append_getElem h,List.flatMap_append,List.flatMap_singleton]
theorem shortR_len (l:Sys) (to c:Nm):(shortR l to c).length≤l.length+1:=by
 unfold shortR
 cases h:dist l to c with
 | none=>simp
 | some k=>have:=dist_le h; simp only [short_len]; omega
theorem mem_len {l:Sys} {i k:Nat} {cn:Nm} {q:List Nm} (h:some q=(preC l i++((par l cn).take k).filterMap (cand l cn)).foldl better none):q.length≤l.length+1:=by
 have hm:=((better_some _ _).2 q h.symm).resolve_left (by simp)
 have key:∀ c p,cand l c p=some q→q.length≤l.length+1:=fun c p hc=>by
  unfold cand at hc
  obtain ⟨m,hdm,rfl⟩:=Option.map_eq_some_iff.1 hc
  have:=dist_le hdm
  simp [short_len]; omega
 rcases List.mem_append.1 hm with hm | hm
 ·obtain ⟨x,_,hx⟩:=List.mem_flatMap.1 hm
  obtain ⟨p,_,hp⟩:=List.mem_filterMap.1 hx
  exact key _ p hp
 ·obtain ⟨p,_,hp⟩:=List.mem_filterMap.1 hm
  exact key _ p hp
theorem row_two {b:Nat} {x y:Int}:Row (pt b (cl [.int .i64 x,.int .i64 y] 3)) 1 numC (.slice (some ⟨b,0,none⟩) 2 2) [x,y]:=
 ⟨some ⟨b,0,none⟩,2,rfl,Nat.le_refl _,by decide,(fun h=>by cases h),fun i z hi=>by
  match i,hi with
  | 0,hi=>cases hi; exact ⟨b,0,[.int .i64 x],rfl,rfl,fun j hj=>by match j,hj with | 0,_=>exact rd_cl rfl,rfl⟩
  | 1,hi=>cases hi; exact ⟨b,0,[.int .i64 y],rfl,rfl,fun j hj=>by match j,hj with | 0,_=>exact rd_cl rfl,rfl⟩⟩
theorem ring_snoc {cs:List (List Nm)} {r:List Nm}:(cs++[r]).foldl better none=better (cs.foldl better none) r:=by simp [List.foldl_append]
set_option maxHeartbeats 2000000 in
set_option maxRecDepth 100000 in
theorem Ring_ct (hv : sysR S v l) (hF : Fine l) : CtN Tryz.prog 132 #[v] [S] fun u T => ∃ w, u = .tuple #[w, .bool (ring l).isSome] ∧ w.oneCell' = true ∧ T = NR w ((ring l).getD []) := by
 obtain ⟨a,cap,rfl,_⟩:=id hv
 have hFl:=hF.len
 refine ct_ofM (n:=60) Tryz.func132 Z Z (len Z) fun hr w0=>?_
 refine cQ (sA Z (sA Z (sN (nT (cQ (sM Z (st_cl Z Z en153 Z (of_ct hv (by omega)) ?_)))))))
 rintro u h' ⟨mb,rfl,rfl⟩
 refine st_alc al165 fun b4=>?_
 refine st_stoW Z Z sz165 Z Z ?_
 refine sK [0,2,3,4] Z (cQ (st_alc al50 fun b5=>?_))
 refine sN (nT (cS (cQ (sM Z (sV (v_len Z Tryz.underlying22) (sM Z (sK [2,3,4,5,13,14,15] Z (cB (cd_vw (vw_nil 9 1) (cd_marks0 ?_))))))))))
 simp only [lC,lN]
 refine cd_loopD (σ := Nat×(Value×Option (List Nm))×List Nat) (fun q=>q.2.2.map mk) (fun q=>[(4,.pointer (some ⟨b4,0,none⟩)),(5,.pointer (some ⟨b5,0,none⟩)),(13,.slice a l.length cap),(14,.int .i64 l.length),(15,.int .i64 (q.1:Nat))]) (fun q=>Res.star (marks q.2.2)::pt b5 (cl [q.2.1.1] 50)::NR q.2.1.1 (q.2.1.2.getD [])::pt b4 (cl [.slice a l.length cap,.map (some mb)] 165)::S::mps mb (kindsM l)::hr) (fun q=>q.1≤l.length∧BestV q.2.1.1 q.2.1.2∧q.2.1.2=(preC l q.1).foldl better none) (fun q=>l.length - q.1) (0,(.slice none 0 0,none),[]) ⟨Nat.zero_le _,⟨none,0,Z,Z⟩,Z⟩ Z ⟨Z,Z,Z,Z,Z,trivial⟩ sbq ?_
 rintro ⟨i,⟨w0,best⟩,bs⟩ ⟨hi,hbv,hbest⟩
 simp only at hi hbv hbest
 obtain ⟨wa,wcp,rfl,hwa⟩:=id hbv
 dsimp only
 refine cQ (sV (v_lss Z Z) (sN (nT (cS (cC Z (fun hd=>?_) (fun hd=>?_))))))
 ·have hlt:i<l.length:=by simpa using hd
  obtain ⟨b,o,cap2,d,f,pa,pc,c2,fa,fc,j2,hv2,hrd,hP,hone⟩:=sys_at hv (List.getElem?_eq_getElem hlt)
  have hpre:=preC_succ hlt
  generalize hcn:(l[i]).name=cn at *
  refine cK (xT (cS (cB (cQ (sV (vI (k:=i) (congrArg some hv2) Z sl22 Z hlt Z) (sV (v_ldn Z ld54 Z hrd) ?_))))))
  refine st_alc al54 fun b7=>?_
  refine st_stoW Z Z sz54 Z hone ?_
  refine sK [4,5,7,13,14,15] Z (cQ (sV (v_ldn Z ld165 Z rds_pt) ?_))
  refine sV (vF Z fa54_0 Z) (sV (vY Z ld9) ?_)
  refine st_cl Z Z en125 Z (parents0_ct Z) ?_
  rintro u h' ⟨n1,n2,rfl,rfl⟩
  refine sK [4,5,7,13,14,15,22] Z (cB ?_)
  simp only [lC,lN]
  unfold seqv
  refine cd_range' Z en156 fun yl db rec hst hpe hps hasg hbo hkn2=>?_
  refine ⟨_,Ct.perm (it_ct (σ := Value×Option (List Nm)) (b1:=n1) (b2:=n2) (mb:=mb) (yl:=yl) (c:=cn) (fun q=>pt yl (.loop rec)::pt db (.deferred (some []))::pt b7 (cl [sv cn,d,f,.slice pa l[i].parents.length pc,c2,.slice fa l[i].feats fc,j2] 54)::Res.star (marks bs)::pt b5 (cl [q.1] 50)::NR q.1 (q.2.getD [])::pt b4 (cl [.slice a l.length cap,.map (some mb)] 165)::hr)
   (fun k q=>BestV q.1 q.2∧q.2=(preC l i++((par l cn).take k).filterMap (cand l cn)).foldl better none) (fun _ _=>False) (_,best) ⟨hbv,by rw [hbest]; simp⟩ hv hF.few ?_) ?_,?_⟩
  ·rintro k ⟨w, bst⟩ p hk ⟨hbv2, hb2⟩
   simp only at hbv2 hb2
   obtain ⟨hkl,hke⟩:=List.getElem?_eq_some_iff.1 hk
   have hpm:=List.mem_of_getElem? hk
   have htk:((par l cn).take (k+1)).filterMap (cand l cn)=((par l cn).take k).filterMap (cand l cn)++(cand l cn p).toList:=by
    rw [List.take_succ_eq_append_getElem hkl,hke,List.filterMap_append]
    congr 1
   obtain ⟨wa2,wcp2,rfl,hwa2⟩:=id hbv2
   refine Yc.perm (yc_of (n:=60) (rec:=rec) (args:=[sv p]) (hf:=pt db (.deferred (some []))::pt b7 (cl [sv cn,d,f,.slice pa l[i].parents.length pc,c2,.slice fa l[i].feats fc,j2] 54)::Res.star (marks bs)::pt b5 (cl [.slice wa2 (bst.getD []).length wcp2] 50)::NR (.slice wa2 (bst.getD []).length wcp2) (bst.getD [])::pt b4 (cl [.slice a l.length cap,.map (some mb)] 165)::S::mps mb (kindsM l)::hr) (by rw [hps]; rfl) hkn2 (by rw [hps]; decide) ?_) (by exact (by repeat (first | exact Pm.refl | refine Pm.cons slq ?_):Pm _ _).perm)
   intro hr2 w1
   rw [hasg,hps,hbo]
   simp only [lC,lN]
   refine cR (sA Z (sN (nK [4,5,7,8] Z (nx_xt (xt_mid Z slq (by first | rfl | assumption) ?_)))))
   refine cB (cQ (sV (v_ldn Z ld165 Z rds_pt) ?_))
   refine sM Z (sV (vF Z fa54_0 Z) (sV (vY Z ld9) ?_))
   refine st_cl Z Z en147 Z (shortest_ct hv hF p cn) ?_
   rintro u h' ⟨T,rfl,sa,scp,rfl,hsa,rfl⟩
   simp only [lC,lN]
   refine sA Z (sK [5,7,9] Z (cS (cQ (sM Z (sV (v_eql_slice_nil Z Z Tryz.underlying50) (sK [5,7,9,30] Z ?_))))))
   have hsl:=shortR_len l cn p
   rw [hsa]
   cases hdp:dist l cn p
   ·have hcd:cand l cn p=none:=by unfold cand; rw [hdp]; rfl
    refine cd_true Z ?_
    refine cd_exit (xE (xY (xt_round slq (.inl ⟨Z,(_,bst),⟨hbv2,?_⟩,Z⟩) ?_)))
    ·show bst=_
     rw [htk,hcd,hb2]; simp
    ·rw [rec_back hst hpe]
     exact sbr
   ·rename_i m
    have hml:=dist_le hdp
    have hcd:cand l cn p=some (cn::(short l cn m p).dropLast):=by unfold cand; rw [hdp]; rfl
    have hsr:shortR l cn p=short l cn m p:=by unfold shortR; rw [hdp]
    rw [hsr] at hsl ⊢
    refine cd_ok (r:=NR (.slice sa (short l cn m p).length scp) (short l cn m p)) slq fun ⟨fh,hok⟩=>?_
    obtain ⟨ub,uo,rfl⟩:∃ ub uo,sa=some ⟨ub,uo,none⟩:=by
     rcases VR.form hok with ⟨he,_⟩ | ⟨ub,uo,uc,he,_⟩
     ·injection he with e1 _ _
      rw [e1,hdp] at hsa; cases hsa
     ·injection he with e1 _ _
      exact ⟨ub,uo,e1⟩
    have hscp:(short l cn m p).length≤scp:=by
     rcases VR.form hok with ⟨he,_⟩ | ⟨ub',uo',uc,he,hc1,_⟩
     ·cases he
     ·injection he with _ _ e3
      rw [List.length_map] at hc1; omega
    refine cd_false Z ?_
    refine cK (xT (cS (cd_draw (ork [(0,2),(1,1),(3,2),(4,2),(5,2),(6,2),(7,1),(2,0),(8,0),(9,2)] .nil) (fun i => !(Nat.beq i 8)) [pt b7 (cl [sv cn,d,f,.slice pa l[i].parents.length pc,c2,.slice fa l[i].feats fc,j2] 54)] mixed (by kernel_rfl) ?_)))
    refine dV Z (vF Z fa54_0 Z) (dr_v Z (vY Z ld9) ?_)
    refine dV Z (vM Z) (dV Z (vM Z) (dV Z (v_len Z Tryz.underlying50) (dV Z (v_sub Z Z (by unfold I64 at *; omega)) (dr_v Z (v_sliceHead (hi:=m) Z Z sl50 (by rw [short_len]; omega) (by rw [short_len] at hscp; omega)) ?_))))
    refine dr_eff Z (st_buildSlice (cells:=[sv cn]) Z Tryz.underlying50 inf9 Z Z (by kernel_rfl) (ltn Z) fun b33=>dr_nx ?_)
    refine dr_eff rfl (st_pv (p:=.cons .here .nil) (pv_of (b:=b33) (n:=1) (sz:=1) (E:=9) [nC cn] rfl (by simp [nC]) rfl (by decide)) (st_app (v:=.slice (some ⟨b33,0,none⟩) 1 1) ((short l cn m p).dropLast.map nC) rfl rfl Tryz.underlying50 inf9 rfl (by decide) slq (fun r hr=>by obtain ⟨x,_,rfl⟩:=List.mem_map.1 hr; rfl) (by simp [short_len]) (fun j u2 hu2=>⟨NR (.slice (some ⟨ub,uo,none⟩) (short l cn m p).length scp) (short l cn m p),_,slq,rd_vr_flat (flat_drop hu2)⟩) (fun u2 hu2=>flat_one hu2) (by simp; omega) (by simp; omega) (ltn rfl) fun v3 hv3 hv0=>(dr_nx ?_)))
    rw [show [nC cn]++(short l cn m p).dropLast.map nC=(cn::(short l cn m p).dropLast).map nC from rfl]
    refine dV Z (vA Z) (dr_nil (nK [5,10] Z (nT (cS (cd_ok (r:=NR v3 (cn::(short l cn m p).dropLast)) slq fun ⟨fh2,hok2⟩=>?_)))))
    obtain ⟨vb,vo,vc,rfl⟩:∃ vb vo vc,v3 = .slice (some ⟨vb,vo,none⟩) (cn::(short l cn m p).dropLast).length vc:=by
     rcases VR.form hok2 with ⟨_,he⟩ | ⟨vb,vo,vc,he,_⟩
     ·cases he
     ·exact ⟨vb,vo,vc,by rw [he,List.length_map]⟩
    have hrl:(cn::(short l cn m p).dropLast).length≤900002:=by simp [short_len]; omega
    generalize cn::(short l cn m p).dropLast=r at *
    rw [hcd] at htk
    have hround:∀ b',b'=better bst r→b'=(preC l i++((par l cn).take (k+1)).filterMap (cand l cn)).foldl better none:=fun b' hb'=>by
     rw [hb',htk,← List.append_assoc,Option.toList_some,ring_snoc,← hb2]
    cases bst
    ·obtain rfl:wa2=none:=by cases wa2 with | none=>rfl | some x=>cases hwa2
     refine cd_drawh (ork [(0,1),(1,1),(2,2),(3,2),(4,2),(5,1),(6,2),(7,1),(8,2),(9,1),(10,1),(11,1),(12,1),(13,2),(14,2)] .nil) (fun _=>true) mixed (by kernel_rfl) ?_
     refine dr_v Z (vY Z ld50) ?_
     refine dr_v Z (v_eql_slice_nil Z Z Tryz.underlying50) (dV Z (vM Z) (dp_sk Z Z Z Z ?_))
     refine dp_sk Z Z Z Z ?_
     refine dr_sk Z Z Z Z ?_
     refine dp_sk Z Z Z Z ?_
     refine dr_sk Z Z Z Z ?_
     refine dp_sk Z Z Z Z ?_
     iterate 4 refine dr_sk rfl rfl rfl rfl ?_
     refine dp_sk Z Z Z Z ?_
     refine dV Z (vQ Z Z) (dr_nil (nK [5,10,54] Z (nT (cd_true Z ?_))))
     refine cR (sM Z (st_sto Z Z sz50 ?_))
     refine sN (nK [] Z (nx_xt (xB (xt_round slq (.inl ⟨Z,(.slice (some ⟨vb,vo,none⟩) r.length vc,some r),⟨⟨some ⟨vb,vo,none⟩,vc,Z,Z⟩,hround (some r) Z⟩,Z⟩) ?_))))
     rw [rec_back hst hpe]
     exact sbr
    ·rename_i q
     obtain ⟨qa,rfl⟩:∃ x,wa2=some x:=by cases wa2 with | none=>cases hwa2 | some x=>exact ⟨x,rfl⟩
     have hql:=mem_len hb2
     simp only [Option.getD_some]
     refine cd_ok (r:=NR (.slice (some qa) q.length wcp2) q) slq fun ⟨fh3,hokq⟩=>?_
     refine cd_drawh (ork [(0,1),(1,1),(2,2),(3,2),(4,2),(5,1),(6,2),(7,1),(8,2),(9,1),(10,1),(11,0),(12,0),(13,2),(14,2)] .nil) (fun i => !(Nat.beq i 11 || Nat.beq i 12)) mixed (by kernel_rfl) ?_
     refine dr_v Z (vY Z ld50) ?_
     refine dr_v Z (v_eql_slice_nil Z Z Tryz.underlying50) (dV Z (vM Z) (dp_vg Z Z Z (vM Z) (dp_vg Z Z Z (v_len Z Tryz.underlying50) (dr_vg Z Z Z (vY Z ld50) ?_))))
     refine dp_vg Z Z Z (v_len Z Tryz.underlying50) (dr_clrg Z Z Z Z Z en160 Z (cmpI_ct r.length q.length) ?_)
     refine dp_vg Z Z Z (vM Z) (dr_vg Z Z Z (vY Z ld50) ?_)
     refine dr_clrg Z Z Z Z Z en161 Z (cmpL_ct (nms_own ⟨fh2,hok2⟩) (nms_own ⟨fh3,hokq⟩) (by omega) (by omega)) ?_
     refine dr_effg Z Z Z (st_grd Z Z (st_buildSlice (cells:=[.int .i64 (cmpI r.length q.length),.int .i64 (cmpL r q)]) Z Tryz.underlying219 inf3 Z Z (by kernel_rfl) (ltn Z) fun b51=>dr_nx ?_))
     refine dr_effg Z Z Z (st_grd Z Z (st_cl Z Z en159 Z (Or_ct (xs:=[cmpI r.length q.length,cmpL r q]) row_two (by simp)) ?_))
     rintro u h' ⟨rfl,rfl⟩
     simp only [lC,lN]
     refine dr_nx ?_
     refine dp_vg Z Z Z (v_lss Z Z) (dV Z (vP Z Z) (dr_nil (nK [5,10,54] Z (nT ?_))))
     rw [ring_lt]
     refine cC Z (fun hbt=>?_) (fun hbt=>?_)
     ·refine cR (sM Z (st_sto Z Z sz50 ?_))
      refine sN (nK [] Z (nx_xt (xB (xt_round slq (.inl ⟨Z,(.slice (some ⟨vb,vo,none⟩) r.length vc,some r),⟨⟨some ⟨vb,vo,none⟩,vc,Z,Z⟩,hround (some r) (by show _=(if ringLt r q=true then some r else some q); rw [if_pos hbt])⟩,Z⟩) ?_))))
      rw [rec_back hst hpe]
      exact sbr
     ·refine cK (xB (xt_round slq (.inl ⟨Z,(.slice (some qa) q.length wcp2,some q),⟨⟨some qa,wcp2,Z,Z⟩,hround (some q) (by show _=(if ringLt r q=true then some r else some q); rw [if_neg (by rw [hbt]; decide)])⟩,Z⟩) ?_))
      rw [rec_back hst hpe]
      exact sbr
  ·exact (by repeat (first | exact Pm.refl | refine Pm.cons slq ?_):Pm _ _).perm
  ·rintro u h' ⟨rfl,(⟨⟨w,bst⟩,⟨hbv2,hb2⟩,rfl⟩ | ⟨_,_,hfalse,_⟩)⟩
   ·simp only at hbv2 hb2
    rw [List.take_length,← hpre] at hb2
    refine ⟨rec,_,slq,(by rw [hst]; simp),?_⟩
    rw [hpe]
    dsimp only
    refine xB (xB (xT (cR (sV (v_add Z Z (by unfold I64 at *; omega)) (sM Z (sN (nK [4,5,13,14,15] Z (nx_xt (xt_mark slq slq ?_)))))))))
    refine xt_againD (i+1,(w,bst),db::bs) ⟨hlt,hbv2,hb2⟩ (by show _ - _<_ - _; omega) Z ⟨Z,Z,Z,Z,Z,trivial⟩ sbq
   ·exact hfalse.elim
 ·have hil:i=l.length:=by
   have:¬ i<l.length:=by simpa using hd
   omega
  subst hil
  rw [preC_all] at hbest
  have hbr:best=ring l:=hbest
  refine cd_exit (xE (xE (xY (xT (cS (cd_drawh (ork [(0,1),(1,1),(2,1),(3,2),(4,2)] .nil) (fun _=>true) mixed (by kernel_rfl) ?_))))))
  refine dr_v Z (vY Z ld50) ?_
  refine dr_v Z (vY Z ld50) ?_
  refine dr_v Z (v_neq_slice_nil Z Z Tryz.underlying50) (dV Z (vA Z) (dV Z (vA Z) (dr_nil (nK [2,3] Z (nT (cT ?_))))))
  rw [show (!wa.isNone)=(ring l).isSome by rw [hwa,hbr]; cases ring l <;> rfl]
  refine xt_retS (bs:=bs) Z Z ⟨NR (.slice wa (best.getD []).length wcp) (best.getD []),Z,_,Z,Z,by rw [hbr]⟩ sbq
end
end Go.Hr
namespace Go.Hr
open Go Go.Ck Go.Proofs Go.Proofs.YtaohbfnepjjdgaaGreat Fx
attribute [local irreducible] Go.Ck.Sub St Cd Xt Nx DrL LsW
section
variable {S S':Res} {v v':Value}
end
end Go.Hr
namespace Go.Hr
open Go Go.Ck Go.Proofs Go.Proofs.YtaohbfnepjjdgaaGreat Fx
attribute [local irreducible] Go.Ck.Sub St Cd Xt Nx DrL LsW
def ixP (g:Nm→Bool) (xs:List Nm):Int:=match xs.findIdx? g with | some i=>i | none => -1
section
variable {S:Res} {v:Value} {l:Sys} {kf:FuncId} {cp:Array Value} {g:Nm→Bool}
set_option maxRecDepth 100000 in
theorem names_ct {mb : Nat} (hv : sysR S v l) (hF : Fine l) (hE : Enters Tryz.prog kf) (hf : ∀ x ∈ nms l, Reads Tryz.prog kf (#[] ++ [sv x].toArray ++ cp) [S] (.bool (g x))) : CtN Tryz.prog 165 #[.agg #[v, .map (some mb)], .func (.func kf) #[] cp] [S] fun u T => u.oneCell' = true ∧ T = NR u ((nms l).filter g) := by
 obtain ⟨a,cap,rfl,_⟩:=id hv
 have hFl:=hF.len
 have hnl:(nms l).length=l.length:=by simp [nms]
 refine ct_of (n:=26) Tryz.func165 Z Z (len Z) fun hr w0=>?_
 refine cQ (st_bx Z Z fun b2=>?_)
 refine sA Z (sK [1,2,4] Z (cQ (sA Z (sN (nT (cS (cQ (sV (vF Z fa165_0 Z) (sV (vY Z ld22) ?_)))))))))
 refine sV (v_len Z Tryz.underlying22) (sM Z (sK [1,4,5,9,10,11] Z (cB (cd_vw (vw_nil 9 1) (cd_lq (σ := Value×Nat) (fun q=>[(1,.func (.func kf) #[] cp),(5,q.1),(9,.slice a l.length cap),(10,.int .i64 l.length),(11,.int .i64 (q.2:Nat))]) (fun q=>NR q.1 (((nms l).take q.2).filter g)::S::hr) (fun q=>q.1.oneCell'=true∧q.2≤l.length) (fun q=>l.length - q.2) (.slice none 0 0,0) ⟨Z,Nat.zero_le _⟩ ?_)))))
 rintro ⟨w,i⟩ ⟨hw,hi⟩
 simp only at hw hi
 dsimp only
 refine cQ (sV (v_lss Z Z) (sN (nT (cS (cC Z (fun hd=>?_) (fun hd=>?_))))))
 ·have hlt:i<l.length:=by simpa using hd
  obtain ⟨b,o,cap2,d,f,pa,pc,c2,fa,fc,j2,hv2,hrd,hP,hone⟩:=sys_at hv (List.getElem?_eq_getElem hlt)
  have hlt':i<(nms l).length:=by omega
  have hnm:(nms l)[i]=(l[i]).name:=by simp [nms]
  have hmem:(l[i]).name∈nms l:=by rw [← hnm]; exact List.getElem_mem hlt'
  have hll:(((nms l).take i).filter g).length≤900000:=Nat.le_trans (List.length_filter_le _ _) (by rw [List.length_take]; omega)
  have ht:((nms l).take (i+1)).filter g=((nms l).take i).filter g++(if g (l[i]).name=true then [(l[i]).name] else []):=by
   rw [List.take_succ_eq_append_getElem hlt',List.filter_append,hnm]
   congr 1
   by_cases hg:g (l[i]).name=true <;> simp [hg]
  refine cK (xT (cS (cB (cQ (sV (vI (k:=i) (congrArg some hv2) Z sl22 Z hlt Z) (sV (v_ldn Z ld54 Z hrd) ?_))))))
  refine st_alc al54 fun b7=>?_
  refine st_stoW Z Z sz54 Z hone ?_
  refine sK [1,5,7,9,10,11] Z (cQ (sM Z (sV (vF Z fa54_0 Z) (sV (vY Z ld9) ?_))))
  refine st_clr Z Z hE Z ((hf (l[i]).name hmem)) ?_
  refine sK [1,5,7,9,10,11,18] Z (cC Z (fun he=>?_) (fun he=>?_))
  ·rw [if_pos he] at ht
   refine cR (sM Z (sV (vF Z fa54_0 Z) (sV (vY Z ld9) ?_)))
   refine st_buildSlice (cells:=[sv (l[i]).name]) Z Tryz.underlying50 inf9 Z Z (by kernel_rfl) (ltn Z) fun b22=>?_
   refine st_app [nC (l[i]).name] Z Z Tryz.underlying50 inf9 Z (by decide) (show Sel _ (NR w (((nms l).take i).filter g)) _ from slq) (by simp [nC]) Z (fun j u2 hu2=>at_here (rd_cl (by simpa [nC] using hu2))) (by simp [nC,Value.oneCell']) (by rw [List.length_map]; omega) (by rw [List.length_map]; omega) (ltn Z) fun w3 hw3 _=>?_
   rw [show (((nms l).take i).filter g).map nC++[nC (l[i]).name]=(((nms l).take (i+1)).filter g).map nC by rw [ht]; simp]
   refine sA Z (sN (nK [1,5,9,10,11] Z (nx_xt (xB (xT (cR (sV (v_add Z Z (by unfold I64 at *; omega)) (sM Z (sN (nK [1,5,9,10,11] Z (nx_xt ?_)))))))))))
   refine xt_aq (w3,i+1) ⟨hw3,hlt⟩ (by show _ - _<_ - _; omega)
  ·rw [if_neg (by rw [he]; decide),List.append_nil] at ht
   refine cK (xB (xT (cR (sV (v_add Z Z (by unfold I64 at *; omega)) (sM Z (sN (nK [1,5,9,10,11] Z (nx_xt ?_))))))))
   rw [← ht]
   refine xt_aq (w,i+1) ⟨hw,hlt⟩ (by show _ - _<_ - _; omega)
 ·have hil:i=l.length:=by
   have:¬ i<l.length:=by simpa using hd
   omega
  subst hil
  rw [← hnl,List.take_length]
  refine cd_exit (xE (xE (xY (xT (cQ (sM Z (sA Z (sK [4] Z (cT ?_)))))))))
  exact xt_rt Z ⟨_,Z,hw,Z⟩ sbq
end
end Go.Hr
namespace Go.Hr
open Go Go.Ck Go.Proofs Go.Proofs.YtaohbfnepjjdgaaGreat Fx
attribute [local irreducible] Go.Ck.Sub St Cd Xt Nx DrL LsW
section
variable {S:Res} {v:Value} {l:Sys}
set_option maxHeartbeats 2000000 in
set_option maxRecDepth 100000 in
theorem Check_ct (hv : sysR S v l) : Ct Tryz.prog 80 #[v] [S] fun u h' => u = .tuple #[.int .i64 (check l).1, sv (check l).2] ∧ h' = [S] := by
 obtain ⟨a,cap,rfl,_⟩:=id hv
 refine ct_of (n:=89) Tryz.func80 Z Z (len Z) fun hr w0=>?_
 refine cQ (sA Z (sA Z (sN (nT (cS (cQ (sM Z (sV (v_len Z Tryz.underlying22) (sV (v_gtr Z Z) (sK [0,2,3,17] Z (cC Z (fun h24=>?_) (fun h24=>?_))))))))))))
 ·have h24:24<l.length:=by
   have:(24:Int)<l.length:=by simpa using h24
   omega
  refine cQ (sA Z (sA Z (sK [2,3] Z (cT (xR ?_)))))
  rw [check_limit h24]
  exact xt_rt Z ⟨Z,Z⟩ sbq
 ·have h24:l.length≤24:=by
   have:¬ (24:Int)<l.length:=by simpa using h24
   omega
  refine cK (xT (cQ (sM Z (st_cl Z Z en128 Z (kinds_ct hv (by omega)) ?_))))
  rintro u h' ⟨mb,rfl,rfl⟩
  simp only [lC,lN]
  refine sA Z (sK [0,2,3,4] Z (cS (cQ (sM Z (sV (v_len Z Tryz.underlying22) (sM Z (sN (nT (cB (cd_lq (σ := Nat) (fun i=>[(0,.slice a l.length cap),(4,.map (some mb)),(20,.slice a l.length cap),(21,.int .i64 l.length),(22,.int .i64 (i:Nat))]) (fun _=>mps mb (kindsM l)::S::hr) (fun i=>i≤l.length∧∀ (j:Nat) (y:Cls),j<i→l[j]? = some y→alone l j y=0) (fun i=>l.length - i) 0 ⟨Nat.zero_le _,fun j y hj=>by omega⟩ ?_))))))))))
  rintro i ⟨hi,hb⟩
  refine cQ (sV (v_lss Z Z) (sN (nT (cS (cC Z (fun hd=>?_) (fun hd=>?_))))))
  ·have hlt:i<l.length:=by simpa using hd
   have hxi:=List.getElem?_eq_getElem hlt
   obtain ⟨b,o,cap2,d,f,pa,pc,c2,fa,fc,j2,hv2,hrd,hP,hone⟩:=sys_at hv hxi
   generalize l[i]=x at *
   refine cK (xT (cS (cB (cQ (sM Z (sV (vI (k:=i) (congrArg some hv2) Z sl22 Z hlt Z) (sV (v_ldn Z ld54 Z hrd) ?_)))))))
   refine st_alc al54 fun b6=>?_
   refine sA Z (st_stoW Z Z sz54 Z hone ?_)
   refine sK [0,4,5,6,20,21,22] Z (cB (cQ (sV (vF Z fa54_3 Z) (sV (vY Z ld49) ?_))))
   refine sV (v_len Z Tryz.underlying49) (sV (v_gtr Z Z) (sA Z (sK [0,4,5,6,20,21,22,27] Z (cC Z (fun h4=>?_) (fun h4=>?_)))))
   ·have h4:4<x.parents.length:=by
     have:(4:Int)<x.parents.length:=by simpa using h4
     omega
    have ha:alone l i x=3:=by unfold alone; rw [if_pos h4]
    refine cS (cd_drawh (ork [(0,2),(1,1),(2,2),(3,2)] .nil) (fun _=>true) mixed (by kernel_rfl) ?_)
    refine dV Z (vF Z fa54_0 Z) (dr_v Z (vY Z ld9) ?_)
    refine dV Z (vA Z) (dV Z (vA Z) (dr_nil (nK [2,3] Z (nT (cT (xW (xW (xR (xR (xW (xR ?_)))))))))))
    rw [check_alone h24 hxi hb (by rw [ha]; decide),ha]
    exact xt_rt Z ⟨Z,Z⟩ sbq
   ·have h4:¬ 4<x.parents.length:=by
     have:¬ (4:Int)<x.parents.length:=by simpa using h4
     omega
    refine cQ (sV (vF Z fa54_0 Z) (sV (vY Z ld9) ?_))
    refine st_clr Z Z en129 Z (named_ct x.name) ?_
    refine sV (v_not Z) (sA Z (sK [0,4,5,6,20,21,22,34] Z (cC Z (fun hnn=>?_) (fun hnn=>?_))))
    ·have hnn:named x.name=false:=by simpa using hnn
     have ha:alone l i x=4:=by unfold alone; rw [if_neg h4,if_pos hnn]
     refine cS (cd_drawh (ork [(0,2),(1,1),(2,2),(3,2)] .nil) (fun _=>true) mixed (by kernel_rfl) ?_)
     refine dV Z (vF Z fa54_0 Z) (dr_v Z (vY Z ld9) ?_)
     refine dV Z (vA Z) (dV Z (vA Z) (dr_nil (nK [2,3] Z (nT (cT (xW (xW (xR (xR (xW (xR ?_)))))))))))
     rw [check_alone h24 hxi hb (by rw [ha]; decide),ha]
     exact xt_rt Z ⟨Z,Z⟩ sbq
    ·have hnn:named x.name=true:=by simpa using hnn
     obtain ⟨k, hk, hki⟩ : ∃ k, idx l x.name = some k ∧ k ≤ i := by
      cases hx:idx l x.name with
      | none =>
       unfold idx at hx
       rw [List.findIdx?_eq_none_iff] at hx
       have:=hx x (List.mem_of_getElem? hxi)
       simp at this
      | some k =>
       refine ⟨k,Z,?_⟩
       obtain ⟨_,_,h3⟩:=List.findIdx?_eq_some_iff_getElem.1 hx
       rcases Nat.lt_or_ge i k with h | h
       ·have:=h3 i h
        obtain ⟨_,he⟩:=List.getElem?_eq_some_iff.1 hxi
        rw [he] at this; simp at this
       ·exact h
     refine cS (cQ (sM Z (sV (vF Z fa54_0 Z) (sV (vY Z ld9) ?_))))
     refine sV (v_is (show (slook (kindsM l) x.name).getD (.int .i64 0) = .int .i64 (k:Int) by rw [kinds_look,hk]; rfl) (v_slookup Z Z mp163 inf3 slq)) ?_
     refine sM Z (sV (v_lss Z Z) (sA Z (sK [0,4,6,20,21,22,41] Z (cC Z (fun hk1=>?_) (fun hk1=>?_)))))
     ·have hk1:k<i:=by
       have:(k:Int)<i:=by simpa using hk1
       omega
      have ha:alone l i x=6:=by
       unfold alone
       rw [if_neg h4,if_neg (by rw [hnn]; decide),if_pos (.inl (by rw [hk]; intro e; cases e; omega))]
      refine cK (xT ?_)
      rw [show decide ((k:Int)<(i:Int))=true from decide_eq_true (by omega)]
      refine cd_true Z ?_
      refine cS (cd_drawh (ork [(0,2),(1,1),(2,2),(3,2)] .nil) (fun _=>true) mixed (by kernel_rfl) ?_)
      refine dV Z (vF Z fa54_0 Z) (dr_v Z (vY Z ld9) ?_)
      refine dV Z (vA Z) (dV Z (vA Z) (dr_nil (nK [2,3] Z (nT (cT (xW (xW (xR (xR (xW (xR ?_)))))))))))
      rw [check_alone h24 hxi hb (by rw [ha]; decide),ha]
      exact xt_rt Z ⟨Z,Z⟩ sbq
     ·have hk1:k=i:=by
       have:¬ (k:Int)<i:=by simpa using hk1
       omega
      subst hk1
      refine cR (sV (vF Z fa54_3 Z) (sV (vY Z ld49) ?_))
      refine st_clr Z Z en130 Z (twiceP_ct hP (by omega)) ?_
      refine sA Z (sK [0,4,6,20,21,22,41] Z (cC Z (fun htw=>?_) (fun htw=>?_)))
      ·have htw:¬ x.parents.Nodup:=by simpa using htw
       have ha:alone l k x=6:=by
        unfold alone
        rw [if_neg h4,if_neg (by rw [hnn]; decide),if_pos (.inr htw)]
       refine cS (cd_drawh (ork [(0,2),(1,1),(2,2),(3,2)] .nil) (fun _=>true) mixed (by kernel_rfl) ?_)
       refine dV Z (vF Z fa54_0 Z) (dr_v Z (vY Z ld9) ?_)
       refine dV Z (vA Z) (dV Z (vA Z) (dr_nil (nK [2,3] Z (nT (cT (xW (xW (xR (xR (xW (xR ?_)))))))))))
       rw [check_alone h24 hxi hb (by rw [ha]; decide),ha]
       exact xt_rt Z ⟨Z,Z⟩ sbq
      ·have htw:x.parents.Nodup:=by simpa using htw
       have ha:alone l k x=0:=alone_zero.2 ⟨by omega,hnn,hk,htw⟩
       refine cK (xB (xB (xT (cR (sV (v_add Z Z (by unfold I64 at *; omega)) (sM Z (sN (nK [0,4,20,21,22] Z (nx_xt (xt_aq (k+1) ⟨hlt,fun j y hj hy=>?_⟩ (by show _ - _<_ - _; omega)))))))))))
       by_cases hji:j=k
       ·subst hji; rw [hxi] at hy; cases hy; exact ha
       ·exact hb j y (by omega) hy
  ·have hil:i=l.length:=by
    have:¬ i<l.length:=by simpa using hd
    omega
   have hball:∀ (j:Nat) (y:Cls),l[j]? = some y→alone l j y=0:=fun j y hj=>hb j y (by rw [hil]; exact (List.getElem?_eq_some_iff.1 hj).1) hj
   refine cd_exit (xE (xE (xY (xT (cS (cQ (sM Z (sV (v_len Z Tryz.underlying22) (sM Z (sK [0,4,54,55,56] Z (cB (cd_lq (σ := Nat) (fun i=>[(0,.slice a l.length cap),(4,.map (some mb)),(54,.slice a l.length cap),(55,.int .i64 l.length),(56,.int .i64 (i:Nat))]) (fun _=>mps mb (kindsM l)::S::hr) (fun i=>i≤l.length∧∀ (j:Nat) (y:Cls),j<i→l[j]? = some y→lost l y=false) (fun i=>l.length - i) 0 ⟨Nat.zero_le _,fun j y hj=>by omega⟩ ?_))))))))))))
   rintro i2 ⟨hi2,hls⟩
   refine cQ (sV (v_lss Z Z) (sN (nT (cS (cC Z (fun hd2=>?_) (fun hd2=>?_))))))
   ·have hlt:i2<l.length:=by simpa using hd2
    have hxi:=List.getElem?_eq_getElem hlt
    obtain ⟨b,o,cap2,d,f,pa,pc,c2,fa,fc,j2,hv2,hrd,hP,hone⟩:=sys_at hv hxi
    have hpx:=(alone_zero.1 (hball _ _ hxi)).1
    generalize l[i2]=x at *
    refine cK (xT (cS (cB (cQ (sV (vI (k:=i2) (congrArg some hv2) Z sl22 Z hlt Z) (sV (v_ldn Z ld54 Z hrd) ?_))))))
    refine st_alc al54 fun b8=>?_
    refine st_stoW Z Z sz54 Z hone ?_
    refine sK [0,4,8,54,55,56] Z (cQ (sV (vF Z fa54_3 Z) (sV (vY Z ld49) ?_)))
    refine sV (v_len Z Tryz.underlying49) (sM Z (sK [0,4,8,54,55,56,61,62,63] Z (cB (cd_lq (σ := Nat) (fun k=>[(0,.slice a l.length cap),(4,.map (some mb)),(8,.pointer (some ⟨b8,0,none⟩)),(54,.slice a l.length cap),(55,.int .i64 l.length),(56,.int .i64 (i2:Nat)),(61,.slice pa x.parents.length pc),(62,.int .i64 x.parents.length),(63,.int .i64 (k:Nat))]) (fun _=>pt b8 (cl [sv x.name,d,f,.slice pa x.parents.length pc,c2,.slice fa x.feats fc,j2] 54)::mps mb (kindsM l)::S::hr) (fun k=>k≤x.parents.length∧∀ (m:Nat) (p:Nm),m<k→x.parents[m]? = some p→isC l p=true) (fun k=>x.parents.length - k) 0 ⟨Nat.zero_le _,fun j y hj=>by omega⟩ ?_))))
    rintro k ⟨hk,hpk⟩
    refine cQ (sV (v_lss Z Z) (sN (nT (cS (cC Z (fun hd3=>?_) (fun hd3=>?_))))))
    ·have hkl:k<x.parents.length:=by simpa using hd3
     have hpi:=List.getElem?_eq_getElem hkl
     obtain ⟨pb,po,pcap,q1,q2,q3,q4,q5,hpv,hprd,hpone⟩:=par_at hP hpi
     generalize x.parents[k]=p at *
     refine cK (xT (cS (cB (cQ (sV (vI (k:=k) (congrArg some hpv) Z sl49 Z hkl Z) (sV (v_ldn Z ld79 Z hprd) ?_))))))
     refine st_alc al79 fun b10=>?_
     refine st_stoW Z Z sz79 Z hpone ?_
     refine sK [0,4,8,10,54,55,56,61,62,63] Z (cQ (sM Z (sV (vF Z fa79_0 Z) (sV (vY Z ld9) ?_))))
     refine sV (v_slookup_ok Z Z mp163 inf3 slq) ?_
     refine sM Z (sV (v_extract Z Z) (sV (v_extract Z Z) (sA Z (sA Z (sK [0,4,8,12,54,55,56,61,62,63] Z (cQ (sM Z (sV (v_not Z) (sK [0,4,8,54,55,56,61,62,63,75] Z ?_)))))))))
     rw [look_isC]
     refine cC Z (fun hno=>?_) (fun hno=>?_)
     ·have hno:isC l p=false:=by simpa using hno
      have hlost:lost l x=true:=List.any_eq_true.2 ⟨p,List.mem_of_getElem? hpi,by rw [hno]; rfl⟩
      refine cS (cd_drawh (ork [(0,2),(1,1),(2,2),(3,2)] .nil) (fun _=>true) mixed (by kernel_rfl) ?_)
      refine dV Z (vF Z fa54_0 Z) (dr_v Z (vY Z ld9) ?_)
      refine dV Z (vA Z) (dV Z (vA Z) (dr_nil (nK [2,3] Z (nT (cT (xW (xR (xR (xW (xW (xR (xR (xW (xR ?_))))))))))))))
      rw [check_lost h24 hball hxi hls hlost]
      exact xt_rt Z ⟨Z,Z⟩ sbq
     ·have hno:isC l p=true:=by simpa using hno
      refine cK (xB (xT (cR (sV (v_add Z Z (by unfold I64 at *; omega)) (sM Z (sN (nK [0,4,8,54,55,56,61,62,63] Z (nx_xt (xt_aq (k+1) ⟨hkl,fun m q hm hq=>?_⟩ (by show _ - _<_ - _; omega))))))))))
      by_cases hmk:m=k
      ·subst hmk; rw [hpi] at hq; cases hq; exact hno
      ·exact hpk m q (by omega) hq
    ·have hkl:k=x.parents.length:=by
      have:¬ k<x.parents.length:=by simpa using hd3
      omega
     refine cd_exit (xE (xE (xY (xB (xT (cR (sV (v_add Z Z (by unfold I64 at *; omega)) (sM Z (sN (nK [0,4,54,55,56] Z (nx_xt (xt_aq (i2+1) ⟨hlt,fun j y hj hy=>?_⟩ (by show _ - _<_ - _; omega)))))))))))))
     by_cases hji:j=i2
     ·subst hji
      rw [hxi] at hy; cases hy
      unfold lost
      rw [List.any_eq_false]
      intro p hp
      obtain ⟨m,hm⟩:=List.getElem?_of_mem hp
      rw [hpk m p (by rw [hkl]; exact (List.getElem?_eq_some_iff.1 hm).1) hm]; decide
     ·exact hls j y (by omega) hy
   ·have hil2:i2=l.length:=by
     have:¬ i2<l.length:=by simpa using hd2
     omega
    have hlall:∀ (j:Nat) (y:Cls),l[j]? = some y→lost l y=false:=fun j y hj=>hls j y (by rw [hil2]; exact (List.getElem?_eq_some_iff.1 hj).1) hj
    refine cd_exit (xE (xE (xY (xT (cS (cQ (sM Z ?_)))))))
    have hF:Fine l:=⟨by omega,fun x hx=>by
     obtain ⟨j,hj⟩:=List.getElem?_of_mem hx
     have:=(alone_zero.1 (hball j x hj)).1
     omega⟩
    refine st_cl Z Z en132 Z (Ring_ct hv hF) ?_
    rintro u h' ⟨T,rfl,w,rfl,hw,rfl⟩
    simp only [lC,lN]
    refine sM Z (sV (v_extract Z Z) (sV (v_extract Z Z) (sA Z (sA Z (sK [13,14] Z (cQ (sM Z (sK [13,85] Z ?_))))))))
    cases hrg:ring l
    ·rw [check_ok h24 hball hlall hrg]
     refine cd_false Z ?_
     refine cK (xT (cQ (sA Z (sA Z (sK [2,3] Z (cT ?_))))))
     exact xt_rt Z ⟨Z,Z⟩ sbq
    ·rename_i r
     have hrk:=(ring_ok hrg).1
     cases r with
     | nil=>simp [ringOk] at hrk
     | cons r0 t =>
      rw [check_ring h24 hball hlall hrg]
      simp only [Option.getD_some]
      refine cd_ok (r:=NR w (r0::t)) slq fun hok=>?_
      obtain ⟨rb,ro,rcp,hrv,hrrd⟩:=nms_at (nms_own hok) (show (r0::t)[0]? = some r0 from rfl)
      refine cd_true Z ?_
      refine cS (cd_drawh (ork [(0,2),(1,2),(2,1),(3,2),(4,2)] .nil) (fun _=>true) mixed (by kernel_rfl) ?_)
      refine dV Z (vM Z) (dV Z (vI (k:=0) (congrArg some hrv) Z sl50 Z (by simp) Z) ?_)
      refine dr_v Z (vY Z ld9) ?_
      refine dV Z (vA Z) (dV Z (vA Z) (dr_nil (nK [2,3] Z (nT (cT (xR ?_))))))
      exact xt_rt Z ⟨Z,Z⟩ sbq
end
end Go.Hr
namespace Go.Hr
open Go Go.Ck Go.Proofs Go.Proofs.YtaohbfnepjjdgaaGreat Fx
attribute [local irreducible] Go.Ck.Sub St Cd Xt Nx DrL LsW
def rightB (l:Sys):Bool:=((check l).1 == 0) && decide (0<(l.length:Int))
section
variable {S:Res} {v:Value} {l:Sys}
end
end Go.Hr
namespace Go.Hr
open Go Go.Ck Go.Proofs Go.Proofs.YtaohbfnepjjdgaaGreat Fx
attribute [local irreducible] Go.Ck.Sub St Cd Xt Nx DrL LsW
def rightE (l:Sys) (ns:List Nm):Int:=if (check l).1=0 then (if ns.all (isC l) then 0 else 5) else (check l).1
theorem rightE_zero {l:Sys} {ns:List Nm}:rightE l ns=0↔Right l∧∀ n∈ns,isC l n=true:=by
 unfold rightE
 rw [← check_zero,← List.all_eq_true]
 by_cases h:(check l).1=0
 ·rw [if_pos h]
  by_cases h2:ns.all (isC l)=true
  ·simp [h,h2]
  ·rw [if_neg h2]; simp [h,h2]
 ·rw [if_neg h]; simp [h]
theorem all_take {f:Nm→Bool} {ns:List Nm} {i:Nat} (hi:i<ns.length) (h:∀ x∈ns.take i,f x=true) (h2:f ns[i]=true):∀ x∈ns.take (i+1),f x=true:=fun x hx=>by
 rw [List.take_succ_eq_append_getElem hi] at hx
 rcases List.mem_append.1 hx with hx | hx
 ·exact h x hx
 ·simp at hx; rw [hx]; exact h2
def gr0:Value:=.agg #[.slice none 0 0,.map none]
section
variable {S N:Res} {v nv:Value} {l:Sys} {ns:List Nm}
set_option maxRecDepth 100000 in
theorem right_ct (hv : sysR S v l) (hn : nmsR N nv ns) (hnl : ns.length ≤ 1099511627776) : Ct Tryz.prog 122 #[v, nv] [S, N] fun u h' => (rightE l ns ≠ 0 ∧ u = .tuple #[gr0, .int .i64 (rightE l ns)] ∧ h' = [S, N]) ∨ (rightE l ns = 0 ∧ ∃ mb, u = .tuple #[.agg #[v, .map (some mb)], .int .i64 0] ∧ h' = [mps mb (kindsM l), S, N]) := by
 obtain ⟨a,cap,rfl,_⟩:=id hv
 obtain ⟨na,ncap,rfl,_⟩:=id hn
 refine ct_of (n:=42) Tryz.func122 Z Z (len Z) fun hr w0=>?_
 refine cQ (st_alc al165 fun b4=>?_)
 refine sA Z (sN (nT (cS (cQ (sM Z (st_cl Z Z en80 Z (Check_ct hv) ?_))))))
 rintro u h' ⟨rfl,rfl⟩
 simp only [lC,lN]
 refine sM Z (sV (v_extract Z Z) (sV (v_extract Z Z) (sA Z (sA Z (sK [0,1,4,5,6] Z (cQ (sM Z (sV (v_neq Z Z) (sK [0,1,4,5,6,19] Z (cC Z (fun hc=>?_) (fun hc=>?_)))))))))))
 ·have hc:¬ (check l).1=0:=by simpa using hc
  have he:rightE l ns=(check l).1:=by unfold rightE; rw [if_neg hc]
  rw [he]
  refine cQ (sV (v_build (cells:=[.slice none 0 0,.map none]) Z (fun _=>by kernel_rfl)) ?_)
  refine sM Z (st_stoW Z Z sz165 Z Z ?_)
  refine sA Z (sK [4,5] Z (cT (xR ?_)))
  exact xt_retV (.cellN Z ld165 Z slq (.tmp Z .nil)) (.inl ⟨hc,Z,Z⟩) sbr
 ·have hc:(check l).1=0:=by simpa using hc
  have hR:=check_zero.1 hc
  refine cK (xT (cQ (sM Z ?_)))
  have hFl:=hR.len
  refine st_cl Z Z en153 Z (of_ct hv (by omega)) ?_
  rintro u h' ⟨mb,rfl,rfl⟩
  simp only [lC,lN]
  refine st_alc al165 fun b8=>?_
  refine st_stoW Z Z sz165 Z Z ?_
  refine sK [1,4,5,8] Z (cS (cQ (sM Z (sV (v_len Z Tryz.underlying50) (sM Z (sK [4,5,8,24,25,26] Z (cB (cd_lq (σ := Nat) (fun i=>[(4,.pointer (some ⟨b4,0,none⟩)),(8,.pointer (some ⟨b8,0,none⟩)),(24,.slice na ns.length ncap),(25,.int .i64 ns.length),(26,.int .i64 (i:Nat))]) (fun _=>pt b4 (cl [.slice none 0 0,.map none] 165)::pt b8 (cl [.slice a l.length cap,.map (some mb)] 165)::mps mb (kindsM l)::S::N::hr) (fun i=>i≤ns.length∧∀ x∈ns.take i,isC l x=true) (fun i=>ns.length - i) 0 ⟨Nat.zero_le _,fun x hx=>by simp at hx⟩ ?_))))))))
  rintro i ⟨hi,hal⟩
  refine cQ (sV (v_lss Z Z) (sN (nT (cS (cC Z (fun hd=>?_) (fun hd=>?_))))))
  ·have hlt:i<ns.length:=by simpa using hd
   obtain ⟨b,o,cap2,hv2,hrd⟩:=nms_at hn (List.getElem?_eq_getElem hlt)
   refine cK (xT (cS (cB (cQ (sV (vI (k:=i) (congrArg some hv2) Z sl50 Z hlt Z) (sV (vY Z ld9) ?_))))))
   refine sA Z (sK [4,8,10,24,25,26] Z (cQ (sV (vF Z fa165_1 Z) (sV (vY Z ld163) ?_))))
   refine sM Z (sV (v_slookup_ok Z Z mp163 inf3 slq) ?_)
   refine sM Z (sV (v_extract Z Z) (sV (v_extract Z Z) (sA Z (sA Z (sK [4,8,12,24,25,26] Z (cQ (sM Z (sV (v_not Z) (sK [4,8,24,25,26,38] Z ?_)))))))))
   rw [look_isC]
   refine cC Z (fun hno=>?_) (fun hno=>?_)
   ·have hno:isC l ns[i]=false:=by simpa using hno
    have he:rightE l ns=5:=by
     unfold rightE
     rw [if_pos hc,if_neg (by rw [List.all_eq_true]; intro h; rw [h _ (List.getElem_mem hlt)] at hno; cases hno)]
    rw [he]
    refine cQ (sV (v_build (cells:=[.slice none 0 0,.map none]) Z (fun _=>by kernel_rfl)) ?_)
    refine st_stoW Z Z sz165 Z Z ?_
    refine sA Z (sK [4,5] Z (cT (xW (xR (xR (xW (xR ?_)))))))
    exact xt_retV (.cellN Z ld165 Z slq (.tmp Z .nil)) (.inl ⟨by decide,Z,Z⟩) sbr
   ·have hno:isC l ns[i]=true:=by simpa using hno
    refine cK (xB (xT (cR (sV (v_add Z Z (by unfold I64 at *; omega)) (sM Z (sN (nK [4,8,24,25,26] Z (nx_xt ?_))))))))
    refine xt_aq (i+1) ⟨hlt,all_take hlt hal hno⟩ (by show _ - _<_ - _; omega)
  ·have hil:i=ns.length:=by
    have:¬ i<ns.length:=by simpa using hd
    omega
   subst hil
   rw [List.take_length] at hal
   have he:rightE l ns=0:=rightE_zero.2 ⟨hR,hal⟩
   refine cd_exit (xE (xE (xY (xT (cQ (sV (v_ldn Z ld165 Z rds_pt) ?_))))))
   refine st_stoW Z Z sz165 Z Z ?_
   refine sA Z (sK [4,5] Z (cT ?_))
   exact xt_retV (.cellN Z ld165 Z slq (.tmp Z .nil)) (.inr ⟨he,mb,Z,Z⟩) sbr
end
end Go.Hr
namespace Go.Hr
open Go Go.Ck Go.Proofs Go.Proofs.YtaohbfnepjjdgaaGreat Fx
attribute [local irreducible] Go.Ck.Sub St Cd Xt Nx DrL LsW
def okL {α : Type} (e:Int) (xs:List α):List α := if e=0 then xs else []
theorem okL_ne {α : Type} {e:Int} {xs:List α} (h:e≠0):okL e xs=[]:=if_neg h
theorem okL_eq {α : Type} {e:Int} {xs:List α} (h:e=0):okL e xs=xs:=if_pos h
theorem ne_true {e:Int} (h:e≠0):(e != 0)=true:=by simpa using h
section
variable {S N:Res} {v nv:Value} {l:Sys} {ns:List Nm}
set_option maxRecDepth 100000 in
theorem Above_ct (hv:sysR S v l) (c:Nm):CtN Tryz.prog 103 #[v,sv c] [S] fun u T=>∃ w,u = .tuple #[w,.int .i64 (rightE l [c])]∧w.oneCell'=true∧T=NR w (okL (rightE l [c]) (above l c)):=by
 obtain ⟨a,cap,rfl,_⟩:=id hv
 refine ct_of (n:=21) Tryz.func103 Z Z (len Z) fun hr w0=>?_
 refine cQ (sA Z (sA Z (sN (nT (cQ (sM Z (sM Z (st_buildSlice (cells:=[sv c]) Z Tryz.underlying50 inf9 Z Z (by kernel_rfl) (ltn Z) fun b11=>?_))))))))
 refine st_pv (pv_of (b:=b11) (n:=1) (sz:=1) (E:=9) [nC c] Z (by simp [nC]) Z (by decide)) ?_
 simp only [lC,lN]
 refine st_ok (r:=NR (.slice (some ⟨b11,0,none⟩) 1 1) [c]) slq fun hok=>?_
 refine st_cl Z Z en122 Z (right_ct hv (nms_own hok) (by simp)) ?_
 rintro u h' (⟨he,rfl,rfl⟩ | ⟨he,mb,rfl,rfl⟩)
 ·simp only [lC,lN]
  unfold gr0
  refine sM Z (sV (v_extract Z Z) (sV (v_extract Z Z) (st_alc al165 fun b6=>?_)))
  refine st_stoW Z Z sz165 Z Z ?_
  refine sA Z (sK [1,4,5,6,7] Z (cS (cQ (sM Z (sV (v_neq Z Z) (sK [1,4,5,6,7,16] Z ?_))))))
  rw [ne_true he]
  refine cd_true Z ?_
  refine cQ (sM Z (sA Z (sA Z (sK [4,5] Z (cT (xR ?_))))))
  rw [okL_ne he]
  refine xt_vw (vw_nil 9 1) ?_
  exact xt_rt Z ⟨NR (.slice none 0 0) [],Z,_,Z,Z,Z⟩ sbq
 ·obtain ⟨hR,hm⟩:=rightE_zero.1 he
  rw [he,okL_eq rfl]
  simp only [lC,lN]
  refine sM Z (sV (v_extract Z Z) (sV (v_extract Z Z) (st_alc al165 fun b6=>?_)))
  refine st_stoW Z Z sz165 Z Z ?_
  refine sA Z (sK [1,4,5,6,7] Z (cS (cQ (sM Z (sV (v_neq Z Z) (sK [1,4,5,6,7,16] Z (cd_false Z ?_)))))))
  refine cK (xT (cQ (sV (v_ldn Z ld165 Z rds_pt) ?_)))
  refine sM Z (st_cl Z Z en150 Z (above_ct hv hR.fine hR.acyc (hm c (by simp))) ?_)
  rintro u h' ⟨hu,rfl⟩
  simp only [lC,lN]
  refine sA Z (sA Z (sK [4,5] Z (cT ?_)))
  exact xt_rt Z ⟨_,Z,_,Z,hu,Z⟩ sbq
set_option maxRecDepth 100000 in
theorem Is_ct (hv:sysR S v l) (c x:Nm):Ct Tryz.prog 175 #[v,sv c,sv x] [S] fun u h'=>u = .tuple #[.bool (decide (rightE l [c,x]=0) && has l c x),.int .i64 (rightE l [c,x])]∧h'=[S]:=by
 obtain ⟨a,cap,rfl,_⟩:=id hv
 refine ct_of (n:=25) Tryz.func175 Z Z (len Z) fun hr w0=>?_
 refine cQ (sA Z (sA Z (sN (nT (cQ (sM Z (sM Z (sM Z (st_buildSlice (cells:=[sv c,sv x]) Z Tryz.underlying50 inf9 Z Z (by kernel_rfl) (ltn Z) fun b14=>?_)))))))))
 refine st_pv (pv_of (b:=b14) (n:=2) (sz:=1) (E:=9) [nC c,nC x] Z (by simp [nC]) Z (by decide)) ?_
 simp only [lC,lN]
 refine st_ok (r:=NR (.slice (some ⟨b14,0,none⟩) 2 2) [c,x]) slq fun hok=>?_
 refine st_cl Z Z en122 Z (right_ct hv (nms_own hok) (by simp)) ?_
 rintro u h' (⟨he,rfl,rfl⟩ | ⟨he,mb,rfl,rfl⟩)
 ·simp only [lC,lN]
  unfold gr0
  refine sM Z (sV (v_extract Z Z) (sV (v_extract Z Z) (st_alc al165 fun b8=>?_)))
  refine st_stoW Z Z sz165 Z Z ?_
  refine sA Z (sK [1,2,6,7,8,9] Z (cS (cQ (sM Z (sV (v_neq Z Z) (sK [1,2,6,7,8,9,19] Z ?_))))))
  rw [ne_true he]
  refine cd_true Z ?_
  refine cQ (sM Z (sA Z (sA Z (sK [6,7] Z (cT (xR ?_))))))
  rw [show (decide (rightE l [c,x]=0))=false from decide_eq_false he,Bool.false_and]
  exact xt_rt Z ⟨Z,Z⟩ sbq
 ·obtain ⟨hR,hm⟩:=rightE_zero.1 he
  rw [he]
  simp only [lC,lN]
  refine sM Z (sV (v_extract Z Z) (sV (v_extract Z Z) (st_alc al165 fun b8=>?_)))
  refine st_stoW Z Z sz165 Z Z ?_
  refine sA Z (sK [1,2,6,7,8,9] Z (cS (cQ (sM Z (sV (v_neq Z Z) (sK [1,2,6,7,8,9,19] Z (cd_false Z ?_)))))))
  refine cK (xT (cQ (sV (v_ldn Z ld165 Z rds_pt) ?_)))
  refine sM Z (sM Z (st_cl Z Z en178 Z (has_ct hv hR.fine hR.acyc (hm c (by simp)) x) ?_))
  rintro u h' ⟨rfl,rfl⟩
  simp only [lC,lN]
  refine sA Z (sA Z (sK [6,7] Z (cT ?_)))
  exact xt_rt Z ⟨Z,Z⟩ sbq
def wayE (l:Sys) (c x:Nm):Int:=if rightE l [c,x]=0 then (if has l c x then 0 else 5) else rightE l [c,x]
set_option maxRecDepth 100000 in
theorem Way_ct (hv : sysR S v l) (c x : Nm) : CtN Tryz.prog 96 #[v, sv c, sv x] [S] fun u T => ∃ w, u = .tuple #[w, .int .i64 (wayE l c x)] ∧ w.oneCell' = true ∧ T = NR w (okL (rightE l [c, x]) (shortR l x c)) := by
 obtain ⟨a,cap,rfl,_⟩:=id hv
 refine ct_of (n:=29) Tryz.func96 Z Z (len Z) fun hr w0=>?_
 refine cQ (sA Z (sA Z (sN (nT (cQ (sM Z (sM Z (sM Z (st_buildSlice (cells:=[sv c,sv x]) Z Tryz.underlying50 inf9 Z Z (by kernel_rfl) (ltn Z) fun b15=>?_)))))))))
 refine st_pv (pv_of (b:=b15) (n:=2) (sz:=1) (E:=9) [nC c,nC x] Z (by simp [nC]) Z (by decide)) ?_
 simp only [lC,lN]
 refine st_ok (r:=NR (.slice (some ⟨b15,0,none⟩) 2 2) [c,x]) slq fun hok=>?_
 refine st_cl Z Z en122 Z (right_ct hv (nms_own hok) (by simp)) ?_
 rintro u h' (⟨he,rfl,rfl⟩ | ⟨he,mb,rfl,rfl⟩)
 ·have hw:wayE l c x=rightE l [c,x]:=if_neg he
  rw [hw]
  simp only [lC,lN]
  unfold gr0
  refine sM Z (sV (v_extract Z Z) (sV (v_extract Z Z) (st_alc al165 fun b8=>?_)))
  refine st_stoW Z Z sz165 Z Z ?_
  refine sA Z (sK [1,2,6,7,8,9] Z (cS (cQ (sM Z (sV (v_neq Z Z) (sK [1,2,6,7,8,9,20] Z ?_))))))
  rw [ne_true he]
  refine cd_true Z ?_
  refine cQ (sM Z (sA Z (sA Z (sK [6,7] Z (cT (xR ?_))))))
  rw [okL_ne he]
  refine xt_vw (vw_nil 9 1) ?_
  exact xt_rt Z ⟨NR (.slice none 0 0) [],Z,_,Z,Z,Z⟩ sbq
 ·obtain ⟨hR,hm⟩:=rightE_zero.1 he
  have hw:wayE l c x=if has l c x then 0 else 5:=if_pos he
  rw [hw,he,okL_eq rfl]
  simp only [lC,lN]
  refine sM Z (sV (v_extract Z Z) (sV (v_extract Z Z) (st_alc al165 fun b8=>?_)))
  refine st_stoW Z Z sz165 Z Z ?_
  refine sA Z (sK [1,2,6,7,8,9] Z (cS (cQ (sM Z (sV (v_neq Z Z) (sK [1,2,6,7,8,9,20] Z (cd_false Z ?_)))))))
  refine cK (xT (cQ (sV (v_ldn Z ld165 Z rds_pt) ?_)))
  refine sM Z (sM Z (st_cl Z Z en147 Z (shortest_ct hv hR.fine c x) ?_))
  rintro u h' ⟨T,rfl,wa,cp,rfl,hwa,rfl⟩
  unfold has
  simp only [lC,lN]
  cases hd:dist l x c
  ·rw [hd] at hwa
   have hwa:wa=none:=by simpa using hwa
   subst hwa
   have hsr:shortR l x c=[]:=by unfold shortR; rw [hd]
   rw [hsr]
   refine sA Z (sK [6,7,10] Z (cS (cQ (sM Z (sV (v_eql_slice_nil Z Z Tryz.underlying50) (sK [6,7,10,27] Z (cd_true Z ?_)))))))
   refine cQ (sA Z (sA Z (sK [6,7] Z (cT (xR (xt_vw (vw_nil 9 1) ?_))))))
   exact xt_rt Z ⟨NR (.slice none 0 0) [],Z,_,Z,Z,Z⟩ sbq
  ·rw [hd] at hwa
   obtain ⟨wb,rfl⟩:∃ wb,wa=some wb:=by
    cases wa with
    | none=>cases hwa
    | some wb=>exact ⟨wb,rfl⟩
   refine sA Z (sK [6,7,10] Z (cS (cQ (sM Z (sV (v_eql_slice_nil Z Z Tryz.underlying50) (sK [6,7,10,27] Z (cd_false Z ?_)))))))
   refine cK (xT (cQ (sM Z (sA Z (sA Z (sK [6,7] Z (cT ?_)))))))
   exact xt_rt Z ⟨_,Z,_,Z,Z,Z⟩ sbq
end
end Go.Hr
namespace Go.Hr
open Go Go.Ck Go.Proofs Go.Proofs.YtaohbfnepjjdgaaGreat Fx
attribute [local irreducible] Go.Ck.Sub St Cd Xt Nx DrL LsW
section
variable {S N T:Res} {v nv:Value} {l:Sys} {ns:List Nm}
def touchE (l:Sys) (ns:List Nm):Int:=if 48<ns.length then 3 else rightE l []
set_option maxRecDepth 100000 in
theorem AppendSeq_ct {c1 c2 mb : Nat} (hv : sysR S v l) (hF : Fine l) (c : Nm) : Ct Tryz.prog 155 #[.slice none 0 0, seqv c1 c2] [pt c1 (cl [v, .map (some mb)] 165), pt c2 (cl [sv c] 9), S, mps mb (kindsM l)] fun u h' => u.oneCell' = true ∧ h' = [NR u (par l c), pt c1 (cl [v, .map (some mb)] 165), pt c2 (cl [sv c] 9), S, mps mb (kindsM l)] := by
 obtain ⟨a,cap,rfl,_⟩:=id hv
 have hpl:=par_len hF c
 refine ct_ofM (n:=13) Tryz.func155 Z Z (len Z) fun hr w0=>?_
 refine cQ (st_bx Z Z fun b2=>?_)
 refine sA Z (sK [1,2,4] Z (cS (cQ (sM Z (sK [2,4,6] Z (cB (cd_vw (vw_nil 9 1) ?_)))))))
 unfold seqv
 simp only [lC,lN]
 refine cd_range' Z en156 fun yl db rec hst hpe hps hasg hbo hkn2=>?_
 refine ⟨_,Ct.perm (it_ct (σ := Value×List Nm) (b1:=c1) (b2:=c2) (mb:=mb) (yl:=yl) (c:=c) (fun q=>pt yl (.loop rec)::pt db (.deferred (some []))::NR q.1 q.2::pt b2 (cl [q.1] 50)::hr)
  (fun k q=>q.1.oneCell'=true∧q.2=(par l c).take k) (fun _ _=>False) (.slice none 0 0,[]) ⟨rfl,rfl⟩ hv hF.few ?_) ?_,?_⟩
 ·rintro k ⟨w2,o2⟩ p hk ⟨hw2,ho2⟩
  simp only at hw2 ho2
  obtain ⟨hkl,hke⟩:=List.getElem?_eq_some_iff.1 hk
  have ho3:o2++[p]=(par l c).take (k+1):=by rw [List.take_succ_eq_append_getElem hkl,hke,← ho2]
  have hol:o2.length=k:=by rw [ho2,List.length_take]; omega
  refine Yc.perm (yc_of (n:=13) (rec:=rec) (args:=[sv p]) (hf:=pt db (.deferred (some []))::NR w2 o2::pt b2 (cl [w2] 50)::S::mps mb (kindsM l)::hr) (by rw [hps]; rfl) hkn2 (by rw [hps]; decide) ?_) (by exact (by repeat (first | exact Pm.refl | refine Pm.cons slq ?_):Pm _ _).perm)
  intro hr2 w1
  rw [hasg,hps,hbo]
  simp only [lC,lN]
  refine cR (sA Z (sN (nK [2,4,5] Z (nx_xt (xt_mid Z slq (by first | rfl | assumption) ?_)))))
  refine cB (cR (sV (vY Z ld50) ?_))
  refine sM Z (st_buildSlice (cells:=[sv p]) Z Tryz.underlying50 inf9 Z Z (by kernel_rfl) (ltn Z) fun b10=>?_)
  refine st_app [nC p] Z Z Tryz.underlying50 inf9 Z (by decide) (show Sel _ (NR w2 o2) _ from slq) (by simp [nC]) Z (fun j u2 hu2=>at_here (rd_cl (by simpa [nC] using hu2))) (by simp [nC,Value.oneCell']) (by simp; omega) (by simp; omega) (ltn Z) fun w3 hw3 _=>?_
  rw [show o2.map nC++[nC p]=(o2++[p]).map nC by simp]
  refine st_sto Z Z sz50 ?_
  refine sN (nK [4] Z (nx_xt (xB (xt_round slq (.inl ⟨Z,(w3,o2++[p]),⟨hw3,ho3⟩,Z⟩) ?_))))
  rw [rec_back hst hpe]
  exact sbr
 ·exact (by repeat (first | exact Pm.refl | refine Pm.cons slq ?_):Pm _ _).perm
 ·rintro u h' ⟨rfl,(⟨⟨w2,o2⟩,⟨hw2,ho2⟩,rfl⟩ | ⟨_,_,hfalse,_⟩)⟩
  ·simp only at hw2 ho2
   refine ⟨rec,_,slq,(by rw [hst]; simp),?_⟩
   rw [hpe]
   dsimp only
   rw [List.take_length] at ho2
   subst ho2
   refine xB (xT (cQ (sV (vY Z ld50) ?_)))
   refine sA Z (sK [4] Z (cT ?_))
   exact xt_retM (bs:=[db]) Z Z ⟨hw2,Z⟩ sbr
  ·exact hfalse.elim
set_option maxRecDepth 100000 in
theorem Collect_ct {c1 c2 mb:Nat} (hv:sysR S v l) (hF:Fine l) (c:Nm):Ct Tryz.prog 124 #[seqv c1 c2] [pt c1 (cl [v,.map (some mb)] 165),pt c2 (cl [sv c] 9),S,mps mb (kindsM l)] fun u h'=>u.oneCell'=true∧h'=[NR u (par l c),pt c1 (cl [v,.map (some mb)] 165),pt c2 (cl [sv c] 9),S,mps mb (kindsM l)]:=by
 obtain ⟨a,cap,rfl,_⟩:=id hv
 refine ct_of (n:=5) Tryz.func124 Z Z (len Z) fun hr w0=>?_
 refine cQ (sA Z (sN (nT (cQ (sM Z (st_cl Z Z en155 Z (AppendSeq_ct hv hF c) ?_))))))
 rintro u h' ⟨hu,rfl⟩
 simp only [lC,lN]
 refine sA Z (sK [2] Z (cT ?_))
 exact xt_rt Z ⟨hu,Z⟩ sbq
end
end Go.Hr
namespace Go.Hr
open Go Go.RowKit Go.Ck Go.Proofs Go.Proofs.YtaohbfnepjjdgaaGreat Fx
attribute [local irreducible] Go.Ck.Sub St Cd Xt Nx DrL LsW
theorem nms_tail {N:Res} {b o n cap:Nat} {x:Nm} {t:List Nm} (h:nmsR N (.slice (some ⟨b,o,none⟩) n cap) (x::t)):nmsR N (.slice (some ⟨b,if cap=1 then o else o+1 * 1,none⟩) t.length (cap - 1)) t:=by
 obtain ⟨a,cap2,he,h2,h3,_,h5⟩:=h
 cases he
 refine ⟨_,_,rfl,by simp at h2; omega,by omega,(fun h=>by cases h),fun i y hi=>?_⟩
 obtain ⟨b2,o2,us,e,h6,h7,h8⟩:=h5 (i+1) y (by simpa using hi)
 cases e
 have hc:cap≠1:=by
  have:=(List.getElem?_eq_some_iff.1 hi).1
  simp at h2; omega
 refine ⟨_,_,us,Z,h6,?_,h8⟩
 rw [if_neg hc]
 rw [show o+1 * 1+i * 1=o+(i+1) * 1 by omega]
 exact h7
def wayC (l:Sys) (c x:Nm) (ns:List Nm):Int:=if rightE l [c,x]=0 then (if wayOk l c x ns then 0 else 11) else rightE l [c,x]
theorem wayOk_cons {l:Sys} {c x c0:Nm} {t:List Nm}:wayOk l c x (c0::t)=(!(((c0 != c)) || ((c0::t).getLast (by simp) != x)) && (List.range t.length).all fun i=>(par l ((c0::t).getD i [])).contains (t.getD i [])):=by
 unfold wayOk
 rw [List.getLast?_eq_some_getLast (List.cons_ne_nil c0 t)]
 simp [bne]
section
variable {S N:Res} {v nv:Value} {l:Sys} {ns:List Nm}
theorem v_rem {P:Program} {e:Env} {h:SH} {ty:TypeId} {t t':TypeId} {x y:Operand} {k:IntKind} {a b:Int} (hx:e.ev? x=some (.int k a)) (hy:e.ev? y=some (.int k b)) (hb:b≠0) (hw:k.wrap (a.tmod b)=a.tmod b):Vop P e h (.binOp .rem t x y t') ty (.int k (a.tmod b)):=
 ⟨by simp,by simp,fun ρ w d pos after g hρ _=>by
  simp [execOp,hρ x _ hx,hρ y _ hy,eqGuard_rem,binOp_rem,Op.intDiv,hb,hw]⟩
def ringC (l:Sys) (ns:List Nm):Int:=if 24<l.length∨24<ns.length then 3 else if ringOk l ns then 0 else 11
end
end Go.Hr
namespace Go.Hr
open Go Go.RowKit Go.Ck Go.Proofs Go.Proofs.YtaohbfnepjjdgaaGreat Fx
attribute [local irreducible] Go.Ck.Sub St Cd Xt Nx DrL LsW
def iV (n:Nat):Value:=.int .i64 (n:Int)
def okN (e:Int) (n:Nat):Int:=if e=0 then (n:Int) else 0
section
variable {S N:Res} {v nv:Value} {l:Sys} {ns:List Nm}
end
end Go.Hr
