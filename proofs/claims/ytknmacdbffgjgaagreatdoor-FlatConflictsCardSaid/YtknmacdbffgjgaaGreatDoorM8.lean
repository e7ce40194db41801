/-
  Package heir: Order. Conditions: what is read.
-/
import Derived.Test.YtknmacdbffgjgaaGreatDoorM7
import Derived.Test.YtknmacdbffgjgaaGreatDoorM1
set_option linter.unusedVariables false
set_option linter.unusedSimpArgs false
set_option maxRecDepth 100000
set_option maxHeartbeats 16000000
namespace Go.Hr
open Go Go.Ck Go.Proofs Go.Proofs.Tryz Go.Proofs.YtknmacdbffgjgaaGreatDoor Fx
attribute [local irreducible] Go.Ck.Sub St Cd Xt Nx DrL LsW
def numC (us:List Value) (n:Int):Prop:=us=[.int .i64 n]
def orI (xs:List Int):Int:=(xs.find? (· != 0)).getD 0
theorem ring_lt {a b:List Nm}:decide (orI [cmpI a.length b.length,cmpL a b]<0)=zz a b:=by
 unfold orI zz cmpI
 rw [← JS]
 rcases Nat.lt_trichotomy a.length b.length with h | h | h
 ·have h1:(a.length:Int)<b.length:=by omega
  simp [h1,h]
 ·simp only [h,Int.lt_irrefl,if_false,List.find?_cons,bne_self_eq_false,Nat.lt_irrefl,decide_false,Bool.false_or,decide_true,Bool.true_and]
  by_cases hc:cmpL a b=0
  ·simp [hc]
  ·have:(cmpL a b != 0)=true:=by simpa using hc
   rw [this]; rfl
 ·have h1:¬ (a.length:Int)<b.length:=by omega
  have h2:(b.length:Int)<a.length:=by omega
  have h3:¬ a.length<b.length:=by omega
  have h4:¬ a.length=b.length:=by omega
  simp [h1,h2,h3,h4]
section
variable {S:Res} {v:Value} {l:Sys}
theorem Or_ct {xs:List Int} (hv:Row S 1 numC v xs) (hl:xs.length≤1099511627776):Reads prog 227 #[v] [S] (.int .i64 (orI xs)):=by
 obtain ⟨a,cap,rfl,_⟩:=id hv
 refine aL (n:=18) func227 Z Z (len Z) fun hr w0=>?_
 refine cQ (sV (vA9 Z) (sN (nT (cQ (sV (vA9 Z) (sN (nT (cS (cQ (sM Z (sV (aF Z underlying333) (sM Z ?_))))))))))))
 refine sN (nK9 [2,3,6,7,8] Z (nT (cB (aZ (σ := Nat) (fun i=>[(3,.int .i64 0),(6,.slice a xs.length cap),(7,.int .i64 xs.length),(8,.int .i64 (i:Nat))]) (fun _=>S::hr) (fun i=>i≤xs.length∧orI xs=orI (xs.drop i)) (fun i=>xs.length - i) 0 ⟨Nat.zero_le _,Z⟩ ?_))))
 rintro i ⟨hi,ho⟩
 refine cQ (sV (aO Z Z) (sN (nT (cS (cC Z (fun hd=>?_) (fun hd=>?_))))))
 ·have hlt:i<xs.length:=by simpa using hd
  obtain ⟨b,o,cap2,u,hv2,hrd,hu⟩:=Row.at1 hv (List.getElem?_eq_getElem hlt)
  simp only [numC,List.cons.injEq,and_true] at hu
  subst hu
  have hx:xs.drop i=xs[i]::xs.drop (i+1):=(List.getElem_cons_drop hlt).symm
  refine cK9 (xT (cS (cB (cQ (sV (vI (k:=i) (congrArg some hv2) Z sl333 Z hlt Z) (sV (vY Z ld3) ?_))))))
  refine sV (vA9 Z) (sN (nK9 [3,5,6,7,8] Z (nT (cQ (sM Z (sM Z (sV (bT Z Z) (sN (nK9 [3,5,6,7,8,14] Z (nT (cC Z (fun hn=>?_) (fun hn=>?_))))))))))))
  ·refine cQ (sM Z (sV (vA9 Z) (sN (nK9 [2] Z (nT (cT (xW (xR (xR (xW (xR ?_)))))))))))
   rw [ho,hx,show orI (xs[i]::xs.drop (i+1))=xs[i] by unfold orI; rw [List.find?_cons_of_pos (by exact hn)]; rfl]
   exact aj Z ⟨Z,Z⟩ sbq
  ·refine cK9 (xB (xT (cR (sV (aI Z Z (by unfold I64 at *; omega)) (sM Z (sN (nK9 [3,6,7,8] Z (ax (aJ (i+1) ⟨hlt,by rw [ho,hx]; unfold orI; rw [List.find?_cons_of_neg (by rw [hn]; decide)]⟩ (by show _ - _<_ - _; omega))))))))))
 ·have hil:i=xs.length:=by
   have:¬ i<xs.length:=by simpa using hd
   omega
  rw [ho,List.drop_eq_nil_of_le (by omega)]
  refine aB (xE (xE (xY (xT (cQ (sM Z (sV (vA9 Z) (sN (nK9 [2] Z (nT (cT ?_)))))))))))
  exact aj Z ⟨Z,Z⟩ sbq
theorem Hm {b o n cp j:Nat} {E:TypeId} {sz:Nat} {rows:List (List Value)} {u:Value} (hj:rows.flatten[j]? = some u):Rd (VR (.slice (some ⟨b,o,none⟩) n cp) E sz rows) ⟨b,o+j,none⟩ u:=fun w hw=>by
 obtain ⟨h1,h2⟩:=hw
 rcases h2 with ⟨h3,_⟩ | ⟨b',o',cp',pre,jj,h3,hb,hp,_⟩
 ·cases h3
 ·cases h3
  have hb':w.heap[b]? = _:=hb
  have hlt:=(List.getElem?_eq_some_iff.1 hj).1
  simp only [World.cell?,hb',cl,List.getElem?_toArray,Option.isSome_none,Bool.false_eq_true,if_false]
  rw [List.getElem?_append_right (by omega),hp,show o+j - o=j by omega,List.getElem?_append_left hlt,hj]
theorem mo (xs:List Nm):(xs.map nC).flatten=xs.map sv:=by
 induction xs with
 | nil=>rfl
 | cons x t ih=>rw [List.map_cons,List.flatten_cons,ih]; rfl
theorem KH {xs:List Nm} {j:Nat} {u:Value} (h:((xs.dropLast).map nC).flatten[j]? = some u):(xs.map nC).flatten[j]? = some u:=by
 rw [mo,List.getElem?_map] at h ⊢
 obtain ⟨x,hx,he⟩:=Option.map_eq_some_iff.1 h
 rw [List.dropLast_eq_take,List.getElem?_take] at hx
 split at hx
 ·rw [hx]; simp [he]
 ·cases hx
theorem M9 {xs:List Nm} {u:Value} (h:u∈(xs.map nC).flatten):u.oneCell'=true:=by
 rw [mo] at h
 obtain ⟨x,_,rfl⟩:=List.mem_map.1 h
 rfl
def BestV (w:Value) (b:Option (List Nm)):Prop:=∃ wa cp,w = .slice wa (b.getD []).length cp∧wa.isNone=b.isNone
def D5 (l:Sys) (i:Nat):List (List Nm):=(l.take i).flatMap fun x=>(par l x.name).filterMap (pV l x.name)
theorem Na (l:Sys):D5 l l.length=zA l:=by
 unfold D5 zA nms
 rw [List.take_length,List.flatMap_map]
theorem KI {l:Sys} {i:Nat} (h:i<l.length):D5 l (i+1)=D5 l i++(par l (l[i]).name).filterMap (pV l (l[i]).name):=by
 unfold D5
 rw [List.take_succ_eq_append_getElem h,List.flatMap_append,List.flatMap_singleton]
theorem Ho (l:Sys) (to c:Nm):(mP l to c).length≤l.length+1:=by
 unfold mP
 cases h:gP l to c with
 | none=>simp
 | some k=>have:=rD h; simp only [fE]; omega
theorem mem_len {l:Sys} {i k:Nat} {cn:Nm} {q:List Nm} (h:some q=(D5 l i++((par l cn).take k).filterMap (pV l cn)).foldl better none):q.length≤l.length+1:=by
 have hm:=((lX _ _).2 q h.symm).resolve_left (by simp)
 have key:∀ c p,pV l c p=some q→q.length≤l.length+1:=fun c p hc=>by
  unfold pV at hc
  obtain ⟨m,hdm,rfl⟩:=Option.map_eq_some_iff.1 hc
  have:=rD hdm
  simp [fE]; omega
 rcases List.mem_append.1 hm with hm | hm
 ·obtain ⟨x,_,hx⟩:=List.mem_flatMap.1 hm
  obtain ⟨p,_,hp⟩:=List.mem_filterMap.1 hx
  exact key _ p hp
 ·obtain ⟨p,_,hp⟩:=List.mem_filterMap.1 hm
  exact key _ p hp
theorem JX {b:Nat} {x y:Int}:Row (pt b (cl [.int .i64 x,.int .i64 y] 3)) 1 numC (.slice (some ⟨b,0,none⟩) 2 2) [x,y]:=
 ⟨some ⟨b,0,none⟩,2,rfl,Nat.le_refl _,by decide,(fun h=>by cases h),fun i z hi=>by
  match i,hi with
  | 0,hi=>cases hi; exact ⟨b,0,[.int .i64 x],rfl,rfl,fun j hj=>by match j,hj with | 0,_=>exact bU rfl,rfl⟩
  | 1,hi=>cases hi; exact ⟨b,0,[.int .i64 y],rfl,rfl,fun j hj=>by match j,hj with | 0,_=>exact bU rfl,rfl⟩⟩
theorem KJ {cs:List (List Nm)} {r:List Nm}:(cs++[r]).foldl better none=better (cs.foldl better none) r:=by simp [List.foldl_append]
theorem Ring_ct (hv:lU S v l) (hF:Fine l):CtN prog 142 #[v] [S] fun u T=>∃ w,u = .tuple #[w,.bool (ring l).isSome]∧w.oneCell'=true∧T=NR w ((ring l).getD []):=by
 obtain ⟨a,cap,rfl,_⟩:=id hv
 have hFl:=hF.len
 refine qw (n:=60) func142 Z Z (len Z) fun hr w0=>?_
 refine cQ (sV (vA9 Z) (sV (vA9 Z) (sN (nT (cQ (sM Z (aH Z Z en166 Z (of_ct hv (by omega)) ?_)))))))
 rintro u h' ⟨mb,rfl,rfl⟩
 refine au rX fun b4=>?_
 refine ai Z Z nE Z Z ?_
 refine sN (nK9 [0,2,3,4] Z (nT (cQ (au al40 fun b5=>?_))))
 refine sN (nT (cS (cQ (sM Z (sV (aF Z underlying22) (sM Z (sN (nK9 [2,3,4,5,13,14,15] Z (nT (cB (dK (cz 9 1) (nk ?_))))))))))))
 simp only [lC,lN]
 refine ni (σ := Nat×(Value×Option (List Nm))×List Nat) (fun q=>q.2.2.map mk) (fun q=>[(4,.pointer (some ⟨b4,0,none⟩)),(5,.pointer (some ⟨b5,0,none⟩)),(13,.slice a l.length cap),(14,.int .i64 l.length),(15,.int .i64 (q.1:Nat))]) (fun q=>Res.star (marks q.2.2)::pt b5 (cl [q.2.1.1] 40)::NR q.2.1.1 (q.2.1.2.getD [])::pt b4 (cl [.slice a l.length cap,.map (some mb)] 164)::S::mps mb (bE l)::hr) (fun q=>q.1≤l.length∧BestV q.2.1.1 q.2.1.2∧q.2.1.2=(D5 l q.1).foldl better none) (fun q=>l.length - q.1) (0,(.slice none 0 0,none),[]) ⟨Nat.zero_le _,⟨none,0,Z,Z⟩,Z⟩ Z ⟨Z,Z,Z,Z,Z,trivial⟩ sbq ?_
 rintro ⟨i,⟨w0,best⟩,bs⟩ ⟨hi,hbv,hbest⟩
 simp only at hi hbv hbest
 obtain ⟨wa,wcp,rfl,hwa⟩:=id hbv
 dsimp only
 refine cQ (sV (aO Z Z) (sN (nT (cS (cC Z (fun hd=>?_) (fun hd=>?_))))))
 ·have hlt:i<l.length:=by simpa using hd
  obtain ⟨b,o,cap2,d,f,pa,pc,c2,fa,fc,j2,hv2,hrd,hP,hone⟩:=sI hv (List.getElem?_eq_getElem hlt)
  have hpre:=KI hlt
  generalize hcn:(l[i]).name=cn at *
  refine cK9 (xT (cS (cB (cQ (sV (vI (k:=i) (congrArg some hv2) Z uM Z hlt Z) (sV (ag Z gG Z hrd) ?_))))))
  refine au nJ fun b7=>?_
  refine ai Z Z lS Z hone ?_
  refine sN (nK9 [4,5,7,13,14,15] Z (nT (cQ (sV (ag Z kw Z af) ?_))))
  refine sV (vF Z dH Z) (sV (vY Z ld9) ?_)
  refine aH Z Z ET Z (jU Z) ?_
  rintro u h' ⟨n1,n2,rfl,rfl⟩
  refine sN (nK9 [4,5,7,13,14,15,22] Z (nT (cB ?_)))
  simp only [lC,lN]
  unfold seqv
  refine iU Z EW fun yl db rec hst hpe hps hasg hbo hkn2=>?_
  refine ⟨_,Ct.perm (E8 (σ := Value×Option (List Nm)) (b1:=n1) (b2:=n2) (mb:=mb) (yl:=yl) (c:=cn) (fun q=>pt yl (.loop rec)::pt db (.deferred (some []))::pt b7 (cl [sv cn,d,f,.slice pa l[i].parents.length pc,c2,.slice fa l[i].feats fc,j2] 44)::Res.star (marks bs)::pt b5 (cl [q.1] 40)::NR q.1 (q.2.getD [])::pt b4 (cl [.slice a l.length cap,.map (some mb)] 164)::hr)
   (fun k q=>BestV q.1 q.2∧q.2=(D5 l i++((par l cn).take k).filterMap (pV l cn)).foldl better none) (fun _ _=>False) (_,best) ⟨hbv,by rw [hbest]; simp⟩ hv hF.few ?_) ?_,?_⟩
  ·rintro k ⟨w, bst⟩ p hk ⟨hbv2, hb2⟩
   simp only at hbv2 hb2
   obtain ⟨hkl,hke⟩:=List.getElem?_eq_some_iff.1 hk
   have hpm:=List.mem_of_getElem? hk
   have htk:((par l cn).take (k+1)).filterMap (pV l cn)=((par l cn).take k).filterMap (pV l cn)++(pV l cn p).toList:=by
    rw [List.take_succ_eq_append_getElem hkl,hke,List.filterMap_append]
    congr 1
   obtain ⟨wa2,wcp2,rfl,hwa2⟩:=id hbv2
   refine Yc.perm (qo (n:=60) (rec:=rec) (args:=[sv p]) (hf:=pt db (.deferred (some []))::pt b7 (cl [sv cn,d,f,.slice pa l[i].parents.length pc,c2,.slice fa l[i].feats fc,j2] 44)::Res.star (marks bs)::pt b5 (cl [.slice wa2 (bst.getD []).length wcp2] 40)::NR (.slice wa2 (bst.getD []).length wcp2) (bst.getD [])::pt b4 (cl [.slice a l.length cap,.map (some mb)] 164)::S::mps mb (bE l)::hr) (by rw [hps]; rfl) hkn2 (by rw [hps]; decide) ?_) (by exact (by repeat (first | exact Pm.refl | refine Pm.cons slq ?_):Pm _ _).perm)
   intro hr2 w1
   rw [hasg,hps,hbo]
   simp only [lC,lN]
   refine cR (sV (vA9 Z) (sN (nK9 [4,5,7,8] Z (ax (kY Z slq (by first | rfl | assumption) ?_)))))
   refine cB (cQ (sV (ag Z kw Z af) ?_))
   refine sM Z (sV (vF Z dH Z) (sV (vY Z ld9) ?_))
   refine aH Z Z en226 Z (Fb hv hF p cn) ?_
   rintro u h' ⟨T,rfl,sa,scp,rfl,hsa,rfl⟩
   simp only [lC,lN]
   refine sV (vA9 Z) (sN (nK9 [5,7,9] Z (nT (cS (cQ (sM Z (sV (dE Z Z underlying40) (sN (nK9 [5,7,9,30] Z (nT ?_))))))))))
   have hsl:=Ho l cn p
   rw [hsa]
   cases hdp:gP l cn p
   ·have hcd:pV l cn p=none:=by unfold pV; rw [hdp]; rfl
    refine aT Z ?_
    refine aB (xE (xY (dn slq (.inl ⟨Z,(_,bst),⟨hbv2,?_⟩,Z⟩) ?_)))
    ·show bst=_
     rw [htk,hcd,hb2]; simp
    ·rw [dx hst hpe]
     exact sbq
   ·rename_i m
    have hml:=rD hdp
    have hcd:pV l cn p=some (cn::(short l cn m p).dropLast):=by unfold pV; rw [hdp]; rfl
    have hsr:mP l cn p=short l cn m p:=by unfold mP; rw [hdp]
    rw [hsr] at hsl ⊢
    refine fI (r:=NR (.slice sa (short l cn m p).length scp) (short l cn m p)) slq fun ⟨fh,hok⟩=>?_
    obtain ⟨ub,uo,rfl⟩:∃ ub uo,sa=some ⟨ub,uo,none⟩:=by
     rcases VR.form hok with ⟨he,_⟩ | ⟨ub,uo,uc,he,_⟩
     ·injection he with e1 _ _
      rw [e1,hdp] at hsa; cases hsa
     ·injection he with e1 _ _
      exact ⟨ub,uo,e1⟩
    have hscp:(short l cn m p).length≤scp:=by
     rcases VR.form hok with ⟨he,_⟩ | ⟨ub',uo',uc,he,hc1,_⟩
     ·cases he
     ·injection he with _ _ e3
      rw [List.length_map] at hc1; omega
    refine aG Z ?_
    refine cK9 (xT (cS (jd (ork [(0,2),(1,1),(3,2),(4,2),(5,2),(6,2),(7,1),(2,0),(8,0),(9,2)] .nil) (fun i => !(Nat.beq i 8)) [pt b7 (cl [sv cn,d,f,.slice pa l[i].parents.length pc,c2,.slice fa l[i].feats fc,j2] 44)] mixed (by kernel_rfl) ?_)))
    refine dV Z (vF Z dH Z) (bu Z (vY Z ld9) ?_)
    refine dV Z (vM Z) (dV Z (vM Z) (dV Z (aF Z underlying40) (dV Z (BJ Z Z (by unfold I64 at *; omega)) (bu Z (jT (hi:=m) Z Z jh (by rw [fE]; omega) (by rw [fE] at hscp; omega)) ?_))))
    refine aQ Z (ak (cells:=[sv cn]) Z underlying40 fG Z Z (by kernel_rfl) (ltn Z) fun b33=>aW ?_)
    refine aQ rfl (Af (p:=.cons .here .nil) (Ag (b:=b33) (n:=1) (sz:=1) (E:=9) [nC cn] rfl (by simp [nC]) rfl (by decide)) (dU (v:=.slice (some ⟨b33,0,none⟩) 1 1) ((short l cn m p).dropLast.map nC) rfl rfl underlying40 fG rfl (by decide) slq (fun r hr=>by obtain ⟨x,_,rfl⟩:=List.mem_map.1 hr; rfl) (by simp [fE]) (fun j u2 hu2=>⟨NR (.slice (some ⟨ub,uo,none⟩) (short l cn m p).length scp) (short l cn m p),_,slq,Hm (KH hu2)⟩) (fun u2 hu2=>M9 hu2) (by simp; omega) (by simp; omega) (ltn rfl) fun v3 hv3 hv0=>(aW ?_)))
    rw [show [nC cn]++(short l cn m p).dropLast.map nC=(cn::(short l cn m p).dropLast).map nC from rfl]
    refine dV Z (vA9 Z) (bA (nK9 [5,10] Z (nT (cS (fI (r:=NR v3 (cn::(short l cn m p).dropLast)) slq fun ⟨fh2,hok2⟩=>?_)))))
    obtain ⟨vb,vo,vc,rfl⟩:∃ vb vo vc,v3 = .slice (some ⟨vb,vo,none⟩) (cn::(short l cn m p).dropLast).length vc:=by
     rcases VR.form hok2 with ⟨_,he⟩ | ⟨vb,vo,vc,he,_⟩
     ·cases he
     ·exact ⟨vb,vo,vc,by rw [he,List.length_map]⟩
    have hrl:(cn::(short l cn m p).dropLast).length≤900002:=by simp [fE]; omega
    generalize cn::(short l cn m p).dropLast=r at *
    rw [hcd] at htk
    have hround:∀ b',b'=better bst r→b'=(D5 l i++((par l cn).take (k+1)).filterMap (pV l cn)).foldl better none:=fun b' hb'=>by
     rw [hb',htk,← List.append_assoc,Option.toList_some,KJ,← hb2]
    cases bst
    ·obtain rfl:wa2=none:=by cases wa2 with | none=>rfl | some x=>cases hwa2
     refine bB (ork [(0,1),(1,1),(2,2),(3,2),(4,2),(5,1),(6,2),(7,1),(8,2),(9,1),(10,1),(11,1),(12,1),(13,2),(14,2)] .nil) (fun _=>true) mixed (by kernel_rfl) ?_
     refine bu Z (vY Z fH) ?_
     refine bu Z (dE Z Z underlying40) (dV Z (vM Z) (ku Z Z Z Z ?_))
     refine ku Z Z Z Z ?_
     refine nz Z Z Z Z ?_
     refine ku Z Z Z Z ?_
     refine nz Z Z Z Z ?_
     refine ku Z Z Z Z ?_
     iterate 4 refine nz rfl rfl rfl rfl ?_
     refine ku Z Z Z Z ?_
     refine dV Z (vQ Z Z) (bA (nK9 [5,10,54] Z (nT (aT Z ?_))))
     refine cR (sM Z (aX Z Z yQ ?_))
     refine sN (nK9 [] Z (ax (xB (dn slq (.inl ⟨Z,(.slice (some ⟨vb,vo,none⟩) r.length vc,some r),⟨⟨some ⟨vb,vo,none⟩,vc,Z,Z⟩,hround (some r) Z⟩,Z⟩) ?_))))
     rw [dx hst hpe]
     exact sbq
    ·rename_i q
     obtain ⟨qa,rfl⟩:∃ x,wa2=some x:=by cases wa2 with | none=>cases hwa2 | some x=>exact ⟨x,rfl⟩
     have hql:=mem_len hb2
     simp only [Option.getD_some]
     refine fI (r:=NR (.slice (some qa) q.length wcp2) q) slq fun ⟨fh3,hokq⟩=>?_
     refine bB (ork [(0,1),(1,1),(2,2),(3,2),(4,2),(5,1),(6,2),(7,1),(8,2),(9,1),(10,1),(11,0),(12,0),(13,2),(14,2)] .nil) (fun i => !(Nat.beq i 11 || Nat.beq i 12)) mixed (by kernel_rfl) ?_
     refine bu Z (vY Z fH) ?_
     refine bu Z (dE Z Z underlying40) (dV Z (vM Z) (jf Z Z Z (vM Z) (jf Z Z Z (aF Z underlying40) (pF Z Z Z (vY Z fH) ?_))))
     refine jf Z Z Z (aF Z underlying40) (y8 Z Z Z Z Z en228 Z (cmpI_ct r.length q.length) ?_)
     refine jf Z Z Z (vM Z) (pF Z Z Z (vY Z fH) ?_)
     refine y8 Z Z Z Z Z en229 Z (cmpL_ct (iH ⟨fh2,hok2⟩) (iH ⟨fh3,hokq⟩) (by omega) (by omega)) ?_
     refine Jo Z Z Z (jC Z Z (ak (cells:=[.int .i64 (cmpI r.length q.length),.int .i64 (cmpL r q)]) Z underlying333 nG Z Z (by kernel_rfl) (ltn Z) fun b51=>aW ?_))
     refine Jo Z Z Z (jC Z Z (aH Z Z en227 Z (Or_ct (xs:=[cmpI r.length q.length,cmpL r q]) JX (by simp)) ?_))
     rintro u h' ⟨rfl,rfl⟩
     simp only [lC,lN]
     refine aW ?_
     refine jf Z Z Z (aO Z Z) (dV Z (vP Z Z) (bA (nK9 [5,10,54] Z (nT ?_))))
     rw [ring_lt]
     refine cC Z (fun hbt=>?_) (fun hbt=>?_)
     ·refine cR (sM Z (aX Z Z yQ ?_))
      refine sN (nK9 [] Z (ax (xB (dn slq (.inl ⟨Z,(.slice (some ⟨vb,vo,none⟩) r.length vc,some r),⟨⟨some ⟨vb,vo,none⟩,vc,Z,Z⟩,hround (some r) (by show _=(if zz r q=true then some r else some q); rw [if_pos hbt])⟩,Z⟩) ?_))))
      rw [dx hst hpe]
      exact sbq
     ·refine cK9 (xB (dn slq (.inl ⟨Z,(.slice (some qa) q.length wcp2,some q),⟨⟨some qa,wcp2,Z,Z⟩,hround (some q) (by show _=(if zz r q=true then some r else some q); rw [if_neg (by rw [hbt]; decide)])⟩,Z⟩) ?_))
      rw [dx hst hpe]
      exact sbq
  ·exact (by repeat (first | exact Pm.refl | refine Pm.cons slq ?_):Pm _ _).perm
  ·rintro u h' ⟨rfl,(⟨⟨w,bst⟩,⟨hbv2,hb2⟩,rfl⟩ | ⟨_,_,hfalse,_⟩)⟩
   ·simp only at hbv2 hb2
    rw [List.take_length,← hpre] at hb2
    refine ⟨rec,_,slq,(by rw [hst]; simp),?_⟩
    rw [hpe]
    dsimp only
    refine xB (xB (xT (cR (sV (aI Z Z (by unfold I64 at *; omega)) (sM Z (sN (nK9 [4,5,13,14,15] Z (ax (je slq slq ?_)))))))))
    refine kN (i+1,(w,bst),db::bs) ⟨hlt,hbv2,hb2⟩ (by show _ - _<_ - _; omega) Z ⟨Z,Z,Z,Z,Z,trivial⟩ sbq
   ·exact hfalse.elim
 ·have hil:i=l.length:=by
   have:¬ i<l.length:=by simpa using hd
   omega
  subst hil
  rw [Na] at hbest
  have hbr:best=ring l:=hbest
  refine aB (xE (xE (xY (xT (cS (bB (ork [(0,1),(1,1),(2,1),(3,2),(4,2)] .nil) (fun _=>true) mixed (by kernel_rfl) ?_))))))
  refine bu Z (vY Z fH) ?_
  refine bu Z (vY Z fH) ?_
  refine bu Z (yP Z Z underlying40) (dV Z (vA9 Z) (dV Z (vA9 Z) (bA (nK9 [2,3] Z (nT (cT ?_))))))
  rw [show (!wa.isNone)=(ring l).isSome by rw [hwa,hbr]; cases ring l <;> rfl]
  refine Dq (bs:=bs) Z Z ⟨NR (.slice wa (best.getD []).length wcp) (best.getD []),Z,_,Z,Z,by rw [hbr]⟩ sbq
end
end Go.Hr
namespace Go.Hr
open Go Go.Ck Go.Proofs Go.Proofs.YtknmacdbffgjgaaGreatDoor Fx
attribute [local irreducible] Go.Ck.Sub St Cd Xt Nx DrL LsW
section
variable {S S':Res} {v v':Value}
end
end Go.Hr
namespace Go.Hr
open Go Go.Ck Go.Proofs Go.Proofs.Tryz Go.Proofs.YtknmacdbffgjgaaGreatDoor Fx
attribute [local irreducible] Go.Ck.Sub St Cd Xt Nx DrL LsW
def ixP (g:Nm→Bool) (xs:List Nm):Int:=match xs.findIdx? g with | some i=>i | none => -1
section
variable {S:Res} {v:Value} {l:Sys} {kf:FuncId} {cp:Array Value} {g:Nm→Bool}
theorem Nb {mb:Nat} (hv:lU S v l) (hF:Fine l) (hE:Enters prog kf) (hf:∀ x∈nms l,Reads prog kf (#[]++[sv x].toArray++cp) [S] (.bool (g x))):CtN prog 189 #[.agg #[v,.map (some mb)],.func (.func kf) #[] cp] [S] fun u T=>u.oneCell'=true∧T=NR u ((nms l).filter g):=by
 obtain ⟨a,cap,rfl,_⟩:=id hv
 have hFl:=hF.len
 have hnl:(nms l).length=l.length:=by simp [nms]
 refine aL (n:=26) func189 Z Z (len Z) fun hr w0=>?_
 refine cQ (aV Z Z fun b2=>?_)
 refine sV (vA9 Z) (sN (nK9 [1,2,4] Z (nT (cQ (sV (vA9 Z) (sN (nT (cS (cQ (sV (vF Z DJ Z) (sV (vY Z ld22) ?_)))))))))))
 refine sV (aF Z underlying22) (sM Z (sN (nK9 [1,4,5,9,10,11] Z (nT (cB (dK (cz 9 1) (aZ (σ := Value×Nat) (fun q=>[(1,.func (.func kf) #[] cp),(5,q.1),(9,.slice a l.length cap),(10,.int .i64 l.length),(11,.int .i64 (q.2:Nat))]) (fun q=>NR q.1 (((nms l).take q.2).filter g)::S::hr) (fun q=>q.1.oneCell'=true∧q.2≤l.length) (fun q=>l.length - q.2) (.slice none 0 0,0) ⟨Z,Nat.zero_le _⟩ ?_)))))))
 rintro ⟨w,i⟩ ⟨hw,hi⟩
 simp only at hw hi
 dsimp only
 refine cQ (sV (aO Z Z) (sN (nT (cS (cC Z (fun hd=>?_) (fun hd=>?_))))))
 ·have hlt:i<l.length:=by simpa using hd
  obtain ⟨b,o,cap2,d,f,pa,pc,c2,fa,fc,j2,hv2,hrd,hP,hone⟩:=sI hv (List.getElem?_eq_getElem hlt)
  have hlt':i<(nms l).length:=by omega
  have hnm:(nms l)[i]=(l[i]).name:=by simp [nms]
  have hmem:(l[i]).name∈nms l:=by rw [← hnm]; exact List.getElem_mem hlt'
  have hll:(((nms l).take i).filter g).length≤900000:=Nat.le_trans (List.length_filter_le _ _) (by rw [List.length_take]; omega)
  have ht:((nms l).take (i+1)).filter g=((nms l).take i).filter g++(if g (l[i]).name=true then [(l[i]).name] else []):=by
   rw [List.take_succ_eq_append_getElem hlt',List.filter_append,hnm]
   congr 1
   by_cases hg:g (l[i]).name=true <;> simp [hg]
  refine cK9 (xT (cS (cB (cQ (sV (vI (k:=i) (congrArg some hv2) Z uM Z hlt Z) (sV (ag Z gG Z hrd) ?_))))))
  refine au nJ fun b7=>?_
  refine ai Z Z lS Z hone ?_
  refine sN (nK9 [1,5,7,9,10,11] Z (nT (cQ (sM Z (sV (vF Z dH Z) (sV (vY Z ld9) ?_))))))
  refine bg Z Z hE Z ((hf (l[i]).name hmem)) ?_
  refine sN (nK9 [1,5,7,9,10,11,18] Z (nT (cC Z (fun he=>?_) (fun he=>?_))))
  ·rw [if_pos he] at ht
   refine cR (sM Z (sV (vF Z dH Z) (sV (vY Z ld9) ?_)))
   refine ak (cells:=[sv (l[i]).name]) Z underlying40 fG Z Z (by kernel_rfl) (ltn Z) fun b22=>?_
   refine dU [nC (l[i]).name] Z Z underlying40 fG Z (by decide) (show Sel _ (NR w (((nms l).take i).filter g)) _ from slq) (by simp [nC]) Z (fun j u2 hu2=>bP (bU (by simpa [nC] using hu2))) (by simp [nC,Value.oneCell']) (by rw [List.length_map]; omega) (by rw [List.length_map]; omega) (ltn Z) fun w3 hw3 _=>?_
   rw [show (((nms l).take i).filter g).map nC++[nC (l[i]).name]=(((nms l).take (i+1)).filter g).map nC by rw [ht]; simp]
   refine sV (vA9 Z) (sN (nK9 [1,5,9,10,11] Z (ax (xB (xT (cR (sV (aI Z Z (by unfold I64 at *; omega)) (sM Z (sN (nK9 [1,5,9,10,11] Z (ax ?_)))))))))))
   refine aJ (w3,i+1) ⟨hw3,hlt⟩ (by show _ - _<_ - _; omega)
  ·rw [if_neg (by rw [he]; decide),List.append_nil] at ht
   refine cK9 (xB (xT (cR (sV (aI Z Z (by unfold I64 at *; omega)) (sM Z (sN (nK9 [1,5,9,10,11] Z (ax ?_))))))))
   rw [← ht]
   refine aJ (w,i+1) ⟨hw,hlt⟩ (by show _ - _<_ - _; omega)
 ·have hil:i=l.length:=by
   have:¬ i<l.length:=by simpa using hd
   omega
  subst hil
  rw [← hnl,List.take_length]
  refine aB (xE (xE (xY (xT (cQ (sM Z (sV (vA9 Z) (sN (nK9 [4] Z (nT (cT ?_)))))))))))
  exact aj Z ⟨_,Z,hw,Z⟩ sbq
end
section
variable {S:Res} {v:Value} {l:Sys}
theorem Fg (hv:lU S v l):Ct prog 63 #[v] [S] fun u h'=>u = .tuple #[.int .i64 (check l).1,sv (check l).2]∧h'=[S]:=by
 obtain ⟨a,cap,rfl,_⟩:=id hv
 refine aL (n:=89) func63 Z Z (len Z) fun hr w0=>?_
 refine cQ (sV (vA9 Z) (sV (vA9 Z) (sN (nT (cS (cQ (sM Z (sV (aF Z underlying22) (sV (bZ Z Z) (sN (nK9 [0,2,3,17] Z (nT (cC Z (fun h24=>?_) (fun h24=>?_))))))))))))))
 ·have h24:24<l.length:=by
   have:(24:Int)<l.length:=by simpa using h24
   omega
  refine cQ (sV (vA9 Z) (sV (vA9 Z) (sN (nK9 [2,3] Z (nT (cT (xR ?_)))))))
  rw [EG h24]
  exact aj Z ⟨Z,Z⟩ sbq
 ·have h24:l.length≤24:=by
   have:¬ (24:Int)<l.length:=by simpa using h24
   omega
  refine cK9 (xT (cQ (sM Z (aH Z Z en138 Z (EZ hv (by omega)) ?_))))
  rintro u h' ⟨mb,rfl,rfl⟩
  simp only [lC,lN]
  refine sV (vA9 Z) (sN (nK9 [0,2,3,4] Z (nT (cS (cQ (sM Z (sV (aF Z underlying22) (sM Z (sN (nT (cB (aZ (σ := Nat) (fun i=>[(0,.slice a l.length cap),(4,.map (some mb)),(20,.slice a l.length cap),(21,.int .i64 l.length),(22,.int .i64 (i:Nat))]) (fun _=>mps mb (bE l)::S::hr) (fun i=>i≤l.length∧∀ (j:Nat) (y:Cls),j<i→l[j]? = some y→alone l j y=0) (fun i=>l.length - i) 0 ⟨Nat.zero_le _,fun j y hj=>by omega⟩ ?_))))))))))))
  rintro i ⟨hi,hb⟩
  refine cQ (sV (aO Z Z) (sN (nT (cS (cC Z (fun hd=>?_) (fun hd=>?_))))))
  ·have hlt:i<l.length:=by simpa using hd
   have hxi:=List.getElem?_eq_getElem hlt
   obtain ⟨b,o,cap2,d,f,pa,pc,c2,fa,fc,j2,hv2,hrd,hP,hone⟩:=sI hv hxi
   generalize l[i]=x at *
   refine cK9 (xT (cS (cB (cQ (sM Z (sV (vI (k:=i) (congrArg some hv2) Z uM Z hlt Z) (sV (ag Z gG Z hrd) ?_)))))))
   refine au nJ fun b6=>?_
   refine sV (vA9 Z) (ai Z Z lS Z hone ?_)
   refine sN (nK9 [0,4,5,6,20,21,22] Z (nT (cB (cQ (sV (vF Z eX Z) (sV (vY Z lT) ?_))))))
   refine sV (aF Z underlying39) (sV (bZ Z Z) (sV (vA9 Z) (sN (nK9 [0,4,5,6,20,21,22,27] Z (nT (cC Z (fun h4=>?_) (fun h4=>?_)))))))
   ·have h4:4<x.parents.length:=by
     have:(4:Int)<x.parents.length:=by simpa using h4
     omega
    have ha:alone l i x=3:=by unfold alone; rw [if_pos h4]
    refine cS (bB (ork [(0,2),(1,1),(2,2),(3,2)] .nil) (fun _=>true) mixed (by kernel_rfl) ?_)
    refine dV Z (vF Z dH Z) (bu Z (vY Z ld9) ?_)
    refine dV Z (vA9 Z) (dV Z (vA9 Z) (bA (nK9 [2,3] Z (nT (cT (xW (xW (xR (xR (xW (xR ?_)))))))))))
    rw [lY h24 hxi hb (by rw [ha]; decide),ha]
    exact aj Z ⟨Z,Z⟩ sbq
   ·have h4:¬ 4<x.parents.length:=by
     have:¬ (4:Int)<x.parents.length:=by simpa using h4
     omega
    refine cQ (sV (vF Z dH Z) (sV (vY Z ld9) ?_))
    refine bg Z Z en139 Z (lq x.name) ?_
    refine sV (bi Z) (sV (vA9 Z) (sN (nK9 [0,4,5,6,20,21,22,34] Z (nT (cC Z (fun hnn=>?_) (fun hnn=>?_))))))
    ·have hnn:named x.name=false:=by simpa using hnn
     have ha:alone l i x=4:=by unfold alone; rw [if_neg h4,if_pos hnn]
     refine cS (bB (ork [(0,2),(1,1),(2,2),(3,2)] .nil) (fun _=>true) mixed (by kernel_rfl) ?_)
     refine dV Z (vF Z dH Z) (bu Z (vY Z ld9) ?_)
     refine dV Z (vA9 Z) (dV Z (vA9 Z) (bA (nK9 [2,3] Z (nT (cT (xW (xW (xR (xR (xW (xR ?_)))))))))))
     rw [lY h24 hxi hb (by rw [ha]; decide),ha]
     exact aj Z ⟨Z,Z⟩ sbq
    ·have hnn:named x.name=true:=by simpa using hnn
     obtain ⟨k, hk, hki⟩ : ∃ k, idx l x.name = some k ∧ k ≤ i := by
      cases hx:idx l x.name with
      | none =>
       unfold idx at hx
       rw [List.findIdx?_eq_none_iff] at hx
       have:=hx x (List.mem_of_getElem? hxi)
       simp at this
      | some k =>
       refine ⟨k,Z,?_⟩
       obtain ⟨_,_,h3⟩:=List.findIdx?_eq_some_iff_getElem.1 hx
       rcases Nat.lt_or_ge i k with h | h
       ·have:=h3 i h
        obtain ⟨_,he⟩:=List.getElem?_eq_some_iff.1 hxi
        rw [he] at this; simp at this
       ·exact h
     refine cS (cQ (sM Z (sV (vF Z dH Z) (sV (vY Z ld9) ?_))))
     refine sV (gB (show (bJ (bE l) x.name).getD (.int .i64 0) = .int .i64 (k:Int) by rw [sO,hk]; rfl) (bI Z Z gJ nG slq)) ?_
     refine sM Z (sV (aO Z Z) (sV (vA9 Z) (sN (nK9 [0,4,6,20,21,22,41] Z (nT (cC Z (fun hk1=>?_) (fun hk1=>?_)))))))
     ·have hk1:k<i:=by
       have:(k:Int)<i:=by simpa using hk1
       omega
      have ha:alone l i x=6:=by
       unfold alone
       rw [if_neg h4,if_neg (by rw [hnn]; decide),if_pos (.inl (by rw [hk]; intro e; cases e; omega))]
      refine cK9 (xT ?_)
      rw [show decide ((k:Int)<(i:Int))=true from decide_eq_true (by omega)]
      refine aT Z ?_
      refine cS (bB (ork [(0,2),(1,1),(2,2),(3,2)] .nil) (fun _=>true) mixed (by kernel_rfl) ?_)
      refine dV Z (vF Z dH Z) (bu Z (vY Z ld9) ?_)
      refine dV Z (vA9 Z) (dV Z (vA9 Z) (bA (nK9 [2,3] Z (nT (cT (xW (xW (xR (xR (xW (xR ?_)))))))))))
      rw [lY h24 hxi hb (by rw [ha]; decide),ha]
      exact aj Z ⟨Z,Z⟩ sbq
     ·have hk1:k=i:=by
       have:¬ (k:Int)<i:=by simpa using hk1
       omega
      subst hk1
      refine cR (sV (vF Z eX Z) (sV (vY Z lT) ?_))
      refine bg Z Z en140 Z (KG hP (by omega)) ?_
      refine sV (vA9 Z) (sN (nK9 [0,4,6,20,21,22,41] Z (nT (cC Z (fun htw=>?_) (fun htw=>?_)))))
      ·have htw:¬ x.parents.Nodup:=by simpa using htw
       have ha:alone l k x=6:=by
        unfold alone
        rw [if_neg h4,if_neg (by rw [hnn]; decide),if_pos (.inr htw)]
       refine cS (bB (ork [(0,2),(1,1),(2,2),(3,2)] .nil) (fun _=>true) mixed (by kernel_rfl) ?_)
       refine dV Z (vF Z dH Z) (bu Z (vY Z ld9) ?_)
       refine dV Z (vA9 Z) (dV Z (vA9 Z) (bA (nK9 [2,3] Z (nT (cT (xW (xW (xR (xR (xW (xR ?_)))))))))))
       rw [lY h24 hxi hb (by rw [ha]; decide),ha]
       exact aj Z ⟨Z,Z⟩ sbq
      ·have htw:x.parents.Nodup:=by simpa using htw
       have ha:alone l k x=0:=gQ.2 ⟨by omega,hnn,hk,htw⟩
       refine cK9 (xB (xB (xT (cR (sV (aI Z Z (by unfold I64 at *; omega)) (sM Z (sN (nK9 [0,4,20,21,22] Z (ax (aJ (k+1) ⟨hlt,fun j y hj hy=>?_⟩ (by show _ - _<_ - _; omega)))))))))))
       by_cases hji:j=k
       ·subst hji; rw [hxi] at hy; cases hy; exact ha
       ·exact hb j y (by omega) hy
  ·have hil:i=l.length:=by
    have:¬ i<l.length:=by simpa using hd
    omega
   have hball:∀ (j:Nat) (y:Cls),l[j]? = some y→alone l j y=0:=fun j y hj=>hb j y (by rw [hil]; exact (List.getElem?_eq_some_iff.1 hj).1) hj
   refine aB (xE (xE (xY (xT (cS (cQ (sM Z (sV (aF Z underlying22) (sM Z (sN (nK9 [0,4,54,55,56] Z (nT (cB (aZ (σ := Nat) (fun i=>[(0,.slice a l.length cap),(4,.map (some mb)),(54,.slice a l.length cap),(55,.int .i64 l.length),(56,.int .i64 (i:Nat))]) (fun _=>mps mb (bE l)::S::hr) (fun i=>i≤l.length∧∀ (j:Nat) (y:Cls),j<i→l[j]? = some y→lost l y=false) (fun i=>l.length - i) 0 ⟨Nat.zero_le _,fun j y hj=>by omega⟩ ?_))))))))))))))
   rintro i2 ⟨hi2,hls⟩
   refine cQ (sV (aO Z Z) (sN (nT (cS (cC Z (fun hd2=>?_) (fun hd2=>?_))))))
   ·have hlt:i2<l.length:=by simpa using hd2
    have hxi:=List.getElem?_eq_getElem hlt
    obtain ⟨b,o,cap2,d,f,pa,pc,c2,fa,fc,j2,hv2,hrd,hP,hone⟩:=sI hv hxi
    have hpx:=(gQ.1 (hball _ _ hxi)).1
    generalize l[i2]=x at *
    refine cK9 (xT (cS (cB (cQ (sV (vI (k:=i2) (congrArg some hv2) Z uM Z hlt Z) (sV (ag Z gG Z hrd) ?_))))))
    refine au nJ fun b8=>?_
    refine ai Z Z lS Z hone ?_
    refine sN (nK9 [0,4,8,54,55,56] Z (nT (cQ (sV (vF Z eX Z) (sV (vY Z lT) ?_)))))
    refine sV (aF Z underlying39) (sM Z (sN (nK9 [0,4,8,54,55,56,61,62,63] Z (nT (cB (aZ (σ := Nat) (fun k=>[(0,.slice a l.length cap),(4,.map (some mb)),(8,.pointer (some ⟨b8,0,none⟩)),(54,.slice a l.length cap),(55,.int .i64 l.length),(56,.int .i64 (i2:Nat)),(61,.slice pa x.parents.length pc),(62,.int .i64 x.parents.length),(63,.int .i64 (k:Nat))]) (fun _=>pt b8 (cl [sv x.name,d,f,.slice pa x.parents.length pc,c2,.slice fa x.feats fc,j2] 44)::mps mb (bE l)::S::hr) (fun k=>k≤x.parents.length∧∀ (m:Nat) (p:Nm),m<k→x.parents[m]? = some p→isC l p=true) (fun k=>x.parents.length - k) 0 ⟨Nat.zero_le _,fun j y hj=>by omega⟩ ?_))))))
    rintro k ⟨hk,hpk⟩
    refine cQ (sV (aO Z Z) (sN (nT (cS (cC Z (fun hd3=>?_) (fun hd3=>?_))))))
    ·have hkl:k<x.parents.length:=by simpa using hd3
     have hpi:=List.getElem?_eq_getElem hkl
     obtain ⟨pb,po,pcap,q1,q2,q3,q4,q5,hpv,hprd,hpone⟩:=Hg hP hpi
     generalize x.parents[k]=p at *
     refine cK9 (xT (cS (cB (cQ (sV (vI (k:=k) (congrArg some hpv) Z oF Z hkl Z) (sV (ag Z p8 Z hprd) ?_))))))
     refine au uW fun b10=>?_
     refine ai Z Z rM Z hpone ?_
     refine sN (nK9 [0,4,8,10,54,55,56,61,62,63] Z (nT (cQ (sM Z (sV (vF Z gH Z) (sV (vY Z ld9) ?_))))))
     refine sV (dM Z Z gJ nG slq) ?_
     refine sM Z (sV (ah Z Z) (sV (ah Z Z) (sV (vA9 Z) (sV (vA9 Z) (sN (nK9 [0,4,8,12,54,55,56,61,62,63] Z (nT (cQ (sM Z (sV (bi Z) (sN (nK9 [0,4,8,54,55,56,61,62,63,75] Z (nT ?_)))))))))))))
     rw [qH]
     refine cC Z (fun hno=>?_) (fun hno=>?_)
     ·have hno:isC l p=false:=by simpa using hno
      have hlost:lost l x=true:=List.any_eq_true.2 ⟨p,List.mem_of_getElem? hpi,by rw [hno]; rfl⟩
      refine cS (bB (ork [(0,2),(1,1),(2,2),(3,2)] .nil) (fun _=>true) mixed (by kernel_rfl) ?_)
      refine dV Z (vF Z dH Z) (bu Z (vY Z ld9) ?_)
      refine dV Z (vA9 Z) (dV Z (vA9 Z) (bA (nK9 [2,3] Z (nT (cT (xW (xR (xR (xW (xW (xR (xR (xW (xR ?_))))))))))))))
      rw [GY h24 hball hxi hls hlost]
      exact aj Z ⟨Z,Z⟩ sbq
     ·have hno:isC l p=true:=by simpa using hno
      refine cK9 (xB (xT (cR (sV (aI Z Z (by unfold I64 at *; omega)) (sM Z (sN (nK9 [0,4,8,54,55,56,61,62,63] Z (ax (aJ (k+1) ⟨hkl,fun m q hm hq=>?_⟩ (by show _ - _<_ - _; omega))))))))))
      by_cases hmk:m=k
      ·subst hmk; rw [hpi] at hq; cases hq; exact hno
      ·exact hpk m q (by omega) hq
    ·have hkl:k=x.parents.length:=by
      have:¬ k<x.parents.length:=by simpa using hd3
      omega
     refine aB (xE (xE (xY (xB (xT (cR (sV (aI Z Z (by unfold I64 at *; omega)) (sM Z (sN (nK9 [0,4,54,55,56] Z (ax (aJ (i2+1) ⟨hlt,fun j y hj hy=>?_⟩ (by show _ - _<_ - _; omega)))))))))))))
     by_cases hji:j=i2
     ·subst hji
      rw [hxi] at hy; cases hy
      unfold lost
      rw [List.any_eq_false]
      intro p hp
      obtain ⟨m,hm⟩:=List.getElem?_of_mem hp
      rw [hpk m p (by rw [hkl]; exact (List.getElem?_eq_some_iff.1 hm).1) hm]; decide
     ·exact hls j y (by omega) hy
   ·have hil2:i2=l.length:=by
     have:¬ i2<l.length:=by simpa using hd2
     omega
    have hlall:∀ (j:Nat) (y:Cls),l[j]? = some y→lost l y=false:=fun j y hj=>hls j y (by rw [hil2]; exact (List.getElem?_eq_some_iff.1 hj).1) hj
    refine aB (xE (xE (xY (xT (cS (cQ (sM Z ?_)))))))
    have hF:Fine l:=⟨by omega,fun x hx=>by
     obtain ⟨j,hj⟩:=List.getElem?_of_mem hx
     have:=(gQ.1 (hball j x hj)).1
     omega⟩
    refine aH Z Z en142 Z (Ring_ct hv hF) ?_
    rintro u h' ⟨T,rfl,w,rfl,hw,rfl⟩
    simp only [lC,lN]
    refine sM Z (sV (ah Z Z) (sV (ah Z Z) (sV (vA9 Z) (sV (vA9 Z) (sN (nK9 [13,14] Z (nT (cQ (sM Z (sN (nK9 [13,85] Z (nT ?_))))))))))))
    cases hrg:ring l
    ·rw [Mr h24 hball hlall hrg]
     refine aG Z ?_
     refine cK9 (xT (cQ (sV (vA9 Z) (sV (vA9 Z) (sN (nK9 [2,3] Z (nT (cT ?_))))))))
     exact aj Z ⟨Z,Z⟩ sbq
    ·rename_i r
     have hrk:=(ring_ok hrg).1
     cases r with
     | nil=>simp [zC] at hrk
     | cons r0 t =>
      rw [GZ h24 hball hlall hrg]
      simp only [Option.getD_some]
      refine fI (r:=NR w (r0::t)) slq fun hok=>?_
      obtain ⟨rb,ro,rcp,hrv,hrrd⟩:=sJ (iH hok) (show (r0::t)[0]? = some r0 from rfl)
      refine aT Z ?_
      refine cS (bB (ork [(0,2),(1,2),(2,1),(3,2),(4,2)] .nil) (fun _=>true) mixed (by kernel_rfl) ?_)
      refine dV Z (vM Z) (dV Z (vI (k:=0) (congrArg some hrv) Z jh Z (by simp) Z) ?_)
      refine bu Z (vY Z ld9) ?_
      refine dV Z (vA9 Z) (dV Z (vA9 Z) (bA (nK9 [2,3] Z (nT (cT (xR ?_))))))
      exact aj Z ⟨Z,Z⟩ sbq
end
end Go.Hr
namespace Go.Hr
open Go Go.Ck Go.Proofs Go.Proofs.YtknmacdbffgjgaaGreatDoor Fx
attribute [local irreducible] Go.Ck.Sub St Cd Xt Nx DrL LsW
def rightB (l:Sys):Bool:=((check l).1 == 0) && decide (0<(l.length:Int))
section
variable {S:Res} {v:Value} {l:Sys}
end
end Go.Hr
namespace Go.Hr
open Go Go.Ck Go.Proofs Go.Proofs.Tryz Go.Proofs.YtknmacdbffgjgaaGreatDoor Fx
attribute [local irreducible] Go.Ck.Sub St Cd Xt Nx DrL LsW
def dI (l:Sys) (ns:List Nm):Int:=if (check l).1=0 then (if ns.all (isC l) then 0 else 5) else (check l).1
theorem eB {l:Sys} {ns:List Nm}:dI l ns=0↔Right l∧∀ n∈ns,isC l n=true:=by
 unfold dI
 rw [← oh,← List.all_eq_true]
 by_cases h:(check l).1=0
 ·rw [if_pos h]
  by_cases h2:ns.all (isC l)=true
  ·simp [h,h2]
  ·rw [if_neg h2]; simp [h,h2]
 ·rw [if_neg h]; simp [h]
theorem Nc {f:Nm→Bool} {ns:List Nm} {i:Nat} (hi:i<ns.length) (h:∀ x∈ns.take i,f x=true) (h2:f ns[i]=true):∀ x∈ns.take (i+1),f x=true:=fun x hx=>by
 rw [List.take_succ_eq_append_getElem hi] at hx
 rcases List.mem_append.1 hx with hx | hx
 ·exact h x hx
 ·simp at hx; rw [hx]; exact h2
def gr0:Value:=.agg #[.slice none 0 0,.map none]
section
variable {S N:Res} {v nv:Value} {l:Sys} {ns:List Nm}
theorem Aj (hv:lU S v l) (hn:w9 N nv ns) (hnl:ns.length≤1099511627776):Ct prog 91 #[v,nv] [S,N] fun u h'=>(dI l ns≠0∧u = .tuple #[gr0,.int .i64 (dI l ns)]∧h'=[S,N])∨(dI l ns=0∧∃ mb,u = .tuple #[.agg #[v,.map (some mb)],.int .i64 0]∧h'=[mps mb (bE l),S,N]):=by
 obtain ⟨a,cap,rfl,_⟩:=id hv
 obtain ⟨na,ncap,rfl,_⟩:=id hn
 refine aL (n:=42) func91 Z Z (len Z) fun hr w0=>?_
 refine cQ (au rX fun b4=>?_)
 refine sV (vA9 Z) (sN (nT (cS (cQ (sM Z (aH Z Z en63 Z (Fg hv) ?_))))))
 rintro u h' ⟨rfl,rfl⟩
 simp only [lC,lN]
 refine sM Z (sV (ah Z Z) (sV (ah Z Z) (sV (vA9 Z) (sV (vA9 Z) (sN (nK9 [0,1,4,5,6] Z (nT (cQ (sM Z (sV (bT Z Z) (sN (nK9 [0,1,4,5,6,19] Z (nT (cC Z (fun hc=>?_) (fun hc=>?_)))))))))))))))
 ·have hc:¬ (check l).1=0:=by simpa using hc
  have he:dI l ns=(check l).1:=by unfold dI; rw [if_neg hc]
  rw [he]
  refine cQ (sV (aN (cells:=[.slice none 0 0,.map none]) Z (fun _=>by kernel_rfl)) ?_)
  refine sM Z (ai Z Z nE Z Z ?_)
  refine sV (vA9 Z) (sN (nK9 [4,5] Z (nT (cT (xR ?_)))))
  exact bC (.cellN Z kw Z slq (.tmp Z .nil)) (.inl ⟨hc,Z,Z⟩) sbr
 ·have hc:(check l).1=0:=by simpa using hc
  have hR:=oh.1 hc
  refine cK9 (xT (cQ (sM Z ?_)))
  have hFl:=hR.len
  refine aH Z Z en166 Z (of_ct hv (by omega)) ?_
  rintro u h' ⟨mb,rfl,rfl⟩
  simp only [lC,lN]
  refine au rX fun b8=>?_
  refine ai Z Z nE Z Z ?_
  refine sN (nK9 [1,4,5,8] Z (nT (cS (cQ (sM Z (sV (aF Z underlying40) (sM Z (sN (nK9 [4,5,8,24,25,26] Z (nT (cB (aZ (σ := Nat) (fun i=>[(4,.pointer (some ⟨b4,0,none⟩)),(8,.pointer (some ⟨b8,0,none⟩)),(24,.slice na ns.length ncap),(25,.int .i64 ns.length),(26,.int .i64 (i:Nat))]) (fun _=>pt b4 (cl [.slice none 0 0,.map none] 164)::pt b8 (cl [.slice a l.length cap,.map (some mb)] 164)::mps mb (bE l)::S::N::hr) (fun i=>i≤ns.length∧∀ x∈ns.take i,isC l x=true) (fun i=>ns.length - i) 0 ⟨Nat.zero_le _,fun x hx=>by simp at hx⟩ ?_))))))))))))
  rintro i ⟨hi,hal⟩
  refine cQ (sV (aO Z Z) (sN (nT (cS (cC Z (fun hd=>?_) (fun hd=>?_))))))
  ·have hlt:i<ns.length:=by simpa using hd
   obtain ⟨b,o,cap2,hv2,hrd⟩:=sJ hn (List.getElem?_eq_getElem hlt)
   refine cK9 (xT (cS (cB (cQ (sV (vI (k:=i) (congrArg some hv2) Z jh Z hlt Z) (sV (vY Z ld9) ?_))))))
   refine sV (vA9 Z) (sN (nK9 [4,8,10,24,25,26] Z (nT (cQ (sV (vF Z DK Z) (sV (vY Z kv) ?_))))))
   refine sM Z (sV (dM Z Z gJ nG slq) ?_)
   refine sM Z (sV (ah Z Z) (sV (ah Z Z) (sV (vA9 Z) (sV (vA9 Z) (sN (nK9 [4,8,12,24,25,26] Z (nT (cQ (sM Z (sV (bi Z) (sN (nK9 [4,8,24,25,26,38] Z (nT ?_)))))))))))))
   rw [qH]
   refine cC Z (fun hno=>?_) (fun hno=>?_)
   ·have hno:isC l ns[i]=false:=by simpa using hno
    have he:dI l ns=5:=by
     unfold dI
     rw [if_pos hc,if_neg (by rw [List.all_eq_true]; intro h; rw [h _ (List.getElem_mem hlt)] at hno; cases hno)]
    rw [he]
    refine cQ (sV (aN (cells:=[.slice none 0 0,.map none]) Z (fun _=>by kernel_rfl)) ?_)
    refine ai Z Z nE Z Z ?_
    refine sV (vA9 Z) (sN (nK9 [4,5] Z (nT (cT (xW (xR (xR (xW (xR ?_)))))))))
    exact bC (.cellN Z kw Z slq (.tmp Z .nil)) (.inl ⟨by decide,Z,Z⟩) sbr
   ·have hno:isC l ns[i]=true:=by simpa using hno
    refine cK9 (xB (xT (cR (sV (aI Z Z (by unfold I64 at *; omega)) (sM Z (sN (nK9 [4,8,24,25,26] Z (ax ?_))))))))
    refine aJ (i+1) ⟨hlt,Nc hlt hal hno⟩ (by show _ - _<_ - _; omega)
  ·have hil:i=ns.length:=by
    have:¬ i<ns.length:=by simpa using hd
    omega
   subst hil
   rw [List.take_length] at hal
   have he:dI l ns=0:=eB.2 ⟨hR,hal⟩
   refine aB (xE (xE (xY (xT (cQ (sV (ag Z kw Z af) ?_))))))
   refine ai Z Z nE Z Z ?_
   refine sV (vA9 Z) (sN (nK9 [4,5] Z (nT (cT ?_))))
   exact bC (.cellN Z kw Z slq (.tmp Z .nil)) (.inr ⟨he,mb,Z,Z⟩) sbr
end
def okL {α : Type} (e:Int) (xs:List α):List α := if e=0 then xs else []
theorem Nf {α : Type} {e:Int} {xs:List α} (h:e≠0):okL e xs=[]:=if_neg h
theorem Ng {α : Type} {e:Int} {xs:List α} (h:e=0):okL e xs=xs:=if_pos h
theorem D6 {e:Int} (h:e≠0):(e != 0)=true:=by simpa using h
section
variable {S N:Res} {v nv:Value} {l:Sys} {ns:List Nm}
theorem Fh (hv:lU S v l) (c:Nm):CtN prog 41 #[v,sv c] [S] fun u T=>∃ w,u = .tuple #[w,.int .i64 (dI l [c])]∧w.oneCell'=true∧T=NR w (okL (dI l [c]) (above l c)):=by
 obtain ⟨a,cap,rfl,_⟩:=id hv
 refine aL (n:=21) func41 Z Z (len Z) fun hr w0=>?_
 refine cQ (sV (vA9 Z) (sV (vA9 Z) (sN (nT (cQ (sM Z (sM Z (ak (cells:=[sv c]) Z underlying40 fG Z Z (by kernel_rfl) (ltn Z) fun b11=>?_))))))))
 refine Af (Ag (b:=b11) (n:=1) (sz:=1) (E:=9) [nC c] Z (by simp [nC]) Z (by decide)) ?_
 simp only [lC,lN]
 refine nM (r:=NR (.slice (some ⟨b11,0,none⟩) 1 1) [c]) slq fun hok=>?_
 refine aH Z Z en91 Z (Aj hv (iH hok) (by simp)) ?_
 rintro u h' (⟨he,rfl,rfl⟩ | ⟨he,mb,rfl,rfl⟩)
 ·simp only [lC,lN]
  unfold gr0
  refine sM Z (sV (ah Z Z) (sV (ah Z Z) (au rX fun b6=>?_)))
  refine ai Z Z nE Z Z ?_
  refine sV (vA9 Z) (sN (nK9 [1,4,5,6,7] Z (nT (cS (cQ (sM Z (sV (bT Z Z) (sN (nK9 [1,4,5,6,7,16] Z (nT ?_))))))))))
  rw [D6 he]
  refine aT Z ?_
  refine cQ (sM Z (sV (vA9 Z) (sV (vA9 Z) (sN (nK9 [4,5] Z (nT (cT (xR ?_))))))))
  rw [Nf he]
  refine jv (cz 9 1) ?_
  exact aj Z ⟨NR (.slice none 0 0) [],Z,_,Z,Z,Z⟩ sbq
 ·obtain ⟨hR,hm⟩:=eB.1 he
  rw [he,Ng rfl]
  simp only [lC,lN]
  refine sM Z (sV (ah Z Z) (sV (ah Z Z) (au rX fun b6=>?_)))
  refine ai Z Z nE Z Z ?_
  refine sV (vA9 Z) (sN (nK9 [1,4,5,6,7] Z (nT (cS (cQ (sM Z (sV (bT Z Z) (sN (nK9 [1,4,5,6,7,16] Z (nT (aG Z ?_)))))))))))
  refine cK9 (xT (cQ (sV (ag Z kw Z af) ?_)))
  refine sM Z (aH Z Z en103 Z (E9 hv hR.fine hR.acyc (hm c (by simp))) ?_)
  rintro u h' ⟨hu,rfl⟩
  simp only [lC,lN]
  refine sV (vA9 Z) (sV (vA9 Z) (sN (nK9 [4,5] Z (nT (cT ?_)))))
  exact aj Z ⟨_,Z,_,Z,hu,Z⟩ sbq
theorem Is_ct (hv:lU S v l) (c x:Nm):Ct prog 27 #[v,sv c,sv x] [S] fun u h'=>u = .tuple #[.bool (decide (dI l [c,x]=0) && has l c x),.int .i64 (dI l [c,x])]∧h'=[S]:=by
 obtain ⟨a,cap,rfl,_⟩:=id hv
 refine aL (n:=25) func27 Z Z (len Z) fun hr w0=>?_
 refine cQ (sV (vA9 Z) (sV (vA9 Z) (sN (nT (cQ (sM Z (sM Z (sM Z (ak (cells:=[sv c,sv x]) Z underlying40 fG Z Z (by kernel_rfl) (ltn Z) fun b14=>?_)))))))))
 refine Af (Ag (b:=b14) (n:=2) (sz:=1) (E:=9) [nC c,nC x] Z (by simp [nC]) Z (by decide)) ?_
 simp only [lC,lN]
 refine nM (r:=NR (.slice (some ⟨b14,0,none⟩) 2 2) [c,x]) slq fun hok=>?_
 refine aH Z Z en91 Z (Aj hv (iH hok) (by simp)) ?_
 rintro u h' (⟨he,rfl,rfl⟩ | ⟨he,mb,rfl,rfl⟩)
 ·simp only [lC,lN]
  unfold gr0
  refine sM Z (sV (ah Z Z) (sV (ah Z Z) (au rX fun b8=>?_)))
  refine ai Z Z nE Z Z ?_
  refine sV (vA9 Z) (sN (nK9 [1,2,6,7,8,9] Z (nT (cS (cQ (sM Z (sV (bT Z Z) (sN (nK9 [1,2,6,7,8,9,19] Z (nT ?_))))))))))
  rw [D6 he]
  refine aT Z ?_
  refine cQ (sM Z (sV (vA9 Z) (sV (vA9 Z) (sN (nK9 [6,7] Z (nT (cT (xR ?_))))))))
  rw [show (decide (dI l [c,x]=0))=false from decide_eq_false he,Bool.false_and]
  exact aj Z ⟨Z,Z⟩ sbq
 ·obtain ⟨hR,hm⟩:=eB.1 he
  rw [he]
  simp only [lC,lN]
  refine sM Z (sV (ah Z Z) (sV (ah Z Z) (au rX fun b8=>?_)))
  refine ai Z Z nE Z Z ?_
  refine sV (vA9 Z) (sN (nK9 [1,2,6,7,8,9] Z (nT (cS (cQ (sM Z (sV (bT Z Z) (sN (nK9 [1,2,6,7,8,9,19] Z (nT (aG Z ?_)))))))))))
  refine cK9 (xT (cQ (sV (ag Z kw Z af) ?_)))
  refine sM Z (sM Z (aH Z Z en92 Z (has_ct hv hR.fine hR.acyc (hm c (by simp)) x) ?_))
  rintro u h' ⟨rfl,rfl⟩
  simp only [lC,lN]
  refine sV (vA9 Z) (sV (vA9 Z) (sN (nK9 [6,7] Z (nT (cT ?_)))))
  exact aj Z ⟨Z,Z⟩ sbq
def wayE (l:Sys) (c x:Nm):Int:=if dI l [c,x]=0 then (if has l c x then 0 else 5) else dI l [c,x]
end
end Go.Hr
namespace Go.Hr
open Go Go.Ck Go.Proofs Go.Proofs.YtknmacdbffgjgaaGreatDoor Fx
attribute [local irreducible] Go.Ck.Sub St Cd Xt Nx DrL LsW
section
variable {S N T:Res} {v nv:Value} {l:Sys} {ns:List Nm}
def touchE (l:Sys) (ns:List Nm):Int:=if 48<ns.length then 3 else dI l []
end
end Go.Hr
namespace Go.Hr
open Go Go.RowKit Go.Ck Go.Proofs Go.Proofs.YtknmacdbffgjgaaGreatDoor Fx
attribute [local irreducible] Go.Ck.Sub St Cd Xt Nx DrL LsW
def iV (n:Nat):Value:=.int .i64 (n:Int)
def okN (e:Int) (n:Nat):Int:=if e=0 then (n:Int) else 0
section
variable {S N:Res} {v nv:Value} {l:Sys} {ns:List Nm}
end
end Go.Hr
namespace Go.Ck
open Go
section
variable {P:Program} {r:Option Nat} {n:Nat} {w0:World} {hr:SH} {R:Value→SH→Prop} {fn:Func} {e:Env} {h h' k:SH} {vs:List Value} {bs:List Nat} {ds:List Deferred}
theorem nS (hds:ds=bs.map mk) (hv:ResV P k e fn.results.toList vs) (hR:R (kr vs) h') (hk:Sub (h'++hr) k) (hp:Sub (marks bs++k) h):Xt ⟨P,r,n,ds,w0⟩ .ret (bodyPostM (Fw none) 0 P fn (Post w0 hr R)) e h :=
 fun a w hk' hh hw=>by
  show LeavesInM (Fw none) 0 P fn a.tmps _ a.defers .returning w
  rw [hk'.defers,hds]
  exact y7 bs w (hh.sub hp) hw fun w' h1 h2=>⟨_,uI hk' hv h1,_,h',Z,hR,h1.sub hk,h2⟩
end
end Go.Ck
namespace Go.Hr
open Go Go.RowKit Go.Ck Go.Proofs Go.Proofs.Tryz Go.Proofs.YtknmacdbffgjgaaGreatDoor Fx
attribute [local irreducible] Go.Ck.Sub St Cd Xt Nx DrL LsW
def rY (o:List Nm) (D:List (Nm×Unit)):Prop:=∀ x,(dQ D x).isSome=o.contains x
theorem rY.look {o:List Nm} {D:List (Nm×Unit)} (h:rY o D) (x:Nm):(bJ (mvG tV D) x).getD (.bool false) = .bool (o.contains x):=by
 rw [kT,← h x]
 cases dQ D x <;> rfl
theorem rY.next {o:List Nm} {D:List (Nm×Unit)} (h:rY o D) (c:Nm):rY (o++[c]) (fP D c ()):=fun x=>by
 rw [kM]
 by_cases hx:x=c
 ·subst hx; simp
 ·rw [if_neg hx,h x]; simp [hx]
section
variable {S N:Res} {v nv:Value} {l:Sys} {ns:List Nm}
theorem open_ct {c7 c4 mb bd:Nat} {o:List Nm} {D:List (Nm×Unit)} (hv:lU S v l) (hF:Fine l) (hD:rY o D) (c:Nm):Reads prog 187 #[sv c,.pointer (some ⟨c7,0,none⟩),.pointer (some ⟨c4,0,none⟩)] [pt c7 (cl [.map (some bd)] 265),pt c4 (cl [v,.map (some mb)] 164),mps bd (mvG tV D),S,mps mb (bE l)] (.bool (opn l o c)):=by
 obtain ⟨a,cap,rfl,_⟩:=id hv
 refine qw (n:=17) func187 Z Z (len Z) fun hr w0=>?_
 refine cQ (au al4 fun b4=>?_)
 refine sN (nT (cS (cQ (sV (vY Z ld265) ?_))))
 refine sM Z (sV (gB (hD.look c) (bI Z Z yu inf4 slq)) ?_)
 refine sN (nK9 [0,1,2,4,8] Z (nT ?_))
 unfold opn
 refine cC Z (fun ho=>?_) (fun ho=>?_)
 ·rw [ho]
  refine cQ (aX Z Z sz4 ?_)
  refine sN (nK9 [4] Z (nT (cT (xR (nS (bs:=[]) (k:=pt b4 (cl [.bool false] 4)::([pt c7 (cl [.map (some bd)] 265),pt c4 (cl [.slice a l.length cap,.map (some mb)] 164),mps bd (mvG tV D),S,mps mb (bE l)]++hr)) Z (.cell1 Z ld4 (bP (bU Z)) .nil) ⟨Z,Z⟩ ?_ ?_)))))
  ·exact Sub.cons (Sub.refl _)
  ·unfold marks
   simp only [lC,lN,List.map_nil]
   exact sbq
 ·rw [ho,Bool.not_false,Bool.true_and]
  refine cK9 (xT (cS (cQ (sV (ag Z kw Z af) ?_))))
  refine sM Z (aH Z Z ET Z (jU Z) ?_)
  rintro u h' ⟨n1,n2,rfl,rfl⟩
  refine sN (nK9 [1,4,11] Z (nT (cB ?_)))
  simp only [lC,lN]
  unfold seqv
  refine iU Z EW fun yl db rec hst hpe hps hasg hbo hkn2=>?_
  refine ⟨_,Ct.perm (E8 (σ := Unit) (b1:=n1) (b2:=n2) (mb:=mb) (yl:=yl) (c:=c) (fun _=>pt yl (.loop rec)::pt db (.deferred (some []))::pt b4 (cl [.bool false] 4)::pt c7 (cl [.map (some bd)] 265)::pt c4 (cl [.slice a l.length cap,.map (some mb)] 164)::mps bd (mvG tV D)::hr)
   (fun k _=>∀ p∈(par l c).take k,o.contains p=true) (fun _ t=>(∃ p∈par l c,o.contains p=false)∧∃ rec',t=pt yl (.loop rec')::pt db (.deferred (some []))::pt b4 (cl [.bool false] 4)::pt c7 (cl [.map (some bd)] 265)::pt c4 (cl [.slice a l.length cap,.map (some mb)] 164)::mps bd (mvG tV D)::hr∧rec'.state≠.busy∧rec'.pending=some .ret) () (fun p hp=>by simp at hp) hv hF.few ?_) ?_,?_⟩
  ·rintro k _ p hk hal
   obtain ⟨hkl,hke⟩:=List.getElem?_eq_some_iff.1 hk
   refine Yc.perm (qo (n:=17) (rec:=rec) (args:=[sv p]) (hf:=pt db (.deferred (some []))::pt b4 (cl [.bool false] 4)::pt c7 (cl [.map (some bd)] 265)::pt c4 (cl [.slice a l.length cap,.map (some mb)] 164)::mps bd (mvG tV D)::S::mps mb (bE l)::hr) (by rw [hps]; rfl) hkn2 (by rw [hps]; decide) ?_) (by exact (by repeat (first | exact Pm.refl | refine Pm.cons slq ?_):Pm _ _).perm)
   intro hr2 w1
   rw [hasg,hps,hbo]
   simp only [lC,lN]
   refine cR (sV (vA9 Z) (sN (nK9 [1,4,5] Z (ax (kY Z slq (by first | rfl | assumption) ?_)))))
   refine cB (cQ (sV (vY Z ld265) ?_))
   refine sM Z (sV (gB (hD.look p) (bI Z Z yu inf4 slq)) ?_)
   refine sV (bi Z) (sN (nK9 [4,16] Z (nT (cC Z (fun hno=>?_) (fun hno=>?_)))))
   ·have hno:o.contains p=false:=by simpa using hno
    refine cQ (aX Z Z sz4 ?_)
    refine sN (nK9 [4] Z (nT (cT (xW (kG slq (.inr ⟨Z,_,Z,⟨p,List.mem_of_getElem? hk,hno⟩,{ ({ rec with state:=.busy }:Loop) with state:=.done,pending:=some .ret },Z,by simp,Z⟩) ?_)))))
    exact sbq
   ·have hno:o.contains p=true:=by simpa using hno
    refine cK9 (xB (dn slq (.inl ⟨Z,(),fun q hq=>?_,Z⟩) ?_))
    ·rw [List.take_succ_eq_append_getElem hkl,hke] at hq
     rcases List.mem_append.1 hq with hq | hq
     ·exact hal q hq
     ·simp at hq; rw [hq]; exact hno
    ·rw [dx hst hpe]
     exact sbq
  ·exact (by repeat (first | exact Pm.refl | refine Pm.cons slq ?_):Pm _ _).perm
  ·rintro u h' ⟨rfl, (⟨_, hal, rfl⟩ | ⟨_, _, ⟨⟨p, hp, hno⟩, rec', rfl, h2, h3⟩, rfl⟩)⟩
   ·rw [List.take_length] at hal
    rw [show (par l c).all o.contains=true from List.all_eq_true.2 hal]
    refine ⟨rec,_,slq,(by rw [hst]; simp),?_⟩
    rw [hpe]
    dsimp only
    refine xB (xT (cQ (aX Z Z sz4 ?_)))
    refine sN (nK9 [4] Z (nT (cT (nS (bs:=[db]) (k:=pt b4 (cl [.bool true] 4)::([pt c7 (cl [.map (some bd)] 265),pt c4 (cl [.slice a l.length cap,.map (some mb)] 164),mps bd (mvG tV D),S,mps mb (bE l)]++hr)) Z (.cell1 Z ld4 (bP (bU Z)) .nil) ⟨Z,Z⟩ ?_ ?_))))
    ·exact Sub.cons (Sub.refl _)
    ·unfold marks
     simp only [lC,lN,List.map_cons,List.map_nil]
     exact sbq
   ·rw [show (par l c).all o.contains=false from List.all_eq_false.2 ⟨p,hp,by rw [hno]; decide⟩]
    refine ⟨rec',_,slq,h2,?_⟩
    rw [h3]
    dsimp only
    refine cT (xW (xR (nS (bs:=[db]) (k:=pt b4 (cl [.bool false] 4)::([pt c7 (cl [.map (some bd)] 265),pt c4 (cl [.slice a l.length cap,.map (some mb)] 164),mps bd (mvG tV D),S,mps mb (bE l)]++hr)) Z (.cell1 Z ld4 (bP (bU Z)) .nil) ⟨Z,Z⟩ ?_ ?_)))
    ·exact Sub.cons (Sub.refl _)
    ·unfold marks
     simp only [lC,lN,List.map_cons,List.map_nil]
     exact sbq
theorem Nh (hv:lU S v l):CtN prog 116 #[v] [S] fun u T=>∃ w,u = .tuple #[w,.int .i64 (dI l [])]∧w.oneCell'=true∧T=NR w (okL (dI l []) (order l)):=by
 obtain ⟨a,cap,rfl,_⟩:=id hv
 refine aL (n:=36) func116 Z Z (len Z) fun hr w0=>?_
 refine cQ (sV (vA9 Z) (sV (vA9 Z) (sN (nT (cQ (sM Z (qG (eD (L:=[])) (aH Z Z en91 Z (Aj hv (N:=Res.star []) (ns:=[]) Row.nil (by simp)) ?_))))))))
 rintro u h' (⟨he,rfl,rfl⟩ | ⟨he,mb,rfl,rfl⟩)
 ·simp only [lC,lN]
  unfold gr0
  refine sM Z (sV (ah Z Z) (sV (ah Z Z) (au rX fun b4=>?_)))
  refine ai Z Z nE Z Z ?_
  refine sV (vA9 Z) (sN (nK9 [0,2,3,4,5] Z (nT (cS (cQ (sM Z (sV (bT Z Z) (sN (nK9 [0,2,3,4,5,16] Z (nT ?_))))))))))
  rw [D6 he]
  refine aT Z ?_
  refine cQ (sM Z (sV (vA9 Z) (sV (vA9 Z) (sN (nK9 [2,3] Z (nT (cT (xR ?_))))))))
  rw [Nf he]
  refine jv (cz 9 1) ?_
  exact aj Z ⟨NR (.slice none 0 0) [],Z,_,Z,Z,Z⟩ sbq
 ·obtain ⟨hR,_⟩:=eB.1 he
  have hFl:=hR.len
  rw [he,Ng rfl]
  simp only [lC,lN]
  refine sM Z (sV (ah Z Z) (sV (ah Z Z) (au rX fun b4=>?_)))
  refine ai Z Z nE Z Z ?_
  refine sV (vA9 Z) (sN (nK9 [0,2,3,4,5] Z (nT (cS (cQ (sM Z (sV (bT Z Z) (sN (nK9 [0,2,3,4,5,16] Z (nT (aG Z ?_)))))))))))
  refine cK9 (xT (cQ (sV (vA9 Z) (sN (nK9 [0,2,3,4,6] Z (nT (cQ (eu (ltn Z) fun b18=>?_))))))))
  refine au al265 fun b7=>?_
  refine aX Z Z sz265 ?_
  refine sN (nK9 [0,2,3,4,6,7] Z (nT (cQ (sV (bY Z Z) (sV (vA9 Z) (sN (nK9 [0,2,3,4,6,7,8] Z (nT (cS (cQ (sM Z (sV (aF Z underlying22) (sM Z (sN (nK9 [2,3,4,6,7,8,21,22] Z (nT (cB ?_)))))))))))))))))
  refine dK (cz 9 1) ?_
  rw [show ([]:List (Bs×Value))=mvG tV [] from rfl]
  refine aZ (σ := Nat×Value×List (Nm×Unit)) (fun q=>[(4,.pointer (some ⟨b4,0,none⟩)),(6,q.2.1),(7,.pointer (some ⟨b7,0,none⟩)),(8,.func (.func 187) #[] #[.pointer (some ⟨b7,0,none⟩),.pointer (some ⟨b4,0,none⟩)]),(21,.int .i64 l.length),(22,.int .i64 (q.1:Nat))]) (fun q=>NR q.2.1 (jA l q.1)::pt b4 (cl [.slice a l.length cap,.map (some mb)] 164)::pt b7 (cl [.map (some b18)] 265)::mps b18 (mvG tV q.2.2)::mps mb (bE l)::S::hr) (fun q=>q.1≤l.length∧q.2.1.oneCell'=true∧rY (jA l q.1) q.2.2) (fun q=>l.length - q.1) (0,.slice none 0 0,[]) ⟨Nat.zero_le _,Z,fun x=>rfl⟩ ?_
  rintro ⟨i,w,D⟩ ⟨hi,hw,hD⟩
  simp only at hi hw hD
  dsimp only
  have holen:=qi l i
  refine cQ (sV (aO Z Z) (sN (nT (cS (cC Z (fun hd=>?_) (fun hd=>?_))))))
  ·refine cK9 (xT (cS (cB (cQ ?_))))
   have hlt:i<l.length:=by simpa using hd
   have hne:=Ku hR.acyc hR.uniq hlt
   have hsl:((nms l).filter (opn l (jA l i))).length≤24:=Nat.le_trans (List.length_filter_le _ _) (by simp [nms]; omega)
   refine sV (ag Z kw Z af) ?_
   refine sM Z (aH Z Z en189 Z (jS (Nb (S:=Res.star [pt b7 (cl [.map (some b18)] 265),pt b4 (cl [.slice a l.length cap,.map (some mb)] 164),mps b18 (mvG tV D),S,mps mb (bE l)]) (kf:=187) (cp := #[.pointer (some ⟨b7,0,none⟩),.pointer (some ⟨b4,0,none⟩)]) (g:=opn l (jA l i)) (mb:=mb) (hv.mono (bH slq)) hR.fine en187 fun d _=>kQ (open_ct hv hR.fine hD d))) ?_)
   rintro u h' ⟨T,rfl,hu,rfl⟩
   simp only [lC,lN]
   refine nM (r:=NR u ((nms l).filter (opn l (jA l i)))) slq fun hok=>?_
   refine aH Z Z en188 Z (M5 (iH hok) (by omega) hne) ?_
   rintro u2 h' ⟨rfl,rfl⟩
   simp only [lC,lN]
   generalize hmn:jc ((nms l).filter (opn l (jA l i)))=z at *
   have hord:jA l (i+1)=jA l i++[z]:=by rw [jA,hmn]
   refine sV (vA9 Z) (sN (nK9 [4,6,7,8,9,21,22] Z (nT (cQ (sV (vY Z ld265) ?_)))))
   refine sM Z (cu Z Z Z yu slq ?_)
   refine sN (nK9 [4,6,7,8,9,21,22] Z (nT (cR (sM Z (sM Z ?_)))))
   rw [show dZ (mvG tV D) z (.bool true)=mvG tV (fP D z ()) from nR tV D z ()]
   refine ak (cells:=[sv z]) Z underlying40 fG Z Z (by kernel_rfl) (ltn Z) fun b32=>?_
   refine dU [nC z] Z Z underlying40 fG Z (by decide) (show Sel _ (NR w (jA l i)) _ from slq) (by simp [nC]) Z (fun j u2 hu2=>bP (bU (by simpa [nC] using hu2))) (by simp [nC,Value.oneCell']) (by rw [List.length_map]; omega) (by rw [List.length_map]; omega) (ltn Z) fun w3 hw3 _=>?_
   rw [show (jA l i).map nC++[nC z]=(jA l (i+1)).map nC by rw [hord]; simp]
   refine sV (vA9 Z) (sN (nK9 [4,6,7,8,21,22] Z (ax (xB (xT (cR (sV (aI Z Z (by unfold I64 at *; omega)) (sM Z (sN (nK9 [4,6,7,8,21,22] Z (ax ?_)))))))))))
   refine aJ (i+1,w3,fP D z ()) ⟨hlt,hw3,by show rY (jA l (i+1)) (fP D z ()); rw [hord]; exact hD.next z⟩ (by show _ - _<_ - _; omega)
  ·have hil:i=l.length:=by
    have:¬ i<l.length:=by simpa using hd
    omega
   subst hil
   refine aB (xE (xE (xY (xT (cQ (sM Z (sV (vA9 Z) (sV (vA9 Z) (sN (nK9 [2,3] Z (nT (cT ?_))))))))))))
   exact aj Z ⟨_,Z,_,Z,hw,Z⟩ sbq
end
end Go.Hr
