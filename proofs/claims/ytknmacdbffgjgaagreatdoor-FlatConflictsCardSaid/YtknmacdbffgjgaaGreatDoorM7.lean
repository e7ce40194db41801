/-
  Package heir: twice. Conditions: what is read.
-/
import Derived.Test.YtknmacdbffgjgaaGreatDoorM6
import Derived.Test.YtknmacdbffgjgaaGreatDoorM1
import Derived.Test.YtknmacdbffgjgaaGreatDoorM4
set_option linter.unusedVariables false
set_option linter.unusedSimpArgs false
set_option maxRecDepth 100000
set_option maxHeartbeats 16000000
namespace Go.Hr
open Go Go.Ck Go.Proofs Go.Proofs.Tryz Go.Proofs.YtknmacdbffgjgaaGreatDoor Fx
attribute [local irreducible] Go.Ck.Sub St Cd Xt Nx DrL LsW
structure Fine (l:Sys):Prop where
 len:l.length≤900000
 few:∀ x∈l,x.parents.length≤1099511627776
theorem Right.fine {l:Sys} (h:Right l):Fine l:=⟨by have:=h.len; omega,fun x hx=>by have:=h.few x hx; omega⟩
section
variable {S:Res} {v:Value} {l:Sys}
theorem E9 {mb:Nat} (hv:lU S v l) (hF:Fine l) (ha:gz l) {c:Nm} (hc:isC l c=true):Ct prog 103 #[.agg #[v,.map (some mb)],sv c] [S,mps mb (bE l)] fun u h'=>u.oneCell'=true∧h'=[NR u (above l c),S,mps mb (bE l)]:=by
 obtain ⟨a,cap,rfl,_⟩:=id hv
 refine aL (n:=14) func103 Z Z (len Z) fun hr w0=>?_
 refine dK (cz 9 1) (cQ (aV Z Z fun b2=>?_))
 refine sV (vA9 Z) (sN (nK9 [1,2,4] Z (nT (cQ (eu (ltn Z) fun b8=>?_)))))
 refine au al162 fun b5=>?_
 refine aX Z Z sz162 ?_
 refine sN (nK9 [1,2,4,5] Z (nT (cQ (au al40 fun b6=>?_))))
 refine sN (nT (cQ (au al256 fun b7=>?_)))
 refine sN (nT (cQ (sV (bY Z Z) (aX Z Z sz256 ?_))))
 refine sN (nK9 [1,4,6,7] Z (nT (cQ (sV (vY Z ld256) ?_))))
 refine sM rfl (aH rfl rfl en177 rfl (M3 (b5:=b5) (b2:=b2) (b7:=b7) (b6:=b6) (mb:=mb) (mc:=b8) hv hF.few (Nat.le_trans hF.len (by decide)) ha (l.length+1) c [] (.slice none 0 0) [] [] (ut l c) hc rfl .nil (fun x hx=>by cases hx) (fun x=>rfl) (fun g hg=>by cases hg)) ?_)
 rintro u h' ⟨m',w',rfl,hw,hm,rfl⟩
 unfold visS
 simp only [lC,lN]
 refine sN (nK9 [4,6] Z (nT (cQ (sV (vY Z fH) ?_))))
 refine sV (vA9 Z) (sN (nK9 [4] Z (nT (cT ?_))))
 exact aj Z ⟨hw,Z⟩ sbq
def ixS (xs:List Nm) (c:Nm):Int:=match xs.findIdx? (· == c) with | some i=>i | none => -1
theorem ixS_has (xs:List Nm) (c:Nm):decide (0≤ixS xs c)=xs.contains c:=by
 unfold ixS
 cases h:xs.findIdx? (· == c) with
 | none =>
  rw [List.findIdx?_eq_none_iff] at h
  cases hc:xs.contains c with
  | false=>rfl
  | true =>
   rw [List.contains_iff_mem] at hc
   have:=h c hc
   simp at this
 | some i =>
  show decide (0≤(i:Int))=_
  obtain ⟨hi,h1,_⟩:=List.findIdx?_eq_some_iff_getElem.1 h
  have h1:xs[i]=c:=by simpa using h1
  rw [show xs.contains c=true by rw [List.contains_iff_mem,← h1]; exact List.getElem_mem hi]
  exact decide_eq_true (by omega)
theorem M4 {xs:List Nm} (hv:w9 S v xs) (c:Nm) (hl:xs.length≤1099511627776):Reads prog 104 #[v,sv c] [S] (.int .i64 (ixS xs c)):=by
 obtain ⟨a,cap,rfl,_⟩:=id hv
 refine aL (n:=19) func104 Z Z (len Z) fun hr w0=>?_
 refine cQ (sV (vA9 Z) (sN (nT (cS (cQ (sM Z (sV (aF Z underlying40) (sM Z (sN (nK9 [0,1,4,7,8] Z (nT (cB (aZ (σ := Nat) (fun i=>[(0,.slice a xs.length cap),(1,sv c),(7,.int .i64 xs.length),(8,.int .i64 (i:Nat))]) (fun _=>S::hr) (fun i=>i≤xs.length∧∀ (j:Nat) (y:Nm),j<i→xs[j]? = some y→y≠c) (fun i=>xs.length - i) 0 ⟨Nat.zero_le _,fun j y hj=>by omega⟩ ?_)))))))))))))
 rintro i ⟨hi,hne⟩
 refine cQ (sV (aO Z Z) (sN (nT (cS (cC Z (fun hd=>?_) (fun hd=>?_))))))
 ·have hlt:i<xs.length:=by simpa using hd
  obtain ⟨b,o,cap2,hv2,hrd⟩:=sJ hv (List.getElem?_eq_getElem hlt)
  refine cK9 (xT (cS (cB (cQ (sM Z (sV (vA9 Z) (sN (nK9 [0,1,5,7,8] Z (nT (cQ (sM Z (sM Z (sM Z ?_)))))))))))))
  refine sV (vI (k:=i) (congrArg some hv2) Z jh Z hlt Z) (sV (vY Z ld9) ?_)
  refine sV (iL Z Z) (sN (nK9 [0,1,5,7,8,16] Z (nT (cC Z (fun he=>?_) (fun he=>?_)))))
  ·have he:xs[i]=c:=by
    have:c=xs[i]:=by simpa using he
    exact this.symm
   refine cQ (sM Z (sV (vA9 Z) (sN (nK9 [4] Z (nT (cT (xW (xR (xR (xW (xR ?_)))))))))))
   rw [show ixS xs c=(i:Int) by
    unfold ixS
    rw [show xs.findIdx? (· == c)=some i from List.findIdx?_eq_some_iff_getElem.2 ⟨hlt,by simp [he],fun j hj=>by simpa using hne j _ hj (List.getElem?_eq_getElem (Nat.lt_trans hj hlt))⟩]]
   exact aj Z ⟨Z,Z⟩ sbq
  ·have he:xs[i]≠c:=fun h=>by rw [h] at he; simp at he
   refine cK9 (xB (xT (cR (sV (aI Z Z (by unfold I64 at *; omega)) (sM Z (sN (nK9 [0,1,7,8] Z (ax (aJ (i+1) ⟨hlt,fun j y hj hy=>?_⟩ (by show _ - _<_ - _; omega))))))))))
   by_cases hji:j=i
   ·subst hji; rw [List.getElem?_eq_getElem hlt] at hy; cases hy; exact he
   ·exact hne j y (by omega) hy
 ·refine aB (xE (xE (xY (xT (cQ (sV (vA9 Z) (sN (nK9 [4] Z (nT (cT ?_))))))))))
  have hil:i=xs.length:=by
   have:¬ i<xs.length:=by simpa using hd
   omega
  rw [show ixS xs c = -1 by
   unfold ixS
   rw [show xs.findIdx? (· == c)=none from List.findIdx?_eq_none_iff.2 fun x hx=>by
    obtain ⟨j,hj,rfl⟩:=List.getElem_of_mem hx
    simpa using hne j _ (by omega) (List.getElem?_eq_getElem hj)]]
  exact aj Z ⟨Z,Z⟩ sbq
theorem fu {xs:List Nm} (hv:w9 S v xs) (c:Nm) (hl:xs.length≤1099511627776):Reads prog 42 #[v,sv c] [S] (.bool (xs.contains c)):=by
 refine aL (n:=9) func42 Z Z (len Z) fun hr w0=>?_
 refine cQ (sV (vA9 Z) (sN (nT (cQ (sM Z (sM Z (bg Z Z en104 Z (M4 hv c hl) ?_)))))))
 refine sV (pg Z Z) (sV (vA9 Z) (sN (nK9 [4] Z (nT (cT ?_)))))
 rw [ixS_has]
 exact aj Z ⟨Z,Z⟩ sbq
theorem nO (ha:gz l) {c:Nm} (hc:isC l c=true):(above l c).length≤l.length:=by
 obtain ⟨h1,h2⟩:=iI ha c
 have:=aP (b:=nms l) h1.nodup fun x hx=>fD.1 (uq hc ((h2 x).1 hx))
 simpa [nms] using this
theorem KF (ha:gz l) (c a:Nm):(above l c).contains a=has l c a:=by
 rw [Bool.eq_iff_iff,List.contains_iff_mem]
 exact (iI ha c).2 a
theorem has_ct {mb:Nat} (hv:lU S v l) (hF:Fine l) (ha:gz l) {c:Nm} (hc:isC l c=true) (x:Nm):Ct prog 92 #[.agg #[v,.map (some mb)],sv c,sv x] [S,mps mb (bE l)] fun u h'=>u = .bool (has l c x)∧h'=[S,mps mb (bE l)]:=by
 obtain ⟨a,cap,rfl,_⟩:=id hv
 have hlen:=nO ha hc
 have hFl:=hF.len
 refine aL (n:=12) func92 Z Z (len Z) fun hr w0=>?_
 refine cQ (aV Z Z fun b3=>?_)
 refine sV (vA9 Z) (sN (nK9 [1,2,3,6] Z (nT (cQ (sV (ag Z kw Z af) ?_)))))
 refine sM Z (aH Z Z en103 Z (E9 hv hF ha hc) ?_)
 rintro u h' ⟨hu,rfl⟩
 simp only [lC,lN]
 refine nM (r:=NR u (above l c)) slq fun hok=>?_
 refine sM Z (bg Z Z DN Z (fu (iH hok) x (by omega)) ?_)
 refine sV (vA9 Z) (sN (nK9 [6] Z (nT (cT ?_))))
 rw [KF ha]
 exact aj Z ⟨Z,Z⟩ sbq
end
section
variable {α : Type} (g : α → Value)
def mvG (F:List (Nm × α)):List (Bs×Value):=F.map fun p=>(p.1,g p.2)
theorem kT (F:List (Nm × α)) (k:Nm):bJ (mvG g F) k=(dQ F k).map g:=by
 induction F with
 | nil=>rfl
 | cons p t ih =>
  rw [dG]
  unfold mvG bJ at ih ⊢
  rw [List.map_cons,List.find?_cons]
  by_cases h:p.1=k
  ·simp [h]
  ·have:(p.1 == k)=false:=by simp [h]
   simp only [this,if_neg h]
   exact ih
theorem nR (F:List (Nm × α)) (k:Nm) (x : α):dZ (mvG g F) k (g x)=mvG g (fP F k x):=by
 induction F with
 | nil=>rfl
 | cons p t ih =>
  unfold mvG at ih ⊢
  rw [List.map_cons]
  unfold dZ fP
  by_cases h:p.1=k
  ·simp [h]
  ·rw [if_neg h,if_neg h,ih]; rfl
end
def nV (n:Nat):Value:=.int .i64 ((n:Int)+1)
section
variable {S:Res} {v:Value} {l:Sys}
theorem far_ct {mb:Nat} (hv:lU S v l) (hF:Fine l) (to:Nm):Ct prog 271 #[.agg #[v,.map (some mb)],sv to] [S,mps mb (bE l)] fun u h'=>∃ mf F,u = .map (some mf)∧h'=[mps mf (mvG nV F),S,mps mb (bE l)]∧∀ x,dQ F x=gP l to x:=by
 obtain ⟨a,cap,rfl,_⟩:=id hv
 have hFl:=hF.len
 refine qw (n:=62) func271 Z Z (len Z) fun hr w0=>?_
 refine cQ (aV Z Z fun b2=>?_)
 refine sV (vA9 Z) (sN (nK9 [1,2,4] Z (nT (cQ (eu (ltn Z) fun b14=>?_)))))
 refine sM Z (Ha Z Z Z gJ slq ?_)
 refine sM Z (au al162 fun b5=>?_)
 refine aX Z Z sz162 ?_
 refine sN (nK9 [2,4,5] Z (nT (cS (cQ (au al4 fun b6=>?_)))))
 refine aX Z Z sz4 ?_
 refine sN (nT (cB ?_))
 rw [show dZ [] to (Value.int .i64 1)=mvG nV [(to,0)] from rfl]
 refine nk (ni (σ := List (Nm×Nat)×Bool×Nat×List Nat) (fun q=>q.2.2.2.map mk) (fun q=>[(2,.pointer (some ⟨b2,0,none⟩)),(5,.pointer (some ⟨b5,0,none⟩)),(6,.pointer (some ⟨q.2.2.1,0,none⟩))]) (fun q=>Res.star (marks q.2.2.2)::pt q.2.2.1 (cl [.bool q.2.1] 4)::pt b5 (cl [.map (some b14)] 162)::mps b14 (mvG nV q.1)::pt b2 (cl [.slice a l.length cap,.map (some mb)] 164)::S::mps mb (bE l)::hr) (fun q=>FarI l to q.1∧(q.2.1=false→∀ c p,p∈par l c→Rel q.1 c p)) (fun q=>if q.2.1 then pot l q.1+1 else 0) ([(to,0)],true,b6,[]) ⟨FarI.init l to,fun h=>by cases h⟩ rfl ⟨rfl,rfl,rfl,trivial⟩ sbq ?_)
 rintro ⟨F0,fl0,b60,bs⟩ ⟨hI0,hdone⟩
 simp only at hI0 hdone
 dsimp only
 refine cS (cQ (sV (vY Z ld4) ?_))
 refine sN (nT (cC Z (fun hf=>?_) (fun hf=>?_)))
 ·refine cK9 (xT (cS (cB (cQ (aX Z Z sz4 ?_)))))
  refine sN (nK9 [2,5,6] Z (nT (cQ (sV (vF Z DJ Z) (sV (vY Z ld22) ?_)))))
  refine sV (aF rfl underlying22) (sM rfl (sN (nK9 [2,5,6,19,20,21] rfl (nT (cB (ni (σ := Nat×List (Nm×Nat)×Bool×List Nat) (fun q=>q.2.2.2.map mk) (fun q=>[(2,.pointer (some ⟨b2,0,none⟩)),(5,.pointer (some ⟨b5,0,none⟩)),(6,.pointer (some ⟨b60,0,none⟩)),(19,.slice a l.length cap),(20,.int .i64 l.length),(21,.int .i64 (q.1:Nat))]) (fun q=>Res.star (marks q.2.2.2)::pt b60 (cl [.bool q.2.2.1] 4)::pt b5 (cl [.map (some b14)] 162)::mps b14 (mvG nV q.2.1)::pt b2 (cl [.slice a l.length cap,.map (some mb)] 164)::S::mps mb (bE l)::hr) (fun q=>q.1≤l.length∧FarI l to q.2.1∧(q.2.2.1=true→pot l q.2.1<pot l F0)∧(q.2.2.1=false→q.2.1=F0∧∀ (j:Nat) (y:Cls),j<q.1→l[j]? = some y→∀ p∈par l y.name,Rel F0 y.name p)) (fun q=>l.length - q.1) (0,F0,false,bs) ⟨Nat.zero_le _,hI0,fun h=>(by cases h),fun _=>⟨rfl,fun j y hj=>by omega⟩⟩ rfl ⟨rfl,rfl,rfl,rfl,rfl,rfl,trivial⟩ sbq ?_))))))
  rintro ⟨i,F,fl,bs2⟩ ⟨hi,hI,hpot,hsame⟩
  simp only at hi hI hpot hsame
  dsimp only
  refine cQ (sV (aO Z Z) (sN (nT (cS (cC Z (fun hd=>?_) (fun hd=>?_))))))
  ·have hlt:i<l.length:=by simpa using hd
   obtain ⟨b,o,cap2,d,f,pa,pc,c2,fa,fc,j2,hv2,hrd,hP,hone⟩:=sI hv (List.getElem?_eq_getElem hlt)
   have hname:(l[i]).name=(l[i]).name:=rfl
   generalize hcn:(l[i]).name=cn at *
   refine cK9 (xT (cS (cB (cQ (sV (vI (k:=i) (congrArg some hv2) Z uM Z hlt Z) (sV (ag Z gG Z hrd) ?_))))))
   refine au nJ fun b8=>?_
   refine ai Z Z lS Z hone ?_
   refine sN (nK9 [2,5,6,8,19,20,21] Z (nT (cQ (sV (ag Z kw Z af) ?_))))
   refine sV (vF Z dH Z) (sV (vY Z ld9) ?_)
   refine aH Z Z ET Z (jU Z) ?_
   rintro u h' ⟨n1,n2,rfl,rfl⟩
   refine sN (nK9 [2,5,6,8,19,20,21,28] Z (nT (cB ?_)))
   simp only [lC,lN]
   unfold seqv
   refine iU Z EW fun yl db rec hst hpe hps hasg hbo hkn2=>?_
   refine ⟨_,Ct.perm (E8 (σ := List (Nm×Nat)×Bool) (b1:=n1) (b2:=n2) (mb:=mb) (yl:=yl) (c:=cn) (fun q=>pt yl (.loop rec)::pt db (.deferred (some []))::pt b8 (cl [sv cn,d,f,.slice pa l[i].parents.length pc,c2,.slice fa l[i].feats fc,j2] 44)::Res.star (marks bs2)::pt b60 (cl [.bool q.2] 4)::pt b5 (cl [.map (some b14)] 162)::mps b14 (mvG nV q.1)::pt b2 (cl [.slice a l.length cap,.map (some mb)] 164)::hr)
    (fun k q=>FarI l to q.1∧(q.2=true→pot l q.1<pot l F0)∧(q.2=false→q.1=F0∧(∀ (j:Nat) (y:Cls),j<i→l[j]? = some y→∀ p∈par l y.name,Rel F0 y.name p)∧∀ p∈(par l cn).take k,Rel F0 cn p)) (fun _ _=>False) (F,fl) ⟨hI,hpot,fun h=>⟨(hsame h).1,(hsame h).2,fun p hp=>by simp at hp⟩⟩ hv hF.few ?_) ?_,?_⟩
   ·rintro k ⟨F2, fl2⟩ p hk ⟨hI2, hpot2, hsame2⟩
    simp only at hI2 hpot2 hsame2
    have hpm:=List.mem_of_getElem? hk
    have htk:∀ q,q∈(par l cn).take (k+1)→q∈(par l cn).take k∨q=p:=fun q hq=>by
     obtain ⟨hkl,hke⟩:=List.getElem?_eq_some_iff.1 hk
     rw [List.take_succ_eq_append_getElem hkl,hke] at hq
     simpa using hq
    refine Yc.perm (qo (n:=62) (rec:=rec) (args:=[sv p]) (hf:=pt db (.deferred (some []))::pt b8 (cl [sv cn,d,f,.slice pa l[i].parents.length pc,c2,.slice fa l[i].feats fc,j2] 44)::Res.star (marks bs2)::pt b60 (cl [.bool fl2] 4)::pt b5 (cl [.map (some b14)] 162)::mps b14 (mvG nV F2)::pt b2 (cl [.slice a l.length cap,.map (some mb)] 164)::S::mps mb (bE l)::hr) (by rw [hps]; rfl) hkn2 (by rw [hps]; decide) ?_) (by exact (by repeat (first | exact Pm.refl | refine Pm.cons slq ?_):Pm _ _).perm)
    intro hr2 w1
    rw [hasg,hps,hbo]
    simp only [lC,lN]
    refine cR (sV (vA9 Z) (sN (nK9 [5,6,8,9] Z (ax (kY Z slq (by first | rfl | assumption) ?_)))))
    refine cB (cQ (sV (vY Z kv) ?_))
    refine sM Z ?_
    cases hp1:dQ F2 p
    ·refine sV (gB (show Value.tuple #[(bJ (mvG nV F2) p).getD (.int .i64 0),.bool (bJ (mvG nV F2) p).isSome] = .tuple #[.int .i64 0,.bool false] by rw [kT,hp1]; rfl) (dM Z Z gJ nG slq)) ?_
     refine sM Z (sV (ah Z Z) (sV (ah Z Z) (sV (vA9 Z) (sV (vA9 Z) (sN (nK9 [5,6,8,10,11] Z (nT (cQ (sV (vY Z kv) ?_)))))))))
     refine sV (vF Z dH Z) (sV (vY Z ld9) ?_)
     refine sV (dM Z Z gJ nG slq) ?_
     refine sM Z (sV (ah Z Z) (sV (ah Z Z) (sV (vA9 Z) (sV (vA9 Z) (sN (nK9 [5,6,8,10,11,12,13] Z (nT (cQ (sM Z (sM Z (aC Z Z Z ?_)))))))))))
     iterate 2 refine aC rfl rfl rfl ?_
     refine bX Z Z ?_
     refine bX Z Z ?_
     refine bX Z Z ?_
     refine bX Z Z ?_
     refine aC Z Z Z ?_
     refine sV (vP Z Z) (sN (nK9 [5,6,8,10,53] Z (nT (aG Z ?_))))
     refine cK9 (xB (dn slq (.inl ⟨Z,(F2,fl2),⟨hI2,hpot2,fun h=>⟨(hsame2 h).1,(hsame2 h).2.1,fun q hq=>?_⟩⟩,Z⟩) ?_))
     ·obtain ⟨he,_,h3⟩:=hsame2 h
      rcases htk q hq with hq | rfl
      ·exact h3 q hq
      ·intro n hn
       rw [← he,hp1] at hn; cases hn
     ·rw [dx hst hpe]
      exact sbq
    ·rename_i n
     have hn1:=hI2.walk p n hp1
     have hn2:=hI2.len
     refine sV (gB (show Value.tuple #[(bJ (mvG nV F2) p).getD (.int .i64 0),.bool (bJ (mvG nV F2) p).isSome] = .tuple #[.int .i64 ((n:Int)+1),.bool true] by rw [kT,hp1]; rfl) (dM Z Z gJ nG slq)) ?_
     refine sM Z (sV (ah Z Z) (sV (ah Z Z) (sV (vA9 Z) (sV (vA9 Z) (sN (nK9 [5,6,8,10,11] Z (nT (cQ (sV (vY Z kv) ?_)))))))))
     refine sV (vF Z dH Z) (sV (vY Z ld9) ?_)
     cases hc1:dQ F2 cn
     ·refine sV (gB (show Value.tuple #[(bJ (mvG nV F2) cn).getD (.int .i64 0),.bool (bJ (mvG nV F2) cn).isSome] = .tuple #[.int .i64 0,.bool false] by rw [kT,hc1]; rfl) (dM Z Z gJ nG slq)) ?_
      refine sM Z (sV (ah Z Z) (sV (ah Z Z) (sV (vA9 Z) (sV (vA9 Z) (sN (nK9 [5,6,8,10,11,12,13] Z (nT (cQ (sM Z (sM Z (sG Z Z (vM Z) (sG Z Z (bi Z) (sG Z Z (vM Z) (aC Z Z Z ?_))))))))))))))
      iterate 3 refine aC rfl rfl rfl ?_
      refine sG Z Z (vQ Z Z) (sV (vQ Z Z) (sN (nK9 [5,6,8,10,53] Z (nT (aT Z ?_)))))
      refine cR (sV (vY Z kv) ?_)
      refine sV (vF Z dH Z) (sV (vY Z ld9) ?_)
      refine sM Z (sV (aI Z Z (by unfold I64 at *; omega)) (cu Z Z Z gJ slq ?_))
      refine aX Z Z sz4 ?_
      refine sN (nK9 [] Z (ax (xB ?_)))
      rw [show dZ (mvG nV F2) cn (.int .i64 ((n:Int)+1+1))=mvG nV (fP F2 cn (n+1)) from nR nV F2 cn (n+1)]
      obtain ⟨hI3,hpot3⟩:=hI2.better hpm hp1 (fun n' h=>by rw [hc1] at h; cases h)
      refine dn slq (.inl ⟨rfl,(fP F2 cn (n+1),true),⟨hI3,fun _=>?_,fun h=>by cases h⟩,rfl⟩) ?_
      ·show pot l (fP F2 cn (n+1))<pot l F0
       cases hfl:fl2 with
       | true=>have:=hpot2 hfl; omega
       | false=>exact Nat.lt_of_lt_of_eq hpot3 (congrArg (pot l) (hsame2 hfl).1)
      ·rw [dx hst hpe]
       exact sbq
     ·rename_i n'
      have hn3:=hI2.walk cn n' hc1
      refine sV (gB (show Value.tuple #[(bJ (mvG nV F2) cn).getD (.int .i64 0),.bool (bJ (mvG nV F2) cn).isSome] = .tuple #[.int .i64 ((n':Int)+1),.bool true] by rw [kT,hc1]; rfl) (dM Z Z gJ nG slq)) ?_
      refine sM Z (sV (ah Z Z) (sV (ah Z Z) (sV (vA9 Z) (sV (vA9 Z) (sN (nK9 [5,6,8,10,11,12,13] Z (nT (cQ (sM Z (sM Z (sG Z Z (vM Z) (sG Z Z (bi Z) (sG Z Z (vM Z) (sG Z Z (vM Z) ?_))))))))))))))
      refine sG Z Z (vM Z) (sG Z Z (aI Z Z (by unfold I64 at *; omega)) (sG Z Z (bZ Z Z) (sG Z Z (vP Z Z) (sV (vQ Z Z) (sN (nK9 [5,6,8,10,53] Z (nT (cC Z (fun hb=>?_) (fun hb=>?_)))))))))
      ·have hb:n+1<n':=by
        have:(n:Int)+1+1<(n':Int)+1:=by simpa using hb
        omega
       refine cR (sV (vY Z kv) ?_)
       refine sV (vF Z dH Z) (sV (vY Z ld9) ?_)
       refine sM Z (sV (aI Z Z (by unfold I64 at *; omega)) (cu Z Z Z gJ slq ?_))
       refine aX Z Z sz4 ?_
       refine sN (nK9 [] Z (ax (xB ?_)))
       rw [show dZ (mvG nV F2) cn (.int .i64 ((n:Int)+1+1))=mvG nV (fP F2 cn (n+1)) from nR nV F2 cn (n+1)]
       obtain ⟨hI3,hpot3⟩:=hI2.better hpm hp1 (fun m h=>by rw [hc1] at h; cases h; exact hb)
       refine dn slq (.inl ⟨rfl,(fP F2 cn (n+1),true),⟨hI3,fun _=>?_,fun h=>by cases h⟩,rfl⟩) ?_
       ·show pot l (fP F2 cn (n+1))<pot l F0
        cases hfl:fl2 with
        | true=>have:=hpot2 hfl; omega
        | false=>exact Nat.lt_of_lt_of_eq hpot3 (congrArg (pot l) (hsame2 hfl).1)
       ·rw [dx hst hpe]
        exact sbq
      ·have hb:n'≤n+1:=by
        have:¬ (n:Int)+1+1<(n':Int)+1:=by simpa using hb
        omega
       refine cK9 (xB (dn slq (.inl ⟨Z,(F2,fl2),⟨hI2,hpot2,fun h=>⟨(hsame2 h).1,(hsame2 h).2.1,fun q hq=>?_⟩⟩,Z⟩) ?_))
       ·obtain ⟨he,_,h3⟩:=hsame2 h
        rcases htk q hq with hq | rfl
        ·exact h3 q hq
        ·intro m hm
         rw [← he,hp1] at hm
         cases hm
         exact ⟨n',by rw [← he]; exact hc1,hb⟩
       ·rw [dx hst hpe]
        exact sbq
   ·exact (by repeat (first | exact Pm.refl | refine Pm.cons slq ?_):Pm _ _).perm
   ·rintro u h' ⟨rfl, (⟨⟨F2, fl2⟩, ⟨hI2, hpot2, hsame2⟩, rfl⟩ | ⟨_, _, hfalse, _⟩)⟩
    ·simp only at hI2 hpot2 hsame2
     rw [List.take_length] at hsame2
     refine ⟨rec,_,slq,(by rw [hst]; simp),?_⟩
     rw [hpe]
     dsimp only
     refine xB (xB (xT (cR (sV (aI Z Z (by unfold I64 at *; omega)) (sM Z (sN (nK9 [2,5,6,19,20,21] Z (ax (je slq slq ?_)))))))))
     refine kN (i+1,F2,fl2,db::bs2) ⟨hlt,hI2,hpot2,fun h=>⟨(hsame2 h).1,fun j y hj hy=>?_⟩⟩ (by show _ - _<_ - _; omega) Z ⟨Z,Z,Z,Z,Z,Z,trivial⟩ sbq
     obtain ⟨_,h2,h3⟩:=hsame2 h
     by_cases hji:j=i
     ·subst hji
      rw [List.getElem?_eq_getElem hlt] at hy; cases hy
      rw [hcn]; exact h3
     ·exact h2 j y (by omega) hy
    ·exact hfalse.elim
  ·have hil:i=l.length:=by
    have:¬ i<l.length:=by simpa using hd
    omega
   subst hil
   refine aB (xE (xE (xY (xB (xT (cQ (sV (vY Z ld4) ?_)))))))
   refine sN (nK9 [2,5,6,60] Z (nT (cR (au al4 fun b6=>?_))))
   refine aX Z Z sz4 ?_
   refine sN (nK9 [2,5,6] Z (ax ?_))
   refine kN (F,fl,b6,bs2) ⟨hI,fun h c p hp=>?_⟩ (by
    show (if fl=true then pot l F+1 else 0)<(if fl0=true then pot l F0+1 else 0)
    rw [if_pos hf]
    split
    ·rename_i h; have:=hpot h; omega
    ·omega) rfl ⟨rfl,rfl,rfl,trivial⟩ sbq
   obtain ⟨rfl,h2⟩:=hsame h
   have hc:=r9 hp
   obtain ⟨j,hj⟩:∃ j,idx l c=some j:=by
    cases hh:idx l c with
    | some j=>exact ⟨j,rfl⟩
    | none=>unfold isC at hc; rw [nN.2 hh] at hc; cases hc
   obtain ⟨x,hx,hfx⟩:=nN.1 j hj
   have hn:=(rf hfx).1
   have:=h2 j x (List.getElem?_eq_some_iff.1 hx).1 hx p (by rw [hn]; exact hp)
   rwa [hn] at this
 ·have hf2:fl0=false:=by simpa using hf
  refine aB (xE (xE (xY (xT (cQ (sV (vY Z kv) ?_))))))
  refine sV (vA9 Z) (sN (nK9 [4] Z (nT (cT (Dq (bs:=bs) Z Z ⟨b14,F0,Z,Z,hI0.done (hdone hf2)⟩ sbq)))))
end
def cmpI (a b:Int):Int:=if a<b then -1 else if b<a then 1 else 0
def qI (a b:Nm):Int:=if lt a b=true then -1 else if lt b a=true then 1 else 0
def cmpL:List Nm→List Nm→Int
 | [],[]=>0
 | [],_::_ => -1
 | _::_,[]=>1
 | a::x,b::y=>if qI a b≠0 then qI a b else cmpL x y
theorem JS : ∀ a b : List Nm, decide (cmpL a b < 0) = BD a b
 | [],[]=>rfl
 | [],_::_=>rfl
 | _::_,[]=>rfl
 | a :: x, b :: y => by
  unfold cmpL BD
  have ih:=JS x y
  unfold qI
  rcases dP a b with h | h | h
  ·simp [h]
  ·subst h; rw [lt_irrefl]; simp [ih]
  ·have h2:=iB h
   rw [h2,h]
   have:(a == b)=false:=by
    cases hab:a == b with
    | false=>rfl
    | true=>rw [show a=b by simpa using hab,lt_irrefl] at h; cases h
   simp [this]
section
variable {S S':Res} {v v':Value}
theorem JU (a:Int):Reads prog 272 #[.int .i64 a] [] (.bool false):=by
 refine aL (n:=6) func272 Z Z (len Z) fun hr w0=>?_
 refine cQ (sV (vA9 Z) (sN (nT (cQ (sM Z (sM Z (sV (bT Z Z) (sV (vA9 Z) (sN (nK9 [2] Z (nT (cT ?_))))))))))))
 rw [show (a != a)=false by simp]
 exact aj Z ⟨Z,Z⟩ sbq
theorem JV (a:Nm):Reads prog 203 #[sv a] [] (.bool false):=by
 refine aL (n:=6) func203 Z Z (len Z) fun hr w0=>?_
 refine cQ (sV (vA9 Z) (sN (nT (cQ (sM Z (sM Z (sV (Du Z Z) (sV (vA9 Z) (sN (nK9 [2] Z (nT (cT ?_))))))))))))
 rw [show (!(a == a))=false by simp]
 exact aj Z ⟨Z,Z⟩ sbq
theorem cmpI_ct (a b:Int):Reads prog 228 #[.int .i64 a,.int .i64 b] [] (.int .i64 (cmpI a b)):=by
 unfold cmpI
 refine aL (n:=20) func228 Z Z (len Z) fun hr w0=>?_
 refine cQ (sV (vA9 Z) (sN (nT (cQ (sM Z (bg Z Z en272 Z (JU a) ?_))))))
 refine sV (vA9 Z) (sN (nK9 [0,1,4,5] Z (nT (cQ (sM Z (bg Z Z en272 Z (JU b) ?_))))))
 refine sV (vA9 Z) (sN (nK9 [0,1,4,5,6] Z (nT (cS (cQ (sM Z (sN (nK9 [0,1,4,6,11] Z (nT (aG Z ?_))))))))))
 refine cK9 (xT (cS (cQ (sM Z (sN (nK9 [0,1,4,13] Z (nT (aG Z ?_))))))))
 refine cK9 (xT (cS (cQ (sM Z (sM Z (sV (aO Z Z) (sN (nK9 [0,1,4,16] Z (nT (cC Z (fun h1=>?_) (fun h1=>?_)))))))))))
 ·refine cQ (sV (vA9 Z) (sN (nK9 [4] Z (nT (cT (xR ?_))))))
  rw [if_pos (by simpa using h1)]
  exact aj Z ⟨Z,Z⟩ sbq
 ·rw [if_neg (by simpa using h1)]
  refine cK9 (xT (cS (cQ (sM Z (sM Z (sV (bZ Z Z) (sN (nK9 [4,19] Z (nT (cC Z (fun h2=>?_) (fun h2=>?_)))))))))))
  ·refine cQ (sV (vA9 Z) (sN (nK9 [4] Z (nT (cT (xR ?_))))))
   rw [if_pos (by simpa using h2)]
   exact aj Z ⟨Z,Z⟩ sbq
  ·refine cK9 (xT (cQ (sV (vA9 Z) (sN (nK9 [4] Z (nT (cT ?_)))))))
   rw [if_neg (by simpa using h2)]
   exact aj Z ⟨Z,Z⟩ sbq
theorem zk (a b:Nm):Reads prog 126 #[sv a,sv b] [] (.int .i64 (qI a b)):=by
 unfold qI
 refine aL (n:=20) func126 Z Z (len Z) fun hr w0=>?_
 refine cQ (sV (vA9 Z) (sN (nT (cQ (sM Z (bg Z Z en203 Z (JV a) ?_))))))
 refine sV (vA9 Z) (sN (nK9 [0,1,4,5] Z (nT (cQ (sM Z (bg Z Z en203 Z (JV b) ?_))))))
 refine sV (vA9 Z) (sN (nK9 [0,1,4,5,6] Z (nT (cS (cQ (sM Z (sN (nK9 [0,1,4,6,11] Z (nT (aG Z ?_))))))))))
 refine cK9 (xT (cS (cQ (sM Z (sN (nK9 [0,1,4,13] Z (nT (aG Z ?_))))))))
 refine cK9 (xT (cS (cQ (sM Z (sM Z (sV (v_slss Z Z) (sN (nK9 [0,1,4,16] Z (nT (cC Z (fun h1=>?_) (fun h1=>?_)))))))))))
 ·refine cQ (sV (vA9 Z) (sN (nK9 [4] Z (nT (cT (xR ?_))))))
  rw [if_pos h1]
  exact aj Z ⟨Z,Z⟩ sbq
 ·rw [if_neg (show ¬ lt a b=true by rw [show lt a b=false from h1]; decide)]
  refine cK9 (xT (cS (cQ (sM Z (sM Z (sV (v_sgtr Z Z) (sN (nK9 [4,19] Z (nT (cC Z (fun h2=>?_) (fun h2=>?_)))))))))))
  ·refine cQ (sV (vA9 Z) (sN (nK9 [4] Z (nT (cT (xR ?_))))))
   rw [if_pos (by
    rw [Bool.not_eq_true',Bool.or_eq_false_iff] at h2
    rcases dP a b with h | h | h
    ·exact absurd h (by rw [show lt a b=false from h2.1]; decide)
    ·rw [h] at h2; simp at h2
    ·exact h)]
   exact aj Z ⟨Z,Z⟩ sbq
  ·refine cK9 (xT (cQ (sV (vA9 Z) (sN (nK9 [4] Z (nT (cT ?_)))))))
   rw [if_neg (by
    rw [Bool.not_eq_false',Bool.or_eq_true] at h2
    rcases h2 with h2 | h2
    ·rw [iB h2]; decide
    ·rw [show a=b by simpa using h2,lt_irrefl]; decide)]
   exact aj Z ⟨Z,Z⟩ sbq
theorem cmpL_ct {xs ys:List Nm} (hv:w9 S v xs) (hv':w9 S' v' ys) (hl:xs.length≤1099511627776) (hl':ys.length≤1099511627776):Reads prog 229 #[v,v'] [S,S'] (.int .i64 (cmpL xs ys)):=by
 obtain ⟨a,cap,rfl,_⟩:=id hv
 obtain ⟨a',cap',rfl,_⟩:=id hv'
 refine aL (n:=36) func229 Z Z (len Z) fun hr w0=>?_
 refine cQ (sV (vA9 Z) (sN (nT (cS (cQ (sM Z (sV (aF Z underlying40) (sM Z (sN (nT (cB (aZ (σ := Nat) (fun i=>[(0,.slice a xs.length cap),(1,.slice a' ys.length cap'),(9,.slice a xs.length cap),(10,.int .i64 xs.length),(11,.int .i64 (i:Nat))]) (fun _=>S::S'::hr) (fun i=>i≤xs.length∧i≤ys.length∧cmpL xs ys=cmpL (xs.drop i) (ys.drop i)) (fun i=>xs.length - i) 0 ⟨Nat.zero_le _,Nat.zero_le _,Z⟩ ?_))))))))))))
 rintro i ⟨hi,hi',hc⟩
 refine cQ (sV (aO Z Z) (sN (nT (cS (cC Z (fun hd=>?_) (fun hd=>?_))))))
 ·have hlt:i<xs.length:=by simpa using hd
  obtain ⟨b,o,cap2,hv2,hrd⟩:=sJ hv (List.getElem?_eq_getElem hlt)
  have hx:xs.drop i=xs[i]::xs.drop (i+1):=(List.getElem_cons_drop hlt).symm
  refine cK9 (xT (cS (cB (cQ (sM Z (sV (vI (k:=i) (congrArg some hv2) Z jh Z hlt Z) (sV (vY Z ld9) ?_)))))))
  refine sV (vA9 Z) (sV (vA9 Z) (sN (nK9 [0,1,5,6,9,10,11] Z (nT (cS (cQ (sM Z (sM Z (sV (aF Z underlying40) (sV (pg Z Z) (sN (nK9 [0,1,5,6,9,10,11,19] Z (nT (cC Z (fun he=>?_) (fun he=>?_)))))))))))))))
  ·have he:ys.length≤i:=by
    have:(ys.length:Int)≤i:=by simpa using he
    omega
   have hy:ys.drop i=[]:=List.drop_eq_nil_of_le he
   refine cQ (sV (vA9 Z) (sN (nK9 [4] Z (nT (cT (xR (xW (xR (xR (xW (xR ?_)))))))))))
   rw [hc,hx,hy]
   exact aj Z ⟨Z,Z⟩ sbq
  ·have he:i<ys.length:=by
    have:¬ (ys.length:Int)≤i:=by simpa using he
    omega
   obtain ⟨b',o',cap2',hv2',hrd'⟩:=sJ hv' (List.getElem?_eq_getElem he)
   have hy:ys.drop i=ys[i]::ys.drop (i+1):=(List.getElem_cons_drop he).symm
   refine cK9 (xT (cQ (sM Z (sM Z (sV (vI (k:=i) (congrArg some hv2') Z jh Z he Z) (sV (vY Z ld9) ?_))))))
   refine sV (vA9 Z) (sN (nK9 [0,1,6,7,9,10,11] Z (nT (cQ (sM Z (sM Z (bg Z Z JN Z (zk xs[i] ys[i]) ?_)))))))
   refine sV (vA9 Z) (sN (nK9 [0,1,8,9,10,11] Z (nT (cQ (sM Z (sV (bT Z Z) (sN (nK9 [0,1,8,9,10,11,28] Z (nT (cC Z (fun hn=>?_) (fun hn=>?_)))))))))))
   ·have hn:qI xs[i] ys[i]≠0:=by simpa using hn
    refine cQ (sM Z (sV (vA9 Z) (sN (nK9 [4] Z (nT (cT (xW (xR (xR (xW (xR ?_)))))))))))
    rw [hc,hx,hy,cmpL,if_pos hn]
    exact aj Z ⟨Z,Z⟩ sbq
   ·have hn:qI xs[i] ys[i]=0:=by simpa using hn
    refine cK9 (xB (xT (cR (sV (aI Z Z (by unfold I64 at *; omega)) (sM Z (sN (nK9 [0,1,9,10,11] Z (ax ?_))))))))
    refine aJ (i+1) ⟨hlt,he,by rw [hc,hx,hy,cmpL,if_neg (by rw [hn]; decide)]⟩ (by show _ - _<_ - _; omega)
 ·have hil:i=xs.length:=by
   have:¬ i<xs.length:=by simpa using hd
   omega
  have hx:xs.drop i=[]:=List.drop_eq_nil_of_le (by omega)
  refine aB (xE (xE (xY (xT (cS (cQ (sM Z (sV (aF Z underlying40) (sM Z (sV (aF Z underlying40) (sV (aO Z Z) (sN (nK9 [35] Z (nT ?_))))))))))))))
  refine cC Z (fun he=>?_) (fun he=>?_)
  ·have he:xs.length<ys.length:=by
    have:(xs.length:Int)<ys.length:=by simpa using he
    omega
   refine cQ (sV (vA9 Z) (sN (nK9 [4] Z (nT (cT (xR ?_))))))
   rw [hc,hx,← List.getElem_cons_drop (show i<ys.length by omega)]
   exact aj Z ⟨Z,Z⟩ sbq
  ·have he:¬ xs.length<ys.length:=by
    have:¬ (xs.length:Int)<ys.length:=by simpa using he
    omega
   refine cK9 (xT (cQ (sV (vA9 Z) (sN (nK9 [4] Z (nT (cT ?_)))))))
   rw [hc,hx,List.drop_eq_nil_of_le (by omega)]
   exact aj Z ⟨Z,Z⟩ sbq
theorem M5 {xs:List Nm} (hv:w9 S v xs) (hl:xs.length≤1099511627776) (hne:xs≠[]):Reads prog 188 #[v] [S] (sv (jc xs)):=by
 obtain ⟨a,cap,rfl,_⟩:=id hv
 have h0:0<xs.length:=List.length_pos_iff.2 hne
 obtain ⟨b0,o0,cap0,hv0,hrd0⟩:=sJ hv (List.getElem?_eq_getElem h0)
 refine aL (n:=25) func188 Z Z (len Z) fun hr w0=>?_
 refine cQ (sV (vA9 Z) (sN (nT (cS (cQ (sM Z (sV (aF Z underlying40) (sV (aO Z Z) (sN (nK9 [0,2,7] Z (nT (cC Z (fun hz=>?_) (fun hz=>?_)))))))))))))
 ·have:(xs.length:Int)<1:=by simpa using hz
  omega
 ·refine cK9 (xT (cQ (sM Z (sV (vI (k:=0) (congrArg some hv0) Z jh Z h0 Z) (sV (vY Z ld9) ?_)))))
  refine sV (vA9 Z) (sN (nK9 [0,2,3] Z (nT (cS (cQ (sV (vA9 Z) (sN (nT (cB (aZ (σ := Nm×Nat) (fun q=>[(0,.slice a xs.length cap),(3,sv q.1),(4,.int .i64 (q.2:Nat))]) (fun _=>S::hr) (fun q=>q.2≤xs.length∧q.1∈xs.take q.2∧∀ y∈xs.take q.2,lt y q.1=false) (fun q=>xs.length - q.2) (xs[0],1) ⟨h0,by rw [List.take_succ_eq_append_getElem h0]; simp,fun y hy=>by rw [List.take_succ_eq_append_getElem h0] at hy; simp at hy; rw [hy]; exact lt_irrefl _⟩ ?_))))))))))
  rintro ⟨m,i⟩ ⟨hi,hm,hle⟩
  simp only at hi hm hle
  dsimp only
  refine cS (cQ (sM Z (sM Z (sV (aF Z underlying40) (sV (aO Z Z) (sN (nK9 [0,3,4,15] Z (nT (cC Z (fun hd=>?_) (fun hd=>?_))))))))))
  ·have hlt:i<xs.length:=by simpa using hd
   obtain ⟨b,o,cap2,hv2,hrd⟩:=sJ hv (List.getElem?_eq_getElem hlt)
   have ht:=List.take_succ_eq_append_getElem hlt
   refine cK9 (xT (cS (cB (cR (sM Z (sM Z (sM Z (sV (vI (k:=i) (congrArg some hv2) Z jh Z hlt Z) (sV (vY Z ld9) ?_)))))))))
   refine sV (v_smin Z Z) (sV (vA9 Z) (sN (nK9 [0,3,4] Z (ax (xB (xT (cR (sM Z (sV (aI Z Z (by unfold I64 at *; omega)) (sV (vA9 Z) (sN (nK9 [0,3,4] Z (ax (aJ (_,i+1) ⟨hlt,?_,?_⟩ (by show _ - _<_ - _; omega)))))))))))))))
   ·show (if _ then _ else _)∈xs.take (i+1)
    rw [ht,List.mem_append]
    split
    ·exact .inl hm
    ·exact .inr (List.mem_singleton.2 Z)
   ·intro y hy
    show lt y (if _ then _ else _)=false
    rw [ht,List.mem_append,List.mem_singleton] at hy
    split
    ·rename_i hq
     rcases hy with hy | rfl
     ·exact hle y hy
     ·rw [Bool.or_eq_true] at hq
      rcases hq with hq | hq
      ·exact iB hq
      ·rw [show m=xs[i] by simpa using hq]; exact lt_irrefl _
    ·rename_i hq
     rw [Bool.not_eq_true,Bool.or_eq_false_iff] at hq
     rcases hy with hy | rfl
     ·cases hc : lt y xs[i] with
      | false=>rfl
      | true =>
       have hxm:lt xs[i] m=true:=by
        rcases dP m xs[i] with h | h | h
        ·exact absurd h (by rw [show lt m xs[i]=false from hq.1]; decide)
        ·rw [h] at hq; simp at hq
        ·exact h
       have:=hle y hy
       rw [lt_trans hc hxm] at this; cases this
     ·exact lt_irrefl _
  ·have hil:i=xs.length:=by
    have:¬ i<xs.length:=by simpa using hd
    omega
   subst hil
   rw [List.take_length] at hm hle
   rw [Ko hm hle]
   refine aB (xE (xE (xY (xT (cQ (sM Z (sV (vA9 Z) (sN (nK9 [2] Z (nT (cT ?_)))))))))))
   exact aj Z ⟨Z,Z⟩ sbq
end
def mP (l:Sys) (to c:Nm):List Nm:=match gP l to c with | none=>[] | some k=>short l to k c
theorem qJ {l:Sys} {to:Nm} {F:List (Nm×Nat)} (hF:∀ x,dQ F x=gP l to x) (x:Nm):(bJ (mvG nV F) x).getD (.int .i64 0)=match gP l to x with | none=>.int .i64 0 | some k=>.int .i64 ((k:Int)+1):=by
 rw [kT,hF]
 cases gP l to x <;> rfl
theorem rD {l:Sys} {to c:Nm} {k:Nat} (h:gP l to c=some k):k≤l.length:=by
 unfold gP at h
 have:=List.mem_of_find?_eq_some h
 rw [List.mem_range] at this
 omega
theorem Cb {l:Sys} {to c:Nm}:gP l to c=some 0↔c=to:=by
 rw [ic]
 simp [W]
theorem Ai (l:Sys) (to:Nm):∀ k c,short l to k c=c::(short l to k c).drop 1
 | 0,c=>rfl
 | k+1,c=>rfl
theorem JW {l:Sys} (hF:Fine l) (c:Nm):(par l c).length≤1099511627776:=by
 refine Nat.le_trans (List.length_filter_le _ _) ?_
 unfold pars
 cases hf:find l c with
 | none=>simp
 | some x=>exact hF.few x (rf hf).2
section
variable {S:Res} {v:Value} {l:Sys}
theorem Fb {mb:Nat} (hv:lU S v l) (hF:Fine l) (from_ to:Nm):CtN prog 226 #[.agg #[v,.map (some mb)],sv from_,sv to] [S,mps mb (bE l)] fun u T=>∃ a cp,u = .slice a (mP l to from_).length cp∧a.isNone=(gP l to from_).isNone∧T=NR u (mP l to from_):=by
 obtain ⟨a,cap,rfl,_⟩:=id hv
 have hFl:=hF.len
 refine qw (n:=52) func226 Z Z (len Z) fun hr w0=>?_
 refine cQ (aV Z Z fun b3=>?_)
 refine aV Z Z fun b4=>?_
 refine sV (vA9 Z) (sN (nK9 [2,3,4,6] Z (nT (cQ (sV (ag Z kw Z af) ?_)))))
 refine sM Z (aH Z Z en271 Z (far_ct hv hF to) ?_)
 rintro u h' ⟨mf,F,rfl,rfl,hFF⟩
 simp only [lC,lN]
 refine au al162 fun b7=>?_
 refine aX Z Z sz162 ?_
 refine sN (nK9 [2,3,4,6,7] Z (nT (cS (cQ (sV (vY Z kv) ?_)))))
 refine sV (vY Z ld9) ?_
 cases hd0:gP l to from_
 ·have hsr:mP l to from_=[]:=by unfold mP; rw [hd0]
  refine sV (gB (show (bJ (mvG nV F) from_).getD (.int .i64 0) = .int .i64 0 by rw [qJ hFF,hd0]) (bI Z Z gJ nG slq)) ?_
  refine sV (dB Z Z) (sN (nK9 [2,3,4,6,7,18] Z (nT (aT Z ?_))))
  refine cQ (sV (vA9 Z) (sN (nK9 [6] Z (nT (cT (xR ?_))))))
  rw [hsr]
  refine jv (cz 9 1) (jN (bs:=[]) Z Z ⟨NR (.slice none 0 0) [],Z,none,0,Z,Z,Z⟩ sbq)
 ·rename_i k0
  have hsr:mP l to from_=short l to k0 from_:=by unfold mP; rw [hd0]
  have hk0:=rD hd0
  refine sV (gB (show (bJ (mvG nV F) from_).getD (.int .i64 0) = .int .i64 ((k0:Int)+1) by rw [qJ hFF,hd0]) (bI Z Z gJ nG slq)) ?_
  refine sV (dB Z Z) (sN (nK9 [2,3,4,6,7,18] Z (nT ?_)))
  rw [show (((k0:Int)+1) == 0)=false by simp; omega]
  refine aG Z ?_
  refine cK9 (xT (cQ (sV (vY Z ld9) ?_)))
  refine ak (cells:=[sv from_]) Z underlying40 fG Z Z (by kernel_rfl) (ltn Z) fun b20=>?_
  refine sV (vA9 Z) (sN (nK9 [2,3,4,6,7,8] Z (nT (cS (cB (cd_pv (Ag (b:=b20) (n:=1) (sz:=1) (E:=9) [nC from_] Z (by simp [nC]) Z (by decide)) ?_))))))
  refine nk ?_
  simp only [lC,lN]
  refine ni (σ := (Nat×Nm)×(Value×List Nm)×List Nat) (fun q=>q.2.2.map mk) (fun q=>[(2,sv to),(3,.pointer (some ⟨b3,0,none⟩)),(4,.pointer (some ⟨b4,0,none⟩)),(7,.pointer (some ⟨b7,0,none⟩)),(8,q.2.1.1)]) (fun q=>Res.star (marks q.2.2)::pt b4 (cl [sv q.1.2] 9)::NR q.2.1.1 q.2.1.2::pt b7 (cl [.map (some mf)] 162)::mps mf (mvG nV F)::pt b3 (cl [.slice a l.length cap,.map (some mb)] 164)::S::mps mb (bE l)::hr) (fun q=>gP l to q.1.2=some q.1.1∧q.2.1.1.oneCell'=true∧q.2.1.2++(short l to q.1.1 q.1.2).drop 1=short l to k0 from_) (fun q=>q.1.1) ((k0,from_),(.slice (some ⟨b20,0,none⟩) 1 1,[from_]),[]) ⟨hd0,Z,(Ai l to k0 from_).symm⟩ Z ⟨Z,Z,Z,Z,Z,trivial⟩ sbq ?_
  rintro ⟨⟨j,c⟩,⟨w0v,out⟩,bs⟩ ⟨hdj,hw0,hout⟩
  simp only at hdj hw0 hout
  dsimp only
  have holen:out.length≤k0+1:=by
   have:=congrArg List.length hout
   rw [List.length_append,fE] at this
   omega
  refine cS (cQ (sV (vY Z ld9) ?_))
  refine sM Z (sV (Du Z Z) (sN (nK9 [2,3,4,7,8,23] Z (nT (cC Z (fun hct=>?_) (fun hct=>?_))))))
  ·have hct:c≠to:=by simpa using hct
   obtain ⟨j',rfl⟩:∃ j',j=j'+1:=by
    cases j with
    | zero=>exact absurd (Cb.1 hdj) hct
    | succ j'=>exact ⟨j',rfl⟩
   have hnx:=EA hdj
   have hdn:=BB hdj
   have hjl:=rD hdj
   refine cK9 (xT (cB (cQ (au al40 fun b9=>?_))))
   refine sN (nK9 [2,3,4,7,8,9] Z (nT (cS (cQ (sV (ag Z kw Z af) ?_)))))
   refine sV (vY Z ld9) ?_
   refine aH Z Z ET Z (jU Z) ?_
   rintro u h' ⟨n1,n2,rfl,rfl⟩
   refine sN (nK9 [2,3,4,7,8,9,26] Z (nT (cB (dK (cz 9 1) ?_))))
   simp only [lC,lN]
   unfold seqv
   refine iU Z EW fun yl db rec hst hpe hps hasg hbo hkn2=>?_
   refine ⟨_,Ct.perm (E8 (σ := Value×List Nm) (b1:=n1) (b2:=n2) (mb:=mb) (yl:=yl) (c:=c) (fun q=>pt yl (.loop rec)::pt db (.deferred (some []))::pt b9 (cl [q.1] 40)::NR q.1 q.2::Res.star (marks bs)::pt b4 (cl [sv c] 9)::NR w0v out::pt b7 (cl [.map (some mf)] 162)::mps mf (mvG nV F)::pt b3 (cl [.slice a l.length cap,.map (some mb)] 164)::hr)
    (fun k q=>q.1.oneCell'=true∧q.2=((par l c).take k).filter fun p=>gP l to p == some j') (fun _ _=>False) (.slice none 0 0,[]) ⟨rfl,rfl⟩ hv hF.few ?_) ?_,?_⟩
   ·rintro k ⟨w, ns⟩ p hk ⟨hw, hns⟩
    simp only at hw hns
    obtain ⟨hkl,hke⟩:=List.getElem?_eq_some_iff.1 hk
    have hpl:=JW hF c
    have hnl:ns.length≤k:=by rw [hns]; exact Nat.le_trans (List.length_filter_le _ _) (by simp; omega)
    have htk:((par l c).take (k+1)).filter (fun p=>gP l to p == some j')=ns++(if gP l to p == some j' then [p] else []):=by
     rw [List.take_succ_eq_append_getElem hkl,hke,List.filter_append,← hns]
     congr 1
     by_cases hq:(gP l to p == some j')=true
     ·rw [if_pos hq,List.filter_cons_of_pos (by exact hq)]; rfl
     ·rw [if_neg hq,List.filter_cons_of_neg (by exact hq)]; rfl
    refine Yc.perm (qo (n:=52) (rec:=rec) (args:=[sv p]) (hf:=pt db (.deferred (some []))::pt b9 (cl [w] 40)::NR w ns::Res.star (marks bs)::pt b4 (cl [sv c] 9)::NR w0v out::pt b7 (cl [.map (some mf)] 162)::mps mf (mvG nV F)::pt b3 (cl [.slice a l.length cap,.map (some mb)] 164)::S::mps mb (bE l)::hr) (by rw [hps]; rfl) hkn2 (by rw [hps]; decide) ?_) (by exact (by repeat (first | exact Pm.refl | refine Pm.cons slq ?_):Pm _ _).perm)
    intro hr2 w1
    rw [hasg,hps,hbo]
    simp only [lC,lN]
    refine cR (sV (vA9 Z) (sN (nK9 [4,7,9,10] Z (ax (kY Z slq (by first | rfl | assumption) ?_)))))
    refine cB (cQ (sV (vY Z kv) ?_))
    refine sM Z ?_
    cases hdp:gP l to p
    ·refine sV (gB (show (bJ (mvG nV F) p).getD (.int .i64 0) = .int .i64 0 by rw [qJ hFF,hdp]) (bI Z Z gJ nG slq)) ?_
     refine sV (vA9 Z) (sN (nK9 [4,7,9,10,11] Z (nT (cQ (sM Z (sV (bZ Z Z) (sM Z (aC Z Z Z ?_))))))))
     iterate 5 refine aC rfl rfl rfl ?_
     refine sV (vP Z Z) (sN (nK9 [9,10,40] Z (nT (aG Z ?_))))
     refine cK9 (xB (dn slq (.inl ⟨Z,(w,ns),⟨hw,?_⟩,Z⟩) ?_))
     ·show ns=_
      rw [htk,hdp]; simp
     ·rw [dx hst hpe]
      exact sbq
    ·rename_i m
     have hml:=rD hdp
     refine sV (gB (show (bJ (mvG nV F) p).getD (.int .i64 0) = .int .i64 ((m:Int)+1) by rw [qJ hFF,hdp]) (bI Z Z gJ nG slq)) ?_
     refine sV (vA9 Z) (sN (nK9 [4,7,9,10,11] Z (nT (cQ (sM Z (sV (bZ Z Z) (sM Z ?_)))))))
     rw [show decide ((0:Int)<(m:Int)+1)=true from decide_eq_true (by omega)]
     refine sG Z Z (vM Z) (sG Z Z (vY Z kv) ?_)
     refine sG Z Z (vY Z ld9) ?_
     refine sG Z Z (gB (show (bJ (mvG nV F) c).getD (.int .i64 0) = .int .i64 (((j'+1:Nat):Int)+1) by rw [qJ hFF,hdj]) (bI Z Z gJ nG slq)) ?_
     refine sG Z Z (BJ Z Z (by unfold I64 at *; omega)) (sG Z Z (dB Z Z) (sV (vQ Z Z) (sN (nK9 [9,10,40] Z (nT (cC Z (fun hb=>?_) (fun hb=>?_)))))))
     ·have hb:m=j':=by
       have:(m:Int)+1=((j'+1:Nat):Int)+1 - 1:=by simpa using hb
       omega
      refine cR (sV (vY Z fH) ?_)
      refine sM Z (ak (cells:=[sv p]) Z underlying40 fG Z Z (by kernel_rfl) (ltn Z) fun b43=>?_)
      refine dU [nC p] Z Z underlying40 fG Z (by decide) (show Sel _ (NR w ns) _ from slq) (by simp [nC]) Z (fun j u2 hu2=>bP (bU (by simpa [nC] using hu2))) (by simp [nC,Value.oneCell']) (by simp; omega) (by simp; omega) (ltn Z) fun w3 hw3 _=>?_
      rw [show ns.map nC++[nC p]=(ns++[p]).map nC by simp]
      refine aX Z Z yQ ?_
      refine sN (nK9 [] Z (ax (xB (dn slq (.inl ⟨Z,(w3,ns++[p]),⟨hw3,?_⟩,Z⟩) ?_))))
      ·show ns++[p]=_
       rw [htk,hdp,hb]; simp
      ·rw [dx hst hpe]
       exact sbq
     ·have hb:m≠j':=fun e=>by
       have:¬ (m:Int)+1=((j'+1:Nat):Int)+1 - 1:=by simpa using hb
       omega
      refine cK9 (xB (dn slq (.inl ⟨Z,(w,ns),⟨hw,?_⟩,Z⟩) ?_))
      ·show ns=_
       rw [htk,hdp]; simp [hb]
      ·rw [dx hst hpe]
       exact sbq
   ·exact (by repeat (first | exact Pm.refl | refine Pm.cons slq ?_):Pm _ _).perm
   ·rintro u h' ⟨rfl,(⟨⟨w,ns⟩,⟨hw,hns⟩,rfl⟩ | ⟨_,_,hfalse,_⟩)⟩
    ·simp only at hw hns
     rw [List.take_length] at hns
     refine ⟨rec,_,slq,(by rw [hst]; simp),?_⟩
     rw [hpe]
     dsimp only
     have hnx2:ns=nexts l to j' c:=hns
     have hnl:ns.length≤1099511627776:=by rw [hns]; exact Nat.le_trans (List.length_filter_le _ _) (JW hF c)
     rw [← hnx2] at hnx hdn
     have hsh:short l to (j'+1) c=c::short l to j' (jc ns):=by rw [short,← hnx2]
     rw [hsh] at hout
     refine xB (xT (cQ (sV (vY Z fH) ?_)))
     refine nM (r:=NR w ns) slq fun hok=>?_
     refine bg Z Z en188 Z (M5 (iH hok) hnl hnx) ?_
     refine aX Z Z sz9 ?_
     refine sN (nK9 [2,3,4,7,8] Z (nT (cR (sM Z (sV (vY Z ld9) ?_)))))
     refine ak (cells:=[sv (jc ns)]) Z underlying40 fG Z Z (by kernel_rfl) (ltn Z) fun b49=>?_
     refine dU [nC (jc ns)] Z Z underlying40 fG Z (by decide) (show Sel _ (NR w0v out) _ from slq) (by simp [nC]) Z (fun j u2 hu2=>bP (bU (by simpa [nC] using hu2))) (by simp [nC,Value.oneCell']) (by simp; omega) (by simp; omega) (ltn Z) fun w3 hw3 _=>?_
     rw [show out.map nC++[nC (jc ns)]=(out++[jc ns]).map nC by simp]
     refine sV (vA9 Z) (sN (nK9 [2,3,4,7,8] Z (ax (xB (je slq slq ?_)))))
     refine kN ((j',jc ns),(w3,out++[jc ns]),db::bs) ⟨hdn.2,hw3,?_⟩ (Nat.lt_succ_self _) Z ⟨Z,Z,Z,Z,Z,trivial⟩ sbq
     show out++[jc ns]++(short l to j' (jc ns)).drop 1=short l to k0 from_
     rw [← hout,List.append_assoc]
     congr 1
     exact (Ai l to j' (jc ns)).symm
    ·exact hfalse.elim
  ·have hct:c=to:=by simpa using hct
   have hj0:j=0:=by
    have:=(Cb (l:=l)).2 hct
    rw [hdj] at this; cases this; rfl
   subst hj0
   have hout2:out=short l to k0 from_:=by rw [← hout]; simp [short]
   have hne:out≠[]:=fun e=>by
    have:=fE l to k0 from_
    rw [← hout2,e] at this; cases this
   rw [hsr,← hout2]
   refine aB (xE (xE (xY (xT (cQ (sM Z (sV (vA9 Z) (sN (nK9 [6] Z (nT (cT (dS (r:=NR w0v out) slq fun ⟨fh,hok⟩=>?_))))))))))))
   rcases VR.form hok with ⟨_,he⟩ | ⟨vb,vo,vc,he,_,_⟩
   ·exact absurd (List.map_eq_nil_iff.1 he) hne
   ·rw [List.length_map] at he
    subst he
    refine Dq (bs:=bs) Z Z ⟨NR (.slice (some ⟨vb,vo,none⟩) out.length vc) out,Z,some ⟨vb,vo,none⟩,vc,Z,Z,Z⟩ sbq
end
def okB (u:UInt8):Bool:=upper u || digit u || u.toNat == 95
def DV (r:Int):Bool:=((decide (r<65) || decide (90<r)) && (decide (r<48) || decide (57<r))) && (r != 95)
theorem M6 {u:UInt8} (h:u.toNat<128):DV u.toNat = !okB u:=by
 unfold DV okB upper digit
 rw [Bool.eq_iff_iff]
 simp only [Bool.and_eq_true,Bool.or_eq_true,decide_eq_true_eq,bne_iff_ne,ne_eq,Bool.not_eq_true',Bool.or_eq_false_iff,Bool.and_eq_false_iff,decide_eq_false_iff_not,beq_eq_false_iff_ne]
 omega
theorem odd_big {r:Int} (h:128≤r):DV r=true:=by
 unfold DV
 simp only [Bool.and_eq_true,Bool.or_eq_true,decide_eq_true_eq,bne_iff_ne,ne_eq]
 omega
theorem Ff {u:UInt8} (h:okB u=true):u.toNat<128:=by
 unfold okB upper digit at h
 simp only [Bool.or_eq_true,Bool.and_eq_true,decide_eq_true_eq,beq_iff_eq] at h
 omega
def ixO (s:Nm):Int:=match s.findIdx? (fun u => !okB u) with | some i=>i | none => -1
theorem ixO_any (s:Nm):decide (0≤ixO s)=s.any fun u => !okB u:=by
 unfold ixO
 cases h:s.findIdx? (fun u => !okB u) with
 | none =>
  rw [List.findIdx?_eq_none_iff] at h
  symm
  show _=false
  rw [List.any_eq_false]
  intro x hx; rw [h x hx]; decide
 | some i =>
  show decide (0≤(i:Int))=_
  obtain ⟨hi,h1,_⟩:=List.findIdx?_eq_some_iff_getElem.1 h
  rw [List.any_eq_true.2 ⟨s[i],List.getElem_mem hi,h1⟩]
  exact decide_eq_true (by omega)
section
theorem M7 (r:Int):Reads prog 224 #[.int .i32 r] [] (.bool (DV r)):=by
 unfold DV
 refine aL (n:=21) func224 Z Z (len Z) fun hr w0=>?_
 refine cQ (sV (vA9 Z) (sN (nT (cQ (sM Z (sV (aO Z Z) (sM Z (bD (k:=6) (d:=8) (v:=.bool (decide (r<65) || decide (90<r))) (fun hcut=>aM (b:=decide (r<65)) false (fun hg=>?_) (fun hg=>?_)) ?_))))))))
 ·refine aC Z Z hg ?_
  refine aC Z Z hg ?_
  refine sV (vQ (bO Z hg) Z) ?_
  exact hcut _ uG
 ·refine sG Z (bG Z hg) (vM Z) (sG Z (bG Z hg) (bZ Z Z) (sV (vP (bO Z hg) Z) ?_))
  exact hcut _ uG
 refine sM Z (bD (k:=14) (d:=16) (v:=.bool ((decide (r<65) || decide (90<r)) && (decide (r<48) || decide (57<r)))) (fun hcut=>aM (b:=(decide (r<65) || decide (90<r))) true (fun hg=>?_) (fun hg=>?_)) ?_)
 ·refine aC Z Z hg ?_
  iterate 2 refine aC rfl rfl hg ?_
  refine bX Z Z ?_
  refine bX Z Z ?_
  refine aC Z Z hg ?_
  refine sV (vP (bO Z hg) Z) ?_
  exact hcut _ uG
 ·refine sG Z (bG Z hg) (vM Z) (sG Z (bG Z hg) (aO Z Z) (sG Z (bG Z hg) (vM Z) (bD (k:=13) (d:=15) (v:=.bool (decide (r<48) || decide (57<r))) (fun hcut=>aM (b:=decide (r<48)) false (fun hg1=>?_) (fun hg1=>?_)) ?_)))
  ·refine aC Z Z hg1 ?_
   refine aC Z Z hg1 ?_
   refine sG Z (bG Z hg) (vQ (bO Z hg1) Z) ?_
   exact hcut _ (uH (by first | rfl | (rw [hg1]; rfl) | simp_all) (uS Z (uS Z (uR))))
  ·refine sG Z (bG Z hg1) (vM Z) (sG Z (bG Z hg1) (bZ Z Z) (sG Z (bG Z hg) (vP (bO Z hg1) Z) ?_))
   exact hcut _ (uH (by first | rfl | (rw [hg1]; rfl) | simp_all) (uS Z (uS Z (uR))))
  refine sV (vQ (bO Z hg) Z) ?_
  exact hcut _ (uH (by first | rfl | (rw [hg]; rfl) | simp_all) (by repeat (first | exact uR | refine uS Z ?_)))
 refine sM Z (bD (k:=18) (d:=20) (v:=.bool (((decide (r<65) || decide (90<r)) && (decide (r<48) || decide (57<r))) && (r != 95))) (fun hcut=>aM (b:=((decide (r<65) || decide (90<r)) && (decide (r<48) || decide (57<r)))) true (fun hg=>?_) (fun hg=>?_)) ?_)
 ·refine aC Z Z hg ?_
  refine aC Z Z hg ?_
  refine sV (vP (bO Z hg) Z) ?_
  exact hcut _ uG
 ·refine sG Z (bG Z hg) (vM Z) (sG Z (bG Z hg) (bT Z Z) (sV (vQ (bO Z hg) Z) ?_))
  exact hcut _ uG
 refine sV (vA9 Z) (sN (nK9 [2] Z (nT (cT ?_))))
 exact aj Z ⟨Z,Z⟩ sbq
theorem DW (s:Nm) (hl:s.length≤1099511627776):Reads prog 297 #[sv s,.func (.func 224) #[] #[],.bool true] [] (.int .i64 (ixO s)):=by
 refine aL (n:=21) func297 Z Z (len Z) fun hr w0=>?_
 refine cQ (sV (vA9 Z) (sN (nT (cS (cQ (sM Z (KA Z underlying9 (ltn Z) fun b10=>?_)))))))
 refine sN (nK9 [1,2,6,10] Z (nT (cB (aZ (σ := Nat) (fun i=>[(1,.func (.func 224) #[] #[]),(2,.bool true),(10,.pointer (some ⟨b10,0,none⟩))]) (fun i=>pt b10 (.stringIter ⟨⟨s⟩⟩ i)::hr) (fun i=>i≤s.length∧∀ (j:Nat) (y:UInt8),j<i→s[j]? = some y→okB y=true) (fun i=>s.length - i) 0 ⟨Nat.zero_le _,fun j y hj=>by omega⟩ ?_))))
 rintro i ⟨hi,hok⟩
 by_cases hlt:i<s.length
 ·have hu:=List.getElem?_eq_getElem hlt
  refine cQ (MN Z slq hlt (ltn Z) ?_)
  refine sV (ah Z Z) (sN (nT (cS (aT Z ?_))))
  refine cK9 (xT (cB (cQ (sV (ah Z Z) (sV (ah Z Z) (sV (vA9 Z) (sV (vA9 Z) (sN (nK9 [1,2,7,8,10] Z (nT (cQ (sM Z (sM Z ?_)))))))))))))
  by_cases hq:okB s[i]=true
  ·have hd:=BQ hu (Ff hq)
   have hod:DV (s[i]).toNat=false:=by rw [M6 (Ff hq),hq]; rfl
   rw [hd]
   refine bg Z Z en224 Z (M7 (((s[i]).toNat:Nat):Int)) ?_
   rw [hod]
   refine sM Z (sV (oz underlying4 Z Z) (sN (nK9 [1,2,7,10,19] Z (nT (aG Z ?_)))))
   refine cK9 (xB (aJ (i+1) ⟨hlt,fun j y hj hy=>?_⟩ (by show _ - _<_ - _; omega)))
   by_cases hji:j=i
   ·subst hji; rw [hu] at hy; cases hy; exact hq
   ·exact hok j y (by omega) hy
  ·have hq : okB s[i] = false := by simpa using hq
   have hod:DV ((Utf8.decode ⟨⟨s⟩⟩ i).1:Nat)=true:=by
    rcases Nat.lt_or_ge (s[i]).toNat 128 with h | h
    ·rw [BQ hu h]
     show DV ((s[i]).toNat:Nat)=true
     rw [M6 h,hq]; rfl
    ·exact odd_big (by have:=KD hu h; omega)
   refine bg Z Z en224 Z (M7 (((Utf8.decode ⟨⟨s⟩⟩ i).1:Nat):Int)) ?_
   rw [hod]
   refine sM Z (sV (oz underlying4 Z Z) (sN (nK9 [1,2,7,10,19] Z (nT (aT Z ?_)))))
   refine cQ (sM Z (sV (vA9 Z) (sN (nK9 [6] Z (nT (cT (xW (xR (xW (xR ?_))))))))))
   rw [show ixO s=(i:Int) by
    unfold ixO
    rw [show s.findIdx? (fun u => !okB u)=some i from List.findIdx?_eq_some_iff_getElem.2 ⟨hlt,by rw [hq]; rfl,fun j hj=>by
     rw [hok j _ hj (List.getElem?_eq_getElem (Nat.lt_trans hj hlt))]; decide⟩]]
   exact aj Z ⟨Z,Z⟩ sbq
 ·refine cQ (KC Z slq (by omega) (ltn Z) ?_)
  refine sV (ah Z Z) (sN (nT (cS (aG Z ?_))))
  refine aB (xE (xE (xY (xT (cQ (sV (vA9 Z) (sN (nK9 [6] Z (nT (cT ?_))))))))))
  rw [show ixO s = -1 by
   unfold ixO
   rw [show s.findIdx? (fun u => !okB u)=none from List.findIdx?_eq_none_iff.2 fun x hx=>by
    obtain ⟨j,hj,rfl⟩:=List.getElem_of_mem hx
    rw [hok j _ (by omega) (List.getElem?_eq_getElem hj)]; rfl]]
  exact aj Z ⟨Z,Z⟩ sbq
theorem DX (s:Nm) (hl:s.length≤1099511627776):Reads prog 270 #[sv s,.func (.func 224) #[] #[]] [] (.int .i64 (ixO s)):=by
 refine aL (n:=8) func270 Z Z (len Z) fun hr w0=>?_
 refine cQ (sV (vA9 Z) (sN (nT (cQ (sM Z (sM Z (bg Z Z en297 Z (DW s hl) ?_)))))))
 refine sV (vA9 Z) (sN (nK9 [4] Z (nT (cT ?_))))
 exact aj Z ⟨Z,Z⟩ sbq
theorem yT (s:Nm) (hl:s.length≤1099511627776):Reads prog 225 #[sv s,.func (.func 224) #[] #[]] [] (.bool (s.any fun u => !okB u)):=by
 refine aL (n:=9) func225 Z Z (len Z) fun hr w0=>?_
 refine cQ (sV (vA9 Z) (sN (nT (cQ (sM Z (sM Z (bg Z Z en270 Z (DX s hl) ?_)))))))
 refine sV (pg Z Z) (sV (vA9 Z) (sN (nK9 [4] Z (nT (cT ?_)))))
 rw [ixO_any]
 exact aj Z ⟨Z,Z⟩ sbq
theorem DY:reserved=[[73,78,84,69,71,69,82],[66,79,79,76,69,65,78],[65,78,89],[78,79,78,69]]:=by decide +kernel
theorem Hl (u:UInt8) (t:Nm):named (u::t)=(!((((decide (((u::t).length:Int)<1) || decide (20<((u::t).length:Int))) || ((u::t).any fun u => !okB u)) || decide ((u.toNat:Int)<65)) || decide (90<(u.toNat:Int))) && !reserved.contains (u::t)):=by
 have h1:((u::t).any fun u => !okB u) = !((u::t).all fun b=>upper b || digit b || b.toNat == 95):=by
  rw [List.any_eq_not_all_not]
  congr 2
  funext x
  simp [okB]
 rw [h1]
 unfold named upper
 rw [Bool.eq_iff_iff]
 simp only [Bool.and_eq_true,Bool.or_eq_true,decide_eq_true_eq,Bool.not_eq_true',Bool.or_eq_false_iff,decide_eq_false_iff_not,Bool.not_eq_false',List.length_cons]
 constructor
 ·rintro ⟨⟨⟨a1,a2⟩,a3⟩,a4⟩
  exact ⟨⟨⟨⟨⟨by omega,by omega⟩,a3⟩,by omega⟩,by omega⟩,a4⟩
 ·rintro ⟨⟨⟨⟨⟨_,a1⟩,a3⟩,a5⟩,a6⟩,a4⟩
  exact ⟨⟨⟨by omega,by omega,by omega⟩,a3⟩,a4⟩
theorem lq (s:Nm):Reads prog 139 #[sv s] [] (.bool (named s)):=by
 cases s with
 | nil =>
  refine aL (n:=31) func139 Z Z (len Z) fun hr w0=>?_
  refine cQ (sV (vA9 Z) (sN (nT (cQ (sV (vA9 Z) (sN (nT (cS (cQ (sM Z (sV (Dv Z underlying9) (sV (aO Z Z) ?_))))))))))))
  refine sM Z (aC Z Z Z ?_)
  iterate 2 refine aC rfl rfl rfl ?_
  refine sV (vQ Z Z) (sM Z (aC Z Z Z ?_))
  iterate 2 refine aC rfl rfl rfl ?_
  refine sV (vQ Z Z) (sM Z (aC Z Z Z ?_))
  iterate 2 refine aC rfl rfl rfl ?_
  refine sV (vQ Z Z) (sM Z (aC Z Z Z ?_))
  iterate 2 refine aC rfl rfl rfl ?_
  refine sV (vQ Z Z) (sN (nK9 [0,2,26] Z (nT (aT Z ?_))))
  refine cQ (sV (vA9 Z) (sN (nK9 [2] Z (nT (cT (xR ?_))))))
  exact aj Z ⟨Z,Z⟩ sbq
 | cons u t =>
  rw [Hl]
  refine aL (n:=31) func139 Z Z (len Z) fun hr w0=>?_
  refine cQ (sV (vA9 Z) (sN (nT (cQ (sV (vA9 Z) (sN (nT (cS (cQ (sM Z (sV (Dv Z underlying9) (sV (aO Z Z) ?_))))))))))))
  refine sM Z (bD (k:=8) (d:=11) (v:=.bool (decide (((u::t).length:Int)<1) || decide (20<((u::t).length:Int)))) (fun hcut=>aM (b:=decide (((u::t).length:Int)<1)) false (fun hg=>?_) (fun hg=>?_)) ?_)
  ·refine aC Z Z hg ?_
   iterate 2 refine aC rfl rfl hg ?_
   refine sV (vQ (bO Z hg) Z) ?_
   exact hcut _ uG
  ·refine sG Z (bG Z hg) (vM Z) (sG Z (bG Z hg) (Dv Z underlying9) (sG Z (bG Z hg) (bZ Z Z) (sV (vP (bO Z hg) Z) ?_)))
   exact hcut _ uG
  refine sM Z (bD (k:=13) (d:=16) (v:=.bool ((decide (((u::t).length:Int)<1) || decide (20<((u::t).length:Int))) || ((u::t).any fun u => !okB u))) (fun hcut=>aM (b:=decide (((u::t).length:Int)<1) || decide (20<((u::t).length:Int))) false (fun hg=>?_) (fun hg=>?_)) ?_)
  ·refine aC Z Z hg ?_
   iterate 2 refine aC rfl rfl hg ?_
   refine sV (vQ (bO Z hg) Z) ?_
   exact hcut _ uG
  ·refine sG Z (bG Z hg) (vM Z) (sG Z (bG Z hg) (vM Z) (bR Z (bG Z hg) Z Z en225 Z (yT (u::t) (by simp only [Bool.or_eq_false_iff,decide_eq_false_iff_not] at hg; omega)) ?_))
   refine sV (vP (bO Z hg) Z) ?_
   exact hcut _ uG
  refine sM Z (bD (k:=18) (d:=21) (v:=.bool (((decide (((u::t).length:Int)<1) || decide (20<((u::t).length:Int))) || ((u::t).any fun u => !okB u)) || decide ((u.toNat:Int)<65))) (fun hcut=>aM (b:=(decide (((u::t).length:Int)<1) || decide (20<((u::t).length:Int))) || ((u::t).any fun u => !okB u)) false (fun hg=>?_) (fun hg=>?_)) ?_)
  ·refine aC Z Z hg ?_
   iterate 2 refine aC rfl rfl hg ?_
   refine sV (vQ (bO Z hg) Z) ?_
   exact hcut _ uG
  ·refine sG Z (bG Z hg) (vM Z) (sG Z (bG Z hg) (uK (k:=0) Z Z underlying9 Z Z) (sG Z (bG Z hg) (aO Z Z) (sV (vP (bO Z hg) Z) ?_)))
   exact hcut _ uG
  refine sM Z (bD (k:=23) (d:=26) (v:=.bool ((((decide (((u::t).length:Int)<1) || decide (20<((u::t).length:Int))) || ((u::t).any fun u => !okB u)) || decide ((u.toNat:Int)<65)) || decide (90<(u.toNat:Int)))) (fun hcut=>aM (b:=((decide (((u::t).length:Int)<1) || decide (20<((u::t).length:Int))) || ((u::t).any fun u => !okB u)) || decide ((u.toNat:Int)<65)) false (fun hg=>?_) (fun hg=>?_)) ?_)
  ·refine aC Z Z hg ?_
   iterate 2 refine aC rfl rfl hg ?_
   refine sV (vQ (bO Z hg) Z) ?_
   exact hcut _ uG
  ·refine sG Z (bG Z hg) (vM Z) (sG Z (bG Z hg) (uK (k:=0) Z Z underlying9 Z Z) (sG Z (bG Z hg) (bZ Z Z) (sV (vP (bO Z hg) Z) ?_)))
   exact hcut _ uG
  refine sN (nK9 [0,2,26] Z (nT (cC Z (fun hx=>?_) (fun hx=>?_))))
  ·refine cQ (sV (vA9 Z) (sN (nK9 [2] Z (nT (cT (xR ?_))))))
   rw [hx]
   exact aj Z ⟨Z,Z⟩ sbq
  ·refine cK9 (xT (cQ ?_))
   rw [hx,DY]
   refine ak (cells:=[sv [73,78,84,69,71,69,82],sv [66,79,79,76,69,65,78],sv [65,78,89],sv [78,79,78,69]]) Z underlying40 fG Z Z (by kernel_rfl) (ltn Z) fun b27=>?_
   refine Af (Ag (b:=b27) (n:=4) (sz:=1) (E:=9) (([[73,78,84,69,71,69,82],[66,79,79,76,69,65,78],[65,78,89],[78,79,78,69]]:List Nm).map nC) Z (by simp [nC]) Z (by decide)) ?_
   simp only [lC,lN]
   refine nM (r:=NR (.slice (some ⟨b27,0,none⟩) 4 4) [[73,78,84,69,71,69,82],[66,79,79,76,69,65,78],[65,78,89],[78,79,78,69]]) slq fun hok=>?_
   refine sM Z (bg Z Z DN Z (fu (iH hok) (u::t) (by decide)) ?_)
   refine sV (bi Z) (sV (vA9 Z) (sN (nK9 [2] Z (nT (cT ?_)))))
   exact aj Z ⟨Z,Z⟩ sbq
end
theorem DZ : ∀ (xs o : List Nm), o.Nodup → (dd o xs).length ≤ o.length + xs.length ∧ ((dd o xs).length < o.length + xs.length ↔ ¬ (o ++ xs).Nodup)
 | [],o,ho=>by simp [dd,ho]
 | x::t,o,ho=>by
  show (dd (step o x) t).length≤_∧((dd (step o x) t).length<_↔_)
  by_cases hx:x∈o
  ·rw [kX hx]
   have:=(DZ t o ho).1
   rw [List.length_cons]
   refine ⟨by omega,fun _ hn=>?_,fun _=>by omega⟩
   exact (List.nodup_append.1 hn).2.2 x hx x (by simp) Z
  ·rw [mZ hx]
   have hn:(o++[x]).Nodup:=List.nodup_append.2 ⟨ho,by simp,fun a ha b hb e=>by simp at hb; exact hx (hb ▸ e ▸ ha)⟩
   have:=DZ t (o++[x]) hn
   rw [List.length_append,List.length_singleton,List.append_assoc] at this
   rw [List.length_cons]
   simp only [lC,lN] at this
   rw [show o.length+(t.length+1)=o.length+1+t.length by omega]
   exact this
def twM (xs:List Nm):List (Nm×Unit):=xs.foldl (fun F x=>fP F x ()) []
theorem tw_keys (xs:List Nm):(twM xs).map (·.1)=dd [] xs:=by
 have key:∀ (xs:List Nm) (F:List (Nm×Unit)),(xs.foldl (fun F x=>fP F x ()) F).map (·.1)=dd (F.map (·.1)) xs:=by
  intro xs
  induction xs with
  | nil=>intro F; rfl
  | cons x t ih =>
   intro F
   rw [List.foldl_cons,ih]
   show dd _ t=dd (step _ x) t
   congr 1
   cases h:dQ F x with
   | none=>rw [EF h,mZ (zD.1 h),List.map_append]; rfl
   | some u=>rw [BI h,kX (Kw h)]
 exact key xs []
theorem tw_less (xs:List Nm):decide (((twM xs).length:Int)<xs.length) = !decide xs.Nodup:=by
 have h1:(twM xs).length=(dd [] xs).length:=by rw [← tw_keys,List.length_map]
 have h2:=DZ xs [] List.nodup_nil
 rw [h1]
 simp only [List.length_nil,Nat.zero_add,List.nil_append] at h2
 rw [Bool.eq_iff_iff,decide_eq_true_eq,Bool.not_eq_true',decide_eq_false_iff_not,← h2.2]
 omega
theorem tw_take {xs:List Nm} {i:Nat} (h:i<xs.length):twM (xs.take (i+1))=fP (twM (xs.take i)) xs[i] ():=by
 unfold twM
 rw [List.take_succ_eq_append_getElem h,List.foldl_append]; rfl
def tV (_:Unit):Value:=.bool true
theorem mvG_len {α : Type} (g : α → Value) (F:List (Nm × α)):(mvG g F).length=F.length:=by simp [mvG]
section
variable {S:Res} {v:Value}
theorem M8 (p:Nm) (a b c d e:Value) (h1:[sv p,a,b,c,d,e].all Value.oneCell'=true):Reads prog 141 #[.agg #[sv p,a,b,c,d,e]] [] (sv p):=by
 refine aL (n:=5) func141 Z Z (len Z) fun hr w0=>?_
 refine cQ (aV Z Z fun b1=>?_)
 refine sV (vA9 Z) (sN (nK9 [1,2] Z (nT (cQ (sV (vF Z gH Z) (sV (vY Z ld9) ?_))))))
 refine sV (vA9 Z) (sN (nK9 [2] Z (nT (cT ?_))))
 exact aj Z ⟨Z,Z⟩ sbq
theorem KG {ps:List Nm} (hP:Row S 6 parC v ps) (hl:ps.length≤1099511627776):Reads prog 140 #[v,.func (.func 141) #[] #[]] [S] (.bool (!decide ps.Nodup)):=by
 obtain ⟨a,cap,rfl,_⟩:=id hP
 refine aL (n:=25) func140 Z Z (len Z) fun hr w0=>?_
 refine cQ (sV (vA9 Z) (sN (nT (cQ (eu (ltn Z) fun b8=>?_)))))
 refine sV (vA9 Z) (sN (nK9 [0,1,4,5] Z (nT (cS (cQ (sM Z (sV (aF Z underlying39) (sM Z (sN (nT (cB ?_)))))))))))
 rw [show ([]:List (Bs×Value))=mvG tV (twM (ps.take 0)) from rfl]
 refine aZ (σ := Nat) (fun i=>[(0,.slice a ps.length cap),(1,.func (.func 141) #[] #[]),(5,.map (some b8)),(9,.slice a ps.length cap),(10,.int .i64 ps.length),(11,.int .i64 (i:Nat))]) (fun i=>mps b8 (mvG tV (twM (ps.take i)))::S::hr) (fun i=>i≤ps.length) (fun i=>ps.length - i) 0 (Nat.zero_le _) ?_
 intro i hi
 refine cQ (sV (aO Z Z) (sN (nT (cS (cC Z (fun hd=>?_) (fun hd=>?_))))))
 ·have hlt:i<ps.length:=by simpa using hd
  obtain ⟨b,o,cap2,c1,c2,c3,c4,c5,hv2,hrd,hone⟩:=Hg hP (List.getElem?_eq_getElem hlt)
  refine cK9 (xT (cS (cB (cQ (sV (vI (k:=i) (congrArg some hv2) Z oF Z hlt Z) (sV (ag Z p8 Z hrd) ?_))))))
  refine au uW fun b7=>?_
  refine ai Z Z rM Z hone ?_
  refine sN (nK9 [0,1,5,7,9,10,11] Z (nT (cR (sM Z (sM Z (sV (ag Z p8 Z af) ?_))))))
  refine bg Z Z en141 Z (M8 ps[i] c1 c2 c3 c4 c5 hone) ?_
  refine cu Z Z Z yu slq ?_
  refine sN (nK9 [0,1,5,9,10,11] Z (ax (xB (xT (cR (sV (aI Z Z (by unfold I64 at *; omega)) (sM Z (sN (nK9 [0,1,5,9,10,11] Z (ax ?_))))))))))
  rw [show dZ (mvG tV (twM (ps.take i))) ps[i] (.bool true)=mvG tV (twM (ps.take (i+1))) by rw [tw_take hlt]; exact nR tV _ _ ()]
  refine aJ (i+1) hlt (by show _ - _<_ - _; omega)
 ·have hil:i=ps.length:=by
   have:¬ i<ps.length:=by simpa using hd
   omega
  subst hil
  rw [List.take_length]
  refine aB (xE (xE (xY (xT (cQ (sM Z (sV (v_mlen Z underlying265 slq) ?_)))))))
  refine sM Z (sV (aF Z underlying39) (sV (aO Z Z) (sV (vA9 Z) (sN (nK9 [4] Z (nT (cT ?_)))))))
  rw [mvG_len,tw_less]
  exact aj Z ⟨Z,Z⟩ sbq
end
end Go.Hr
