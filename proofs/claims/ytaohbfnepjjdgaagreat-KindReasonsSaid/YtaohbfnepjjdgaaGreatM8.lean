/-
  Package heir: above,has; Go's library: Index,Contains. Conditions: what is read,a system without rings.
  Package heir: far. Conditions: what is read.
  Go's library: Min,Compare,Or on names. Conditions: what is read.
  Package heir: shortest. Conditions: what is read.
  Package heir and the specification: named. No condition.
  Package heir: twice. Conditions: what is read.
-/
import Derived.Test.YtaohbfnepjjdgaaGreatM7
import Derived.Test.YtaohbfnepjjdgaaGreatM1
import Derived.Test.YtaohbfnepjjdgaaGreatM4
set_option linter.unusedVariables false
set_option linter.unusedSimpArgs false
namespace Go.Hr
open Go Go.Ck Go.Proofs Go.Proofs.YtaohbfnepjjdgaaGreat Fx
attribute [local irreducible] Go.Ck.Sub St Cd Xt Nx DrL LsW
structure Fine (l:Sys):Prop where
 len:l.length≤900000
 few:∀ x∈l,x.parents.length≤1099511627776
theorem Right.fine {l:Sys} (h:Right l):Fine l:=⟨by have:=h.len; omega,fun x hx=>by have:=h.few x hx; omega⟩
section
variable {S:Res} {v:Value} {l:Sys}
set_option maxRecDepth 100000 in
theorem above_ct {mb:Nat} (hv:sysR S v l) (hF:Fine l) (ha:Acyc l) {c:Nm} (hc:isC l c=true):Ct Tryz.prog 150 #[.agg #[v,.map (some mb)],sv c] [S,mps mb (kindsM l)] fun u h'=>u.oneCell'=true∧h'=[NR u (above l c),S,mps mb (kindsM l)]:=by
 obtain ⟨a,cap,rfl,_⟩:=id hv
 refine ct_of (n:=14) Tryz.func150 Z Z (len Z) fun hr w0=>?_
 refine cd_vw (vw_nil 9 1) (cQ (st_bx Z Z fun b2=>?_))
 refine sA Z (sK [1,2,4] Z (cQ (st_smakeMap (ltn Z) fun b8=>?_)))
 refine st_alc al163 fun b5=>?_
 refine st_sto Z Z sz163 ?_
 refine sK [1,2,4,5] Z (cQ (st_alc al50 fun b6=>?_))
 refine sN (nT (cQ (st_alc al217 fun b7=>?_)))
 refine sN (nT (cQ (sV (v_makeFunc Z Z) (st_sto Z Z sz217 ?_))))
 refine sK [1,4,6,7] Z (cQ (sV (vY Z ld217) ?_))
 refine sM rfl (st_cl rfl rfl en171 rfl (visit_ct (b5:=b5) (b2:=b2) (b7:=b7) (b6:=b6) (mb:=mb) (mc:=b8) hv hF.few (Nat.le_trans hF.len (by decide)) ha (l.length+1) c [] (.slice none 0 0) [] [] (rk_fuel l c) hc rfl .nil (fun x hx=>by cases hx) (fun x=>rfl) (fun g hg=>by cases hg)) ?_)
 rintro u h' ⟨m',w',rfl,hw,hm,rfl⟩
 unfold visS
 simp only [lC,lN]
 refine sK [4,6] Z (cQ (sV (vY Z ld50) ?_))
 refine sA Z (sK [4] Z (cT ?_))
 exact xt_rt Z ⟨hw,Z⟩ sbq
def ixS (xs:List Nm) (c:Nm):Int:=match xs.findIdx? (· == c) with | some i=>i | none => -1
theorem ixS_has (xs : List Nm) (c : Nm) : decide (0 ≤ ixS xs c) = xs.contains c := by
 unfold ixS
 cases h:xs.findIdx? (· == c) with
 | none =>
  rw [List.findIdx?_eq_none_iff] at h
  cases hc:xs.contains c with
  | false=>rfl
  | true =>
   rw [List.contains_iff_mem] at hc
   have:=h c hc
   simp at this
 | some i =>
  show decide (0≤(i:Int))=_
  obtain ⟨hi,h1,_⟩:=List.findIdx?_eq_some_iff_getElem.1 h
  have h1:xs[i]=c:=by simpa using h1
  rw [show xs.contains c=true by rw [List.contains_iff_mem,← h1]; exact List.getElem_mem hi]
  exact decide_eq_true (by omega)
set_option maxRecDepth 100000 in
theorem Index_ct {xs : List Nm} (hv : nmsR S v xs) (c : Nm) (hl : xs.length ≤ 1099511627776) : Reads Tryz.prog 154 #[v, sv c] [S] (.int .i64 (ixS xs c)) := by
 obtain ⟨a,cap,rfl,_⟩:=id hv
 refine ct_of (n:=19) Tryz.func154 Z Z (len Z) fun hr w0=>?_
 refine cQ (sA Z (sN (nT (cS (cQ (sM Z (sV (v_len Z Tryz.underlying50) (sM Z (sK [0,1,4,7,8] Z (cB (cd_lq (σ := Nat) (fun i=>[(0,.slice a xs.length cap),(1,sv c),(7,.int .i64 xs.length),(8,.int .i64 (i:Nat))]) (fun _=>S::hr) (fun i=>i≤xs.length∧∀ (j:Nat) (y:Nm),j<i→xs[j]? = some y→y≠c) (fun i=>xs.length - i) 0 ⟨Nat.zero_le _,fun j y hj=>by omega⟩ ?_)))))))))))
 rintro i ⟨hi,hne⟩
 refine cQ (sV (v_lss Z Z) (sN (nT (cS (cC Z (fun hd=>?_) (fun hd=>?_))))))
 ·have hlt:i<xs.length:=by simpa using hd
  obtain ⟨b,o,cap2,hv2,hrd⟩:=nms_at hv (List.getElem?_eq_getElem hlt)
  refine cK (xT (cS (cB (cQ (sM Z (sA Z (sK [0,1,5,7,8] Z (cQ (sM Z (sM Z (sM Z ?_)))))))))))
  refine sV (vI (k:=i) (congrArg some hv2) Z sl50 Z hlt Z) (sV (vY Z ld9) ?_)
  refine sV (v_seql Z Z) (sK [0,1,5,7,8,16] Z (cC Z (fun he=>?_) (fun he=>?_)))
  ·have he:xs[i]=c:=by
    have:c=xs[i]:=by simpa using he
    exact this.symm
   refine cQ (sM Z (sA Z (sK [4] Z (cT (xW (xR (xR (xW (xR ?_)))))))))
   rw [show ixS xs c=(i:Int) by
    unfold ixS
    rw [show xs.findIdx? (· == c)=some i from List.findIdx?_eq_some_iff_getElem.2 ⟨hlt,by simp [he],fun j hj=>by simpa using hne j _ hj (List.getElem?_eq_getElem (Nat.lt_trans hj hlt))⟩]]
   exact xt_rt Z ⟨Z,Z⟩ sbq
  ·have he:xs[i]≠c:=fun h=>by rw [h] at he; simp at he
   refine cK (xB (xT (cR (sV (v_add Z Z (by unfold I64 at *; omega)) (sM Z (sN (nK [0,1,7,8] Z (nx_xt (xt_aq (i+1) ⟨hlt,fun j y hj hy=>?_⟩ (by show _ - _<_ - _; omega))))))))))
   by_cases hji:j=i
   ·subst hji; rw [List.getElem?_eq_getElem hlt] at hy; cases hy; exact he
   ·exact hne j y (by omega) hy
 ·refine cd_exit (xE (xE (xY (xT (cQ (sA Z (sK [4] Z (cT ?_))))))))
  have hil:i=xs.length:=by
   have:¬ i<xs.length:=by simpa using hd
   omega
  rw [show ixS xs c = -1 by
   unfold ixS
   rw [show xs.findIdx? (· == c)=none from List.findIdx?_eq_none_iff.2 fun x hx=>by
    obtain ⟨j,hj,rfl⟩:=List.getElem_of_mem hx
    simpa using hne j _ (by omega) (List.getElem?_eq_getElem hj)]]
  exact xt_rt Z ⟨Z,Z⟩ sbq
set_option maxRecDepth 100000 in
theorem Contains_ct {xs:List Nm} (hv:nmsR S v xs) (c:Nm) (hl:xs.length≤1099511627776):Reads Tryz.prog 123 #[v,sv c] [S] (.bool (xs.contains c)):=by
 refine ct_of (n:=9) Tryz.func123 Z Z (len Z) fun hr w0=>?_
 refine cQ (sA Z (sN (nT (cQ (sM Z (sM Z (st_clr Z Z en154 Z (Index_ct hv c hl) ?_)))))))
 refine sV (v_geq Z Z) (sA Z (sK [4] Z (cT ?_)))
 rw [ixS_has]
 exact xt_rt Z ⟨Z,Z⟩ sbq
theorem above_len (ha:Acyc l) {c:Nm} (hc:isC l c=true):(above l c).length≤l.length:=by
 obtain ⟨h1,h2⟩:=above_spec ha c
 have:=length_le_of_nodup (b:=nms l) h1.nodup fun x hx=>isC_iff.1 (has_isC hc ((h2 x).1 hx))
 simpa [nms] using this
theorem above_has (ha:Acyc l) (c a:Nm):(above l c).contains a=has l c a:=by
 rw [Bool.eq_iff_iff,List.contains_iff_mem]
 exact (above_spec ha c).2 a
set_option maxRecDepth 100000 in
theorem has_ct {mb:Nat} (hv:sysR S v l) (hF:Fine l) (ha:Acyc l) {c:Nm} (hc:isC l c=true) (x:Nm):Ct Tryz.prog 178 #[.agg #[v,.map (some mb)],sv c,sv x] [S,mps mb (kindsM l)] fun u h'=>u = .bool (has l c x)∧h'=[S,mps mb (kindsM l)]:=by
 obtain ⟨a,cap,rfl,_⟩:=id hv
 have hlen:=above_len ha hc
 have hFl:=hF.len
 refine ct_of (n:=12) Tryz.func178 Z Z (len Z) fun hr w0=>?_
 refine cQ (st_bx Z Z fun b3=>?_)
 refine sA Z (sK [1,2,3,6] Z (cQ (sV (v_ldn Z ld165 Z rds_pt) ?_)))
 refine sM Z (st_cl Z Z en150 Z (above_ct hv hF ha hc) ?_)
 rintro u h' ⟨hu,rfl⟩
 simp only [lC,lN]
 refine st_ok (r:=NR u (above l c)) slq fun hok=>?_
 refine sM Z (st_clr Z Z en123 Z (Contains_ct (nms_own hok) x (by omega)) ?_)
 refine sA Z (sK [6] Z (cT ?_))
 rw [above_has ha]
 exact xt_rt Z ⟨Z,Z⟩ sbq
end
end Go.Hr
namespace Go.Hr
open Go Go.Ck Go.Proofs Go.Proofs.YtaohbfnepjjdgaaGreat Fx
attribute [local irreducible] Go.Ck.Sub St Cd Xt Nx DrL LsW
section
variable {α : Type} (g : α → Value)
def mvG (F:List (Nm × α)):List (Bs×Value):=F.map fun p=>(p.1,g p.2)
theorem slook_mvG (F : List (Nm × α)) (k : Nm) : slook (mvG g F) k = (alook F k).map g := by
 induction F with
 | nil=>rfl
 | cons p t ih =>
  rw [alook_cons]
  unfold mvG slook at ih ⊢
  rw [List.map_cons,List.find?_cons]
  by_cases h:p.1=k
  ·simp [h]
  ·have:(p.1 == k)=false:=by simp [h]
   simp only [this,if_neg h]
   exact ih
theorem supd_mvG (F:List (Nm × α)) (k:Nm) (x : α):supd (mvG g F) k (g x)=mvG g (aupd F k x):=by
 induction F with
 | nil=>rfl
 | cons p t ih =>
  unfold mvG at ih ⊢
  rw [List.map_cons]
  unfold supd aupd
  by_cases h:p.1=k
  ·simp [h]
  ·rw [if_neg h,if_neg h,ih]; rfl
end
def nV (n:Nat):Value:=.int .i64 ((n:Int)+1)
section
variable {S:Res} {v:Value} {l:Sys}
set_option maxHeartbeats 2000000 in
set_option maxRecDepth 100000 in
theorem far_ct {mb : Nat} (hv : sysR S v l) (hF : Fine l) (to : Nm) : Ct Tryz.prog 167 #[.agg #[v, .map (some mb)], sv to] [S, mps mb (kindsM l)] fun u h' => ∃ mf F, u = .map (some mf) ∧ h' = [mps mf (mvG nV F), S, mps mb (kindsM l)] ∧ ∀ x, alook F x = dist l to x := by
 obtain ⟨a,cap,rfl,_⟩:=id hv
 have hFl:=hF.len
 refine ct_ofM (n:=62) Tryz.func167 Z Z (len Z) fun hr w0=>?_
 refine cQ (st_bx Z Z fun b2=>?_)
 refine sA Z (sK [1,2,4] Z (cQ (st_smakeMap (ltn Z) fun b14=>?_)))
 refine sM Z (st_sinsert Z Z Z mp163 slq ?_)
 refine sM Z (st_alc al163 fun b5=>?_)
 refine st_sto Z Z sz163 ?_
 refine sK [2,4,5] Z (cS (cQ (st_alc al4 fun b6=>?_)))
 refine st_sto Z Z sz4 ?_
 refine sN (nT (cB ?_))
 rw [show supd [] to (Value.int .i64 1)=mvG nV [(to,0)] from rfl]
 refine cd_marks0 (cd_loopD (σ := List (Nm×Nat)×Bool×Nat×List Nat) (fun q=>q.2.2.2.map mk) (fun q=>[(2,.pointer (some ⟨b2,0,none⟩)),(5,.pointer (some ⟨b5,0,none⟩)),(6,.pointer (some ⟨q.2.2.1,0,none⟩))]) (fun q=>Res.star (marks q.2.2.2)::pt q.2.2.1 (cl [.bool q.2.1] 4)::pt b5 (cl [.map (some b14)] 163)::mps b14 (mvG nV q.1)::pt b2 (cl [.slice a l.length cap,.map (some mb)] 165)::S::mps mb (kindsM l)::hr) (fun q=>FarI l to q.1∧(q.2.1=false→∀ c p,p∈par l c→Rel q.1 c p)) (fun q=>if q.2.1 then pot l q.1+1 else 0) ([(to,0)],true,b6,[]) ⟨FarI.init l to,fun h=>by cases h⟩ rfl ⟨rfl,rfl,rfl,trivial⟩ sbq ?_)
 rintro ⟨F0,fl0,b60,bs⟩ ⟨hI0,hdone⟩
 simp only at hI0 hdone
 dsimp only
 refine cS (cQ (sV (vY Z ld4) ?_))
 refine sN (nT (cC Z (fun hf=>?_) (fun hf=>?_)))
 ·refine cK (xT (cS (cB (cQ (st_sto Z Z sz4 ?_)))))
  refine sK [2,5,6] Z (cQ (sV (vF Z fa165_0 Z) (sV (vY Z ld22) ?_)))
  refine sV (v_len rfl Tryz.underlying22) (sM rfl (sK [2,5,6,19,20,21] rfl (cB (cd_loopD (σ := Nat×List (Nm×Nat)×Bool×List Nat) (fun q=>q.2.2.2.map mk) (fun q=>[(2,.pointer (some ⟨b2,0,none⟩)),(5,.pointer (some ⟨b5,0,none⟩)),(6,.pointer (some ⟨b60,0,none⟩)),(19,.slice a l.length cap),(20,.int .i64 l.length),(21,.int .i64 (q.1:Nat))]) (fun q=>Res.star (marks q.2.2.2)::pt b60 (cl [.bool q.2.2.1] 4)::pt b5 (cl [.map (some b14)] 163)::mps b14 (mvG nV q.2.1)::pt b2 (cl [.slice a l.length cap,.map (some mb)] 165)::S::mps mb (kindsM l)::hr) (fun q=>q.1≤l.length∧FarI l to q.2.1∧(q.2.2.1=true→pot l q.2.1<pot l F0)∧(q.2.2.1=false→q.2.1=F0∧∀ (j:Nat) (y:Cls),j<q.1→l[j]? = some y→∀ p∈par l y.name,Rel F0 y.name p)) (fun q=>l.length - q.1) (0,F0,false,bs) ⟨Nat.zero_le _,hI0,fun h=>(by cases h),fun _=>⟨rfl,fun j y hj=>by omega⟩⟩ rfl ⟨rfl,rfl,rfl,rfl,rfl,rfl,trivial⟩ sbq ?_))))
  rintro ⟨i,F,fl,bs2⟩ ⟨hi,hI,hpot,hsame⟩
  simp only at hi hI hpot hsame
  dsimp only
  refine cQ (sV (v_lss Z Z) (sN (nT (cS (cC Z (fun hd=>?_) (fun hd=>?_))))))
  ·have hlt:i<l.length:=by simpa using hd
   obtain ⟨b,o,cap2,d,f,pa,pc,c2,fa,fc,j2,hv2,hrd,hP,hone⟩:=sys_at hv (List.getElem?_eq_getElem hlt)
   have hname:(l[i]).name=(l[i]).name:=rfl
   generalize hcn:(l[i]).name=cn at *
   refine cK (xT (cS (cB (cQ (sV (vI (k:=i) (congrArg some hv2) Z sl22 Z hlt Z) (sV (v_ldn Z ld54 Z hrd) ?_))))))
   refine st_alc al54 fun b8=>?_
   refine st_stoW Z Z sz54 Z hone ?_
   refine sK [2,5,6,8,19,20,21] Z (cQ (sV (v_ldn Z ld165 Z rds_pt) ?_))
   refine sV (vF Z fa54_0 Z) (sV (vY Z ld9) ?_)
   refine st_cl Z Z en125 Z (parents0_ct Z) ?_
   rintro u h' ⟨n1,n2,rfl,rfl⟩
   refine sK [2,5,6,8,19,20,21,28] Z (cB ?_)
   simp only [lC,lN]
   unfold seqv
   refine cd_range' Z en156 fun yl db rec hst hpe hps hasg hbo hkn2=>?_
   refine ⟨_,Ct.perm (it_ct (σ := List (Nm×Nat)×Bool) (b1:=n1) (b2:=n2) (mb:=mb) (yl:=yl) (c:=cn) (fun q=>pt yl (.loop rec)::pt db (.deferred (some []))::pt b8 (cl [sv cn,d,f,.slice pa l[i].parents.length pc,c2,.slice fa l[i].feats fc,j2] 54)::Res.star (marks bs2)::pt b60 (cl [.bool q.2] 4)::pt b5 (cl [.map (some b14)] 163)::mps b14 (mvG nV q.1)::pt b2 (cl [.slice a l.length cap,.map (some mb)] 165)::hr)
    (fun k q=>FarI l to q.1∧(q.2=true→pot l q.1<pot l F0)∧(q.2=false→q.1=F0∧(∀ (j:Nat) (y:Cls),j<i→l[j]? = some y→∀ p∈par l y.name,Rel F0 y.name p)∧∀ p∈(par l cn).take k,Rel F0 cn p)) (fun _ _=>False) (F,fl) ⟨hI,hpot,fun h=>⟨(hsame h).1,(hsame h).2,fun p hp=>by simp at hp⟩⟩ hv hF.few ?_) ?_,?_⟩
   ·rintro k ⟨F2, fl2⟩ p hk ⟨hI2, hpot2, hsame2⟩
    simp only at hI2 hpot2 hsame2
    have hpm:=List.mem_of_getElem? hk
    have htk:∀ q,q∈(par l cn).take (k+1)→q∈(par l cn).take k∨q=p:=fun q hq=>by
     obtain ⟨hkl,hke⟩:=List.getElem?_eq_some_iff.1 hk
     rw [List.take_succ_eq_append_getElem hkl,hke] at hq
     simpa using hq
    refine Yc.perm (yc_of (n:=62) (rec:=rec) (args:=[sv p]) (hf:=pt db (.deferred (some []))::pt b8 (cl [sv cn,d,f,.slice pa l[i].parents.length pc,c2,.slice fa l[i].feats fc,j2] 54)::Res.star (marks bs2)::pt b60 (cl [.bool fl2] 4)::pt b5 (cl [.map (some b14)] 163)::mps b14 (mvG nV F2)::pt b2 (cl [.slice a l.length cap,.map (some mb)] 165)::S::mps mb (kindsM l)::hr) (by rw [hps]; rfl) hkn2 (by rw [hps]; decide) ?_) (by exact (by repeat (first | exact Pm.refl | refine Pm.cons slq ?_):Pm _ _).perm)
    intro hr2 w1
    rw [hasg,hps,hbo]
    simp only [lC,lN]
    refine cR (sA Z (sN (nK [5,6,8,9] Z (nx_xt (xt_mid Z slq (by first | rfl | assumption) ?_)))))
    refine cB (cQ (sV (vY Z ld163) ?_))
    refine sM Z ?_
    cases hp1:alook F2 p
    ·refine sV (v_is (show Value.tuple #[(slook (mvG nV F2) p).getD (.int .i64 0),.bool (slook (mvG nV F2) p).isSome] = .tuple #[.int .i64 0,.bool false] by rw [slook_mvG,hp1]; rfl) (v_slookup_ok Z Z mp163 inf3 slq)) ?_
     refine sM Z (sV (v_extract Z Z) (sV (v_extract Z Z) (sA Z (sA Z (sK [5,6,8,10,11] Z (cQ (sV (vY Z ld163) ?_)))))))
     refine sV (vF Z fa54_0 Z) (sV (vY Z ld9) ?_)
     refine sV (v_slookup_ok Z Z mp163 inf3 slq) ?_
     refine sM Z (sV (v_extract Z Z) (sV (v_extract Z Z) (sA Z (sA Z (sK [5,6,8,10,11,12,13] Z (cQ (sM Z (sM Z (st_sk Z Z Z ?_)))))))))
     iterate 2 refine st_sk rfl rfl rfl ?_
     refine st_sku Z Z ?_
     refine st_sku Z Z ?_
     refine st_sku Z Z ?_
     refine st_sku Z Z ?_
     refine st_sk Z Z Z ?_
     refine sV (vP Z Z) (sK [5,6,8,10,53] Z (cd_false Z ?_))
     refine cK (xB (xt_round slq (.inl ⟨Z,(F2,fl2),⟨hI2,hpot2,fun h=>⟨(hsame2 h).1,(hsame2 h).2.1,fun q hq=>?_⟩⟩,Z⟩) ?_))
     ·obtain ⟨he,_,h3⟩:=hsame2 h
      rcases htk q hq with hq | rfl
      ·exact h3 q hq
      ·intro n hn
       rw [← he,hp1] at hn; cases hn
     ·rw [rec_back hst hpe]
      exact sbr
    ·rename_i n
     have hn1:=hI2.walk p n hp1
     have hn2:=hI2.len
     refine sV (v_is (show Value.tuple #[(slook (mvG nV F2) p).getD (.int .i64 0),.bool (slook (mvG nV F2) p).isSome] = .tuple #[.int .i64 ((n:Int)+1),.bool true] by rw [slook_mvG,hp1]; rfl) (v_slookup_ok Z Z mp163 inf3 slq)) ?_
     refine sM Z (sV (v_extract Z Z) (sV (v_extract Z Z) (sA Z (sA Z (sK [5,6,8,10,11] Z (cQ (sV (vY Z ld163) ?_)))))))
     refine sV (vF Z fa54_0 Z) (sV (vY Z ld9) ?_)
     cases hc1:alook F2 cn
     ·refine sV (v_is (show Value.tuple #[(slook (mvG nV F2) cn).getD (.int .i64 0),.bool (slook (mvG nV F2) cn).isSome] = .tuple #[.int .i64 0,.bool false] by rw [slook_mvG,hc1]; rfl) (v_slookup_ok Z Z mp163 inf3 slq)) ?_
      refine sM Z (sV (v_extract Z Z) (sV (v_extract Z Z) (sA Z (sA Z (sK [5,6,8,10,11,12,13] Z (cQ (sM Z (sM Z (sG Z Z (vM Z) (sG Z Z (v_not Z) (sG Z Z (vM Z) (st_sk Z Z Z ?_))))))))))))
      iterate 3 refine st_sk rfl rfl rfl ?_
      refine sG Z Z (vQ Z Z) (sV (vQ Z Z) (sK [5,6,8,10,53] Z (cd_true Z ?_)))
      refine cR (sV (vY Z ld163) ?_)
      refine sV (vF Z fa54_0 Z) (sV (vY Z ld9) ?_)
      refine sM Z (sV (v_add Z Z (by unfold I64 at *; omega)) (st_smapUpdate Z Z Z mp163 slq ?_))
      refine st_sto Z Z sz4 ?_
      refine sN (nK [] Z (nx_xt (xB ?_)))
      rw [show supd (mvG nV F2) cn (.int .i64 ((n:Int)+1+1))=mvG nV (aupd F2 cn (n+1)) from supd_mvG nV F2 cn (n+1)]
      obtain ⟨hI3,hpot3⟩:=hI2.better hpm hp1 (fun n' h=>by rw [hc1] at h; cases h)
      refine xt_round slq (.inl ⟨rfl,(aupd F2 cn (n+1),true),⟨hI3,fun _=>?_,fun h=>by cases h⟩,rfl⟩) ?_
      ·show pot l (aupd F2 cn (n+1))<pot l F0
       cases hfl:fl2 with
       | true=>have:=hpot2 hfl; omega
       | false=>exact Nat.lt_of_lt_of_eq hpot3 (congrArg (pot l) (hsame2 hfl).1)
      ·rw [rec_back hst hpe]
       exact sbr
     ·rename_i n'
      have hn3:=hI2.walk cn n' hc1
      refine sV (v_is (show Value.tuple #[(slook (mvG nV F2) cn).getD (.int .i64 0),.bool (slook (mvG nV F2) cn).isSome] = .tuple #[.int .i64 ((n':Int)+1),.bool true] by rw [slook_mvG,hc1]; rfl) (v_slookup_ok Z Z mp163 inf3 slq)) ?_
      refine sM Z (sV (v_extract Z Z) (sV (v_extract Z Z) (sA Z (sA Z (sK [5,6,8,10,11,12,13] Z (cQ (sM Z (sM Z (sG Z Z (vM Z) (sG Z Z (v_not Z) (sG Z Z (vM Z) (sG Z Z (vM Z) ?_))))))))))))
      refine sG Z Z (vM Z) (sG Z Z (v_add Z Z (by unfold I64 at *; omega)) (sG Z Z (v_gtr Z Z) (sG Z Z (vP Z Z) (sV (vQ Z Z) (sK [5,6,8,10,53] Z (cC Z (fun hb=>?_) (fun hb=>?_)))))))
      ·have hb:n+1<n':=by
        have:(n:Int)+1+1<(n':Int)+1:=by simpa using hb
        omega
       refine cR (sV (vY Z ld163) ?_)
       refine sV (vF Z fa54_0 Z) (sV (vY Z ld9) ?_)
       refine sM Z (sV (v_add Z Z (by unfold I64 at *; omega)) (st_smapUpdate Z Z Z mp163 slq ?_))
       refine st_sto Z Z sz4 ?_
       refine sN (nK [] Z (nx_xt (xB ?_)))
       rw [show supd (mvG nV F2) cn (.int .i64 ((n:Int)+1+1))=mvG nV (aupd F2 cn (n+1)) from supd_mvG nV F2 cn (n+1)]
       obtain ⟨hI3,hpot3⟩:=hI2.better hpm hp1 (fun m h=>by rw [hc1] at h; cases h; exact hb)
       refine xt_round slq (.inl ⟨rfl,(aupd F2 cn (n+1),true),⟨hI3,fun _=>?_,fun h=>by cases h⟩,rfl⟩) ?_
       ·show pot l (aupd F2 cn (n+1))<pot l F0
        cases hfl:fl2 with
        | true=>have:=hpot2 hfl; omega
        | false=>exact Nat.lt_of_lt_of_eq hpot3 (congrArg (pot l) (hsame2 hfl).1)
       ·rw [rec_back hst hpe]
        exact sbr
      ·have hb:n'≤n+1:=by
        have:¬ (n:Int)+1+1<(n':Int)+1:=by simpa using hb
        omega
       refine cK (xB (xt_round slq (.inl ⟨Z,(F2,fl2),⟨hI2,hpot2,fun h=>⟨(hsame2 h).1,(hsame2 h).2.1,fun q hq=>?_⟩⟩,Z⟩) ?_))
       ·obtain ⟨he,_,h3⟩:=hsame2 h
        rcases htk q hq with hq | rfl
        ·exact h3 q hq
        ·intro m hm
         rw [← he,hp1] at hm
         cases hm
         exact ⟨n',by rw [← he]; exact hc1,hb⟩
       ·rw [rec_back hst hpe]
        exact sbr
   ·exact (by repeat (first | exact Pm.refl | refine Pm.cons slq ?_):Pm _ _).perm
   ·rintro u h' ⟨rfl, (⟨⟨F2, fl2⟩, ⟨hI2, hpot2, hsame2⟩, rfl⟩ | ⟨_, _, hfalse, _⟩)⟩
    ·simp only at hI2 hpot2 hsame2
     rw [List.take_length] at hsame2
     refine ⟨rec,_,slq,(by rw [hst]; simp),?_⟩
     rw [hpe]
     dsimp only
     refine xB (xB (xT (cR (sV (v_add Z Z (by unfold I64 at *; omega)) (sM Z (sN (nK [2,5,6,19,20,21] Z (nx_xt (xt_mark slq slq ?_)))))))))
     refine xt_againD (i+1,F2,fl2,db::bs2) ⟨hlt,hI2,hpot2,fun h=>⟨(hsame2 h).1,fun j y hj hy=>?_⟩⟩ (by show _ - _<_ - _; omega) Z ⟨Z,Z,Z,Z,Z,Z,trivial⟩ sbq
     obtain ⟨_,h2,h3⟩:=hsame2 h
     by_cases hji:j=i
     ·subst hji
      rw [List.getElem?_eq_getElem hlt] at hy; cases hy
      rw [hcn]; exact h3
     ·exact h2 j y (by omega) hy
    ·exact hfalse.elim
  ·have hil:i=l.length:=by
    have:¬ i<l.length:=by simpa using hd
    omega
   subst hil
   refine cd_exit (xE (xE (xY (xB (xT (cQ (sV (vY Z ld4) ?_)))))))
   refine sK [2,5,6,60] Z (cR (st_alc al4 fun b6=>?_))
   refine st_sto Z Z sz4 ?_
   refine sN (nK [2,5,6] Z (nx_xt ?_))
   refine xt_againD (F,fl,b6,bs2) ⟨hI,fun h c p hp=>?_⟩ (by
    show (if fl=true then pot l F+1 else 0)<(if fl0=true then pot l F0+1 else 0)
    rw [if_pos hf]
    split
    ·rename_i h; have:=hpot h; omega
    ·omega) rfl ⟨rfl,rfl,rfl,trivial⟩ sbq
   obtain ⟨rfl,h2⟩:=hsame h
   have hc:=par_of hp
   obtain ⟨j,hj⟩:∃ j,idx l c=some j:=by
    cases hh:idx l c with
    | some j=>exact ⟨j,rfl⟩
    | none=>unfold isC at hc; rw [idx_find.2 hh] at hc; cases hc
   obtain ⟨x,hx,hfx⟩:=idx_find.1 j hj
   have hn:=(find_name hfx).1
   have:=h2 j x (List.getElem?_eq_some_iff.1 hx).1 hx p (by rw [hn]; exact hp)
   rwa [hn] at this
 ·have hf2:fl0=false:=by simpa using hf
  refine cd_exit (xE (xE (xY (xT (cQ (sV (vY Z ld163) ?_))))))
  refine sA Z (sK [4] Z (cT (xt_retS (bs:=bs) Z Z ⟨b14,F0,Z,Z,hI0.done (hdone hf2)⟩ sbq)))
end
end Go.Hr
namespace Go.Hr
open Go Go.Ck Go.Proofs Go.Proofs.YtaohbfnepjjdgaaGreat Fx
attribute [local irreducible] Go.Ck.Sub St Cd Xt Nx DrL LsW
def cmpI (a b:Int):Int:=if a<b then -1 else if b<a then 1 else 0
def cmpS (a b:Nm):Int:=if lt a b=true then -1 else if lt b a=true then 1 else 0
def cmpL:List Nm→List Nm→Int
 | [],[]=>0
 | [],_::_ => -1
 | _::_,[]=>1
 | a::x,b::y=>if cmpS a b≠0 then cmpS a b else cmpL x y
theorem cmpL_lt : ∀ a b : List Nm, decide (cmpL a b < 0) = lexLt a b
 | [],[]=>rfl
 | [],_::_=>rfl
 | _::_,[]=>rfl
 | a :: x, b :: y => by
  unfold cmpL lexLt
  have ih:=cmpL_lt x y
  unfold cmpS
  rcases lt_total a b with h | h | h
  ·simp [h]
  ·subst h; rw [lt_irrefl]; simp [ih]
  ·have h2:=lt_asymm h
   rw [h2,h]
   have:(a == b)=false:=by
    cases hab:a == b with
    | false=>rfl
    | true=>rw [show a=b by simpa using hab,lt_irrefl] at h; cases h
   simp [this]
section
variable {S S':Res} {v v':Value}
set_option maxRecDepth 100000 in
theorem nanI_ct (a:Int):Reads Tryz.prog 173 #[.int .i64 a] [] (.bool false):=by
 refine ct_of (n:=6) Tryz.func173 Z Z (len Z) fun hr w0=>?_
 refine cQ (sA Z (sN (nT (cQ (sM Z (sM Z (sV (v_neq Z Z) (sA Z (sK [2] Z (cT ?_))))))))))
 rw [show (a != a)=false by simp]
 exact xt_rt Z ⟨Z,Z⟩ sbq
set_option maxRecDepth 100000 in
theorem nanS_ct (a:Nm):Reads Tryz.prog 177 #[sv a] [] (.bool false):=by
 refine ct_of (n:=6) Tryz.func177 Z Z (len Z) fun hr w0=>?_
 refine cQ (sA Z (sN (nT (cQ (sM Z (sM Z (sV (v_sneq Z Z) (sA Z (sK [2] Z (cT ?_))))))))))
 rw [show (!(a == a))=false by simp]
 exact xt_rt Z ⟨Z,Z⟩ sbq
set_option maxRecDepth 100000 in
theorem cmpI_ct (a b : Int) : Reads Tryz.prog 160 #[.int .i64 a, .int .i64 b] [] (.int .i64 (cmpI a b)) := by
 unfold cmpI
 refine ct_of (n:=20) Tryz.func160 Z Z (len Z) fun hr w0=>?_
 refine cQ (sA Z (sN (nT (cQ (sM Z (st_clr Z Z en173 Z (nanI_ct a) ?_))))))
 refine sA Z (sK [0,1,4,5] Z (cQ (sM Z (st_clr Z Z en173 Z (nanI_ct b) ?_))))
 refine sA Z (sK [0,1,4,5,6] Z (cS (cQ (sM Z (sK [0,1,4,6,11] Z (cd_false Z ?_))))))
 refine cK (xT (cS (cQ (sM Z (sK [0,1,4,13] Z (cd_false Z ?_))))))
 refine cK (xT (cS (cQ (sM Z (sM Z (sV (v_lss Z Z) (sK [0,1,4,16] Z (cC Z (fun h1=>?_) (fun h1=>?_)))))))))
 ·refine cQ (sA Z (sK [4] Z (cT (xR ?_))))
  rw [if_pos (by simpa using h1)]
  exact xt_rt Z ⟨Z,Z⟩ sbq
 ·rw [if_neg (by simpa using h1)]
  refine cK (xT (cS (cQ (sM Z (sM Z (sV (v_gtr Z Z) (sK [4,19] Z (cC Z (fun h2=>?_) (fun h2=>?_)))))))))
  ·refine cQ (sA Z (sK [4] Z (cT (xR ?_))))
   rw [if_pos (by simpa using h2)]
   exact xt_rt Z ⟨Z,Z⟩ sbq
  ·refine cK (xT (cQ (sA Z (sK [4] Z (cT ?_)))))
   rw [if_neg (by simpa using h2)]
   exact xt_rt Z ⟨Z,Z⟩ sbq
set_option maxRecDepth 100000 in
theorem cmpS_ct (a b : Nm) : Reads Tryz.prog 174 #[sv a, sv b] [] (.int .i64 (cmpS a b)) := by
 unfold cmpS
 refine ct_of (n:=20) Tryz.func174 Z Z (len Z) fun hr w0=>?_
 refine cQ (sA Z (sN (nT (cQ (sM Z (st_clr Z Z en177 Z (nanS_ct a) ?_))))))
 refine sA Z (sK [0,1,4,5] Z (cQ (sM Z (st_clr Z Z en177 Z (nanS_ct b) ?_))))
 refine sA Z (sK [0,1,4,5,6] Z (cS (cQ (sM Z (sK [0,1,4,6,11] Z (cd_false Z ?_))))))
 refine cK (xT (cS (cQ (sM Z (sK [0,1,4,13] Z (cd_false Z ?_))))))
 refine cK (xT (cS (cQ (sM Z (sM Z (sV (v_slss Z Z) (sK [0,1,4,16] Z (cC Z (fun h1=>?_) (fun h1=>?_)))))))))
 ·refine cQ (sA Z (sK [4] Z (cT (xR ?_))))
  rw [if_pos h1]
  exact xt_rt Z ⟨Z,Z⟩ sbq
 ·rw [if_neg (show ¬ lt a b=true by rw [show lt a b=false from h1]; decide)]
  refine cK (xT (cS (cQ (sM Z (sM Z (sV (v_sgtr Z Z) (sK [4,19] Z (cC Z (fun h2=>?_) (fun h2=>?_)))))))))
  ·refine cQ (sA Z (sK [4] Z (cT (xR ?_))))
   rw [if_pos (by
    rw [Bool.not_eq_true',Bool.or_eq_false_iff] at h2
    rcases lt_total a b with h | h | h
    ·exact absurd h (by rw [show lt a b=false from h2.1]; decide)
    ·rw [h] at h2; simp at h2
    ·exact h)]
   exact xt_rt Z ⟨Z,Z⟩ sbq
  ·refine cK (xT (cQ (sA Z (sK [4] Z (cT ?_)))))
   rw [if_neg (by
    rw [Bool.not_eq_false',Bool.or_eq_true] at h2
    rcases h2 with h2 | h2
    ·rw [lt_asymm h2]; decide
    ·rw [show a=b by simpa using h2,lt_irrefl]; decide)]
   exact xt_rt Z ⟨Z,Z⟩ sbq
set_option maxRecDepth 100000 in
theorem cmpL_ct {xs ys : List Nm} (hv : nmsR S v xs) (hv' : nmsR S' v' ys) (hl : xs.length ≤ 1099511627776) (hl' : ys.length ≤ 1099511627776) : Reads Tryz.prog 161 #[v, v'] [S, S'] (.int .i64 (cmpL xs ys)) := by
 obtain ⟨a,cap,rfl,_⟩:=id hv
 obtain ⟨a',cap',rfl,_⟩:=id hv'
 refine ct_of (n:=36) Tryz.func161 Z Z (len Z) fun hr w0=>?_
 refine cQ (sA Z (sN (nT (cS (cQ (sM Z (sV (v_len Z Tryz.underlying50) (sM Z (sN (nT (cB (cd_lq (σ := Nat) (fun i=>[(0,.slice a xs.length cap),(1,.slice a' ys.length cap'),(9,.slice a xs.length cap),(10,.int .i64 xs.length),(11,.int .i64 (i:Nat))]) (fun _=>S::S'::hr) (fun i=>i≤xs.length∧i≤ys.length∧cmpL xs ys=cmpL (xs.drop i) (ys.drop i)) (fun i=>xs.length - i) 0 ⟨Nat.zero_le _,Nat.zero_le _,Z⟩ ?_))))))))))))
 rintro i ⟨hi,hi',hc⟩
 refine cQ (sV (v_lss Z Z) (sN (nT (cS (cC Z (fun hd=>?_) (fun hd=>?_))))))
 ·have hlt:i<xs.length:=by simpa using hd
  obtain ⟨b,o,cap2,hv2,hrd⟩:=nms_at hv (List.getElem?_eq_getElem hlt)
  have hx:xs.drop i=xs[i]::xs.drop (i+1):=(List.getElem_cons_drop hlt).symm
  refine cK (xT (cS (cB (cQ (sM Z (sV (vI (k:=i) (congrArg some hv2) Z sl50 Z hlt Z) (sV (vY Z ld9) ?_)))))))
  refine sA Z (sA Z (sK [0,1,5,6,9,10,11] Z (cS (cQ (sM Z (sM Z (sV (v_len Z Tryz.underlying50) (sV (v_geq Z Z) (sK [0,1,5,6,9,10,11,19] Z (cC Z (fun he=>?_) (fun he=>?_)))))))))))
  ·have he:ys.length≤i:=by
    have:(ys.length:Int)≤i:=by simpa using he
    omega
   have hy:ys.drop i=[]:=List.drop_eq_nil_of_le he
   refine cQ (sA Z (sK [4] Z (cT (xR (xW (xR (xR (xW (xR ?_)))))))))
   rw [hc,hx,hy]
   exact xt_rt Z ⟨Z,Z⟩ sbq
  ·have he:i<ys.length:=by
    have:¬ (ys.length:Int)≤i:=by simpa using he
    omega
   obtain ⟨b',o',cap2',hv2',hrd'⟩:=nms_at hv' (List.getElem?_eq_getElem he)
   have hy:ys.drop i=ys[i]::ys.drop (i+1):=(List.getElem_cons_drop he).symm
   refine cK (xT (cQ (sM Z (sM Z (sV (vI (k:=i) (congrArg some hv2') Z sl50 Z he Z) (sV (vY Z ld9) ?_))))))
   refine sA Z (sK [0,1,6,7,9,10,11] Z (cQ (sM Z (sM Z (st_clr Z Z en174 Z (cmpS_ct xs[i] ys[i]) ?_)))))
   refine sA Z (sK [0,1,8,9,10,11] Z (cQ (sM Z (sV (v_neq Z Z) (sK [0,1,8,9,10,11,28] Z (cC Z (fun hn=>?_) (fun hn=>?_)))))))
   ·have hn:cmpS xs[i] ys[i]≠0:=by simpa using hn
    refine cQ (sM Z (sA Z (sK [4] Z (cT (xW (xR (xR (xW (xR ?_)))))))))
    rw [hc,hx,hy,cmpL,if_pos hn]
    exact xt_rt Z ⟨Z,Z⟩ sbq
   ·have hn:cmpS xs[i] ys[i]=0:=by simpa using hn
    refine cK (xB (xT (cR (sV (v_add Z Z (by unfold I64 at *; omega)) (sM Z (sN (nK [0,1,9,10,11] Z (nx_xt ?_))))))))
    refine xt_aq (i+1) ⟨hlt,he,by rw [hc,hx,hy,cmpL,if_neg (by rw [hn]; decide)]⟩ (by show _ - _<_ - _; omega)
 ·have hil:i=xs.length:=by
   have:¬ i<xs.length:=by simpa using hd
   omega
  have hx:xs.drop i=[]:=List.drop_eq_nil_of_le (by omega)
  refine cd_exit (xE (xE (xY (xT (cS (cQ (sM Z (sV (v_len Z Tryz.underlying50) (sM Z (sV (v_len Z Tryz.underlying50) (sV (v_lss Z Z) (sK [35] Z ?_))))))))))))
  refine cC Z (fun he=>?_) (fun he=>?_)
  ·have he:xs.length<ys.length:=by
    have:(xs.length:Int)<ys.length:=by simpa using he
    omega
   refine cQ (sA Z (sK [4] Z (cT (xR ?_))))
   rw [hc,hx,← List.getElem_cons_drop (show i<ys.length by omega)]
   exact xt_rt Z ⟨Z,Z⟩ sbq
  ·have he:¬ xs.length<ys.length:=by
    have:¬ (xs.length:Int)<ys.length:=by simpa using he
    omega
   refine cK (xT (cQ (sA Z (sK [4] Z (cT ?_)))))
   rw [hc,hx,List.drop_eq_nil_of_le (by omega)]
   exact xt_rt Z ⟨Z,Z⟩ sbq
set_option maxRecDepth 100000 in
theorem Min_ct {xs : List Nm} (hv : nmsR S v xs) (hl : xs.length ≤ 1099511627776) (hne : xs ≠ []) : Reads Tryz.prog 164 #[v] [S] (sv (minN xs)) := by
 obtain ⟨a,cap,rfl,_⟩:=id hv
 have h0:0<xs.length:=List.length_pos_iff.2 hne
 obtain ⟨b0,o0,cap0,hv0,hrd0⟩:=nms_at hv (List.getElem?_eq_getElem h0)
 refine ct_of (n:=25) Tryz.func164 Z Z (len Z) fun hr w0=>?_
 refine cQ (sA Z (sN (nT (cS (cQ (sM Z (sV (v_len Z Tryz.underlying50) (sV (v_lss Z Z) (sK [0,2,7] Z (cC Z (fun hz=>?_) (fun hz=>?_)))))))))))
 ·have:(xs.length:Int)<1:=by simpa using hz
  omega
 ·refine cK (xT (cQ (sM Z (sV (vI (k:=0) (congrArg some hv0) Z sl50 Z h0 Z) (sV (vY Z ld9) ?_)))))
  refine sA Z (sK [0,2,3] Z (cS (cQ (sA Z (sN (nT (cB (cd_lq (σ := Nm×Nat) (fun q=>[(0,.slice a xs.length cap),(3,sv q.1),(4,.int .i64 (q.2:Nat))]) (fun _=>S::hr) (fun q=>q.2≤xs.length∧q.1∈xs.take q.2∧∀ y∈xs.take q.2,lt y q.1=false) (fun q=>xs.length - q.2) (xs[0],1) ⟨h0,by rw [List.take_succ_eq_append_getElem h0]; simp,fun y hy=>by rw [List.take_succ_eq_append_getElem h0] at hy; simp at hy; rw [hy]; exact lt_irrefl _⟩ ?_))))))))
  rintro ⟨m,i⟩ ⟨hi,hm,hle⟩
  simp only at hi hm hle
  dsimp only
  refine cS (cQ (sM Z (sM Z (sV (v_len Z Tryz.underlying50) (sV (v_lss Z Z) (sK [0,3,4,15] Z (cC Z (fun hd=>?_) (fun hd=>?_))))))))
  ·have hlt:i<xs.length:=by simpa using hd
   obtain ⟨b,o,cap2,hv2,hrd⟩:=nms_at hv (List.getElem?_eq_getElem hlt)
   have ht:=List.take_succ_eq_append_getElem hlt
   refine cK (xT (cS (cB (cR (sM Z (sM Z (sM Z (sV (vI (k:=i) (congrArg some hv2) Z sl50 Z hlt Z) (sV (vY Z ld9) ?_)))))))))
   refine sV (v_smin Z Z) (sA Z (sN (nK [0,3,4] Z (nx_xt (xB (xT (cR (sM Z (sV (v_add Z Z (by unfold I64 at *; omega)) (sA Z (sN (nK [0,3,4] Z (nx_xt (xt_aq (_,i+1) ⟨hlt,?_,?_⟩ (by show _ - _<_ - _; omega)))))))))))))))
   ·show (if _ then _ else _)∈xs.take (i+1)
    rw [ht,List.mem_append]
    split
    ·exact .inl hm
    ·exact .inr (List.mem_singleton.2 Z)
   ·intro y hy
    show lt y (if _ then _ else _)=false
    rw [ht,List.mem_append,List.mem_singleton] at hy
    split
    ·rename_i hq
     rcases hy with hy | rfl
     ·exact hle y hy
     ·rw [Bool.or_eq_true] at hq
      rcases hq with hq | hq
      ·exact lt_asymm hq
      ·rw [show m=xs[i] by simpa using hq]; exact lt_irrefl _
    ·rename_i hq
     rw [Bool.not_eq_true,Bool.or_eq_false_iff] at hq
     rcases hy with hy | rfl
     ·cases hc : lt y xs[i] with
      | false=>rfl
      | true =>
       have hxm:lt xs[i] m=true:=by
        rcases lt_total m xs[i] with h | h | h
        ·exact absurd h (by rw [show lt m xs[i]=false from hq.1]; decide)
        ·rw [h] at hq; simp at hq
        ·exact h
       have:=hle y hy
       rw [lt_trans hc hxm] at this; cases this
     ·exact lt_irrefl _
  ·have hil:i=xs.length:=by
    have:¬ i<xs.length:=by simpa using hd
    omega
   subst hil
   rw [List.take_length] at hm hle
   rw [minN_uniq hm hle]
   refine cd_exit (xE (xE (xY (xT (cQ (sM Z (sA Z (sK [2] Z (cT ?_)))))))))
   exact xt_rt Z ⟨Z,Z⟩ sbq
end
end Go.Hr
namespace Go.Hr
open Go Go.Ck Go.Proofs Go.Proofs.YtaohbfnepjjdgaaGreat Fx
attribute [local irreducible] Go.Ck.Sub St Cd Xt Nx DrL LsW
def shortR (l:Sys) (to c:Nm):List Nm:=match dist l to c with | none=>[] | some k=>short l to k c
theorem far_look {l:Sys} {to:Nm} {F:List (Nm×Nat)} (hF:∀ x,alook F x=dist l to x) (x:Nm):(slook (mvG nV F) x).getD (.int .i64 0)=match dist l to x with | none=>.int .i64 0 | some k=>.int .i64 ((k:Int)+1):=by
 rw [slook_mvG,hF]
 cases dist l to x <;> rfl
theorem dist_le {l:Sys} {to c:Nm} {k:Nat} (h:dist l to c=some k):k≤l.length:=by
 unfold dist at h
 have:=List.mem_of_find?_eq_some h
 rw [List.mem_range] at this
 omega
theorem dist_zero {l:Sys} {to c:Nm}:dist l to c=some 0↔c=to:=by
 rw [dist_some]
 simp [W]
theorem short_head (l:Sys) (to:Nm):∀ k c,short l to k c=c::(short l to k c).drop 1
 | 0,c=>rfl
 | k+1,c=>rfl
theorem par_len {l:Sys} (hF:Fine l) (c:Nm):(par l c).length≤1099511627776:=by
 refine Nat.le_trans (List.length_filter_le _ _) ?_
 unfold pars
 cases hf:find l c with
 | none=>simp
 | some x=>exact hF.few x (find_name hf).2
section
variable {S:Res} {v:Value} {l:Sys}
set_option maxHeartbeats 2000000 in
set_option maxRecDepth 100000 in
theorem shortest_ct {mb : Nat} (hv : sysR S v l) (hF : Fine l) (from_ to : Nm) : CtN Tryz.prog 147 #[.agg #[v, .map (some mb)], sv from_, sv to] [S, mps mb (kindsM l)] fun u T => ∃ a cp, u = .slice a (shortR l to from_).length cp ∧ a.isNone = (dist l to from_).isNone ∧ T = NR u (shortR l to from_) := by
 obtain ⟨a,cap,rfl,_⟩:=id hv
 have hFl:=hF.len
 refine ct_ofM (n:=52) Tryz.func147 Z Z (len Z) fun hr w0=>?_
 refine cQ (st_bx Z Z fun b3=>?_)
 refine st_bx Z Z fun b4=>?_
 refine sA Z (sK [2,3,4,6] Z (cQ (sV (v_ldn Z ld165 Z rds_pt) ?_)))
 refine sM Z (st_cl Z Z en167 Z (far_ct hv hF to) ?_)
 rintro u h' ⟨mf,F,rfl,rfl,hFF⟩
 simp only [lC,lN]
 refine st_alc al163 fun b7=>?_
 refine st_sto Z Z sz163 ?_
 refine sK [2,3,4,6,7] Z (cS (cQ (sV (vY Z ld163) ?_)))
 refine sV (vY Z ld9) ?_
 cases hd0:dist l to from_
 ·have hsr:shortR l to from_=[]:=by unfold shortR; rw [hd0]
  refine sV (v_is (show (slook (mvG nV F) from_).getD (.int .i64 0) = .int .i64 0 by rw [far_look hFF,hd0]) (v_slookup Z Z mp163 inf3 slq)) ?_
  refine sV (v_eql Z Z) (sK [2,3,4,6,7,18] Z (cd_true Z ?_))
  refine cQ (sA Z (sK [6] Z (cT (xR ?_))))
  rw [hsr]
  refine xt_vw (vw_nil 9 1) (xt_retM (bs:=[]) Z Z ⟨NR (.slice none 0 0) [],Z,none,0,Z,Z,Z⟩ sbq)
 ·rename_i k0
  have hsr:shortR l to from_=short l to k0 from_:=by unfold shortR; rw [hd0]
  have hk0:=dist_le hd0
  refine sV (v_is (show (slook (mvG nV F) from_).getD (.int .i64 0) = .int .i64 ((k0:Int)+1) by rw [far_look hFF,hd0]) (v_slookup Z Z mp163 inf3 slq)) ?_
  refine sV (v_eql Z Z) (sK [2,3,4,6,7,18] Z ?_)
  rw [show (((k0:Int)+1) == 0)=false by simp; omega]
  refine cd_false Z ?_
  refine cK (xT (cQ (sV (vY Z ld9) ?_)))
  refine st_buildSlice (cells:=[sv from_]) Z Tryz.underlying50 inf9 Z Z (by kernel_rfl) (ltn Z) fun b20=>?_
  refine sA Z (sK [2,3,4,6,7,8] Z (cS (cB (cd_pv (pv_of (b:=b20) (n:=1) (sz:=1) (E:=9) [nC from_] Z (by simp [nC]) Z (by decide)) ?_))))
  refine cd_marks0 ?_
  simp only [lC,lN]
  refine cd_loopD (σ := (Nat×Nm)×(Value×List Nm)×List Nat) (fun q=>q.2.2.map mk) (fun q=>[(2,sv to),(3,.pointer (some ⟨b3,0,none⟩)),(4,.pointer (some ⟨b4,0,none⟩)),(7,.pointer (some ⟨b7,0,none⟩)),(8,q.2.1.1)]) (fun q=>Res.star (marks q.2.2)::pt b4 (cl [sv q.1.2] 9)::NR q.2.1.1 q.2.1.2::pt b7 (cl [.map (some mf)] 163)::mps mf (mvG nV F)::pt b3 (cl [.slice a l.length cap,.map (some mb)] 165)::S::mps mb (kindsM l)::hr) (fun q=>dist l to q.1.2=some q.1.1∧q.2.1.1.oneCell'=true∧q.2.1.2++(short l to q.1.1 q.1.2).drop 1=short l to k0 from_) (fun q=>q.1.1) ((k0,from_),(.slice (some ⟨b20,0,none⟩) 1 1,[from_]),[]) ⟨hd0,Z,(short_head l to k0 from_).symm⟩ Z ⟨Z,Z,Z,Z,Z,trivial⟩ sbq ?_
  rintro ⟨⟨j,c⟩,⟨w0v,out⟩,bs⟩ ⟨hdj,hw0,hout⟩
  simp only at hdj hw0 hout
  dsimp only
  have holen:out.length≤k0+1:=by
   have:=congrArg List.length hout
   rw [List.length_append,short_len] at this
   omega
  refine cS (cQ (sV (vY Z ld9) ?_))
  refine sM Z (sV (v_sneq Z Z) (sK [2,3,4,7,8,23] Z (cC Z (fun hct=>?_) (fun hct=>?_))))
  ·have hct:c≠to:=by simpa using hct
   obtain ⟨j',rfl⟩:∃ j',j=j'+1:=by
    cases j with
    | zero=>exact absurd (dist_zero.1 hdj) hct
    | succ j'=>exact ⟨j',rfl⟩
   have hnx:=nexts_ne hdj
   have hdn:=next_spec hdj
   have hjl:=dist_le hdj
   refine cK (xT (cB (cQ (st_alc al50 fun b9=>?_))))
   refine sK [2,3,4,7,8,9] Z (cS (cQ (sV (v_ldn Z ld165 Z rds_pt) ?_)))
   refine sV (vY Z ld9) ?_
   refine st_cl Z Z en125 Z (parents0_ct Z) ?_
   rintro u h' ⟨n1,n2,rfl,rfl⟩
   refine sK [2,3,4,7,8,9,26] Z (cB (cd_vw (vw_nil 9 1) ?_))
   simp only [lC,lN]
   unfold seqv
   refine cd_range' Z en156 fun yl db rec hst hpe hps hasg hbo hkn2=>?_
   refine ⟨_,Ct.perm (it_ct (σ := Value×List Nm) (b1:=n1) (b2:=n2) (mb:=mb) (yl:=yl) (c:=c) (fun q=>pt yl (.loop rec)::pt db (.deferred (some []))::pt b9 (cl [q.1] 50)::NR q.1 q.2::Res.star (marks bs)::pt b4 (cl [sv c] 9)::NR w0v out::pt b7 (cl [.map (some mf)] 163)::mps mf (mvG nV F)::pt b3 (cl [.slice a l.length cap,.map (some mb)] 165)::hr)
    (fun k q=>q.1.oneCell'=true∧q.2=((par l c).take k).filter fun p=>dist l to p == some j') (fun _ _=>False) (.slice none 0 0,[]) ⟨rfl,rfl⟩ hv hF.few ?_) ?_,?_⟩
   ·rintro k ⟨w, ns⟩ p hk ⟨hw, hns⟩
    simp only at hw hns
    obtain ⟨hkl,hke⟩:=List.getElem?_eq_some_iff.1 hk
    have hpl:=par_len hF c
    have hnl:ns.length≤k:=by rw [hns]; exact Nat.le_trans (List.length_filter_le _ _) (by simp; omega)
    have htk:((par l c).take (k+1)).filter (fun p=>dist l to p == some j')=ns++(if dist l to p == some j' then [p] else []):=by
     rw [List.take_succ_eq_append_getElem hkl,hke,List.filter_append,← hns]
     congr 1
     by_cases hq:(dist l to p == some j')=true
     ·rw [if_pos hq,List.filter_cons_of_pos (by exact hq)]; rfl
     ·rw [if_neg hq,List.filter_cons_of_neg (by exact hq)]; rfl
    refine Yc.perm (yc_of (n:=52) (rec:=rec) (args:=[sv p]) (hf:=pt db (.deferred (some []))::pt b9 (cl [w] 50)::NR w ns::Res.star (marks bs)::pt b4 (cl [sv c] 9)::NR w0v out::pt b7 (cl [.map (some mf)] 163)::mps mf (mvG nV F)::pt b3 (cl [.slice a l.length cap,.map (some mb)] 165)::S::mps mb (kindsM l)::hr) (by rw [hps]; rfl) hkn2 (by rw [hps]; decide) ?_) (by exact (by repeat (first | exact Pm.refl | refine Pm.cons slq ?_):Pm _ _).perm)
    intro hr2 w1
    rw [hasg,hps,hbo]
    simp only [lC,lN]
    refine cR (sA Z (sN (nK [4,7,9,10] Z (nx_xt (xt_mid Z slq (by first | rfl | assumption) ?_)))))
    refine cB (cQ (sV (vY Z ld163) ?_))
    refine sM Z ?_
    cases hdp:dist l to p
    ·refine sV (v_is (show (slook (mvG nV F) p).getD (.int .i64 0) = .int .i64 0 by rw [far_look hFF,hdp]) (v_slookup Z Z mp163 inf3 slq)) ?_
     refine sA Z (sK [4,7,9,10,11] Z (cQ (sM Z (sV (v_gtr Z Z) (sM Z (st_sk Z Z Z ?_))))))
     iterate 5 refine st_sk rfl rfl rfl ?_
     refine sV (vP Z Z) (sK [9,10,40] Z (cd_false Z ?_))
     refine cK (xB (xt_round slq (.inl ⟨Z,(w,ns),⟨hw,?_⟩,Z⟩) ?_))
     ·show ns=_
      rw [htk,hdp]; simp
     ·rw [rec_back hst hpe]
      exact sbr
    ·rename_i m
     have hml:=dist_le hdp
     refine sV (v_is (show (slook (mvG nV F) p).getD (.int .i64 0) = .int .i64 ((m:Int)+1) by rw [far_look hFF,hdp]) (v_slookup Z Z mp163 inf3 slq)) ?_
     refine sA Z (sK [4,7,9,10,11] Z (cQ (sM Z (sV (v_gtr Z Z) (sM Z ?_)))))
     rw [show decide ((0:Int)<(m:Int)+1)=true from decide_eq_true (by omega)]
     refine sG Z Z (vM Z) (sG Z Z (vY Z ld163) ?_)
     refine sG Z Z (vY Z ld9) ?_
     refine sG Z Z (v_is (show (slook (mvG nV F) c).getD (.int .i64 0) = .int .i64 (((j'+1:Nat):Int)+1) by rw [far_look hFF,hdj]) (v_slookup Z Z mp163 inf3 slq)) ?_
     refine sG Z Z (v_sub Z Z (by unfold I64 at *; omega)) (sG Z Z (v_eql Z Z) (sV (vQ Z Z) (sK [9,10,40] Z (cC Z (fun hb=>?_) (fun hb=>?_)))))
     ·have hb:m=j':=by
       have:(m:Int)+1=((j'+1:Nat):Int)+1 - 1:=by simpa using hb
       omega
      refine cR (sV (vY Z ld50) ?_)
      refine sM Z (st_buildSlice (cells:=[sv p]) Z Tryz.underlying50 inf9 Z Z (by kernel_rfl) (ltn Z) fun b43=>?_)
      refine st_app [nC p] Z Z Tryz.underlying50 inf9 Z (by decide) (show Sel _ (NR w ns) _ from slq) (by simp [nC]) Z (fun j u2 hu2=>at_here (rd_cl (by simpa [nC] using hu2))) (by simp [nC,Value.oneCell']) (by simp; omega) (by simp; omega) (ltn Z) fun w3 hw3 _=>?_
      rw [show ns.map nC++[nC p]=(ns++[p]).map nC by simp]
      refine st_sto Z Z sz50 ?_
      refine sN (nK [] Z (nx_xt (xB (xt_round slq (.inl ⟨Z,(w3,ns++[p]),⟨hw3,?_⟩,Z⟩) ?_))))
      ·show ns++[p]=_
       rw [htk,hdp,hb]; simp
      ·rw [rec_back hst hpe]
       exact sbr
     ·have hb:m≠j':=fun e=>by
       have:¬ (m:Int)+1=((j'+1:Nat):Int)+1 - 1:=by simpa using hb
       omega
      refine cK (xB (xt_round slq (.inl ⟨Z,(w,ns),⟨hw,?_⟩,Z⟩) ?_))
      ·show ns=_
       rw [htk,hdp]; simp [hb]
      ·rw [rec_back hst hpe]
       exact sbr
   ·exact (by repeat (first | exact Pm.refl | refine Pm.cons slq ?_):Pm _ _).perm
   ·rintro u h' ⟨rfl,(⟨⟨w,ns⟩,⟨hw,hns⟩,rfl⟩ | ⟨_,_,hfalse,_⟩)⟩
    ·simp only at hw hns
     rw [List.take_length] at hns
     refine ⟨rec,_,slq,(by rw [hst]; simp),?_⟩
     rw [hpe]
     dsimp only
     have hnx2:ns=nexts l to j' c:=hns
     have hnl:ns.length≤1099511627776:=by rw [hns]; exact Nat.le_trans (List.length_filter_le _ _) (par_len hF c)
     rw [← hnx2] at hnx hdn
     have hsh:short l to (j'+1) c=c::short l to j' (minN ns):=by rw [short,← hnx2]
     rw [hsh] at hout
     refine xB (xT (cQ (sV (vY Z ld50) ?_)))
     refine st_ok (r:=NR w ns) slq fun hok=>?_
     refine st_clr Z Z en164 Z (Min_ct (nms_own hok) hnl hnx) ?_
     refine st_sto Z Z sz9 ?_
     refine sK [2,3,4,7,8] Z (cR (sM Z (sV (vY Z ld9) ?_)))
     refine st_buildSlice (cells:=[sv (minN ns)]) Z Tryz.underlying50 inf9 Z Z (by kernel_rfl) (ltn Z) fun b49=>?_
     refine st_app [nC (minN ns)] Z Z Tryz.underlying50 inf9 Z (by decide) (show Sel _ (NR w0v out) _ from slq) (by simp [nC]) Z (fun j u2 hu2=>at_here (rd_cl (by simpa [nC] using hu2))) (by simp [nC,Value.oneCell']) (by simp; omega) (by simp; omega) (ltn Z) fun w3 hw3 _=>?_
     rw [show out.map nC++[nC (minN ns)]=(out++[minN ns]).map nC by simp]
     refine sA Z (sN (nK [2,3,4,7,8] Z (nx_xt (xB (xt_mark slq slq ?_)))))
     refine xt_againD ((j',minN ns),(w3,out++[minN ns]),db::bs) ⟨hdn.2,hw3,?_⟩ (Nat.lt_succ_self _) Z ⟨Z,Z,Z,Z,Z,trivial⟩ sbq
     show out++[minN ns]++(short l to j' (minN ns)).drop 1=short l to k0 from_
     rw [← hout,List.append_assoc]
     congr 1
     exact (short_head l to j' (minN ns)).symm
    ·exact hfalse.elim
  ·have hct:c=to:=by simpa using hct
   have hj0:j=0:=by
    have:=(dist_zero (l:=l)).2 hct
    rw [hdj] at this; cases this; rfl
   subst hj0
   have hout2:out=short l to k0 from_:=by rw [← hout]; simp [short]
   have hne:out≠[]:=fun e=>by
    have:=short_len l to k0 from_
    rw [← hout2,e] at this; cases this
   rw [hsr,← hout2]
   refine cd_exit (xE (xE (xY (xT (cQ (sM Z (sA Z (sK [6] Z (cT (xt_ok (r:=NR w0v out) slq fun ⟨fh,hok⟩=>?_))))))))))
   rcases VR.form hok with ⟨_,he⟩ | ⟨vb,vo,vc,he,_,_⟩
   ·exact absurd (List.map_eq_nil_iff.1 he) hne
   ·rw [List.length_map] at he
    subst he
    refine xt_retS (bs:=bs) Z Z ⟨NR (.slice (some ⟨vb,vo,none⟩) out.length vc) out,Z,some ⟨vb,vo,none⟩,vc,Z,Z,Z⟩ sbq
end
end Go.Hr
namespace Go.Hr
open Go Go.Ck Go.Proofs Go.Proofs.YtaohbfnepjjdgaaGreat Fx
attribute [local irreducible] Go.Ck.Sub St Cd Xt Nx DrL LsW
def okB (u:UInt8):Bool:=upper u || digit u || u.toNat == 95
def oddR (r:Int):Bool:=((decide (r<65) || decide (90<r)) && (decide (r<48) || decide (57<r))) && (r != 95)
theorem odd_ok {u:UInt8} (h:u.toNat<128):oddR u.toNat = !okB u:=by
 unfold oddR okB upper digit
 rw [Bool.eq_iff_iff]
 simp only [Bool.and_eq_true,Bool.or_eq_true,decide_eq_true_eq,bne_iff_ne,ne_eq,Bool.not_eq_true',Bool.or_eq_false_iff,Bool.and_eq_false_iff,decide_eq_false_iff_not,beq_eq_false_iff_ne]
 omega
theorem odd_big {r:Int} (h:128≤r):oddR r=true:=by
 unfold oddR
 simp only [Bool.and_eq_true,Bool.or_eq_true,decide_eq_true_eq,bne_iff_ne,ne_eq]
 omega
theorem ok_small {u:UInt8} (h:okB u=true):u.toNat<128:=by
 unfold okB upper digit at h
 simp only [Bool.or_eq_true,Bool.and_eq_true,decide_eq_true_eq,beq_iff_eq] at h
 omega
def ixO (s:Nm):Int:=match s.findIdx? (fun u => !okB u) with | some i=>i | none => -1
theorem ixO_any (s:Nm):decide (0≤ixO s)=s.any fun u => !okB u:=by
 unfold ixO
 cases h:s.findIdx? (fun u => !okB u) with
 | none =>
  rw [List.findIdx?_eq_none_iff] at h
  symm
  show _=false
  rw [List.any_eq_false]
  intro x hx; rw [h x hx]; decide
 | some i =>
  show decide (0≤(i:Int))=_
  obtain ⟨hi,h1,_⟩:=List.findIdx?_eq_some_iff_getElem.1 h
  rw [List.any_eq_true.2 ⟨s[i],List.getElem_mem hi,h1⟩]
  exact decide_eq_true (by omega)
section
set_option maxRecDepth 100000 in
theorem odd_ct (r : Int) : Reads Tryz.prog 157 #[.int .i32 r] [] (.bool (oddR r)) := by
 unfold oddR
 refine ct_of (n:=21) Tryz.func157 Z Z (len Z) fun hr w0=>?_
 refine cQ (sA Z (sN (nT (cQ (sM Z (sV (v_lss Z Z) (sM Z (st_cut (k:=6) (d:=8) (v:=.bool (decide (r<65) || decide (90<r))) (fun hcut=>bool_want (b:=decide (r<65)) false (fun hg=>?_) (fun hg=>?_)) ?_))))))))
 ·refine st_sk Z Z hg ?_
  refine st_sk Z Z hg ?_
  refine sV (vQ (bO Z hg) Z) ?_
  exact hcut _ uG
 ·refine sG Z (bG Z hg) (vM Z) (sG Z (bG Z hg) (v_gtr Z Z) (sV (vP (bO Z hg) Z) ?_))
  exact hcut _ uG
 refine sM Z (st_cut (k:=14) (d:=16) (v:=.bool ((decide (r<65) || decide (90<r)) && (decide (r<48) || decide (57<r)))) (fun hcut=>bool_want (b:=(decide (r<65) || decide (90<r))) true (fun hg=>?_) (fun hg=>?_)) ?_)
 ·refine st_sk Z Z hg ?_
  iterate 2 refine st_sk rfl rfl hg ?_
  refine st_sku Z Z ?_
  refine st_sku Z Z ?_
  refine st_sk Z Z hg ?_
  refine sV (vP (bO Z hg) Z) ?_
  exact hcut _ uG
 ·refine sG Z (bG Z hg) (vM Z) (sG Z (bG Z hg) (v_lss Z Z) (sG Z (bG Z hg) (vM Z) (st_cut (k:=13) (d:=15) (v:=.bool (decide (r<48) || decide (57<r))) (fun hcut=>bool_want (b:=decide (r<48)) false (fun hg1=>?_) (fun hg1=>?_)) ?_)))
  ·refine st_sk Z Z hg1 ?_
   refine st_sk Z Z hg1 ?_
   refine sG Z (bG Z hg) (vQ (bO Z hg1) Z) ?_
   exact hcut _ (uH (by first | rfl | (rw [hg1]; rfl) | simp_all) (uS Z (uS Z (uR))))
  ·refine sG Z (bG Z hg1) (vM Z) (sG Z (bG Z hg1) (v_gtr Z Z) (sG Z (bG Z hg) (vP (bO Z hg1) Z) ?_))
   exact hcut _ (uH (by first | rfl | (rw [hg1]; rfl) | simp_all) (uS Z (uS Z (uR))))
  refine sV (vQ (bO Z hg) Z) ?_
  exact hcut _ (uH (by first | rfl | (rw [hg]; rfl) | simp_all) (by repeat (first | exact uR | refine uS Z ?_)))
 refine sM Z (st_cut (k:=18) (d:=20) (v:=.bool (((decide (r<65) || decide (90<r)) && (decide (r<48) || decide (57<r))) && (r != 95))) (fun hcut=>bool_want (b:=((decide (r<65) || decide (90<r)) && (decide (r<48) || decide (57<r)))) true (fun hg=>?_) (fun hg=>?_)) ?_)
 ·refine st_sk Z Z hg ?_
  refine st_sk Z Z hg ?_
  refine sV (vP (bO Z hg) Z) ?_
  exact hcut _ uG
 ·refine sG Z (bG Z hg) (vM Z) (sG Z (bG Z hg) (v_neq Z Z) (sV (vQ (bO Z hg) Z) ?_))
  exact hcut _ uG
 refine sA Z (sK [2] Z (cT ?_))
 exact xt_rt Z ⟨Z,Z⟩ sbq
set_option maxRecDepth 100000 in
theorem indexFunc_ct (s : Nm) (hl : s.length ≤ 1099511627776) : Reads Tryz.prog 176 #[sv s, .func (.func 157) #[] #[], .bool true] [] (.int .i64 (ixO s)) := by
 refine ct_of (n:=21) Tryz.func176 Z Z (len Z) fun hr w0=>?_
 refine cQ (sA Z (sN (nT (cS (cQ (sM Z (st_srange Z Tryz.underlying9 (ltn Z) fun b10=>?_)))))))
 refine sK [1,2,6,10] Z (cB (cd_lq (σ := Nat) (fun i=>[(1,.func (.func 157) #[] #[]),(2,.bool true),(10,.pointer (some ⟨b10,0,none⟩))]) (fun i=>pt b10 (.stringIter ⟨⟨s⟩⟩ i)::hr) (fun i=>i≤s.length∧∀ (j:Nat) (y:UInt8),j<i→s[j]? = some y→okB y=true) (fun i=>s.length - i) 0 ⟨Nat.zero_le _,fun j y hj=>by omega⟩ ?_))
 rintro i ⟨hi,hok⟩
 by_cases hlt:i<s.length
 ·have hu:=List.getElem?_eq_getElem hlt
  refine cQ (st_snext Z slq hlt (ltn Z) ?_)
  refine sV (v_extract Z Z) (sN (nT (cS (cd_true Z ?_))))
  refine cK (xT (cB (cQ (sV (v_extract Z Z) (sV (v_extract Z Z) (sA Z (sA Z (sK [1,2,7,8,10] Z (cQ (sM Z (sM Z ?_)))))))))))
  by_cases hq:okB s[i]=true
  ·have hd:=dec_ascii hu (ok_small hq)
   have hod:oddR (s[i]).toNat=false:=by rw [odd_ok (ok_small hq),hq]; rfl
   rw [hd]
   refine st_clr Z Z en157 Z (odd_ct (((s[i]).toNat:Nat):Int)) ?_
   rw [hod]
   refine sM Z (sV (v_eql_bool Tryz.underlying4 Z Z) (sK [1,2,7,10,19] Z (cd_false Z ?_)))
   refine cK (xB (xt_aq (i+1) ⟨hlt,fun j y hj hy=>?_⟩ (by show _ - _<_ - _; omega)))
   by_cases hji:j=i
   ·subst hji; rw [hu] at hy; cases hy; exact hq
   ·exact hok j y (by omega) hy
  ·have hq : okB s[i] = false := by simpa using hq
   have hod:oddR ((Utf8.decode ⟨⟨s⟩⟩ i).1:Nat)=true:=by
    rcases Nat.lt_or_ge (s[i]).toNat 128 with h | h
    ·rw [dec_ascii hu h]
     show oddR ((s[i]).toNat:Nat)=true
     rw [odd_ok h,hq]; rfl
    ·exact odd_big (by have:=dec_other hu h; omega)
   refine st_clr Z Z en157 Z (odd_ct (((Utf8.decode ⟨⟨s⟩⟩ i).1:Nat):Int)) ?_
   rw [hod]
   refine sM Z (sV (v_eql_bool Tryz.underlying4 Z Z) (sK [1,2,7,10,19] Z (cd_true Z ?_)))
   refine cQ (sM Z (sA Z (sK [6] Z (cT (xW (xR (xW (xR ?_))))))))
   rw [show ixO s=(i:Int) by
    unfold ixO
    rw [show s.findIdx? (fun u => !okB u)=some i from List.findIdx?_eq_some_iff_getElem.2 ⟨hlt,by rw [hq]; rfl,fun j hj=>by
     rw [hok j _ hj (List.getElem?_eq_getElem (Nat.lt_trans hj hlt))]; decide⟩]]
   exact xt_rt Z ⟨Z,Z⟩ sbq
 ·refine cQ (st_snext0 Z slq (by omega) (ltn Z) ?_)
  refine sV (v_extract Z Z) (sN (nT (cS (cd_false Z ?_))))
  refine cd_exit (xE (xE (xY (xT (cQ (sA Z (sK [6] Z (cT ?_))))))))
  rw [show ixO s = -1 by
   unfold ixO
   rw [show s.findIdx? (fun u => !okB u)=none from List.findIdx?_eq_none_iff.2 fun x hx=>by
    obtain ⟨j,hj,rfl⟩:=List.getElem_of_mem hx
    rw [hok j _ (by omega) (List.getElem?_eq_getElem hj)]; rfl]]
  exact xt_rt Z ⟨Z,Z⟩ sbq
set_option maxRecDepth 100000 in
theorem IndexFunc_ct (s:Nm) (hl:s.length≤1099511627776):Reads Tryz.prog 172 #[sv s,.func (.func 157) #[] #[]] [] (.int .i64 (ixO s)):=by
 refine ct_of (n:=8) Tryz.func172 Z Z (len Z) fun hr w0=>?_
 refine cQ (sA Z (sN (nT (cQ (sM Z (sM Z (st_clr Z Z en176 Z (indexFunc_ct s hl) ?_)))))))
 refine sA Z (sK [4] Z (cT ?_))
 exact xt_rt Z ⟨Z,Z⟩ sbq
set_option maxRecDepth 100000 in
theorem ContainsFunc_ct (s:Nm) (hl:s.length≤1099511627776):Reads Tryz.prog 158 #[sv s,.func (.func 157) #[] #[]] [] (.bool (s.any fun u => !okB u)):=by
 refine ct_of (n:=9) Tryz.func158 Z Z (len Z) fun hr w0=>?_
 refine cQ (sA Z (sN (nT (cQ (sM Z (sM Z (st_clr Z Z en172 Z (IndexFunc_ct s hl) ?_)))))))
 refine sV (v_geq Z Z) (sA Z (sK [4] Z (cT ?_)))
 rw [ixO_any]
 exact xt_rt Z ⟨Z,Z⟩ sbq
theorem reserved_lit:reserved=[[73,78,84,69,71,69,82],[66,79,79,76,69,65,78],[65,78,89],[78,79,78,69]]:=by decide +kernel
theorem named_cons (u:UInt8) (t:Nm):named (u::t)=(!((((decide (((u::t).length:Int)<1) || decide (20<((u::t).length:Int))) || ((u::t).any fun u => !okB u)) || decide ((u.toNat:Int)<65)) || decide (90<(u.toNat:Int))) && !reserved.contains (u::t)):=by
 have h1:((u::t).any fun u => !okB u) = !((u::t).all fun b=>upper b || digit b || b.toNat == 95):=by
  rw [List.any_eq_not_all_not]
  congr 2
  funext x
  simp [okB]
 rw [h1]
 unfold named upper
 rw [Bool.eq_iff_iff]
 simp only [Bool.and_eq_true,Bool.or_eq_true,decide_eq_true_eq,Bool.not_eq_true',Bool.or_eq_false_iff,decide_eq_false_iff_not,Bool.not_eq_false',List.length_cons]
 constructor
 ·rintro ⟨⟨⟨a1,a2⟩,a3⟩,a4⟩
  exact ⟨⟨⟨⟨⟨by omega,by omega⟩,a3⟩,by omega⟩,by omega⟩,a4⟩
 ·rintro ⟨⟨⟨⟨⟨_,a1⟩,a3⟩,a5⟩,a6⟩,a4⟩
  exact ⟨⟨⟨by omega,by omega,by omega⟩,a3⟩,a4⟩
set_option maxRecDepth 100000 in
theorem named_ct (s : Nm) : Reads Tryz.prog 129 #[sv s] [] (.bool (named s)) := by
 cases s with
 | nil =>
  refine ct_of (n:=31) Tryz.func129 Z Z (len Z) fun hr w0=>?_
  refine cQ (sA Z (sN (nT (cQ (sA Z (sN (nT (cS (cQ (sM Z (sV (v_slen Z Tryz.underlying9) (sV (v_lss Z Z) ?_))))))))))))
  refine sM Z (st_sk Z Z Z ?_)
  iterate 2 refine st_sk rfl rfl rfl ?_
  refine sV (vQ Z Z) (sM Z (st_sk Z Z Z ?_))
  iterate 2 refine st_sk rfl rfl rfl ?_
  refine sV (vQ Z Z) (sM Z (st_sk Z Z Z ?_))
  iterate 2 refine st_sk rfl rfl rfl ?_
  refine sV (vQ Z Z) (sM Z (st_sk Z Z Z ?_))
  iterate 2 refine st_sk rfl rfl rfl ?_
  refine sV (vQ Z Z) (sK [0,2,26] Z (cd_true Z ?_))
  refine cQ (sA Z (sK [2] Z (cT (xR ?_))))
  exact xt_rt Z ⟨Z,Z⟩ sbq
 | cons u t =>
  rw [named_cons]
  refine ct_of (n:=31) Tryz.func129 Z Z (len Z) fun hr w0=>?_
  refine cQ (sA Z (sN (nT (cQ (sA Z (sN (nT (cS (cQ (sM Z (sV (v_slen Z Tryz.underlying9) (sV (v_lss Z Z) ?_))))))))))))
  refine sM Z (st_cut (k:=8) (d:=11) (v:=.bool (decide (((u::t).length:Int)<1) || decide (20<((u::t).length:Int)))) (fun hcut=>bool_want (b:=decide (((u::t).length:Int)<1)) false (fun hg=>?_) (fun hg=>?_)) ?_)
  ·refine st_sk Z Z hg ?_
   iterate 2 refine st_sk rfl rfl hg ?_
   refine sV (vQ (bO Z hg) Z) ?_
   exact hcut _ uG
  ·refine sG Z (bG Z hg) (vM Z) (sG Z (bG Z hg) (v_slen Z Tryz.underlying9) (sG Z (bG Z hg) (v_gtr Z Z) (sV (vP (bO Z hg) Z) ?_)))
   exact hcut _ uG
  refine sM Z (st_cut (k:=13) (d:=16) (v:=.bool ((decide (((u::t).length:Int)<1) || decide (20<((u::t).length:Int))) || ((u::t).any fun u => !okB u))) (fun hcut=>bool_want (b:=decide (((u::t).length:Int)<1) || decide (20<((u::t).length:Int))) false (fun hg=>?_) (fun hg=>?_)) ?_)
  ·refine st_sk Z Z hg ?_
   iterate 2 refine st_sk rfl rfl hg ?_
   refine sV (vQ (bO Z hg) Z) ?_
   exact hcut _ uG
  ·refine sG Z (bG Z hg) (vM Z) (sG Z (bG Z hg) (vM Z) (st_clrg Z (bG Z hg) Z Z en158 Z (ContainsFunc_ct (u::t) (by simp only [Bool.or_eq_false_iff,decide_eq_false_iff_not] at hg; omega)) ?_))
   refine sV (vP (bO Z hg) Z) ?_
   exact hcut _ uG
  refine sM Z (st_cut (k:=18) (d:=21) (v:=.bool (((decide (((u::t).length:Int)<1) || decide (20<((u::t).length:Int))) || ((u::t).any fun u => !okB u)) || decide ((u.toNat:Int)<65))) (fun hcut=>bool_want (b:=(decide (((u::t).length:Int)<1) || decide (20<((u::t).length:Int))) || ((u::t).any fun u => !okB u)) false (fun hg=>?_) (fun hg=>?_)) ?_)
  ·refine st_sk Z Z hg ?_
   iterate 2 refine st_sk rfl rfl hg ?_
   refine sV (vQ (bO Z hg) Z) ?_
   exact hcut _ uG
  ·refine sG Z (bG Z hg) (vM Z) (sG Z (bG Z hg) (v_sindex (k:=0) Z Z Tryz.underlying9 Z Z) (sG Z (bG Z hg) (v_lss Z Z) (sV (vP (bO Z hg) Z) ?_)))
   exact hcut _ uG
  refine sM Z (st_cut (k:=23) (d:=26) (v:=.bool ((((decide (((u::t).length:Int)<1) || decide (20<((u::t).length:Int))) || ((u::t).any fun u => !okB u)) || decide ((u.toNat:Int)<65)) || decide (90<(u.toNat:Int)))) (fun hcut=>bool_want (b:=((decide (((u::t).length:Int)<1) || decide (20<((u::t).length:Int))) || ((u::t).any fun u => !okB u)) || decide ((u.toNat:Int)<65)) false (fun hg=>?_) (fun hg=>?_)) ?_)
  ·refine st_sk Z Z hg ?_
   iterate 2 refine st_sk rfl rfl hg ?_
   refine sV (vQ (bO Z hg) Z) ?_
   exact hcut _ uG
  ·refine sG Z (bG Z hg) (vM Z) (sG Z (bG Z hg) (v_sindex (k:=0) Z Z Tryz.underlying9 Z Z) (sG Z (bG Z hg) (v_gtr Z Z) (sV (vP (bO Z hg) Z) ?_)))
   exact hcut _ uG
  refine sK [0,2,26] Z (cC Z (fun hx=>?_) (fun hx=>?_))
  ·refine cQ (sA Z (sK [2] Z (cT (xR ?_))))
   rw [hx]
   exact xt_rt Z ⟨Z,Z⟩ sbq
  ·refine cK (xT (cQ ?_))
   rw [hx,reserved_lit]
   refine st_buildSlice (cells:=[sv [73,78,84,69,71,69,82],sv [66,79,79,76,69,65,78],sv [65,78,89],sv [78,79,78,69]]) Z Tryz.underlying50 inf9 Z Z (by kernel_rfl) (ltn Z) fun b27=>?_
   refine st_pv (pv_of (b:=b27) (n:=4) (sz:=1) (E:=9) (([[73,78,84,69,71,69,82],[66,79,79,76,69,65,78],[65,78,89],[78,79,78,69]]:List Nm).map nC) Z (by simp [nC]) Z (by decide)) ?_
   simp only [lC,lN]
   refine st_ok (r:=NR (.slice (some ⟨b27,0,none⟩) 4 4) [[73,78,84,69,71,69,82],[66,79,79,76,69,65,78],[65,78,89],[78,79,78,69]]) slq fun hok=>?_
   refine sM Z (st_clr Z Z en123 Z (Contains_ct (nms_own hok) (u::t) (by decide)) ?_)
   refine sV (v_not Z) (sA Z (sK [2] Z (cT ?_)))
   exact xt_rt Z ⟨Z,Z⟩ sbq
end
end Go.Hr
namespace Go.Hr
open Go Go.Ck Go.Proofs Go.Proofs.YtaohbfnepjjdgaaGreat Fx
attribute [local irreducible] Go.Ck.Sub St Cd Xt Nx DrL LsW
theorem dd_len : ∀ (xs o : List Nm), o.Nodup → (dd o xs).length ≤ o.length + xs.length ∧ ((dd o xs).length < o.length + xs.length ↔ ¬ (o ++ xs).Nodup)
 | [],o,ho=>by simp [dd,ho]
 | x::t,o,ho=>by
  show (dd (step o x) t).length≤_∧((dd (step o x) t).length<_↔_)
  by_cases hx:x∈o
  ·rw [step_mem hx]
   have:=(dd_len t o ho).1
   rw [List.length_cons]
   refine ⟨by omega,fun _ hn=>?_,fun _=>by omega⟩
   exact (List.nodup_append.1 hn).2.2 x hx x (by simp) Z
  ·rw [step_new hx]
   have hn:(o++[x]).Nodup:=List.nodup_append.2 ⟨ho,by simp,fun a ha b hb e=>by simp at hb; exact hx (hb ▸ e ▸ ha)⟩
   have:=dd_len t (o++[x]) hn
   rw [List.length_append,List.length_singleton,List.append_assoc] at this
   rw [List.length_cons]
   simp only [lC,lN] at this
   rw [show o.length+(t.length+1)=o.length+1+t.length by omega]
   exact this
def twM (xs:List Nm):List (Nm×Unit):=xs.foldl (fun F x=>aupd F x ()) []
theorem tw_keys (xs : List Nm) : (twM xs).map (·.1) = dd [] xs := by
 have key:∀ (xs:List Nm) (F:List (Nm×Unit)),(xs.foldl (fun F x=>aupd F x ()) F).map (·.1)=dd (F.map (·.1)) xs:=by
  intro xs
  induction xs with
  | nil=>intro F; rfl
  | cons x t ih =>
   intro F
   rw [List.foldl_cons,ih]
   show dd _ t=dd (step _ x) t
   congr 1
   cases h:alook F x with
   | none=>rw [aupd_new h,step_new (alook_none.1 h),List.map_append]; rfl
   | some u=>rw [aupd_keys h,step_mem (alook_mem h)]
 exact key xs []
theorem tw_less (xs:List Nm):decide (((twM xs).length:Int)<xs.length) = !decide xs.Nodup:=by
 have h1:(twM xs).length=(dd [] xs).length:=by rw [← tw_keys,List.length_map]
 have h2:=dd_len xs [] List.nodup_nil
 rw [h1]
 simp only [List.length_nil,Nat.zero_add,List.nil_append] at h2
 rw [Bool.eq_iff_iff,decide_eq_true_eq,Bool.not_eq_true',decide_eq_false_iff_not,← h2.2]
 omega
theorem tw_take {xs:List Nm} {i:Nat} (h:i<xs.length):twM (xs.take (i+1))=aupd (twM (xs.take i)) xs[i] ():=by
 unfold twM
 rw [List.take_succ_eq_append_getElem h,List.foldl_append]; rfl
def tV (_:Unit):Value:=.bool true
theorem mvG_len {α : Type} (g : α → Value) (F:List (Nm × α)):(mvG g F).length=F.length:=by simp [mvG]
section
variable {S:Res} {v:Value}
set_option maxRecDepth 100000 in
theorem tellP_ct (p:Nm) (a b c d e:Value) (h1:[sv p,a,b,c,d,e].all Value.oneCell'=true):Reads Tryz.prog 131 #[.agg #[sv p,a,b,c,d,e]] [] (sv p):=by
 refine ct_of (n:=5) Tryz.func131 Z Z (len Z) fun hr w0=>?_
 refine cQ (st_bx Z Z fun b1=>?_)
 refine sA Z (sK [1,2] Z (cQ (sV (vF Z fa79_0 Z) (sV (vY Z ld9) ?_))))
 refine sA Z (sK [2] Z (cT ?_))
 exact xt_rt Z ⟨Z,Z⟩ sbq
set_option maxRecDepth 100000 in
theorem twiceP_ct {ps : List Nm} (hP : Row S 6 parC v ps) (hl : ps.length ≤ 1099511627776) : Reads Tryz.prog 130 #[v, .func (.func 131) #[] #[]] [S] (.bool (!decide ps.Nodup)) := by
 obtain ⟨a,cap,rfl,_⟩:=id hP
 refine ct_of (n:=25) Tryz.func130 Z Z (len Z) fun hr w0=>?_
 refine cQ (sA Z (sN (nT (cQ (st_smakeMap (ltn Z) fun b8=>?_)))))
 refine sA Z (sK [0,1,4,5] Z (cS (cQ (sM Z (sV (v_len Z Tryz.underlying49) (sM Z (sN (nT (cB ?_)))))))))
 rw [show ([]:List (Bs×Value))=mvG tV (twM (ps.take 0)) from rfl]
 refine cd_lq (σ := Nat) (fun i=>[(0,.slice a ps.length cap),(1,.func (.func 131) #[] #[]),(5,.map (some b8)),(9,.slice a ps.length cap),(10,.int .i64 ps.length),(11,.int .i64 (i:Nat))]) (fun i=>mps b8 (mvG tV (twM (ps.take i)))::S::hr) (fun i=>i≤ps.length) (fun i=>ps.length - i) 0 (Nat.zero_le _) ?_
 intro i hi
 refine cQ (sV (v_lss Z Z) (sN (nT (cS (cC Z (fun hd=>?_) (fun hd=>?_))))))
 ·have hlt:i<ps.length:=by simpa using hd
  obtain ⟨b,o,cap2,c1,c2,c3,c4,c5,hv2,hrd,hone⟩:=par_at hP (List.getElem?_eq_getElem hlt)
  refine cK (xT (cS (cB (cQ (sV (vI (k:=i) (congrArg some hv2) Z sl49 Z hlt Z) (sV (v_ldn Z ld79 Z hrd) ?_))))))
  refine st_alc al79 fun b7=>?_
  refine st_stoW Z Z sz79 Z hone ?_
  refine sK [0,1,5,7,9,10,11] Z (cR (sM Z (sM Z (sV (v_ldn Z ld79 Z rds_pt) ?_))))
  refine st_clr Z Z en131 Z (tellP_ct ps[i] c1 c2 c3 c4 c5 hone) ?_
  refine st_smapUpdate Z Z Z mp205 slq ?_
  refine sN (nK [0,1,5,9,10,11] Z (nx_xt (xB (xT (cR (sV (v_add Z Z (by unfold I64 at *; omega)) (sM Z (sN (nK [0,1,5,9,10,11] Z (nx_xt ?_))))))))))
  rw [show supd (mvG tV (twM (ps.take i))) ps[i] (.bool true)=mvG tV (twM (ps.take (i+1))) by rw [tw_take hlt]; exact supd_mvG tV _ _ ()]
  refine xt_aq (i+1) hlt (by show _ - _<_ - _; omega)
 ·have hil:i=ps.length:=by
   have:¬ i<ps.length:=by simpa using hd
   omega
  subst hil
  rw [List.take_length]
  refine cd_exit (xE (xE (xY (xT (cQ (sM Z (sV (v_mlen Z Tryz.underlying205 slq) ?_)))))))
  refine sM Z (sV (v_len Z Tryz.underlying49) (sV (v_lss Z Z) (sA Z (sK [4] Z (cT ?_)))))
  rw [mvG_len,tw_less]
  exact xt_rt Z ⟨Z,Z⟩ sbq
end
end Go.Hr
