/-
  Package flat: whether types,variables,expressions,groups,members,flat forms are equal. Conditions: what is read.
-/
import Derived.Test.YtknmacdbffgjgaaGreatDoorP4
import Derived.Test.YtknmacdbffgjgaaGreatDoorP3
import Derived.Test.YtknmacdbffgjgaaGreatDoorP2
set_option linter.unusedVariables false
set_option linter.unusedSimpArgs false
set_option maxRecDepth 100000
set_option maxHeartbeats 16000000
namespace Go.Fl
open Go Go.Hr
section
variable {l:FS}
theorem Ap {a b:List Nm} (h:∀ x,x∈a↔x∈b) (ha:a.Nodup) (hb:b.Nodup):a.length=b.length :=
 Nat.le_antisymm (aN ha λx hx=>(h x).1 hx) (aN hb λx hx=>(h x).2 hx)
theorem AJ (xs:List Nm):(dd [] xs).Nodup:=by
 have : ∀ (xs o : List Nm), o.Nodup -> (dd o xs).Nodup := by
  intro xs
  induction xs with
  | nil=>exact λ_ h=>h
  | cons x t ih =>
   intro o h
   refine ih (Hr.step o x) ?_
   by_cases hx:x∈o
   .rw [lV hx]; exact h
   .rw [oF hx]
    refine List.nodup_append.2 ⟨h,by simp,λa ha b hb=>?_⟩
    simp only [List.mem_singleton] at hb
    subst hb
    exact λe=>hx (e ▸ ha)
 exact this xs [] List.nodup_nil
theorem qw {c:FC} {xs:List Cm} {n:Nm}:n∈picked c xs↔∃ x∈xs,(cO c x.par).sel.contains x.mem.name=true/\x.mem.name=n:=by
 unfold picked
 rw [zC,List.mem_map]
 constructor
 .rintro (h | ⟨x,h,rfl⟩)
  .cases h
  .exact ⟨x,(List.mem_filter.1 h).1,(List.mem_filter.1 h).2,rfl⟩
 .rintro ⟨x,h1,h2,rfl⟩
  exact .inr ⟨x,List.mem_filter.2 ⟨h1,h2⟩,rfl⟩
theorem qO (hr : Right (aZ l)) {fl fl' : Nm -> Fl} {s : Sd} {n : Nat} (c : Nm) (h : ∀ a, has (aZ l) c a = true -> a ≠ c -> ML (fl a).mems (fl' a).mems) {ms ms' : List Mb} (hm : ML ms ms')
  (ih:∀ {k},n=k+1->∀ p∈(ae l c).pars,(dE fl' (tl l) k (ae (tl l) p.name) (fl' p.name).mems s).2=(dE fl l k (ae l p.name) (fl p.name).mems s).2 /\
   ((dE fl l k (ae l p.name) (fl p.name).mems s).2=true->(dE fl' (tl l) k (ae (tl l) p.name) (fl' p.name).mems s).1=(dE fl l k (ae l p.name) (fl p.name).mems s).1)) :
  (dE fl' (tl l) n (ae (tl l) c) ms' s).2=(dE fl l n (ae l c) ms s).2/\((dE fl l n (ae l c) ms s).2=true->(dE fl' (tl l) n (ae (tl l) c) ms' s).1=(dE fl l n (ae l c) ms s).1):=by
 have hP:PR l fl fl' (ae l c):=λp hp=>h _ (jZ hr.acyc<|dK hr hp).1 (jZ hr.acyc<|dK hr hp).2
 have hcl:ae (tl l) c=rv (ae l c):=mE c
 generalize hC:ae l c=C at *
 rw [hcl]
 have hh1:∀ x∈having (comes fl l C) s,∃ y∈having (comes fl' (tl l)<|rv C) s,CR C.pars.length x y:=λx hx=>by
  obtain ⟨h1,h2⟩:=List.mem_filter.1 hx
  obtain ⟨y,hy,hr⟩:=uB hP h1
  exact ⟨y,List.mem_filter.2 ⟨hy,by rw [<- hr.mem.seeds]; exact h2⟩,hr⟩
 have hh2:∀ y∈having (comes fl' (tl l)<|rv C) s,∃ x∈having (comes fl l C) s,CR C.pars.length x y:=λy hy=>by
  obtain ⟨h1,h2⟩:=List.mem_filter.1 hy
  obtain ⟨x,hx,hr⟩:=sU hP h1
  exact ⟨x,List.mem_filter.2 ⟨hx,by rw [hr.mem.seeds]; exact h2⟩,hr⟩
 have hpk:∀ m,m∈picked (rv C) (having (comes fl' (tl l)<|rv C) s)↔m∈picked C (having (comes fl l C) s):=λm=>by
  rw [qw,qw]
  constructor
  .rintro ⟨y,hy,h1,h2⟩
   obtain ⟨x,hx,hr⟩:=hh2 y hy
   exact ⟨x,hx,by rw [<- EX hr,hr.mem.name]; exact h1,by rw [hr.mem.name]; exact h2⟩
  .rintro ⟨x,hx,h1,h2⟩
   obtain ⟨y,hy,hr⟩:=hh1 x hx
   exact ⟨y,hy,by rw [EX hr,<- hr.mem.name]; exact h1,by rw [<- hr.mem.name]; exact h2⟩
 have hpl:(picked (rv C)<|having (comes fl' (tl l)<|rv C) s).length=(picked C<|having (comes fl l C) s).length:=Ap hpk (AJ _)<|AJ _
 have hplt:∀ x∈having (comes fl l C) s,x.par<C.pars.length:=λx hx=>by
  obtain ⟨y,_,hr⟩:=hh1 x hx
  have:=hr.par; omega
 have hfp:∀ i,i<C.pars.length->(i∈bE (having (comes fl l C) s)↔C.pars.length - 1 - i∈bE (having (comes fl' (tl l)<|rv C) s)):=λi hi=>by
  rw [eX,eX]
  constructor
  .rintro ⟨x,hx,rfl⟩
   obtain ⟨y,hy,hr⟩:=hh1 x hx
   exact ⟨y,hy,by have:=hr.par; omega⟩
  .rintro ⟨y,hy,h1⟩
   obtain ⟨x,hx,hr⟩:=hh2 y hy
   exact ⟨x,hx,by have:=hr.par; omega⟩
 have hfl : (bE<|having (comes fl' (tl l)<|rv C) s).length = (bE<|having (comes fl l C) s).length := by
  have hlt':∀ i∈bE (having (comes fl' (tl l)<|rv C) s),i<C.pars.length:=λi hi=>by
   obtain ⟨y,hy,rfl⟩:=eX.1 hi
   obtain ⟨x,_,hr⟩:=hh2 y hy
   have:=hr.par; omega
  have hlt:∀ i∈bE (having (comes fl l C) s),i<C.pars.length:=λi hi=>by
   obtain ⟨y,hy,rfl⟩:=eX.1 hi
   exact hplt y hy
  refine Nat.le_antisymm ?_ ?_
  .have h1:((bE<|having (comes fl' (tl l)<|rv C) s).map λi=>C.pars.length - 1 - i).Nodup:=by
    rw [List.nodup_iff_pairwise_ne,List.pairwise_map]
    refine (List.nodup_iff_pairwise_ne.1<|rX _).imp_of_mem λ{a b} ha hb hab e=>hab ?_
    have:=hlt' a ha; have:=hlt' b hb; omega
   have:=aN h1 (b:=bE<|having (comes fl l C) s) λx hx=>by
    obtain ⟨i,hi,rfl⟩:=List.mem_map.1 hx
    have:=hlt' i hi
    rw [hfp _ (by omega),show C.pars.length - 1 - (C.pars.length - 1 - i)=i by omega]
    exact hi
   simpa using this
  .have h1:((bE<|having (comes fl l C) s).map λi=>C.pars.length - 1 - i).Nodup:=by
    rw [List.nodup_iff_pairwise_ne,List.pairwise_map]
    refine (List.nodup_iff_pairwise_ne.1<|rX _).imp_of_mem λ{a b} ha hb hab e=>hab ?_
    have:=hlt a ha; have:=hlt b hb; omega
   have:=aN h1 (b:=bE<|having (comes fl' (tl l)<|rv C) s) λx hx=>by
    obtain ⟨i,hi,rfl⟩:=List.mem_map.1 hx
    exact (hfp i<|hlt i hi).1 hi
   simpa using this
 have hnm:=hm.named s
 have hpe:picked (rv C) (having (comes fl' (tl l)<|rv C) s)≠[]↔picked C (having (comes fl l C) s)≠[]:=by
  rw [<- List.length_pos_iff,<- List.length_pos_iff,hpl]
 have hjn : (picked C<|having (comes fl l C) s).length = 1 -> jK (picked (rv C)<|having (comes fl' (tl l)<|rv C) s) = jK (picked C<|having (comes fl l C) s) := λh1 => by
  have h2:=hpl.trans h1
  match e1:picked C (having (comes fl l C) s),h1 with
  | [a],_ =>
   match e2:picked (rv C) (having (comes fl' (tl l)<|rv C) s),h2 with
   | [b],_ =>
    have:=(hpk b).1 (by rw [e2]; simp)
    rw [e1] at this
    rw [List.mem_singleton.1 this]
 cases n with
 | zero =>
  unfold dE
  rw [hnm]
  split
  .exact ⟨rfl,λ_=>rfl⟩
  .simp only []
   by_cases hq:picked C (having (comes fl l C) s)≠[]\/(bE<|having (comes fl l C) s).length≠1
   .rw [if_pos hq,if_pos (by rw [hpe,hfl]; exact hq)]
    refine ⟨by simp only []; rw [hpl],λh1=>hjn<|by simpa using h1⟩
   .rw [if_neg hq,if_neg (by rw [hpe,hfl]; exact hq)]
    split
    .rename_i e; cases e
    .split
     .rename_i e; cases e
     .exact ⟨rfl,λ_=>rfl⟩
 | succ k =>
  unfold dE
  rw [hnm]
  split
  .exact ⟨rfl,λ_=>rfl⟩
  .simp only []
   by_cases hq:picked C (having (comes fl l C) s)≠[]\/(bE<|having (comes fl l C) s).length≠1
   .rw [if_pos hq,if_pos (by rw [hpe,hfl]; exact hq)]
    refine ⟨by simp only []; rw [hpl],λh1=>hjn<|by simpa using h1⟩
   .rw [if_neg hq, if_neg (by rw [hpe, hfl]; exact hq)]
    have hq2:=(not_or.1 hq).2
    have hl1:(bE<|having (comes fl l C) s).length=1:=Classical.not_not.1 hq2
    have hl2:=hfl.trans hl1
    match e1:bE (having (comes fl l C) s),hl1 with
    | [i],_ =>
     match e2:bE (having (comes fl' (tl l)<|rv C) s),hl2 with
     | [j],_ =>
      obtain ⟨x,hx,hxi⟩:=eX.1 (show i∈bE (having (comes fl l C) s) by rw [e1]; simp)
      obtain ⟨y,hy,hr⟩:=hh1 x hx
      have hyj:y.par∈bE (having (comes fl' (tl l)<|rv C) s):=eX.2 ⟨y,hy,rfl⟩
      rw [e2] at hyj
      have hyj:=List.mem_singleton.1 hyj
      have hpa:cO (rv C) j=cO C i:=by rw [<- hyj,<- hxi]; exact EX hr
      have hpm:cO C i∈C.pars:=o8 (l:=l) (fl:=fl) (s:=s) (by rw [e1]; simp)
      simp only []
      rw [hpa,<- (hP _ hpm).named s]
      obtain ⟨g1,g2⟩:=ih rfl _ hpm
      split
      .exact ⟨g1,λh1=>by simp only [] at h1 ⊢; rw [g2 h1]⟩
      .exact ⟨rfl,λ_=>rfl⟩
theorem I8 (hr:Right (aZ l)) {fl fl':Nm->Fl} {s:Sd}:∀ (n:Nat) (c:Nm),(∀ a,has (aZ l) c a=true->a≠c->ML (fl a).mems (fl' a).mems)->∀ ms ms',ML ms ms' ->
  (dE fl' (tl l) n (ae (tl l) c) ms' s).2=(dE fl l n (ae l c) ms s).2/\((dE fl l n (ae l c) ms s).2=true->(dE fl' (tl l) n (ae (tl l) c) ms' s).1=(dE fl l n (ae l c) ms s).1):=by
 intro n
 induction n with
 | zero=>exact λc h ms ms' hm=>qO hr c h hm λe=>by cases e
 | succ n ih =>
  refine λc h ms ms' hm=>qO hr c h hm λe p hp=>?_
  cases e
  have hpm:=dK hr hp
  exact ih p.name (λa ha hne=>h a (vW hr.acyc hpm ha).1 (vW hr.acyc hpm ha).2) _ _ (h _ (jZ hr.acyc hpm).1 (jZ hr.acyc hpm).2)
theorem AL {a b:List Sd} (h:∀ s,s∈a↔s∈b):nX a=nX b :=
 yt (fG a).1 (fG b).1 λm=>by rw [(fG a).2,(fG b).2,h]
theorem LX (h:Good l) {c:Nm} (hc:(bQ l c).isSome=true) (hp:PR l (FL l) (FL (tl l)) (ae l c)):ML (msF l c) (msF (tl l) c):=by
 have hst:Still (skF l c false):=(xh rfl).1 (h.ok c hc).1
 obtain ⟨k1,k2,k3⟩:=h.class hc
 have hcl:=mE (l:=l) c
 have hnm:((rv<|ae l c).feats.map λf=>f.name).Nodup:=k1.names
 obtain ⟨m1,m2⟩:=jM (comes (FL l) l<|ae l c) k1.names
 obtain ⟨n1,n2⟩:=jM (comes (FL<|tl l) (tl l)<|rv<|ae l c) hnm
 have hms':msF (tl l) c=members (comes (FL<|tl l) (tl l)<|rv<|ae l c) (rv<|ae l c):=by unfold msF; rw [hcl]
 rw [hms']
 show ML (members (comes (FL l) l<|ae l c)<|ae l c) _
 generalize hC:ae l c=C at *
 have hcs:(skF l c false).cs=comes (FL l) l C:=by show comes (FL l) l (ae l c)=_; rw [hC]
 have hkc:(skF l c false).c=C:=hC
 have hU:∀ n,(under (comes (FL l) l C) n=[]↔under (comes (FL<|tl l) (tl l)<|rv C) n=[]):=λn=>by
  constructor
  .intro e
   refine List.eq_nil_iff_forall_not_mem.2 λy hy=>?_
   obtain ⟨x,hx,_⟩:=jd hp hy
   rw [e] at hx; cases hx
  .intro e
   refine List.eq_nil_iff_forall_not_mem.2 λy hy=>?_
   obtain ⟨x,hx,_⟩:=kM hp hy
   rw [e] at hx; cases hx
 have hseeds:∀ n,(joined<|under (comes (FL l) l C) n).seeds=(joined<|under (comes (FL<|tl l) (tl l)<|rv C) n).seeds:=λn=>AL λs=>by
  rw [List.mem_flatMap,List.mem_flatMap]
  exact ⟨λ⟨x,hx,hs⟩=>by obtain ⟨y,hy,hr⟩:=kM hp hx; exact ⟨y,hy,by rw [<- hr.mem.seeds]; exact hs⟩,λ⟨y,hy,hs⟩=>by obtain ⟨x,hx,hr⟩:=jd hp hy; exact ⟨x,hx,by rw [hr.mem.seeds]; exact hs⟩⟩
 have hpre:∀ n g,g∈(joined<|under (comes (FL l) l C) n).pre↔g∈(joined<|under (comes (FL<|tl l) (tl l)<|rv C) n).pre:=λn g=>by
  rw [mD,mD]
  exact ⟨λ⟨x,hx,hs⟩=>by obtain ⟨y,hy,hr⟩:=kM hp hx; exact ⟨y,hy,(hr.mem.pre g).1 hs⟩,λ⟨y,hy,hs⟩=>by obtain ⟨x,hx,hr⟩:=jd hp hy; exact ⟨x,hx,(hr.mem.pre g).2 hs⟩⟩
 have hpost:∀ n g,g∈(joined<|under (comes (FL l) l C) n).post↔g∈(joined<|under (comes (FL<|tl l) (tl l)<|rv C) n).post:=λn g=>by
  rw [kL,kL]
  exact ⟨λ⟨x,hx,hs⟩=>by obtain ⟨y,hy,hr⟩:=kM hp hx; exact ⟨y,hy,(hr.mem.post g).1 hs⟩,λ⟨y,hy,hs⟩=>by obtain ⟨x,hx,hr⟩:=jd hp hy; exact ⟨x,hx,(hr.mem.post g).2 hs⟩⟩
 have hkind : ∀ x ∈ comes (FL l) l C, x.mem.kind ≠ 3 -> ∃ f, feat (ae l x.mem.impl.cls) x.mem.impl.name = some f /\ f.kind = x.mem.kind := λx hx hk => by
  obtain ⟨p,hpp,m1,hm1,he⟩:=gz hx
  have hpm:=dK (l:=l) h.sys (c:=c) (p:=p) (by rw [hC]; exact List.mem_of_getElem? hpp)
  rw [fB h.sys] at hm1
  have hk1:x.mem.kind=m1.kind:=by
   rw [he] at hk ⊢
   show (if _ then _ else _)=_
   split
   .rename_i hq
    exfalso; apply hk
    show (if _ then _ else _)=_
    rw [if_pos hq]
   .rfl
  obtain ⟨f,h1,h2⟩:=h.kinds _ (by rw [<- dx]; exact kr hpm) m1 hm1 (by rw [<- hk1]; exact hk)
  have hi:x.mem.impl=m1.impl:=by rw [he]; rfl
  exact ⟨f,by rw [hi]; exact h1,by rw [hk1]; exact h2⟩
 have hdf:∀ x:Cm,x.dfd=false↔x.mem.kind≠3:=λx=>by unfold Cm.dfd; simp
 have hJ : ∀ n, feat C n = none -> under (comes (FL l) l C) n ≠ [] -> MR (joined<|under (comes (FL l) l C) n) (joined<|under (comes (FL<|tl l) (tl l)<|rv C) n) := λn hf hne => by
  have hne':under (comes (FL<|tl l) (tl l)<|rv C) n≠[]:=λe=>hne ((hU n).2 e)
  have hty:∀ x∈under (comes (FL l) l C) n,∀ y∈under (comes (FL l) l C) n,x.mem.args=y.mem.args/\x.mem.ty=y.mem.ty:=λx hx y hy=>by
   obtain ⟨hx1,hx2⟩:=bD.1 hx
   obtain ⟨hy1,hy2⟩:=bD.1 hy
   exact gL.1<|hst.t1 x (by rw [hcs]; exact hx1) y (by rw [hcs]; exact hy1) (hx2.trans hy2.symm) (by rw [hkc,hx2]; exact hf)
  obtain ⟨x0,hx0,p1,p2,p3,p4,p5,_⟩:=jw _ hne
  obtain ⟨y0,hy0,q1,q2,q3,q4,q5,_⟩:=jw _ hne'
  obtain ⟨x1,hx1,hr1⟩:=jd hp hy0
  have hpick : ∀ (cs : List Cm), ((joined cs).kind ≠ 3 ↔ ∃ x ∈ cs, x.mem.kind ≠ 3) \/ cs = [] := λcs => by
   by_cases hcs:cs=[]
   .exact .inr hcs
   .left
    unfold joined
    cases hfd:cs.find? (λ(x:Cm) => !x.dfd) with
    | some x =>
     have hxd:=List.find?_some hfd
     have hk:=(hdf x).1 (by simpa using hxd)
     exact ⟨λ_=>⟨x,List.mem_of_find?_eq_some hfd,hk⟩,λ_=>hk⟩
    | none =>
     have hall:=List.find?_eq_none.1 hfd
     have hno:∀ x∈cs,x.mem.kind=3:=λx hx=>by
      have:=hall x hx
      unfold Cm.dfd at this
      simpa using this
     refine ⟨λhk=>?_,λ⟨x,hx,hk⟩=>absurd (hno x hx) hk⟩
     exfalso
     cases cs with
     | nil=>exact hcs rfl
     | cons x t=>exact hk (hno x (by simp))
  have hk1:=(hpick<|under (comes (FL l) l C) n).resolve_right hne
  have hk2:=(hpick<|under (comes (FL<|tl l) (tl l)<|rv C) n).resolve_right hne'
  have hkk:(joined<|under (comes (FL l) l C) n).kind≠3↔(joined<|under (comes (FL<|tl l) (tl l)<|rv C) n).kind≠3:=by
   rw [hk1,hk2]
   exact ⟨λ⟨x,hx,hk⟩=>by obtain ⟨y,hy,hr⟩:=kM hp hx; exact ⟨y,hy,by rw [<- hr.mem.kind]; exact hk⟩,λ⟨y,hy,hk⟩=>by obtain ⟨x,hx,hr⟩:=jd hp hy; exact ⟨x,hx,by rw [hr.mem.kind]; exact hk⟩⟩
  have himp:(joined<|under (comes (FL l) l C) n).kind≠3->x0.mem.impl=x1.mem.impl/\x1.mem.kind≠3:=λhk=>by
   have hk':=hkk.1 hk
   rw [q2,<- hr1.mem.kind] at hk'
   rw [p2] at hk
   obtain ⟨a1,a2⟩:=bD.1 hx0
   obtain ⟨b1,b2⟩:=bD.1 hx1
   have:=hst.t2 x0 (by rw [hcs]; exact a1) x1 (by rw [hcs]; exact b1) (a2.trans b2.symm) (by rw [hkc,a2]; exact hf) ((hdf _).2 hk) ((hdf _).2 hk')
   unfold Sk.same at this
   simp only [Bool.and_eq_true,decide_eq_true_eq] at this
   exact ⟨this.1.1,hk'⟩
  obtain ⟨t1,t2⟩:=hty x0 hx0 x1 hx1
  refine ⟨?_,?_,hseeds n,?_,?_,λhk=>?_,hpre n,hpost n⟩
  .rw [p1,q1,(bD.1 hx0).2,(bD.1 hy0).2]
  .by_cases hk:(joined<|under (comes (FL l) l C) n).kind=3
   .rw [hk]
    exact (Classical.not_not.1 λh2=>(hkk.2 h2) hk).symm
   .obtain ⟨i1,i2⟩:=himp hk
    rw [p2,q2,<- hr1.mem.kind]
    obtain ⟨f,f1,f2⟩:=hkind x0 (bD.1 hx0).1 (by rw [<- p2]; exact hk)
    obtain ⟨g,g1,g2⟩:=hkind x1 (bD.1 hx1).1 i2
    rw [i1,g1] at f1
    cases f1
    rw [<- f2,g2]
  .rw [p4,q4,t1,hr1.mem.args]
  .rw [p5,q5,t2,hr1.mem.ty]
  .obtain ⟨i1,i2⟩:=himp hk
   rw [p3,q3,i1,hr1.mem.impl i2]
 have hO : ∀ f, MR (jB C f<|under (comes (FL l) l C) f.name) (jB (rv C) f<|under (comes (FL<|tl l) (tl l)<|rv C) f.name) := λf => by
  by_cases hu:under (comes (FL l) l C) f.name=[]
  .rw [hu,(hU _).1 hu]; exact MR.refl _
  .have hu':under (comes (FL<|tl l) (tl l)<|rv C) f.name≠[]:=λe=>hu ((hU _).2 e)
   unfold jB
   simp only []
   rw [if_neg hu,if_neg hu']
   refine ⟨rfl,rfl,hseeds _,rfl,rfl,λ_=>rfl,λg=>?_,λg=>?_⟩
   .simp only [jc,List.mem_cons,List.not_mem_nil,or_false,exists_eq_or_imp,exists_eq_left]
    exact or_congr (hpre _ g) Iff.rfl
   .simp only [jc,List.mem_cons,List.not_mem_nil,or_false,exists_eq_or_imp,exists_eq_left]
    exact or_congr (hpost _ g) Iff.rfl
 refine ML.of m1 n1 (λa ha=>?_) λb hb=>?_
 .rcases (gH k1.names).1 ha with ⟨n,⟨x,hx,hn⟩,hf,rfl⟩ | ⟨f,hf,rfl⟩
  .obtain ⟨y,hy,hr⟩:=uB hp hx
   exact ⟨_,(gH hnm).2 (.inl ⟨n,⟨y,hy,by rw [<- hr.mem.name]; exact hn⟩,hf,rfl⟩),hJ n hf<|List.ne_nil_of_mem<|bD.2 ⟨hx,hn⟩⟩
  .exact ⟨_,(gH hnm).2 (.inr ⟨f,hf,rfl⟩),hO f⟩
 .rcases (gH hnm).1 hb with ⟨n,⟨y,hy,hn⟩,hf,rfl⟩ | ⟨f,hf,rfl⟩
  .obtain ⟨x,hx,hr⟩:=sU hp hy
   have hx2:x.mem.name=n:=by rw [hr.mem.name]; exact hn
   exact ⟨_,(gH k1.names).2 (.inl ⟨n,⟨x,hx,hx2⟩,hf,rfl⟩),hJ n hf<|List.ne_nil_of_mem<|bD.2 ⟨hx,hx2⟩⟩
  .exact ⟨_,(gH k1.names).2 (.inr ⟨f,hf,rfl⟩),hO f⟩
theorem K3 {s:Sk} {i:Nat} {n:Nm} {x:Cm}:x∈s.fro i n↔x∈under s.cs n/\x.par=i:=by unfold Sk.fro; rw [List.mem_filter]; simp
theorem GM {xs ys:List Mb} (h:ML xs ys):over xs=over ys:=by
 unfold over
 rw [h.len,h.any λa b hab=>by rw [hab.ty,hab.args]]
theorem EY {xs ys:List Mb} (h:ML xs ys):nX (xs.flatMap λm=>m.seeds)=nX (ys.flatMap λm=>m.seeds):=AL λs=>by
 rw [List.mem_flatMap,List.mem_flatMap]
 exact ⟨λ⟨x,hx,hs⟩=>by obtain ⟨y,hy,hr⟩:=h.left x hx; exact ⟨y,hy,by rw [<- hr.seeds]; exact hs⟩,λ⟨y,hy,hs⟩=>by obtain ⟨x,hx,hr⟩:=h.right y hy; exact ⟨x,hx,by rw [hr.seeds]; exact hs⟩⟩
theorem EZ (h:Good l) {c:Nm} (hc:(bQ l c).isSome=true) (hML:∀ a,has (aZ l) c a=true->ML (msF l a) (msF (tl l) a)):Still (skF (tl l) c false):=by
 have hst:Still (skF l c false):=(xh rfl).1 (h.ok c hc).1
 have htr:=AC h.sys
 have hFL:∀ a,has (aZ l) c a=true->ML (FL l a).mems (FL (tl l) a).mems:=λa ha=>by rw [fB h.sys,fB htr]; exact hML a ha
 have hP:PR l (FL l) (FL<|tl l) (ae l c):=λp hp=>hFL _ (jZ h.sys.acyc<|dK h.sys hp).1
 have hms:=hML c<|lU _ c
 have hcl:=mE (l:=l) c
 have hsel:∀ d,((skF (tl l) c false).sel d).2=((skF l c false).sel d).2:=λd=>by
  have:=(I8 h.sys (s:=d) l.length c (λa ha _=>hFL a ha) _ _ hms).1
  show (dE (FL<|tl l) (tl l) (tl l).length (ae (tl l) c) (msF (tl l) c) d).2=_
  rw [EU]; exact this
 have hseeds:(skF (tl l) c false).seeds=(skF l c false).seeds:=(EY hms).symm
 have hc':(skF (tl l) c false).c=rv (ae l c):=hcl
 have hcs:(skF (tl l) c false).cs=comes (FL<|tl l) (tl l) (rv<|ae l c):=by show comes _ _ (ae (tl l) c)=_; rw [hcl]; rfl
 have hpi:∀ (i:Nat) (p:Pt),(skF (tl l) c false).c.pars[i]? = some p->i<(ae l c).pars.length/\(skF l c false).c.pars[(ae l c).pars.length - 1 - i]? = some p:=λi p hp=>by
  rw [hc'] at hp
  have hlt:i<(ae l c).pars.length:=by have:=(List.getElem?_eq_some_iff.1 hp).1; simpa [rv] using this
  refine ⟨hlt,?_⟩
  show (ae l c).pars[_]? = _
  rw [<- hp]
  show _=(ae l c).pars.reverse[_]?
  rw [List.getElem?_reverse hlt]
 have hpm:∀ p∈(skF (tl l) c false).c.pars,p∈(skF l c false).c.pars:=λp hp=>by
  rw [hc'] at hp
  exact List.mem_reverse.1 hp
 have hfeat:∀ n,feat (skF (tl l) c false).c n=feat (skF l c false).c n:=λn=>by rw [hc']; rfl
 have hfro:∀ (i:Nat) (p:Pt),(skF (tl l) c false).c.pars[i]? = some p->∀ n,((skF (tl l) c false).fro i n).length=((skF l c false).fro ((ae l c).pars.length - 1 - i) n).length:=λi p hp n=>by
  have h1:=(hpi i p hp).2
  rw [Ot,Ot,hp,h1]
  simp only [List.length_map]
  exact ((hP p<|List.mem_of_getElem? h1).filter λa b hab=>by rw [hab.name]).len.symm
 have hfm:∀ (i:Nat) (p:Pt),(skF (tl l) c false).c.pars[i]? = some p->∀ n,∀ y∈(skF (tl l) c false).fro i n,∃ x∈(skF l c false).fro ((ae l c).pars.length - 1 - i) n,CR (ae l c).pars.length x y:=λi p hp n y hy=>by
  obtain ⟨h1,h2⟩:=K3.1 hy
  rw [hcs] at h1
  obtain ⟨x,hx,hr⟩:=jd hP h1
  exact ⟨x,K3.2 ⟨hx,by have:=hr.par; omega⟩,hr⟩
 have hne:∀ (i:Nat) (p:Pt),(skF (tl l) c false).c.pars[i]? = some p->∀ n,((skF (tl l) c false).fro i n=[]↔(skF l c false).fro ((ae l c).pars.length - 1 - i) n=[]):=λi p hp n=>by
  rw [<- List.length_eq_zero_iff,<- List.length_eq_zero_iff,hfro i p hp]
 have hleft:∀ y∈(skF (tl l) c false).cs,∃ x∈(skF l c false).cs,CR (ae l c).pars.length x y:=λy hy=>by rw [hcs] at hy; exact sU hP hy
 have hty:∀ {x y x' y':Cm},CR (ae l c).pars.length x y->CR (ae l c).pars.length x' y'->Sk.sameTy x.mem x'.mem=true->Sk.sameTy y.mem y'.mem=true:=λh1 h2 h3=>by
  rw [gL] at h3 ⊢
  exact ⟨h1.mem.args.symm.trans (h3.1.trans h2.mem.args),h1.mem.ty.symm.trans<|h3.2.trans h2.mem.ty⟩
 refine { l1:=?_,l1':=?_,l2:=λp hp=>hst.l2 p (hpm p hp),l3:=?_,l4:=?_,l5:=λp hp n hn=>by rw [hfeat]; exact hst.l5 p (hpm p hp) n hn,red:=?_,t1:=?_,t1':=?_,t2:=?_,c1:=?_,c2:=?_,c3:=?_,ap:=?_ }
 .intro i p hp r hr
  have h1:=(hpi i p hp).2
  have h2:=hst.l1 _ p h1 r hr
  rcases (hP p<|List.mem_of_getElem? h1).find r.fro with ⟨a1,_⟩ | ⟨a,b,_,b1,_⟩
  .have a1':dF ((skF l c false).fl p.name).mems r.fro=none:=a1
   rw [a1'] at h2; cases h2
  .have b1':dF ((skF (tl l) c false).fl p.name).mems r.fro=some b:=b1
   rw [b1']; rfl
 .intro i p hp n hn e
  exact hst.l1' _ p (hpi i p hp).2 n hn ((hne i p hp n).1 e)
 .intro i p hp m hm
  rw [hfro i p hp]
  have h1:=(hpi i p hp).2
  obtain ⟨a,ha,hab⟩:=(hP p<|List.mem_of_getElem? h1).right m hm
  rw [<- hab.name]
  exact hst.l3 _ p h1 a ha
 .intro i p hp n hn y hy
  obtain ⟨x,hx,hr⟩:=hfm i p hp n y hy
  rw [<- hr.was]
  exact hst.l4 _ p (hpi i p hp).2 n hn x hx
 .intro k hk f y hy hf
  obtain ⟨x,hx,hr⟩:=hleft y hy
  rw [hfeat,<- hr.mem.name] at hf
  rw [<- hst.red k hk f x hx hf]
  have hpa:cO (skF (tl l) c false).c y.par=cO (skF l c false).c x.par:=by rw [hc']; exact EX hr
  match k with
  | 0=>show (y.mem.kind == 1)=(x.mem.kind == 1); rw [hr.mem.kind]
  | 1=>show (!y.dfd && !(cO (skF (tl l) c false).c y.par).red.contains f.name)=(!x.dfd && !(cO (skF l c false).c x.par).red.contains f.name); rw [hr.dfd,hpa]
  | k+2=>show (f.kind == 3 && !y.dfd)=(f.kind == 3 && !x.dfd); rw [hr.dfd]
 .intro y hy y' hy' hyy hf
  obtain ⟨x,hx,hr⟩:=hleft y hy
  obtain ⟨x',hx',hr'⟩:=hleft y' hy'
  rw [hfeat,<- hr.mem.name] at hf
  exact hty hr hr'<|hst.t1 x hx x' hx' (by rw [hr.mem.name,hr'.mem.name]; exact hyy) hf
 .intro y hy f hf
  obtain ⟨x,hx,hr⟩:=hleft y hy
  rw [hfeat,<- hr.mem.name] at hf
  rw [<- hr.mem.args,<- hr.mem.ty]
  exact hst.t1' x hx f hf
 .intro y hy y' hy' hyy hf hd hd'
  obtain ⟨x,hx,hr⟩:=hleft y hy
  obtain ⟨x',hx',hr'⟩:=hleft y' hy'
  rw [hfeat,<- hr.mem.name] at hf
  rw [<- hr.dfd] at hd
  rw [<- hr'.dfd] at hd'
  have:=hst.t2 x hx x' hx' (by rw [hr.mem.name,hr'.mem.name]; exact hyy) hf hd hd'
  unfold Sk.same at this ⊢
  rw [Bool.and_eq_true,Bool.and_eq_true,decide_eq_true_eq,decide_eq_true_eq] at this
  rw [Bool.and_eq_true,Bool.and_eq_true,decide_eq_true_eq,decide_eq_true_eq]
  have hk:∀ z:Cm,z.dfd=false->z.mem.kind≠3:=λz hz=>by unfold Cm.dfd at hz; simpa using hz
  exact ⟨⟨(hr.mem.impl<|hk x hd).symm.trans (this.1.1.trans<|hr'.mem.impl<|hk x' hd'),hr.mem.seeds.symm.trans<|this.1.2.trans hr'.mem.seeds⟩,hty hr hr' this.2⟩
 .intro d hd
  rw [hseeds] at hd
  rw [hsel]; exact hst.c1 d hd
 .intro i p hp n hn
  rw [hne i p hp]
  rcases hst.c2 _ p (hpi i p hp).2 n hn with h1 | h1
  .exact .inl h1
  .right
   have hnm:∀ d,aX (msF (tl l) c) d=aX (msF l c) d:=λd=>(hms.named d).symm
   show (((dF (msF (tl l) c) n).getD mb0).seeds.any λd=>decide (1<(aX (msF (tl l) c) d).length))=true
   have h1:(((dF (msF l c) n).getD mb0).seeds.any λd=>decide (1<(aX (msF l c) d).length))=true:=h1
   simp only [hnm]
   rcases hms.find n with ⟨a1,b1⟩ | ⟨a,b,a1,b1,hab⟩
   .rw [b1]; rw [a1] at h1; exact h1
   .rw [b1]; rw [a1] at h1
    show b.seeds.any _=true
    rw [<- hab.seeds]; exact h1
 .intro hd m hm
  obtain ⟨a,ha,hab⟩:=hms.right m hm
  rw [<- hab.kind]
  exact hst.c3 (by rw [hc'] at hd; exact hd) a ha
 .intro d hd i k a b hik h1 h2
  rw [hseeds] at hd
  have hf:ML ((msF l c).filter λm=>m.seeds.contains d) ((msF (tl l) c).filter λm=>m.seeds.contains d):=hms.filter λa b hab=>by rw [hab.seeds]
  have hl:=hf.len
  have hi:=(List.getElem?_eq_some_iff.1 h1).1
  have hk:=(List.getElem?_eq_some_iff.1 h2).1
  have hi':i<((msF l c).filter λm=>m.seeds.contains d).length:=by rw [hl]; exact hi
  have hk':k<((msF l c).filter λm=>m.seeds.contains d).length:=by rw [hl]; exact hk
  have r1:=hf.at i _ a (List.getElem?_eq_getElem hi') h1
  have r2:=hf.at k _ b (List.getElem?_eq_getElem hk') h2
  have h3:=gL.1<|hst.ap d hd i k _ _ hik (List.getElem?_eq_getElem hi')<|List.getElem?_eq_getElem hk'
  exact gL.2 ⟨r1.args.symm.trans (h3.1.trans r2.args),r1.ty.symm.trans<|h3.2.trans r2.ty⟩
theorem GN (h:Good l):Good (tl l)/\∀ c,(bQ l c).isSome=true->ML (msF l c) (msF (tl l) c):=by
 have htr:=AC h.sys
 have hML:∀ c,(bQ l c).isSome=true->ML (msF l c) (msF (tl l) c):=by
  refine nI h.sys.acyc λc ih hc=>LX h hc λp hp=>?_
  have hpm:=dK h.sys hp
  rw [fB h.sys,fB htr]
  exact ih _ hpm (by rw [<- dx]; exact kr hpm)
 refine ⟨⟨LW h.right,λn hn=>?_⟩,hML⟩
 have hn':(bQ l n).isSome=true:=by rw [zm] at hn; simpa using hn
 refine ⟨(xh rfl).2 (EZ h hn' λa ha=>hML a (by rw [<- dx]; exact sD (by rw [dx]; exact hn') ha)),?_⟩
 rw [<- GM (hML n hn')]
 exact (h.ok n hn').2
theorem I9 (h:Good l):(fF (tl l)).2=0/\(fF (tl l)).1.length=(fF l).1.length/\∀ (i:Nat) (x y:Fl),(fF l).1[i]? = some x->(fF (tl l)).1[i]? = some y->x.name=y.name/\ML x.mems y.mems:=by
 obtain ⟨hg,hML⟩:=GN h
 rw [h.flats,hg.flats,Oq]
 refine ⟨rfl,by simp,λi x y hx hy=>?_⟩
 simp only [List.getElem?_map,Option.map_eq_some_iff] at hx hy
 obtain ⟨n,hn,rfl⟩:=hx
 obtain ⟨n',hn',rfl⟩:=hy
 rw [hn] at hn'
 cases hn'
 have hns:=(iy h.sys).1 (List.mem_of_getElem? hn)
 have hns':(bQ (tl l) n).isSome=true:=by rw [zm]; simpa using hns
 rw [(h.mems hns).1,(hg.mems hns').1,fB h.sys,fB hg.sys]
 exact ⟨rfl,hML n hns⟩
end
def resN : Nm := "Result".toUTF8.data.toList
def rn (s:Nm):Nm:=if s=resN\/s=[] then s else 113::s
def Nrm (s:Nm):Prop:=s≠resN/\s≠[]
mutual
def rEx:Ex->Ex
 | .mk k n i l=>.mk k (if k=6\/k=10 then rn n else n) i (rExs l)
def rExs:List Ex->List Ex
 | []=>[]
 | a::t=>rEx a::rExs t
end
def rCla (c:Cla):Cla:=⟨c.tag,rEx c.ex⟩
def rGrp (g:Grp):Grp:=⟨g.cls,g.cs.map rCla⟩
def rVr (v:Vr):Vr:=⟨rn v.name,v.ty⟩
def rSd (s:Sd):Sd:=⟨s.cls,rn s.name⟩
def rMb (m:Mb):Mb:={ m with name:=rn m.name,args:=m.args.map rVr,impl:=rSd m.impl,seeds:=m.seeds.map rSd,pre:=m.pre.map rGrp,post:=m.post.map rGrp }
def rFl (f:Fl):Fl:={ f with mems:=f.mems.map rMb,inv:=f.inv.map rGrp }
def rFe (f:Fe):Fe:={ f with name:=rn f.name,args:=f.args.map rVr,req:=f.req.map rCla,ens:=f.ens.map rCla }
def rPn (x:Pn):Pn:=⟨rn x.fro,rn x.to⟩
def rPt (p:Pt):Pt:={ p with ren:=p.ren.map rPn,und:=p.und.map rn,red:=p.red.map rn,sel:=p.sel.map rn }
def rFC (c:FC):FC:={ c with pars:=c.pars.map rPt,feats:=c.feats.map rFe,inv:=c.inv.map rCla }
def rl (l:FS):FS:=l.map rFC
def rCm (x:Cm):Cm:={ x with og:=⟨x.og.par,rn x.og.name⟩,mem:=rMb x.mem }
structure NrmF (l:FS):Prop where
 feat:∀ c∈l,∀ f∈c.feats,Nrm f.name/\f.name.length<20
 ren:∀ c∈l,∀ p∈c.pars,∀ x∈p.ren,Nrm x.fro/\Nrm x.to/\x.fro.length<20/\x.to.length<20
section
variable {l:FS}
def NrmS (xs:List Sd):Prop:=∀ s∈xs,Nrm s.name
end
section
variable {l:FS}
def GQ (fl:Nm->Fl) (l:FS) (c:FC) (ms:List Mb) (s:Sd) (up:Pt->Nm×Bool):Nm×Bool :=
 if (aX ms s).length=1 then ((aX ms s).headD [],true)
 else if picked c (having (comes fl l c) s)≠[]\/(bE<|having (comes fl l c) s).length≠1 then (jK (picked c<|having (comes fl l c) s),(picked c<|having (comes fl l c) s).length == 1)
 else up (cO c<|(bE<|having (comes fl l c) s).headD 0)
theorem LY {fl:Nm->Fl} {c:FC} {ms:List Mb} {s:Sd}:dE fl l 0 c ms s=GQ fl l c ms s λ_=>([],false):=by
 unfold dE GQ
 match aX ms s with
 | [a]=>rfl
 | []=>
  have h01:¬ ((0:Nat)=1):=by decide
  simp only [List.length_nil,h01,if_false]
  split
  .rfl
  .split
   .rename_i e; cases e
   .rfl
 | a::b::t =>
  have h01:¬ (t.length+1+1=1):=by omega
  simp only [List.length_cons,h01,if_false]
  split
  .rfl
  .split
   .rename_i e; cases e
   .rfl
theorem Dz {fl : Nm -> Fl} {c : FC} {ms : List Mb} {s : Sd} {n : Nat} : dE fl l (n + 1) c ms s = GQ fl l c ms s λp =>
  if 1<(aX (fl p.name).mems s).length then (bJ p (dE fl l n (ae l p.name) (fl p.name).mems s).1,(dE fl l n (ae l p.name) (fl p.name).mems s).2) else ([],false):=by
 have key:∀ (xs:List Nat) (f:Nat->Nm×Bool),xs.length=1->(match xs,n+1 with
   | i::_,k+1=>(λ(i k:Nat)=>f i) i k
   | _,_=>([],false))=f (xs.headD 0):=λxs f h=>by
  match xs,h with
  | [i],_=>rfl
 unfold GQ
 rw [dE]
 split
 .rename_i a e; rw [e]; rfl
 .rename_i hne
  have hl:(aX ms s).length≠1:=λh=>by
   match hq:aX ms s,h with
   | [a],_=>exact hne a hq
  rw [if_neg hl]
  simp only []
  by_cases hq:picked c (having (comes fl l c) s)≠[]\/(bE<|having (comes fl l c) s).length≠1
  .rw [if_pos hq,if_pos hq]
  .rw [if_neg hq,if_neg hq]
   have h1:(bE<|having (comes fl l c) s).length=1:=Classical.not_not.1 (not_or.1 hq).2
   match hf:bE (having (comes fl l c) s),h1 with
   | [i],_=>rfl
end
end Go.Fl
namespace Go.Ck
open Go Go.RowKit

def Ext (X Y:Res):Prop:=∃ T:Res,∀ f t,bn f (Y::t)↔bn f (T::X::t)
section
variable {X Y Zq:Res}
theorem Ext.refl (X:Res):Ext X X:=⟨Res.star [],λ_ t=>(dL (h:=[]) (k:=X::t)).symm⟩
theorem Ext.trans (h:Ext X Y) (k:Ext Y Zq):Ext X Zq:=by
 obtain ⟨T,hT⟩:=h
 obtain ⟨U,hU⟩:=k
 refine ⟨Res.star [U,T],λf t=>?_⟩
 rw [hU,dL]
 have h1:bn f (U::Y::t)↔bn f (Y::U::t):=bn.perm<|.swap _ _ _
 rw [h1,hT]
 exact bn.perm (by
  show (T::X::U::t).Perm (U::T::X::t)
  exact (List.perm_middle (l₁ := [T,X])))
theorem Ext.vw (h:Ext X Y):∃ T,∀ t,Vw (Y::t) (T::X::t):=by
 obtain ⟨T,hT⟩:=h
 exact ⟨T,λt w hh=>(hT _ _).1 hh⟩
theorem Ext.rd (h:Ext X Y) (p:Addr) (u:Value) (hr:Rd X p u):Rd Y p u:=λw hw=>by
 obtain ⟨T,hT⟩:=h
 have h1:=(hT (hp w) []).1 ⟨hw,λb _ hb=>hb,trivial⟩
 exact hr w h1.2.2.1
theorem Ext.packs (X:Res) (L:SH):Ext X (Res.star (L++[X])):=⟨Res.star L,λf t=>by
 rw [dL,dL]
 exact bn.perm (by rw [List.append_assoc]; exact .refl _)⟩
theorem iT {X:Res} {L L':SH} {r:Res} (s:Sel L r L') (p:Addr) (u:Value) (h:Rd r p u):Rd (Res.star (L++[X])) p u:=by
 have:Sel (L++[X]) r (L'++[X]):=by
  clear h
  induction s with
  | here=>exact .here
  | there _ ih=>exact .there ih
 exact pM this h
end
def CtX (P:Program) (k:FuncId) (args:Array Value) (X:Res) (hf:SH) (R:Value->Res->SH->Prop):Prop:=Ct P k args (X::hf) λu h'=>∃ Y k',h'=Y::k'/\Ext X Y/\R u Y k'
theorem CtX.mono {P:Program} {k:FuncId} {args:Array Value} {X:Res} {hf:SH} {R R':Value->Res->SH->Prop} (h:CtX P k args X hf R) (hr:∀ u Y k',Ext X Y->R u Y k'->R' u Y k'):CtX P k args X hf R':=Ct.mono h λ_ _ ⟨Y,k',h1,h2,h3⟩=>⟨Y,k',h1,h2,hr _ _ _ h2 h3⟩
section
variable {c:Cx} {ops:Array Oper} {K:Act->World->Prop} {rest:List Oper} {e:Env} {h h' hr:SH} {Q:Exit->Act->World->Prop} {x:Code} {ex:Exit} {X:Res} {L:SH}
theorem uC (p:Pk h (L++[X]) hr):Vw h (Res.star (L++[X])::hr):=λ_ hh=>dG.2<|hh.pk p
theorem oh (L:SH) (X:Res) (hn:∀ Y,Ext X Y->(∀ r L',Sel L r L'->∀ p u,Rd r p u->Rd Y p u)->St c ops K rest e (Y::hr)) (p:Pk h (L++[X]) hr:=by repeat (first | exact Pk.nil | (apply Pk.cons; (repeat (first | exact Sel.here | apply Sel.there))))):St c ops K rest e h :=
 rQ (uC p) (hn _ (Ext.packs X L) λ_ _ s p u h=>iT s p u h)
theorem iP (L:SH) (X:Res) (hn:∀ Y,Ext X Y->(∀ r L',Sel L r L'->∀ p u,Rd r p u->Rd Y p u)->Xt c ex Q e (Y::hr)) (p:Pk h (L++[X]) hr:=by repeat (first | exact Pk.nil | (apply Pk.cons; (repeat (first | exact Sel.here | apply Sel.there))))):Xt c ex Q e h :=
 jq (uC p) (hn _ (Ext.packs X L) λ_ _ s p u h=>iT s p u h)
theorem E5 (L:SH) (X:Res) (hn:∀ Y,Ext X Y->(∀ r L',Sel L r L'->∀ p u,Rd r p u->Rd Y p u)->Cd c x Q e (Y::hr)) (p:Pk h (L++[X]) hr:=by repeat (first | exact Pk.nil | (apply Pk.cons; (repeat (first | exact Sel.here | apply Sel.there))))):Cd c x Q e h :=
 dY (uC p) (hn _ (Ext.packs X L) λ_ _ s p u h=>iT s p u h)
end

/-! ## What has a plain reading -/
class Enc (α : Type) where
 sz:Nat
 by':Nat
 rep:Res->List Value -> α -> Prop
 len:∀ {X:Res} {us:List Value} {a : α},rep X us a->us.length=sz
 ones:∀ {X:Res} {us:List Value} {a : α},rep X us a->us.all Value.oneCell'=true
 up:∀ {X Y:Res} {us:List Value} {a : α},(∀ p u,Rd X p u->Rd Y p u)->rep X us a->rep Y us a
def Ls {α : Type} [Enc α] (X:Res) (v:Value) (xs:List α):Prop:=Row X (Enc.sz α) (Enc.rep X) v xs/\xs.length * Enc.by' α <= reachBytes
section
variable {α : Type} [Enc α] {X Y R:Res} {v:Value} {xs ys:List α} {us:List Value} {a : α}
theorem Ls.up' (hr:∀ p u,Rd X p u->Rd Y p u) (h:Ls X v xs):Ls Y v xs:=⟨Row.mono h.1 hr λ_ _ _ g=>Enc.up hr g,h.2⟩
theorem Ls.up (h:Ls X v xs) (he:Ext X Y):Ls Y v xs:=h.up' he.rd
theorem Ls.nil:Ls X (.slice none 0 0) ([]:List α):=⟨Row.nil,by simp⟩
theorem Ls.one (h:Ls X v xs):v.oneCell'=true:=Row.one h.1
theorem Ls.form (h:Ls X v xs):∃ a cap,v = .slice a xs.length cap/\xs.length<=cap/\cap<=maxLen/\(a=none->cap=0):=by
 obtain ⟨⟨a,cap,h1,h2,h3,h4,_⟩,_⟩:=h
 exact ⟨a,cap,h1,h2,h3,h4⟩
theorem Ls.at (h:Ls X v xs) {i:Nat} (hi:xs[i]? = some a):∃ b o cap us,v = .slice (some ⟨b,o,none⟩) xs.length cap/\us.length=Enc.sz α /\ Rds X b (o+i * Enc.sz α) us/\Enc.rep X us a:=Row.at h.1 hi
theorem Ls.sizes (h:Ls X v xs):xs.length * Enc.by' α <= reachBytes:=h.2
def Rws (X:Res) (rows:List (List Value)) (xs:List α):Prop:=rows.length=xs.length/\∀ (j:Nat) us x,rows[j]? = some us->xs[j]? = some x->Enc.rep X us x
theorem Rws.nil:Rws X [] ([]:List α):=⟨rfl,λj us x h=>by simp at h⟩
theorem Rws.up {rows:List (List Value)} (h:Rws X rows xs) (he:Ext X Y):Rws Y rows xs:=⟨h.1,λj us x h1 h2=>Enc.up he.rd<|h.2 j us x h1 h2⟩
theorem Rws.snoc {rows:List (List Value)} (h:Rws X rows xs) (ha:Enc.rep X us a):Rws X (rows++[us]) (xs++[a]):=by
 refine ⟨by simp [h.1],λj vs x h1 h2=>?_⟩
 by_cases hj:j<rows.length
 .rw [List.getElem?_append_left hj] at h1
  rw [List.getElem?_append_left (by rw [<- h.1]; exact hj)] at h2
  exact h.2 j vs x h1 h2
 .have h3:=(List.getElem?_eq_some_iff.1 h1).1
  have h4:j=rows.length:=by simp at h3; omega
  subst h4
  rw [List.getElem?_append_right (Nat.le_refl _),Nat.sub_self] at h1
  rw [h.1,List.getElem?_append_right (Nat.le_refl _),Nat.sub_self] at h2
  simp only [List.getElem?_cons_zero,Option.some.injEq] at h1 h2
  subst h1 h2; exact ha
theorem Rws.app {rows rows':List (List Value)} (h:Rws X rows xs) (h':Rws X rows' ys):Rws X (rows++rows') (xs++ys):=by
 refine ⟨by simp [h.1,h'.1],λj vs x h1 h2=>?_⟩
 by_cases hj:j<rows.length
 .rw [List.getElem?_append_left hj] at h1
  rw [List.getElem?_append_left (by rw [<- h.1]; exact hj)] at h2
  exact h.2 j vs x h1 h2
 .rw [List.getElem?_append_right (by omega)] at h1
  rw [List.getElem?_append_right (by rw [<- h.1]; omega),<- h.1] at h2
  exact h'.2 _ vs x h1 h2
theorem Rws.lens {rows:List (List Value)} (h:Rws X rows xs):∀ r∈rows,r.length=Enc.sz α := λr hr=>by
 obtain ⟨j,hj,rfl⟩:=List.getElem_of_mem hr
 exact Enc.len<|h.2 j _ _ (Zy hj)<|Zy (by rw [<- h.1]; exact hj)
theorem Rws.ones {rows:List (List Value)} (h:Rws X rows xs):∀ u∈rows.flatten,u.oneCell'=true:=λu hu=>by
 obtain ⟨r,hr,hu⟩:=List.mem_flatten.1 hu
 obtain ⟨j,hj,rfl⟩:=List.getElem_of_mem hr
 exact List.all_eq_true.1 (Enc.ones<|h.2 j _ _ (Zy hj)<|Zy (by rw [<- h.1]; exact hj)) u hu
theorem Rws.ls {E:TypeId} {rows:List (List Value)} (h:Rws X rows xs) (hok:∃ f,(VR v E (Enc.sz α) rows).ok f) (hr:∀ p u,Rd (VR v E (Enc.sz α) rows) p u->Rd X p u) (hb:xs.length * Enc.by' α <= reachBytes):Ls X v xs :=
 ⟨NP hok h.1 hr h.2,hb⟩
theorem Ls.rows (h:Ls X v xs):∃ rows,Rws X rows xs/\∀ (j:Nat) us,rows[j]? = some us->∃ b o cap,v = .slice (some ⟨b,o,none⟩) xs.length cap/\Rds X b (o+j * Enc.sz α) us:=by
 have : ∀ n, n <= xs.length -> ∃ rows : List (List Value), rows.length = n /\ ∀ (j : Nat) us, rows[j]? = some us -> ∃ x, xs[j]? = some x /\ Enc.rep X us x /\ ∃ b o cap, v = .slice (some ⟨b, o, none⟩) xs.length cap /\ Rds X b (o + j * Enc.sz α) us := by
  intro n
  induction n with
  | zero=>exact λ_=>⟨[],rfl,λj us h=>by simp at h⟩
  | succ n ih =>
   intro hn
   obtain ⟨rows,h1,h2⟩:=ih<|by omega
   obtain ⟨b,o,cap,us,g1,g2,g3,g4⟩:=h.at<|Zy (show n<xs.length by omega)
   refine ⟨rows++[us],by simp [h1],λj vs hj=>?_⟩
   by_cases hjl:j<rows.length
   .rw [List.getElem?_append_left hjl] at hj; exact h2 j vs hj
   .have h3:=(List.getElem?_eq_some_iff.1 hj).1
    have h4:j=n:=by simp at h3; omega
    subst h4
    rw [List.getElem?_append_right (by omega),h1,Nat.sub_self] at hj
    simp only [List.getElem?_cons_zero,Option.some.injEq] at hj
    subst hj
    exact ⟨_,Zy _,g4,b,o,cap,g1,g3⟩
 obtain ⟨rows,h1,h2⟩:=this xs.length (Nat.le_refl _)
 refine ⟨rows,⟨h1,λj us x g1 g2=>?_⟩,λj us g=>?_⟩
 .obtain ⟨y,k1,k2,_⟩:=h2 j us g1
  rw [k1] at g2; cases g2; exact k2
 .obtain ⟨_,_,_,k⟩:=h2 j us g; exact k
end
end Go.Ck
namespace Go.Fl
open Go Go.RowKit Go.Ck Go.Hr
instance encN:Enc Nm where
 sz:=1
 by':=16
 rep _ us n:=us=[sv n]
 len h:=by subst h; rfl
 ones h:=by subst h; rfl
 up _ h:=h
/-! ### Types -/
def tyC (t:Kt) (x:Value):List Value:=[.int .i64 t.kind,sv t.name,x,.bool t.void,.bool t.sep]
def tyR (S:Res):Nat->List Value->Kt->Prop
 | 0,_,_=>False
 | n+1,us,t=>∃ x,us=tyC t x/\Row S 5 (tyR S n) x t.args/\t.args.length * 56<=reachBytes
section
variable {S T:Res}
theorem tyR.mono (hr:∀ p u,Rd S p u->Rd T p u):∀ {n:Nat} {us:List Value} {t:Kt},tyR S n us t->tyR T n us t
 | 0,_,_,h=>h.elim
 | n+1,us,t,⟨x,h1,h2,h3⟩=>⟨x,h1,h2.mono hr λ_ _ _ h=>tyR.mono hr h,h3⟩
theorem tyR.le:∀ {n m:Nat} {us:List Value} {t:Kt},tyR S n us t->n<=m->tyR S m us t
 | 0,_,_,_,h,_=>h.elim
 | n+1,0,_,_,_,h=>by omega
 | n+1,m+1,us,t,⟨x,h1,h2,h3⟩,h=>⟨x,h1,h2.mono (λ_ _ h=>h) λ_ _ _ g=>tyR.le g (by omega),h3⟩
theorem tyR.depth:∀ {n:Nat} {us:List Value} {t:Kt},tyR S n us t->tyR S t.depth us t
 | 0,_,_,h=>h.elim
 | n+1,us,.mk k nm az v s,⟨x,h1,h2,h3⟩=>⟨x,h1,h2.mono (λ_ _ h=>h) λus' a ha g=>(tyR.depth g).le (qi ha),h3⟩
end
instance encT:Enc Kt where
 sz:=5
 by':=56
 rep S us t:=tyR S t.depth us t
 len {X us t} h:=by
  obtain ⟨k,nm,az,v,s⟩:=t
  obtain ⟨x,rfl,_⟩:=h; rfl
 ones {X us t} h:=by
  obtain ⟨k,nm,az,v,s⟩:=t
  obtain ⟨x,rfl,h2,_⟩:=h
  simp only [tyC,List.all_cons,List.all_nil,h2.one,Bool.and_true,Bool.true_and]; rfl
 up hr h:=tyR.mono hr h
abbrev Ty (S:Res) (us:List Value) (t:Kt):Prop:=Enc.rep S us t
abbrev Tys (S:Res) (v:Value) (ts:List Kt):Prop:=Ls S v ts
section
variable {S T:Res}
theorem gI {us:List Value} {t:Kt} {x:Value} (h1:us=tyC t x) (h2:Tys S x t.args):Ty S us t:=by
 obtain ⟨k,nm,az,v,s⟩:=t
 exact ⟨x,h1,h2.1.mono (λ_ _ h=>h) λus' a ha g=>tyR.le g (qi ha),h2.2⟩
theorem eH {us:List Value} {t:Kt} (h:Ty S us t):∃ x,us=tyC t x/\Tys S x t.args:=by
 obtain ⟨k,nm,az,v,s⟩:=t
 obtain ⟨x,h1,h2,h3⟩:=h
 exact ⟨x,h1,h2.mono (λ_ _ h=>h) λus' a ha g=>tyR.depth g,h3⟩
end
/-! ### Expressions -/
def exC (t:Ex) (x:Value):List Value:=[.int .i64 t.kind,sv t.name,.int .i64 t.num,x]
def exR (S:Res):Nat->List Value->Ex->Prop
 | 0,_,_=>False
 | n+1,us,t=>∃ x,us=exC t x/\Row S 4 (exR S n) x t.kids/\t.kids.length * 56<=reachBytes
section
variable {S T:Res}
theorem exR.mono (hr:∀ p u,Rd S p u->Rd T p u):∀ {n:Nat} {us:List Value} {t:Ex},exR S n us t->exR T n us t
 | 0,_,_,h=>h.elim
 | n+1,us,t,⟨x,h1,h2,h3⟩=>⟨x,h1,h2.mono hr λ_ _ _ h=>exR.mono hr h,h3⟩
theorem exR.le:∀ {n m:Nat} {us:List Value} {t:Ex},exR S n us t->n<=m->exR S m us t
 | 0,_,_,_,h,_=>h.elim
 | n+1,0,_,_,_,h=>by omega
 | n+1,m+1,us,t,⟨x,h1,h2,h3⟩,h=>⟨x,h1,h2.mono (λ_ _ h=>h) λ_ _ _ g=>exR.le g (by omega),h3⟩
theorem exR.depth:∀ {n:Nat} {us:List Value} {t:Ex},exR S n us t->exR S t.depth us t
 | 0,_,_,h=>h.elim
 | n+1,us,.mk k nm i l,⟨x,h1,h2,h3⟩=>⟨x,h1,h2.mono (λ_ _ h=>h) λus' a ha g=>(exR.depth g).le (vS ha),h3⟩
end
instance encE:Enc Ex where
 sz:=4
 by':=56
 rep S us t:=exR S t.depth us t
 len {X us t} h:=by
  obtain ⟨k,nm,i,l⟩:=t
  obtain ⟨x,rfl,_⟩:=h; rfl
 ones {X us t} h:=by
  obtain ⟨k,nm,i,l⟩:=t
  obtain ⟨x,rfl,h2,_⟩:=h
  simp only [exC,List.all_cons,List.all_nil,h2.one,Bool.and_true]; rfl
 up hr h:=exR.mono hr h
section
variable {S T:Res}
theorem DC {us:List Value} {t:Ex} {x:Value} (h1:us=exC t x) (h2:Ls S x t.kids):Enc.rep S us t:=by
 obtain ⟨k,nm,i,l⟩:=t
 exact ⟨x,h1,h2.1.mono (λ_ _ h=>h) λus' a ha g=>exR.le g (vS ha),h2.2⟩
theorem mF {us:List Value} {t:Ex} (h:Enc.rep S us t):∃ x,us=exC t x/\Ls S x t.kids:=by
 obtain ⟨k,nm,i,l⟩:=t
 obtain ⟨x,h1,h2,h3⟩:=h
 exact ⟨x,h1,h2.mono (λ_ _ h=>h) λus' a ha g=>exR.depth g,h3⟩
end
/-! ### The rest -/
instance encCla:Enc Cla where
 sz:=5
 by':=72
 rep S us c:=∃ es,us=sv c.tag::es/\Enc.rep S es c.ex
 len h:=by obtain ⟨es,rfl,h2⟩:=h; rw [List.length_cons,Enc.len h2]; rfl
 ones h:=by obtain ⟨es,rfl,h2⟩:=h; rw [List.all_cons,Enc.ones h2]; rfl
 up hr h:=by obtain ⟨es,h1,h2⟩:=h; exact ⟨es,h1,Enc.up hr h2⟩
instance encGrp:Enc Grp where
 sz:=2
 by':=40
 rep S us g:=∃ x,us=[sv g.cls,x]/\Ls S x g.cs
 len h:=by obtain ⟨x,rfl,_⟩:=h; rfl
 ones h:=by obtain ⟨x,rfl,h2⟩:=h; simp [h2.one]; rfl
 up hr h:=by obtain ⟨x,h1,h2⟩:=h; exact ⟨x,h1,h2.up' hr⟩
instance encVr:Enc Vr where
 sz:=6
 by':=72
 rep S us v:=∃ ts,us=sv v.name::ts/\Ty S ts v.ty
 len h:=by obtain ⟨es,rfl,h2⟩:=h; rw [List.length_cons,Enc.len h2]; rfl
 ones h:=by obtain ⟨es,rfl,h2⟩:=h; rw [List.all_cons,Enc.ones h2]; rfl
 up hr h:=by obtain ⟨es,h1,h2⟩:=h; exact ⟨es,h1,Enc.up hr h2⟩
instance encSd:Enc Sd where
 sz:=2
 by':=32
 rep _ us s:=us=[sv s.cls,sv s.name]
 len h:=by subst h; rfl
 ones h:=by subst h; rfl
 up _ h:=h
instance encOg:Enc Og where
 sz:=2
 by':=32
 rep _ us s:=us=[sv s.par,sv s.name]
 len h:=by subst h; rfl
 ones h:=by subst h; rfl
 up _ h:=h
instance encFm:Enc Fm where
 sz:=2
 by':=32
 rep _ us s:=us=[sv s.name,sv s.bound]
 len h:=by subst h; rfl
 ones h:=by subst h; rfl
 up _ h:=h
instance encPn:Enc Pn where
 sz:=2
 by':=32
 rep _ us s:=us=[sv s.fro,sv s.to]
 len h:=by subst h; rfl
 ones h:=by subst h; rfl
 up _ h:=h
def mbC (m:Mb) (x2 x5:Value) (ts:List Value) (x11 x12 x13:Value):List Value:=sv m.name::.int .i64 m.kind::x2::sv m.impl.cls::sv m.impl.name::x5::(ts++[x11,x12,x13])
def mbR (S:Res) (m:Mb) (x2 x5:Value) (ts:List Value) (x11 x12 x13:Value):Prop:=Ls S x2 m.seeds/\Ls S x5 m.args/\Ty S ts m.ty/\Ls S x11 m.clients/\Ls S x12 m.pre/\Ls S x13 m.post
instance encMb:Enc Mb where
 sz:=14
 by':=232
 rep S us m:=∃ x2 x5 ts x11 x12 x13,us=mbC m x2 x5 ts x11 x12 x13/\mbR S m x2 x5 ts x11 x12 x13
 len h:=by
  obtain ⟨x2,x5,ts,x11,x12,x13,rfl,_,_,h3,_⟩:=h
  simp [mbC,Enc.len h3]; rfl
 ones h:=by
  obtain ⟨x2,x5,ts,x11,x12,x13,rfl,h1,h2,h3,h4,h5,h6⟩:=h
  simp only [mbC,List.all_cons,List.all_append,Enc.ones h3,List.all_nil,h1.one,h2.one,h4.one,h5.one,h6.one,Bool.and_true,Bool.true_and]; rfl
 up hr h:=by
  obtain ⟨x2,x5,ts,x11,x12,x13,h0,h1,h2,h3,h4,h5,h6⟩:=h
  exact ⟨x2,x5,ts,x11,x12,x13,h0,h1.up' hr,h2.up' hr,Enc.up hr h3,h4.up' hr,h5.up' hr,h6.up' hr⟩
instance encFl:Enc Fl where
 sz:=4
 by':=72
 rep S us f:=∃ x y,us=[sv f.name,.bool f.dfd,x,y]/\Ls S x f.mems/\Ls S y f.inv
 len h:=by obtain ⟨x,y,rfl,_⟩:=h; rfl
 ones h:=by obtain ⟨x,y,rfl,h2,h3⟩:=h; simp [h2.one,h3.one]; exact ⟨rfl,rfl⟩
 up hr h:=by obtain ⟨x,y,h1,h2,h3⟩:=h; exact ⟨x,y,h1,h2.up' hr,h3.up' hr⟩
def feC (f:Fe) (x2 x3:Value) (ts:List Value) (x9 x10 x11 x12 x13 x14:Value):List Value:=.int .i64 f.kind::sv f.name::x2::x3::(ts++[x9,x10,x11,x12,x13,x14])
instance encFe:Enc Fe where
 sz:=15
 by':=256
 rep S us f:=∃ x2 x3 ts x9 x10 x11 x12 x13 x14,us=feC f x2 x3 ts x9 x10 x11 x12 x13 x14/\Ls S x2 f.clients/\Ls S x3 f.args/\Ty S ts f.ty/\Ls S x10 f.req/\Ls S x11 f.ens/\[x9,x12,x13,x14].all Value.oneCell'=true
 len h:=by
  obtain ⟨x2,x3,ts,x9,x10,x11,x12,x13,x14,rfl,_,_,h3,_⟩:=h
  simp [feC,Enc.len h3]; rfl
 ones h:=by
  obtain ⟨x2,x3,ts,x9,x10,x11,x12,x13,x14,rfl,h1,h2,h3,h4,h5,h6⟩:=h
  simp only [List.all_cons,List.all_nil,Bool.and_true,Bool.and_eq_true] at h6
  simp only [feC,List.all_cons,List.all_append,Enc.ones h3,List.all_nil,h1.one,h2.one,h4.one,h5.one,h6.1,h6.2.1,h6.2.2.1,h6.2.2.2,Bool.and_true,Bool.true_and]; rfl
 up hr h:=by
  obtain ⟨x2,x3,ts,x9,x10,x11,x12,x13,x14,h0,h1,h2,h3,h4,h5,h6⟩:=h
  exact ⟨x2,x3,ts,x9,x10,x11,x12,x13,x14,h0,h1.up' hr,h2.up' hr,Enc.up hr h3,h4.up' hr,h5.up' hr,h6⟩
instance encPt:Enc Pt where
 sz:=6
 by':=136
 rep S us p:=∃ a b c d e,us=[sv p.name,a,b,c,d,e]/\Tys S a p.args/\Ls S b p.ren/\Ls S c p.und/\Ls S d p.red/\Ls S e p.sel
 len h:=by obtain ⟨a,b,c,d,e,rfl,_⟩:=h; rfl
 ones h:=by obtain ⟨a,b,c,d,e,rfl,h1,h2,h3,h4,h5⟩:=h; simp [h1.one,h2.one,h3.one,h4.one,h5.one]; rfl
 up hr h:=by obtain ⟨a,b,c,d,e,h0,h1,h2,h3,h4,h5⟩:=h; exact ⟨a,b,c,d,e,h0,h1.up' hr,h2.up' hr,h3.up' hr,h4.up' hr,h5.up' hr⟩
instance encFC:Enc FC where
 sz:=7
 by':=144
 rep S us c:=∃ a b e f i,us=[sv c.name,.bool c.dfd,a,b,e,f,i]/\Ls S a c.forms/\Ls S b c.pars/\e.oneCell'=true/\Ls S f c.feats/\Ls S i c.inv
 len h:=by obtain ⟨a,b,e,f,i,rfl,_⟩:=h; rfl
 ones h:=by obtain ⟨a,b,e,f,i,rfl,h1,h2,h3,h4,h5⟩:=h; simp [h1.one,h2.one,h3,h4.one,h5.one]; exact ⟨rfl,rfl⟩
 up hr h:=by obtain ⟨a,b,e,f,i,h0,h1,h2,h3,h4,h5⟩:=h; exact ⟨a,b,e,f,i,h0,h1.up' hr,h2.up' hr,h3,h4.up' hr,h5.up' hr⟩
instance encCm:Enc Cm where
 sz:=18
 by':=280
 rep S us x:=∃ ms,us=sv x.og.par::sv x.og.name::.int .i64 x.par::(ms++[.int .i64 x.was])/\Enc.rep S ms x.mem
 len h:=by obtain ⟨ms,rfl,h1⟩:=h; simp [Enc.len h1]; rfl
 ones h:=by obtain ⟨ms,rfl,h1⟩:=h; simp only [List.all_cons,List.all_append,Enc.ones h1,List.all_nil,Bool.and_true]; rfl
 up hr h:=by obtain ⟨ms,h0,h1⟩:=h; exact ⟨ms,h0,Enc.up hr h1⟩
def cfC (c:Cf):List Value:=[.int .i64 c.kind,sv c.cls,sv c.name,sv c.other,sv c.a.par,sv c.a.name,sv c.b.par,sv c.b.name]
def cfV (c:Cf):Value:=.agg (cfC c).toArray
end Go.Fl
namespace Go.Ck
open Go Go.RowKit
theorem AO {P:Program} {e:Env} {h:SH} {t E ty:TypeId} {x y:Operand} {z:Value} {sz bytes:Nat} {a:Option Addr} {n cp:Nat} (hx:e.ev? x=some (.slice a n cp)) (hy:e.ev? y=some (.slice none 0 0)) (hT:P.underlying t=some (.slice E)) (hE:Inf P E z sz bytes) (hn:n<=cp):Vop P e h (.call { callee:=.builtin .append,args := #[x,y],argTypes := #[t,t] }) ty (.slice a n cp):=
 ⟨by simp,by simp,λρ w d pos after g hρ _=>by
  obtain ⟨i,hi,hz,hisz,hiby⟩:=hE.parts
  cases a <;> simp [execOp,resolve,invoke,builtin,hρ x _ hx,hρ y _ hy,Builtin.append_,run_underlying hT,sizeOf,typeInfo,hi,Builtin.lenOf,Builtin.firstCells,loadCells,loadCellsFrom,hn,storeCells]⟩
section
variable {α : Type} {S:Res} {sz:Nat} {X:List Value -> α -> Prop}
theorem Row.take {a:Option Addr} {n cp k:Nat} {l:List α} (h:Row S sz X (.slice a n cp) l) (hk:k<=l.length):Row S sz X (.slice a k cp) (l.take k):=by
 obtain ⟨a',cap,he,h2,h3,h4,h5⟩:=h
 cases he
 refine ⟨a,cp,by rw [List.length_take,Nat.min_eq_left hk],by rw [List.length_take]; omega,h3,h4,λi x hi=>?_⟩
 rw [List.getElem?_take] at hi
 split at hi
 .exact h5 i x hi
 .cases hi
theorem Row.drop {b o n cp k:Nat} {l:List α} (h:Row S sz X (.slice (some ⟨b,o,none⟩) n cp) l) (hk:k<=l.length):Row S sz X (.slice (some ⟨b,if cp=k then o else o+k * sz,none⟩) (n - k) (cp - k)) (l.drop k):=by
 obtain ⟨a',cap,he,h2,h3,h4,h5⟩:=h
 cases he
 refine ⟨_,_,by rw [List.length_drop],by rw [List.length_drop]; omega,by omega,(λh=>by cases h),λi x hi=>?_⟩
 rw [List.getElem?_drop] at hi
 have hlt:=(List.getElem?_eq_some_iff.1 hi).1
 obtain ⟨b2,o2,us,e,h6,h7,h8⟩:=h5 (k+i) x hi
 cases e
 refine ⟨_,_,us,Z,h6,?_,h8⟩
 rw [if_neg (by omega),Nat.add_assoc,<- Nat.add_mul]; exact h7
variable {c:Cx} {ops:Array Oper} {K:Act->World->Prop} {rest:List Oper} {e:Env} {h h' h'':SH}
theorem om {l : List α} {v v1 z : Value} {E t ty : TypeId} {bytes d : Nat} {x y : Operand} {pos : String} {after : Array Edge} {rows : List (List Value)} (hv : Row S sz X v l)
  (hx:e.ev? x=some v1) (hy:e.ev? y=some v) (ht:c.P.underlying t=some (.slice E)) (hE:Inf c.P E z sz bytes) (hzs:z.cells.size=sz) (hsz:0<sz)
  (hs:Sel h (VR v1 E sz rows) h') (hS:Sel h' S h'') (h1:∀ us x,x∈l->X us x->∀ u∈us,u.oneCell'=true) (hb:(rows.length+l.length) * bytes<=140737488355328) (h63:rows.length+l.length<=9223372036854775807) (hd:d<c.n)
  (hnx:∀ v' news,v'.oneCell'=true->news.length=l.length->(∀ r∈news,r.length=sz)->(∀ (i:Nat) us x,news[i]? = some us->l[i]? = some x->X us x)->St c ops K rest ((d,v')::e) (VR v' E sz (rows++news)::h')) :
  St c ops K (⟨some d,.call { callee:=.builtin .append,args := #[x,y],argTypes := #[t,t] },ty,pos,after,none⟩::rest) e h:=by
 obtain ⟨a,cap,rfl,hlc,hcm,hnone,hel⟩:=id hv
 have key:St c ops K (⟨some d,.call { callee:=.builtin .append,args := #[x,y],argTypes := #[t,t] },ty,pos,after,none⟩::rest) e (VR v1 E sz rows::h'):=by
  cases a with
  | none =>
   have hc0:cap=0:=hnone rfl
   have hl0:l=[]:=List.eq_nil_of_length_eq_zero<|by omega
   subst hl0 hc0
   refine ni .here λ⟨f,hf⟩=>?_
   have hn:=hnx v1 []
   rw [List.append_nil] at hn
   rcases VR.form hf with ⟨rfl,g1⟩ | ⟨b,o,cp,rfl,g1,g2⟩
   .exact IM (AO hx hy ht hE<|Nat.le_refl _) hd (hn Z Z (by simp) λi us x h=>by simp at h)
   .exact IM (AO hx hy ht hE g1) hd (hn Z Z (by simp) λi us x h=>by simp at h)
  | some a =>
   obtain ⟨news,r1,r2,r3,r4⟩:=hv.cells
   exact KP news hx hy ht hE hzs hsz .here r2 r1 (λj u hu=>by obtain ⟨b2,o,hb2,hr⟩:=r4 j u hu; cases hb2; rw [Addr.add_lit]; exact ⟨S,_,.there hS,hr⟩) (λu hu=>by obtain ⟨us,h2,h3⟩:=List.mem_flatten.1 hu; obtain ⟨i,hi,rfl⟩:=List.mem_iff_getElem.1 h2; exact h1 _ l[i] (List.getElem_mem _) (r3 i _ _ (Zy hi)<|Zy<|by omega) u h3) hb h63 hd λv' hv' _=>hnx v' news hv' r1 r2 r3
 exact St.perm hs.perm key
end
theorem AP {P : Program} {e : Env} {h : SH} {ty : TypeId} {T E : TypeId} {x y z : Operand} {a : Option Addr} {n cp hi mx sz : Nat} {i j : Int} {k k' : IntKind} (hx : e.ev? x = some (.slice a n cp)) (hy : e.ev? y = some (.int k i)) (hz : e.ev? z = some (.int k' j)) (hT : SlE P T E sz)
  (hi':i=(hi:Int)) (hj:j=(mx:Int)) (h1:hi<=mx) (h2:mx<=cp):Vop P e h (.slice T x none (some y)<|some z) ty (.slice a hi mx):=
 ⟨by simp,by simp,λρ w d pos after g hρ _=>by
  subst hi' hj
  have hT':P.underlying T=some (.slice<|P.elem T):=by simp [Program.elem,hT.1]
  have he:P.elem T=E:=by simp [Program.elem,hT.1]
  have hr:=run_slice_hm (P:=P) w T a n cp hT' k k' hi mx (by omega) (by omega)<|by omega
  have hs:sliced a 0 hi mx sz = .slice a hi mx:=by
   unfold sliced; by_cases hcl:mx=0 <;> cases a <;> simp [hcl,Addr.add]
  simp only [he,hT.2 w,Result.andThen_ok,Int.toNat_natCast,hs] at hr
  simp only [execOp,hρ x _ hx,Option.map_some,Option.map_none,hρ y _ hy,hρ z _ hz,Sem.run_bind,run_sliceAt_slice w T _ _ _ _ hT',hr,Result.andThen_ok,Sem.run_pure]⟩
end Go.Ck
namespace Go.Fl
open Go Go.RowKit Go.Ck Go.Proofs Go.Proofs.Tryz Go.Proofs.YtknmacdbffgjgaaGreatDoor Fx Go.Hr
attribute [local irreducible] Go.Ck.Sub St Cd Xt Nx DrL LsW
def ixI (o:Option Nat):Int:=match o with | some i=>i | none => -1
section
variable {X:Res} {v:Value}
theorem LZ {xs:List Pn} {kf:FuncId} {cp:Array Value} {g:Pn->Bool} (hv:Ls X v xs) (hE:Ck.Enters prog kf) (hf:∀ a∈xs,∀ us,Enc.rep X us a->Reads prog kf (#[]++([.agg us.toArray]:List Value).toArray++cp) [X] (.bool (g a))):Reads prog 153 #[v,.func (.func kf) #[] cp] [X] (.int .i64 (ixI (xs.findIdx? g))):=by
 have hml:maxLen=9223372036854775807:=rfl
 obtain ⟨a,cap,rfl,hlc,hcm,_⟩:=id hv.form
 refine aJ (n:=19) func153 Z Z (len Z) λhr w0=>?_
 refine cQ<|sA Z<|sN<|nT<|cS<|cQ<|sM Z<|sV (aC Z underlying86)<|sM Z<|sK [0,1,4,7,8] Z<|cB<|aY (σ := Nat) (λi=>[(0,.slice a xs.length cap),(1,.func (.func kf) #[] cp),(7,.int .i64 xs.length),(8,.int .i64 (i:Nat))]) (λ_=>X::hr) (λi=>i<=xs.length/\∀ j (hj:j<xs.length),j<i->g xs[j]=false) (λi=>xs.length - i) 0 ⟨Nat.zero_le _,λj _ hj=>absurd hj<|Nat.not_lt_zero _⟩ ?_
 rintro i ⟨hi,hal⟩
 refine cQ<|sV (aO Z Z)<|sN<|nT<|cS<|cC Z (λhd=>?_)<|λhd=>?_
 .have hlt:i<xs.length:=Zx
  obtain ⟨b,o,cap2,us,e1,hus,hrd,hre⟩:=hv.at<|Zy hlt
  cases e1
  have hfx:=hf xs[i] (List.getElem_mem hlt) us hre
  refine cK<|xT<|cS<|cB<|cQ<|sM Z<|sA Z<|sK [0,1,5,7,8] Z<|cQ<|sM Z<|sM Z<|sM Z ?_
  refine sV (vI (k:=i) Z Z sl86 Z hlt Z)<|sV (af Z rG hus hrd) ?_
  refine bf Z Z hE Z (hfx) ?_
  refine sK [0,1,5,7,8,16] Z<|cC Z (λhe=>?_)<|λhe=>?_
  .have he:g xs[i]=true:=he
   rw [show xs.findIdx? g=some i by
    rw [List.findIdx?_eq_some_iff_getElem]
    exact ⟨hlt,he,λj hj=>by rw [hal j (by omega) hj]; decide⟩]
   refine cQ<|sM Z<|sA Z<|sK [4] Z<|cT<|xW<|xR<|xR<|xW<|xR ?_
   exact aj Z ⟨Z,Z⟩ sbq
  .have he:g xs[i]=false:=he
   refine cK<|xB<|xT<|cR<|sV (aI Z Z Z0)<|sM Z<|sN<|nK [0,1,7,8] Z<|ax<|aL (i+1) ⟨hlt,λj hj hj2=>?_⟩<|Nat.sub_lt_sub_left hlt<|Nat.lt_succ_self i
   by_cases hji:j=i
   .subst hji; exact he
   .exact hal j hj<|by omega
 .have hil:i=xs.length:=by
   have:¬ i<xs.length:=Zx
   omega
  rw [show xs.findIdx? g=none by
   rw [List.findIdx?_eq_none_iff]
   intro f hfm
   obtain ⟨j,hj,rfl⟩:=List.getElem_of_mem hfm
   exact hal j hj (by omega)]
  refine aB<|xE<|xE<|xY<|xT<|cQ<|sA Z<|sK [4] Z<|cT ?_
  exact aj Z ⟨Z,Z⟩ sbq
theorem L6 {xs:List FC} {kf:FuncId} {cp:Array Value} {g:FC->Bool} (hv:Ls X v xs) (hE:Ck.Enters prog kf) (hf:∀ a∈xs,∀ us,Enc.rep X us a->Reads prog kf (#[]++([.agg us.toArray]:List Value).toArray++cp) [X] (.bool (g a))):Reads prog 150 #[v,.func (.func kf) #[] cp] [X] (.int .i64 (ixI (xs.findIdx? g))):=by
 have hml:maxLen=9223372036854775807:=rfl
 obtain ⟨a,cap,rfl,hlc,hcm,_⟩:=id hv.form
 refine aJ (n:=19) func150 Z Z (len Z) λhr w0=>?_
 refine cQ<|sA Z<|sN<|nT<|cS<|cQ<|sM Z<|sV (aC Z underlying22)<|sM Z<|sK [0,1,4,7,8] Z<|cB<|aY (σ := Nat) (λi=>[(0,.slice a xs.length cap),(1,.func (.func kf) #[] cp),(7,.int .i64 xs.length),(8,.int .i64 (i:Nat))]) (λ_=>X::hr) (λi=>i<=xs.length/\∀ j (hj:j<xs.length),j<i->g xs[j]=false) (λi=>xs.length - i) 0 ⟨Nat.zero_le _,λj _ hj=>absurd hj<|Nat.not_lt_zero _⟩ ?_
 rintro i ⟨hi,hal⟩
 refine cQ<|sV (aO Z Z)<|sN<|nT<|cS<|cC Z (λhd=>?_)<|λhd=>?_
 .have hlt:i<xs.length:=Zx
  obtain ⟨b,o,cap2,us,e1,hus,hrd,hre⟩:=hv.at<|Zy hlt
  cases e1
  have hfx:=hf xs[i] (List.getElem_mem hlt) us hre
  refine cK<|xT<|cS<|cB<|cQ<|sM Z<|sA Z<|sK [0,1,5,7,8] Z<|cQ<|sM Z<|sM Z<|sM Z ?_
  refine sV (vI (k:=i) Z Z rE Z hlt Z)<|sV (af Z gU hus hrd) ?_
  refine bf Z Z hE Z (hfx) ?_
  refine sK [0,1,5,7,8,16] Z<|cC Z (λhe=>?_)<|λhe=>?_
  .have he:g xs[i]=true:=he
   rw [show xs.findIdx? g=some i by
    rw [List.findIdx?_eq_some_iff_getElem]
    exact ⟨hlt,he,λj hj=>by rw [hal j (by omega) hj]; decide⟩]
   refine cQ<|sM Z<|sA Z<|sK [4] Z<|cT<|xW<|xR<|xR<|xW<|xR ?_
   exact aj Z ⟨Z,Z⟩ sbq
  .have he:g xs[i]=false:=he
   refine cK<|xB<|xT<|cR<|sV (aI Z Z Z0)<|sM Z<|sN<|nK [0,1,7,8] Z<|ax<|aL (i+1) ⟨hlt,λj hj hj2=>?_⟩<|Nat.sub_lt_sub_left hlt<|Nat.lt_succ_self i
   by_cases hji:j=i
   .subst hji; exact he
   .exact hal j hj<|by omega
 .have hil:i=xs.length:=by
   have:¬ i<xs.length:=Zx
   omega
  rw [show xs.findIdx? g=none by
   rw [List.findIdx?_eq_none_iff]
   intro f hfm
   obtain ⟨j,hj,rfl⟩:=List.getElem_of_mem hfm
   exact hal j hj (by omega)]
  refine aB<|xE<|xE<|xY<|xT<|cQ<|sA Z<|sK [4] Z<|cT ?_
  exact aj Z ⟨Z,Z⟩ sbq
theorem L8 {xs:List Fe} {kf:FuncId} {cp:Array Value} {g:Fe->Bool} (hv:Ls X v xs) (hE:Ck.Enters prog kf) (hf:∀ a∈xs,∀ us,Enc.rep X us a->Reads prog kf (#[]++([.agg us.toArray]:List Value).toArray++cp) [X] (.bool (g a))):Reads prog 151 #[v,.func (.func kf) #[] cp] [X] (.int .i64 (ixI (xs.findIdx? g))):=by
 have hml:maxLen=9223372036854775807:=rfl
 obtain ⟨a,cap,rfl,hlc,hcm,_⟩:=id hv.form
 refine aJ (n:=19) func151 Z Z (len Z) λhr w0=>?_
 refine cQ<|sA Z<|sN<|nT<|cS<|cQ<|sM Z<|sV (aC Z underlying41)<|sM Z<|sK [0,1,4,7,8] Z<|cB<|aY (σ := Nat) (λi=>[(0,.slice a xs.length cap),(1,.func (.func kf) #[] cp),(7,.int .i64 xs.length),(8,.int .i64 (i:Nat))]) (λ_=>X::hr) (λi=>i<=xs.length/\∀ j (hj:j<xs.length),j<i->g xs[j]=false) (λi=>xs.length - i) 0 ⟨Nat.zero_le _,λj _ hj=>absurd hj<|Nat.not_lt_zero _⟩ ?_
 rintro i ⟨hi,hal⟩
 refine cQ<|sV (aO Z Z)<|sN<|nT<|cS<|cC Z (λhd=>?_)<|λhd=>?_
 .have hlt:i<xs.length:=Zx
  obtain ⟨b,o,cap2,us,e1,hus,hrd,hre⟩:=hv.at<|Zy hlt
  cases e1
  have hfx:=hf xs[i] (List.getElem_mem hlt) us hre
  refine cK<|xT<|cS<|cB<|cQ<|sM Z<|sA Z<|sK [0,1,5,7,8] Z<|cQ<|sM Z<|sM Z<|sM Z ?_
  refine sV (vI (k:=i) Z Z sl41 Z hlt Z)<|sV (af Z oQ hus hrd) ?_
  refine bf Z Z hE Z (hfx) ?_
  refine sK [0,1,5,7,8,16] Z<|cC Z (λhe=>?_)<|λhe=>?_
  .have he:g xs[i]=true:=he
   rw [show xs.findIdx? g=some i by
    rw [List.findIdx?_eq_some_iff_getElem]
    exact ⟨hlt,he,λj hj=>by rw [hal j (by omega) hj]; decide⟩]
   refine cQ<|sM Z<|sA Z<|sK [4] Z<|cT<|xW<|xR<|xR<|xW<|xR ?_
   exact aj Z ⟨Z,Z⟩ sbq
  .have he:g xs[i]=false:=he
   refine cK<|xB<|xT<|cR<|sV (aI Z Z Z0)<|sM Z<|sN<|nK [0,1,7,8] Z<|ax<|aL (i+1) ⟨hlt,λj hj hj2=>?_⟩<|Nat.sub_lt_sub_left hlt<|Nat.lt_succ_self i
   by_cases hji:j=i
   .subst hji; exact he
   .exact hal j hj<|by omega
 .have hil:i=xs.length:=by
   have:¬ i<xs.length:=Zx
   omega
  rw [show xs.findIdx? g=none by
   rw [List.findIdx?_eq_none_iff]
   intro f hfm
   obtain ⟨j,hj,rfl⟩:=List.getElem_of_mem hfm
   exact hal j hj (by omega)]
  refine aB<|xE<|xE<|xY<|xT<|cQ<|sA Z<|sK [4] Z<|cT ?_
  exact aj Z ⟨Z,Z⟩ sbq
theorem xk {xs:List Mb} {kf:FuncId} {cp:Array Value} {g:Mb->Bool} (hv:Ls X v xs) (hE:Ck.Enters prog kf) (hf:∀ a∈xs,∀ us,Enc.rep X us a->Reads prog kf (#[]++([.agg us.toArray]:List Value).toArray++cp) [X] (.bool (g a))):Reads prog 222 #[v,.func (.func kf) #[] cp] [X] (.int .i64 (ixI (xs.findIdx? g))):=by
 have hml:maxLen=9223372036854775807:=rfl
 obtain ⟨a,cap,rfl,hlc,hcm,_⟩:=id hv.form
 refine aJ (n:=19) func222 Z Z (len Z) λhr w0=>?_
 refine cQ<|sA Z<|sN<|nT<|cS<|cQ<|sM Z<|sV (aC Z underlying52)<|sM Z<|sK [0,1,4,7,8] Z<|cB<|aY (σ := Nat) (λi=>[(0,.slice a xs.length cap),(1,.func (.func kf) #[] cp),(7,.int .i64 xs.length),(8,.int .i64 (i:Nat))]) (λ_=>X::hr) (λi=>i<=xs.length/\∀ j (hj:j<xs.length),j<i->g xs[j]=false) (λi=>xs.length - i) 0 ⟨Nat.zero_le _,λj _ hj=>absurd hj<|Nat.not_lt_zero _⟩ ?_
 rintro i ⟨hi,hal⟩
 refine cQ<|sV (aO Z Z)<|sN<|nT<|cS<|cC Z (λhd=>?_)<|λhd=>?_
 .have hlt:i<xs.length:=Zx
  obtain ⟨b,o,cap2,us,e1,hus,hrd,hre⟩:=hv.at<|Zy hlt
  cases e1
  have hfx:=hf xs[i] (List.getElem_mem hlt) us hre
  refine cK<|xT<|cS<|cB<|cQ<|sM Z<|sA Z<|sK [0,1,5,7,8] Z<|cQ<|sM Z<|sM Z<|sM Z ?_
  refine sV (vI (k:=i) Z Z oM Z hlt Z)<|sV (af Z fE hus hrd) ?_
  refine bf Z Z hE Z (hfx) ?_
  refine sK [0,1,5,7,8,16] Z<|cC Z (λhe=>?_)<|λhe=>?_
  .have he:g xs[i]=true:=he
   rw [show xs.findIdx? g=some i by
    rw [List.findIdx?_eq_some_iff_getElem]
    exact ⟨hlt,he,λj hj=>by rw [hal j (by omega) hj]; decide⟩]
   refine cQ<|sM Z<|sA Z<|sK [4] Z<|cT<|xW<|xR<|xR<|xW<|xR ?_
   exact aj Z ⟨Z,Z⟩ sbq
  .have he:g xs[i]=false:=he
   refine cK<|xB<|xT<|cR<|sV (aI Z Z Z0)<|sM Z<|sN<|nK [0,1,7,8] Z<|ax<|aL (i+1) ⟨hlt,λj hj hj2=>?_⟩<|Nat.sub_lt_sub_left hlt<|Nat.lt_succ_self i
   by_cases hji:j=i
   .subst hji; exact he
   .exact hal j hj<|by omega
 .have hil:i=xs.length:=by
   have:¬ i<xs.length:=Zx
   omega
  rw [show xs.findIdx? g=none by
   rw [List.findIdx?_eq_none_iff]
   intro f hfm
   obtain ⟨j,hj,rfl⟩:=List.getElem_of_mem hfm
   exact hal j hj (by omega)]
  refine aB<|xE<|xE<|xY<|xT<|cQ<|sA Z<|sK [4] Z<|cT ?_
  exact aj Z ⟨Z,Z⟩ sbq
theorem L9 {xs:List Fm} {kf:FuncId} {cp:Array Value} {g:Fm->Bool} (hv:Ls X v xs) (hE:Ck.Enters prog kf) (hf:∀ a∈xs,∀ us,Enc.rep X us a->Reads prog kf (#[]++([.agg us.toArray]:List Value).toArray++cp) [X] (.bool (g a))):Reads prog 185 #[v,.func (.func kf) #[] cp] [X] (.int .i64 (ixI (xs.findIdx? g))):=by
 have hml:maxLen=9223372036854775807:=rfl
 obtain ⟨a,cap,rfl,hlc,hcm,_⟩:=id hv.form
 refine aJ (n:=19) func185 Z Z (len Z) λhr w0=>?_
 refine cQ<|sA Z<|sN<|nT<|cS<|cQ<|sM Z<|sV (aC Z underlying38)<|sM Z<|sK [0,1,4,7,8] Z<|cB<|aY (σ := Nat) (λi=>[(0,.slice a xs.length cap),(1,.func (.func kf) #[] cp),(7,.int .i64 xs.length),(8,.int .i64 (i:Nat))]) (λ_=>X::hr) (λi=>i<=xs.length/\∀ j (hj:j<xs.length),j<i->g xs[j]=false) (λi=>xs.length - i) 0 ⟨Nat.zero_le _,λj _ hj=>absurd hj<|Nat.not_lt_zero _⟩ ?_
 rintro i ⟨hi,hal⟩
 refine cQ<|sV (aO Z Z)<|sN<|nT<|cS<|cC Z (λhd=>?_)<|λhd=>?_
 .have hlt:i<xs.length:=Zx
  obtain ⟨b,o,cap2,us,e1,hus,hrd,hre⟩:=hv.at<|Zy hlt
  cases e1
  have hfx:=hf xs[i] (List.getElem_mem hlt) us hre
  refine cK<|xT<|cS<|cB<|cQ<|sM Z<|sA Z<|sK [0,1,5,7,8] Z<|cQ<|sM Z<|sM Z<|sM Z ?_
  refine sV (vI (k:=i) Z Z sl38 Z hlt Z)<|sV (af Z Kw hus hrd) ?_
  refine bf Z Z hE Z (hfx) ?_
  refine sK [0,1,5,7,8,16] Z<|cC Z (λhe=>?_)<|λhe=>?_
  .have he:g xs[i]=true:=he
   rw [show xs.findIdx? g=some i by
    rw [List.findIdx?_eq_some_iff_getElem]
    exact ⟨hlt,he,λj hj=>by rw [hal j (by omega) hj]; decide⟩]
   refine cQ<|sM Z<|sA Z<|sK [4] Z<|cT<|xW<|xR<|xR<|xW<|xR ?_
   exact aj Z ⟨Z,Z⟩ sbq
  .have he:g xs[i]=false:=he
   refine cK<|xB<|xT<|cR<|sV (aI Z Z Z0)<|sM Z<|sN<|nK [0,1,7,8] Z<|ax<|aL (i+1) ⟨hlt,λj hj hj2=>?_⟩<|Nat.sub_lt_sub_left hlt<|Nat.lt_succ_self i
   by_cases hji:j=i
   .subst hji; exact he
   .exact hal j hj<|by omega
 .have hil:i=xs.length:=by
   have:¬ i<xs.length:=Zx
   omega
  rw [show xs.findIdx? g=none by
   rw [List.findIdx?_eq_none_iff]
   intro f hfm
   obtain ⟨j,hj,rfl⟩:=List.getElem_of_mem hfm
   exact hal j hj (by omega)]
  refine aB<|xE<|xE<|xY<|xT<|cQ<|sA Z<|sK [4] Z<|cT ?_
  exact aj Z ⟨Z,Z⟩ sbq
theorem Ma {xs:List Sd} {kf:FuncId} {cp:Array Value} {g:Sd->Bool} (hv:Ls X v xs) (hE:Ck.Enters prog kf) (hf:∀ a∈xs,∀ us,Enc.rep X us a->Reads prog kf (#[]++([.agg us.toArray]:List Value).toArray++cp) [X] (.bool (g a))):Reads prog 100 #[v,.func (.func kf) #[] cp] [X] (.int .i64 (ixI (xs.findIdx? g))):=by
 have hml:maxLen=9223372036854775807:=rfl
 obtain ⟨a,cap,rfl,hlc,hcm,_⟩:=id hv.form
 refine aJ (n:=19) func100 Z Z (len Z) λhr w0=>?_
 refine cQ<|sA Z<|sN<|nT<|cS<|cQ<|sM Z<|sV (aC Z underlying67)<|sM Z<|sK [0,1,4,7,8] Z<|cB<|aY (σ := Nat) (λi=>[(0,.slice a xs.length cap),(1,.func (.func kf) #[] cp),(7,.int .i64 xs.length),(8,.int .i64 (i:Nat))]) (λ_=>X::hr) (λi=>i<=xs.length/\∀ j (hj:j<xs.length),j<i->g xs[j]=false) (λi=>xs.length - i) 0 ⟨Nat.zero_le _,λj _ hj=>absurd hj<|Nat.not_lt_zero _⟩ ?_
 rintro i ⟨hi,hal⟩
 refine cQ<|sV (aO Z Z)<|sN<|nT<|cS<|cC Z (λhd=>?_)<|λhd=>?_
 .have hlt:i<xs.length:=Zx
  obtain ⟨b,o,cap2,us,e1,hus,hrd,hre⟩:=hv.at<|Zy hlt
  cases e1
  have hfx:=hf xs[i] (List.getElem_mem hlt) us hre
  refine cK<|xT<|cS<|cB<|cQ<|sM Z<|sA Z<|sK [0,1,5,7,8] Z<|cQ<|sM Z<|sM Z<|sM Z ?_
  refine sV (vI (k:=i) Z Z qV Z hlt Z)<|sV (af Z iN hus hrd) ?_
  refine bf Z Z hE Z (hfx) ?_
  refine sK [0,1,5,7,8,16] Z<|cC Z (λhe=>?_)<|λhe=>?_
  .have he:g xs[i]=true:=he
   rw [show xs.findIdx? g=some i by
    rw [List.findIdx?_eq_some_iff_getElem]
    exact ⟨hlt,he,λj hj=>by rw [hal j (by omega) hj]; decide⟩]
   refine cQ<|sM Z<|sA Z<|sK [4] Z<|cT<|xW<|xR<|xR<|xW<|xR ?_
   exact aj Z ⟨Z,Z⟩ sbq
  .have he:g xs[i]=false:=he
   refine cK<|xB<|xT<|cR<|sV (aI Z Z Z0)<|sM Z<|sN<|nK [0,1,7,8] Z<|ax<|aL (i+1) ⟨hlt,λj hj hj2=>?_⟩<|Nat.sub_lt_sub_left hlt<|Nat.lt_succ_self i
   by_cases hji:j=i
   .subst hji; exact he
   .exact hal j hj<|by omega
 .have hil:i=xs.length:=by
   have:¬ i<xs.length:=Zx
   omega
  rw [show xs.findIdx? g=none by
   rw [List.findIdx?_eq_none_iff]
   intro f hfm
   obtain ⟨j,hj,rfl⟩:=List.getElem_of_mem hfm
   exact hal j hj (by omega)]
  refine aB<|xE<|xE<|xY<|xT<|cQ<|sA Z<|sK [4] Z<|cT ?_
  exact aj Z ⟨Z,Z⟩ sbq
theorem Mc {xs:List Grp} {kf:FuncId} {cp:Array Value} {g:Grp->Bool} (hv:Ls X v xs) (hE:Ck.Enters prog kf) (hf:∀ a∈xs,∀ us,Enc.rep X us a->Reads prog kf (#[]++([.agg us.toArray]:List Value).toArray++cp) [X] (.bool (g a))):Reads prog 167 #[v,.func (.func kf) #[] cp] [X] (.int .i64 (ixI (xs.findIdx? g))):=by
 have hml:maxLen=9223372036854775807:=rfl
 obtain ⟨a,cap,rfl,hlc,hcm,_⟩:=id hv.form
 refine aJ (n:=19) func167 Z Z (len Z) λhr w0=>?_
 refine cQ<|sA Z<|sN<|nT<|cS<|cQ<|sM Z<|sV (aC Z underlying53)<|sM Z<|sK [0,1,4,7,8] Z<|cB<|aY (σ := Nat) (λi=>[(0,.slice a xs.length cap),(1,.func (.func kf) #[] cp),(7,.int .i64 xs.length),(8,.int .i64 (i:Nat))]) (λ_=>X::hr) (λi=>i<=xs.length/\∀ j (hj:j<xs.length),j<i->g xs[j]=false) (λi=>xs.length - i) 0 ⟨Nat.zero_le _,λj _ hj=>absurd hj<|Nat.not_lt_zero _⟩ ?_
 rintro i ⟨hi,hal⟩
 refine cQ<|sV (aO Z Z)<|sN<|nT<|cS<|cC Z (λhd=>?_)<|λhd=>?_
 .have hlt:i<xs.length:=Zx
  obtain ⟨b,o,cap2,us,e1,hus,hrd,hre⟩:=hv.at<|Zy hlt
  cases e1
  have hfx:=hf xs[i] (List.getElem_mem hlt) us hre
  refine cK<|xT<|cS<|cB<|cQ<|sM Z<|sA Z<|sK [0,1,5,7,8] Z<|cQ<|sM Z<|sM Z<|sM Z ?_
  refine sV (vI (k:=i) Z Z sl53 Z hlt Z)<|sV (af Z rH hus hrd) ?_
  refine bf Z Z hE Z (hfx) ?_
  refine sK [0,1,5,7,8,16] Z<|cC Z (λhe=>?_)<|λhe=>?_
  .have he:g xs[i]=true:=he
   rw [show xs.findIdx? g=some i by
    rw [List.findIdx?_eq_some_iff_getElem]
    exact ⟨hlt,he,λj hj=>by rw [hal j (by omega) hj]; decide⟩]
   refine cQ<|sM Z<|sA Z<|sK [4] Z<|cT<|xW<|xR<|xR<|xW<|xR ?_
   exact aj Z ⟨Z,Z⟩ sbq
  .have he:g xs[i]=false:=he
   refine cK<|xB<|xT<|cR<|sV (aI Z Z Z0)<|sM Z<|sN<|nK [0,1,7,8] Z<|ax<|aL (i+1) ⟨hlt,λj hj hj2=>?_⟩<|Nat.sub_lt_sub_left hlt<|Nat.lt_succ_self i
   by_cases hji:j=i
   .subst hji; exact he
   .exact hal j hj<|by omega
 .have hil:i=xs.length:=by
   have:¬ i<xs.length:=Zx
   omega
  rw [show xs.findIdx? g=none by
   rw [List.findIdx?_eq_none_iff]
   intro f hfm
   obtain ⟨j,hj,rfl⟩:=List.getElem_of_mem hfm
   exact hal j hj (by omega)]
  refine aB<|xE<|xE<|xY<|xT<|cQ<|sA Z<|sK [4] Z<|cT ?_
  exact aj Z ⟨Z,Z⟩ sbq
theorem DD {xs:List Cm} {kf:FuncId} {cp:Array Value} {g:Cm->Bool} (hv:Ls X v xs) (hE:Ck.Enters prog kf) (hf:∀ a∈xs,∀ us,Enc.rep X us a->Reads prog kf (#[]++([.agg us.toArray]:List Value).toArray++cp) [X] (.bool (g a))):Reads prog 193 #[v,.func (.func kf) #[] cp] [X] (.int .i64 (ixI (xs.findIdx? g))):=by
 have hml:maxLen=9223372036854775807:=rfl
 obtain ⟨a,cap,rfl,hlc,hcm,_⟩:=id hv.form
 refine aJ (n:=19) func193 Z Z (len Z) λhr w0=>?_
 refine cQ<|sA Z<|sN<|nT<|cS<|cQ<|sM Z<|sV (aC Z underlying187)<|sM Z<|sK [0,1,4,7,8] Z<|cB<|aY (σ := Nat) (λi=>[(0,.slice a xs.length cap),(1,.func (.func kf) #[] cp),(7,.int .i64 xs.length),(8,.int .i64 (i:Nat))]) (λ_=>X::hr) (λi=>i<=xs.length/\∀ j (hj:j<xs.length),j<i->g xs[j]=false) (λi=>xs.length - i) 0 ⟨Nat.zero_le _,λj _ hj=>absurd hj<|Nat.not_lt_zero _⟩ ?_
 rintro i ⟨hi,hal⟩
 refine cQ<|sV (aO Z Z)<|sN<|nT<|cS<|cC Z (λhd=>?_)<|λhd=>?_
 .have hlt:i<xs.length:=Zx
  obtain ⟨b,o,cap2,us,e1,hus,hrd,hre⟩:=hv.at<|Zy hlt
  cases e1
  have hfx:=hf xs[i] (List.getElem_mem hlt) us hre
  refine cK<|xT<|cS<|cB<|cQ<|sM Z<|sA Z<|sK [0,1,5,7,8] Z<|cQ<|sM Z<|sM Z<|sM Z ?_
  refine sV (vI (k:=i) Z Z lZ Z hlt Z)<|sV (af Z ik hus hrd) ?_
  refine bf Z Z hE Z (hfx) ?_
  refine sK [0,1,5,7,8,16] Z<|cC Z (λhe=>?_)<|λhe=>?_
  .have he:g xs[i]=true:=he
   rw [show xs.findIdx? g=some i by
    rw [List.findIdx?_eq_some_iff_getElem]
    exact ⟨hlt,he,λj hj=>by rw [hal j (by omega) hj]; decide⟩]
   refine cQ<|sM Z<|sA Z<|sK [4] Z<|cT<|xW<|xR<|xR<|xW<|xR ?_
   exact aj Z ⟨Z,Z⟩ sbq
  .have he:g xs[i]=false:=he
   refine cK<|xB<|xT<|cR<|sV (aI Z Z Z0)<|sM Z<|sN<|nK [0,1,7,8] Z<|ax<|aL (i+1) ⟨hlt,λj hj hj2=>?_⟩<|Nat.sub_lt_sub_left hlt<|Nat.lt_succ_self i
   by_cases hji:j=i
   .subst hji; exact he
   .exact hal j hj<|by omega
 .have hil:i=xs.length:=by
   have:¬ i<xs.length:=Zx
   omega
  rw [show xs.findIdx? g=none by
   rw [List.findIdx?_eq_none_iff]
   intro f hfm
   obtain ⟨j,hj,rfl⟩:=List.getElem_of_mem hfm
   exact hal j hj (by omega)]
  refine aB<|xE<|xE<|xY<|xT<|cQ<|sA Z<|sK [4] Z<|cT ?_
  exact aj Z ⟨Z,Z⟩ sbq
theorem Md {xs:List Vr} {kf:FuncId} {cp:Array Value} {g:Vr->Bool} (hv:Ls X v xs) (hE:Ck.Enters prog kf) (hf:∀ a∈xs,∀ us,Enc.rep X us a->Reads prog kf (#[]++([.agg us.toArray]:List Value).toArray++cp) [X] (.bool (g a))):Reads prog 223 #[v,.func (.func kf) #[] cp] [X] (.int .i64 (ixI (xs.findIdx? g))):=by
 have hml:maxLen=9223372036854775807:=rfl
 obtain ⟨a,cap,rfl,hlc,hcm,_⟩:=id hv.form
 refine aJ (n:=19) func223 Z Z (len Z) λhr w0=>?_
 refine cQ<|sA Z<|sN<|nT<|cS<|cQ<|sM Z<|sV (aC Z underlying70)<|sM Z<|sK [0,1,4,7,8] Z<|cB<|aY (σ := Nat) (λi=>[(0,.slice a xs.length cap),(1,.func (.func kf) #[] cp),(7,.int .i64 xs.length),(8,.int .i64 (i:Nat))]) (λ_=>X::hr) (λi=>i<=xs.length/\∀ j (hj:j<xs.length),j<i->g xs[j]=false) (λi=>xs.length - i) 0 ⟨Nat.zero_le _,λj _ hj=>absurd hj<|Nat.not_lt_zero _⟩ ?_
 rintro i ⟨hi,hal⟩
 refine cQ<|sV (aO Z Z)<|sN<|nT<|cS<|cC Z (λhd=>?_)<|λhd=>?_
 .have hlt:i<xs.length:=Zx
  obtain ⟨b,o,cap2,us,e1,hus,hrd,hre⟩:=hv.at<|Zy hlt
  cases e1
  have hfx:=hf xs[i] (List.getElem_mem hlt) us hre
  refine cK<|xT<|cS<|cB<|cQ<|sM Z<|sA Z<|sK [0,1,5,7,8] Z<|cQ<|sM Z<|sM Z<|sM Z ?_
  refine sV (vI (k:=i) Z Z Aa Z hlt Z)<|sV (af Z vH hus hrd) ?_
  refine bf Z Z hE Z (hfx) ?_
  refine sK [0,1,5,7,8,16] Z<|cC Z (λhe=>?_)<|λhe=>?_
  .have he:g xs[i]=true:=he
   rw [show xs.findIdx? g=some i by
    rw [List.findIdx?_eq_some_iff_getElem]
    exact ⟨hlt,he,λj hj=>by rw [hal j (by omega) hj]; decide⟩]
   refine cQ<|sM Z<|sA Z<|sK [4] Z<|cT<|xW<|xR<|xR<|xW<|xR ?_
   exact aj Z ⟨Z,Z⟩ sbq
  .have he:g xs[i]=false:=he
   refine cK<|xB<|xT<|cR<|sV (aI Z Z Z0)<|sM Z<|sN<|nK [0,1,7,8] Z<|ax<|aL (i+1) ⟨hlt,λj hj hj2=>?_⟩<|Nat.sub_lt_sub_left hlt<|Nat.lt_succ_self i
   by_cases hji:j=i
   .subst hji; exact he
   .exact hal j hj<|by omega
 .have hil:i=xs.length:=by
   have:¬ i<xs.length:=Zx
   omega
  rw [show xs.findIdx? g=none by
   rw [List.findIdx?_eq_none_iff]
   intro f hfm
   obtain ⟨j,hj,rfl⟩:=List.getElem_of_mem hfm
   exact hal j hj (by omega)]
  refine aB<|xE<|xE<|xY<|xT<|cQ<|sA Z<|sK [4] Z<|cT ?_
  exact aj Z ⟨Z,Z⟩ sbq
end
theorem sW {α : Type} (g : α -> Bool) (xs:List α):decide ((0:Int)<=ixI (xs.findIdx? g))=xs.any g:=by
 cases h:xs.findIdx? g with
 | none =>
  have:=List.findIdx?_eq_none_iff.1 h
  rw [show ixI none = -1 from rfl,show decide ((0:Int) <= -1)=false from rfl]
  symm
  rw [List.any_eq_false]
  intro x hx
  rw [this x hx]; decide
 | some i =>
  obtain ⟨h1,h2,_⟩:=List.findIdx?_eq_some_iff_getElem.1 h
  rw [show ixI (some i)=(i:Int) from rfl,decide_eq_true (Int.natCast_nonneg i)]
  symm
  rw [List.any_eq_true]
  exact ⟨xs[i],List.getElem_mem h1,h2⟩
theorem wm {α : Type} {g : α -> Bool} {xs:List α}:(xs.findIdx? g=none/\xs.find? g=none)\/∃ i x,xs.findIdx? g=some i/\xs[i]? = some x/\xs.find? g=some x/\i<xs.length:=by
 cases h:xs.findIdx? g with
 | none =>
  left
  refine ⟨Z,?_⟩
  rw [List.find?_eq_none]
  intro x hx
  rw [List.findIdx?_eq_none_iff.1 h x hx]; decide
 | some i =>
  right
  obtain ⟨h1,h2,h3⟩:=List.findIdx?_eq_some_iff_getElem.1 h
  exact ⟨i,xs[i],Z,Zy h1,List.find?_eq_some_iff_getElem.2 ⟨h2,i,h1,Z,λj hj=>by simpa using h3 j hj⟩,h1⟩
section
variable {X:Res} {v:Value}
theorem Ou {xs:List Sd} {kf:FuncId} {cp:Array Value} {g:Sd->Bool} (hv:Ls X v xs) (hE:Ck.Enters prog kf) (hf:∀ a∈xs,∀ us,Enc.rep X us a->Reads prog kf (#[]++([.agg us.toArray]:List Value).toArray++cp) [X] (.bool (g a))):Reads prog 31 #[v,.func (.func kf) #[] cp] [X] (.bool (xs.any g)):=by
 rw [<- sW]
 obtain ⟨a,cap,rfl,hlc,hcm,_⟩:=id hv.form
 refine aJ (n:=9) func31 Z Z (len Z) λhr w0=>?_
 refine cQ<|sA Z<|sN<|nT<|cQ<|sM Z<|sM Z<|bf Z Z en100 Z (Ma hv hE hf) ?_
 refine sV (qE Z Z)<|sA Z<|sK [4] Z<|cT ?_
 exact aj Z ⟨Z,Z⟩ sbq
theorem AQ {xs:List Grp} {kf:FuncId} {cp:Array Value} {g:Grp->Bool} (hv:Ls X v xs) (hE:Ck.Enters prog kf) (hf:∀ a∈xs,∀ us,Enc.rep X us a->Reads prog kf (#[]++([.agg us.toArray]:List Value).toArray++cp) [X] (.bool (g a))):Reads prog 93 #[v,.func (.func kf) #[] cp] [X] (.bool (xs.any g)):=by
 rw [<- sW]
 obtain ⟨a,cap,rfl,hlc,hcm,_⟩:=id hv.form
 refine aJ (n:=9) func93 Z Z (len Z) λhr w0=>?_
 refine cQ<|sA Z<|sN<|nT<|cQ<|sM Z<|sM Z<|bf Z Z en167 Z (Mc hv hE hf) ?_
 refine sV (qE Z Z)<|sA Z<|sK [4] Z<|cT ?_
 exact aj Z ⟨Z,Z⟩ sbq
theorem Me {xs:List Mb} {kf:FuncId} {cp:Array Value} {g:Mb->Bool} (hv:Ls X v xs) (hE:Ck.Enters prog kf) (hf:∀ a∈xs,∀ us,Enc.rep X us a->Reads prog kf (#[]++([.agg us.toArray]:List Value).toArray++cp) [X] (.bool (g a))):Reads prog 132 #[v,.func (.func kf) #[] cp] [X] (.bool (xs.any g)):=by
 rw [<- sW]
 obtain ⟨a,cap,rfl,hlc,hcm,_⟩:=id hv.form
 refine aJ (n:=9) func132 Z Z (len Z) λhr w0=>?_
 refine cQ<|sA Z<|sN<|nT<|cQ<|sM Z<|sM Z<|bf Z Z en222 Z (xk hv hE hf) ?_
 refine sV (qE Z Z)<|sA Z<|sK [4] Z<|cT ?_
 exact aj Z ⟨Z,Z⟩ sbq
theorem Mf {xs:List Vr} {kf:FuncId} {cp:Array Value} {g:Vr->Bool} (hv:Ls X v xs) (hE:Ck.Enters prog kf) (hf:∀ a∈xs,∀ us,Enc.rep X us a->Reads prog kf (#[]++([.agg us.toArray]:List Value).toArray++cp) [X] (.bool (g a))):Reads prog 135 #[v,.func (.func kf) #[] cp] [X] (.bool (xs.any g)):=by
 rw [<- sW]
 obtain ⟨a,cap,rfl,hlc,hcm,_⟩:=id hv.form
 refine aJ (n:=9) func135 Z Z (len Z) λhr w0=>?_
 refine cQ<|sA Z<|sN<|nT<|cQ<|sM Z<|sM Z<|bf Z Z en223 Z (Md hv hE hf) ?_
 refine sV (qE Z Z)<|sA Z<|sK [4] Z<|cT ?_
 exact aj Z ⟨Z,Z⟩ sbq
theorem Ov {us:List Value} {c:FC} (h:Enc.rep X us c):Reads prog 118 #[.agg us.toArray] [] (sv c.name):=by
 obtain ⟨a,b,e,f,i,rfl,_⟩:=h
 refine aJ (n:=5) func118 Z Z (len Z) λhr w0=>?_
 refine cQ (aV Z Z λb1=>?_)
 refine sA Z<|sK [1,2] Z<|cQ<|sV (vF Z dR Z)<|sV (vY Z ld9) ?_
 refine sA Z<|sK [2] Z<|cT ?_
 exact aj Z ⟨Z,Z⟩ sbq
theorem Ow {us:List Value} {c:Fe} (h:Enc.rep X us c):Reads prog 112 #[.agg us.toArray] [] (sv c.name):=by
 obtain ⟨x2,x3,ts,x9,x10,x11,x12,x13,x14,rfl,_,_,h3,_⟩:=h
 obtain ⟨y,rfl,_⟩:=eH h3
 unfold feC tyC
 refine aJ (n:=5) func112 Z Z (len Z) λhr w0=>?_
 refine cQ (aV Z Z λb1=>?_)
 refine sA Z<|sK [1,2] Z<|cQ<|sV (vF Z p9 Z)<|sV (vY Z ld9) ?_
 refine sA Z<|sK [2] Z<|cT ?_
 exact aj Z ⟨Z,Z⟩ sbq
theorem Ox {us:List Value} {c:Fm} (h:Enc.rep X us c):Reads prog 144 #[.agg us.toArray] [] (sv c.name):=by
 have h:us=[sv c.name,sv c.bound]:=h
 subst h
 refine aJ (n:=5) func144 Z Z (len Z) λhr w0=>?_
 refine cQ (aV Z Z λb1=>?_)
 refine sA Z<|sK [1,2] Z<|cQ<|sV (vF Z Ky Z)<|sV (vY Z ld9) ?_
 refine sA Z<|sK [2] Z<|cT ?_
 exact aj Z ⟨Z,Z⟩ sbq
theorem GR {us:List Value} {c:Pn} (h:Enc.rep X us c):Reads prog 149 #[.agg us.toArray] [] (sv c.fro):=by
 have h:us=[sv c.fro,sv c.to]:=h
 subst h
 refine aJ (n:=5) func149 Z Z (len Z) λhr w0=>?_
 refine cQ (aV Z Z λb1=>?_)
 refine sA Z<|sK [1,2] Z<|cQ<|sV (vF Z y8 Z)<|sV (vY Z ld9) ?_
 refine sA Z<|sK [2] Z<|cT ?_
 exact aj Z ⟨Z,Z⟩ sbq
theorem Oy {us:List Value} {c:Mb} (h:Enc.rep X us c):Reads prog 170 #[.agg us.toArray] [] (sv c.name):=by
 obtain ⟨x2,x5,ts,x11,x12,x13,rfl,_,_,h3,_⟩:=h
 obtain ⟨y,rfl,_⟩:=eH h3
 unfold mbC tyC
 refine aJ (n:=5) func170 Z Z (len Z) λhr w0=>?_
 refine cQ (aV Z Z λb1=>?_)
 refine sA Z<|sK [1,2] Z<|cQ<|sV (vF Z eQ Z)<|sV (vY Z ld9) ?_
 refine sA Z<|sK [2] Z<|cT ?_
 exact aj Z ⟨Z,Z⟩ sbq
def fe0:Fe:=⟨0,[],[],[],.mk 0 [] [] false false,[],[]⟩
def pn0:Pn:=⟨[],[]⟩
theorem Ja {us:List Value} {c:FC} {b4 b5:Nat} {n:Nm} (h:Enc.rep X us c):Reads prog 190 #[.agg us.toArray,.pointer (some ⟨b5,0,none⟩),.pointer (some ⟨b4,0,none⟩)] [pt b5 (cl [.func (.func 118) #[] #[]] 197),pt b4 (cl [sv n] 9)] (.bool (c.name == n)):=by
 have hn:=Ov h
 obtain ⟨a,b,e,f,i,rfl,_⟩:=id h
 refine aJ (n:=10) func190 Z Z (len Z) λhr w0=>?_
 refine cQ (aV Z Z λb3=>?_)
 refine sA Z<|sK [1,2,3,4] Z<|cS<|bC (ork [(0,1),(1,1),(2,1),(3,1),(4,1),(5,2)] .nil) (λ_=>true) mixed Zz ?_
 refine bu Z (vY Z ld197) ?_
 refine bu Z (af Z gU Z ag) ?_
 refine jE Z Z Z en118 Z (hn) ?_
 refine bu Z (vY Z ld9) ?_
 refine bu Z (iM Z Z)<|dV Z (vA Z)<|bB<|nK [4] Z<|nT<|cT ?_
 exact aj Z ⟨Z,Z⟩ sbq
theorem Jb {us:List Value} {c:Fe} {b4 b5:Nat} {n:Nm} (h:Enc.rep X us c):Reads prog 183 #[.agg us.toArray,.pointer (some ⟨b5,0,none⟩),.pointer (some ⟨b4,0,none⟩)] [pt b5 (cl [.func (.func 112) #[] #[]] 186),pt b4 (cl [sv n] 9)] (.bool (c.name == n)):=by
 have hn:=Ow h
 obtain ⟨x2,x3,ts,x9,x10,x11,x12,x13,x14,rfl,_,_,h3,_⟩:=id h
 obtain ⟨y,rfl,_⟩:=eH h3
 unfold feC tyC
 refine aJ (n:=10) func183 Z Z (len Z) λhr w0=>?_
 refine cQ (aV Z Z λb3=>?_)
 refine sA Z<|sK [1,2,3,4] Z<|cS<|bC (ork [(0,1),(1,1),(2,1),(3,1),(4,1),(5,2)] .nil) (λ_=>true) mixed Zz ?_
 refine bu Z (vY Z ld186) ?_
 refine bu Z (af Z oQ Z ag) ?_
 refine jE Z Z Z en112 Z (hn) ?_
 refine bu Z (vY Z ld9) ?_
 refine bu Z (iM Z Z)<|dV Z (vA Z)<|bB<|nK [4] Z<|nT<|cT ?_
 exact aj Z ⟨Z,Z⟩ sbq
theorem Jc {us:List Value} {c:Mb} {b4 b5:Nat} {n:Nm} (h:Enc.rep X us c):Reads prog 236 #[.agg us.toArray,.pointer (some ⟨b5,0,none⟩),.pointer (some ⟨b4,0,none⟩)] [pt b5 (cl [.func (.func 170) #[] #[]] 249),pt b4 (cl [sv n] 9)] (.bool (c.name == n)):=by
 have hn:=Oy h
 obtain ⟨x2,x5,ts,x11,x12,x13,rfl,_,_,h3,_⟩:=id h
 obtain ⟨y,rfl,_⟩:=eH h3
 unfold mbC tyC
 refine aJ (n:=10) func236 Z Z (len Z) λhr w0=>?_
 refine cQ (aV Z Z λb3=>?_)
 refine sA Z<|sK [1,2,3,4] Z<|cS<|bC (ork [(0,1),(1,1),(2,1),(3,1),(4,1),(5,2)] .nil) (λ_=>true) mixed Zz ?_
 refine bu Z (vY Z ld249) ?_
 refine bu Z (af Z fE Z ag) ?_
 refine jE Z Z Z en170 Z (hn) ?_
 refine bu Z (vY Z ld9) ?_
 refine bu Z (iM Z Z)<|dV Z (vA Z)<|bB<|nK [4] Z<|nT<|cT ?_
 exact aj Z ⟨Z,Z⟩ sbq
theorem Jd {us:List Value} {c:Pn} {b4 b5:Nat} {n:Nm} (h:Enc.rep X us c):Reads prog 278 #[.agg us.toArray,.pointer (some ⟨b5,0,none⟩),.pointer (some ⟨b4,0,none⟩)] [pt b5 (cl [.func (.func 149) #[] #[]] 229),pt b4 (cl [sv n] 9)] (.bool (c.fro == n)):=by
 have hn:=GR h
 have h:us=[sv c.fro,sv c.to]:=id h
 subst h
 refine aJ (n:=10) func278 Z Z (len Z) λhr w0=>?_
 refine cQ (aV Z Z λb3=>?_)
 refine sA Z<|sK [1,2,3,4] Z<|cS<|bC (ork [(0,1),(1,1),(2,1),(3,1),(4,1),(5,2)] .nil) (λ_=>true) mixed Zz ?_
 refine bu Z (vY Z ld229) ?_
 refine bu Z (af Z rG Z ag) ?_
 refine jE Z Z Z en149 Z (hn) ?_
 refine bu Z (vY Z ld9) ?_
 refine bu Z (iM Z Z)<|dV Z (vA Z)<|bB<|nK [4] Z<|nT<|cT ?_
 exact aj Z ⟨Z,Z⟩ sbq
theorem uD {xs:List FC} {n:Nm} (hv:Ls X v xs):Ct prog 117 #[v,sv n,.func (.func 118) #[] #[]] [X] λu h'=>h'=[X]/\∃ us,u = .tuple #[.agg us.toArray,.bool (xs.find? λc=>c.name == n).isSome]/\Enc.rep X us ((xs.find? λc=>c.name == n).getD Cg):=by
 obtain ⟨a,cap,hvf,hlc,hcm,_⟩:=id hv.form
 have hf:∀ b4 b5:Nat,∀ c∈xs,∀ us,Enc.rep (Res.star [pt b5 (cl [.func (.func 118) #[] #[]] 197),pt b4 (cl [sv n] 9),X]) us c->Reads prog 190 (#[]++([.agg us.toArray]:List Value).toArray ++ #[.pointer (some ⟨b5,0,none⟩),.pointer (some ⟨b4,0,none⟩)]) [Res.star [pt b5 (cl [.func (.func 118) #[] #[]] 197),pt b4 (cl [sv n] 9),X]] (.bool (c.name == n)):=λb4 b5 c _ us h =>
  lM (Reads.more (Ja (b4:=b4) (b5:=b5) (n:=n) h)<|.cons .here<|.cons .here .nil)
 subst hvf
 refine aJ (n:=20) func117 Z Z (len Z) λhr w0=>?_
 refine cQ (aV Z Z λb4=>?_)
 refine aV Z Z λb5=>?_
 refine au oU λb6=>?_
 refine sA Z<|sK [0,4,5,6,7] Z<|cQ<|sM Z<|sV (bX Z Z)<|bf Z Z en150 Z ((dS<|L6 (X:=Res.star [pt b5 (cl [.func (.func 118) #[] #[]] 197),pt b4 (cl [sv n] 9),X]) (hv.up'<|bL<|.there<|.there .here) en190<|hf b4 b5)) ?_
 refine sA Z<|sK [0,6,7,8] Z<|cS<|cQ<|sM Z<|sV (aO Z Z)<|sK [0,6,7,8,14] Z ?_
 rcases wm (g:=λc:FC=>c.name == n) (xs:=xs) with ⟨h1,h2⟩ | ⟨i,x,h1,h2,h3,hlt⟩
 .rw [h1,h2]
  refine aQ Z ?_
  refine cQ (au oU λb9=>?_)
  refine sK [0,6,7,8,9] Z<|cQ<|sV (af Z gU Z ag) ?_
  refine ai Z Z mP Z Z ?_
  refine sA Z<|sK [6,7] Z<|cT<|xR ?_
  exact bM (.cellN Z gU Z slq<|.tmp Z .nil) ⟨Z,_,Z,⟨_,_,_,_,_,Z,Ls.nil,Ls.nil,Z,Ls.nil,Ls.nil⟩⟩ sbr
 .rw [h1,h3]
  obtain ⟨b,o,cap2,us,e1,hus,hrd,hre⟩:=hv.at h2
  cases e1
  have hone:=Enc.ones hre
  refine aG Z ?_
  refine cK<|xT<|cQ<|sM Z<|sM Z<|sV (vI (k:=i) Z Z rE Z hlt Z)<|sV (af Z gU hus hrd) ?_
  refine ai (hl:=by rw [hus]; rfl) Z Z mP hus hone ?_
  refine sA Z<|sK [6,7] Z<|cT ?_
  exact bM (.cellN Z gU hus slq<|.tmp Z .nil) ⟨Z,us,Z,hre⟩ sbr
theorem je {xs:List Fe} {n:Nm} (hv:Ls X v xs):Ct prog 111 #[v,sv n,.func (.func 112) #[] #[]] [X] λu h'=>h'=[X]/\∃ us,u = .tuple #[.agg us.toArray,.bool (xs.find? λc=>c.name == n).isSome]/\Enc.rep X us ((xs.find? λc=>c.name == n).getD fe0):=by
 obtain ⟨a,cap,hvf,hlc,hcm,_⟩:=id hv.form
 have hf:∀ b4 b5:Nat,∀ c∈xs,∀ us,Enc.rep (Res.star [pt b5 (cl [.func (.func 112) #[] #[]] 186),pt b4 (cl [sv n] 9),X]) us c->Reads prog 183 (#[]++([.agg us.toArray]:List Value).toArray ++ #[.pointer (some ⟨b5,0,none⟩),.pointer (some ⟨b4,0,none⟩)]) [Res.star [pt b5 (cl [.func (.func 112) #[] #[]] 186),pt b4 (cl [sv n] 9),X]] (.bool (c.name == n)):=λb4 b5 c _ us h =>
  lM (Reads.more (Jb (b4:=b4) (b5:=b5) (n:=n) h)<|.cons .here<|.cons .here .nil)
 subst hvf
 refine aJ (n:=20) func111 Z Z (len Z) λhr w0=>?_
 refine cQ (aV Z Z λb4=>?_)
 refine aV Z Z λb5=>?_
 refine au mg λb6=>?_
 refine sA Z<|sK [0,4,5,6,7] Z<|cQ<|sM Z<|sV (bX Z Z)<|bf Z Z en151 Z ((dS<|L8 (X:=Res.star [pt b5 (cl [.func (.func 112) #[] #[]] 186),pt b4 (cl [sv n] 9),X]) (hv.up'<|bL<|.there<|.there .here) en183<|hf b4 b5)) ?_
 refine sA Z<|sK [0,6,7,8] Z<|cS<|cQ<|sM Z<|sV (aO Z Z)<|sK [0,6,7,8,14] Z ?_
 rcases wm (g:=λc:Fe=>c.name == n) (xs:=xs) with ⟨h1,h2⟩ | ⟨i,x,h1,h2,h3,hlt⟩
 .rw [h1,h2]
  refine aQ Z ?_
  refine cQ (au mg λb9=>?_)
  refine sK [0,6,7,8,9] Z<|cQ<|sV (af Z oQ Z ag) ?_
  refine ai Z Z kE Z Z ?_
  refine sA Z<|sK [6,7] Z<|cT<|xR ?_
  exact bM (.cellN Z oQ Z slq<|.tmp Z .nil) ⟨Z,_,Z,⟨_,_,_,_,_,_,_,_,_,Z,Ls.nil,Ls.nil,gI Z Ls.nil,Ls.nil,Ls.nil,Z⟩⟩ sbr
 .rw [h1,h3]
  obtain ⟨b,o,cap2,us,e1,hus,hrd,hre⟩:=hv.at h2
  cases e1
  have hone:=Enc.ones hre
  refine aG Z ?_
  refine cK<|xT<|cQ<|sM Z<|sM Z<|sV (vI (k:=i) Z Z sl41 Z hlt Z)<|sV (af Z oQ hus hrd) ?_
  refine ai (hl:=by rw [hus]; rfl) Z Z kE hus hone ?_
  refine sA Z<|sK [6,7] Z<|cT ?_
  exact bM (.cellN Z oQ hus slq<|.tmp Z .nil) ⟨Z,us,Z,hre⟩ sbr
theorem uE {xs:List Mb} {n:Nm} (hv:Ls X v xs):Ct prog 169 #[v,sv n,.func (.func 170) #[] #[]] [X] λu h'=>h'=[X]/\∃ us,u = .tuple #[.agg us.toArray,.bool (xs.find? λc=>c.name == n).isSome]/\Enc.rep X us ((xs.find? λc=>c.name == n).getD mb0):=by
 obtain ⟨a,cap,hvf,hlc,hcm,_⟩:=id hv.form
 have hf:∀ b4 b5:Nat,∀ c∈xs,∀ us,Enc.rep (Res.star [pt b5 (cl [.func (.func 170) #[] #[]] 249),pt b4 (cl [sv n] 9),X]) us c->Reads prog 236 (#[]++([.agg us.toArray]:List Value).toArray ++ #[.pointer (some ⟨b5,0,none⟩),.pointer (some ⟨b4,0,none⟩)]) [Res.star [pt b5 (cl [.func (.func 170) #[] #[]] 249),pt b4 (cl [sv n] 9),X]] (.bool (c.name == n)):=λb4 b5 c _ us h =>
  lM (Reads.more (Jc (b4:=b4) (b5:=b5) (n:=n) h)<|.cons .here<|.cons .here .nil)
 subst hvf
 refine aJ (n:=20) func169 Z Z (len Z) λhr w0=>?_
 refine cQ (aV Z Z λb4=>?_)
 refine aV Z Z λb5=>?_
 refine au jR λb6=>?_
 refine sA Z<|sK [0,4,5,6,7] Z<|cQ<|sM Z<|sV (bX Z Z)<|bf Z Z en222 Z ((dS<|xk (X:=Res.star [pt b5 (cl [.func (.func 170) #[] #[]] 249),pt b4 (cl [sv n] 9),X]) (hv.up'<|bL<|.there<|.there .here) en236<|hf b4 b5)) ?_
 refine sA Z<|sK [0,6,7,8] Z<|cS<|cQ<|sM Z<|sV (aO Z Z)<|sK [0,6,7,8,14] Z ?_
 rcases wm (g:=λc:Mb=>c.name == n) (xs:=xs) with ⟨h1,h2⟩ | ⟨i,x,h1,h2,h3,hlt⟩
 .rw [h1,h2]
  refine aQ Z ?_
  refine cQ (au jR λb9=>?_)
  refine sK [0,6,7,8,9] Z<|cQ<|sV (af Z fE Z ag) ?_
  refine ai Z Z iH Z Z ?_
  refine sA Z<|sK [6,7] Z<|cT<|xR ?_
  exact bM (.cellN Z fE Z slq<|.tmp Z .nil) ⟨Z,_,Z,⟨_,_,_,_,_,_,Z,Ls.nil,Ls.nil,gI Z Ls.nil,Ls.nil,Ls.nil,Ls.nil⟩⟩ sbr
 .rw [h1,h3]
  obtain ⟨b,o,cap2,us,e1,hus,hrd,hre⟩:=hv.at h2
  cases e1
  have hone:=Enc.ones hre
  refine aG Z ?_
  refine cK<|xT<|cQ<|sM Z<|sM Z<|sV (vI (k:=i) Z Z oM Z hlt Z)<|sV (af Z fE hus hrd) ?_
  refine ai (hl:=by rw [hus]; rfl) Z Z iH hus hone ?_
  refine sA Z<|sK [6,7] Z<|cT ?_
  exact bM (.cellN Z fE hus slq<|.tmp Z .nil) ⟨Z,us,Z,hre⟩ sbr
theorem Je {xs:List Pn} {n:Nm} (hv:Ls X v xs):Ct prog 241 #[v,sv n,.func (.func 149) #[] #[]] [X] λu h'=>h'=[X]/\∃ us,u = .tuple #[.agg us.toArray,.bool (xs.find? λc=>c.fro == n).isSome]/\Enc.rep X us ((xs.find? λc=>c.fro == n).getD pn0):=by
 obtain ⟨a,cap,hvf,hlc,hcm,_⟩:=id hv.form
 have hf:∀ b4 b5:Nat,∀ c∈xs,∀ us,Enc.rep (Res.star [pt b5 (cl [.func (.func 149) #[] #[]] 229),pt b4 (cl [sv n] 9),X]) us c->Reads prog 278 (#[]++([.agg us.toArray]:List Value).toArray ++ #[.pointer (some ⟨b5,0,none⟩),.pointer (some ⟨b4,0,none⟩)]) [Res.star [pt b5 (cl [.func (.func 149) #[] #[]] 229),pt b4 (cl [sv n] 9),X]] (.bool (c.fro == n)):=λb4 b5 c _ us h =>
  lM (Reads.more (Jd (b4:=b4) (b5:=b5) (n:=n) h)<|.cons .here<|.cons .here .nil)
 subst hvf
 refine aJ (n:=20) func241 Z Z (len Z) λhr w0=>?_
 refine cQ (aV Z Z λb4=>?_)
 refine aV Z Z λb5=>?_
 refine au Gb λb6=>?_
 refine sA Z<|sK [0,4,5,6,7] Z<|cQ<|sM Z<|sV (bX Z Z)<|bf Z Z en153 Z ((dS<|LZ (X:=Res.star [pt b5 (cl [.func (.func 149) #[] #[]] 229),pt b4 (cl [sv n] 9),X]) (hv.up'<|bL<|.there<|.there .here) en278<|hf b4 b5)) ?_
 refine sA Z<|sK [0,6,7,8] Z<|cS<|cQ<|sM Z<|sV (aO Z Z)<|sK [0,6,7,8,14] Z ?_
 rcases wm (g:=λc:Pn=>c.fro == n) (xs:=xs) with ⟨h1,h2⟩ | ⟨i,x,h1,h2,h3,hlt⟩
 .rw [h1,h2]
  refine aQ Z ?_
  refine cQ (au Gb λb9=>?_)
  refine sK [0,6,7,8,9] Z<|cQ<|sV (af Z rG Z ag) ?_
  refine ai Z Z zZ Z Z ?_
  refine sA Z<|sK [6,7] Z<|cT<|xR ?_
  exact bM (.cellN Z rG Z slq<|.tmp Z .nil) ⟨Z,_,Z,Z⟩ sbr
 .rw [h1,h3]
  obtain ⟨b,o,cap2,us,e1,hus,hrd,hre⟩:=hv.at h2
  cases e1
  have hone:=Enc.ones hre
  refine aG Z ?_
  refine cK<|xT<|cQ<|sM Z<|sM Z<|sV (vI (k:=i) Z Z sl86 Z hlt Z)<|sV (af Z rG hus hrd) ?_
  refine ai (hl:=by rw [hus]; rfl) Z Z zZ hus hone ?_
  refine sA Z<|sK [6,7] Z<|cT ?_
  exact bM (.cellN Z rG hus slq<|.tmp Z .nil) ⟨Z,us,Z,hre⟩ sbr
end
theorem yw:EqS prog 69 2:=EqS.of underlying69 Zz Zz Zz rfl
section
variable {X:Res} {v v':Value}
theorem wo {α : Type} {az bz:List α} {i:Nat} {a b : α} (h1:az[i]? = some a) (h2:bz[i]? = some b) (h:a≠b):az≠bz:=λe=>by
 rw [e,h2] at h1; exact h (Option.some.inj h1).symm
theorem wu {α : Type} {az bz:List α} {i:Nat} (h:az.take i=bz.take i) {a b : α} (h1:az[i]? = some a) (h2:bz[i]? = some b) (hs:a=b):az.take (i+1)=bz.take (i+1):=by
 subst hs
 obtain ⟨g1,rfl⟩:=List.getElem?_eq_some_iff.1 h1
 obtain ⟨g2,g3⟩:=List.getElem?_eq_some_iff.1 h2
 rw [List.take_succ_eq_append_getElem g1,List.take_succ_eq_append_getElem g2,h,g3]
theorem Oz {x y:Sd} (h:(!([x.cls,x.name] == [y.cls,y.name]))=true):x≠y:=by
 rw [KW] at h; intro e; subst e; simp at h
theorem OA {x y:Sd} (h:(!([x.cls,x.name] == [y.cls,y.name]))=false):x=y:=by
 rw [KW] at h; cases x; cases y; simp at h; simp [h]
theorem Mg {az bz:List Kt} {kf:FuncId} (hE:Ck.Enters prog kf) (hv:Ls X v az) (hv':Ls X v' bz) (hF:∀ (a b:Kt) us us',a∈az->Enc.rep X us a->Enc.rep X us' b->Reads prog kf #[.agg us.toArray,.agg us'.toArray] [X] (.bool (decide (a=b)))):Reads prog 296 #[v,v',.func (.func kf) #[] #[]] [X] (.bool (decide (az=bz))):=by
 have hml:maxLen=9223372036854775807:=rfl
 obtain ⟨a,cap,rfl,hlc,hcm,hnone⟩:=hv.form
 obtain ⟨a',cap',rfl,hlc',hcm',hnone'⟩:=hv'.form
 refine aJ (n:=32) func296 Z Z (len Z) λhr w0=>?_
 refine cQ<|sA Z<|sN<|nT<|cS<|cQ<|sM Z<|sV (aC Z underlying71)<|sM Z<|sV (aC Z underlying71)<|sV (bT Z Z)<|sK [0,1,2,6,14] Z<|cC Z (λhl=>?_)<|λhl=>?_
 .have hl:¬ az.length=bz.length:=by
   have:¬ (az.length:Int)=bz.length:=Zn
   omega
  rw [show decide (az=bz)=false from decide_eq_false λe=>hl (by rw [e])]
  refine cQ<|sA Z<|sK [6] Z<|cT<|xR ?_
  exact aj Z ⟨Z,Z⟩ sbq
 .have hl:az.length=bz.length:=by
   have:(az.length:Int)=bz.length:=Zn
   omega
  refine cK<|xT<|cS<|cQ<|sM Z<|sV (aC Z underlying71)<|sM Z<|sK [1,2,6,15,16,17] Z<|cB<|aY (σ := Nat) (λi=>[(1,.slice a' bz.length cap'),(2,.func (.func kf) #[] #[]),(15,.slice a az.length cap),(16,.int .i64 az.length),(17,.int .i64 (i:Nat))]) (λ_=>X::hr) (λi=>i<=az.length/\az.take i=bz.take i) (λi=>az.length - i) 0 ⟨Nat.zero_le _,Z⟩ ?_
  rintro i ⟨hi,hal⟩
  refine cQ<|sV (aO Z Z)<|sN<|nT<|cS<|cC Z (λhd=>?_)<|λhd=>?_
  .have hlt:i<az.length:=Zx
   have hlt':i<bz.length:=by omega
   have hg:=Zy hlt
   have hg':=Zy hlt'
   have hmem:=List.getElem_mem hlt
   obtain ⟨b,o,cap2,us,e1,hus,hrd,ht⟩:=hv.at hg
   cases e1
   obtain ⟨b',o',cap2',us',e1,hus',hrd',ht'⟩:=hv'.at hg'
   cases e1
   generalize az[i]=x at hg hmem ht
   generalize bz[i]=y at hg' ht'
   have hone:=Enc.ones ht
   have hone':=Enc.ones ht'
   refine cK<|xT<|cS<|cB<|cQ<|sM Z<|sV (vI (k:=i) Z Z yJ Z hlt Z)<|sV (af Z fM hus hrd) ?_
   refine au Af λb8=>?_
   refine sA Z<|ai (hl:=by rw [hus]; rfl) Z Z oK hus hone ?_
   refine sK [1,2,7,8,15,16,17] Z<|cQ<|sM Z<|sM Z<|sV (vI (k:=i) Z Z yJ Z hlt' Z)<|sV (af Z fM hus' hrd') ?_
   refine au Af λb9=>?_
   refine ai (hl:=by rw [hus']; rfl) Z Z oK hus' hone' ?_
   refine sK [1,2,8,9,15,16,17] Z<|cQ<|sM Z<|sV (af Z fM hus ag) ?_
   refine sV (af Z fM hus' ag) ?_
   refine bf Z Z hE Z ((hF x y us us' hmem ht ht')) ?_
   refine sV (bg Z)<|sK [1,2,15,16,17,30] Z<|cC Z (λhne=>?_)<|λhne=>?_
   .have hne:x≠y:=Zv
    rw [show decide (az=bz)=false from decide_eq_false (wo hg hg' hne)]
    refine cQ<|sA Z<|sK [6] Z<|cT<|xW<|xR<|xR<|xW<|xR ?_
    exact aj Z ⟨Z,Z⟩ sbq
   .have hne:x=y:=Zv
    refine cK<|xB<|xT<|cR<|sV (aI Z Z Z0)<|sM Z<|sN<|nK [1,2,15,16,17] Z<|ax ?_
    refine aL (i+1) ⟨hlt,wu hal hg hg' hne⟩<|Nat.sub_lt_sub_left hlt<|Nat.lt_succ_self i
  .have hil:i=az.length:=by
    have:¬ i<az.length:=Zx
    omega
   rw [show decide (az=bz)=true from decide_eq_true (by
    have:=hal
    rw [hil,List.take_length,hl,List.take_length] at this
    exact this)]
   refine aB<|xE<|xE<|xY<|xT<|cQ<|sA Z<|sK [6] Z<|cT ?_
   exact aj Z ⟨Z,Z⟩ sbq
theorem DF {az bz:List Vr} {kf:FuncId} (hE:Ck.Enters prog kf) (hv:Ls X v az) (hv':Ls X v' bz) (hF:∀ (a b:Vr) us us',a∈az->Enc.rep X us a->Enc.rep X us' b->Reads prog kf #[.agg us.toArray,.agg us'.toArray] [X] (.bool (decide (a=b)))):Reads prog 215 #[v,v',.func (.func kf) #[] #[]] [X] (.bool (decide (az=bz))):=by
 have hml:maxLen=9223372036854775807:=rfl
 obtain ⟨a,cap,rfl,hlc,hcm,hnone⟩:=hv.form
 obtain ⟨a',cap',rfl,hlc',hcm',hnone'⟩:=hv'.form
 refine aJ (n:=32) func215 Z Z (len Z) λhr w0=>?_
 refine cQ<|sA Z<|sN<|nT<|cS<|cQ<|sM Z<|sV (aC Z underlying70)<|sM Z<|sV (aC Z underlying70)<|sV (bT Z Z)<|sK [0,1,2,6,14] Z<|cC Z (λhl=>?_)<|λhl=>?_
 .have hl:¬ az.length=bz.length:=by
   have:¬ (az.length:Int)=bz.length:=Zn
   omega
  rw [show decide (az=bz)=false from decide_eq_false λe=>hl (by rw [e])]
  refine cQ<|sA Z<|sK [6] Z<|cT<|xR ?_
  exact aj Z ⟨Z,Z⟩ sbq
 .have hl:az.length=bz.length:=by
   have:(az.length:Int)=bz.length:=Zn
   omega
  refine cK<|xT<|cS<|cQ<|sM Z<|sV (aC Z underlying70)<|sM Z<|sK [1,2,6,15,16,17] Z<|cB<|aY (σ := Nat) (λi=>[(1,.slice a' bz.length cap'),(2,.func (.func kf) #[] #[]),(15,.slice a az.length cap),(16,.int .i64 az.length),(17,.int .i64 (i:Nat))]) (λ_=>X::hr) (λi=>i<=az.length/\az.take i=bz.take i) (λi=>az.length - i) 0 ⟨Nat.zero_le _,Z⟩ ?_
  rintro i ⟨hi,hal⟩
  refine cQ<|sV (aO Z Z)<|sN<|nT<|cS<|cC Z (λhd=>?_)<|λhd=>?_
  .have hlt:i<az.length:=Zx
   have hlt':i<bz.length:=by omega
   have hg:=Zy hlt
   have hg':=Zy hlt'
   have hmem:=List.getElem_mem hlt
   obtain ⟨b,o,cap2,us,e1,hus,hrd,ht⟩:=hv.at hg
   cases e1
   obtain ⟨b',o',cap2',us',e1,hus',hrd',ht'⟩:=hv'.at hg'
   cases e1
   generalize az[i]=x at hg hmem ht
   generalize bz[i]=y at hg' ht'
   have hone:=Enc.ones ht
   have hone':=Enc.ones ht'
   refine cK<|xT<|cS<|cB<|cQ<|sM Z<|sV (vI (k:=i) Z Z Aa Z hlt Z)<|sV (af Z vH hus hrd) ?_
   refine au KE λb8=>?_
   refine sA Z<|ai (hl:=by rw [hus]; rfl) Z Z De hus hone ?_
   refine sK [1,2,7,8,15,16,17] Z<|cQ<|sM Z<|sM Z<|sV (vI (k:=i) Z Z Aa Z hlt' Z)<|sV (af Z vH hus' hrd') ?_
   refine au KE λb9=>?_
   refine ai (hl:=by rw [hus']; rfl) Z Z De hus' hone' ?_
   refine sK [1,2,8,9,15,16,17] Z<|cQ<|sM Z<|sV (af Z vH hus ag) ?_
   refine sV (af Z vH hus' ag) ?_
   refine bf Z Z hE Z ((hF x y us us' hmem ht ht')) ?_
   refine sV (bg Z)<|sK [1,2,15,16,17,30] Z<|cC Z (λhne=>?_)<|λhne=>?_
   .have hne:x≠y:=Zv
    rw [show decide (az=bz)=false from decide_eq_false (wo hg hg' hne)]
    refine cQ<|sA Z<|sK [6] Z<|cT<|xW<|xR<|xR<|xW<|xR ?_
    exact aj Z ⟨Z,Z⟩ sbq
   .have hne:x=y:=Zv
    refine cK<|xB<|xT<|cR<|sV (aI Z Z Z0)<|sM Z<|sN<|nK [1,2,15,16,17] Z<|ax ?_
    refine aL (i+1) ⟨hlt,wu hal hg hg' hne⟩<|Nat.sub_lt_sub_left hlt<|Nat.lt_succ_self i
  .have hil:i=az.length:=by
    have:¬ i<az.length:=Zx
    omega
   rw [show decide (az=bz)=true from decide_eq_true (by
    have:=hal
    rw [hil,List.take_length,hl,List.take_length] at this
    exact this)]
   refine aB<|xE<|xE<|xY<|xT<|cQ<|sA Z<|sK [6] Z<|cT ?_
   exact aj Z ⟨Z,Z⟩ sbq
theorem Mh {az bz:List Ex} {kf:FuncId} (hE:Ck.Enters prog kf) (hv:Ls X v az) (hv':Ls X v' bz) (hF:∀ (a b:Ex) us us',a∈az->Enc.rep X us a->Enc.rep X us' b->Reads prog kf #[.agg us.toArray,.agg us'.toArray] [X] (.bool (decide (a=b)))):Reads prog 279 #[v,v',.func (.func kf) #[] #[]] [X] (.bool (decide (az=bz))):=by
 have hml:maxLen=9223372036854775807:=rfl
 obtain ⟨a,cap,rfl,hlc,hcm,hnone⟩:=hv.form
 obtain ⟨a',cap',rfl,hlc',hcm',hnone'⟩:=hv'.form
 refine aJ (n:=32) func279 Z Z (len Z) λhr w0=>?_
 refine cQ<|sA Z<|sN<|nT<|cS<|cQ<|sM Z<|sV (aC Z underlying214)<|sM Z<|sV (aC Z underlying214)<|sV (bT Z Z)<|sK [0,1,2,6,14] Z<|cC Z (λhl=>?_)<|λhl=>?_
 .have hl:¬ az.length=bz.length:=by
   have:¬ (az.length:Int)=bz.length:=Zn
   omega
  rw [show decide (az=bz)=false from decide_eq_false λe=>hl (by rw [e])]
  refine cQ<|sA Z<|sK [6] Z<|cT<|xR ?_
  exact aj Z ⟨Z,Z⟩ sbq
 .have hl:az.length=bz.length:=by
   have:(az.length:Int)=bz.length:=Zn
   omega
  refine cK<|xT<|cS<|cQ<|sM Z<|sV (aC Z underlying214)<|sM Z<|sK [1,2,6,15,16,17] Z<|cB<|aY (σ := Nat) (λi=>[(1,.slice a' bz.length cap'),(2,.func (.func kf) #[] #[]),(15,.slice a az.length cap),(16,.int .i64 az.length),(17,.int .i64 (i:Nat))]) (λ_=>X::hr) (λi=>i<=az.length/\az.take i=bz.take i) (λi=>az.length - i) 0 ⟨Nat.zero_le _,Z⟩ ?_
  rintro i ⟨hi,hal⟩
  refine cQ<|sV (aO Z Z)<|sN<|nT<|cS<|cC Z (λhd=>?_)<|λhd=>?_
  .have hlt:i<az.length:=Zx
   have hlt':i<bz.length:=by omega
   have hg:=Zy hlt
   have hg':=Zy hlt'
   have hmem:=List.getElem_mem hlt
   obtain ⟨b,o,cap2,us,e1,hus,hrd,ht⟩:=hv.at hg
   cases e1
   obtain ⟨b',o',cap2',us',e1,hus',hrd',ht'⟩:=hv'.at hg'
   cases e1
   generalize az[i]=x at hg hmem ht
   generalize bz[i]=y at hg' ht'
   have hone:=Enc.ones ht
   have hone':=Enc.ones ht'
   refine cK<|xT<|cS<|cB<|cQ<|sM Z<|sV (vI (k:=i) Z Z Dg Z hlt Z)<|sV (af Z kF hus hrd) ?_
   refine au KF λb8=>?_
   refine sA Z<|ai (hl:=by rw [hus]; rfl) Z Z z8 hus hone ?_
   refine sK [1,2,7,8,15,16,17] Z<|cQ<|sM Z<|sM Z<|sV (vI (k:=i) Z Z Dg Z hlt' Z)<|sV (af Z kF hus' hrd') ?_
   refine au KF λb9=>?_
   refine ai (hl:=by rw [hus']; rfl) Z Z z8 hus' hone' ?_
   refine sK [1,2,8,9,15,16,17] Z<|cQ<|sM Z<|sV (af Z kF hus ag) ?_
   refine sV (af Z kF hus' ag) ?_
   refine bf Z Z hE Z ((hF x y us us' hmem ht ht')) ?_
   refine sV (bg Z)<|sK [1,2,15,16,17,30] Z<|cC Z (λhne=>?_)<|λhne=>?_
   .have hne:x≠y:=Zv
    rw [show decide (az=bz)=false from decide_eq_false (wo hg hg' hne)]
    refine cQ<|sA Z<|sK [6] Z<|cT<|xW<|xR<|xR<|xW<|xR ?_
    exact aj Z ⟨Z,Z⟩ sbq
   .have hne:x=y:=Zv
    refine cK<|xB<|xT<|cR<|sV (aI Z Z Z0)<|sM Z<|sN<|nK [1,2,15,16,17] Z<|ax ?_
    refine aL (i+1) ⟨hlt,wu hal hg hg' hne⟩<|Nat.sub_lt_sub_left hlt<|Nat.lt_succ_self i
  .have hil:i=az.length:=by
    have:¬ i<az.length:=Zx
    omega
   rw [show decide (az=bz)=true from decide_eq_true (by
    have:=hal
    rw [hil,List.take_length,hl,List.take_length] at this
    exact this)]
   refine aB<|xE<|xE<|xY<|xT<|cQ<|sA Z<|sK [6] Z<|cT ?_
   exact aj Z ⟨Z,Z⟩ sbq
theorem Mi {az bz:List Cla} {kf:FuncId} (hE:Ck.Enters prog kf) (hv:Ls X v az) (hv':Ls X v' bz) (hF:∀ (a b:Cla) us us',a∈az->Enc.rep X us a->Enc.rep X us' b->Reads prog kf #[.agg us.toArray,.agg us'.toArray] [X] (.bool (decide (a=b)))):Reads prog 244 #[v,v',.func (.func kf) #[] #[]] [X] (.bool (decide (az=bz))):=by
 have hml:maxLen=9223372036854775807:=rfl
 obtain ⟨a,cap,rfl,hlc,hcm,hnone⟩:=hv.form
 obtain ⟨a',cap',rfl,hlc',hcm',hnone'⟩:=hv'.form
 refine aJ (n:=32) func244 Z Z (len Z) λhr w0=>?_
 refine cQ<|sA Z<|sN<|nT<|cS<|cQ<|sM Z<|sV (aC Z underlying42)<|sM Z<|sV (aC Z underlying42)<|sV (bT Z Z)<|sK [0,1,2,6,14] Z<|cC Z (λhl=>?_)<|λhl=>?_
 .have hl:¬ az.length=bz.length:=by
   have:¬ (az.length:Int)=bz.length:=Zn
   omega
  rw [show decide (az=bz)=false from decide_eq_false λe=>hl (by rw [e])]
  refine cQ<|sA Z<|sK [6] Z<|cT<|xR ?_
  exact aj Z ⟨Z,Z⟩ sbq
 .have hl:az.length=bz.length:=by
   have:(az.length:Int)=bz.length:=Zn
   omega
  refine cK<|xT<|cS<|cQ<|sM Z<|sV (aC Z underlying42)<|sM Z<|sK [1,2,6,15,16,17] Z<|cB<|aY (σ := Nat) (λi=>[(1,.slice a' bz.length cap'),(2,.func (.func kf) #[] #[]),(15,.slice a az.length cap),(16,.int .i64 az.length),(17,.int .i64 (i:Nat))]) (λ_=>X::hr) (λi=>i<=az.length/\az.take i=bz.take i) (λi=>az.length - i) 0 ⟨Nat.zero_le _,Z⟩ ?_
  rintro i ⟨hi,hal⟩
  refine cQ<|sV (aO Z Z)<|sN<|nT<|cS<|cC Z (λhd=>?_)<|λhd=>?_
  .have hlt:i<az.length:=Zx
   have hlt':i<bz.length:=by omega
   have hg:=Zy hlt
   have hg':=Zy hlt'
   have hmem:=List.getElem_mem hlt
   obtain ⟨b,o,cap2,us,e1,hus,hrd,ht⟩:=hv.at hg
   cases e1
   obtain ⟨b',o',cap2',us',e1,hus',hrd',ht'⟩:=hv'.at hg'
   cases e1
   generalize az[i]=x at hg hmem ht
   generalize bz[i]=y at hg' ht'
   have hone:=Enc.ones ht
   have hone':=Enc.ones ht'
   refine cK<|xT<|cS<|cB<|cQ<|sM Z<|sV (vI (k:=i) Z Z F9 Z hlt Z)<|sV (af Z yf hus hrd) ?_
   refine au KG λb8=>?_
   refine sA Z<|ai (hl:=by rw [hus]; rfl) Z Z Df hus hone ?_
   refine sK [1,2,7,8,15,16,17] Z<|cQ<|sM Z<|sM Z<|sV (vI (k:=i) Z Z F9 Z hlt' Z)<|sV (af Z yf hus' hrd') ?_
   refine au KG λb9=>?_
   refine ai (hl:=by rw [hus']; rfl) Z Z Df hus' hone' ?_
   refine sK [1,2,8,9,15,16,17] Z<|cQ<|sM Z<|sV (af Z yf hus ag) ?_
   refine sV (af Z yf hus' ag) ?_
   refine bf Z Z hE Z ((hF x y us us' hmem ht ht')) ?_
   refine sV (bg Z)<|sK [1,2,15,16,17,30] Z<|cC Z (λhne=>?_)<|λhne=>?_
   .have hne:x≠y:=Zv
    rw [show decide (az=bz)=false from decide_eq_false (wo hg hg' hne)]
    refine cQ<|sA Z<|sK [6] Z<|cT<|xW<|xR<|xR<|xW<|xR ?_
    exact aj Z ⟨Z,Z⟩ sbq
   .have hne:x=y:=Zv
    refine cK<|xB<|xT<|cR<|sV (aI Z Z Z0)<|sM Z<|sN<|nK [1,2,15,16,17] Z<|ax ?_
    refine aL (i+1) ⟨hlt,wu hal hg hg' hne⟩<|Nat.sub_lt_sub_left hlt<|Nat.lt_succ_self i
  .have hil:i=az.length:=by
    have:¬ i<az.length:=Zx
    omega
   rw [show decide (az=bz)=true from decide_eq_true (by
    have:=hal
    rw [hil,List.take_length,hl,List.take_length] at this
    exact this)]
   refine aB<|xE<|xE<|xY<|xT<|cQ<|sA Z<|sK [6] Z<|cT ?_
   exact aj Z ⟨Z,Z⟩ sbq
theorem AR {az bz:List Sd} (hv:Ls X v az) (hv':Ls X v' bz):Reads prog 38 #[v,v'] [X] (.bool (decide (az=bz))):=by
 have hml:maxLen=9223372036854775807:=rfl
 obtain ⟨a,cap,rfl,hlc,hcm,hnone⟩:=hv.form
 obtain ⟨a',cap',rfl,hlc',hcm',hnone'⟩:=hv'.form
 refine aJ (n:=26) func38 Z Z (len Z) λhr w0=>?_
 refine cQ<|sA Z<|sN<|nT<|cS<|cQ<|sM Z<|sV (aC Z underlying67)<|sM Z<|sV (aC Z underlying67)<|sV (bT Z Z)<|sK [0,1,4,10] Z<|cC Z (λhl=>?_)<|λhl=>?_
 .have hl:¬ az.length=bz.length:=by
   have:¬ (az.length:Int)=bz.length:=Zn
   omega
  rw [show decide (az=bz)=false from decide_eq_false λe=>hl (by rw [e])]
  refine cQ<|sA Z<|sK [4] Z<|cT<|xR ?_
  exact aj Z ⟨Z,Z⟩ sbq
 .have hl:az.length=bz.length:=by
   have:(az.length:Int)=bz.length:=Zn
   omega
  refine cK<|xT<|cS<|cQ<|sM Z<|sV (aC Z underlying67)<|sM Z<|sK [0,1,4,12,13] Z<|cB<|aY (σ := Nat) (λi=>[(0,.slice a az.length cap),(1,.slice a' bz.length cap'),(12,.int .i64 az.length),(13,.int .i64 (i:Nat))]) (λ_=>X::hr) (λi=>i<=az.length/\az.take i=bz.take i) (λi=>az.length - i) 0 ⟨Nat.zero_le _,Z⟩ ?_
  rintro i ⟨hi,hal⟩
  refine cQ<|sV (aO Z Z)<|sN<|nT<|cS<|cC Z (λhd=>?_)<|λhd=>?_
  .have hlt:i<az.length:=Zx
   have hlt':i<bz.length:=by omega
   have hg:=Zy hlt
   have hg':=Zy hlt'
   obtain ⟨b,o,cap2,us,e1,hus,hrd,ht⟩:=hv.at hg
   cases e1
   obtain ⟨b',o',cap2',us',e1,hus',hrd',ht'⟩:=hv'.at hg'
   cases e1
   generalize az[i]=x at hg ht
   generalize bz[i]=y at hg' ht'
   have ht:us=[sv x.cls,sv x.name]:=ht
   have ht':us'=[sv y.cls,sv y.name]:=ht'
   subst ht ht'
   refine cK<|xT<|cS<|cB<|cQ<|sM Z<|sA Z<|sK [0,1,5,12,13] Z<|cS<|bC (ork [(0,2),(1,2),(2,2),(3,1),(4,2),(5,2),(6,2),(7,1),(8,1)] .nil) (λ_=>true) mixed Zz ?_
   refine dV Z (vM Z)<|dV Z (vM Z)<|dV Z (vI (k:=i) Z Z qV Z hlt Z)<|bu Z (af Z iN Z hrd) ?_
   refine dV Z (vM Z)<|dV Z (vM Z)<|dV Z (vI (k:=i) Z Z qV Z hlt' Z)<|bu Z (af Z iN Z hrd') ?_
   refine bu Z (wX yw Z Z)<|bB<|nK [0,1,12,13,24] Z<|nT<|cC Z (λhne=>?_)<|λhne=>?_
   .have hne:x≠y:=by exact Oz hne
    rw [show decide (az=bz)=false from decide_eq_false (wo hg hg' hne)]
    refine cQ<|sA Z<|sK [4] Z<|cT<|xW<|xR<|xR<|xW<|xR ?_
    exact aj Z ⟨Z,Z⟩ sbq
   .have hne:x=y:=by exact OA hne
    refine cK<|xB<|xT<|cR<|sV (aI Z Z Z0)<|sM Z<|sN<|nK [0,1,12,13] Z<|ax ?_
    refine aL (i+1) ⟨hlt,wu hal hg hg' hne⟩<|Nat.sub_lt_sub_left hlt<|Nat.lt_succ_self i
  .have hil:i=az.length:=by
    have:¬ i<az.length:=Zx
    omega
   rw [show decide (az=bz)=true from decide_eq_true (by
    have:=hal
    rw [hil,List.take_length,hl,List.take_length] at this
    exact this)]
   refine aB<|xE<|xE<|xY<|xT<|cQ<|sA Z<|sK [4] Z<|cT ?_
   exact aj Z ⟨Z,Z⟩ sbq
end
section
variable {X:Res} {v v':Value} {us us':List Value}
theorem E8 {a:Vr} (h:Enc.rep X us a):∃ y,us=[sv a.name,.int .i64 a.ty.kind,sv a.ty.name,y,.bool a.ty.void,.bool a.ty.sep]/\Tys X y a.ty.args:=by
 obtain ⟨ts,rfl,ht⟩:=h
 obtain ⟨y,rfl,hy⟩:=eH ht
 exact ⟨y,Z,hy⟩
theorem E9 {a:Cla} (h:Enc.rep X us a):∃ y,us=[sv a.tag,.int .i64 a.ex.kind,sv a.ex.name,.int .i64 a.ex.num,y]/\Ls X y a.ex.kids:=by
 obtain ⟨ts,rfl,ht⟩:=h
 obtain ⟨y,rfl,hy⟩:=mF ht
 exact ⟨y,Z,hy⟩
def iC (m:Mb) (x2 x5 y x11 x12 x13:Value):List Value:=[sv m.name,.int .i64 m.kind,x2,sv m.impl.cls,sv m.impl.name,x5,.int .i64 m.ty.kind,sv m.ty.name,y,.bool m.ty.void,.bool m.ty.sep,x11,x12,x13]
def mbL (X:Res) (m:Mb) (x2 x5 y x11 x12 x13:Value):Prop:=Ls X x2 m.seeds/\Ls X x5 m.args/\Tys X y m.ty.args/\Ls X x11 m.clients/\Ls X x12 m.pre/\Ls X x13 m.post
theorem dN {m:Mb} (h:Enc.rep X us m):∃ x2 x5 y x11 x12 x13,us=iC m x2 x5 y x11 x12 x13/\mbL X m x2 x5 y x11 x12 x13:=by
 obtain ⟨x2,x5,ts,x11,x12,x13,rfl,h1,h2,h3,h4⟩:=h
 obtain ⟨y,rfl,hy⟩:=eH h3
 exact ⟨x2,x5,y,x11,x12,x13,Z,h1,h2,hy,h4⟩
theorem qP {m:Mb} {x2 x5 y x11 x12 x13:Value} (h:mbL X m x2 x5 y x11 x12 x13):Enc.rep X (iC m x2 x5 y x11 x12 x13) m:=by
 obtain ⟨h1,h2,h3,h4⟩:=h
 exact ⟨x2,x5,tyC m.ty y,x11,x12,x13,Z,h1,h2,gI Z h3,h4⟩
theorem DI {s t:Kt}:decide (s=t)=((((s.kind == t.kind && s.name == t.name) && s.void == t.void) && s.sep == t.sep) && decide (s.args=t.args)):=by
 obtain ⟨k,n,az,w,p⟩:=s
 obtain ⟨k',n',az',w',p'⟩:=t
 rw [Bool.eq_iff_iff]
 simp only [Kt.kind,Kt.name,Kt.void,Kt.sep,Kt.args,Bool.and_eq_true,beq_iff_eq,decide_eq_true_eq,Kt.mk.injEq]
 constructor
 .rintro ⟨h1,h2,h3,h4,h5⟩; exact ⟨⟨⟨⟨h1,h2⟩,h4⟩,h5⟩,decide_eq_true h3⟩
 .rintro ⟨⟨⟨⟨h1,h2⟩,h4⟩,h5⟩,h3⟩; exact ⟨h1,h2,of_decide_eq_true h3,h4,h5⟩
theorem DJ {s t:Ex}:decide (s=t)=(((s.kind == t.kind && s.name == t.name) && s.num == t.num) && decide (s.kids=t.kids)):=by
 obtain ⟨k,n,i,l⟩:=s
 obtain ⟨k',n',i',l'⟩:=t
 rw [Bool.eq_iff_iff]
 simp only [Ex.kind,Ex.name,Ex.num,Ex.kids,Bool.and_eq_true,beq_iff_eq,decide_eq_true_eq,Ex.mk.injEq]
 constructor
 .rintro ⟨h1,h2,h3,h4⟩; exact ⟨⟨⟨h1,h2⟩,h3⟩,decide_eq_true h4⟩
 .rintro ⟨⟨⟨h1,h2⟩,h3⟩,h4⟩; exact ⟨h1,h2,h3,of_decide_eq_true h4⟩
theorem Mj {s t:Vr}:decide (s=t)=(s.name == t.name && decide (s.ty=t.ty)):=by
 cases s; cases t; rw [Bool.eq_iff_iff]; simp
theorem Mk {s t:Cla}:decide (s=t)=(s.tag == t.tag && decide (s.ex=t.ex)):=by
 cases s; cases t; rw [Bool.eq_iff_iff]; simp
theorem DK {s t:Grp}:decide (s=t)=(s.cls == t.cls && decide (s.cs=t.cs)):=by
 cases s; cases t; rw [Bool.eq_iff_iff]; simp
theorem xn {s t:Sd}:decide (s=t)=([s.cls,s.name] == [t.cls,t.name]):=by
 cases s; cases t; rw [Bool.eq_iff_iff]; simp
theorem GU : ∀ (d : Nat) (s t : Kt) (us us' : List Value), s.depth <= d -> Ty X us s -> Ty X us' t -> Reads prog 267 #[.agg us.toArray, .agg us'.toArray] [X] (.bool (decide (s = t)))
 | 0,s,_,_,_,hd,_,_=>by cases s; simp [Kt.depth] at hd
 | d+1,s,t,us,us',hd,hs,ht=>by
  obtain ⟨x,rfl,hx⟩:=eH hs
  obtain ⟨y,rfl,hy⟩:=eH ht
  have hF:∀ (a b:Kt) us us',a∈s.args->Ty X us a->Ty X us' b->Reads prog 267 #[.agg us.toArray,.agg us'.toArray] [X] (.bool<|decide (a=b)):=λa b us us' ha h1 h2=>GU d a b us us' (by have:=jX ha; omega) h1 h2
  rw [DI]
  unfold tyC
  refine aJ (n:=38) func267 Z Z (len Z) λhr w0=>?_
  refine cQ (aV Z Z λb2=>?_)
  refine aV Z Z λb3=>?_
  refine sA Z<|sK [2,3,4] Z<|cQ<|sV (vF Z rM Z)<|sV (vY Z ld3) ?_
  refine sV (vF Z rM Z)<|sV (vY Z ld3) ?_
  refine sV (dX Z Z)<|sM Z<|bH (k:=12) (d:=16) (v:=.bool ((s.kind == t.kind) && s.name == t.name)) (λhcut=>aM (b:=(s.kind == t.kind)) true (λhg=>?_)<|λhg=>?_) ?_
  .refine aF Z Z hg ?_
   iterate 4 refine aF rfl rfl hg ?_
   refine sV (vP (bO Z hg) Z) ?_
   exact hcut _ uG
  .refine sG Z (bG Z hg) (vF Z Ac Z)<|sG Z (bG Z hg) (vY Z ld9) ?_
   refine sG Z (bG Z hg) (vF Z Ac Z)<|sG Z (bG Z hg) (vY Z ld9) ?_
   refine sG Z (bG Z hg) (iM Z Z)<|sV (vQ (bO Z hg) Z) ?_
   exact hcut _ uG
  refine sM Z<|bH (k:=19) (d:=23) (v:=.bool (((s.kind == t.kind) && s.name == t.name) && s.void == t.void)) (λhcut=>aM (b:=((s.kind == t.kind) && s.name == t.name)) true (λhg=>?_)<|λhg=>?_) ?_
  .refine aF Z Z hg ?_
   iterate 4 refine aF rfl rfl hg ?_
   refine sV (vP (bO Z hg) Z) ?_
   exact hcut _ uG
  .refine sG Z (bG Z hg) (vF Z pY Z)<|sG Z (bG Z hg) (vY Z ld4) ?_
   refine sG Z (bG Z hg) (vF Z pY Z)<|sG Z (bG Z hg) (vY Z ld4) ?_
   refine sG Z (bG Z hg) (pR underlying4 Z Z)<|sV (vQ (bO Z hg) Z) ?_
   exact hcut _ uG
  refine sM Z<|bH (k:=26) (d:=30) (v:=.bool ((((s.kind == t.kind) && s.name == t.name) && s.void == t.void) && s.sep == t.sep)) (λhcut=>aM (b:=(((s.kind == t.kind) && s.name == t.name) && s.void == t.void)) true (λhg=>?_)<|λhg=>?_) ?_
  .refine aF Z Z hg ?_
   iterate 4 refine aF rfl rfl hg ?_
   refine sV (vP (bO Z hg) Z) ?_
   exact hcut _ uG
  .refine sG Z (bG Z hg) (vF Z p8 Z)<|sG Z (bG Z hg) (vY Z ld4) ?_
   refine sG Z (bG Z hg) (vF Z p8 Z)<|sG Z (bG Z hg) (vY Z ld4) ?_
   refine sG Z (bG Z hg) (pR underlying4 Z Z)<|sV (vQ (bO Z hg) Z) ?_
   exact hcut _ uG
  refine sM Z<|bH (k:=33) (d:=37) (v:=.bool (((((s.kind == t.kind) && s.name == t.name) && s.void == t.void) && s.sep == t.sep) && decide (s.args=t.args))) (λhcut=>aM (b:=((((s.kind == t.kind) && s.name == t.name) && s.void == t.void) && s.sep == t.sep)) true (λhg=>?_)<|λhg=>?_) ?_
  .refine aF Z Z hg ?_
   iterate 4 refine aF rfl rfl hg ?_
   refine sV (vP (bO Z hg) Z) ?_
   exact hcut _ uG
  .refine sG Z (bG Z hg) (vF Z ja Z)<|sG Z (bG Z hg) (vY Z pX) ?_
   refine sG Z (bG Z hg) (vF Z ja Z)<|sG Z (bG Z hg) (vY Z pX) ?_
   refine bS Z (bG Z hg) Z Z en296 Z (Mg en267 hx hy hF) ?_
   refine sV (vQ (bO Z hg) Z) ?_
   exact hcut _ uG
  refine sA Z<|sK [4] Z<|cT ?_
  exact aj Z ⟨Z,Z⟩ sbq
theorem GV {s t:Kt} (hs:Ty X us s) (ht:Ty X us' t):Reads prog 267 #[.agg us.toArray,.agg us'.toArray] [X] (.bool (decide (s=t))):=GU s.depth s t us us' (Nat.le_refl _) hs ht
theorem GX {s t:Vr} (hs:Enc.rep X us s) (ht:Enc.rep X us' t):Reads prog 216 #[.agg us.toArray,.agg us'.toArray] [X] (.bool (decide (s=t))):=by
 obtain ⟨x,rfl,hx⟩:=E8 hs
 obtain ⟨y,rfl,hy⟩:=E8 ht
 rw [Mj]
 refine aJ (n:=17) func216 Z Z (len Z) λhr w0=>?_
 refine cQ (aV Z Z λb2=>?_)
 refine aV Z Z λb3=>?_
 refine sA Z<|sK [2,3,4] Z<|cQ<|sV (vF Z y7 Z)<|sV (vY Z ld9) ?_
 refine sV (vF Z y7 Z)<|sV (vY Z ld9) ?_
 refine sV (iM Z Z)<|sM Z<|bH (k:=12) (d:=16) (v:=.bool ((s.name == t.name) && decide (s.ty=t.ty))) (λhcut=>aM (b:=(s.name == t.name)) true (λhg=>?_)<|λhg=>?_) ?_
 .refine aF Z Z hg ?_
  iterate 4 refine aF rfl rfl hg ?_
  refine sV (vP (bO Z hg) Z) ?_
  exact hcut _ uG
 .refine sG Z (bG Z hg) (vF Z kw Z)<|sG Z (bG Z hg) (af Z fM Z<|bF (us:=[sv s.name,.int .i64 s.ty.kind,sv s.ty.name,x,.bool s.ty.void,.bool s.ty.sep]) (vs:=tyC s.ty x) (k:=1) ag Z) ?_
  refine sG Z (bG Z hg) (vF Z kw Z)<|sG Z (bG Z hg) (af Z fM Z<|bF (us:=[sv t.name,.int .i64 t.ty.kind,sv t.ty.name,y,.bool t.ty.void,.bool t.ty.sep]) (vs:=tyC t.ty y) (k:=1) ag Z) ?_
  refine bS Z (bG Z hg) Z Z en267 Z (GV (gI Z hx)<|gI Z hy) ?_
  refine sV (vQ (bO Z hg) Z) ?_
  exact hcut _ uG
 refine sA Z<|sK [4] Z<|cT ?_
 exact aj Z ⟨Z,Z⟩ sbq
theorem GY : ∀ (d : Nat) (s t : Ex) (us us' : List Value), s.depth <= d -> Enc.rep X us s -> Enc.rep X us' t -> Reads prog 246 #[.agg us.toArray, .agg us'.toArray] [X] (.bool (decide (s = t)))
 | 0,s,_,_,_,hd,_,_=>by cases s; simp [Ex.depth] at hd
 | d+1,s,t,us,us',hd,hs,ht=>by
  obtain ⟨x,rfl,hx⟩:=mF hs
  obtain ⟨y,rfl,hy⟩:=mF ht
  have hF:∀ (a b:Ex) us us',a∈s.kids->Enc.rep X us a->Enc.rep X us' b->Reads prog 246 #[.agg us.toArray,.agg us'.toArray] [X] (.bool<|decide (a=b)):=λa b us us' ha h1 h2=>GY d a b us us' (by have:=qj ha; omega) h1 h2
  rw [DJ]
  unfold exC
  refine aJ (n:=31) func246 Z Z (len Z) λhr w0=>?_
  refine cQ (aV Z Z λb2=>?_)
  refine aV Z Z λb3=>?_
  refine sA Z<|sK [2,3,4] Z<|cQ<|sV (vF Z ze Z)<|sV (vY Z ld3) ?_
  refine sV (vF Z ze Z)<|sV (vY Z ld3) ?_
  refine sV (dX Z Z)<|sM Z<|bH (k:=12) (d:=16) (v:=.bool ((s.kind == t.kind) && s.name == t.name)) (λhcut=>aM (b:=(s.kind == t.kind)) true (λhg=>?_)<|λhg=>?_) ?_
  .refine aF Z Z hg ?_
   iterate 4 refine aF rfl rfl hg ?_
   refine sV (vP (bO Z hg) Z) ?_
   exact hcut _ uG
  .refine sG Z (bG Z hg) (vF Z zf Z)<|sG Z (bG Z hg) (vY Z ld9) ?_
   refine sG Z (bG Z hg) (vF Z zf Z)<|sG Z (bG Z hg) (vY Z ld9) ?_
   refine sG Z (bG Z hg) (iM Z Z)<|sV (vQ (bO Z hg) Z) ?_
   exact hcut _ uG
  refine sM Z<|bH (k:=19) (d:=23) (v:=.bool (((s.kind == t.kind) && s.name == t.name) && s.num == t.num)) (λhcut=>aM (b:=((s.kind == t.kind) && s.name == t.name)) true (λhg=>?_)<|λhg=>?_) ?_
  .refine aF Z Z hg ?_
   iterate 4 refine aF rfl rfl hg ?_
   refine sV (vP (bO Z hg) Z) ?_
   exact hcut _ uG
  .refine sG Z (bG Z hg) (vF Z zg Z)<|sG Z (bG Z hg) (vY Z ld3) ?_
   refine sG Z (bG Z hg) (vF Z zg Z)<|sG Z (bG Z hg) (vY Z ld3) ?_
   refine sG Z (bG Z hg) (dX Z Z)<|sV (vQ (bO Z hg) Z) ?_
   exact hcut _ uG
  refine sM Z<|bH (k:=26) (d:=30) (v:=.bool ((((s.kind == t.kind) && s.name == t.name) && s.num == t.num) && decide (s.kids=t.kids))) (λhcut=>aM (b:=(((s.kind == t.kind) && s.name == t.name) && s.num == t.num)) true (λhg=>?_)<|λhg=>?_) ?_
  .refine aF Z Z hg ?_
   iterate 4 refine aF rfl rfl hg ?_
   refine sV (vP (bO Z hg) Z) ?_
   exact hcut _ uG
  .refine sG Z (bG Z hg) (vF Z jI Z)<|sG Z (bG Z hg) (vY Z tK) ?_
   refine sG Z (bG Z hg) (vF Z jI Z)<|sG Z (bG Z hg) (vY Z tK) ?_
   refine bS Z (bG Z hg) Z Z en279 Z (Mh en246 hx hy hF) ?_
   refine sV (vQ (bO Z hg) Z) ?_
   exact hcut _ uG
  refine sA Z<|sK [4] Z<|cT ?_
  exact aj Z ⟨Z,Z⟩ sbq
theorem OB {s t:Ex} (hs:Enc.rep X us s) (ht:Enc.rep X us' t):Reads prog 246 #[.agg us.toArray,.agg us'.toArray] [X] (.bool (decide (s=t))):=GY s.depth s t us us' (Nat.le_refl _) hs ht
theorem OC {s t:Cla} (hs:Enc.rep X us s) (ht:Enc.rep X us' t):Reads prog 245 #[.agg us.toArray,.agg us'.toArray] [X] (.bool (decide (s=t))):=by
 obtain ⟨x,rfl,hx⟩:=E9 hs
 obtain ⟨y,rfl,hy⟩:=E9 ht
 rw [Mk]
 refine aJ (n:=17) func245 Z Z (len Z) λhr w0=>?_
 refine cQ (aV Z Z λb2=>?_)
 refine aV Z Z λb3=>?_
 refine sA Z<|sK [2,3,4] Z<|cQ<|sV (vF Z zh Z)<|sV (vY Z ld9) ?_
 refine sV (vF Z zh Z)<|sV (vY Z ld9) ?_
 refine sV (iM Z Z)<|sM Z<|bH (k:=12) (d:=16) (v:=.bool ((s.tag == t.tag) && decide (s.ex=t.ex))) (λhcut=>aM (b:=(s.tag == t.tag)) true (λhg=>?_)<|λhg=>?_) ?_
 .refine aF Z Z hg ?_
  iterate 4 refine aF rfl rfl hg ?_
  refine sV (vP (bO Z hg) Z) ?_
  exact hcut _ uG
 .refine sG Z (bG Z hg) (vF Z qh Z)<|sG Z (bG Z hg) (af Z kF Z<|bF (us:=[sv s.tag,.int .i64 s.ex.kind,sv s.ex.name,.int .i64 s.ex.num,x]) (vs:=exC s.ex x) (k:=1) ag Z) ?_
  refine sG Z (bG Z hg) (vF Z qh Z)<|sG Z (bG Z hg) (af Z kF Z<|bF (us:=[sv t.tag,.int .i64 t.ex.kind,sv t.ex.name,.int .i64 t.ex.num,y]) (vs:=exC t.ex y) (k:=1) ag Z) ?_
  refine bS Z (bG Z hg) Z Z en246 Z (OB (DC Z hx)<|DC Z hy) ?_
  refine sV (vQ (bO Z hg) Z) ?_
  exact hcut _ uG
 refine sA Z<|sK [4] Z<|cT ?_
 exact aj Z ⟨Z,Z⟩ sbq
theorem OD {s t:Grp} (hs:Enc.rep X us s) (ht:Enc.rep X us' t):Reads prog 182 #[.agg us.toArray,.agg us'.toArray] [X] (.bool (decide (s=t))):=by
 obtain ⟨x,rfl,hx⟩:=hs
 obtain ⟨y,rfl,hy⟩:=ht
 rw [DK]
 refine aJ (n:=17) func182 Z Z (len Z) λhr w0=>?_
 refine cQ (aV Z Z λb2=>?_)
 refine aV Z Z λb3=>?_
 refine sA Z<|sK [2,3,4] Z<|cQ<|sV (vF Z za Z)<|sV (vY Z ld9) ?_
 refine sV (vF Z za Z)<|sV (vY Z ld9) ?_
 refine sV (iM Z Z)<|sM Z<|bH (k:=12) (d:=16) (v:=.bool ((s.cls == t.cls) && decide (s.cs=t.cs))) (λhcut=>aM (b:=(s.cls == t.cls)) true (λhg=>?_)<|λhg=>?_) ?_
 .refine aF Z Z hg ?_
  iterate 4 refine aF rfl rfl hg ?_
  refine sV (vP (bO Z hg) Z) ?_
  exact hcut _ uG
 .refine sG Z (bG Z hg) (vF Z sI Z)<|sG Z (bG Z hg) (vY Z ui) ?_
  refine sG Z (bG Z hg) (vF Z sI Z)<|sG Z (bG Z hg) (vY Z ui) ?_
  refine bS Z (bG Z hg) Z Z en244 Z (Mi en245 hx hy λ_ _ _ _ _ h1 h2=>OC h1 h2) ?_
  refine sV (vQ (bO Z hg) Z) ?_
  exact hcut _ uG
 refine sA Z<|sK [4] Z<|cT ?_
 exact aj Z ⟨Z,Z⟩ sbq
theorem xq {s t:Mb} (hs:Enc.rep X us s) (ht:Enc.rep X us' t):Reads prog 214 #[.agg us.toArray,.agg us'.toArray] [X] (.bool (Sk.sameTy s t)):=by
 obtain ⟨x2,x5,xy,x11,x12,x13,rfl,hx2,hx5,hxy,hx11,hx12,hx13⟩:=dN hs
 obtain ⟨y2,y5,yy,y11,y12,y13,rfl,hy2,hy5,hyy,hy11,hy12,hy13⟩:=dN ht
 unfold Sk.sameTy iC
 refine aJ (n:=17) func214 Z Z (len Z) λhr w0=>?_
 refine cQ (aV Z Z λb2=>?_)
 refine aV Z Z λb3=>?_
 refine sA Z<|sK [2,3,4] Z<|cQ<|sV (vF Z jW Z)<|sV (vY Z rF) ?_
 refine sV (vF Z jW Z)<|sV (vY Z rF) ?_
 refine bf Z Z en215 Z (DF en216 hx5 hy5 λ_ _ _ _ _ h1 h2=>GX h1 h2) ?_
 refine sM Z<|bH (k:=12) (d:=16) (v:=.bool ((decide (s.args=t.args)) && decide (s.ty=t.ty))) (λhcut=>aM (b:=(decide (s.args=t.args))) true (λhg=>?_)<|λhg=>?_) ?_
 .refine aF Z Z hg ?_
  iterate 4 refine aF rfl rfl hg ?_
  refine sV (vP (bO Z hg) Z) ?_
  exact hcut _ uG
 .refine sG Z (bG Z hg) (vF Z nR Z)<|sG Z (bG Z hg) (af Z fM Z<|bF (us:=iC s x2 x5 xy x11 x12 x13) (vs:=tyC s.ty xy) (k:=6) ag Z) ?_
  refine sG Z (bG Z hg) (vF Z nR Z)<|sG Z (bG Z hg) (af Z fM Z<|bF (us:=iC t y2 y5 yy y11 y12 y13) (vs:=tyC t.ty yy) (k:=6) ag Z) ?_
  refine bS Z (bG Z hg) Z Z en267 Z (GV (gI Z hxy)<|gI Z hyy) ?_
  refine sV (vQ (bO Z hg) Z) ?_
  exact hcut _ uG
 refine sA Z<|sK [4] Z<|cT ?_
 exact aj Z ⟨Z,Z⟩ sbq
theorem same_ct {s t:Mb} (hs:Enc.rep X us s) (ht:Enc.rep X us' t):Reads prog 218 #[.agg us.toArray,.agg us'.toArray] [X] (.bool (Sk.same s t)):=by
 obtain ⟨x2,x5,xy,x11,x12,x13,rfl,hx2,hx5,hxy,hx11,hx12,hx13⟩:=dN hs
 obtain ⟨y2,y5,yy,y11,y12,y13,rfl,hy2,hy5,hyy,hy11,hy12,hy13⟩:=dN ht
 have hst:=xq (qP ⟨hx2,hx5,hxy,hx11,hx12,hx13⟩)<|qP ⟨hy2,hy5,hyy,hy11,hy12,hy13⟩
 unfold Sk.same
 rw [xn]
 unfold iC at *
 refine aJ (n:=22) func218 Z Z (len Z) λhr w0=>?_
 refine cQ (aV Z Z λb2=>?_)
 refine aV Z Z λb3=>?_
 refine sA Z<|sK [2,3,4] Z<|cQ<|sV (vF Z wS Z)<|sV (af Z iN Z<|bF (us:=iC s x2 x5 xy x11 x12 x13) (vs:=[sv s.impl.cls,sv s.impl.name]) (k:=3) ag Z) ?_
 refine sV (vF Z wS Z)<|sV (af Z iN Z<|bF (us:=iC t y2 y5 yy y11 y12 y13) (vs:=[sv t.impl.cls,sv t.impl.name]) (k:=3) ag Z) ?_
 refine sV (jY yw Z Z)<|sM Z<|bH (k:=12) (d:=16) (v:=.bool (([s.impl.cls,s.impl.name] == [t.impl.cls,t.impl.name]) && decide (s.seeds=t.seeds))) (λhcut=>aM (b:=([s.impl.cls,s.impl.name] == [t.impl.cls,t.impl.name])) true (λhg=>?_)<|λhg=>?_) ?_
 .refine aF Z Z hg ?_
  iterate 4 refine aF rfl rfl hg ?_
  refine sV (vP (bO Z hg) Z) ?_
  exact hcut _ uG
 .refine sG Z (bG Z hg) (vF Z eT Z)<|sG Z (bG Z hg) (vY Z pW) ?_
  refine sG Z (bG Z hg) (vF Z eT Z)<|sG Z (bG Z hg) (vY Z pW) ?_
  refine bS Z (bG Z hg) Z Z en38 Z (AR hx2 hy2) ?_
  refine sV (vQ (bO Z hg) Z) ?_
  exact hcut _ uG
 refine sM Z<|bH (k:=17) (d:=21) (v:=.bool ((([s.impl.cls,s.impl.name] == [t.impl.cls,t.impl.name]) && decide (s.seeds=t.seeds)) && Sk.sameTy s t)) (λhcut=>aM (b:=(([s.impl.cls,s.impl.name] == [t.impl.cls,t.impl.name]) && decide (s.seeds=t.seeds))) true (λhg=>?_)<|λhg=>?_) ?_
 .refine aF Z Z hg ?_
  iterate 2 refine aF rfl rfl hg ?_
  refine sV (vP (bO Z hg) Z) ?_
  exact hcut _ uG
 .refine sG Z (bG Z hg) (af Z fE Z ag) ?_
  refine sG Z (bG Z hg) (af Z fE Z ag) ?_
  refine bS Z (bG Z hg) Z Z KO Z (hst) ?_
  refine sV (vQ (bO Z hg) Z) ?_
  exact hcut _ uG
 refine sA Z<|sK [4] Z<|cT ?_
 exact aj Z ⟨Z,Z⟩ sbq
end
end Go.Fl
