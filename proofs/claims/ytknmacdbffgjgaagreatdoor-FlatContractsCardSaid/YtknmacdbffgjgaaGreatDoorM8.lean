/-
  Package flat,Go's library: slices.IndexFunc,slices.ContainsFunc at the plain data. Conditions: what is read.
-/
import Derived.Test.YtknmacdbffgjgaaGreatDoorM7
import Derived.Test.YtknmacdbffgjgaaGreatDoorM5
import Derived.Test.YtknmacdbffgjgaaGreatDoorM3
import Derived.Test.YtknmacdbffgjgaaGreatDoorM6
set_option linter.unusedVariables false
set_option linter.unusedSimpArgs false
set_option maxRecDepth 100000
set_option maxHeartbeats 16000000
namespace Go.Fl
open Go Go.Hr
def fO (l:FS) (c:Nm) (s:Sd):List Nm×Int:=if wholeE l [c]≠0 then ([],wholeE l [c]) else if aZ (look (build l).1 c).mems s=[] then ([],5) else (aZ (look (build l).1 c).mems s,0)
def selOf (l:FS) (c:Nm) (s:Sd):Nm×Bool:=eP (look (build l).1) l l.length (ae l c) (look (build l).1 c).mems s
def CS (l:FS) (c:Nm) (s:Sd):Nm×Int:=if (fO l c s).2≠0 then ([],(fO l c s).2) else ((selOf l c s).1,0)
def pI (ms:List Mb) (ss:List Sd):List Nm:=(ms.filter λx=>ss.all λs=>x.seeds.contains s).map λx=>x.name
def iH (l:FS) (d c n:Nm):Nm×Int :=
 if (bL l [d] c n).2≠0 then ([],(bL l [d] c n).2) else if has (bn l) d c=false then ([],5) else
 match pI (look (build l).1 d).mems (bL l [d] c n).1.seeds with
 | []=>([],5)
 | [a]=>(a,0)
 | a::b::t=>if (a::b::t).contains (selOf l d ((bL l [d] c n).1.seeds.headD ⟨[],[]⟩)).1 then ((selOf l d ((bL l [d] c n).1.seeds.headD ⟨[],[]⟩)).1,0) else ([],5)
section
variable {l:FS}
theorem NC {ms:List Mb} {ss:List Sd} {n:Nm}:n∈pI ms ss↔∃ m∈ms,(∀ s∈ss,s∈m.seeds)/\m.name=n:=by
 unfold pI
 rw [List.mem_map]
 constructor
 ·rintro ⟨m,h,rfl⟩
  obtain ⟨h1,h2⟩:=List.mem_filter.1 h
  exact ⟨m,h1,by simpa using h2,rfl⟩
 ·rintro ⟨m,h1,h2,rfl⟩
  exact ⟨m,List.mem_filter.2 ⟨h1,by simpa using h2⟩,rfl⟩
theorem K8 (h:Good l) {c:Nm} (hc:(bJ l c).isSome=true) (n:Nat) (ms:List Mb) (s:Sd):eP (look (build l).1) l n (ae l c) ms s=eP (FL l) l n (ae l c) ms s :=
 tX h.sys n c ms s λa h1 _=>h.look (by rw [<- dD]; exact uL (by rw [dD]; exact hc) h1)
theorem Good.selOf (h:Good l) {c:Nm} (hc:(bJ l c).isSome=true) (s:Sd):Fl.selOf l c s=eP (FL l) l l.length (ae l c) (msF l c) s:=by
 unfold Fl.selOf
 rw [K8 h hc,h.look hc,iy h.sys]
theorem Good.names (h:Good l) {c:Nm} (hc:(bJ l c).isSome=true) (s:Sd):fO l c s=if aZ (msF l c) s=[] then ([],5) else (aZ (msF l c) s,0):=by
 unfold fO
 rw [if_neg (λh2=>h2<|h.whole.2<|by simpa using hc),h.look hc,iy h.sys]
theorem Good.sel_ok (h : Good l) {c : Nm} (hc : (bJ l c).isSome = true) {s : Sd} {m : Mb} (hm : m ∈ msF l c) (hs : s ∈ m.seeds) :
  (eP (FL l) l l.length (ae l c) (msF l c) s).2=true/\(eP (FL l) l l.length (ae l c) (msF l c) s).1∈aZ (msF l c) s:=by
 have key : (eP (FL l) l l.length (ae l c) (msF l c) s).2 = true := by
  cases hq:(eP (FL l) l l.length (ae l c) (msF l c) s).2 with
  | true=>rfl
  | false =>
   exfalso
   have h1:=(List.append_eq_nil_iff.1 (List.append_eq_nil_iff.1 (h.ok c hc).calm.chosen).1).1
   have hsd:s∈(skF l c false).seeds:=by
    unfold Sk.seeds
    rw [(jf _).2,List.mem_flatMap]
    exact ⟨m,hm,hs⟩
   have h2:=flatMap_nil h1 s hsd
   have hq':((skF l c false).sel s).2=false:=hq
   rw [hq',if_neg (by decide)] at h2
   have hn:m.name∈aZ (msF l c) s:=iR.2 ⟨m,hm,hs,rfl⟩
   match hl:aZ (msF l c) s,hn with
   | [a],_ =>
    have:(eP (FL l) l l.length (ae l c) (msF l c) s).2=true:=by unfold eP; rw [hl]
    rw [hq] at this; cases this
   | a::b::t,_ =>
    have hmem:∀ f,f a b∈(skF l c false).pairs (aZ (msF l c) s) (λ_ _=>true) f:=λf=>FW.2 ⟨0,1,a,b,by rw [hl]; rfl,by rw [hl]; rfl,by decide,λ_=>by decide,rfl,rfl⟩
    have h3:∀ r:List Cf,(skF l c false).cut r=[]->r=[]:=λr hr=>by
     cases r with
     | nil=>rfl
     | cons x t=>simp [Sk.cut,skF] at hr
    have h4:=h3 _ h2
    have h5:=hmem λa b=>⟨11,(skF l c false).c.name,a,b,⟨s.cls,s.name⟩,og0⟩
    have h6:(skF l c false).pairs (aZ (skF l c false).ms s) (λ_ _=>true) (λa b=>⟨11,(skF l c false).c.name,a,b,⟨s.cls,s.name⟩,og0⟩)=[]:=h4
    have h7:(skF l c false).ms=msF l c:=rfl
    rw [h7] at h6
    rw [h6] at h5; cases h5
 exact ⟨key,h.sel_mem _ c hc key⟩
theorem Good.selected (h:Good l) {c:Nm} (hc:(bJ l c).isSome=true) {s:Sd} {m:Mb} (hm:m∈msF l c) (hs:s∈m.seeds):fO l c s=(aZ (msF l c) s,0)/\CS l c s=((Fl.selOf l c s).1,0)/\(Fl.selOf l c s).1∈aZ (msF l c) s:=by
 have hne:aZ (msF l c) s≠[]:=List.ne_nil_of_mem<|iR.2 ⟨m,hm,hs,rfl⟩
 have h1:fO l c s=(aZ (msF l c) s,0):=by rw [h.names hc,if_neg hne]
 refine ⟨h1,?_,?_⟩
 ·unfold CS; rw [h1,if_neg (by simp)]
 ·rw [h.selOf hc]; exact (h.sel_ok hc hm hs).2
theorem Good.version (h : Good l) {d c n : Nm} {m : Mb} (hd : (bJ l d).isSome = true) (hc : (bJ l c).isSome = true) (hm : dA (msF l c) n = some m) :
  iH l d c n=if has (bn l) d c=false then (([],5):Nm×Int) else match pI (msF l d) m.seeds with
   | []=>([],5)
   | [a]=>(a,0)
   | a::b::t=>if (a::b::t).contains (Fl.selOf l d (m.seeds.headD ⟨[],[]⟩)).1 then ((Fl.selOf l d (m.seeds.headD ⟨[],[]⟩)).1,0) else ([],5):=by
 have h1:bL l [d] c n=(m,0):=by rw [h.member (by simpa using hd) hc,hm]
 unfold iH
 rw [h1,h.look hd,iy h.sys,if_neg (by simp)]
theorem Good.version_ok (h:Good l) {d c n v:Nm} (hv:iH l d c n=(v,0)):(bJ l d).isSome=true/\(bJ l c).isSome=true/\has (bn l) d c=true/\∃ m,dA (msF l c) n=some m/\v∈pI (msF l d) m.seeds:=by
 have h0:(bL l [d] c n).2=0:=by
  refine Classical.not_not.1 λh2=>?_
  unfold iH at hv
  rw [if_pos h2] at hv
  exact h2 (Prod.mk.inj hv).2
 have h1:∀ k∈[d,c],(bJ l k).isSome=true:=by
  refine Classical.not_not.1 λh2=>?_
  have h3:Fl.wholeE l ([d]++[c])=5:=h.wholeE h2
  unfold bL at h0
  rw [h3,if_pos (by decide)] at h0
  cases h0
 have hd:=h1 d<|by simp
 have hc:=h1 c<|by simp
 rw [h.member (by simpa using hd) hc] at h0
 cases hm:dA (msF l c) n with
 | none=>rw [hm] at h0; cases h0
 | some m =>
  rw [h.version hd hc hm] at hv
  cases ha:has (bn l) d c with
  | false=>rw [ha,if_pos rfl] at hv; cases hv
  | true =>
   rw [ha,if_neg (by decide)] at hv
   refine ⟨hd,hc,rfl,m,rfl,?_⟩
   split at hv
   ·cases hv
   ·rename_i a e
    cases hv; rw [e]; simp
   ·rename_i a b t e
    split at hv
    ·rename_i hq
     cases hv
     rw [e]; simpa using hq
    ·cases hv
theorem BG (h : Good l) {f a : Nm} (hf : (bJ l f).isSome = true) (ha : (bJ l a).isSome = true) (hfa : has (bn l) f a = true) :
  (∀ g∈(FL l a).inv,g∈(FL l f).inv)/\∀ m∈msF l a,∀ v,iH l f a m.name=(v,0)->∃ x,bL l [] f v=(x,0)/\m.args.length=x.args.length/\(∀ s∈m.seeds,s∈x.seeds) /\
   ((∀ s∈m.seeds,(fO l f s).2=0/\(fO l f s).1.length≤1)->(∀ g∈m.pre,g∈x.pre)/\∀ g∈m.post,g∈x.post):=by
 constructor
 ·intro g hg
  rw [CF h.sys] at hg ⊢
  have h1:=iM h.sys.acyc
  have hg:g∈(above (bn l) (ae l a).name).filterMap λa=>if (ae l a).inv=[] then none else some ⟨a,(ae l a).inv⟩:=hg
  show g∈(above (bn l) (ae l f).name).filterMap λa=>if (ae l a).inv=[] then none else some ⟨a,(ae l a).inv⟩
  rw [(h.class ha).2.1] at hg
  rw [(h.class hf).2.1]
  obtain ⟨x,hx,hg⟩:=List.mem_filterMap.1 hg
  exact List.mem_filterMap.2 ⟨x,((h1 f).2 x).2 (kW hfa (((h1 a).2 x).1 hx)),hg⟩
 ·intro m hm v hv
  obtain ⟨_,_,_,m',hm',hvl⟩:=h.version_ok hv
  rw [rV (h.mems ha).2.2.1.nodup hm] at hm'
  cases hm'
  obtain ⟨x,hx,hxs,hxn⟩:=NC.1 hvl
  have hnd:=(h.mems hf).2.2.1.nodup
  have hxf:dA (msF l f) v=some x:=by rw [<- hxn]; exact rV hnd hx
  obtain ⟨y,hy,k1,k2,k3,k4⟩:=h.down hm f hf hfa
  obtain ⟨s0,hs0⟩:=List.exists_mem_of_ne_nil _<|h.seeds_ne a ha m hm
  refine ⟨x,by rw [h.member (by simp) hf,hxf],?_,hxs,λhone=>?_⟩
  ·rw [<- k2]
   by_cases hxy:x=y
   ·rw [hxy]
   ·have hap := (h.ok f hf).calm.apart
    have hsd:s0∈(skF l f false).seeds:=by
     unfold Sk.seeds
     rw [(jf _).2,List.mem_flatMap]
     exact ⟨x,hx,hxs s0 hs0⟩
    have h2:=flatMap_nil hap s0 hsd
    have hxm:x∈(msF l f).filter λm=>m.seeds.contains s0:=List.mem_filter.2 ⟨hx,by simpa using hxs s0 hs0⟩
    have hym:y∈(msF l f).filter λm=>m.seeds.contains s0:=List.mem_filter.2 ⟨hy,by simpa using k1 s0 hs0⟩
    obtain ⟨i,hi,hix⟩:=List.getElem_of_mem hxm
    obtain ⟨j,hj,hjy⟩:=List.getElem_of_mem hym
    have hij:i≠j:=λe=>hxy (by subst e; rw [<- hix,hjy])
    have hst : Sk.sameTy x y = true := by
     cases hq:Sk.sameTy x y with
     | true=>rfl
     | false =>
      exfalso
      have hq2:Sk.sameTy y x=false:=by
       cases hq3:Sk.sameTy y x with
       | false=>rfl
       | true=>rw [FX hq3] at hq; cases hq
      have h3:∀ i j (hij:i<j) (a b:Mb),((msF l f).filter λm=>m.seeds.contains s0)[i]? = some a->((msF l f).filter λm=>m.seeds.contains s0)[j]? = some b->Sk.sameTy a b=false->False:=λi j hij a b h3 h4 h5=>by
       have h6:=(FW (s:=skF l f false) (xs:=(msF l f).filter λm=>m.seeds.contains s0) (is:=λa b => !Sk.sameTy a b) (f:=λa b=>⟨14,(skF l f false).c.name,a.name,b.name,⟨s0.cls,s0.name⟩,og0⟩)).2 ⟨i,j,a,b,h3,h4,by omega,λ_=>hij,by rw [h5]; rfl,rfl⟩
       have h7:(skF l f false).pairs ((msF l f).filter λm=>m.seeds.contains s0) (λa b => !Sk.sameTy a b) (λa b=>⟨14,(skF l f false).c.name,a.name,b.name,⟨s0.cls,s0.name⟩,og0⟩)=[]:=h2
       rw [h7] at h6; cases h6
      rcases Nat.lt_or_gt_of_ne hij with hlt | hlt
      ·exact h3 i j hlt x y (by rw [List.getElem?_eq_getElem hi,hix]) (by rw [List.getElem?_eq_getElem hj,hjy]) hq
      ·exact h3 j i hlt y x (by rw [List.getElem?_eq_getElem hj,hjy]) (by rw [List.getElem?_eq_getElem hi,hix]) hq2
    rw [(AO.1 hst).1]
  ·have h1 := (hone s0 hs0).2
   have hx1:x.name∈aZ (msF l f) s0:=iR.2 ⟨x,hx,hxs s0 hs0,rfl⟩
   have hy1:y.name∈aZ (msF l f) s0:=iR.2 ⟨y,hy,k1 s0 hs0,rfl⟩
   rw [(h.selected hf hx<|hxs s0 hs0).1] at h1
   have hxy:x=y:=by
    match hl:aZ (msF l f) s0,hx1,hy1,h1 with
    | [z],hx1,hy1,_ =>
     have e1:=List.mem_singleton.1 hx1
     have e2:=List.mem_singleton.1 hy1
     have e3:=rV hnd hx
     have e4:=rV hnd hy
     rw [e1] at e3
     rw [e2,e3] at e4
     exact (Option.some.inj e4)
    | _::_::_,_,_,h1=>simp at h1
   subst hxy
   exact ⟨k3,k4⟩
end
section
variable {l m:FS}
theorem CU (hr:Right (bn l)) {fl:Nm->Fl}:∀ (f g:Nat) (c:Nm) (ms:List Mb) (s:Sd),(bJ l c).isSome=true->rk (bn l) c≤f->rk (bn l) c≤g->eP fl l f (ae l c) ms s=eP fl l g (ae l c) ms s:=by
 have h1:∀ c,(bJ l c).isSome=true->1≤rk (bn l) c:=λc hc=>by
  unfold rk
  exact List.countP_pos_iff.2 ⟨c,fD.1 (by rw [dD]; exact hc),nz _ c⟩
 intro f
 induction f with
 | zero=>intro g c ms s hc h2; have:=h1 c hc; omega
 | succ f ih =>
  intro g c ms s hc h2 h3
  cases g with
  | zero=>have:=h1 c hc; omega
  | succ g =>
   unfold eP
   split
   ·rfl
   ·simp only []
    split
    ·rfl
    ·split
     ·rename_i i t n' e1 e2
      cases e2
      rw [e1]
      simp only []
      have hi:i∈bZ (having (comes fl l<|ae l c) s):=by rw [e1]; simp
      have hpp:=eT hr<|ru hi
      have:=iC hr.acyc hpp
      rw [ih g _ _ s (by rw [<- dD]; exact kK hpp) (by omega) (by omega)]
     ·rename_i e1
      split
      ·rename_i i t n' e2 e3
       cases e3
       exact absurd rfl<|e1 i t f e2
      ·rfl
structure Agree (l m:FS) (D:Nm->Prop):Prop where
 left:Right (bn l)
 right:Right (bn m)
 find:∀ c,D c->bJ m c=bJ l c
 up:∀ c,D c->∀ p∈par (bn l) c,D p
 there:∀ c,D c->(bJ l c).isSome=true
variable {D:Nm->Prop}
theorem Agree.class (h:Agree l m D) {c:Nm} (hc:D c):ae m c=ae l c:=by unfold ae; rw [h.find c hc]
theorem Agree.par (h:Agree l m D) {c:Nm} (hc:D c):Hr.par (bn m) c=Hr.par (bn l) c:=by rw [vO h.left,vO h.right,h.class hc]
theorem Agree.W (h:Agree l m D) {a:Nm}:∀ (k:Nat) {c:Nm},D c->Hr.W (bn m) a k c=Hr.W (bn l) a k c
 | 0,c,_=>rfl
 | k+1,c,hc=>by
  show (Hr.par (bn m) c).any _=(Hr.par (bn l) c).any _
  rw [h.par hc,Bool.eq_iff_iff,List.any_eq_true,List.any_eq_true]
  exact ⟨λ⟨p,h1,h2⟩=>⟨p,h1,by rw [<- h.W k (h.up c hc p h1)]; exact h2⟩,λ⟨p,h1,h2⟩=>⟨p,h1,by rw [h.W k (h.up c hc p h1)]; exact h2⟩⟩
theorem Agree.has (h:Agree l m D) {c a:Nm} (hc:D c):Hr.has (bn m) c a=Hr.has (bn l) c a:=by
 rw [Bool.eq_iff_iff,fV,fV]
 exact ⟨λ⟨k,hk⟩=>⟨k,by rw [<- h.W k hc]; exact hk⟩,λ⟨k,hk⟩=>⟨k,by rw [h.W k hc]; exact hk⟩⟩
theorem Agree.above (h:Agree l m D):∀ c,D c->Hr.above (bn m) c=Hr.above (bn l) c:=by
 refine mQ h.left.acyc λc ih hc=>?_
 rw [BQ h.left.acyc,BQ h.right.acyc,h.par hc]
 congr 1
 have key:∀ (ps o:List Nm),(∀ p∈ps,p∈Hr.par (bn l) c)->ps.foldl (λo p=>dd o<|Hr.above (bn m) p) o=ps.foldl (λo p=>dd o<|Hr.above (bn l) p) o:=by
  intro ps
  induction ps with
  | nil=>intro _ _; rfl
  | cons p t ih2 =>
   intro o hp
   rw [List.foldl_cons,List.foldl_cons,ih p (hp p<|by simp) (h.up c hc p<|hp p<|by simp)]
   exact ih2 _ λq hq=>hp q<|by simp [hq]
 exact key _ [] λ_ h=>h
theorem Agree.parD (h:Agree l m D) {c:Nm} (hc:D c) {p:Pt} (hp:p∈(ae l c).pars):D p.name:=h.up c hc _ (eT h.left hp)
theorem Agree.upD (h:Agree l m D):∀ c,D c->∀ a,Hr.has (bn l) c a=true->D a:=by
 refine mQ h.left.acyc λc ih hc a ha=>?_
 rcases rO ha with rfl | ⟨p,hp,hpa⟩
 ·exact hc
 ·exact ih p hp (h.up c hc p hp) a hpa
theorem rY {fl fl':Nm->Fl} {c:FC} (h1:∀ p∈c.pars,fl p.name=fl' p.name) (h2:∀ p∈c.pars,ae m p.name=ae l p.name):comes fl l c=comes fl' m c:=by
 unfold comes
 refine dH λq hq=>?_
 rw [h1 q.1 (zx hq),h2 q.1 (zx hq)]
theorem Agree.FL (h:Agree l m D):∀ c,D c->Fl.FL m c=Fl.FL l c:=by
 refine mQ h.left.acyc λc ih hc=>?_
 rw [CF h.left,CF h.right]
 have h1:comes (Fl.FL l) l (ae l c)=comes (Fl.FL m) m (ae l c):=rY (λp hp=>(ih _ (eT h.left hp)<|h.parD hc hp).symm) λp hp=>h.class<|h.parD hc hp
 have h2:msF m c=msF l c:=by unfold msF; rw [h.class hc,h1]
 rw [h.class hc,h2]
 have hn:(ae l c).name=c:=by
  obtain ⟨x,hx⟩:=Option.isSome_iff_exists.1<|h.there c hc
  rw [iq hx,o9 hx]
 unfold flatOf
 rw [hn,h.above c hc]
 congr 1
 refine oz λa ha=>?_
 rw [h.class (h.upD c hc a (((iM h.left.acyc c).2 a).1 ha))]
theorem Agree.ms (h:Agree l m D) {c:Nm} (hc:D c):msF m c=msF l c:=by rw [<- iy h.right,<- iy h.left,h.FL c hc]
theorem Agree.sel (h:Agree l m D) {s:Sd}:∀ (n:Nat) (c:Nm),D c->∀ ms,eP (Fl.FL m) m n (ae l c) ms s=eP (Fl.FL l) l n (ae l c) ms s:=by
 intro n
 induction n with
 | zero =>
  intro c hc ms
  have h1:comes (Fl.FL l) l (ae l c)=comes (Fl.FL m) m (ae l c):=rY (λp hp=>(h.FL _<|h.parD hc hp).symm) λp hp=>h.class<|h.parD hc hp
  unfold eP
  rw [h1]
  split
  ·rfl
  ·simp only []
   split
   ·rfl
   ·split
    ·rename_i e; cases e
    ·rfl
 | succ n ih =>
  intro c hc ms
  have h1:comes (Fl.FL l) l (ae l c)=comes (Fl.FL m) m (ae l c):=rY (λp hp=>(h.FL _<|h.parD hc hp).symm) λp hp=>h.class<|h.parD hc hp
  unfold eP
  rw [h1]
  split
  ·rfl
  ·simp only []
   split
   ·rfl
   ·split
    ·rename_i i t n' e1 e2
     cases e2
     have hi:i∈bZ (having (comes (Fl.FL m) m<|ae l c) s):=by rw [e1]; simp
     have hd:=h.parD hc<|ru hi
     rw [h.class hd,h.FL _ hd,ih _ hd]
    ·rfl
theorem Agree.conf (h:Agree l m D) {c:Nm} (hc:D c) (all:Bool):vJ m c all=vJ l c all:=by
 unfold vJ skF
 rw [h.class hc,h.ms hc]
 refine (CG (rY (λp hp=>(h.FL _<|h.parD hc hp).symm) λp hp=>h.class<|h.parD hc hp) (λp hp=>(h.FL _<|h.parD hc hp).symm) λd=>?_).symm
 show eP (Fl.FL l) l l.length (ae l c) (msF l c) d=eP (Fl.FL m) m m.length (ae l c) (msF l c) d
 have hr1:=qz (bn l) c
 have hr2:=qz (bn m) c
 rw [jX] at hr1 hr2
 have e1:eP (Fl.FL m) m m.length (ae l c) (msF l c) d=eP (Fl.FL m) m (l.length+m.length) (ae l c) (msF l c) d:=by
  rw [<- h.class hc]
  exact CU h.right _ _ c _ d (by rw [h.find c hc]; exact h.there c hc) hr2<|by omega
 rw [e1,h.sel _ c hc,CU h.left l.length (l.length+m.length) c _ d (h.there c hc) hr1 (by omega)]
theorem Agree.okF (h:Agree l m D) {c:Nm} (hc:D c):Fl.okF m c↔Fl.okF l c:=by unfold Fl.okF; rw [h.conf hc,h.ms hc]

/-! ### The classes in another order -/
/-! ### A class behind the others -/
end
def rv (c:FC):FC:={ c with pars:=c.pars.reverse }
def tl (l:FS):FS:=l.map rv
structure MR (a b:Mb):Prop where
 name:a.name=b.name
 kind:a.kind=b.kind
 seeds:a.seeds=b.seeds
 args:a.args=b.args
 ty:a.ty=b.ty
 impl:a.kind≠3->a.impl=b.impl
 pre:∀ g,g∈a.pre↔g∈b.pre
 post:∀ g,g∈a.post↔g∈b.post
theorem MR.refl (a:Mb):MR a a:=⟨rfl,rfl,rfl,rfl,rfl,λ_=>rfl,λ_=>Iff.rfl,λ_=>Iff.rfl⟩
inductive ML:List Mb->List Mb->Prop
 | nil:ML [] []
 | cons {a b:Mb} {s t:List Mb}:MR a b->ML s t->ML (a::s) (b::t)
theorem ML.left {xs ys:List Mb} (h:ML xs ys):∀ a∈xs,∃ b∈ys,MR a b:=by
 induction h with
 | nil=>simp
 | cons h1 _ ih =>
  intro a ha
  rcases List.mem_cons.1 ha with rfl | ha
  ·exact ⟨_,by simp,h1⟩
  ·obtain ⟨b,hb,h2⟩:=ih a ha
   exact ⟨b,by simp [hb],h2⟩
theorem ML.right {xs ys:List Mb} (h:ML xs ys):∀ b∈ys,∃ a∈xs,MR a b:=by
 induction h with
 | nil=>simp
 | cons h1 _ ih =>
  intro a ha
  rcases List.mem_cons.1 ha with rfl | ha
  ·exact ⟨_,by simp,h1⟩
  ·obtain ⟨b,hb,h2⟩:=ih a ha
   exact ⟨b,by simp [hb],h2⟩
theorem ML.len {xs ys:List Mb} (h:ML xs ys):xs.length=ys.length:=by
 induction h with
 | nil=>rfl
 | cons _ _ ih=>simp [ih]
theorem ML.at {xs ys:List Mb} (h:ML xs ys):∀ (i:Nat) (a b:Mb),xs[i]? = some a->ys[i]? = some b->MR a b:=by
 induction h with
 | nil=>intro i a b h; simp at h
 | cons h1 _ ih =>
  intro i a b ha hb
  cases i with
  | zero=>simp at ha hb; subst ha hb; exact h1
  | succ i=>exact ih i a b (by simpa using ha) (by simpa using hb)
theorem ML.filter {xs ys:List Mb} {f g:Mb->Bool} (h:ML xs ys) (hf:∀ a b,MR a b->f a=g b):ML (xs.filter f) (ys.filter g):=by
 induction h with
 | nil=>exact .nil
 | @cons a b s t h1 _ ih =>
  rw [List.filter_cons,List.filter_cons,hf a b h1]
  split
  ·exact .cons h1 ih
  ·exact ih
theorem ML.map {α : Type} {xs ys:List Mb} {f g:Mb -> α} (h:ML xs ys) (hf:∀ a b,MR a b->f a=g b):xs.map f=ys.map g:=by
 induction h with
 | nil=>rfl
 | @cons a b s t h1 _ ih=>rw [List.map_cons,List.map_cons,ih,hf a b h1]
theorem ML.any {xs ys:List Mb} {f g:Mb->Bool} (h:ML xs ys) (hf:∀ a b,MR a b->f a=g b):xs.any f=ys.any g:=by
 induction h with
 | nil=>rfl
 | @cons a b s t h1 _ ih=>rw [List.any_cons,List.any_cons,ih,hf a b h1]
theorem ML.named {xs ys:List Mb} (h:ML xs ys) (s:Sd):aZ xs s=aZ ys s:=(h.filter λa b hab=>by rw [hab.seeds]).map λa b hab=>hab.name
theorem ML.find {xs ys:List Mb} (h:ML xs ys) (n:Nm):(dA xs n=none/\dA ys n=none)∨∃ a b,dA xs n=some a/\dA ys n=some b/\MR a b:=by
 induction h with
 | nil=>exact .inl ⟨rfl,rfl⟩
 | @cons a b s t h1 _ ih =>
  unfold dA at ih ⊢
  rw [List.find?_cons,List.find?_cons,<- h1.name]
  cases hq:a.name == n with
  | true=>exact .inr ⟨a,b,rfl,rfl,h1⟩
  | false=>exact ih
theorem ML.of : ∀ {xs ys : List Mb}, si xs -> si ys -> (∀ a ∈ xs, ∃ b ∈ ys, MR a b) -> (∀ b ∈ ys, ∃ a ∈ xs, MR a b) -> ML xs ys
 | [],[],_,_,_,_=>.nil
 | [],y::t,_,_,_,h=>by obtain ⟨a,ha,_⟩:=h y (by simp); cases ha
 | x::s,[],_,_,h,_=>by obtain ⟨a,ha,_⟩:=h x (by simp); cases ha
 | x :: s, y :: t, h1, h2, h3, h4 => by
  obtain ⟨a1,a2⟩:=List.pairwise_cons.1 h1
  obtain ⟨b1,b2⟩:=List.pairwise_cons.1 h2
  have hn:x.name=y.name:=by
   obtain ⟨b,hb,hxb⟩:=h3 x<|by simp
   obtain ⟨a,ha,hay⟩:=h4 y<|by simp
   rcases List.mem_cons.1 hb with rfl | hb
   ·exact hxb.name
   rcases List.mem_cons.1 ha with rfl | ha
   ·exact hay.name
   ·have e1:=b1 b hb
    have e2:=a1 a ha
    rw [<- hxb.name] at e1
    rw [hay.name] at e2
    rw [iF e1] at e2; cases e2
  have hxy:MR x y:=by
   obtain ⟨b,hb,hxb⟩:=h3 x<|by simp
   rcases List.mem_cons.1 hb with rfl | hb
   ·exact hxb
   ·have e1:=b1 b hb
    rw [<- hxb.name,hn,lt_irrefl] at e1; cases e1
  refine .cons hxy (ML.of a2 b2 (λa ha=>?_) λb hb=>?_)
  ·obtain ⟨b,hb,hab⟩:=h3 a<|by simp [ha]
   rcases List.mem_cons.1 hb with rfl | hb
   ·have e1:=a1 a ha
    rw [hab.name,hn,lt_irrefl] at e1; cases e1
   ·exact ⟨b,hb,hab⟩
  ·obtain ⟨a,ha,hab⟩:=h4 b<|by simp [hb]
   rcases List.mem_cons.1 ha with rfl | ha
   ·have e1:=b1 b hb
    rw [<- hab.name,hn,lt_irrefl] at e1; cases e1
   ·exact ⟨a,ha,hab⟩
section
variable {l:FS}
/-! ### What comes -/
structure CR (k:Nat) (x y:Cm):Prop where
 og:x.og=y.og
 par:x.par+y.par+1=k
 mem:MR x.mem y.mem
 was:x.was=y.was
theorem CR.dfd {k:Nat} {x y:Cm} (h:CR k x y):x.dfd=y.dfd:=by unfold Cm.dfd; rw [h.mem.kind]
def PR (l:FS) (fl fl':Nm->Fl) (c:FC):Prop:=∀ p∈c.pars,ML (fl p.name).mems (fl' p.name).mems
section
variable {fl fl':Nm->Fl} {c:FC}
end
end
section
variable {l:FS}
theorem Good.kinds (h:Good l):∀ c,(bJ l c).isSome=true->∀ m∈msF l c,m.kind≠3->∃ f,feat (ae l m.impl.cls) m.impl.name=some f/\f.kind=m.kind:=by
 refine mQ h.sys.acyc λc ih hc m hm=>?_
 have hj : ∀ x ∈ comes (FL l) l (ae l c), x.mem.kind ≠ 3 -> ∃ f, feat (ae l x.mem.impl.cls) x.mem.impl.name = some f /\ f.kind = x.mem.kind := λx hx hk => by
  obtain ⟨p,hp,m1,hm1,he⟩:=jc hx
  have hpm:=eT h.sys<|List.mem_of_getElem? hp
  rw [iy h.sys] at hm1
  have hk1:x.mem.kind=m1.kind:=by
   rw [he] at hk ⊢
   show (if _ then _ else _)=_
   split
   ·rename_i hq
    exfalso; apply hk
    show (if _ then _ else _)=_
    rw [if_pos hq]
   ·rfl
  obtain ⟨f,h1,h2⟩:=ih _ hpm (by rw [<- dD]; exact kK hpm) m1 hm1 (by rw [<- hk1]; exact hk)
  have hi:x.mem.impl=m1.impl:=by rw [he]; rfl
  exact ⟨f,by rw [hi]; exact h1,by rw [hk1]; exact h2⟩
 rcases ((h.mems hc).2.2.2 m).1 hm with ⟨n,⟨x,hx,hn⟩,_,rfl⟩ | ⟨f,hf,rfl⟩
 ·intro hk
  obtain ⟨y,hy,_,j2,j3,_⟩:=mI _<|List.ne_nil_of_mem<|fM.2 ⟨hx,hn⟩
  rw [j2] at hk
  rw [j3,j2]
  exact hj y (fM.1 hy).1 hk
 ·intro _
  have h1:(jK (ae l c) f<|under (comes (FL l) l<|ae l c) f.name).impl=⟨(ae l c).name,f.name⟩/\(jK (ae l c) f<|under (comes (FL l) l<|ae l c) f.name).kind=f.kind:=by
   unfold jK; simp only []; split <;> exact ⟨rfl,rfl⟩
  rw [h1.1,h1.2]
  obtain ⟨g1,g2,_⟩:=h.class hc
  exact ⟨f,by rw [g2]; exact F5 g1.names hf,rfl⟩
structure Still (s:Sk):Prop where
 l1:∀ (i:Nat) (p:Pt),s.c.pars[i]? = some p->∀ r∈p.ren,(dA (s.fl p.name).mems r.fro).isSome=true
 l1':∀ (i:Nat) (p:Pt),s.c.pars[i]? = some p->∀ n∈p.und++p.red++p.sel,s.fro i n≠[]
 l2:∀ p∈s.c.pars,∀ n∈p.und,n ∉ p.red
 l3:∀ (i:Nat) (p:Pt),s.c.pars[i]? = some p->∀ m∈(s.fl p.name).mems,(s.fro i<|bN p m.name).length≤1
 l4:∀ (i:Nat) (p:Pt),s.c.pars[i]? = some p->∀ n∈p.und,∀ x∈s.fro i n,x.was=2
 l5:∀ p∈s.c.pars,∀ n∈p.red,(feat s.c n).isSome=true
 red:∀ k,k<3->∀ f,∀ x∈s.cs,feat s.c x.mem.name=some f->s.redK f x k=false
 t1:∀ x∈s.cs,∀ y∈s.cs,x.mem.name=y.mem.name->feat s.c x.mem.name=none->Sk.sameTy x.mem y.mem=true
 t1':∀ x∈s.cs,∀ f,feat s.c x.mem.name=some f->f.args=x.mem.args/\(f.ty.kind == 0)=(x.mem.ty.kind == 0)
 t2:∀ x∈s.cs,∀ y∈s.cs,x.mem.name=y.mem.name->feat s.c x.mem.name=none->x.dfd=false->y.dfd=false->Sk.same x.mem y.mem=true
 c1:∀ d∈s.seeds,(s.sel d).2=true
 c2:∀ (i:Nat) (p:Pt),s.c.pars[i]? = some p->∀ n∈p.sel,s.fro i n=[]∨(((dA s.ms n).getD mb0).seeds.any λd=>decide (1<(aZ s.ms d).length))=true
 c3:s.c.dfd=false->∀ m∈s.ms,m.kind≠3
 ap:∀ d∈s.seeds,∀ (i k:Nat) (a b:Mb),i<k->(s.ms.filter λm=>m.seeds.contains d)[i]? = some a->(s.ms.filter λm=>m.seeds.contains d)[k]? = some b->Sk.sameTy a b=true
end
section
variable {l:FS}
theorem Ei {a b:List Nm} (h:∀ x,x∈a↔x∈b) (ha:a.Nodup) (hb:b.Nodup):a.length=b.length :=
 Nat.le_antisymm (aT ha λx hx=>(h x).1 hx) (aT hb λx hx=>(h x).2 hx)
theorem ND (xs:List Nm):(dd [] xs).Nodup:=by
 have : ∀ (xs o : List Nm), o.Nodup -> (dd o xs).Nodup := by
  intro xs
  induction xs with
  | nil=>exact λ_ h=>h
  | cons x t ih =>
   intro o h
   refine ih (Hr.step o x) ?_
   by_cases hx:x∈o
   ·rw [lq hx]; exact h
   ·rw [nD hx]
    refine List.nodup_append.2 ⟨h,by simp,λa ha b hb=>?_⟩
    simp only [List.mem_singleton] at hb
    subst hb
    exact λe=>hx (e ▸ ha)
 exact this xs [] List.nodup_nil
theorem AP {c:FC} {xs:List Cm} {n:Nm}:n∈picked c xs↔∃ x∈xs,(dG c x.par).sel.contains x.mem.name=true/\x.mem.name=n:=by
 unfold picked
 rw [zH,List.mem_map]
 constructor
 ·rintro (h | ⟨x,h,rfl⟩)
  ·cases h
  ·exact ⟨x,(List.mem_filter.1 h).1,(List.mem_filter.1 h).2,rfl⟩
 ·rintro ⟨x,h1,h2,rfl⟩
  exact .inr ⟨x,List.mem_filter.2 ⟨h1,h2⟩,rfl⟩
end
def resN : Nm := "Result".toUTF8.data.toList
def rn (s:Nm):Nm:=if s=resN∨s=[] then s else 113::s
def Nrm (s:Nm):Prop:=s≠resN/\s≠[]
mutual
def rEx:Ex->Ex
 | .mk k n i l=>.mk k (if k=6∨k=10 then rn n else n) i (rExs l)
def rExs:List Ex->List Ex
 | []=>[]
 | a::t=>rEx a::rExs t
end
def rCla (c:Cla):Cla:=⟨c.tag,rEx c.ex⟩
def rGrp (g:Grp):Grp:=⟨g.cls,g.cs.map rCla⟩
def rVr (v:Vr):Vr:=⟨rn v.name,v.ty⟩
def rSd (s:Sd):Sd:=⟨s.cls,rn s.name⟩
def rMb (m:Mb):Mb:={ m with name:=rn m.name,args:=m.args.map rVr,impl:=rSd m.impl,seeds:=m.seeds.map rSd,pre:=m.pre.map rGrp,post:=m.post.map rGrp }
def rFl (f:Fl):Fl:={ f with mems:=f.mems.map rMb,inv:=f.inv.map rGrp }
def rFe (f:Fe):Fe:={ f with name:=rn f.name,args:=f.args.map rVr,req:=f.req.map rCla,ens:=f.ens.map rCla }
def rPn (x:Pn):Pn:=⟨rn x.fro,rn x.to⟩
def rPt (p:Pt):Pt:={ p with ren:=p.ren.map rPn,und:=p.und.map rn,red:=p.red.map rn,sel:=p.sel.map rn }
def rFC (c:FC):FC:={ c with pars:=c.pars.map rPt,feats:=c.feats.map rFe,inv:=c.inv.map rCla }
def rl (l:FS):FS:=l.map rFC
def rCm (x:Cm):Cm:={ x with og:=⟨x.og.par,rn x.og.name⟩,mem:=rMb x.mem }
structure NrmF (l:FS):Prop where
 feat:∀ c∈l,∀ f∈c.feats,Nrm f.name/\f.name.length<20
 ren:∀ c∈l,∀ p∈c.pars,∀ x∈p.ren,Nrm x.fro/\Nrm x.to/\x.fro.length<20/\x.to.length<20
section
variable {l:FS}
def NrmS (xs:List Sd):Prop:=∀ s∈xs,Nrm s.name
end
section
variable {l:FS}
def F6 (fl:Nm->Fl) (l:FS) (c:FC) (ms:List Mb) (s:Sd) (up:Pt->Nm×Bool):Nm×Bool :=
 if (aZ ms s).length=1 then ((aZ ms s).headD [],true)
 else if picked c (having (comes fl l c) s)≠[]∨(bZ<|having (comes fl l c) s).length≠1 then (jW (picked c<|having (comes fl l c) s),(picked c<|having (comes fl l c) s).length == 1)
 else up (dG c<|(bZ<|having (comes fl l c) s).headD 0)
theorem K9 {fl:Nm->Fl} {c:FC} {ms:List Mb} {s:Sd}:eP fl l 0 c ms s=F6 fl l c ms s λ_=>([],false):=by
 unfold eP F6
 match aZ ms s with
 | [a]=>rfl
 | []=>
  have h01:¬ ((0:Nat)=1):=by decide
  simp only [List.length_nil,h01,if_false]
  split
  ·rfl
  ·split
   ·rename_i e; cases e
   ·rfl
 | a::b::t =>
  have h01:¬ (t.length+1+1=1):=by omega
  simp only [List.length_cons,h01,if_false]
  split
  ·rfl
  ·split
   ·rename_i e; cases e
   ·rfl
theorem CV {fl : Nm -> Fl} {c : FC} {ms : List Mb} {s : Sd} {n : Nat} : eP fl l (n + 1) c ms s = F6 fl l c ms s λp =>
  if 1<(aZ (fl p.name).mems s).length then (bN p (eP fl l n (ae l p.name) (fl p.name).mems s).1,(eP fl l n (ae l p.name) (fl p.name).mems s).2) else ([],false):=by
 have key:∀ (xs:List Nat) (f:Nat->Nm×Bool),xs.length=1->(match xs,n+1 with
   | i::_,k+1=>(λ(i k:Nat)=>f i) i k
   | _,_=>([],false))=f (xs.headD 0):=λxs f h=>by
  match xs,h with
  | [i],_=>rfl
 unfold F6
 rw [eP]
 split
 ·rename_i a e; rw [e]; rfl
 ·rename_i hne
  have hl:(aZ ms s).length≠1:=λh=>by
   match hq:aZ ms s,h with
   | [a],_=>exact hne a hq
  rw [if_neg hl]
  simp only []
  by_cases hq:picked c (having (comes fl l c) s)≠[]∨(bZ<|having (comes fl l c) s).length≠1
  ·rw [if_pos hq,if_pos hq]
  ·rw [if_neg hq,if_neg hq]
   have h1:(bZ<|having (comes fl l c) s).length=1:=Classical.not_not.1 (not_or.1 hq).2
   match hf:bZ (having (comes fl l c) s),h1 with
   | [i],_=>rfl
end
end Go.Fl
namespace Go.Ck
open Go Go.RowKit

def Ext (X Y:Res):Prop:=∃ T:Res,∀ f t,bi f (Y::t)↔bi f (T::X::t)
section
variable {X Y Zq:Res}
theorem Ext.refl (X:Res):Ext X X:=⟨Res.star [],λ_ t=>(dx (h:=[]) (k:=X::t)).symm⟩
theorem Ext.trans (h:Ext X Y) (k:Ext Y Zq):Ext X Zq:=by
 obtain ⟨T,hT⟩:=h
 obtain ⟨U,hU⟩:=k
 refine ⟨Res.star [U,T],λf t=>?_⟩
 rw [hU,dx]
 have h1:bi f (U::Y::t)↔bi f (Y::U::t):=bi.perm<|.swap _ _ _
 rw [h1,hT]
 exact bi.perm (by
  show (T::X::U::t).Perm (U::T::X::t)
  exact (List.perm_middle (l₁ := [T,X])))
theorem Ext.vw (h:Ext X Y):∃ T,∀ t,Vw (Y::t) (T::X::t):=by
 obtain ⟨T,hT⟩:=h
 exact ⟨T,λt w hh=>(hT _ _).1 hh⟩
theorem Ext.rd (h:Ext X Y) (p:Addr) (u:Value) (hr:Rd X p u):Rd Y p u:=λw hw=>by
 obtain ⟨T,hT⟩:=h
 have h1:=(hT (hp w) []).1 ⟨hw,λb _ hb=>hb,trivial⟩
 exact hr w h1.2.2.1
theorem Ext.packs (X:Res) (L:SH):Ext X (Res.star (L++[X])):=⟨Res.star L,λf t=>by
 rw [dx,dx]
 exact bi.perm (by rw [List.append_assoc]; exact .refl _)⟩
theorem fP {X:Res} {L L':SH} {r:Res} (s:Sel L r L') (p:Addr) (u:Value) (h:Rd r p u):Rd (Res.star (L++[X])) p u:=by
 have:Sel (L++[X]) r (L'++[X]):=by
  clear h
  induction s with
  | here=>exact .here
  | there _ ih=>exact .there ih
 exact oH this h
end
def CtX (P:Program) (k:FuncId) (args:Array Value) (X:Res) (hf:SH) (R:Value->Res->SH->Prop):Prop:=Ct P k args (X::hf) λu h'=>∃ Y k',h'=Y::k'/\Ext X Y/\R u Y k'
theorem CtX.mono {P:Program} {k:FuncId} {args:Array Value} {X:Res} {hf:SH} {R R':Value->Res->SH->Prop} (h:CtX P k args X hf R) (hr:∀ u Y k',Ext X Y->R u Y k'->R' u Y k'):CtX P k args X hf R':=Ct.mono h λ_ _ ⟨Y,k',h1,h2,h3⟩=>⟨Y,k',h1,h2,hr _ _ _ h2 h3⟩
section
variable {c:Cx} {ops:Array Oper} {K:Act->World->Prop} {rest:List Oper} {e:Env} {h h' hr:SH} {Q:Exit->Act->World->Prop} {x:Code} {ex:Exit} {X:Res} {L:SH}
theorem ug (p:Pk h (L++[X]) hr):Vw h (Res.star (L++[X])::hr):=λ_ hh=>bW.2<|hh.pk p
theorem pJ (L:SH) (X:Res) (hn:∀ Y,Ext X Y->(∀ r L',Sel L r L'->∀ p u,Rd r p u->Rd Y p u)->St c ops K rest e (Y::hr)) (p:Pk h (L++[X]) hr:=by repeat (first | exact Pk.nil | (apply Pk.cons; (repeat (first | exact Sel.here | apply Sel.there))))):St c ops K rest e h :=
 qg (ug p) (hn _ (Ext.packs X L) λ_ _ s p u h=>fP s p u h)
theorem gY (L:SH) (X:Res) (hn:∀ Y,Ext X Y->(∀ r L',Sel L r L'->∀ p u,Rd r p u->Rd Y p u)->Xt c ex Q e (Y::hr)) (p:Pk h (L++[X]) hr:=by repeat (first | exact Pk.nil | (apply Pk.cons; (repeat (first | exact Sel.here | apply Sel.there))))):Xt c ex Q e h :=
 jC (ug p) (hn _ (Ext.packs X L) λ_ _ s p u h=>fP s p u h)
theorem Iq (L:SH) (X:Res) (hn:∀ Y,Ext X Y->(∀ r L',Sel L r L'->∀ p u,Rd r p u->Rd Y p u)->Cd c x Q e (Y::hr)) (p:Pk h (L++[X]) hr:=by repeat (first | exact Pk.nil | (apply Pk.cons; (repeat (first | exact Sel.here | apply Sel.there))))):Cd c x Q e h :=
 dK (ug p) (hn _ (Ext.packs X L) λ_ _ s p u h=>fP s p u h)
end

/-! ## What has a plain reading -/
class Enc (α : Type) where
 sz:Nat
 by':Nat
 rep:Res->List Value -> α -> Prop
 len:∀ {X:Res} {us:List Value} {a : α},rep X us a->us.length=sz
 ones:∀ {X:Res} {us:List Value} {a : α},rep X us a->us.all Value.oneCell'=true
 up:∀ {X Y:Res} {us:List Value} {a : α},(∀ p u,Rd X p u->Rd Y p u)->rep X us a->rep Y us a
def Ls {α : Type} [Enc α] (X:Res) (v:Value) (xs:List α):Prop:=Row X (Enc.sz α) (Enc.rep X) v xs/\xs.length * Enc.by' α ≤ reachBytes
section
variable {α : Type} [Enc α] {X Y R:Res} {v:Value} {xs ys:List α} {us:List Value} {a : α}
theorem Ls.up' (hr:∀ p u,Rd X p u->Rd Y p u) (h:Ls X v xs):Ls Y v xs:=⟨Row.mono h.1 hr λ_ _ _ g=>Enc.up hr g,h.2⟩
theorem Ls.up (h:Ls X v xs) (he:Ext X Y):Ls Y v xs:=h.up' he.rd
theorem Ls.nil:Ls X (.slice none 0 0) ([]:List α):=⟨Row.nil,by simp⟩
theorem Ls.one (h:Ls X v xs):v.oneCell'=true:=Row.one h.1
theorem Ls.form (h:Ls X v xs):∃ a cap,v = .slice a xs.length cap/\xs.length≤cap/\cap≤maxLen/\(a=none->cap=0):=by
 obtain ⟨⟨a,cap,h1,h2,h3,h4,_⟩,_⟩:=h
 exact ⟨a,cap,h1,h2,h3,h4⟩
theorem Ls.at (h:Ls X v xs) {i:Nat} (hi:xs[i]? = some a):∃ b o cap us,v = .slice (some ⟨b,o,none⟩) xs.length cap/\us.length=Enc.sz α /\ Rds X b (o+i * Enc.sz α) us/\Enc.rep X us a:=Row.at h.1 hi
theorem Ls.sizes (h:Ls X v xs):xs.length * Enc.by' α ≤ reachBytes:=h.2
def Rws (X:Res) (rows:List (List Value)) (xs:List α):Prop:=rows.length=xs.length/\∀ (j:Nat) us x,rows[j]? = some us->xs[j]? = some x->Enc.rep X us x
theorem Rws.nil:Rws X [] ([]:List α):=⟨rfl,λj us x h=>by simp at h⟩
theorem Rws.up {rows:List (List Value)} (h:Rws X rows xs) (he:Ext X Y):Rws Y rows xs:=⟨h.1,λj us x h1 h2=>Enc.up he.rd<|h.2 j us x h1 h2⟩
theorem Rws.snoc {rows:List (List Value)} (h:Rws X rows xs) (ha:Enc.rep X us a):Rws X (rows++[us]) (xs++[a]):=by
 refine ⟨by simp [h.1],λj vs x h1 h2=>?_⟩
 by_cases hj:j<rows.length
 ·rw [List.getElem?_append_left hj] at h1
  rw [List.getElem?_append_left (by rw [<- h.1]; exact hj)] at h2
  exact h.2 j vs x h1 h2
 ·have h3:=(List.getElem?_eq_some_iff.1 h1).1
  have h4:j=rows.length:=by simp at h3; omega
  subst h4
  rw [List.getElem?_append_right (Nat.le_refl _),Nat.sub_self] at h1
  rw [h.1,List.getElem?_append_right (Nat.le_refl _),Nat.sub_self] at h2
  simp only [List.getElem?_cons_zero,Option.some.injEq] at h1 h2
  subst h1 h2; exact ha
theorem Rws.app {rows rows':List (List Value)} (h:Rws X rows xs) (h':Rws X rows' ys):Rws X (rows++rows') (xs++ys):=by
 refine ⟨by simp [h.1,h'.1],λj vs x h1 h2=>?_⟩
 by_cases hj:j<rows.length
 ·rw [List.getElem?_append_left hj] at h1
  rw [List.getElem?_append_left (by rw [<- h.1]; exact hj)] at h2
  exact h.2 j vs x h1 h2
 ·rw [List.getElem?_append_right (by omega)] at h1
  rw [List.getElem?_append_right (by rw [<- h.1]; omega),<- h.1] at h2
  exact h'.2 _ vs x h1 h2
theorem Rws.lens {rows:List (List Value)} (h:Rws X rows xs):∀ r∈rows,r.length=Enc.sz α := λr hr=>by
 obtain ⟨j,hj,rfl⟩:=List.getElem_of_mem hr
 exact Enc.len<|h.2 j _ _ (Zy hj)<|Zy (by rw [<- h.1]; exact hj)
theorem Rws.ones {rows:List (List Value)} (h:Rws X rows xs):∀ u∈rows.flatten,u.oneCell'=true:=λu hu=>by
 obtain ⟨r,hr,hu⟩:=List.mem_flatten.1 hu
 obtain ⟨j,hj,rfl⟩:=List.getElem_of_mem hr
 exact List.all_eq_true.1 (Enc.ones<|h.2 j _ _ (Zy hj)<|Zy (by rw [<- h.1]; exact hj)) u hu
theorem Rws.ls {E:TypeId} {rows:List (List Value)} (h:Rws X rows xs) (hok:∃ f,(VR v E (Enc.sz α) rows).ok f) (hr:∀ p u,Rd (VR v E (Enc.sz α) rows) p u->Rd X p u) (hb:xs.length * Enc.by' α ≤ reachBytes):Ls X v xs :=
 ⟨Nc hok h.1 hr h.2,hb⟩
theorem Ls.rows (h:Ls X v xs):∃ rows,Rws X rows xs/\∀ (j:Nat) us,rows[j]? = some us->∃ b o cap,v = .slice (some ⟨b,o,none⟩) xs.length cap/\Rds X b (o+j * Enc.sz α) us:=by
 have : ∀ n, n ≤ xs.length -> ∃ rows : List (List Value), rows.length = n /\ ∀ (j : Nat) us, rows[j]? = some us -> ∃ x, xs[j]? = some x /\ Enc.rep X us x /\ ∃ b o cap, v = .slice (some ⟨b, o, none⟩) xs.length cap /\ Rds X b (o + j * Enc.sz α) us := by
  intro n
  induction n with
  | zero=>exact λ_=>⟨[],rfl,λj us h=>by simp at h⟩
  | succ n ih =>
   intro hn
   obtain ⟨rows,h1,h2⟩:=ih<|by omega
   obtain ⟨b,o,cap,us,g1,g2,g3,g4⟩:=h.at<|Zy (show n<xs.length by omega)
   refine ⟨rows++[us],by simp [h1],λj vs hj=>?_⟩
   by_cases hjl:j<rows.length
   ·rw [List.getElem?_append_left hjl] at hj; exact h2 j vs hj
   ·have h3:=(List.getElem?_eq_some_iff.1 hj).1
    have h4:j=n:=by simp at h3; omega
    subst h4
    rw [List.getElem?_append_right (by omega),h1,Nat.sub_self] at hj
    simp only [List.getElem?_cons_zero,Option.some.injEq] at hj
    subst hj
    exact ⟨_,Zy _,g4,b,o,cap,g1,g3⟩
 obtain ⟨rows,h1,h2⟩:=this xs.length (Nat.le_refl _)
 refine ⟨rows,⟨h1,λj us x g1 g2=>?_⟩,λj us g=>?_⟩
 ·obtain ⟨y,k1,k2,_⟩:=h2 j us g1
  rw [k1] at g2; cases g2; exact k2
 ·obtain ⟨_,_,_,k⟩:=h2 j us g; exact k
end
end Go.Ck
namespace Go.Fl
open Go Go.RowKit Go.Ck Go.Hr
instance encN:Enc Nm where
 sz:=1
 by':=16
 rep _ us n:=us=[sv n]
 len h:=by subst h; rfl
 ones h:=by subst h; rfl
 up _ h:=h
/-! ### Types -/
def tyC (t:Kt) (x:Value):List Value:=[.int .i64 t.kind,sv t.name,x,.bool t.void,.bool t.sep]
def tyR (S:Res):Nat->List Value->Kt->Prop
 | 0,_,_=>False
 | n+1,us,t=>∃ x,us=tyC t x/\Row S 5 (tyR S n) x t.args/\t.args.length * 56≤reachBytes
section
variable {S T:Res}
theorem tyR.mono (hr:∀ p u,Rd S p u->Rd T p u):∀ {n:Nat} {us:List Value} {t:Kt},tyR S n us t->tyR T n us t
 | 0,_,_,h=>h.elim
 | n+1,us,t,⟨x,h1,h2,h3⟩=>⟨x,h1,h2.mono hr λ_ _ _ h=>tyR.mono hr h,h3⟩
theorem tyR.le:∀ {n m:Nat} {us:List Value} {t:Kt},tyR S n us t->n≤m->tyR S m us t
 | 0,_,_,_,h,_=>h.elim
 | n+1,0,_,_,_,h=>by omega
 | n+1,m+1,us,t,⟨x,h1,h2,h3⟩,h=>⟨x,h1,h2.mono (λ_ _ h=>h) λ_ _ _ g=>tyR.le g (by omega),h3⟩
theorem tyR.depth:∀ {n:Nat} {us:List Value} {t:Kt},tyR S n us t->tyR S t.depth us t
 | 0,_,_,h=>h.elim
 | n+1,us,.mk k nm az v s,⟨x,h1,h2,h3⟩=>⟨x,h1,h2.mono (λ_ _ h=>h) λus' a ha g=>(tyR.depth g).le (o5 ha),h3⟩
end
instance encT:Enc Kt where
 sz:=5
 by':=56
 rep S us t:=tyR S t.depth us t
 len {X us t} h:=by
  obtain ⟨k,nm,az,v,s⟩:=t
  obtain ⟨x,rfl,_⟩:=h; rfl
 ones {X us t} h:=by
  obtain ⟨k,nm,az,v,s⟩:=t
  obtain ⟨x,rfl,h2,_⟩:=h
  simp only [tyC,List.all_cons,List.all_nil,h2.one,Bool.and_true,Bool.true_and]; rfl
 up hr h:=tyR.mono hr h
abbrev Ty (S:Res) (us:List Value) (t:Kt):Prop:=Enc.rep S us t
abbrev Tys (S:Res) (v:Value) (ts:List Kt):Prop:=Ls S v ts
section
variable {S T:Res}
theorem gN {us:List Value} {t:Kt} {x:Value} (h1:us=tyC t x) (h2:Tys S x t.args):Ty S us t:=by
 obtain ⟨k,nm,az,v,s⟩:=t
 exact ⟨x,h1,h2.1.mono (λ_ _ h=>h) λus' a ha g=>tyR.le g (o5 ha),h2.2⟩
theorem eF {us:List Value} {t:Kt} (h:Ty S us t):∃ x,us=tyC t x/\Tys S x t.args:=by
 obtain ⟨k,nm,az,v,s⟩:=t
 obtain ⟨x,h1,h2,h3⟩:=h
 exact ⟨x,h1,h2.mono (λ_ _ h=>h) λus' a ha g=>tyR.depth g,h3⟩
end
/-! ### Expressions -/
def exC (t:Ex) (x:Value):List Value:=[.int .i64 t.kind,sv t.name,.int .i64 t.num,x]
def exR (S:Res):Nat->List Value->Ex->Prop
 | 0,_,_=>False
 | n+1,us,t=>∃ x,us=exC t x/\Row S 4 (exR S n) x t.kids/\t.kids.length * 56≤reachBytes
section
variable {S T:Res}
theorem exR.mono (hr:∀ p u,Rd S p u->Rd T p u):∀ {n:Nat} {us:List Value} {t:Ex},exR S n us t->exR T n us t
 | 0,_,_,h=>h.elim
 | n+1,us,t,⟨x,h1,h2,h3⟩=>⟨x,h1,h2.mono hr λ_ _ _ h=>exR.mono hr h,h3⟩
theorem exR.le:∀ {n m:Nat} {us:List Value} {t:Ex},exR S n us t->n≤m->exR S m us t
 | 0,_,_,_,h,_=>h.elim
 | n+1,0,_,_,_,h=>by omega
 | n+1,m+1,us,t,⟨x,h1,h2,h3⟩,h=>⟨x,h1,h2.mono (λ_ _ h=>h) λ_ _ _ g=>exR.le g (by omega),h3⟩
theorem exR.depth:∀ {n:Nat} {us:List Value} {t:Ex},exR S n us t->exR S t.depth us t
 | 0,_,_,h=>h.elim
 | n+1,us,.mk k nm i l,⟨x,h1,h2,h3⟩=>⟨x,h1,h2.mono (λ_ _ h=>h) λus' a ha g=>(exR.depth g).le (vG ha),h3⟩
end
instance encE:Enc Ex where
 sz:=4
 by':=56
 rep S us t:=exR S t.depth us t
 len {X us t} h:=by
  obtain ⟨k,nm,i,l⟩:=t
  obtain ⟨x,rfl,_⟩:=h; rfl
 ones {X us t} h:=by
  obtain ⟨k,nm,i,l⟩:=t
  obtain ⟨x,rfl,h2,_⟩:=h
  simp only [exC,List.all_cons,List.all_nil,h2.one,Bool.and_true]; rfl
 up hr h:=exR.mono hr h
section
variable {S T:Res}
theorem CW {us:List Value} {t:Ex} {x:Value} (h1:us=exC t x) (h2:Ls S x t.kids):Enc.rep S us t:=by
 obtain ⟨k,nm,i,l⟩:=t
 exact ⟨x,h1,h2.1.mono (λ_ _ h=>h) λus' a ha g=>exR.le g (vG ha),h2.2⟩
theorem lQ {us:List Value} {t:Ex} (h:Enc.rep S us t):∃ x,us=exC t x/\Ls S x t.kids:=by
 obtain ⟨k,nm,i,l⟩:=t
 obtain ⟨x,h1,h2,h3⟩:=h
 exact ⟨x,h1,h2.mono (λ_ _ h=>h) λus' a ha g=>exR.depth g,h3⟩
end
/-! ### The rest -/
instance encCla:Enc Cla where
 sz:=5
 by':=72
 rep S us c:=∃ es,us=sv c.tag::es/\Enc.rep S es c.ex
 len h:=by obtain ⟨es,rfl,h2⟩:=h; rw [List.length_cons,Enc.len h2]; rfl
 ones h:=by obtain ⟨es,rfl,h2⟩:=h; rw [List.all_cons,Enc.ones h2]; rfl
 up hr h:=by obtain ⟨es,h1,h2⟩:=h; exact ⟨es,h1,Enc.up hr h2⟩
instance encGrp:Enc Grp where
 sz:=2
 by':=40
 rep S us g:=∃ x,us=[sv g.cls,x]/\Ls S x g.cs
 len h:=by obtain ⟨x,rfl,_⟩:=h; rfl
 ones h:=by obtain ⟨x,rfl,h2⟩:=h; simp [h2.one]; rfl
 up hr h:=by obtain ⟨x,h1,h2⟩:=h; exact ⟨x,h1,h2.up' hr⟩
instance encVr:Enc Vr where
 sz:=6
 by':=72
 rep S us v:=∃ ts,us=sv v.name::ts/\Ty S ts v.ty
 len h:=by obtain ⟨es,rfl,h2⟩:=h; rw [List.length_cons,Enc.len h2]; rfl
 ones h:=by obtain ⟨es,rfl,h2⟩:=h; rw [List.all_cons,Enc.ones h2]; rfl
 up hr h:=by obtain ⟨es,h1,h2⟩:=h; exact ⟨es,h1,Enc.up hr h2⟩
instance encSd:Enc Sd where
 sz:=2
 by':=32
 rep _ us s:=us=[sv s.cls,sv s.name]
 len h:=by subst h; rfl
 ones h:=by subst h; rfl
 up _ h:=h
instance encOg:Enc Og where
 sz:=2
 by':=32
 rep _ us s:=us=[sv s.par,sv s.name]
 len h:=by subst h; rfl
 ones h:=by subst h; rfl
 up _ h:=h
instance encFm:Enc Fm where
 sz:=2
 by':=32
 rep _ us s:=us=[sv s.name,sv s.bound]
 len h:=by subst h; rfl
 ones h:=by subst h; rfl
 up _ h:=h
instance encPn:Enc Pn where
 sz:=2
 by':=32
 rep _ us s:=us=[sv s.fro,sv s.to]
 len h:=by subst h; rfl
 ones h:=by subst h; rfl
 up _ h:=h
def mbC (m:Mb) (x2 x5:Value) (ts:List Value) (x11 x12 x13:Value):List Value:=sv m.name::.int .i64 m.kind::x2::sv m.impl.cls::sv m.impl.name::x5::(ts++[x11,x12,x13])
def mbR (S:Res) (m:Mb) (x2 x5:Value) (ts:List Value) (x11 x12 x13:Value):Prop:=Ls S x2 m.seeds/\Ls S x5 m.args/\Ty S ts m.ty/\Ls S x11 m.clients/\Ls S x12 m.pre/\Ls S x13 m.post
instance encMb:Enc Mb where
 sz:=14
 by':=232
 rep S us m:=∃ x2 x5 ts x11 x12 x13,us=mbC m x2 x5 ts x11 x12 x13/\mbR S m x2 x5 ts x11 x12 x13
 len h:=by
  obtain ⟨x2,x5,ts,x11,x12,x13,rfl,_,_,h3,_⟩:=h
  simp [mbC,Enc.len h3]; rfl
 ones h:=by
  obtain ⟨x2,x5,ts,x11,x12,x13,rfl,h1,h2,h3,h4,h5,h6⟩:=h
  simp only [mbC,List.all_cons,List.all_append,Enc.ones h3,List.all_nil,h1.one,h2.one,h4.one,h5.one,h6.one,Bool.and_true,Bool.true_and]; rfl
 up hr h:=by
  obtain ⟨x2,x5,ts,x11,x12,x13,h0,h1,h2,h3,h4,h5,h6⟩:=h
  exact ⟨x2,x5,ts,x11,x12,x13,h0,h1.up' hr,h2.up' hr,Enc.up hr h3,h4.up' hr,h5.up' hr,h6.up' hr⟩
instance encFl:Enc Fl where
 sz:=4
 by':=72
 rep S us f:=∃ x y,us=[sv f.name,.bool f.dfd,x,y]/\Ls S x f.mems/\Ls S y f.inv
 len h:=by obtain ⟨x,y,rfl,_⟩:=h; rfl
 ones h:=by obtain ⟨x,y,rfl,h2,h3⟩:=h; simp [h2.one,h3.one]; exact ⟨rfl,rfl⟩
 up hr h:=by obtain ⟨x,y,h1,h2,h3⟩:=h; exact ⟨x,y,h1,h2.up' hr,h3.up' hr⟩
def feC (f:Fe) (x2 x3:Value) (ts:List Value) (x9 x10 x11 x12 x13 x14:Value):List Value:=.int .i64 f.kind::sv f.name::x2::x3::(ts++[x9,x10,x11,x12,x13,x14])
instance encFe:Enc Fe where
 sz:=15
 by':=256
 rep S us f:=∃ x2 x3 ts x9 x10 x11 x12 x13 x14,us=feC f x2 x3 ts x9 x10 x11 x12 x13 x14/\Ls S x2 f.clients/\Ls S x3 f.args/\Ty S ts f.ty/\Ls S x10 f.req/\Ls S x11 f.ens/\[x9,x12,x13,x14].all Value.oneCell'=true
 len h:=by
  obtain ⟨x2,x3,ts,x9,x10,x11,x12,x13,x14,rfl,_,_,h3,_⟩:=h
  simp [feC,Enc.len h3]; rfl
 ones h:=by
  obtain ⟨x2,x3,ts,x9,x10,x11,x12,x13,x14,rfl,h1,h2,h3,h4,h5,h6⟩:=h
  simp only [List.all_cons,List.all_nil,Bool.and_true,Bool.and_eq_true] at h6
  simp only [feC,List.all_cons,List.all_append,Enc.ones h3,List.all_nil,h1.one,h2.one,h4.one,h5.one,h6.1,h6.2.1,h6.2.2.1,h6.2.2.2,Bool.and_true,Bool.true_and]; rfl
 up hr h:=by
  obtain ⟨x2,x3,ts,x9,x10,x11,x12,x13,x14,h0,h1,h2,h3,h4,h5,h6⟩:=h
  exact ⟨x2,x3,ts,x9,x10,x11,x12,x13,x14,h0,h1.up' hr,h2.up' hr,Enc.up hr h3,h4.up' hr,h5.up' hr,h6⟩
instance encPt:Enc Pt where
 sz:=6
 by':=136
 rep S us p:=∃ a b c d e,us=[sv p.name,a,b,c,d,e]/\Tys S a p.args/\Ls S b p.ren/\Ls S c p.und/\Ls S d p.red/\Ls S e p.sel
 len h:=by obtain ⟨a,b,c,d,e,rfl,_⟩:=h; rfl
 ones h:=by obtain ⟨a,b,c,d,e,rfl,h1,h2,h3,h4,h5⟩:=h; simp [h1.one,h2.one,h3.one,h4.one,h5.one]; rfl
 up hr h:=by obtain ⟨a,b,c,d,e,h0,h1,h2,h3,h4,h5⟩:=h; exact ⟨a,b,c,d,e,h0,h1.up' hr,h2.up' hr,h3.up' hr,h4.up' hr,h5.up' hr⟩
instance encFC:Enc FC where
 sz:=7
 by':=144
 rep S us c:=∃ a b e f i,us=[sv c.name,.bool c.dfd,a,b,e,f,i]/\Ls S a c.forms/\Ls S b c.pars/\e.oneCell'=true/\Ls S f c.feats/\Ls S i c.inv
 len h:=by obtain ⟨a,b,e,f,i,rfl,_⟩:=h; rfl
 ones h:=by obtain ⟨a,b,e,f,i,rfl,h1,h2,h3,h4,h5⟩:=h; simp [h1.one,h2.one,h3,h4.one,h5.one]; exact ⟨rfl,rfl⟩
 up hr h:=by obtain ⟨a,b,e,f,i,h0,h1,h2,h3,h4,h5⟩:=h; exact ⟨a,b,e,f,i,h0,h1.up' hr,h2.up' hr,h3,h4.up' hr,h5.up' hr⟩
instance encCm:Enc Cm where
 sz:=18
 by':=280
 rep S us x:=∃ ms,us=sv x.og.par::sv x.og.name::.int .i64 x.par::(ms++[.int .i64 x.was])/\Enc.rep S ms x.mem
 len h:=by obtain ⟨ms,rfl,h1⟩:=h; simp [Enc.len h1]; rfl
 ones h:=by obtain ⟨ms,rfl,h1⟩:=h; simp only [List.all_cons,List.all_append,Enc.ones h1,List.all_nil,Bool.and_true]; rfl
 up hr h:=by obtain ⟨ms,h0,h1⟩:=h; exact ⟨ms,h0,Enc.up hr h1⟩
def cfC (c:Cf):List Value:=[.int .i64 c.kind,sv c.cls,sv c.name,sv c.other,sv c.a.par,sv c.a.name,sv c.b.par,sv c.b.name]
def cfV (c:Cf):Value:=.agg (cfC c).toArray
end Go.Fl
namespace Go.Ck
open Go Go.RowKit
theorem AQ {P:Program} {e:Env} {h:SH} {t E ty:TypeId} {x y:Operand} {z:Value} {sz bytes:Nat} {a:Option Addr} {n cp:Nat} (hx:e.ev? x=some (.slice a n cp)) (hy:e.ev? y=some (.slice none 0 0)) (hT:P.underlying t=some (.slice E)) (hE:Inf P E z sz bytes) (hn:n≤cp):Vop P e h (.call { callee:=.builtin .append,args := #[x,y],argTypes := #[t,t] }) ty (.slice a n cp):=
 ⟨by simp,by simp,λρ w d pos after g hρ _=>by
  obtain ⟨i,hi,hz,hisz,hiby⟩:=hE.parts
  cases a <;> simp [execOp,resolve,invoke,builtin,hρ x _ hx,hρ y _ hy,Builtin.append_,run_underlying hT,sizeOf,typeInfo,hi,Builtin.lenOf,Builtin.firstCells,loadCells,loadCellsFrom,hn,storeCells]⟩
section
variable {α : Type} {S:Res} {sz:Nat} {X:List Value -> α -> Prop}
theorem Row.take {a:Option Addr} {n cp k:Nat} {l:List α} (h:Row S sz X (.slice a n cp) l) (hk:k≤l.length):Row S sz X (.slice a k cp) (l.take k):=by
 obtain ⟨a',cap,he,h2,h3,h4,h5⟩:=h
 cases he
 refine ⟨a,cp,by rw [List.length_take,Nat.min_eq_left hk],by rw [List.length_take]; omega,h3,h4,λi x hi=>?_⟩
 rw [List.getElem?_take] at hi
 split at hi
 ·exact h5 i x hi
 ·cases hi
theorem Row.drop {b o n cp k:Nat} {l:List α} (h:Row S sz X (.slice (some ⟨b,o,none⟩) n cp) l) (hk:k≤l.length):Row S sz X (.slice (some ⟨b,if cp=k then o else o+k * sz,none⟩) (n - k) (cp - k)) (l.drop k):=by
 obtain ⟨a',cap,he,h2,h3,h4,h5⟩:=h
 cases he
 refine ⟨_,_,by rw [List.length_drop],by rw [List.length_drop]; omega,by omega,(λh=>by cases h),λi x hi=>?_⟩
 rw [List.getElem?_drop] at hi
 have hlt:=(List.getElem?_eq_some_iff.1 hi).1
 obtain ⟨b2,o2,us,e,h6,h7,h8⟩:=h5 (k+i) x hi
 cases e
 refine ⟨_,_,us,Z,h6,?_,h8⟩
 rw [if_neg (by omega),Nat.add_assoc,<- Nat.add_mul]; exact h7
variable {c:Cx} {ops:Array Oper} {K:Act->World->Prop} {rest:List Oper} {e:Env} {h h' h'':SH}
theorem rA {l : List α} {v v1 z : Value} {E t ty : TypeId} {bytes d : Nat} {x y : Operand} {pos : String} {after : Array Edge} {rows : List (List Value)} (hv : Row S sz X v l)
  (hx:e.ev? x=some v1) (hy:e.ev? y=some v) (ht:c.P.underlying t=some (.slice E)) (hE:Inf c.P E z sz bytes) (hzs:z.cells.size=sz) (hsz:0<sz)
  (hs:Sel h (VR v1 E sz rows) h') (hS:Sel h' S h'') (h1:∀ us x,x∈l->X us x->∀ u∈us,u.oneCell'=true) (hb:(rows.length+l.length) * bytes≤140737488355328) (h63:rows.length+l.length≤9223372036854775807) (hd:d<c.n)
  (hnx:∀ v' news,v'.oneCell'=true->news.length=l.length->(∀ r∈news,r.length=sz)->(∀ (i:Nat) us x,news[i]? = some us->l[i]? = some x->X us x)->St c ops K rest ((d,v')::e) (VR v' E sz (rows++news)::h')) :
  St c ops K (⟨some d,.call { callee:=.builtin .append,args := #[x,y],argTypes := #[t,t] },ty,pos,after,none⟩::rest) e h:=by
 obtain ⟨a,cap,rfl,hlc,hcm,hnone,hel⟩:=id hv
 have key:St c ops K (⟨some d,.call { callee:=.builtin .append,args := #[x,y],argTypes := #[t,t] },ty,pos,after,none⟩::rest) e (VR v1 E sz rows::h'):=by
  cases a with
  | none =>
   have hc0:cap=0:=hnone rfl
   have hl0:l=[]:=List.eq_nil_of_length_eq_zero<|by omega
   subst hl0 hc0
   refine nY .here λ⟨f,hf⟩=>?_
   have hn:=hnx v1 []
   rw [List.append_nil] at hn
   rcases VR.form hf with ⟨rfl,g1⟩ | ⟨b,o,cp,rfl,g1,g2⟩
   ·exact H8 (AQ hx hy ht hE<|Nat.le_refl _) hd (hn Z Z (by simp) λi us x h=>by simp at h)
   ·exact H8 (AQ hx hy ht hE g1) hd (hn Z Z (by simp) λi us x h=>by simp at h)
  | some a =>
   obtain ⟨news,r1,r2,r3,r4⟩:=hv.cells
   exact J8 news hx hy ht hE hzs hsz .here r2 r1 (λj u hu=>by obtain ⟨b2,o,hb2,hr⟩:=r4 j u hu; cases hb2; rw [Addr.add_lit]; exact ⟨S,_,.there hS,hr⟩) (λu hu=>by obtain ⟨us,h2,h3⟩:=List.mem_flatten.1 hu; obtain ⟨i,hi,rfl⟩:=List.mem_iff_getElem.1 h2; exact h1 _ l[i] (List.getElem_mem _) (r3 i _ _ (Zy hi)<|Zy<|by omega) u h3) hb h63 hd λv' hv' _=>hnx v' news hv' r1 r2 r3
 exact St.perm hs.perm key
end
theorem AR {P : Program} {e : Env} {h : SH} {ty : TypeId} {T E : TypeId} {x y z : Operand} {a : Option Addr} {n cp hi mx sz : Nat} {i j : Int} {k k' : IntKind} (hx : e.ev? x = some (.slice a n cp)) (hy : e.ev? y = some (.int k i)) (hz : e.ev? z = some (.int k' j)) (hT : SlE P T E sz)
  (hi':i=(hi:Int)) (hj:j=(mx:Int)) (h1:hi≤mx) (h2:mx≤cp):Vop P e h (.slice T x none (some y)<|some z) ty (.slice a hi mx):=
 ⟨by simp,by simp,λρ w d pos after g hρ _=>by
  subst hi' hj
  have hT':P.underlying T=some (.slice<|P.elem T):=by simp [Program.elem,hT.1]
  have he:P.elem T=E:=by simp [Program.elem,hT.1]
  have hr:=run_slice_hm (P:=P) w T a n cp hT' k k' hi mx (by omega) (by omega)<|by omega
  have hs:sliced a 0 hi mx sz = .slice a hi mx:=by
   unfold sliced; by_cases hcl:mx=0 <;> cases a <;> simp [hcl,Addr.add]
  simp only [he,hT.2 w,Result.andThen_ok,Int.toNat_natCast,hs] at hr
  simp only [execOp,hρ x _ hx,Option.map_some,Option.map_none,hρ y _ hy,hρ z _ hz,Sem.run_bind,run_sliceAt_slice w T _ _ _ _ hT',hr,Result.andThen_ok,Sem.run_pure]⟩
end Go.Ck
namespace Go.Fl
open Go Go.RowKit Go.Ck Go.Proofs Go.Proofs.Tryz Go.Proofs.YtknmacdbffgjgaaGreatDoor Fx Go.Hr
attribute [local irreducible] Go.Ck.Sub St Cd Xt Nx DrL LsW
def ixI (o:Option Nat):Int:=match o with | some i=>i | none => -1
section
variable {X:Res} {v:Value}
theorem La {xs:List Pn} {kf:FuncId} {cp:Array Value} {g:Pn->Bool} (hv:Ls X v xs) (hE:Ck.Enters prog kf) (hf:∀ a∈xs,∀ us,Enc.rep X us a->Reads prog kf (#[]++([.agg us.toArray]:List Value).toArray++cp) [X] (.bool (g a))):Reads prog 153 #[v,.func (.func kf) #[] cp] [X] (.int .i64 (ixI (xs.findIdx? g))):=by
 have hml:maxLen=9223372036854775807:=rfl
 obtain ⟨a,cap,rfl,hlc,hcm,_⟩:=id hv.form
 refine aL (n:=19) func153 Z Z (len Z) λhr w0=>?_
 refine cQ<|sA Z<|sN<|nT<|cS<|cQ<|sM Z<|sV (aF Z underlying86)<|sM Z<|sK [0,1,4,7,8] Z<|cB<|aX (σ := Nat) (λi=>[(0,.slice a xs.length cap),(1,.func (.func kf) #[] cp),(7,.int .i64 xs.length),(8,.int .i64 (i:Nat))]) (λ_=>X::hr) (λi=>i≤xs.length/\∀ j (hj:j<xs.length),j<i->g xs[j]=false) (λi=>xs.length - i) 0 ⟨Nat.zero_le _,λj _ hj=>absurd hj<|Nat.not_lt_zero _⟩ ?_
 rintro i ⟨hi,hal⟩
 refine cQ<|sV (aN Z Z)<|sN<|nT<|cS<|cC Z (λhd=>?_)<|λhd=>?_
 ·have hlt:i<xs.length:=Zx
  obtain ⟨b,o,cap2,us,e1,hus,hrd,hre⟩:=hv.at<|Zy hlt
  cases e1
  have hfx:=hf xs[i] (List.getElem_mem hlt) us hre
  refine cK<|xT<|cS<|cB<|cQ<|sM Z<|sA Z<|sK [0,1,5,7,8] Z<|cQ<|sM Z<|sM Z<|sM Z ?_
  refine sV (vI (k:=i) Z Z sl86 Z hlt Z)<|sV (af Z qL hus hrd) ?_
  refine aY Z Z hE Z (hfx) ?_
  refine sK [0,1,5,7,8,16] Z<|cC Z (λhe=>?_)<|λhe=>?_
  ·have he:g xs[i]=true:=he
   rw [show xs.findIdx? g=some i by
    rw [List.findIdx?_eq_some_iff_getElem]
    exact ⟨hlt,he,λj hj=>by rw [hal j (by omega) hj]; decide⟩]
   refine cQ<|sM Z<|sA Z<|sK [4] Z<|cT<|xW<|xR<|xR<|xW<|xR ?_
   exact aj Z ⟨Z,Z⟩ sbq
  ·have he:g xs[i]=false:=he
   refine cK<|xB<|xT<|cR<|sV (aI Z Z Za)<|sM Z<|sN<|nK [0,1,7,8] Z<|ax<|aJ (i+1) ⟨hlt,λj hj hj2=>?_⟩<|Nat.sub_lt_sub_left hlt<|Nat.lt_succ_self i
   by_cases hji:j=i
   ·subst hji; exact he
   ·exact hal j hj<|by omega
 ·have hil:i=xs.length:=by
   have:¬ i<xs.length:=Zx
   omega
  rw [show xs.findIdx? g=none by
   rw [List.findIdx?_eq_none_iff]
   intro f hfm
   obtain ⟨j,hj,rfl⟩:=List.getElem_of_mem hfm
   exact hal j hj (by omega)]
  refine aB<|xE<|xE<|xY<|xT<|cQ<|sA Z<|sK [4] Z<|cT ?_
  exact aj Z ⟨Z,Z⟩ sbq
theorem Lb {xs:List FC} {kf:FuncId} {cp:Array Value} {g:FC->Bool} (hv:Ls X v xs) (hE:Ck.Enters prog kf) (hf:∀ a∈xs,∀ us,Enc.rep X us a->Reads prog kf (#[]++([.agg us.toArray]:List Value).toArray++cp) [X] (.bool (g a))):Reads prog 150 #[v,.func (.func kf) #[] cp] [X] (.int .i64 (ixI (xs.findIdx? g))):=by
 have hml:maxLen=9223372036854775807:=rfl
 obtain ⟨a,cap,rfl,hlc,hcm,_⟩:=id hv.form
 refine aL (n:=19) func150 Z Z (len Z) λhr w0=>?_
 refine cQ<|sA Z<|sN<|nT<|cS<|cQ<|sM Z<|sV (aF Z underlying22)<|sM Z<|sK [0,1,4,7,8] Z<|cB<|aX (σ := Nat) (λi=>[(0,.slice a xs.length cap),(1,.func (.func kf) #[] cp),(7,.int .i64 xs.length),(8,.int .i64 (i:Nat))]) (λ_=>X::hr) (λi=>i≤xs.length/\∀ j (hj:j<xs.length),j<i->g xs[j]=false) (λi=>xs.length - i) 0 ⟨Nat.zero_le _,λj _ hj=>absurd hj<|Nat.not_lt_zero _⟩ ?_
 rintro i ⟨hi,hal⟩
 refine cQ<|sV (aN Z Z)<|sN<|nT<|cS<|cC Z (λhd=>?_)<|λhd=>?_
 ·have hlt:i<xs.length:=Zx
  obtain ⟨b,o,cap2,us,e1,hus,hrd,hre⟩:=hv.at<|Zy hlt
  cases e1
  have hfx:=hf xs[i] (List.getElem_mem hlt) us hre
  refine cK<|xT<|cS<|cB<|cQ<|sM Z<|sA Z<|sK [0,1,5,7,8] Z<|cQ<|sM Z<|sM Z<|sM Z ?_
  refine sV (vI (k:=i) Z Z ve Z hlt Z)<|sV (af Z gG hus hrd) ?_
  refine aY Z Z hE Z (hfx) ?_
  refine sK [0,1,5,7,8,16] Z<|cC Z (λhe=>?_)<|λhe=>?_
  ·have he:g xs[i]=true:=he
   rw [show xs.findIdx? g=some i by
    rw [List.findIdx?_eq_some_iff_getElem]
    exact ⟨hlt,he,λj hj=>by rw [hal j (by omega) hj]; decide⟩]
   refine cQ<|sM Z<|sA Z<|sK [4] Z<|cT<|xW<|xR<|xR<|xW<|xR ?_
   exact aj Z ⟨Z,Z⟩ sbq
  ·have he:g xs[i]=false:=he
   refine cK<|xB<|xT<|cR<|sV (aI Z Z Za)<|sM Z<|sN<|nK [0,1,7,8] Z<|ax<|aJ (i+1) ⟨hlt,λj hj hj2=>?_⟩<|Nat.sub_lt_sub_left hlt<|Nat.lt_succ_self i
   by_cases hji:j=i
   ·subst hji; exact he
   ·exact hal j hj<|by omega
 ·have hil:i=xs.length:=by
   have:¬ i<xs.length:=Zx
   omega
  rw [show xs.findIdx? g=none by
   rw [List.findIdx?_eq_none_iff]
   intro f hfm
   obtain ⟨j,hj,rfl⟩:=List.getElem_of_mem hfm
   exact hal j hj (by omega)]
  refine aB<|xE<|xE<|xY<|xT<|cQ<|sA Z<|sK [4] Z<|cT ?_
  exact aj Z ⟨Z,Z⟩ sbq
theorem Lc {xs:List Fe} {kf:FuncId} {cp:Array Value} {g:Fe->Bool} (hv:Ls X v xs) (hE:Ck.Enters prog kf) (hf:∀ a∈xs,∀ us,Enc.rep X us a->Reads prog kf (#[]++([.agg us.toArray]:List Value).toArray++cp) [X] (.bool (g a))):Reads prog 151 #[v,.func (.func kf) #[] cp] [X] (.int .i64 (ixI (xs.findIdx? g))):=by
 have hml:maxLen=9223372036854775807:=rfl
 obtain ⟨a,cap,rfl,hlc,hcm,_⟩:=id hv.form
 refine aL (n:=19) func151 Z Z (len Z) λhr w0=>?_
 refine cQ<|sA Z<|sN<|nT<|cS<|cQ<|sM Z<|sV (aF Z underlying41)<|sM Z<|sK [0,1,4,7,8] Z<|cB<|aX (σ := Nat) (λi=>[(0,.slice a xs.length cap),(1,.func (.func kf) #[] cp),(7,.int .i64 xs.length),(8,.int .i64 (i:Nat))]) (λ_=>X::hr) (λi=>i≤xs.length/\∀ j (hj:j<xs.length),j<i->g xs[j]=false) (λi=>xs.length - i) 0 ⟨Nat.zero_le _,λj _ hj=>absurd hj<|Nat.not_lt_zero _⟩ ?_
 rintro i ⟨hi,hal⟩
 refine cQ<|sV (aN Z Z)<|sN<|nT<|cS<|cC Z (λhd=>?_)<|λhd=>?_
 ·have hlt:i<xs.length:=Zx
  obtain ⟨b,o,cap2,us,e1,hus,hrd,hre⟩:=hv.at<|Zy hlt
  cases e1
  have hfx:=hf xs[i] (List.getElem_mem hlt) us hre
  refine cK<|xT<|cS<|cB<|cQ<|sM Z<|sA Z<|sK [0,1,5,7,8] Z<|cQ<|sM Z<|sM Z<|sM Z ?_
  refine sV (vI (k:=i) Z Z sl41 Z hlt Z)<|sV (af Z nR hus hrd) ?_
  refine aY Z Z hE Z (hfx) ?_
  refine sK [0,1,5,7,8,16] Z<|cC Z (λhe=>?_)<|λhe=>?_
  ·have he:g xs[i]=true:=he
   rw [show xs.findIdx? g=some i by
    rw [List.findIdx?_eq_some_iff_getElem]
    exact ⟨hlt,he,λj hj=>by rw [hal j (by omega) hj]; decide⟩]
   refine cQ<|sM Z<|sA Z<|sK [4] Z<|cT<|xW<|xR<|xR<|xW<|xR ?_
   exact aj Z ⟨Z,Z⟩ sbq
  ·have he:g xs[i]=false:=he
   refine cK<|xB<|xT<|cR<|sV (aI Z Z Za)<|sM Z<|sN<|nK [0,1,7,8] Z<|ax<|aJ (i+1) ⟨hlt,λj hj hj2=>?_⟩<|Nat.sub_lt_sub_left hlt<|Nat.lt_succ_self i
   by_cases hji:j=i
   ·subst hji; exact he
   ·exact hal j hj<|by omega
 ·have hil:i=xs.length:=by
   have:¬ i<xs.length:=Zx
   omega
  rw [show xs.findIdx? g=none by
   rw [List.findIdx?_eq_none_iff]
   intro f hfm
   obtain ⟨j,hj,rfl⟩:=List.getElem_of_mem hfm
   exact hal j hj (by omega)]
  refine aB<|xE<|xE<|xY<|xT<|cQ<|sA Z<|sK [4] Z<|cT ?_
  exact aj Z ⟨Z,Z⟩ sbq
theorem xx {xs:List Mb} {kf:FuncId} {cp:Array Value} {g:Mb->Bool} (hv:Ls X v xs) (hE:Ck.Enters prog kf) (hf:∀ a∈xs,∀ us,Enc.rep X us a->Reads prog kf (#[]++([.agg us.toArray]:List Value).toArray++cp) [X] (.bool (g a))):Reads prog 222 #[v,.func (.func kf) #[] cp] [X] (.int .i64 (ixI (xs.findIdx? g))):=by
 have hml:maxLen=9223372036854775807:=rfl
 obtain ⟨a,cap,rfl,hlc,hcm,_⟩:=id hv.form
 refine aL (n:=19) func222 Z Z (len Z) λhr w0=>?_
 refine cQ<|sA Z<|sN<|nT<|cS<|cQ<|sM Z<|sV (aF Z underlying52)<|sM Z<|sK [0,1,4,7,8] Z<|cB<|aX (σ := Nat) (λi=>[(0,.slice a xs.length cap),(1,.func (.func kf) #[] cp),(7,.int .i64 xs.length),(8,.int .i64 (i:Nat))]) (λ_=>X::hr) (λi=>i≤xs.length/\∀ j (hj:j<xs.length),j<i->g xs[j]=false) (λi=>xs.length - i) 0 ⟨Nat.zero_le _,λj _ hj=>absurd hj<|Nat.not_lt_zero _⟩ ?_
 rintro i ⟨hi,hal⟩
 refine cQ<|sV (aN Z Z)<|sN<|nT<|cS<|cC Z (λhd=>?_)<|λhd=>?_
 ·have hlt:i<xs.length:=Zx
  obtain ⟨b,o,cap2,us,e1,hus,hrd,hre⟩:=hv.at<|Zy hlt
  cases e1
  have hfx:=hf xs[i] (List.getElem_mem hlt) us hre
  refine cK<|xT<|cS<|cB<|cQ<|sM Z<|sA Z<|sK [0,1,5,7,8] Z<|cQ<|sM Z<|sM Z<|sM Z ?_
  refine sV (vI (k:=i) Z Z oM Z hlt Z)<|sV (af Z eU hus hrd) ?_
  refine aY Z Z hE Z (hfx) ?_
  refine sK [0,1,5,7,8,16] Z<|cC Z (λhe=>?_)<|λhe=>?_
  ·have he:g xs[i]=true:=he
   rw [show xs.findIdx? g=some i by
    rw [List.findIdx?_eq_some_iff_getElem]
    exact ⟨hlt,he,λj hj=>by rw [hal j (by omega) hj]; decide⟩]
   refine cQ<|sM Z<|sA Z<|sK [4] Z<|cT<|xW<|xR<|xR<|xW<|xR ?_
   exact aj Z ⟨Z,Z⟩ sbq
  ·have he:g xs[i]=false:=he
   refine cK<|xB<|xT<|cR<|sV (aI Z Z Za)<|sM Z<|sN<|nK [0,1,7,8] Z<|ax<|aJ (i+1) ⟨hlt,λj hj hj2=>?_⟩<|Nat.sub_lt_sub_left hlt<|Nat.lt_succ_self i
   by_cases hji:j=i
   ·subst hji; exact he
   ·exact hal j hj<|by omega
 ·have hil:i=xs.length:=by
   have:¬ i<xs.length:=Zx
   omega
  rw [show xs.findIdx? g=none by
   rw [List.findIdx?_eq_none_iff]
   intro f hfm
   obtain ⟨j,hj,rfl⟩:=List.getElem_of_mem hfm
   exact hal j hj (by omega)]
  refine aB<|xE<|xE<|xY<|xT<|cQ<|sA Z<|sK [4] Z<|cT ?_
  exact aj Z ⟨Z,Z⟩ sbq
theorem Ld {xs:List Fm} {kf:FuncId} {cp:Array Value} {g:Fm->Bool} (hv:Ls X v xs) (hE:Ck.Enters prog kf) (hf:∀ a∈xs,∀ us,Enc.rep X us a->Reads prog kf (#[]++([.agg us.toArray]:List Value).toArray++cp) [X] (.bool (g a))):Reads prog 185 #[v,.func (.func kf) #[] cp] [X] (.int .i64 (ixI (xs.findIdx? g))):=by
 have hml:maxLen=9223372036854775807:=rfl
 obtain ⟨a,cap,rfl,hlc,hcm,_⟩:=id hv.form
 refine aL (n:=19) func185 Z Z (len Z) λhr w0=>?_
 refine cQ<|sA Z<|sN<|nT<|cS<|cQ<|sM Z<|sV (aF Z underlying38)<|sM Z<|sK [0,1,4,7,8] Z<|cB<|aX (σ := Nat) (λi=>[(0,.slice a xs.length cap),(1,.func (.func kf) #[] cp),(7,.int .i64 xs.length),(8,.int .i64 (i:Nat))]) (λ_=>X::hr) (λi=>i≤xs.length/\∀ j (hj:j<xs.length),j<i->g xs[j]=false) (λi=>xs.length - i) 0 ⟨Nat.zero_le _,λj _ hj=>absurd hj<|Nat.not_lt_zero _⟩ ?_
 rintro i ⟨hi,hal⟩
 refine cQ<|sV (aN Z Z)<|sN<|nT<|cS<|cC Z (λhd=>?_)<|λhd=>?_
 ·have hlt:i<xs.length:=Zx
  obtain ⟨b,o,cap2,us,e1,hus,hrd,hre⟩:=hv.at<|Zy hlt
  cases e1
  have hfx:=hf xs[i] (List.getElem_mem hlt) us hre
  refine cK<|xT<|cS<|cB<|cQ<|sM Z<|sA Z<|sK [0,1,5,7,8] Z<|cQ<|sM Z<|sM Z<|sM Z ?_
  refine sV (vI (k:=i) Z Z sl38 Z hlt Z)<|sV (af Z JO hus hrd) ?_
  refine aY Z Z hE Z (hfx) ?_
  refine sK [0,1,5,7,8,16] Z<|cC Z (λhe=>?_)<|λhe=>?_
  ·have he:g xs[i]=true:=he
   rw [show xs.findIdx? g=some i by
    rw [List.findIdx?_eq_some_iff_getElem]
    exact ⟨hlt,he,λj hj=>by rw [hal j (by omega) hj]; decide⟩]
   refine cQ<|sM Z<|sA Z<|sK [4] Z<|cT<|xW<|xR<|xR<|xW<|xR ?_
   exact aj Z ⟨Z,Z⟩ sbq
  ·have he:g xs[i]=false:=he
   refine cK<|xB<|xT<|cR<|sV (aI Z Z Za)<|sM Z<|sN<|nK [0,1,7,8] Z<|ax<|aJ (i+1) ⟨hlt,λj hj hj2=>?_⟩<|Nat.sub_lt_sub_left hlt<|Nat.lt_succ_self i
   by_cases hji:j=i
   ·subst hji; exact he
   ·exact hal j hj<|by omega
 ·have hil:i=xs.length:=by
   have:¬ i<xs.length:=Zx
   omega
  rw [show xs.findIdx? g=none by
   rw [List.findIdx?_eq_none_iff]
   intro f hfm
   obtain ⟨j,hj,rfl⟩:=List.getElem_of_mem hfm
   exact hal j hj (by omega)]
  refine aB<|xE<|xE<|xY<|xT<|cQ<|sA Z<|sK [4] Z<|cT ?_
  exact aj Z ⟨Z,Z⟩ sbq
theorem Le {xs:List Sd} {kf:FuncId} {cp:Array Value} {g:Sd->Bool} (hv:Ls X v xs) (hE:Ck.Enters prog kf) (hf:∀ a∈xs,∀ us,Enc.rep X us a->Reads prog kf (#[]++([.agg us.toArray]:List Value).toArray++cp) [X] (.bool (g a))):Reads prog 100 #[v,.func (.func kf) #[] cp] [X] (.int .i64 (ixI (xs.findIdx? g))):=by
 have hml:maxLen=9223372036854775807:=rfl
 obtain ⟨a,cap,rfl,hlc,hcm,_⟩:=id hv.form
 refine aL (n:=19) func100 Z Z (len Z) λhr w0=>?_
 refine cQ<|sA Z<|sN<|nT<|cS<|cQ<|sM Z<|sV (aF Z underlying67)<|sM Z<|sK [0,1,4,7,8] Z<|cB<|aX (σ := Nat) (λi=>[(0,.slice a xs.length cap),(1,.func (.func kf) #[] cp),(7,.int .i64 xs.length),(8,.int .i64 (i:Nat))]) (λ_=>X::hr) (λi=>i≤xs.length/\∀ j (hj:j<xs.length),j<i->g xs[j]=false) (λi=>xs.length - i) 0 ⟨Nat.zero_le _,λj _ hj=>absurd hj<|Nat.not_lt_zero _⟩ ?_
 rintro i ⟨hi,hal⟩
 refine cQ<|sV (aN Z Z)<|sN<|nT<|cS<|cC Z (λhd=>?_)<|λhd=>?_
 ·have hlt:i<xs.length:=Zx
  obtain ⟨b,o,cap2,us,e1,hus,hrd,hre⟩:=hv.at<|Zy hlt
  cases e1
  have hfx:=hf xs[i] (List.getElem_mem hlt) us hre
  refine cK<|xT<|cS<|cB<|cQ<|sM Z<|sA Z<|sK [0,1,5,7,8] Z<|cQ<|sM Z<|sM Z<|sM Z ?_
  refine sV (vI (k:=i) Z Z oN Z hlt Z)<|sV (af Z il hus hrd) ?_
  refine aY Z Z hE Z (hfx) ?_
  refine sK [0,1,5,7,8,16] Z<|cC Z (λhe=>?_)<|λhe=>?_
  ·have he:g xs[i]=true:=he
   rw [show xs.findIdx? g=some i by
    rw [List.findIdx?_eq_some_iff_getElem]
    exact ⟨hlt,he,λj hj=>by rw [hal j (by omega) hj]; decide⟩]
   refine cQ<|sM Z<|sA Z<|sK [4] Z<|cT<|xW<|xR<|xR<|xW<|xR ?_
   exact aj Z ⟨Z,Z⟩ sbq
  ·have he:g xs[i]=false:=he
   refine cK<|xB<|xT<|cR<|sV (aI Z Z Za)<|sM Z<|sN<|nK [0,1,7,8] Z<|ax<|aJ (i+1) ⟨hlt,λj hj hj2=>?_⟩<|Nat.sub_lt_sub_left hlt<|Nat.lt_succ_self i
   by_cases hji:j=i
   ·subst hji; exact he
   ·exact hal j hj<|by omega
 ·have hil:i=xs.length:=by
   have:¬ i<xs.length:=Zx
   omega
  rw [show xs.findIdx? g=none by
   rw [List.findIdx?_eq_none_iff]
   intro f hfm
   obtain ⟨j,hj,rfl⟩:=List.getElem_of_mem hfm
   exact hal j hj (by omega)]
  refine aB<|xE<|xE<|xY<|xT<|cQ<|sA Z<|sK [4] Z<|cT ?_
  exact aj Z ⟨Z,Z⟩ sbq
theorem Lf {xs:List Grp} {kf:FuncId} {cp:Array Value} {g:Grp->Bool} (hv:Ls X v xs) (hE:Ck.Enters prog kf) (hf:∀ a∈xs,∀ us,Enc.rep X us a->Reads prog kf (#[]++([.agg us.toArray]:List Value).toArray++cp) [X] (.bool (g a))):Reads prog 167 #[v,.func (.func kf) #[] cp] [X] (.int .i64 (ixI (xs.findIdx? g))):=by
 have hml:maxLen=9223372036854775807:=rfl
 obtain ⟨a,cap,rfl,hlc,hcm,_⟩:=id hv.form
 refine aL (n:=19) func167 Z Z (len Z) λhr w0=>?_
 refine cQ<|sA Z<|sN<|nT<|cS<|cQ<|sM Z<|sV (aF Z underlying53)<|sM Z<|sK [0,1,4,7,8] Z<|cB<|aX (σ := Nat) (λi=>[(0,.slice a xs.length cap),(1,.func (.func kf) #[] cp),(7,.int .i64 xs.length),(8,.int .i64 (i:Nat))]) (λ_=>X::hr) (λi=>i≤xs.length/\∀ j (hj:j<xs.length),j<i->g xs[j]=false) (λi=>xs.length - i) 0 ⟨Nat.zero_le _,λj _ hj=>absurd hj<|Nat.not_lt_zero _⟩ ?_
 rintro i ⟨hi,hal⟩
 refine cQ<|sV (aN Z Z)<|sN<|nT<|cS<|cC Z (λhd=>?_)<|λhd=>?_
 ·have hlt:i<xs.length:=Zx
  obtain ⟨b,o,cap2,us,e1,hus,hrd,hre⟩:=hv.at<|Zy hlt
  cases e1
  have hfx:=hf xs[i] (List.getElem_mem hlt) us hre
  refine cK<|xT<|cS<|cB<|cQ<|sM Z<|sA Z<|sK [0,1,5,7,8] Z<|cQ<|sM Z<|sM Z<|sM Z ?_
  refine sV (vI (k:=i) Z Z sl53 Z hlt Z)<|sV (af Z qM hus hrd) ?_
  refine aY Z Z hE Z (hfx) ?_
  refine sK [0,1,5,7,8,16] Z<|cC Z (λhe=>?_)<|λhe=>?_
  ·have he:g xs[i]=true:=he
   rw [show xs.findIdx? g=some i by
    rw [List.findIdx?_eq_some_iff_getElem]
    exact ⟨hlt,he,λj hj=>by rw [hal j (by omega) hj]; decide⟩]
   refine cQ<|sM Z<|sA Z<|sK [4] Z<|cT<|xW<|xR<|xR<|xW<|xR ?_
   exact aj Z ⟨Z,Z⟩ sbq
  ·have he:g xs[i]=false:=he
   refine cK<|xB<|xT<|cR<|sV (aI Z Z Za)<|sM Z<|sN<|nK [0,1,7,8] Z<|ax<|aJ (i+1) ⟨hlt,λj hj hj2=>?_⟩<|Nat.sub_lt_sub_left hlt<|Nat.lt_succ_self i
   by_cases hji:j=i
   ·subst hji; exact he
   ·exact hal j hj<|by omega
 ·have hil:i=xs.length:=by
   have:¬ i<xs.length:=Zx
   omega
  rw [show xs.findIdx? g=none by
   rw [List.findIdx?_eq_none_iff]
   intro f hfm
   obtain ⟨j,hj,rfl⟩:=List.getElem_of_mem hfm
   exact hal j hj (by omega)]
  refine aB<|xE<|xE<|xY<|xT<|cQ<|sA Z<|sK [4] Z<|cT ?_
  exact aj Z ⟨Z,Z⟩ sbq
theorem CX {xs:List Cm} {kf:FuncId} {cp:Array Value} {g:Cm->Bool} (hv:Ls X v xs) (hE:Ck.Enters prog kf) (hf:∀ a∈xs,∀ us,Enc.rep X us a->Reads prog kf (#[]++([.agg us.toArray]:List Value).toArray++cp) [X] (.bool (g a))):Reads prog 193 #[v,.func (.func kf) #[] cp] [X] (.int .i64 (ixI (xs.findIdx? g))):=by
 have hml:maxLen=9223372036854775807:=rfl
 obtain ⟨a,cap,rfl,hlc,hcm,_⟩:=id hv.form
 refine aL (n:=19) func193 Z Z (len Z) λhr w0=>?_
 refine cQ<|sA Z<|sN<|nT<|cS<|cQ<|sM Z<|sV (aF Z underlying187)<|sM Z<|sK [0,1,4,7,8] Z<|cB<|aX (σ := Nat) (λi=>[(0,.slice a xs.length cap),(1,.func (.func kf) #[] cp),(7,.int .i64 xs.length),(8,.int .i64 (i:Nat))]) (λ_=>X::hr) (λi=>i≤xs.length/\∀ j (hj:j<xs.length),j<i->g xs[j]=false) (λi=>xs.length - i) 0 ⟨Nat.zero_le _,λj _ hj=>absurd hj<|Nat.not_lt_zero _⟩ ?_
 rintro i ⟨hi,hal⟩
 refine cQ<|sV (aN Z Z)<|sN<|nT<|cS<|cC Z (λhd=>?_)<|λhd=>?_
 ·have hlt:i<xs.length:=Zx
  obtain ⟨b,o,cap2,us,e1,hus,hrd,hre⟩:=hv.at<|Zy hlt
  cases e1
  have hfx:=hf xs[i] (List.getElem_mem hlt) us hre
  refine cK<|xT<|cS<|cB<|cQ<|sM Z<|sA Z<|sK [0,1,5,7,8] Z<|cQ<|sM Z<|sM Z<|sM Z ?_
  refine sV (vI (k:=i) Z Z lF Z hlt Z)<|sV (af Z gV hus hrd) ?_
  refine aY Z Z hE Z (hfx) ?_
  refine sK [0,1,5,7,8,16] Z<|cC Z (λhe=>?_)<|λhe=>?_
  ·have he:g xs[i]=true:=he
   rw [show xs.findIdx? g=some i by
    rw [List.findIdx?_eq_some_iff_getElem]
    exact ⟨hlt,he,λj hj=>by rw [hal j (by omega) hj]; decide⟩]
   refine cQ<|sM Z<|sA Z<|sK [4] Z<|cT<|xW<|xR<|xR<|xW<|xR ?_
   exact aj Z ⟨Z,Z⟩ sbq
  ·have he:g xs[i]=false:=he
   refine cK<|xB<|xT<|cR<|sV (aI Z Z Za)<|sM Z<|sN<|nK [0,1,7,8] Z<|ax<|aJ (i+1) ⟨hlt,λj hj hj2=>?_⟩<|Nat.sub_lt_sub_left hlt<|Nat.lt_succ_self i
   by_cases hji:j=i
   ·subst hji; exact he
   ·exact hal j hj<|by omega
 ·have hil:i=xs.length:=by
   have:¬ i<xs.length:=Zx
   omega
  rw [show xs.findIdx? g=none by
   rw [List.findIdx?_eq_none_iff]
   intro f hfm
   obtain ⟨j,hj,rfl⟩:=List.getElem_of_mem hfm
   exact hal j hj (by omega)]
  refine aB<|xE<|xE<|xY<|xT<|cQ<|sA Z<|sK [4] Z<|cT ?_
  exact aj Z ⟨Z,Z⟩ sbq
theorem Lg {xs:List Vr} {kf:FuncId} {cp:Array Value} {g:Vr->Bool} (hv:Ls X v xs) (hE:Ck.Enters prog kf) (hf:∀ a∈xs,∀ us,Enc.rep X us a->Reads prog kf (#[]++([.agg us.toArray]:List Value).toArray++cp) [X] (.bool (g a))):Reads prog 223 #[v,.func (.func kf) #[] cp] [X] (.int .i64 (ixI (xs.findIdx? g))):=by
 have hml:maxLen=9223372036854775807:=rfl
 obtain ⟨a,cap,rfl,hlc,hcm,_⟩:=id hv.form
 refine aL (n:=19) func223 Z Z (len Z) λhr w0=>?_
 refine cQ<|sA Z<|sN<|nT<|cS<|cQ<|sM Z<|sV (aF Z underlying70)<|sM Z<|sK [0,1,4,7,8] Z<|cB<|aX (σ := Nat) (λi=>[(0,.slice a xs.length cap),(1,.func (.func kf) #[] cp),(7,.int .i64 xs.length),(8,.int .i64 (i:Nat))]) (λ_=>X::hr) (λi=>i≤xs.length/\∀ j (hj:j<xs.length),j<i->g xs[j]=false) (λi=>xs.length - i) 0 ⟨Nat.zero_le _,λj _ hj=>absurd hj<|Nat.not_lt_zero _⟩ ?_
 rintro i ⟨hi,hal⟩
 refine cQ<|sV (aN Z Z)<|sN<|nT<|cS<|cC Z (λhd=>?_)<|λhd=>?_
 ·have hlt:i<xs.length:=Zx
  obtain ⟨b,o,cap2,us,e1,hus,hrd,hre⟩:=hv.at<|Zy hlt
  cases e1
  have hfx:=hf xs[i] (List.getElem_mem hlt) us hre
  refine cK<|xT<|cS<|cB<|cQ<|sM Z<|sA Z<|sK [0,1,5,7,8] Z<|cQ<|sM Z<|sM Z<|sM Z ?_
  refine sV (vI (k:=i) Z Z sl70 Z hlt Z)<|sV (af Z vz hus hrd) ?_
  refine aY Z Z hE Z (hfx) ?_
  refine sK [0,1,5,7,8,16] Z<|cC Z (λhe=>?_)<|λhe=>?_
  ·have he:g xs[i]=true:=he
   rw [show xs.findIdx? g=some i by
    rw [List.findIdx?_eq_some_iff_getElem]
    exact ⟨hlt,he,λj hj=>by rw [hal j (by omega) hj]; decide⟩]
   refine cQ<|sM Z<|sA Z<|sK [4] Z<|cT<|xW<|xR<|xR<|xW<|xR ?_
   exact aj Z ⟨Z,Z⟩ sbq
  ·have he:g xs[i]=false:=he
   refine cK<|xB<|xT<|cR<|sV (aI Z Z Za)<|sM Z<|sN<|nK [0,1,7,8] Z<|ax<|aJ (i+1) ⟨hlt,λj hj hj2=>?_⟩<|Nat.sub_lt_sub_left hlt<|Nat.lt_succ_self i
   by_cases hji:j=i
   ·subst hji; exact he
   ·exact hal j hj<|by omega
 ·have hil:i=xs.length:=by
   have:¬ i<xs.length:=Zx
   omega
  rw [show xs.findIdx? g=none by
   rw [List.findIdx?_eq_none_iff]
   intro f hfm
   obtain ⟨j,hj,rfl⟩:=List.getElem_of_mem hfm
   exact hal j hj (by omega)]
  refine aB<|xE<|xE<|xY<|xT<|cQ<|sA Z<|sK [4] Z<|cT ?_
  exact aj Z ⟨Z,Z⟩ sbq
end
end Go.Fl
