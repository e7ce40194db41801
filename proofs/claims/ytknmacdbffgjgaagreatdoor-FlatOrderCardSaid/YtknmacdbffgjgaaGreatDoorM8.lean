/-
  Package flat,Go's library: slices.IndexFunc,slices.ContainsFunc at the plain data. Conditions: what is read.
-/
import Derived.Test.YtknmacdbffgjgaaGreatDoorM7
import Derived.Test.YtknmacdbffgjgaaGreatDoorM5
import Derived.Test.YtknmacdbffgjgaaGreatDoorM3
import Derived.Test.YtknmacdbffgjgaaGreatDoorM6
set_option linter.unusedVariables false
set_option linter.unusedSimpArgs false
set_option maxRecDepth 100000
set_option maxHeartbeats 16000000
namespace Go.Fl
open Go Go.Hr
section
variable {l m:FS}
theorem CW (hr:Right (aO l)) {fl:Nm->Fl}:∀ (f g:Nat) (c:Nm) (ms:List Mb) (s:Sd),(bE l c).isSome=true->rk (aO l) c≤f->rk (aO l) c≤g->eZ fl l f (ae l c) ms s=eZ fl l g (ae l c) ms s:=by
 have h1:∀ c,(bE l c).isSome=true->1≤rk (aO l) c:=λc hc=>by
  unfold rk
  exact List.countP_pos_iff.2 ⟨c,ek.1 (by rw [bS]; exact hc),nG _ c⟩
 intro f
 induction f with
 | zero=>intro g c ms s hc h2; have:=h1 c hc; omega
 | succ f ih =>
  intro g c ms s hc h2 h3
  cases g with
  | zero=>have:=h1 c hc; omega
  | succ g =>
   unfold eZ
   split
   ·rfl
   ·simp only []
    split
    ·rfl
    ·split
     ·rename_i i t n' e1 e2
      cases e2
      rw [e1]
      simp only []
      have hi:i∈cu (having (comes fl l<|ae l c) s):=by rw [e1]; simp
      have hpp:=eP hr<|rD hi
      have:=iI hr.acyc hpp
      rw [ih g _ _ s (by rw [<- bS]; exact iQ hpp) (by omega) (by omega)]
     ·rename_i e1
      split
      ·rename_i i t n' e2 e3
       cases e3
       exact absurd rfl<|e1 i t f e2
      ·rfl
structure Agree (l m:FS) (D:Nm->Prop):Prop where
 left:Right (aO l)
 right:Right (aO m)
 find:∀ c,D c->bE m c=bE l c
 up:∀ c,D c->∀ p∈par (aO l) c,D p
 there:∀ c,D c->(bE l c).isSome=true
variable {D:Nm->Prop}
theorem Agree.class (h:Agree l m D) {c:Nm} (hc:D c):ae m c=ae l c:=by unfold ae; rw [h.find c hc]
theorem Agree.par (h:Agree l m D) {c:Nm} (hc:D c):Hr.par (aO m) c=Hr.par (aO l) c:=by rw [Ab h.left,Ab h.right,h.class hc]
theorem Agree.W (h:Agree l m D) {a:Nm}:∀ (k:Nat) {c:Nm},D c->Hr.W (aO m) a k c=Hr.W (aO l) a k c
 | 0,c,_=>rfl
 | k+1,c,hc=>by
  show (Hr.par (aO m) c).any _=(Hr.par (aO l) c).any _
  rw [h.par hc,Bool.eq_iff_iff,List.any_eq_true,List.any_eq_true]
  exact ⟨λ⟨p,h1,h2⟩=>⟨p,h1,by rw [<- h.W k (h.up c hc p h1)]; exact h2⟩,λ⟨p,h1,h2⟩=>⟨p,h1,by rw [h.W k (h.up c hc p h1)]; exact h2⟩⟩
theorem Agree.has (h:Agree l m D) {c a:Nm} (hc:D c):Hr.has (aO m) c a=Hr.has (aO l) c a:=by
 rw [Bool.eq_iff_iff,fD,fD]
 exact ⟨λ⟨k,hk⟩=>⟨k,by rw [<- h.W k hc]; exact hk⟩,λ⟨k,hk⟩=>⟨k,by rw [h.W k hc]; exact hk⟩⟩
theorem Agree.above (h:Agree l m D):∀ c,D c->Hr.above (aO m) c=Hr.above (aO l) c:=by
 refine oL h.left.acyc λc ih hc=>?_
 rw [BV h.left.acyc,BV h.right.acyc,h.par hc]
 congr 1
 have key:∀ (ps o:List Nm),(∀ p∈ps,p∈Hr.par (aO l) c)->ps.foldl (λo p=>dd o<|Hr.above (aO m) p) o=ps.foldl (λo p=>dd o<|Hr.above (aO l) p) o:=by
  intro ps
  induction ps with
  | nil=>intro _ _; rfl
  | cons p t ih2 =>
   intro o hp
   rw [List.foldl_cons,List.foldl_cons,ih p (hp p<|by simp) (h.up c hc p<|hp p<|by simp)]
   exact ih2 _ λq hq=>hp q<|by simp [hq]
 exact key _ [] λ_ h=>h
theorem Agree.parD (h:Agree l m D) {c:Nm} (hc:D c) {p:Pt} (hp:p∈(ae l c).pars):D p.name:=h.up c hc _ (eP h.left hp)
theorem Agree.upD (h:Agree l m D):∀ c,D c->∀ a,Hr.has (aO l) c a=true->D a:=by
 refine oL h.left.acyc λc ih hc a ha=>?_
 rcases wu ha with rfl | ⟨p,hp,hpa⟩
 ·exact hc
 ·exact ih p hp (h.up c hc p hp) a hpa
theorem sj {fl fl':Nm->Fl} {c:FC} (h1:∀ p∈c.pars,fl p.name=fl' p.name) (h2:∀ p∈c.pars,ae m p.name=ae l p.name):comes fl l c=comes fl' m c:=by
 unfold comes
 refine dH λq hq=>?_
 rw [h1 q.1 (yX hq),h2 q.1 (yX hq)]
theorem Agree.FL (h:Agree l m D):∀ c,D c->Fl.FL m c=Fl.FL l c:=by
 refine oL h.left.acyc λc ih hc=>?_
 rw [F9 h.left,F9 h.right]
 have h1:comes (Fl.FL l) l (ae l c)=comes (Fl.FL m) m (ae l c):=sj (λp hp=>(ih _ (eP h.left hp)<|h.parD hc hp).symm) λp hp=>h.class<|h.parD hc hp
 have h2:msF m c=msF l c:=by unfold msF; rw [h.class hc,h1]
 rw [h.class hc,h2]
 have hn:(ae l c).name=c:=by
  obtain ⟨x,hx⟩:=Option.isSome_iff_exists.1<|h.there c hc
  rw [gJ hx,pM hx]
 unfold flatOf
 rw [hn,h.above c hc]
 congr 1
 refine oI λa ha=>?_
 rw [h.class (h.upD c hc a (((jJ h.left.acyc c).2 a).1 ha))]
theorem Agree.ms (h:Agree l m D) {c:Nm} (hc:D c):msF m c=msF l c:=by rw [<- jE h.right,<- jE h.left,h.FL c hc]
theorem Agree.sel (h:Agree l m D) {s:Sd}:∀ (n:Nat) (c:Nm),D c->∀ ms,eZ (Fl.FL m) m n (ae l c) ms s=eZ (Fl.FL l) l n (ae l c) ms s:=by
 intro n
 induction n with
 | zero =>
  intro c hc ms
  have h1:comes (Fl.FL l) l (ae l c)=comes (Fl.FL m) m (ae l c):=sj (λp hp=>(h.FL _<|h.parD hc hp).symm) λp hp=>h.class<|h.parD hc hp
  unfold eZ
  rw [h1]
  split
  ·rfl
  ·simp only []
   split
   ·rfl
   ·split
    ·rename_i e; cases e
    ·rfl
 | succ n ih =>
  intro c hc ms
  have h1:comes (Fl.FL l) l (ae l c)=comes (Fl.FL m) m (ae l c):=sj (λp hp=>(h.FL _<|h.parD hc hp).symm) λp hp=>h.class<|h.parD hc hp
  unfold eZ
  rw [h1]
  split
  ·rfl
  ·simp only []
   split
   ·rfl
   ·split
    ·rename_i i t n' e1 e2
     cases e2
     have hi:i∈cu (having (comes (Fl.FL m) m<|ae l c) s):=by rw [e1]; simp
     have hd:=h.parD hc<|rD hi
     rw [h.class hd,h.FL _ hd,ih _ hd]
    ·rfl
theorem Agree.conf (h:Agree l m D) {c:Nm} (hc:D c) (all:Bool):rA m c all=rA l c all:=by
 unfold rA skF
 rw [h.class hc,h.ms hc]
 refine (CL (sj (λp hp=>(h.FL _<|h.parD hc hp).symm) λp hp=>h.class<|h.parD hc hp) (λp hp=>(h.FL _<|h.parD hc hp).symm) λd=>?_).symm
 show eZ (Fl.FL l) l l.length (ae l c) (msF l c) d=eZ (Fl.FL m) m m.length (ae l c) (msF l c) d
 have hr1:=qF (aO l) c
 have hr2:=qF (aO m) c
 rw [eO] at hr1 hr2
 have e1:eZ (Fl.FL m) m m.length (ae l c) (msF l c) d=eZ (Fl.FL m) m (l.length+m.length) (ae l c) (msF l c) d:=by
  rw [<- h.class hc]
  exact CW h.right _ _ c _ d (by rw [h.find c hc]; exact h.there c hc) hr2<|by omega
 rw [e1,h.sel _ c hc,CW h.left l.length (l.length+m.length) c _ d (h.there c hc) hr1 (by omega)]
theorem Agree.okF (h:Agree l m D) {c:Nm} (hc:D c):Fl.okF m c↔Fl.okF l c:=by unfold Fl.okF; rw [h.conf hc,h.ms hc]

/-! ### The classes in another order -/
theorem Lr {α β : Type} [BEq β] [LawfulBEq β] {f : α -> β} {n : β} {xs ys:List α} (hp:xs.Perm ys) (hn:(xs.map f).Nodup):xs.find? (λx=>f x == n)=ys.find? (λx=>f x == n):=by
 induction hp with
 | nil=>rfl
 | cons x _ ih =>
  rw [List.map_cons,List.nodup_cons] at hn
  rw [List.find?_cons,List.find?_cons,ih hn.2]
 | swap x y t =>
  simp only [List.map_cons,List.nodup_cons,List.mem_cons,not_or] at hn
  rw [List.find?_cons,List.find?_cons,List.find?_cons,List.find?_cons]
  cases h1:f x == n <;> cases h2:f y == n <;> simp only []
  simp only [beq_iff_eq] at h1 h2
  exact absurd (h2.trans h1.symm) hn.1.1
 | trans h1 _ ih1 ih2=>rw [ih1 hn,ih2 ((h1.map f).nodup_iff.1 hn)]
theorem ul (hp:l.Perm m) (hl:Right (aO l)):Agree l m (λc=>(bE l c).isSome=true):=by
 have hu:(l.map λc=>c.name).Nodup:=by
  have:=hl.uniq
  unfold nms aO at this
  rw [List.map_map] at this
  exact this
 have hf:∀ c,bE m c=bE l c:=λc=>(Lr (f:=λ(x:FC)=>x.name) hp hu).symm
 have hpar:∀ c,par (aO m) c=par (aO l) c:=λc=>by
  unfold par
  have h1:pars (aO m) c=pars (aO l) c:=by rw [wQ,wQ]; unfold ae; rw [hf]
  have h2:isC (aO m)=isC (aO l):=funext λx=>by rw [bS,bS,hf]
  rw [h1,h2]
 have hW:∀ a k c,W (aO m) a k c=W (aO l) a k c:=λa k=>by
  induction k with
  | zero=>intro c; rfl
  | succ k ih =>
   intro c
   show (par (aO m) c).any _=(par (aO l) c).any _
   rw [hpar,show W (aO m) a k=W (aO l) a k from funext ih]
 have hhas:∀ c a,has (aO m) c a=has (aO l) c a:=λc a=>by
  rw [Bool.eq_iff_iff,fD,fD]
  exact ⟨λ⟨k,hk⟩=>⟨k,by rw [<- hW]; exact hk⟩,λ⟨k,hk⟩=>⟨k,by rw [hW]; exact hk⟩⟩
 have hmem:∀ x,x∈aO m->x∈aO l:=λx hx=>(hp.map FC.cls).mem_iff.2 hx
 have hr:Right (aO m):={
  len:=by rw [eO,<- hp.length_eq,<- eO]; exact hl.len
  few:=λx hx=>hl.few x<|hmem x hx
  nam:=λx hx=>hl.nam x<|hmem x hx
  uniq:=((hp.map FC.cls).map _).nodup_iff.1 hl.uniq
  once:=λx hx=>hl.once x<|hmem x hx
  all:=λx hx p hp2=>by
   have:=hl.all x (hmem x hx) p hp2
   rw [bS] at this ⊢
   rw [hf]; exact this
  acyc:=λc p hp2=>by
   rw [hpar] at hp2
   rw [hhas]; exact hl.acyc c p hp2 }
 exact ⟨hl,hr,λc _=>hf c,λc _ p hp2=>by rw [<- bS]; exact iQ hp2,λ_ h=>h⟩
theorem NT {a b:List Nm} (h:∀ x,x∈a↔x∈b):gW a=gW b:=by
 cases a with
 | nil =>
  cases b with
  | nil=>rfl
  | cons y t=>exact absurd ((h y).2 (by simp)) (by simp)
 | cons x t =>
  have hb:b≠[]:=List.ne_nil_of_mem ((h x).1 (by simp))
  exact wo ((h _).2 (nE hb)) λy hy=>yF ((h y).1 hy)
theorem IG (hp:l.Perm m) (hl:Right (aO l)):order (aO m)=order (aO l):=by
 have hA:=ul hp hl
 have hn:∀ x,x∈nms (aO m)↔x∈nms (aO l):=λx=>((hp.map FC.cls).map _).mem_iff.symm
 have key : ∀ k, fU (aO m) k = fU (aO l) k := by
  intro k
  induction k with
  | zero=>rfl
  | succ k ih =>
   unfold fU
   rw [ih]
   congr 2
   refine NT λx=>?_
   rw [List.mem_filter,List.mem_filter,hn,mr,mr]
   constructor
   ·rintro ⟨h1,h2,h3⟩
    have hx:(bE l x).isSome=true:=by rw [<- bS]; exact ek.2 h1
    exact ⟨h1,h2,by rw [<- hA.par hx]; exact h3⟩
   ·rintro ⟨h1,h2,h3⟩
    have hx:(bE l x).isSome=true:=by rw [<- bS]; exact ek.2 h1
    exact ⟨h1,h2,by rw [hA.par hx]; exact h3⟩
 unfold order
 rw [eO,eO,hp.length_eq,key]
theorem Gj (hA:Agree l m D) {c:FC} (h:∀ p∈c.pars,D p.name):jF m c=jF l c:=by
 unfold jF
 have:(c.pars.any λp=>decide (p.args.length≠(ae m p.name).forms.length))=c.pars.any λp=>decide (p.args.length≠(ae l p.name).forms.length):=by
  rw [Bool.eq_iff_iff,List.any_eq_true,List.any_eq_true]
  exact ⟨λ⟨p,h1,h2⟩=>⟨p,h1,by rw [<- hA.class (h p h1)]; exact h2⟩,λ⟨p,h1,h2⟩=>⟨p,h1,by rw [hA.class (h p h1)]; exact h2⟩⟩
 rw [this]
theorem Lt (hr:Right (aO l)) {c:FC} (h:c∈l):bE l c.name=some c:=by
 have hu:(l.map λc=>c.name).Nodup:=by
  have:=hr.uniq
  unfold nms aO at this
  rw [List.map_map] at this
  exact this
 clear hr
 unfold bE
 induction l with
 | nil=>cases h
 | cons x t ih =>
  rw [List.map_cons,List.nodup_cons] at hu
  rcases List.mem_cons.1 h with rfl | h
  ·rw [List.find?_cons_of_pos (by simp)]
  ·have hne:x.name≠c.name:=λe=>hu.1 (by rw [e]; exact List.mem_map.2 ⟨c,h,rfl⟩)
   rw [List.find?_cons_of_neg (by simpa using hne)]
   exact ih h hu.2
theorem NU (hr:Right (aO l)) {c:FC} (h:c∈l):∀ p∈c.pars,(bE l p.name).isSome=true:=λp hp=>by
 have h1:=eP hr (c:=c.name) (p:=p) (by rw [gJ (Lt hr h)]; exact hp)
 rw [<- bS]; exact iQ h1
theorem II (hp:l.Perm m) (h:FRight l):FRight m:=by
 have hA:=ul hp h.sys
 refine ⟨hA.right,λc hc=>?_⟩
 have hc':=hp.mem_iff.2 hc
 rw [Gj hA (NU h.sys hc')]
 exact h.form c hc'
theorem Gl : ∀ (o : List Nm) {n : Nm}, n ∈ (scan l o).1 -> n ∈ o
 | [],_,h=>by cases h
 | k :: t, n, h => by
  unfold scan at h
  split at h
  ·cases h
  ·split at h
   ·cases h
   ·rcases List.mem_cons.1 h with rfl | h
    ·simp
    ·exact List.mem_cons_of_mem _<|Gl t h
theorem IJ {o:List Nm} (h:∀ n∈o,rA m n false=rA l n false/\msF m n=msF l n):scan m o=scan l o:=by
 induction o with
 | nil=>rfl
 | cons n t ih =>
  unfold scan
  rw [(h n<|by simp).1,(h n<|by simp).2,ih λk hk=>h k (by simp [hk])]
theorem IK (hp:l.Perm m) (h:FRight l):build m=build l:=by
 have hA:=ul hp h.sys
 have hs:∀ n∈order (aO l),(bE l n).isSome=true:=λn hn=>(fP h.sys).1 hn
 rw [vL hA.right,vL h.sys,IG hp h.sys,IJ λn hn=>⟨hA.conf (hs n hn) false,hA.ms<|hs n hn⟩]
 refine congrArg (λx=>(x,(scan l<|order<|aO l).2)) ?_
 unfold forms
 refine List.map_congr_left λn hn=>?_
 have hn:n∈order (aO l):=Gl _ hn
 rw [hA.FL n (hs n hn)]
theorem IL (hp:l.Perm m) (h:(bP l).1=0):il m=il l/\bY m=bY l:=by
 have hR:=fM.1 h
 have hm:(bP m).1=0:=fM.2<|II hp hR
 have hb:=IK hp hR
 have e1:∀ k:FS,(bP k).1=0->wholeE k []=(build k).2.2:=λk hk=>by unfold wholeE; rw [if_neg (λh2=>h2 hk)]; rfl
 have hw:wholeE m []=wholeE l []:=by rw [e1 m hm,e1 l h,hb]
 exact ⟨by rw [(rF h).1,(rF hm).1,hb],by unfold bY; rw [hw,hb]⟩

/-! ### A class behind the others -/
theorem NV {c:FC} {n:Nm} (hn:n≠c.name):bE (l++[c]) n=bE l n:=by
 unfold bE
 rw [List.find?_append,List.find?_cons_of_neg (by simpa using λh=>hn h.symm)]
 simp
theorem Ae {c:FC} (hl:Right (aO l)) (hm:Right (aO (l++[c]))):Agree l (l++[c]) (λn=>(bE l n).isSome=true)/\(bE l c.name)=none:=by
 have hu:((l++[c]).map λc=>c.name).Nodup:=by
  have:=hm.uniq
  unfold nms aO at this
  rw [List.map_map] at this
  exact this
 have hc:bE l c.name=none:=by
  unfold bE
  rw [List.find?_eq_none]
  intro x hx
  rw [List.map_append] at hu
  have:=(List.nodup_append.1 hu).2.2 x.name (List.mem_map.2 ⟨x,hx,rfl⟩) c.name (by simp)
  simpa using this
 refine ⟨⟨hl,hm,λn hn=>NV λe=>?_,λn _ p hp=>by rw [<- bS]; exact iQ hp,λ_ h=>h⟩,hc⟩
 rw [e,hc] at hn; cases hn
theorem Af {c:FC} (hl:Right (aO l)) (hm:Right (aO (l++[c]))):(order (aO (l++[c]))).filter (λn=>n != c.name)=order (aO l):=by
 obtain ⟨hA,hc⟩:=Ae hl hm
 have hnm:nms (aO (l++[c]))=nms (aO l)++[c.name]:=by simp [nms,aO,FC.cls]
 have hcn:c.name ∉ nms (aO l):=λh=>by
  have:=ek.2 h
  rw [bS,hc] at this; cases this
 have hsome:∀ x,x∈nms (aO l)↔(bE l x).isSome=true:=λx=>by rw [<- ek,bS]
 have key : ∀ k, k ≤ l.length + 1 -> (fU (aO (l ++ [c])) k).filter (λn => n != c.name) = fU (aO l) ((fU (aO (l ++ [c])) k).filter<|λn => n != c.name).length := by
  intro k
  induction k with
  | zero=>intro _; rfl
  | succ k ih =>
   intro hk
   have ih:=ih<|by omega
   have hlen:(l++[c]).length=l.length+1:=by simp
   obtain ⟨ht,hin⟩:=rU hm.acyc hm.uniq k (by rw [eO,hlen]; omega)
   have hne:=BX hm.acyc hm.uniq (k:=k) (by rw [eO,hlen]; omega)
   have hmin:=nE hne
   have hle:∀ y∈(nms<|aO (l++[c])).filter (opn (aO (l++[c]))<|fU (aO (l++[c])) k),lt y (gW<|(nms<|aO (l++[c])).filter<|opn (aO (l++[c]))<|fU (aO (l++[c])) k)=false:=λy hy=>yF hy
   show (fU (aO (l++[c])) k++[gW _]).filter _=_
   generalize hx:gW ((nms<|aO (l++[c])).filter<|opn (aO (l++[c]))<|fU (aO (l++[c])) k)=x at hmin hle
   show _=fU (aO l) ((fU (aO (l++[c])) k++[gW _]).filter _).length
   rw [hx,List.filter_append]
   by_cases hxc:x=c.name
   ·rw [List.filter_cons_of_neg (by simpa using hxc)]
    simp only [List.filter_nil,List.append_nil]
    exact ih
   ·rw [List.filter_cons_of_pos (by simpa using hxc)]
    simp only [List.filter_nil,List.length_append,List.length_cons,List.length_nil,Nat.zero_add]
    show _=fU (aO l) _++[_]
    rw [<- ih]
    congr 2
    obtain ⟨m1,m2⟩:=List.mem_filter.1 hmin
    obtain ⟨m3,m4⟩:=mr.1 m2
    rw [hnm] at m1
    have m1:x∈nms (aO l):=by
     rcases List.mem_append.1 m1 with h | h
     ·exact h
     ·exact absurd (List.mem_singleton.1 h) hxc
    have hpx:=hA.par ((hsome x).1 m1)
    have hpn:∀ y,(bE l y).isSome=true->∀ p∈par (aO l) y,p≠c.name:=λy _ p hp e=>by
     have:=iQ hp
     rw [bS,e,hc] at this; cases this
    refine (wo ?_ λy hy=>?_).symm
    ·refine List.mem_filter.2 ⟨m1,mr.2 ⟨λh=>m3 (List.mem_filter.1 h).1,λp hp=>?_⟩⟩
     exact List.mem_filter.2 ⟨m4 p (by rw [hpx]; exact hp),by simpa using hpn x ((hsome x).1 m1) p hp⟩
    ·obtain ⟨n1,n2⟩:=List.mem_filter.1 hy
     obtain ⟨n3,n4⟩:=mr.1 n2
     refine hle y<|List.mem_filter.2 ⟨by rw [hnm]; simp [n1],mr.2 ⟨λh=>n3 (List.mem_filter.2 ⟨h,?_⟩),λp hp=>?_⟩⟩
     ·have:y≠c.name:=λe=>hcn (e ▸ n1)
      simpa using this
     ·rw [hA.par ((hsome y).1 n1)] at hp
      exact (List.mem_filter.1<|n4 p hp).1
 have hlen:(l++[c]).length=l.length+1:=by simp
 have h1:=key (l.length+1)<|Nat.le_refl _
 have hord:order (aO (l++[c]))=fU (aO (l++[c])) (l.length+1):=by unfold order; rw [eO,hlen]
 rw [<- hord] at h1
 obtain ⟨ht,hmem⟩:=iU hm.acyc hm.uniq
 have hcm:c.name∈order (aO (l++[c])):=(hmem _).2 (by rw [hnm]; simp)
 have h2:((order<|aO (l++[c])).filter λn=>n != c.name).length=l.length:=by
  have e1:=List.length_eq_countP_add_countP (λn=>n != c.name) (l:=order<|aO (l++[c]))
  have e2:(order<|aO (l++[c])).countP (λn=>decide ¬ (n != c.name)=true)=1:=by
   have e3:(order<|aO (l++[c])).count c.name=1:=(ht.nodup.count).trans<|if_pos hcm
   rw [<- e3]
   unfold List.count
   refine List.countP_congr λx _=>?_
   simp
  rw [e2,hord,nJ] at e1
  rw [<- List.countP_eq_length_filter,hord]
  omega
 rw [h2] at h1
 rw [h1]
 unfold order; rw [eO]
theorem IM {c:FC} (h:(bP l).1=0) (hk:(bY (l++[c])).2=0):(bY l).2=0/\(bY l).1=(bY (l++[c])).1.filter λf=>f.name != c.name:=by
 have hR:=fM.1 h
 have hg:=uh.1 hk
 obtain ⟨hA,hc⟩:=Ae hR.sys hg.sys
 have hgl:Good l:=⟨hR,λn hn=>(hA.okF hn).1 (hg.ok n (by rw [hA.find n hn]; exact hn))⟩
 rw [hgl.flats,hg.flats]
 refine ⟨rfl,?_⟩
 show (order<|aO l).map (FL l)=((order<|aO (l++[c])).map<|FL (l++[c])).filter λf=>f.name != c.name
 rw [List.filter_map,<- Af hR.sys hg.sys]
 have h1:(order<|aO (l++[c])).filter ((λf=>f.name != c.name) ∘ FL (l++[c]))=(order<|aO (l++[c])).filter λn=>n != c.name:=by
  refine List.filter_congr λn hn=>?_
  show ((FL (l++[c]) n).name != c.name)=(n != c.name)
  rw [(hg.mems ((fP hg.sys).1 hn)).1]
 rw [h1]
 refine List.map_congr_left λn hn=>?_
 rw [Af hR.sys hg.sys] at hn
 rw [hA.FL n ((fP hR.sys).1 hn)]
end
def rv (c:FC):FC:={ c with pars:=c.pars.reverse }
def tl (l:FS):FS:=l.map rv
structure MR (a b:Mb):Prop where
 name:a.name=b.name
 kind:a.kind=b.kind
 seeds:a.seeds=b.seeds
 args:a.args=b.args
 ty:a.ty=b.ty
 impl:a.kind≠3->a.impl=b.impl
 pre:∀ g,g∈a.pre↔g∈b.pre
 post:∀ g,g∈a.post↔g∈b.post
theorem MR.refl (a:Mb):MR a a:=⟨rfl,rfl,rfl,rfl,rfl,λ_=>rfl,λ_=>Iff.rfl,λ_=>Iff.rfl⟩
inductive ML:List Mb->List Mb->Prop
 | nil:ML [] []
 | cons {a b:Mb} {s t:List Mb}:MR a b->ML s t->ML (a::s) (b::t)
theorem ML.left {xs ys:List Mb} (h:ML xs ys):∀ a∈xs,∃ b∈ys,MR a b:=by
 induction h with
 | nil=>simp
 | cons h1 _ ih =>
  intro a ha
  rcases List.mem_cons.1 ha with rfl | ha
  ·exact ⟨_,by simp,h1⟩
  ·obtain ⟨b,hb,h2⟩:=ih a ha
   exact ⟨b,by simp [hb],h2⟩
theorem ML.right {xs ys:List Mb} (h:ML xs ys):∀ b∈ys,∃ a∈xs,MR a b:=by
 induction h with
 | nil=>simp
 | cons h1 _ ih =>
  intro a ha
  rcases List.mem_cons.1 ha with rfl | ha
  ·exact ⟨_,by simp,h1⟩
  ·obtain ⟨b,hb,h2⟩:=ih a ha
   exact ⟨b,by simp [hb],h2⟩
theorem ML.len {xs ys:List Mb} (h:ML xs ys):xs.length=ys.length:=by
 induction h with
 | nil=>rfl
 | cons _ _ ih=>simp [ih]
theorem ML.at {xs ys:List Mb} (h:ML xs ys):∀ (i:Nat) (a b:Mb),xs[i]? = some a->ys[i]? = some b->MR a b:=by
 induction h with
 | nil=>intro i a b h; simp at h
 | cons h1 _ ih =>
  intro i a b ha hb
  cases i with
  | zero=>simp at ha hb; subst ha hb; exact h1
  | succ i=>exact ih i a b (by simpa using ha) (by simpa using hb)
theorem ML.filter {xs ys:List Mb} {f g:Mb->Bool} (h:ML xs ys) (hf:∀ a b,MR a b->f a=g b):ML (xs.filter f) (ys.filter g):=by
 induction h with
 | nil=>exact .nil
 | @cons a b s t h1 _ ih =>
  rw [List.filter_cons,List.filter_cons,hf a b h1]
  split
  ·exact .cons h1 ih
  ·exact ih
theorem ML.map {α : Type} {xs ys:List Mb} {f g:Mb -> α} (h:ML xs ys) (hf:∀ a b,MR a b->f a=g b):xs.map f=ys.map g:=by
 induction h with
 | nil=>rfl
 | @cons a b s t h1 _ ih=>rw [List.map_cons,List.map_cons,ih,hf a b h1]
theorem ML.any {xs ys:List Mb} {f g:Mb->Bool} (h:ML xs ys) (hf:∀ a b,MR a b->f a=g b):xs.any f=ys.any g:=by
 induction h with
 | nil=>rfl
 | @cons a b s t h1 _ ih=>rw [List.any_cons,List.any_cons,ih,hf a b h1]
theorem ML.named {xs ys:List Mb} (h:ML xs ys) (s:Sd):bn xs s=bn ys s:=(h.filter λa b hab=>by rw [hab.seeds]).map λa b hab=>hab.name
theorem ML.find {xs ys:List Mb} (h:ML xs ys) (n:Nm):(dZ xs n=none/\dZ ys n=none)∨∃ a b,dZ xs n=some a/\dZ ys n=some b/\MR a b:=by
 induction h with
 | nil=>exact .inl ⟨rfl,rfl⟩
 | @cons a b s t h1 _ ih =>
  unfold dZ at ih ⊢
  rw [List.find?_cons,List.find?_cons,<- h1.name]
  cases hq:a.name == n with
  | true=>exact .inr ⟨a,b,rfl,rfl,h1⟩
  | false=>exact ih
theorem ML.of : ∀ {xs ys : List Mb}, sH xs -> sH ys -> (∀ a ∈ xs, ∃ b ∈ ys, MR a b) -> (∀ b ∈ ys, ∃ a ∈ xs, MR a b) -> ML xs ys
 | [],[],_,_,_,_=>.nil
 | [],y::t,_,_,_,h=>by obtain ⟨a,ha,_⟩:=h y (by simp); cases ha
 | x::s,[],_,_,h,_=>by obtain ⟨a,ha,_⟩:=h x (by simp); cases ha
 | x :: s, y :: t, h1, h2, h3, h4 => by
  obtain ⟨a1,a2⟩:=List.pairwise_cons.1 h1
  obtain ⟨b1,b2⟩:=List.pairwise_cons.1 h2
  have hn:x.name=y.name:=by
   obtain ⟨b,hb,hxb⟩:=h3 x<|by simp
   obtain ⟨a,ha,hay⟩:=h4 y<|by simp
   rcases List.mem_cons.1 hb with rfl | hb
   ·exact hxb.name
   rcases List.mem_cons.1 ha with rfl | ha
   ·exact hay.name
   ·have e1:=b1 b hb
    have e2:=a1 a ha
    rw [<- hxb.name] at e1
    rw [hay.name] at e2
    rw [iM e1] at e2; cases e2
  have hxy:MR x y:=by
   obtain ⟨b,hb,hxb⟩:=h3 x<|by simp
   rcases List.mem_cons.1 hb with rfl | hb
   ·exact hxb
   ·have e1:=b1 b hb
    rw [<- hxb.name,hn,lt_irrefl] at e1; cases e1
  refine .cons hxy (ML.of a2 b2 (λa ha=>?_) λb hb=>?_)
  ·obtain ⟨b,hb,hab⟩:=h3 a<|by simp [ha]
   rcases List.mem_cons.1 hb with rfl | hb
   ·have e1:=a1 a ha
    rw [hab.name,hn,lt_irrefl] at e1; cases e1
   ·exact ⟨b,hb,hab⟩
  ·obtain ⟨a,ha,hab⟩:=h4 b<|by simp [hb]
   rcases List.mem_cons.1 ha with rfl | ha
   ·have e1:=b1 b hb
    rw [<- hab.name,hn,lt_irrefl] at e1; cases e1
   ·exact ⟨a,ha,hab⟩
section
variable {l:FS}
/-! ### What comes -/
structure CR (k:Nat) (x y:Cm):Prop where
 og:x.og=y.og
 par:x.par+y.par+1=k
 mem:MR x.mem y.mem
 was:x.was=y.was
theorem CR.dfd {k:Nat} {x y:Cm} (h:CR k x y):x.dfd=y.dfd:=by unfold Cm.dfd; rw [h.mem.kind]
def PR (l:FS) (fl fl':Nm->Fl) (c:FC):Prop:=∀ p∈c.pars,ML (fl p.name).mems (fl' p.name).mems
section
variable {fl fl':Nm->Fl} {c:FC}
end
end
section
variable {l:FS}
theorem Good.kinds (h:Good l):∀ c,(bE l c).isSome=true->∀ m∈msF l c,m.kind≠3->∃ f,feat (ae l m.impl.cls) m.impl.name=some f/\f.kind=m.kind:=by
 refine oL h.sys.acyc λc ih hc m hm=>?_
 have hj : ∀ x ∈ comes (FL l) l (ae l c), x.mem.kind ≠ 3 -> ∃ f, feat (ae l x.mem.impl.cls) x.mem.impl.name = some f /\ f.kind = x.mem.kind := λx hx hk => by
  obtain ⟨p,hp,m1,hm1,he⟩:=jq hx
  have hpm:=eP h.sys<|List.mem_of_getElem? hp
  rw [jE h.sys] at hm1
  have hk1:x.mem.kind=m1.kind:=by
   rw [he] at hk ⊢
   show (if _ then _ else _)=_
   split
   ·rename_i hq
    exfalso; apply hk
    show (if _ then _ else _)=_
    rw [if_pos hq]
   ·rfl
  obtain ⟨f,h1,h2⟩:=ih _ hpm (by rw [<- bS]; exact iQ hpm) m1 hm1 (by rw [<- hk1]; exact hk)
  have hi:x.mem.impl=m1.impl:=by rw [he]; rfl
  exact ⟨f,by rw [hi]; exact h1,by rw [hk1]; exact h2⟩
 rcases ((h.mems hc).2.2.2 m).1 hm with ⟨n,⟨x,hx,hn⟩,_,rfl⟩ | ⟨f,hf,rfl⟩
 ·intro hk
  obtain ⟨y,hy,_,j2,j3,_⟩:=mO _<|List.ne_nil_of_mem<|gq.2 ⟨hx,hn⟩
  rw [j2] at hk
  rw [j3,j2]
  exact hj y (gq.1 hy).1 hk
 ·intro _
  have h1:(jN (ae l c) f<|under (comes (FL l) l<|ae l c) f.name).impl=⟨(ae l c).name,f.name⟩/\(jN (ae l c) f<|under (comes (FL l) l<|ae l c) f.name).kind=f.kind:=by
   unfold jN; simp only []; split <;> exact ⟨rfl,rfl⟩
  rw [h1.1,h1.2]
  obtain ⟨g1,g2,_⟩:=h.class hc
  exact ⟨f,by rw [g2]; exact Gi g1.names hf,rfl⟩
structure Still (s:Sk):Prop where
 l1:∀ (i:Nat) (p:Pt),s.c.pars[i]? = some p->∀ r∈p.ren,(dZ (s.fl p.name).mems r.fro).isSome=true
 l1':∀ (i:Nat) (p:Pt),s.c.pars[i]? = some p->∀ n∈p.und++p.red++p.sel,s.fro i n≠[]
 l2:∀ p∈s.c.pars,∀ n∈p.und,n ∉ p.red
 l3:∀ (i:Nat) (p:Pt),s.c.pars[i]? = some p->∀ m∈(s.fl p.name).mems,(s.fro i<|bN p m.name).length≤1
 l4:∀ (i:Nat) (p:Pt),s.c.pars[i]? = some p->∀ n∈p.und,∀ x∈s.fro i n,x.was=2
 l5:∀ p∈s.c.pars,∀ n∈p.red,(feat s.c n).isSome=true
 red:∀ k,k<3->∀ f,∀ x∈s.cs,feat s.c x.mem.name=some f->s.redK f x k=false
 t1:∀ x∈s.cs,∀ y∈s.cs,x.mem.name=y.mem.name->feat s.c x.mem.name=none->Sk.sameTy x.mem y.mem=true
 t1':∀ x∈s.cs,∀ f,feat s.c x.mem.name=some f->f.args=x.mem.args/\(f.ty.kind == 0)=(x.mem.ty.kind == 0)
 t2:∀ x∈s.cs,∀ y∈s.cs,x.mem.name=y.mem.name->feat s.c x.mem.name=none->x.dfd=false->y.dfd=false->Sk.same x.mem y.mem=true
 c1:∀ d∈s.seeds,(s.sel d).2=true
 c2:∀ (i:Nat) (p:Pt),s.c.pars[i]? = some p->∀ n∈p.sel,s.fro i n=[]∨(((dZ s.ms n).getD mb0).seeds.any λd=>decide (1<(bn s.ms d).length))=true
 c3:s.c.dfd=false->∀ m∈s.ms,m.kind≠3
 ap:∀ d∈s.seeds,∀ (i k:Nat) (a b:Mb),i<k->(s.ms.filter λm=>m.seeds.contains d)[i]? = some a->(s.ms.filter λm=>m.seeds.contains d)[k]? = some b->Sk.sameTy a b=true
end
section
variable {l:FS}
theorem Em {a b:List Nm} (h:∀ x,x∈a↔x∈b) (ha:a.Nodup) (hb:b.Nodup):a.length=b.length :=
 Nat.le_antisymm (aW ha λx hx=>(h x).1 hx) (aW hb λx hx=>(h x).2 hx)
theorem NW (xs:List Nm):(dd [] xs).Nodup:=by
 have : ∀ (xs o : List Nm), o.Nodup -> (dd o xs).Nodup := by
  intro xs
  induction xs with
  | nil=>exact λ_ h=>h
  | cons x t ih =>
   intro o h
   refine ih (Hr.step o x) ?_
   by_cases hx:x∈o
   ·rw [lG hx]; exact h
   ·rw [nI hx]
    refine List.nodup_append.2 ⟨h,by simp,λa ha b hb=>?_⟩
    simp only [List.mem_singleton] at hb
    subst hb
    exact λe=>hx (e ▸ ha)
 exact this xs [] List.nodup_nil
theorem Ag {c:FC} {xs:List Cm} {n:Nm}:n∈picked c xs↔∃ x∈xs,(dG c x.par).sel.contains x.mem.name=true/\x.mem.name=n:=by
 unfold picked
 rw [zf,List.mem_map]
 constructor
 ·rintro (h | ⟨x,h,rfl⟩)
  ·cases h
  ·exact ⟨x,(List.mem_filter.1 h).1,(List.mem_filter.1 h).2,rfl⟩
 ·rintro ⟨x,h1,h2,rfl⟩
  exact .inr ⟨x,List.mem_filter.2 ⟨h1,h2⟩,rfl⟩
end
def resN : Nm := "Result".toUTF8.data.toList
def rn (s:Nm):Nm:=if s=resN∨s=[] then s else 113::s
def Nrm (s:Nm):Prop:=s≠resN/\s≠[]
mutual
def rEx:Ex->Ex
 | .mk k n i l=>.mk k (if k=6∨k=10 then rn n else n) i (rExs l)
def rExs:List Ex->List Ex
 | []=>[]
 | a::t=>rEx a::rExs t
end
def rCla (c:Cla):Cla:=⟨c.tag,rEx c.ex⟩
def rGrp (g:Grp):Grp:=⟨g.cls,g.cs.map rCla⟩
def rVr (v:Vr):Vr:=⟨rn v.name,v.ty⟩
def rSd (s:Sd):Sd:=⟨s.cls,rn s.name⟩
def rMb (m:Mb):Mb:={ m with name:=rn m.name,args:=m.args.map rVr,impl:=rSd m.impl,seeds:=m.seeds.map rSd,pre:=m.pre.map rGrp,post:=m.post.map rGrp }
def rFl (f:Fl):Fl:={ f with mems:=f.mems.map rMb,inv:=f.inv.map rGrp }
def rFe (f:Fe):Fe:={ f with name:=rn f.name,args:=f.args.map rVr,req:=f.req.map rCla,ens:=f.ens.map rCla }
def rPn (x:Pn):Pn:=⟨rn x.fro,rn x.to⟩
def rPt (p:Pt):Pt:={ p with ren:=p.ren.map rPn,und:=p.und.map rn,red:=p.red.map rn,sel:=p.sel.map rn }
def rFC (c:FC):FC:={ c with pars:=c.pars.map rPt,feats:=c.feats.map rFe,inv:=c.inv.map rCla }
def rl (l:FS):FS:=l.map rFC
def rCm (x:Cm):Cm:={ x with og:=⟨x.og.par,rn x.og.name⟩,mem:=rMb x.mem }
structure NrmF (l:FS):Prop where
 feat:∀ c∈l,∀ f∈c.feats,Nrm f.name/\f.name.length<20
 ren:∀ c∈l,∀ p∈c.pars,∀ x∈p.ren,Nrm x.fro/\Nrm x.to/\x.fro.length<20/\x.to.length<20
section
variable {l:FS}
def NrmS (xs:List Sd):Prop:=∀ s∈xs,Nrm s.name
end
section
variable {l:FS}
def Gm (fl:Nm->Fl) (l:FS) (c:FC) (ms:List Mb) (s:Sd) (up:Pt->Nm×Bool):Nm×Bool :=
 if (bn ms s).length=1 then ((bn ms s).headD [],true)
 else if picked c (having (comes fl l c) s)≠[]∨(cu<|having (comes fl l c) s).length≠1 then (ko (picked c<|having (comes fl l c) s),(picked c<|having (comes fl l c) s).length == 1)
 else up (dG c<|(cu<|having (comes fl l c) s).headD 0)
theorem Lu {fl:Nm->Fl} {c:FC} {ms:List Mb} {s:Sd}:eZ fl l 0 c ms s=Gm fl l c ms s λ_=>([],false):=by
 unfold eZ Gm
 match bn ms s with
 | [a]=>rfl
 | []=>
  have h01:¬ ((0:Nat)=1):=by decide
  simp only [List.length_nil,h01,if_false]
  split
  ·rfl
  ·split
   ·rename_i e; cases e
   ·rfl
 | a::b::t =>
  have h01:¬ (t.length+1+1=1):=by omega
  simp only [List.length_cons,h01,if_false]
  split
  ·rfl
  ·split
   ·rename_i e; cases e
   ·rfl
theorem CX {fl : Nm -> Fl} {c : FC} {ms : List Mb} {s : Sd} {n : Nat} : eZ fl l (n + 1) c ms s = Gm fl l c ms s λp =>
  if 1<(bn (fl p.name).mems s).length then (bN p (eZ fl l n (ae l p.name) (fl p.name).mems s).1,(eZ fl l n (ae l p.name) (fl p.name).mems s).2) else ([],false):=by
 have key:∀ (xs:List Nat) (f:Nat->Nm×Bool),xs.length=1->(match xs,n+1 with
   | i::_,k+1=>(λ(i k:Nat)=>f i) i k
   | _,_=>([],false))=f (xs.headD 0):=λxs f h=>by
  match xs,h with
  | [i],_=>rfl
 unfold Gm
 rw [eZ]
 split
 ·rename_i a e; rw [e]; rfl
 ·rename_i hne
  have hl:(bn ms s).length≠1:=λh=>by
   match hq:bn ms s,h with
   | [a],_=>exact hne a hq
  rw [if_neg hl]
  simp only []
  by_cases hq:picked c (having (comes fl l c) s)≠[]∨(cu<|having (comes fl l c) s).length≠1
  ·rw [if_pos hq,if_pos hq]
  ·rw [if_neg hq,if_neg hq]
   have h1:(cu<|having (comes fl l c) s).length=1:=Classical.not_not.1 (not_or.1 hq).2
   match hf:cu (having (comes fl l c) s),h1 with
   | [i],_=>rfl
end
end Go.Fl
namespace Go.Ck
open Go Go.RowKit

def Ext (X Y:Res):Prop:=∃ T:Res,∀ f t,bu f (Y::t)↔bu f (T::X::t)
section
variable {X Y Zq:Res}
theorem Ext.refl (X:Res):Ext X X:=⟨Res.star [],λ_ t=>(dE (h:=[]) (k:=X::t)).symm⟩
theorem Ext.trans (h:Ext X Y) (k:Ext Y Zq):Ext X Zq:=by
 obtain ⟨T,hT⟩:=h
 obtain ⟨U,hU⟩:=k
 refine ⟨Res.star [U,T],λf t=>?_⟩
 rw [hU,dE]
 have h1:bu f (U::Y::t)↔bu f (Y::U::t):=bu.perm<|.swap _ _ _
 rw [h1,hT]
 exact bu.perm (by
  show (T::X::U::t).Perm (U::T::X::t)
  exact (List.perm_middle (l₁ := [T,X])))
theorem Ext.vw (h:Ext X Y):∃ T,∀ t,Vw (Y::t) (T::X::t):=by
 obtain ⟨T,hT⟩:=h
 exact ⟨T,λt w hh=>(hT _ _).1 hh⟩
theorem Ext.rd (h:Ext X Y) (p:Addr) (u:Value) (hr:Rd X p u):Rd Y p u:=λw hw=>by
 obtain ⟨T,hT⟩:=h
 have h1:=(hT (hp w) []).1 ⟨hw,λb _ hb=>hb,trivial⟩
 exact hr w h1.2.2.1
theorem Ext.packs (X:Res) (L:SH):Ext X (Res.star (L++[X])):=⟨Res.star L,λf t=>by
 rw [dE,dE]
 exact bu.perm (by rw [List.append_assoc]; exact .refl _)⟩
theorem gz {X:Res} {L L':SH} {r:Res} (s:Sel L r L') (p:Addr) (u:Value) (h:Rd r p u):Rd (Res.star (L++[X])) p u:=by
 have:Sel (L++[X]) r (L'++[X]):=by
  clear h
  induction s with
  | here=>exact .here
  | there _ ih=>exact .there ih
 exact rV this h
end
def CtX (P:Program) (k:FuncId) (args:Array Value) (X:Res) (hf:SH) (R:Value->Res->SH->Prop):Prop:=Ct P k args (X::hf) λu h'=>∃ Y k',h'=Y::k'/\Ext X Y/\R u Y k'
theorem CtX.mono {P:Program} {k:FuncId} {args:Array Value} {X:Res} {hf:SH} {R R':Value->Res->SH->Prop} (h:CtX P k args X hf R) (hr:∀ u Y k',Ext X Y->R u Y k'->R' u Y k'):CtX P k args X hf R':=Ct.mono h λ_ _ ⟨Y,k',h1,h2,h3⟩=>⟨Y,k',h1,h2,hr _ _ _ h2 h3⟩
section
variable {c:Cx} {ops:Array Oper} {K:Act->World->Prop} {rest:List Oper} {e:Env} {h h' hr:SH} {Q:Exit->Act->World->Prop} {x:Code} {ex:Exit} {X:Res} {L:SH}
theorem um (p:Pk h (L++[X]) hr):Vw h (Res.star (L++[X])::hr):=λ_ hh=>dn.2<|hh.pk p
theorem kI (L:SH) (X:Res) (hn:∀ Y,Ext X Y->(∀ r L',Sel L r L'->∀ p u,Rd r p u->Rd Y p u)->St c ops K rest e (Y::hr)) (p:Pk h (L++[X]) hr:=by repeat (first | exact Pk.nil | (apply Pk.cons; (repeat (first | exact Sel.here | apply Sel.there))))):St c ops K rest e h :=
 ql (um p) (hn _ (Ext.packs X L) λ_ _ s p u h=>gz s p u h)
theorem iy (L:SH) (X:Res) (hn:∀ Y,Ext X Y->(∀ r L',Sel L r L'->∀ p u,Rd r p u->Rd Y p u)->Xt c ex Q e (Y::hr)) (p:Pk h (L++[X]) hr:=by repeat (first | exact Pk.nil | (apply Pk.cons; (repeat (first | exact Sel.here | apply Sel.there))))):Xt c ex Q e h :=
 jC (um p) (hn _ (Ext.packs X L) λ_ _ s p u h=>gz s p u h)
theorem IP (L:SH) (X:Res) (hn:∀ Y,Ext X Y->(∀ r L',Sel L r L'->∀ p u,Rd r p u->Rd Y p u)->Cd c x Q e (Y::hr)) (p:Pk h (L++[X]) hr:=by repeat (first | exact Pk.nil | (apply Pk.cons; (repeat (first | exact Sel.here | apply Sel.there))))):Cd c x Q e h :=
 dJ (um p) (hn _ (Ext.packs X L) λ_ _ s p u h=>gz s p u h)
end

/-! ## What has a plain reading -/
class Enc (α : Type) where
 sz:Nat
 by':Nat
 rep:Res->List Value -> α -> Prop
 len:∀ {X:Res} {us:List Value} {a : α},rep X us a->us.length=sz
 ones:∀ {X:Res} {us:List Value} {a : α},rep X us a->us.all Value.oneCell'=true
 up:∀ {X Y:Res} {us:List Value} {a : α},(∀ p u,Rd X p u->Rd Y p u)->rep X us a->rep Y us a
def Ls {α : Type} [Enc α] (X:Res) (v:Value) (xs:List α):Prop:=Row X (Enc.sz α) (Enc.rep X) v xs/\xs.length * Enc.by' α ≤ reachBytes
section
variable {α : Type} [Enc α] {X Y R:Res} {v:Value} {xs ys:List α} {us:List Value} {a : α}
theorem Ls.up' (hr:∀ p u,Rd X p u->Rd Y p u) (h:Ls X v xs):Ls Y v xs:=⟨Row.mono h.1 hr λ_ _ _ g=>Enc.up hr g,h.2⟩
theorem Ls.up (h:Ls X v xs) (he:Ext X Y):Ls Y v xs:=h.up' he.rd
theorem Ls.nil:Ls X (.slice none 0 0) ([]:List α):=⟨Row.nil,by simp⟩
theorem Ls.one (h:Ls X v xs):v.oneCell'=true:=Row.one h.1
theorem Ls.form (h:Ls X v xs):∃ a cap,v = .slice a xs.length cap/\xs.length≤cap/\cap≤maxLen/\(a=none->cap=0):=by
 obtain ⟨⟨a,cap,h1,h2,h3,h4,_⟩,_⟩:=h
 exact ⟨a,cap,h1,h2,h3,h4⟩
theorem Ls.at (h:Ls X v xs) {i:Nat} (hi:xs[i]? = some a):∃ b o cap us,v = .slice (some ⟨b,o,none⟩) xs.length cap/\us.length=Enc.sz α /\ Rds X b (o+i * Enc.sz α) us/\Enc.rep X us a:=Row.at h.1 hi
theorem Ls.sizes (h:Ls X v xs):xs.length * Enc.by' α ≤ reachBytes:=h.2
def Rws (X:Res) (rows:List (List Value)) (xs:List α):Prop:=rows.length=xs.length/\∀ (j:Nat) us x,rows[j]? = some us->xs[j]? = some x->Enc.rep X us x
theorem Rws.nil:Rws X [] ([]:List α):=⟨rfl,λj us x h=>by simp at h⟩
theorem Rws.up {rows:List (List Value)} (h:Rws X rows xs) (he:Ext X Y):Rws Y rows xs:=⟨h.1,λj us x h1 h2=>Enc.up he.rd<|h.2 j us x h1 h2⟩
theorem Rws.snoc {rows:List (List Value)} (h:Rws X rows xs) (ha:Enc.rep X us a):Rws X (rows++[us]) (xs++[a]):=by
 refine ⟨by simp [h.1],λj vs x h1 h2=>?_⟩
 by_cases hj:j<rows.length
 ·rw [List.getElem?_append_left hj] at h1
  rw [List.getElem?_append_left (by rw [<- h.1]; exact hj)] at h2
  exact h.2 j vs x h1 h2
 ·have h3:=(List.getElem?_eq_some_iff.1 h1).1
  have h4:j=rows.length:=by simp at h3; omega
  subst h4
  rw [List.getElem?_append_right (Nat.le_refl _),Nat.sub_self] at h1
  rw [h.1,List.getElem?_append_right (Nat.le_refl _),Nat.sub_self] at h2
  simp only [List.getElem?_cons_zero,Option.some.injEq] at h1 h2
  subst h1 h2; exact ha
theorem Rws.app {rows rows':List (List Value)} (h:Rws X rows xs) (h':Rws X rows' ys):Rws X (rows++rows') (xs++ys):=by
 refine ⟨by simp [h.1,h'.1],λj vs x h1 h2=>?_⟩
 by_cases hj:j<rows.length
 ·rw [List.getElem?_append_left hj] at h1
  rw [List.getElem?_append_left (by rw [<- h.1]; exact hj)] at h2
  exact h.2 j vs x h1 h2
 ·rw [List.getElem?_append_right (by omega)] at h1
  rw [List.getElem?_append_right (by rw [<- h.1]; omega),<- h.1] at h2
  exact h'.2 _ vs x h1 h2
theorem Rws.lens {rows:List (List Value)} (h:Rws X rows xs):∀ r∈rows,r.length=Enc.sz α := λr hr=>by
 obtain ⟨j,hj,rfl⟩:=List.getElem_of_mem hr
 exact Enc.len<|h.2 j _ _ (Zy hj)<|Zy (by rw [<- h.1]; exact hj)
theorem Rws.ones {rows:List (List Value)} (h:Rws X rows xs):∀ u∈rows.flatten,u.oneCell'=true:=λu hu=>by
 obtain ⟨r,hr,hu⟩:=List.mem_flatten.1 hu
 obtain ⟨j,hj,rfl⟩:=List.getElem_of_mem hr
 exact List.all_eq_true.1 (Enc.ones<|h.2 j _ _ (Zy hj)<|Zy (by rw [<- h.1]; exact hj)) u hu
theorem Rws.ls {E:TypeId} {rows:List (List Value)} (h:Rws X rows xs) (hok:∃ f,(VR v E (Enc.sz α) rows).ok f) (hr:∀ p u,Rd (VR v E (Enc.sz α) rows) p u->Rd X p u) (hb:xs.length * Enc.by' α ≤ reachBytes):Ls X v xs :=
 ⟨Nu hok h.1 hr h.2,hb⟩
theorem Ls.rows (h:Ls X v xs):∃ rows,Rws X rows xs/\∀ (j:Nat) us,rows[j]? = some us->∃ b o cap,v = .slice (some ⟨b,o,none⟩) xs.length cap/\Rds X b (o+j * Enc.sz α) us:=by
 have : ∀ n, n ≤ xs.length -> ∃ rows : List (List Value), rows.length = n /\ ∀ (j : Nat) us, rows[j]? = some us -> ∃ x, xs[j]? = some x /\ Enc.rep X us x /\ ∃ b o cap, v = .slice (some ⟨b, o, none⟩) xs.length cap /\ Rds X b (o + j * Enc.sz α) us := by
  intro n
  induction n with
  | zero=>exact λ_=>⟨[],rfl,λj us h=>by simp at h⟩
  | succ n ih =>
   intro hn
   obtain ⟨rows,h1,h2⟩:=ih<|by omega
   obtain ⟨b,o,cap,us,g1,g2,g3,g4⟩:=h.at<|Zy (show n<xs.length by omega)
   refine ⟨rows++[us],by simp [h1],λj vs hj=>?_⟩
   by_cases hjl:j<rows.length
   ·rw [List.getElem?_append_left hjl] at hj; exact h2 j vs hj
   ·have h3:=(List.getElem?_eq_some_iff.1 hj).1
    have h4:j=n:=by simp at h3; omega
    subst h4
    rw [List.getElem?_append_right (by omega),h1,Nat.sub_self] at hj
    simp only [List.getElem?_cons_zero,Option.some.injEq] at hj
    subst hj
    exact ⟨_,Zy _,g4,b,o,cap,g1,g3⟩
 obtain ⟨rows,h1,h2⟩:=this xs.length (Nat.le_refl _)
 refine ⟨rows,⟨h1,λj us x g1 g2=>?_⟩,λj us g=>?_⟩
 ·obtain ⟨y,k1,k2,_⟩:=h2 j us g1
  rw [k1] at g2; cases g2; exact k2
 ·obtain ⟨_,_,_,k⟩:=h2 j us g; exact k
end
end Go.Ck
namespace Go.Fl
open Go Go.RowKit Go.Ck Go.Hr
instance encN:Enc Nm where
 sz:=1
 by':=16
 rep _ us n:=us=[sv n]
 len h:=by subst h; rfl
 ones h:=by subst h; rfl
 up _ h:=h
/-! ### Types -/
def tyC (t:Kt) (x:Value):List Value:=[.int .i64 t.kind,sv t.name,x,.bool t.void,.bool t.sep]
def tyR (S:Res):Nat->List Value->Kt->Prop
 | 0,_,_=>False
 | n+1,us,t=>∃ x,us=tyC t x/\Row S 5 (tyR S n) x t.args/\t.args.length * 56≤reachBytes
section
variable {S T:Res}
theorem tyR.mono (hr:∀ p u,Rd S p u->Rd T p u):∀ {n:Nat} {us:List Value} {t:Kt},tyR S n us t->tyR T n us t
 | 0,_,_,h=>h.elim
 | n+1,us,t,⟨x,h1,h2,h3⟩=>⟨x,h1,h2.mono hr λ_ _ _ h=>tyR.mono hr h,h3⟩
theorem tyR.le:∀ {n m:Nat} {us:List Value} {t:Kt},tyR S n us t->n≤m->tyR S m us t
 | 0,_,_,_,h,_=>h.elim
 | n+1,0,_,_,_,h=>by omega
 | n+1,m+1,us,t,⟨x,h1,h2,h3⟩,h=>⟨x,h1,h2.mono (λ_ _ h=>h) λ_ _ _ g=>tyR.le g (by omega),h3⟩
theorem tyR.depth:∀ {n:Nat} {us:List Value} {t:Kt},tyR S n us t->tyR S t.depth us t
 | 0,_,_,h=>h.elim
 | n+1,us,.mk k nm az v s,⟨x,h1,h2,h3⟩=>⟨x,h1,h2.mono (λ_ _ h=>h) λus' a ha g=>(tyR.depth g).le (pF ha),h3⟩
end
instance encT:Enc Kt where
 sz:=5
 by':=56
 rep S us t:=tyR S t.depth us t
 len {X us t} h:=by
  obtain ⟨k,nm,az,v,s⟩:=t
  obtain ⟨x,rfl,_⟩:=h; rfl
 ones {X us t} h:=by
  obtain ⟨k,nm,az,v,s⟩:=t
  obtain ⟨x,rfl,h2,_⟩:=h
  simp only [tyC,List.all_cons,List.all_nil,h2.one,Bool.and_true,Bool.true_and]; rfl
 up hr h:=tyR.mono hr h
abbrev Ty (S:Res) (us:List Value) (t:Kt):Prop:=Enc.rep S us t
abbrev Tys (S:Res) (v:Value) (ts:List Kt):Prop:=Ls S v ts
section
variable {S T:Res}
theorem gH {us:List Value} {t:Kt} {x:Value} (h1:us=tyC t x) (h2:Tys S x t.args):Ty S us t:=by
 obtain ⟨k,nm,az,v,s⟩:=t
 exact ⟨x,h1,h2.1.mono (λ_ _ h=>h) λus' a ha g=>tyR.le g (pF ha),h2.2⟩
theorem ed {us:List Value} {t:Kt} (h:Ty S us t):∃ x,us=tyC t x/\Tys S x t.args:=by
 obtain ⟨k,nm,az,v,s⟩:=t
 obtain ⟨x,h1,h2,h3⟩:=h
 exact ⟨x,h1,h2.mono (λ_ _ h=>h) λus' a ha g=>tyR.depth g,h3⟩
end
/-! ### Expressions -/
def exC (t:Ex) (x:Value):List Value:=[.int .i64 t.kind,sv t.name,.int .i64 t.num,x]
def exR (S:Res):Nat->List Value->Ex->Prop
 | 0,_,_=>False
 | n+1,us,t=>∃ x,us=exC t x/\Row S 4 (exR S n) x t.kids/\t.kids.length * 56≤reachBytes
section
variable {S T:Res}
theorem exR.mono (hr:∀ p u,Rd S p u->Rd T p u):∀ {n:Nat} {us:List Value} {t:Ex},exR S n us t->exR T n us t
 | 0,_,_,h=>h.elim
 | n+1,us,t,⟨x,h1,h2,h3⟩=>⟨x,h1,h2.mono hr λ_ _ _ h=>exR.mono hr h,h3⟩
theorem exR.le:∀ {n m:Nat} {us:List Value} {t:Ex},exR S n us t->n≤m->exR S m us t
 | 0,_,_,_,h,_=>h.elim
 | n+1,0,_,_,_,h=>by omega
 | n+1,m+1,us,t,⟨x,h1,h2,h3⟩,h=>⟨x,h1,h2.mono (λ_ _ h=>h) λ_ _ _ g=>exR.le g (by omega),h3⟩
theorem exR.depth:∀ {n:Nat} {us:List Value} {t:Ex},exR S n us t->exR S t.depth us t
 | 0,_,_,h=>h.elim
 | n+1,us,.mk k nm i l,⟨x,h1,h2,h3⟩=>⟨x,h1,h2.mono (λ_ _ h=>h) λus' a ha g=>(exR.depth g).le (vG ha),h3⟩
end
instance encE:Enc Ex where
 sz:=4
 by':=56
 rep S us t:=exR S t.depth us t
 len {X us t} h:=by
  obtain ⟨k,nm,i,l⟩:=t
  obtain ⟨x,rfl,_⟩:=h; rfl
 ones {X us t} h:=by
  obtain ⟨k,nm,i,l⟩:=t
  obtain ⟨x,rfl,h2,_⟩:=h
  simp only [exC,List.all_cons,List.all_nil,h2.one,Bool.and_true]; rfl
 up hr h:=exR.mono hr h
section
variable {S T:Res}
theorem CY {us:List Value} {t:Ex} {x:Value} (h1:us=exC t x) (h2:Ls S x t.kids):Enc.rep S us t:=by
 obtain ⟨k,nm,i,l⟩:=t
 exact ⟨x,h1,h2.1.mono (λ_ _ h=>h) λus' a ha g=>exR.le g (vG ha),h2.2⟩
theorem lX {us:List Value} {t:Ex} (h:Enc.rep S us t):∃ x,us=exC t x/\Ls S x t.kids:=by
 obtain ⟨k,nm,i,l⟩:=t
 obtain ⟨x,h1,h2,h3⟩:=h
 exact ⟨x,h1,h2.mono (λ_ _ h=>h) λus' a ha g=>exR.depth g,h3⟩
end
/-! ### The rest -/
instance encCla:Enc Cla where
 sz:=5
 by':=72
 rep S us c:=∃ es,us=sv c.tag::es/\Enc.rep S es c.ex
 len h:=by obtain ⟨es,rfl,h2⟩:=h; rw [List.length_cons,Enc.len h2]; rfl
 ones h:=by obtain ⟨es,rfl,h2⟩:=h; rw [List.all_cons,Enc.ones h2]; rfl
 up hr h:=by obtain ⟨es,h1,h2⟩:=h; exact ⟨es,h1,Enc.up hr h2⟩
instance encGrp:Enc Grp where
 sz:=2
 by':=40
 rep S us g:=∃ x,us=[sv g.cls,x]/\Ls S x g.cs
 len h:=by obtain ⟨x,rfl,_⟩:=h; rfl
 ones h:=by obtain ⟨x,rfl,h2⟩:=h; simp [h2.one]; rfl
 up hr h:=by obtain ⟨x,h1,h2⟩:=h; exact ⟨x,h1,h2.up' hr⟩
instance encVr:Enc Vr where
 sz:=6
 by':=72
 rep S us v:=∃ ts,us=sv v.name::ts/\Ty S ts v.ty
 len h:=by obtain ⟨es,rfl,h2⟩:=h; rw [List.length_cons,Enc.len h2]; rfl
 ones h:=by obtain ⟨es,rfl,h2⟩:=h; rw [List.all_cons,Enc.ones h2]; rfl
 up hr h:=by obtain ⟨es,h1,h2⟩:=h; exact ⟨es,h1,Enc.up hr h2⟩
instance encSd:Enc Sd where
 sz:=2
 by':=32
 rep _ us s:=us=[sv s.cls,sv s.name]
 len h:=by subst h; rfl
 ones h:=by subst h; rfl
 up _ h:=h
instance encOg:Enc Og where
 sz:=2
 by':=32
 rep _ us s:=us=[sv s.par,sv s.name]
 len h:=by subst h; rfl
 ones h:=by subst h; rfl
 up _ h:=h
instance encFm:Enc Fm where
 sz:=2
 by':=32
 rep _ us s:=us=[sv s.name,sv s.bound]
 len h:=by subst h; rfl
 ones h:=by subst h; rfl
 up _ h:=h
instance encPn:Enc Pn where
 sz:=2
 by':=32
 rep _ us s:=us=[sv s.fro,sv s.to]
 len h:=by subst h; rfl
 ones h:=by subst h; rfl
 up _ h:=h
def mbC (m:Mb) (x2 x5:Value) (ts:List Value) (x11 x12 x13:Value):List Value:=sv m.name::.int .i64 m.kind::x2::sv m.impl.cls::sv m.impl.name::x5::(ts++[x11,x12,x13])
def mbR (S:Res) (m:Mb) (x2 x5:Value) (ts:List Value) (x11 x12 x13:Value):Prop:=Ls S x2 m.seeds/\Ls S x5 m.args/\Ty S ts m.ty/\Ls S x11 m.clients/\Ls S x12 m.pre/\Ls S x13 m.post
instance encMb:Enc Mb where
 sz:=14
 by':=232
 rep S us m:=∃ x2 x5 ts x11 x12 x13,us=mbC m x2 x5 ts x11 x12 x13/\mbR S m x2 x5 ts x11 x12 x13
 len h:=by
  obtain ⟨x2,x5,ts,x11,x12,x13,rfl,_,_,h3,_⟩:=h
  simp [mbC,Enc.len h3]; rfl
 ones h:=by
  obtain ⟨x2,x5,ts,x11,x12,x13,rfl,h1,h2,h3,h4,h5,h6⟩:=h
  simp only [mbC,List.all_cons,List.all_append,Enc.ones h3,List.all_nil,h1.one,h2.one,h4.one,h5.one,h6.one,Bool.and_true,Bool.true_and]; rfl
 up hr h:=by
  obtain ⟨x2,x5,ts,x11,x12,x13,h0,h1,h2,h3,h4,h5,h6⟩:=h
  exact ⟨x2,x5,ts,x11,x12,x13,h0,h1.up' hr,h2.up' hr,Enc.up hr h3,h4.up' hr,h5.up' hr,h6.up' hr⟩
instance encFl:Enc Fl where
 sz:=4
 by':=72
 rep S us f:=∃ x y,us=[sv f.name,.bool f.dfd,x,y]/\Ls S x f.mems/\Ls S y f.inv
 len h:=by obtain ⟨x,y,rfl,_⟩:=h; rfl
 ones h:=by obtain ⟨x,y,rfl,h2,h3⟩:=h; simp [h2.one,h3.one]; exact ⟨rfl,rfl⟩
 up hr h:=by obtain ⟨x,y,h1,h2,h3⟩:=h; exact ⟨x,y,h1,h2.up' hr,h3.up' hr⟩
def feC (f:Fe) (x2 x3:Value) (ts:List Value) (x9 x10 x11 x12 x13 x14:Value):List Value:=.int .i64 f.kind::sv f.name::x2::x3::(ts++[x9,x10,x11,x12,x13,x14])
instance encFe:Enc Fe where
 sz:=15
 by':=256
 rep S us f:=∃ x2 x3 ts x9 x10 x11 x12 x13 x14,us=feC f x2 x3 ts x9 x10 x11 x12 x13 x14/\Ls S x2 f.clients/\Ls S x3 f.args/\Ty S ts f.ty/\Ls S x10 f.req/\Ls S x11 f.ens/\[x9,x12,x13,x14].all Value.oneCell'=true
 len h:=by
  obtain ⟨x2,x3,ts,x9,x10,x11,x12,x13,x14,rfl,_,_,h3,_⟩:=h
  simp [feC,Enc.len h3]; rfl
 ones h:=by
  obtain ⟨x2,x3,ts,x9,x10,x11,x12,x13,x14,rfl,h1,h2,h3,h4,h5,h6⟩:=h
  simp only [List.all_cons,List.all_nil,Bool.and_true,Bool.and_eq_true] at h6
  simp only [feC,List.all_cons,List.all_append,Enc.ones h3,List.all_nil,h1.one,h2.one,h4.one,h5.one,h6.1,h6.2.1,h6.2.2.1,h6.2.2.2,Bool.and_true,Bool.true_and]; rfl
 up hr h:=by
  obtain ⟨x2,x3,ts,x9,x10,x11,x12,x13,x14,h0,h1,h2,h3,h4,h5,h6⟩:=h
  exact ⟨x2,x3,ts,x9,x10,x11,x12,x13,x14,h0,h1.up' hr,h2.up' hr,Enc.up hr h3,h4.up' hr,h5.up' hr,h6⟩
instance encPt:Enc Pt where
 sz:=6
 by':=136
 rep S us p:=∃ a b c d e,us=[sv p.name,a,b,c,d,e]/\Tys S a p.args/\Ls S b p.ren/\Ls S c p.und/\Ls S d p.red/\Ls S e p.sel
 len h:=by obtain ⟨a,b,c,d,e,rfl,_⟩:=h; rfl
 ones h:=by obtain ⟨a,b,c,d,e,rfl,h1,h2,h3,h4,h5⟩:=h; simp [h1.one,h2.one,h3.one,h4.one,h5.one]; rfl
 up hr h:=by obtain ⟨a,b,c,d,e,h0,h1,h2,h3,h4,h5⟩:=h; exact ⟨a,b,c,d,e,h0,h1.up' hr,h2.up' hr,h3.up' hr,h4.up' hr,h5.up' hr⟩
instance encFC:Enc FC where
 sz:=7
 by':=144
 rep S us c:=∃ a b e f i,us=[sv c.name,.bool c.dfd,a,b,e,f,i]/\Ls S a c.forms/\Ls S b c.pars/\e.oneCell'=true/\Ls S f c.feats/\Ls S i c.inv
 len h:=by obtain ⟨a,b,e,f,i,rfl,_⟩:=h; rfl
 ones h:=by obtain ⟨a,b,e,f,i,rfl,h1,h2,h3,h4,h5⟩:=h; simp [h1.one,h2.one,h3,h4.one,h5.one]; exact ⟨rfl,rfl⟩
 up hr h:=by obtain ⟨a,b,e,f,i,h0,h1,h2,h3,h4,h5⟩:=h; exact ⟨a,b,e,f,i,h0,h1.up' hr,h2.up' hr,h3,h4.up' hr,h5.up' hr⟩
instance encCm:Enc Cm where
 sz:=18
 by':=280
 rep S us x:=∃ ms,us=sv x.og.par::sv x.og.name::.int .i64 x.par::(ms++[.int .i64 x.was])/\Enc.rep S ms x.mem
 len h:=by obtain ⟨ms,rfl,h1⟩:=h; simp [Enc.len h1]; rfl
 ones h:=by obtain ⟨ms,rfl,h1⟩:=h; simp only [List.all_cons,List.all_append,Enc.ones h1,List.all_nil,Bool.and_true]; rfl
 up hr h:=by obtain ⟨ms,h0,h1⟩:=h; exact ⟨ms,h0,Enc.up hr h1⟩
def cfC (c:Cf):List Value:=[.int .i64 c.kind,sv c.cls,sv c.name,sv c.other,sv c.a.par,sv c.a.name,sv c.b.par,sv c.b.name]
def cfV (c:Cf):Value:=.agg (cfC c).toArray
end Go.Fl
namespace Go.Ck
open Go Go.RowKit
theorem Ah {P:Program} {e:Env} {h:SH} {t E ty:TypeId} {x y:Operand} {z:Value} {sz bytes:Nat} {a:Option Addr} {n cp:Nat} (hx:e.ev? x=some (.slice a n cp)) (hy:e.ev? y=some (.slice none 0 0)) (hT:P.underlying t=some (.slice E)) (hE:Inf P E z sz bytes) (hn:n≤cp):Vop P e h (.call { callee:=.builtin .append,args := #[x,y],argTypes := #[t,t] }) ty (.slice a n cp):=
 ⟨by simp,by simp,λρ w d pos after g hρ _=>by
  obtain ⟨i,hi,hz,hisz,hiby⟩:=hE.parts
  cases a <;> simp [execOp,resolve,invoke,builtin,hρ x _ hx,hρ y _ hy,Builtin.append_,run_underlying hT,sizeOf,typeInfo,hi,Builtin.lenOf,Builtin.firstCells,loadCells,loadCellsFrom,hn,storeCells]⟩
section
variable {α : Type} {S:Res} {sz:Nat} {X:List Value -> α -> Prop}
theorem Row.take {a:Option Addr} {n cp k:Nat} {l:List α} (h:Row S sz X (.slice a n cp) l) (hk:k≤l.length):Row S sz X (.slice a k cp) (l.take k):=by
 obtain ⟨a',cap,he,h2,h3,h4,h5⟩:=h
 cases he
 refine ⟨a,cp,by rw [List.length_take,Nat.min_eq_left hk],by rw [List.length_take]; omega,h3,h4,λi x hi=>?_⟩
 rw [List.getElem?_take] at hi
 split at hi
 ·exact h5 i x hi
 ·cases hi
theorem Row.drop {b o n cp k:Nat} {l:List α} (h:Row S sz X (.slice (some ⟨b,o,none⟩) n cp) l) (hk:k≤l.length):Row S sz X (.slice (some ⟨b,if cp=k then o else o+k * sz,none⟩) (n - k) (cp - k)) (l.drop k):=by
 obtain ⟨a',cap,he,h2,h3,h4,h5⟩:=h
 cases he
 refine ⟨_,_,by rw [List.length_drop],by rw [List.length_drop]; omega,by omega,(λh=>by cases h),λi x hi=>?_⟩
 rw [List.getElem?_drop] at hi
 have hlt:=(List.getElem?_eq_some_iff.1 hi).1
 obtain ⟨b2,o2,us,e,h6,h7,h8⟩:=h5 (k+i) x hi
 cases e
 refine ⟨_,_,us,Z,h6,?_,h8⟩
 rw [if_neg (by omega),Nat.add_assoc,<- Nat.add_mul]; exact h7
variable {c:Cx} {ops:Array Oper} {K:Act->World->Prop} {rest:List Oper} {e:Env} {h h' h'':SH}
theorem pV {l : List α} {v v1 z : Value} {E t ty : TypeId} {bytes d : Nat} {x y : Operand} {pos : String} {after : Array Edge} {rows : List (List Value)} (hv : Row S sz X v l)
  (hx:e.ev? x=some v1) (hy:e.ev? y=some v) (ht:c.P.underlying t=some (.slice E)) (hE:Inf c.P E z sz bytes) (hzs:z.cells.size=sz) (hsz:0<sz)
  (hs:Sel h (VR v1 E sz rows) h') (hS:Sel h' S h'') (h1:∀ us x,x∈l->X us x->∀ u∈us,u.oneCell'=true) (hb:(rows.length+l.length) * bytes≤140737488355328) (h63:rows.length+l.length≤9223372036854775807) (hd:d<c.n)
  (hnx:∀ v' news,v'.oneCell'=true->news.length=l.length->(∀ r∈news,r.length=sz)->(∀ (i:Nat) us x,news[i]? = some us->l[i]? = some x->X us x)->St c ops K rest ((d,v')::e) (VR v' E sz (rows++news)::h')) :
  St c ops K (⟨some d,.call { callee:=.builtin .append,args := #[x,y],argTypes := #[t,t] },ty,pos,after,none⟩::rest) e h:=by
 obtain ⟨a,cap,rfl,hlc,hcm,hnone,hel⟩:=id hv
 have key:St c ops K (⟨some d,.call { callee:=.builtin .append,args := #[x,y],argTypes := #[t,t] },ty,pos,after,none⟩::rest) e (VR v1 E sz rows::h'):=by
  cases a with
  | none =>
   have hc0:cap=0:=hnone rfl
   have hl0:l=[]:=List.eq_nil_of_length_eq_zero<|by omega
   subst hl0 hc0
   refine lM .here λ⟨f,hf⟩=>?_
   have hn:=hnx v1 []
   rw [List.append_nil] at hn
   rcases VR.form hf with ⟨rfl,g1⟩ | ⟨b,o,cp,rfl,g1,g2⟩
   ·exact Ii (Ah hx hy ht hE<|Nat.le_refl _) hd (hn Z Z (by simp) λi us x h=>by simp at h)
   ·exact Ii (Ah hx hy ht hE g1) hd (hn Z Z (by simp) λi us x h=>by simp at h)
  | some a =>
   obtain ⟨news,r1,r2,r3,r4⟩:=hv.cells
   exact Kr news hx hy ht hE hzs hsz .here r2 r1 (λj u hu=>by obtain ⟨b2,o,hb2,hr⟩:=r4 j u hu; cases hb2; rw [Addr.add_lit]; exact ⟨S,_,.there hS,hr⟩) (λu hu=>by obtain ⟨us,h2,h3⟩:=List.mem_flatten.1 hu; obtain ⟨i,hi,rfl⟩:=List.mem_iff_getElem.1 h2; exact h1 _ l[i] (List.getElem_mem _) (r3 i _ _ (Zy hi)<|Zy<|by omega) u h3) hb h63 hd λv' hv' _=>hnx v' news hv' r1 r2 r3
 exact St.perm hs.perm key
end
theorem Ai {P : Program} {e : Env} {h : SH} {ty : TypeId} {T E : TypeId} {x y z : Operand} {a : Option Addr} {n cp hi mx sz : Nat} {i j : Int} {k k' : IntKind} (hx : e.ev? x = some (.slice a n cp)) (hy : e.ev? y = some (.int k i)) (hz : e.ev? z = some (.int k' j)) (hT : SlE P T E sz)
  (hi':i=(hi:Int)) (hj:j=(mx:Int)) (h1:hi≤mx) (h2:mx≤cp):Vop P e h (.slice T x none (some y)<|some z) ty (.slice a hi mx):=
 ⟨by simp,by simp,λρ w d pos after g hρ _=>by
  subst hi' hj
  have hT':P.underlying T=some (.slice<|P.elem T):=by simp [Program.elem,hT.1]
  have he:P.elem T=E:=by simp [Program.elem,hT.1]
  have hr:=run_slice_hm (P:=P) w T a n cp hT' k k' hi mx (by omega) (by omega)<|by omega
  have hs:sliced a 0 hi mx sz = .slice a hi mx:=by
   unfold sliced; by_cases hcl:mx=0 <;> cases a <;> simp [hcl,Addr.add]
  simp only [he,hT.2 w,Result.andThen_ok,Int.toNat_natCast,hs] at hr
  simp only [execOp,hρ x _ hx,Option.map_some,Option.map_none,hρ y _ hy,hρ z _ hz,Sem.run_bind,run_sliceAt_slice w T _ _ _ _ hT',hr,Result.andThen_ok,Sem.run_pure]⟩
end Go.Ck
namespace Go.Fl
open Go Go.RowKit Go.Ck Go.Proofs Go.Proofs.Tryz Go.Proofs.YtknmacdbffgjgaaGreatDoor Fx Go.Hr
attribute [local irreducible] Go.Ck.Sub St Cd Xt Nx DrL LsW
def ixI (o:Option Nat):Int:=match o with | some i=>i | none => -1
section
variable {X:Res} {v:Value}
theorem Lv {xs:List Pn} {kf:FuncId} {cp:Array Value} {g:Pn->Bool} (hv:Ls X v xs) (hE:Ck.Enters prog kf) (hf:∀ a∈xs,∀ us,Enc.rep X us a->Reads prog kf (#[]++([.agg us.toArray]:List Value).toArray++cp) [X] (.bool (g a))):Reads prog 153 #[v,.func (.func kf) #[] cp] [X] (.int .i64 (ixI (xs.findIdx? g))):=by
 have hml:maxLen=9223372036854775807:=rfl
 obtain ⟨a,cap,rfl,hlc,hcm,_⟩:=id hv.form
 refine aL (n:=19) func153 Z Z (len Z) λhr w0=>?_
 refine cQ<|sA Z<|sN<|nT<|cS<|cQ<|sM Z<|sV (aF Z underlying86)<|sM Z<|sK [0,1,4,7,8] Z<|cB<|aZ (σ := Nat) (λi=>[(0,.slice a xs.length cap),(1,.func (.func kf) #[] cp),(7,.int .i64 xs.length),(8,.int .i64 (i:Nat))]) (λ_=>X::hr) (λi=>i≤xs.length/\∀ j (hj:j<xs.length),j<i->g xs[j]=false) (λi=>xs.length - i) 0 ⟨Nat.zero_le _,λj _ hj=>absurd hj<|Nat.not_lt_zero _⟩ ?_
 rintro i ⟨hi,hal⟩
 refine cQ<|sV (aN Z Z)<|sN<|nT<|cS<|cC Z (λhd=>?_)<|λhd=>?_
 ·have hlt:i<xs.length:=Zx
  obtain ⟨b,o,cap2,us,e1,hus,hrd,hre⟩:=hv.at<|Zy hlt
  cases e1
  have hfx:=hf xs[i] (List.getElem_mem hlt) us hre
  refine cK<|xT<|cS<|cB<|cQ<|sM Z<|sA Z<|sK [0,1,5,7,8] Z<|cQ<|sM Z<|sM Z<|sM Z ?_
  refine sV (vI (k:=i) Z Z sl86 Z hlt Z)<|sV (af Z qU hus hrd) ?_
  refine aY Z Z hE Z (hfx) ?_
  refine sK [0,1,5,7,8,16] Z<|cC Z (λhe=>?_)<|λhe=>?_
  ·have he:g xs[i]=true:=he
   rw [show xs.findIdx? g=some i by
    rw [List.findIdx?_eq_some_iff_getElem]
    exact ⟨hlt,he,λj hj=>by rw [hal j (by omega) hj]; decide⟩]
   refine cQ<|sM Z<|sA Z<|sK [4] Z<|cT<|xW<|xR<|xR<|xW<|xR ?_
   exact aj Z ⟨Z,Z⟩ sbq
  ·have he:g xs[i]=false:=he
   refine cK<|xB<|xT<|cR<|sV (aI Z Z Z6)<|sM Z<|sN<|nK [0,1,7,8] Z<|au<|aM (i+1) ⟨hlt,λj hj hj2=>?_⟩<|Nat.sub_lt_sub_left hlt<|Nat.lt_succ_self i
   by_cases hji:j=i
   ·subst hji; exact he
   ·exact hal j hj<|by omega
 ·have hil:i=xs.length:=by
   have:¬ i<xs.length:=Zx
   omega
  rw [show xs.findIdx? g=none by
   rw [List.findIdx?_eq_none_iff]
   intro f hfm
   obtain ⟨j,hj,rfl⟩:=List.getElem_of_mem hfm
   exact hal j hj (by omega)]
  refine aB<|xE<|xE<|xY<|xT<|cQ<|sA Z<|sK [4] Z<|cT ?_
  exact aj Z ⟨Z,Z⟩ sbq
theorem Lx {xs:List FC} {kf:FuncId} {cp:Array Value} {g:FC->Bool} (hv:Ls X v xs) (hE:Ck.Enters prog kf) (hf:∀ a∈xs,∀ us,Enc.rep X us a->Reads prog kf (#[]++([.agg us.toArray]:List Value).toArray++cp) [X] (.bool (g a))):Reads prog 150 #[v,.func (.func kf) #[] cp] [X] (.int .i64 (ixI (xs.findIdx? g))):=by
 have hml:maxLen=9223372036854775807:=rfl
 obtain ⟨a,cap,rfl,hlc,hcm,_⟩:=id hv.form
 refine aL (n:=19) func150 Z Z (len Z) λhr w0=>?_
 refine cQ<|sA Z<|sN<|nT<|cS<|cQ<|sM Z<|sV (aF Z underlying22)<|sM Z<|sK [0,1,4,7,8] Z<|cB<|aZ (σ := Nat) (λi=>[(0,.slice a xs.length cap),(1,.func (.func kf) #[] cp),(7,.int .i64 xs.length),(8,.int .i64 (i:Nat))]) (λ_=>X::hr) (λi=>i≤xs.length/\∀ j (hj:j<xs.length),j<i->g xs[j]=false) (λi=>xs.length - i) 0 ⟨Nat.zero_le _,λj _ hj=>absurd hj<|Nat.not_lt_zero _⟩ ?_
 rintro i ⟨hi,hal⟩
 refine cQ<|sV (aN Z Z)<|sN<|nT<|cS<|cC Z (λhd=>?_)<|λhd=>?_
 ·have hlt:i<xs.length:=Zx
  obtain ⟨b,o,cap2,us,e1,hus,hrd,hre⟩:=hv.at<|Zy hlt
  cases e1
  have hfx:=hf xs[i] (List.getElem_mem hlt) us hre
  refine cK<|xT<|cS<|cB<|cQ<|sM Z<|sA Z<|sK [0,1,5,7,8] Z<|cQ<|sM Z<|sM Z<|sM Z ?_
  refine sV (vI (k:=i) Z Z qy Z hlt Z)<|sV (af Z gp hus hrd) ?_
  refine aY Z Z hE Z (hfx) ?_
  refine sK [0,1,5,7,8,16] Z<|cC Z (λhe=>?_)<|λhe=>?_
  ·have he:g xs[i]=true:=he
   rw [show xs.findIdx? g=some i by
    rw [List.findIdx?_eq_some_iff_getElem]
    exact ⟨hlt,he,λj hj=>by rw [hal j (by omega) hj]; decide⟩]
   refine cQ<|sM Z<|sA Z<|sK [4] Z<|cT<|xW<|xR<|xR<|xW<|xR ?_
   exact aj Z ⟨Z,Z⟩ sbq
  ·have he:g xs[i]=false:=he
   refine cK<|xB<|xT<|cR<|sV (aI Z Z Z6)<|sM Z<|sN<|nK [0,1,7,8] Z<|au<|aM (i+1) ⟨hlt,λj hj hj2=>?_⟩<|Nat.sub_lt_sub_left hlt<|Nat.lt_succ_self i
   by_cases hji:j=i
   ·subst hji; exact he
   ·exact hal j hj<|by omega
 ·have hil:i=xs.length:=by
   have:¬ i<xs.length:=Zx
   omega
  rw [show xs.findIdx? g=none by
   rw [List.findIdx?_eq_none_iff]
   intro f hfm
   obtain ⟨j,hj,rfl⟩:=List.getElem_of_mem hfm
   exact hal j hj (by omega)]
  refine aB<|xE<|xE<|xY<|xT<|cQ<|sA Z<|sK [4] Z<|cT ?_
  exact aj Z ⟨Z,Z⟩ sbq
theorem LA {xs:List Fe} {kf:FuncId} {cp:Array Value} {g:Fe->Bool} (hv:Ls X v xs) (hE:Ck.Enters prog kf) (hf:∀ a∈xs,∀ us,Enc.rep X us a->Reads prog kf (#[]++([.agg us.toArray]:List Value).toArray++cp) [X] (.bool (g a))):Reads prog 151 #[v,.func (.func kf) #[] cp] [X] (.int .i64 (ixI (xs.findIdx? g))):=by
 have hml:maxLen=9223372036854775807:=rfl
 obtain ⟨a,cap,rfl,hlc,hcm,_⟩:=id hv.form
 refine aL (n:=19) func151 Z Z (len Z) λhr w0=>?_
 refine cQ<|sA Z<|sN<|nT<|cS<|cQ<|sM Z<|sV (aF Z underlying41)<|sM Z<|sK [0,1,4,7,8] Z<|cB<|aZ (σ := Nat) (λi=>[(0,.slice a xs.length cap),(1,.func (.func kf) #[] cp),(7,.int .i64 xs.length),(8,.int .i64 (i:Nat))]) (λ_=>X::hr) (λi=>i≤xs.length/\∀ j (hj:j<xs.length),j<i->g xs[j]=false) (λi=>xs.length - i) 0 ⟨Nat.zero_le _,λj _ hj=>absurd hj<|Nat.not_lt_zero _⟩ ?_
 rintro i ⟨hi,hal⟩
 refine cQ<|sV (aN Z Z)<|sN<|nT<|cS<|cC Z (λhd=>?_)<|λhd=>?_
 ·have hlt:i<xs.length:=Zx
  obtain ⟨b,o,cap2,us,e1,hus,hrd,hre⟩:=hv.at<|Zy hlt
  cases e1
  have hfx:=hf xs[i] (List.getElem_mem hlt) us hre
  refine cK<|xT<|cS<|cB<|cQ<|sM Z<|sA Z<|sK [0,1,5,7,8] Z<|cQ<|sM Z<|sM Z<|sM Z ?_
  refine sV (vI (k:=i) Z Z sl41 Z hlt Z)<|sV (af Z om hus hrd) ?_
  refine aY Z Z hE Z (hfx) ?_
  refine sK [0,1,5,7,8,16] Z<|cC Z (λhe=>?_)<|λhe=>?_
  ·have he:g xs[i]=true:=he
   rw [show xs.findIdx? g=some i by
    rw [List.findIdx?_eq_some_iff_getElem]
    exact ⟨hlt,he,λj hj=>by rw [hal j (by omega) hj]; decide⟩]
   refine cQ<|sM Z<|sA Z<|sK [4] Z<|cT<|xW<|xR<|xR<|xW<|xR ?_
   exact aj Z ⟨Z,Z⟩ sbq
  ·have he:g xs[i]=false:=he
   refine cK<|xB<|xT<|cR<|sV (aI Z Z Z6)<|sM Z<|sN<|nK [0,1,7,8] Z<|au<|aM (i+1) ⟨hlt,λj hj hj2=>?_⟩<|Nat.sub_lt_sub_left hlt<|Nat.lt_succ_self i
   by_cases hji:j=i
   ·subst hji; exact he
   ·exact hal j hj<|by omega
 ·have hil:i=xs.length:=by
   have:¬ i<xs.length:=Zx
   omega
  rw [show xs.findIdx? g=none by
   rw [List.findIdx?_eq_none_iff]
   intro f hfm
   obtain ⟨j,hj,rfl⟩:=List.getElem_of_mem hfm
   exact hal j hj (by omega)]
  refine aB<|xE<|xE<|xY<|xT<|cQ<|sA Z<|sK [4] Z<|cT ?_
  exact aj Z ⟨Z,Z⟩ sbq
theorem wS {xs:List Mb} {kf:FuncId} {cp:Array Value} {g:Mb->Bool} (hv:Ls X v xs) (hE:Ck.Enters prog kf) (hf:∀ a∈xs,∀ us,Enc.rep X us a->Reads prog kf (#[]++([.agg us.toArray]:List Value).toArray++cp) [X] (.bool (g a))):Reads prog 222 #[v,.func (.func kf) #[] cp] [X] (.int .i64 (ixI (xs.findIdx? g))):=by
 have hml:maxLen=9223372036854775807:=rfl
 obtain ⟨a,cap,rfl,hlc,hcm,_⟩:=id hv.form
 refine aL (n:=19) func222 Z Z (len Z) λhr w0=>?_
 refine cQ<|sA Z<|sN<|nT<|cS<|cQ<|sM Z<|sV (aF Z underlying52)<|sM Z<|sK [0,1,4,7,8] Z<|cB<|aZ (σ := Nat) (λi=>[(0,.slice a xs.length cap),(1,.func (.func kf) #[] cp),(7,.int .i64 xs.length),(8,.int .i64 (i:Nat))]) (λ_=>X::hr) (λi=>i≤xs.length/\∀ j (hj:j<xs.length),j<i->g xs[j]=false) (λi=>xs.length - i) 0 ⟨Nat.zero_le _,λj _ hj=>absurd hj<|Nat.not_lt_zero _⟩ ?_
 rintro i ⟨hi,hal⟩
 refine cQ<|sV (aN Z Z)<|sN<|nT<|cS<|cC Z (λhd=>?_)<|λhd=>?_
 ·have hlt:i<xs.length:=Zx
  obtain ⟨b,o,cap2,us,e1,hus,hrd,hre⟩:=hv.at<|Zy hlt
  cases e1
  have hfx:=hf xs[i] (List.getElem_mem hlt) us hre
  refine cK<|xT<|cS<|cB<|cQ<|sM Z<|sA Z<|sK [0,1,5,7,8] Z<|cQ<|sM Z<|sM Z<|sM Z ?_
  refine sV (vI (k:=i) Z Z nU Z hlt Z)<|sV (af Z fB hus hrd) ?_
  refine aY Z Z hE Z (hfx) ?_
  refine sK [0,1,5,7,8,16] Z<|cC Z (λhe=>?_)<|λhe=>?_
  ·have he:g xs[i]=true:=he
   rw [show xs.findIdx? g=some i by
    rw [List.findIdx?_eq_some_iff_getElem]
    exact ⟨hlt,he,λj hj=>by rw [hal j (by omega) hj]; decide⟩]
   refine cQ<|sM Z<|sA Z<|sK [4] Z<|cT<|xW<|xR<|xR<|xW<|xR ?_
   exact aj Z ⟨Z,Z⟩ sbq
  ·have he:g xs[i]=false:=he
   refine cK<|xB<|xT<|cR<|sV (aI Z Z Z6)<|sM Z<|sN<|nK [0,1,7,8] Z<|au<|aM (i+1) ⟨hlt,λj hj hj2=>?_⟩<|Nat.sub_lt_sub_left hlt<|Nat.lt_succ_self i
   by_cases hji:j=i
   ·subst hji; exact he
   ·exact hal j hj<|by omega
 ·have hil:i=xs.length:=by
   have:¬ i<xs.length:=Zx
   omega
  rw [show xs.findIdx? g=none by
   rw [List.findIdx?_eq_none_iff]
   intro f hfm
   obtain ⟨j,hj,rfl⟩:=List.getElem_of_mem hfm
   exact hal j hj (by omega)]
  refine aB<|xE<|xE<|xY<|xT<|cQ<|sA Z<|sK [4] Z<|cT ?_
  exact aj Z ⟨Z,Z⟩ sbq
theorem LB {xs:List Fm} {kf:FuncId} {cp:Array Value} {g:Fm->Bool} (hv:Ls X v xs) (hE:Ck.Enters prog kf) (hf:∀ a∈xs,∀ us,Enc.rep X us a->Reads prog kf (#[]++([.agg us.toArray]:List Value).toArray++cp) [X] (.bool (g a))):Reads prog 185 #[v,.func (.func kf) #[] cp] [X] (.int .i64 (ixI (xs.findIdx? g))):=by
 have hml:maxLen=9223372036854775807:=rfl
 obtain ⟨a,cap,rfl,hlc,hcm,_⟩:=id hv.form
 refine aL (n:=19) func185 Z Z (len Z) λhr w0=>?_
 refine cQ<|sA Z<|sN<|nT<|cS<|cQ<|sM Z<|sV (aF Z underlying38)<|sM Z<|sK [0,1,4,7,8] Z<|cB<|aZ (σ := Nat) (λi=>[(0,.slice a xs.length cap),(1,.func (.func kf) #[] cp),(7,.int .i64 xs.length),(8,.int .i64 (i:Nat))]) (λ_=>X::hr) (λi=>i≤xs.length/\∀ j (hj:j<xs.length),j<i->g xs[j]=false) (λi=>xs.length - i) 0 ⟨Nat.zero_le _,λj _ hj=>absurd hj<|Nat.not_lt_zero _⟩ ?_
 rintro i ⟨hi,hal⟩
 refine cQ<|sV (aN Z Z)<|sN<|nT<|cS<|cC Z (λhd=>?_)<|λhd=>?_
 ·have hlt:i<xs.length:=Zx
  obtain ⟨b,o,cap2,us,e1,hus,hrd,hre⟩:=hv.at<|Zy hlt
  cases e1
  have hfx:=hf xs[i] (List.getElem_mem hlt) us hre
  refine cK<|xT<|cS<|cB<|cQ<|sM Z<|sA Z<|sK [0,1,5,7,8] Z<|cQ<|sM Z<|sM Z<|sM Z ?_
  refine sV (vI (k:=i) Z Z sl38 Z hlt Z)<|sV (af Z J7 hus hrd) ?_
  refine aY Z Z hE Z (hfx) ?_
  refine sK [0,1,5,7,8,16] Z<|cC Z (λhe=>?_)<|λhe=>?_
  ·have he:g xs[i]=true:=he
   rw [show xs.findIdx? g=some i by
    rw [List.findIdx?_eq_some_iff_getElem]
    exact ⟨hlt,he,λj hj=>by rw [hal j (by omega) hj]; decide⟩]
   refine cQ<|sM Z<|sA Z<|sK [4] Z<|cT<|xW<|xR<|xR<|xW<|xR ?_
   exact aj Z ⟨Z,Z⟩ sbq
  ·have he:g xs[i]=false:=he
   refine cK<|xB<|xT<|cR<|sV (aI Z Z Z6)<|sM Z<|sN<|nK [0,1,7,8] Z<|au<|aM (i+1) ⟨hlt,λj hj hj2=>?_⟩<|Nat.sub_lt_sub_left hlt<|Nat.lt_succ_self i
   by_cases hji:j=i
   ·subst hji; exact he
   ·exact hal j hj<|by omega
 ·have hil:i=xs.length:=by
   have:¬ i<xs.length:=Zx
   omega
  rw [show xs.findIdx? g=none by
   rw [List.findIdx?_eq_none_iff]
   intro f hfm
   obtain ⟨j,hj,rfl⟩:=List.getElem_of_mem hfm
   exact hal j hj (by omega)]
  refine aB<|xE<|xE<|xY<|xT<|cQ<|sA Z<|sK [4] Z<|cT ?_
  exact aj Z ⟨Z,Z⟩ sbq
theorem NY {xs:List Fl} {kf:FuncId} {cp:Array Value} {g:Fl->Bool} (hv:Ls X v xs) (hE:Ck.Enters prog kf) (hf:∀ a∈xs,∀ us,Enc.rep X us a->Reads prog kf (#[]++([.agg us.toArray]:List Value).toArray++cp) [X] (.bool (g a))):Reads prog 65 #[v,.func (.func kf) #[] cp] [X] (.int .i64 (ixI (xs.findIdx? g))):=by
 have hml:maxLen=9223372036854775807:=rfl
 obtain ⟨a,cap,rfl,hlc,hcm,_⟩:=id hv.form
 refine aL (n:=19) func65 Z Z (len Z) λhr w0=>?_
 refine cQ<|sA Z<|sN<|nT<|cS<|cQ<|sM Z<|sV (aF Z underlying32)<|sM Z<|sK [0,1,4,7,8] Z<|cB<|aZ (σ := Nat) (λi=>[(0,.slice a xs.length cap),(1,.func (.func kf) #[] cp),(7,.int .i64 xs.length),(8,.int .i64 (i:Nat))]) (λ_=>X::hr) (λi=>i≤xs.length/\∀ j (hj:j<xs.length),j<i->g xs[j]=false) (λi=>xs.length - i) 0 ⟨Nat.zero_le _,λj _ hj=>absurd hj<|Nat.not_lt_zero _⟩ ?_
 rintro i ⟨hi,hal⟩
 refine cQ<|sV (aN Z Z)<|sN<|nT<|cS<|cC Z (λhd=>?_)<|λhd=>?_
 ·have hlt:i<xs.length:=Zx
  obtain ⟨b,o,cap2,us,e1,hus,hrd,hre⟩:=hv.at<|Zy hlt
  cases e1
  have hfx:=hf xs[i] (List.getElem_mem hlt) us hre
  refine cK<|xT<|cS<|cB<|cQ<|sM Z<|sA Z<|sK [0,1,5,7,8] Z<|cQ<|sM Z<|sM Z<|sM Z ?_
  refine sV (vI (k:=i) Z Z sl32 Z hlt Z)<|sV (af Z yw hus hrd) ?_
  refine aY Z Z hE Z (hfx) ?_
  refine sK [0,1,5,7,8,16] Z<|cC Z (λhe=>?_)<|λhe=>?_
  ·have he:g xs[i]=true:=he
   rw [show xs.findIdx? g=some i by
    rw [List.findIdx?_eq_some_iff_getElem]
    exact ⟨hlt,he,λj hj=>by rw [hal j (by omega) hj]; decide⟩]
   refine cQ<|sM Z<|sA Z<|sK [4] Z<|cT<|xW<|xR<|xR<|xW<|xR ?_
   exact aj Z ⟨Z,Z⟩ sbq
  ·have he:g xs[i]=false:=he
   refine cK<|xB<|xT<|cR<|sV (aI Z Z Z6)<|sM Z<|sN<|nK [0,1,7,8] Z<|au<|aM (i+1) ⟨hlt,λj hj hj2=>?_⟩<|Nat.sub_lt_sub_left hlt<|Nat.lt_succ_self i
   by_cases hji:j=i
   ·subst hji; exact he
   ·exact hal j hj<|by omega
 ·have hil:i=xs.length:=by
   have:¬ i<xs.length:=Zx
   omega
  rw [show xs.findIdx? g=none by
   rw [List.findIdx?_eq_none_iff]
   intro f hfm
   obtain ⟨j,hj,rfl⟩:=List.getElem_of_mem hfm
   exact hal j hj (by omega)]
  refine aB<|xE<|xE<|xY<|xT<|cQ<|sA Z<|sK [4] Z<|cT ?_
  exact aj Z ⟨Z,Z⟩ sbq
theorem LC {xs:List Sd} {kf:FuncId} {cp:Array Value} {g:Sd->Bool} (hv:Ls X v xs) (hE:Ck.Enters prog kf) (hf:∀ a∈xs,∀ us,Enc.rep X us a->Reads prog kf (#[]++([.agg us.toArray]:List Value).toArray++cp) [X] (.bool (g a))):Reads prog 100 #[v,.func (.func kf) #[] cp] [X] (.int .i64 (ixI (xs.findIdx? g))):=by
 have hml:maxLen=9223372036854775807:=rfl
 obtain ⟨a,cap,rfl,hlc,hcm,_⟩:=id hv.form
 refine aL (n:=19) func100 Z Z (len Z) λhr w0=>?_
 refine cQ<|sA Z<|sN<|nT<|cS<|cQ<|sM Z<|sV (aF Z underlying67)<|sM Z<|sK [0,1,4,7,8] Z<|cB<|aZ (σ := Nat) (λi=>[(0,.slice a xs.length cap),(1,.func (.func kf) #[] cp),(7,.int .i64 xs.length),(8,.int .i64 (i:Nat))]) (λ_=>X::hr) (λi=>i≤xs.length/\∀ j (hj:j<xs.length),j<i->g xs[j]=false) (λi=>xs.length - i) 0 ⟨Nat.zero_le _,λj _ hj=>absurd hj<|Nat.not_lt_zero _⟩ ?_
 rintro i ⟨hi,hal⟩
 refine cQ<|sV (aN Z Z)<|sN<|nT<|cS<|cC Z (λhd=>?_)<|λhd=>?_
 ·have hlt:i<xs.length:=Zx
  obtain ⟨b,o,cap2,us,e1,hus,hrd,hre⟩:=hv.at<|Zy hlt
  cases e1
  have hfx:=hf xs[i] (List.getElem_mem hlt) us hre
  refine cK<|xT<|cS<|cB<|cQ<|sM Z<|sA Z<|sK [0,1,5,7,8] Z<|cQ<|sM Z<|sM Z<|sM Z ?_
  refine sV (vI (k:=i) Z Z nX Z hlt Z)<|sV (af Z ic hus hrd) ?_
  refine aY Z Z hE Z (hfx) ?_
  refine sK [0,1,5,7,8,16] Z<|cC Z (λhe=>?_)<|λhe=>?_
  ·have he:g xs[i]=true:=he
   rw [show xs.findIdx? g=some i by
    rw [List.findIdx?_eq_some_iff_getElem]
    exact ⟨hlt,he,λj hj=>by rw [hal j (by omega) hj]; decide⟩]
   refine cQ<|sM Z<|sA Z<|sK [4] Z<|cT<|xW<|xR<|xR<|xW<|xR ?_
   exact aj Z ⟨Z,Z⟩ sbq
  ·have he:g xs[i]=false:=he
   refine cK<|xB<|xT<|cR<|sV (aI Z Z Z6)<|sM Z<|sN<|nK [0,1,7,8] Z<|au<|aM (i+1) ⟨hlt,λj hj hj2=>?_⟩<|Nat.sub_lt_sub_left hlt<|Nat.lt_succ_self i
   by_cases hji:j=i
   ·subst hji; exact he
   ·exact hal j hj<|by omega
 ·have hil:i=xs.length:=by
   have:¬ i<xs.length:=Zx
   omega
  rw [show xs.findIdx? g=none by
   rw [List.findIdx?_eq_none_iff]
   intro f hfm
   obtain ⟨j,hj,rfl⟩:=List.getElem_of_mem hfm
   exact hal j hj (by omega)]
  refine aB<|xE<|xE<|xY<|xT<|cQ<|sA Z<|sK [4] Z<|cT ?_
  exact aj Z ⟨Z,Z⟩ sbq
theorem LD {xs:List Grp} {kf:FuncId} {cp:Array Value} {g:Grp->Bool} (hv:Ls X v xs) (hE:Ck.Enters prog kf) (hf:∀ a∈xs,∀ us,Enc.rep X us a->Reads prog kf (#[]++([.agg us.toArray]:List Value).toArray++cp) [X] (.bool (g a))):Reads prog 167 #[v,.func (.func kf) #[] cp] [X] (.int .i64 (ixI (xs.findIdx? g))):=by
 have hml:maxLen=9223372036854775807:=rfl
 obtain ⟨a,cap,rfl,hlc,hcm,_⟩:=id hv.form
 refine aL (n:=19) func167 Z Z (len Z) λhr w0=>?_
 refine cQ<|sA Z<|sN<|nT<|cS<|cQ<|sM Z<|sV (aF Z underlying53)<|sM Z<|sK [0,1,4,7,8] Z<|cB<|aZ (σ := Nat) (λi=>[(0,.slice a xs.length cap),(1,.func (.func kf) #[] cp),(7,.int .i64 xs.length),(8,.int .i64 (i:Nat))]) (λ_=>X::hr) (λi=>i≤xs.length/\∀ j (hj:j<xs.length),j<i->g xs[j]=false) (λi=>xs.length - i) 0 ⟨Nat.zero_le _,λj _ hj=>absurd hj<|Nat.not_lt_zero _⟩ ?_
 rintro i ⟨hi,hal⟩
 refine cQ<|sV (aN Z Z)<|sN<|nT<|cS<|cC Z (λhd=>?_)<|λhd=>?_
 ·have hlt:i<xs.length:=Zx
  obtain ⟨b,o,cap2,us,e1,hus,hrd,hre⟩:=hv.at<|Zy hlt
  cases e1
  have hfx:=hf xs[i] (List.getElem_mem hlt) us hre
  refine cK<|xT<|cS<|cB<|cQ<|sM Z<|sA Z<|sK [0,1,5,7,8] Z<|cQ<|sM Z<|sM Z<|sM Z ?_
  refine sV (vI (k:=i) Z Z sl53 Z hlt Z)<|sV (af Z qV hus hrd) ?_
  refine aY Z Z hE Z (hfx) ?_
  refine sK [0,1,5,7,8,16] Z<|cC Z (λhe=>?_)<|λhe=>?_
  ·have he:g xs[i]=true:=he
   rw [show xs.findIdx? g=some i by
    rw [List.findIdx?_eq_some_iff_getElem]
    exact ⟨hlt,he,λj hj=>by rw [hal j (by omega) hj]; decide⟩]
   refine cQ<|sM Z<|sA Z<|sK [4] Z<|cT<|xW<|xR<|xR<|xW<|xR ?_
   exact aj Z ⟨Z,Z⟩ sbq
  ·have he:g xs[i]=false:=he
   refine cK<|xB<|xT<|cR<|sV (aI Z Z Z6)<|sM Z<|sN<|nK [0,1,7,8] Z<|au<|aM (i+1) ⟨hlt,λj hj hj2=>?_⟩<|Nat.sub_lt_sub_left hlt<|Nat.lt_succ_self i
   by_cases hji:j=i
   ·subst hji; exact he
   ·exact hal j hj<|by omega
 ·have hil:i=xs.length:=by
   have:¬ i<xs.length:=Zx
   omega
  rw [show xs.findIdx? g=none by
   rw [List.findIdx?_eq_none_iff]
   intro f hfm
   obtain ⟨j,hj,rfl⟩:=List.getElem_of_mem hfm
   exact hal j hj (by omega)]
  refine aB<|xE<|xE<|xY<|xT<|cQ<|sA Z<|sK [4] Z<|cT ?_
  exact aj Z ⟨Z,Z⟩ sbq
theorem CZ {xs:List Cm} {kf:FuncId} {cp:Array Value} {g:Cm->Bool} (hv:Ls X v xs) (hE:Ck.Enters prog kf) (hf:∀ a∈xs,∀ us,Enc.rep X us a->Reads prog kf (#[]++([.agg us.toArray]:List Value).toArray++cp) [X] (.bool (g a))):Reads prog 193 #[v,.func (.func kf) #[] cp] [X] (.int .i64 (ixI (xs.findIdx? g))):=by
 have hml:maxLen=9223372036854775807:=rfl
 obtain ⟨a,cap,rfl,hlc,hcm,_⟩:=id hv.form
 refine aL (n:=19) func193 Z Z (len Z) λhr w0=>?_
 refine cQ<|sA Z<|sN<|nT<|cS<|cQ<|sM Z<|sV (aF Z underlying187)<|sM Z<|sK [0,1,4,7,8] Z<|cB<|aZ (σ := Nat) (λi=>[(0,.slice a xs.length cap),(1,.func (.func kf) #[] cp),(7,.int .i64 xs.length),(8,.int .i64 (i:Nat))]) (λ_=>X::hr) (λi=>i≤xs.length/\∀ j (hj:j<xs.length),j<i->g xs[j]=false) (λi=>xs.length - i) 0 ⟨Nat.zero_le _,λj _ hj=>absurd hj<|Nat.not_lt_zero _⟩ ?_
 rintro i ⟨hi,hal⟩
 refine cQ<|sV (aN Z Z)<|sN<|nT<|cS<|cC Z (λhd=>?_)<|λhd=>?_
 ·have hlt:i<xs.length:=Zx
  obtain ⟨b,o,cap2,us,e1,hus,hrd,hre⟩:=hv.at<|Zy hlt
  cases e1
  have hfx:=hf xs[i] (List.getElem_mem hlt) us hre
  refine cK<|xT<|cS<|cB<|cQ<|sM Z<|sA Z<|sK [0,1,5,7,8] Z<|cQ<|sM Z<|sM Z<|sM Z ?_
  refine sV (vI (k:=i) Z Z lJ Z hlt Z)<|sV (af Z ik hus hrd) ?_
  refine aY Z Z hE Z (hfx) ?_
  refine sK [0,1,5,7,8,16] Z<|cC Z (λhe=>?_)<|λhe=>?_
  ·have he:g xs[i]=true:=he
   rw [show xs.findIdx? g=some i by
    rw [List.findIdx?_eq_some_iff_getElem]
    exact ⟨hlt,he,λj hj=>by rw [hal j (by omega) hj]; decide⟩]
   refine cQ<|sM Z<|sA Z<|sK [4] Z<|cT<|xW<|xR<|xR<|xW<|xR ?_
   exact aj Z ⟨Z,Z⟩ sbq
  ·have he:g xs[i]=false:=he
   refine cK<|xB<|xT<|cR<|sV (aI Z Z Z6)<|sM Z<|sN<|nK [0,1,7,8] Z<|au<|aM (i+1) ⟨hlt,λj hj hj2=>?_⟩<|Nat.sub_lt_sub_left hlt<|Nat.lt_succ_self i
   by_cases hji:j=i
   ·subst hji; exact he
   ·exact hal j hj<|by omega
 ·have hil:i=xs.length:=by
   have:¬ i<xs.length:=Zx
   omega
  rw [show xs.findIdx? g=none by
   rw [List.findIdx?_eq_none_iff]
   intro f hfm
   obtain ⟨j,hj,rfl⟩:=List.getElem_of_mem hfm
   exact hal j hj (by omega)]
  refine aB<|xE<|xE<|xY<|xT<|cQ<|sA Z<|sK [4] Z<|cT ?_
  exact aj Z ⟨Z,Z⟩ sbq
theorem LF {xs:List Vr} {kf:FuncId} {cp:Array Value} {g:Vr->Bool} (hv:Ls X v xs) (hE:Ck.Enters prog kf) (hf:∀ a∈xs,∀ us,Enc.rep X us a->Reads prog kf (#[]++([.agg us.toArray]:List Value).toArray++cp) [X] (.bool (g a))):Reads prog 223 #[v,.func (.func kf) #[] cp] [X] (.int .i64 (ixI (xs.findIdx? g))):=by
 have hml:maxLen=9223372036854775807:=rfl
 obtain ⟨a,cap,rfl,hlc,hcm,_⟩:=id hv.form
 refine aL (n:=19) func223 Z Z (len Z) λhr w0=>?_
 refine cQ<|sA Z<|sN<|nT<|cS<|cQ<|sM Z<|sV (aF Z underlying70)<|sM Z<|sK [0,1,4,7,8] Z<|cB<|aZ (σ := Nat) (λi=>[(0,.slice a xs.length cap),(1,.func (.func kf) #[] cp),(7,.int .i64 xs.length),(8,.int .i64 (i:Nat))]) (λ_=>X::hr) (λi=>i≤xs.length/\∀ j (hj:j<xs.length),j<i->g xs[j]=false) (λi=>xs.length - i) 0 ⟨Nat.zero_le _,λj _ hj=>absurd hj<|Nat.not_lt_zero _⟩ ?_
 rintro i ⟨hi,hal⟩
 refine cQ<|sV (aN Z Z)<|sN<|nT<|cS<|cC Z (λhd=>?_)<|λhd=>?_
 ·have hlt:i<xs.length:=Zx
  obtain ⟨b,o,cap2,us,e1,hus,hrd,hre⟩:=hv.at<|Zy hlt
  cases e1
  have hfx:=hf xs[i] (List.getElem_mem hlt) us hre
  refine cK<|xT<|cS<|cB<|cQ<|sM Z<|sA Z<|sK [0,1,5,7,8] Z<|cQ<|sM Z<|sM Z<|sM Z ?_
  refine sV (vI (k:=i) Z Z zK Z hlt Z)<|sV (af Z vg hus hrd) ?_
  refine aY Z Z hE Z (hfx) ?_
  refine sK [0,1,5,7,8,16] Z<|cC Z (λhe=>?_)<|λhe=>?_
  ·have he:g xs[i]=true:=he
   rw [show xs.findIdx? g=some i by
    rw [List.findIdx?_eq_some_iff_getElem]
    exact ⟨hlt,he,λj hj=>by rw [hal j (by omega) hj]; decide⟩]
   refine cQ<|sM Z<|sA Z<|sK [4] Z<|cT<|xW<|xR<|xR<|xW<|xR ?_
   exact aj Z ⟨Z,Z⟩ sbq
  ·have he:g xs[i]=false:=he
   refine cK<|xB<|xT<|cR<|sV (aI Z Z Z6)<|sM Z<|sN<|nK [0,1,7,8] Z<|au<|aM (i+1) ⟨hlt,λj hj hj2=>?_⟩<|Nat.sub_lt_sub_left hlt<|Nat.lt_succ_self i
   by_cases hji:j=i
   ·subst hji; exact he
   ·exact hal j hj<|by omega
 ·have hil:i=xs.length:=by
   have:¬ i<xs.length:=Zx
   omega
  rw [show xs.findIdx? g=none by
   rw [List.findIdx?_eq_none_iff]
   intro f hfm
   obtain ⟨j,hj,rfl⟩:=List.getElem_of_mem hfm
   exact hal j hj (by omega)]
  refine aB<|xE<|xE<|xY<|xT<|cQ<|sA Z<|sK [4] Z<|cT ?_
  exact aj Z ⟨Z,Z⟩ sbq
end
end Go.Fl
