/-
  A resource that grows: what is read out of it is read out of it still; contracts over one such resource; what has a plain reading,and lists of it. Generic: nothing of the program is named here. No condition.
-/
import Derived.Test.YtknmacdbffgjgaaGreatDoorM9
import Derived.Test.YtknmacdbffgjgaaGreatDoorM6
set_option linter.unusedVariables false
set_option linter.unusedSimpArgs false
set_option maxRecDepth 100000
set_option maxHeartbeats 16000000
namespace Go.Fl
open Go Go.Hr
theorem nH {α : Type} {r : α -> α -> Prop} (irr : ∀ a, ¬ r a a) (asy : ∀ a b, r a b -> ¬ r b a) : ∀ {xs ys : List α}, xs.Pairwise r -> ys.Pairwise r -> (∀ a, a ∈ xs ↔ a ∈ ys) -> xs = ys
 | [],[],_,_,_=>rfl
 | [],y::t,_,_,h=>absurd ((h y).2 (by simp)) (by simp)
 | x::s,[],_,_,h=>absurd ((h x).1 (by simp)) (by simp)
 | x::s,y::t,h1,h2,h=>by
  obtain ⟨a1,a2⟩:=List.pairwise_cons.1 h1
  obtain ⟨b1,b2⟩:=List.pairwise_cons.1 h2
  have hxy:x=y:=by
   rcases List.mem_cons.1 ((h x).1 (by simp)) with e | e
   ·exact e
   rcases List.mem_cons.1 ((h y).2 (by simp)) with e2 | e2
   ·exact e2.symm
   ·exact absurd (b1 x e)<|asy _ _<|a1 y e2
  subst hxy
  refine congrArg _ (nH irr asy a2 b2 λa=>⟨λha=>?_,λha=>?_⟩)
  ·rcases List.mem_cons.1 ((h a).1 (by simp [ha])) with e | e
   ·subst e; exact absurd (a1 _ ha) (irr _)
   ·exact e
  ·rcases List.mem_cons.1 ((h a).2 (by simp [ha])) with e | e
   ·subst e; exact absurd (b1 _ ha) (irr _)
   ·exact e
def qE (xs:List Mb):Prop:=xs.Pairwise λa b=>lt a.name b.name=true
theorem vS:∀ {o:List Mb} {x y:Mb},y∈yz o x↔y∈o∨y=x
 | [],x,y=>by simp [yz]
 | z::t,x,y=>by
  unfold yz
  split
  ·rw [List.mem_cons,or_comm]
  ·rw [List.mem_cons,vS,List.mem_cons,or_assoc]
theorem F7 : ∀ {o : List Mb} {x : Mb}, qE o -> (∀ y ∈ o, y.name ≠ x.name) -> qE (yz o x)
 | [],x,_,_=>by simp [yz,qE]
 | z :: t, x, h, hn => by
  obtain ⟨h1,h2⟩:=List.pairwise_cons.1 h
  unfold yz
  split
  ·rename_i hz
   refine List.pairwise_cons.2 ⟨λy hy=>?_,h⟩
   rcases List.mem_cons.1 hy with rfl | hy
   ·exact hz
   ·exact lt_trans hz<|h1 y hy
  ·rename_i hz
   have hx:lt z.name x.name=true:=by
    rcases dX x.name z.name with h | h | h
    ·exact absurd h hz
    ·exact absurd h.symm<|hn z<|by simp
    ·exact h
   refine List.pairwise_cons.2 ⟨λy hy=>?_,F7 h2 λy hy=>hn y<|by simp [hy]⟩
   rcases vS.1 hy with hy | rfl
   ·exact h1 y hy
   ·exact hx
theorem jb {xs:List Mb} (hn:(xs.map λm=>m.name).Nodup):qE (rA xs)/\∀ y,y∈rA xs↔y∈xs:=by
 have key : ∀ (xs o : List Mb), qE o -> (xs.map λm => m.name).Nodup -> (∀ x ∈ xs, ∀ y ∈ o, y.name ≠ x.name) -> qE (xs.foldl yz o) /\ ∀ y, y ∈ xs.foldl yz o ↔ y ∈ o ∨ y ∈ xs := by
  intro xs
  induction xs with
  | nil=>intro o h _ _; exact ⟨h,λy=>by simp⟩
  | cons x t ih =>
   intro o h hn hd
   rw [List.map_cons,List.nodup_cons] at hn
   obtain ⟨h1,h2⟩:=ih (yz o x) (F7 h λy hy=>hd x (by simp) y hy) hn.2 λz hz y hy=>by
    rcases vS.1 hy with hy | rfl
    ·exact hd z (by simp [hz]) y hy
    ·exact λe=>hn.1 (by rw [e]; exact List.mem_map.2 ⟨z,hz,rfl⟩)
   refine ⟨h1,λy=>?_⟩
   rw [List.foldl_cons,h2,vS,List.mem_cons,or_assoc]
 obtain ⟨h1,h2⟩:=key xs [] List.Pairwise.nil hn<|by simp
 exact ⟨h1,λy=>by rw [show rA xs=xs.foldl yz [] from rfl,h2]; simp⟩
theorem xP {xs ys:List Mb} (h1:qE xs) (h2:qE ys) (h:∀ m,m∈xs↔m∈ys):xs=ys :=
 nH (r:=λ(a b:Mb)=>lt a.name b.name=true) (λa h=>by rw [lt_irrefl] at h; cases h) (λa b h g=>by rw [iP h] at g; cases g) h1 h2 h
theorem qE.nodup {xs:List Mb} (h:qE xs):(xs.map λm=>m.name).Nodup:=by
 rw [List.nodup_iff_pairwise_ne,List.pairwise_map]
 exact h.imp λ{a b} hab e=>by rw [e,lt_irrefl] at hab; cases hab
theorem Ir {xs:List Mb} {n:Nm} {m:Mb} (h:dI xs n=some m):m∈xs/\m.name=n:=⟨List.mem_of_find?_eq_some h,by simpa using List.find?_some h⟩
theorem Le {xs:List Mb} (hn:(xs.map λm=>m.name).Nodup) {m:Mb} (h:m∈xs):dI xs m.name=some m:=by
 induction xs with
 | nil=>cases h
 | cons x t ih =>
  rw [List.map_cons,List.nodup_cons] at hn
  unfold dI
  rcases List.mem_cons.1 h with rfl | h
  ·rw [List.find?_cons_of_pos (by simp)]
  ·have hne:x.name≠m.name:=λe=>hn.1 (by rw [e]; exact List.mem_map.2 ⟨m,h,rfl⟩)
   rw [List.find?_cons_of_neg (by simpa using hne)]
   exact ih hn.2 h
/-! ### Seeds -/
theorem pR (a:Sd):slt a a=false:=by simp [slt,lt_irrefl]
theorem rZ {a b c:Sd} (h1:slt a b=true) (h2:slt b c=true):slt a c=true:=by
 unfold slt at *
 simp only [Bool.or_eq_true,Bool.and_eq_true,beq_iff_eq] at *
 rcases h1 with h1 | ⟨h1,h3⟩ <;> rcases h2 with h2 | ⟨h2,h4⟩
 ·exact .inl<|lt_trans h1 h2
 ·exact .inl (h2 ▸ h1)
 ·exact .inl (h1 ▸ h2)
 ·exact .inr ⟨h1.trans h2,lt_trans h3 h4⟩
theorem r9 (a b:Sd):slt a b=true∨a=b∨slt b a=true:=by
 obtain ⟨a1,a2⟩:=a
 obtain ⟨b1,b2⟩:=b
 unfold slt
 simp only [Bool.or_eq_true,Bool.and_eq_true,beq_iff_eq,Sd.mk.injEq]
 rcases dX a1 b1 with h | h | h
 ·exact .inl<|.inl h
 ·rcases dX a2 b2 with g | g | g
  ·exact .inl<|.inr ⟨h,g⟩
  ·exact .inr<|.inl ⟨h,g⟩
  ·exact .inr<|.inr<|.inr ⟨h.symm,g⟩
 ·exact .inr<|.inr<|.inl h
theorem Lf {a b:Sd} (h:slt a b=true):¬ slt b a=true:=λh2=>by
 have:=rZ h h2
 rw [pR] at this; cases this
def yA (xs:List Sd):Prop:=xs.Pairwise λa b=>slt a b=true
theorem Aa : ∀ {o : List Sd} {x y : Sd}, y ∈ yx o x ↔ y ∈ o ∨ y = x
 | [],x,y=>by simp [yx]
 | z :: t, x, y => by
  unfold yx
  split
  ·rw [List.mem_cons,or_comm]
  ·split
   ·rename_i h; subst h
    exact ⟨.inl,λh=>h.elim id λh=>h ▸ List.mem_cons_self⟩
   ·rw [List.mem_cons,Aa,List.mem_cons,or_assoc]
theorem F8 : ∀ {o : List Sd} {x : Sd}, yA o -> yA (yx o x)
 | [],x,_=>by simp [yx,yA]
 | z :: t, x, h => by
  obtain ⟨h1,h2⟩:=List.pairwise_cons.1 h
  unfold yx
  split
  ·rename_i hz
   refine List.pairwise_cons.2 ⟨λy hy=>?_,h⟩
   rcases List.mem_cons.1 hy with rfl | hy
   ·exact hz
   ·exact rZ hz<|h1 y hy
  ·rename_i hz
   split
   ·exact h
   ·rename_i hne
    have hx:slt z x=true:=by
     rcases r9 x z with h | h | h
     ·exact absurd h hz
     ·exact absurd h hne
     ·exact h
    refine List.pairwise_cons.2 ⟨λy hy=>?_,F8 h2⟩
    rcases Aa.1 hy with hy | rfl
    ·exact h1 y hy
    ·exact hx
theorem jO (xs:List Sd):yA (ry xs)/\∀ y,y∈ry xs↔y∈xs:=by
 have key:∀ (xs o:List Sd),yA o->yA (xs.foldl yx o)/\∀ y,y∈xs.foldl yx o↔y∈o∨y∈xs:=by
  intro xs
  induction xs with
  | nil=>intro o h; exact ⟨h,λy=>by simp⟩
  | cons x t ih =>
   intro o h
   obtain ⟨h1,h2⟩:=ih (yx o x)<|F8 h
   refine ⟨h1,λy=>?_⟩
   rw [List.foldl_cons,h2,Aa,List.mem_cons,or_assoc]
 obtain ⟨h1,h2⟩:=key xs [] List.Pairwise.nil
 exact ⟨h1,λy=>by rw [show ry xs=xs.foldl yx [] from rfl,h2]; simp⟩
theorem F9 {xs ys:List Sd} (h1:yA xs) (h2:yA ys) (h:∀ m,m∈xs↔m∈ys):xs=ys :=
 nH (r:=λ(a b:Sd)=>slt a b=true) (λa h=>by rw [pR] at h; cases h) (λ_ _ h=>Lf h) h1 h2 h

/-! ### Members of a class -/
section
variable {l:FS}
theorem ku {cs:List Cm} {n:Nm}:n∈keys cs↔∃ x∈cs,x.mem.name=n:=by
 unfold keys
 rw [y8,List.mem_map]; simp
theorem iq (cs:List Cm):(keys cs).Nodup:=by
 have : ∀ (xs o : List Nm), o.Nodup -> (dd o xs).Nodup := by
  intro xs
  induction xs with
  | nil=>exact λ_ h=>h
  | cons x t ih =>
   intro o h
   refine ih (Hr.step o x) ?_
   by_cases hx:x∈o
   ·rw [lF hx]; exact h
   ·rw [nO hx]
    refine List.nodup_append.2 ⟨h,by simp,λa ha b hb=>?_⟩
    simp only [List.mem_singleton] at hb
    subst hb
    exact λe=>hx (e ▸ ha)
 exact this _ [] List.nodup_nil
theorem fT {cs:List Cm} {n:Nm} {x:Cm}:x∈under cs n↔x∈cs/\x.mem.name=n:=by simp [under]
theorem mU (l:List Cm) (h:l≠[]):∃ x∈l,(joined l).name=x.mem.name/\(joined l).kind=x.mem.kind/\(joined l).impl=x.mem.impl/\(joined l).args=x.mem.args/\(joined l).ty=x.mem.ty/\(joined l).clients=x.mem.clients:=by
 unfold joined
 cases hf:l.find? (λ(x:Cm) => !x.dfd) with
 | some x=>exact ⟨x,List.mem_of_find?_eq_some hf,rfl,rfl,rfl,rfl,rfl,rfl⟩
 | none =>
  cases l with
  | nil=>exact absurd rfl h
  | cons x t=>exact ⟨x,by simp,rfl,rfl,rfl,rfl,rfl,rfl⟩
theorem xQ {cs:List Cm} {n:Nm} (h:n∈keys cs):(joined (under cs n)).name=n:=by
 obtain ⟨x,hx,hn⟩:=ku.1 h
 obtain ⟨y,hy,h1,_⟩:=mU (under cs n)<|List.ne_nil_of_mem<|fT.2 ⟨hx,hn⟩
 rw [h1]; exact (fT.1 hy).2
theorem CF (c:FC) (f:Fe) (l:List Cm):(jN c f l).name=f.name:=by unfold jN; simp only []; split <;> rfl
theorem Lg {c:FC} {n:Nm} {f:Fe} (h:feat c n=some f):f∈c.feats/\f.name=n:=⟨List.mem_of_find?_eq_some h,by simpa using List.find?_some h⟩
theorem Ga {c:FC} (hn:(c.feats.map λf=>f.name).Nodup) {f:Fe} (h:f∈c.feats):feat c f.name=some f:=by
 unfold feat
 generalize c.feats=xs at hn h
 induction xs with
 | nil=>cases h
 | cons x t ih =>
  rw [List.map_cons,List.nodup_cons] at hn
  rcases List.mem_cons.1 h with rfl | h
  ·rw [List.find?_cons_of_pos (by simp)]
  ·have hne:x.name≠f.name:=λe=>hn.1 (by rw [e]; exact List.mem_map.2 ⟨f,h,rfl⟩)
   rw [List.find?_cons_of_neg (by simpa using hne)]
   exact ih hn.2 h
def ui (cs:List Cm) (c:FC):List Mb:=((keys cs).filter λn=>(feat c n).isNone).map (λn=>joined<|under cs n)++c.feats.map λf=>jN c f<|under cs f.name
theorem Lh (cs:List Cm) (c:FC):(ui cs c).map (λm=>m.name)=((keys cs).filter λn=>(feat c n).isNone)++c.feats.map λf=>f.name:=by
 unfold ui
 rw [List.map_append,List.map_map,List.map_map]
 congr 1
 ·refine (List.map_congr_left λn hn=>?_).trans<|List.map_id _
  exact xQ (List.mem_filter.1 hn).1
 ·exact List.map_congr_left λf _=>CF c f _
theorem CG (cs:List Cm) {c:FC} (hn:(c.feats.map λf=>f.name).Nodup):((ui cs c).map λm=>m.name).Nodup:=by
 rw [Lh]
 refine List.nodup_append.2 ⟨(iq cs).filter _,hn,λa ha b hb e=>?_⟩
 subst e
 obtain ⟨f,hf,rfl⟩:=List.mem_map.1 hb
 have:=(List.mem_filter.1 ha).2
 rw [Ga hn hf] at this; cases this
theorem pU (cs:List Cm) {c:FC} (hn:(c.feats.map λf=>f.name).Nodup):qE (members cs c)/\∀ m,m∈members cs c↔m∈ui cs c:=jb (CG cs hn)
theorem xS {cs:List Cm} {c:FC} (hn:(c.feats.map λf=>f.name).Nodup) {m:Mb}:m∈members cs c↔(∃ n,(∃ x∈cs,x.mem.name=n)/\feat c n=none/\m=joined (under cs n))∨∃ f∈c.feats,m=jN c f (under cs f.name):=by
 rw [(pU cs hn).2]
 unfold ui
 rw [List.mem_append,List.mem_map,List.mem_map]
 constructor
 ·rintro (⟨n,h,rfl⟩ | ⟨f,h,rfl⟩)
  ·obtain ⟨h1,h2⟩:=List.mem_filter.1 h
   exact .inl ⟨n,ku.1 h1,by simpa using h2,rfl⟩
  ·exact .inr ⟨f,h,rfl⟩
 ·rintro (⟨n,h1,h2,rfl⟩ | ⟨f,h,rfl⟩)
  ·exact .inl ⟨n,List.mem_filter.2 ⟨ku.2 h1,by rw [h2]; rfl⟩,rfl⟩
  ·exact .inr ⟨f,h,rfl⟩
end
def eB (l:FS) (n:Nm):Fl×Int:=if wholeE l [n]≠0 then (fl0,wholeE l [n]) else (look (build l).1 n,0)
def bP (l:FS) (ns:List Nm) (c n:Nm):Mb×Int:=if wholeE l (ns++[c])≠0 then (mb0,wholeE l (ns++[c])) else match dI (look (build l).1 c).mems n with
 | some m=>(m,0)
 | none=>(mb0,4)
def iJ (l:FS) (f:List Fl):Int:=if (bT l).1≠0 then (bT l).1 else if (dR l).2≠0∨(dR l).1≠f then 11 else 0
section
variable {l:FS}
structure Good (l:FS):Prop where
 right:FRight l
 ok:∀ n,(bQ l n).isSome=true->okF l n
theorem Good.sys (h:Good l):Right (bC l):=h.right.sys
theorem Ab:(dR l).2=0↔Good l:=by
 by_cases hf:(bT l).1=0
 ·have hR:=jo.1 hf
  have hr:=hR.sys
  rw [(z8 hf).2,F4 hr]
  constructor
  ·intro h
   exact ⟨hR,λn hn=>(scan_ok h).2.2 n ((il hr).2 hn)⟩
  ·intro h
   rw [F5 λn hn=>h.ok n ((il hr).1 hn)]
 ·rw [(CE hf).2.1]
  exact ⟨λh=>absurd h hf,λh=>absurd (jo.2 h.right) hf⟩
theorem Good.check (h:Good l):(bT l).1=0:=jo.2 h.right
theorem Good.scan (h:Good l):Fl.scan l (order (bC l))=(order (bC l),cf0,0):=F5 λn hn=>h.ok n ((il h.sys).1 hn)
theorem Good.build (h:Good l):Fl.build l=(forms l (order (bC l)),cf0,0):=by rw [F4 h.sys,h.scan]
theorem Good.look (h:Good l) {n:Nm} (hn:(bQ l n).isSome=true):Fl.look (Fl.build l).1 n=FL l n:=by
 rw [h.build]; exact pO ((il h.sys).2 hn)
theorem Good.whole (h:Good l) {ns:List Nm}:wholeE l ns=0↔∀ n∈ns,(bQ l n).isSome=true:=by
 unfold wholeE
 rw [if_neg (λh2=>h2 h.check),h.build]
 split
 ·rename_i h2; simpa using h2
 ·rename_i h2
  refine ⟨λh=>(by cases h),λh3=>absurd (by simpa using h3) h2⟩
theorem Good.wholeE (h:Good l) {ns:List Nm} (hn:¬ ∀ n∈ns,(bQ l n).isSome=true):Fl.wholeE l ns=5:=by
 unfold Fl.wholeE
 rw [if_neg (λh2=>h2 h.check),if_neg (by simpa using hn)]
theorem Good.flats (h:Good l):dR l=((order (bC l)).map (FL l),0):=by
 unfold dR
 rw [if_neg (λh2=>h2<|h.whole.2<|by simp),h.build]
 simp [forms]
theorem Good.flatOf (h:Good l) {n:Nm} (hn:(bQ l n).isSome=true):eB l n=(FL l n,0):=by
 unfold eB
 rw [if_neg (λh2=>h2<|h.whole.2<|by simpa using hn),h.look hn]
theorem Good.class (h:Good l) {n:Nm} (hn:(bQ l n).isSome=true):CRight l (ae l n)/\(ae l n).name=n/\ae l n∈l:=by
 obtain ⟨c,hc⟩:=Option.isSome_iff_exists.1 hn
 rw [iI hc]
 have hm:=List.mem_of_find?_eq_some hc
 exact ⟨gB (h.right.form c hm),pM hc,hm⟩
theorem Good.mems (h:Good l) {n:Nm} (hn:(bQ l n).isSome=true):(FL l n).name=n/\(FL l n).mems=msF l n/\qE (msF l n)/\∀ m,m∈msF l n↔(∃ k,(∃ x∈comes (FL l) l (ae l n),x.mem.name=k)/\feat (ae l n) k=none/\m=joined (under (comes (FL l) l (ae l n)) k))∨∃ f∈(ae l n).feats,m=jN (ae l n) f (under (comes (FL l) l (ae l n)) f.name):=by
 obtain ⟨h1,h2,_⟩:=h.class hn
 refine ⟨by rw [FL_name h.sys,h2],jC h.sys n,(pU _ h1.names).1,λm=>xS h1.names⟩
theorem Good.member (h:Good l) {ns:List Nm} {c n:Nm} (hns:∀ k∈ns,(bQ l k).isSome=true) (hc:(bQ l c).isSome=true):bP l ns c n=match dI (msF l c) n with
  | some m=>(m,0)
  | none=>(mb0,4):=by
 have hw:Fl.wholeE l (ns++[c])=0:=h.whole.2 λk hk=>by
  rcases List.mem_append.1 hk with hk | hk
  ·exact hns k hk
  ·rw [List.mem_singleton.1 hk]; exact hc
 unfold bP
 rw [hw,if_neg (by decide),h.look hc,jC h.sys]
theorem Li (g : List Fl) : ((dR l).2 ≠ 0 -> iJ l g ≠ 0) /\ ((dR l).2 = 0 -> iJ l (dR l).1 = 0 /\ (iJ l g = 0 -> (dR l).1 = g) /\
  ∀ f∈(dR l).1,eB l f.name=(f,0)/\qE f.mems/\∀ m∈f.mems,bP l [] f.name m.name=(m,0)):=by
 constructor
 ·intro h
  unfold iJ
  split
  ·assumption
  ·rw [if_pos (.inl h)]; decide
 ·intro h
  have hg:=Ab.1 h
  have hc : ∀ f, iJ l f = 0 ↔ (dR l).1 = f := λf => by
   unfold iJ
   rw [if_neg (λh2=>h2 hg.check)]
   constructor
   ·intro h2
    split at h2
    ·cases h2
    ·rename_i h3
     exact Classical.not_not.1 λh4=>h3<|.inr h4
   ·intro h2
    rw [if_neg]
    rintro (h3 | h3)
    ·exact h3 h
    ·exact h3 h2
  refine ⟨(hc _).2 rfl,λh2=>(hc _).1 h2,λf hf=>?_⟩
  rw [hg.flats] at hf
  obtain ⟨n,hn,rfl⟩:=List.mem_map.1 hf
  have hn:=(il hg.sys).1 hn
  obtain ⟨h1,h2,h3,_⟩:=hg.mems hn
  rw [h1,h2]
  refine ⟨hg.flatOf hn,h3,λm hm=>?_⟩
  rw [hg.member (by simp) hn,Le h3.nodup hm]
end
section
variable {l:FS}
theorem NP {o:List Grp} {g x:Grp}:x∈vL o g↔x∈o∨x=g:=by
 unfold vL
 split
 ·rename_i h
  have h:g∈o:=by simpa using h
  exact ⟨.inl,λh2=>h2.elim id λe=>e ▸ h⟩
 ·simp
theorem NQ {o l:List Grp} {x:Grp}:x∈rz o l↔x∈o∨x∈l:=by
 unfold rz
 induction l generalizing o with
 | nil=>simp
 | cons g t ih=>rw [List.foldl_cons,ih,NP,List.mem_cons,or_assoc]
theorem lY {ls:List (List Grp)} {x:Grp}:x∈groups ls↔∃ a∈ls,x∈a:=by
 have key:∀ (ls:List (List Grp)) (o:List Grp),x∈ls.foldl rz o↔x∈o∨∃ a∈ls,x∈a:=by
  intro ls
  induction ls with
  | nil=>intro o; simp
  | cons a t ih=>intro o; rw [List.foldl_cons,ih,NQ,or_assoc]; simp
 have:=key ls []
 simpa [groups] using this
theorem qx {cs:List Cm} {f:Cm->List Grp} {x:Grp}:x∈cs.foldl (λ(o:List Grp) (y:Cm)=>groups [o,f y]) []↔∃ y∈cs,x∈f y:=by
 have key:∀ (cs:List Cm) (o:List Grp),x∈cs.foldl (λ(o:List Grp) (y:Cm)=>groups [o,f y]) o↔x∈o∨∃ y∈cs,x∈f y:=by
  intro cs
  induction cs with
  | nil=>intro o; simp
  | cons a t ih=>intro o; rw [List.foldl_cons,ih,lY]; simp [or_assoc]
 have:=key cs []
 simpa using this
theorem kT {cs:List Cm} {s:Sd}:s∈(joined cs).seeds↔∃ x∈cs,s∈x.mem.seeds:=by
 show s∈ry _↔_
 rw [(jO _).2,List.mem_flatMap]
theorem uj {cs:List Cm} {g:Grp}:g∈(joined cs).pre↔∃ x∈cs,g∈x.mem.pre:=qx (f:=λx=>x.mem.pre)
theorem rG {cs:List Cm} {g:Grp}:g∈(joined cs).post↔∃ x∈cs,g∈x.mem.post:=qx (f:=λx=>x.mem.post)
theorem CJ {c:FC} {f:Fe} {cs:List Cm} (h:cs≠[]):(jN c f cs).seeds=(joined cs).seeds/\(jN c f cs).args=f.args/\(∀ g∈(joined cs).pre,g∈(jN c f cs).pre)/\(∀ g∈(joined cs).post,g∈(jN c f cs).post):=by
 unfold jN
 simp only []
 rw [if_neg h]
 exact ⟨rfl,rfl,λg hg=>lY.2 ⟨_,by simp,hg⟩,λg hg=>lY.2 ⟨_,by simp,hg⟩⟩
theorem Lj {c:FC} {f:Fe}:(jN c f []).seeds=[⟨c.name,f.name⟩]:=rfl
theorem Iu {a b:Mb}:Sk.sameTy a b=true↔a.args=b.args/\a.ty=b.ty:=by simp [Sk.sameTy]
theorem flatMap_nil {α β : Type} {f : α -> List β} {xs:List α} (h:xs.flatMap f=[]):∀ x∈xs,f x=[]:=λx hx=>by
 cases hf:f x with
 | nil=>rfl
 | cons y t =>
  have:y∈xs.flatMap f:=List.mem_flatMap.2 ⟨x,hx,by rw [hf]; simp⟩
  rw [h] at this; cases this
structure Calm (l:FS) (n:Nm):Prop where
 lost:(skF l n false).lost=[]
 redecl:(skF l n false).redeclared=[]
 typed:(skF l n false).typed=[]
 chosen:(skF l n false).chosen=[]
 apart:(skF l n false).apart=[]
theorem okF.calm {n:Nm} (h:okF l n):Calm l n:=by
 have h1:(skF l n false).conflicts=[]:=h.1
 unfold Sk.conflicts at h1
 simp only [List.append_eq_nil_iff] at h1
 exact ⟨h1.1,h1.2.1,h1.2.2.1,h1.2.2.2.1,h1.2.2.2.2⟩
theorem Ll {fl:Nm->Fl} {c:FC} {i:Nat} {p:Pt} {m:Mb} (hp:c.pars[i]? = some p) (hm:m∈(fl p.name).mems):ru (ae l p.name).forms i p m∈comes fl l c :=
 List.mem_flatMap.2 ⟨(p,i),List.mem_zipIdx_iff_getElem?.2 hp,List.mem_map.2 ⟨m,hm,rfl⟩⟩
theorem Lm {s:Sk} {n:Nm}:n∈s.skeys↔∃ x∈s.cs,x.mem.name=n:=by
 unfold Sk.skeys
 rw [(iQ _).2,ku]
theorem Good.come (h : Good l) {n : Nm} (hn : (bQ l n).isSome = true) {x : Cm} (hx : x ∈ comes (FL l) l (ae l n)) :
  ∃ m∈msF l n,m.name=x.mem.name/\(∀ s∈x.mem.seeds,s∈m.seeds)/\m.args=x.mem.args/\(∀ g∈x.mem.pre,g∈m.pre)/\(∀ g∈x.mem.post,g∈m.post):=by
 have hc:=(h.ok n hn).calm
 obtain ⟨g1,g2,g3,g4⟩:=h.mems hn
 obtain ⟨k1,k2,k3⟩:=h.class hn
 have hu:x∈under (comes (FL l) l<|ae l n) x.mem.name:=fT.2 ⟨hx,rfl⟩
 have ht:=(List.append_eq_nil_iff.1 hc.typed).1
 have hk:x.mem.name∈(skF l n false).skeys:=Lm.2 ⟨x,hx,rfl⟩
 have ht1:=flatMap_nil<|flatMap_nil ht _ hk
 cases hf:feat (ae l n) x.mem.name with
 | none =>
  refine ⟨joined (under (comes (FL l) l<|ae l n) x.mem.name),(g4 _).2 (.inl ⟨_,⟨x,hx,rfl⟩,hf,rfl⟩),xQ (ku.2 ⟨x,hx,rfl⟩),λs hs=>kT.2 ⟨x,hu,hs⟩,?_,λg hg=>uj.2 ⟨x,hu,hg⟩,λg hg=>rG.2 ⟨x,hu,hg⟩⟩
  obtain ⟨y,hy,_,_,_,hya,_⟩:=mU _<|List.ne_nil_of_mem hu
  rw [hya]
  have hs:∀ z∈under (comes (FL l) l<|ae l n) x.mem.name,∀ w,(under (comes (FL l) l<|ae l n) x.mem.name).head? = some w->w.mem.args=z.mem.args:=λz hz w hw=>by
   have h1:=ht1 z hz
   have hf':feat (skF l n false).c x.mem.name=none:=hf
   rw [hf'] at h1
   simp only [] at h1
   have hw':(under (skF l n false).cs x.mem.name).head? = some w:=hw
   rw [hw'] at h1
   by_cases hq:Sk.sameTy ((some w).getD z).mem z.mem=true
   ·exact (Iu.1 hq).1
   ·rw [if_neg hq] at h1; cases h1
  cases hw:(under (comes (FL l) l<|ae l n) x.mem.name).head? with
  | none =>
   rw [List.head?_eq_none_iff] at hw
   rw [hw] at hu; cases hu
  | some w=>rw [<- hs y hy w hw,<- hs x hu w hw]
 | some f =>
  obtain ⟨hfm,hfn⟩:=Lg hf
  have hne:under (comes (FL l) l<|ae l n) f.name≠[]:=by rw [hfn]; exact List.ne_nil_of_mem hu
  obtain ⟨o1,o2,o3,o4⟩:=CJ (c:=ae l n) (f:=f) hne
  refine ⟨jN (ae l n) f (under (comes (FL l) l<|ae l n) f.name),(g4 _).2 (.inr ⟨f,hfm,rfl⟩),by rw [CF,hfn],λs hs=>?_,?_,λg hg=>o3 g (uj.2 ⟨x,by rw [hfn]; exact hu,hg⟩),λg hg=>o4 g<|rG.2 ⟨x,by rw [hfn]; exact hu,hg⟩⟩
  ·rw [o1]; exact kT.2 ⟨x,by rw [hfn]; exact hu,hs⟩
  ·rw [o2]
   have h1:=ht1 x hu
   have hf':feat (skF l n false).c x.mem.name=some f:=hf
   rw [hf'] at h1
   simp only [] at h1
   split at h1
   ·rename_i hq
    simp only [Bool.and_eq_true,decide_eq_true_eq] at hq
    exact hq.1
   ·cases h1
theorem Good.seeds_ne (h:Good l):∀ c,(bQ l c).isSome=true->∀ m∈msF l c,m.seeds≠[]:=by
 refine oN h.sys.acyc λc ih hc m hm=>?_
 have hj:∀ xs:List Cm,xs≠[]->(∀ x∈xs,x∈comes (FL l) l (ae l c))->(joined xs).seeds≠[]:=λxs hne hxs=>by
  obtain ⟨x,hx⟩:=List.exists_mem_of_ne_nil _ hne
  obtain ⟨p,hp,m1,hm1,he⟩:=jl<|hxs x hx
  have hpm:=eY h.sys<|List.mem_of_getElem? hp
  rw [jC h.sys] at hm1
  obtain ⟨s,hs⟩:=List.exists_mem_of_ne_nil _<|ih _ hpm (by rw [<- ed]; exact mF hpm) m1 hm1
  exact List.ne_nil_of_mem<|kT.2 ⟨x,hx,by rw [he]; exact hs⟩
 rcases ((h.mems hc).2.2.2 m).1 hm with ⟨n,⟨x,hx,hn⟩,_,rfl⟩ | ⟨f,hf,rfl⟩
 ·exact hj _ (List.ne_nil_of_mem<|fT.2 ⟨hx,hn⟩) λy hy=>(fT.1 hy).1
 ·by_cases hu:under (comes (FL l) l<|ae l c) f.name=[]
  ·rw [hu,Lj]; simp
  ·rw [(CJ hu).1]
   exact hj _ hu λy hy=>(fT.1 hy).1

/-! ### Names that are selected -/
theorem lZ {ms:List Mb} {s:Sd} {n:Nm}:n∈bn ms s↔∃ m∈ms,s∈m.seeds/\m.name=n:=by
 unfold bn
 rw [List.mem_map]
 constructor
 ·rintro ⟨m,h,rfl⟩
  obtain ⟨h1,h2⟩:=List.mem_filter.1 h
  exact ⟨m,h1,by simpa using h2,rfl⟩
 ·rintro ⟨m,h1,h2,rfl⟩
  exact ⟨m,List.mem_filter.2 ⟨h1,by simpa using h2⟩,rfl⟩
theorem Good.pick_mem (h:Good l) {s:Sd} {c:Nm} (hc:(bQ l c).isSome=true) (hl:((picked (ae l c) (having (comes (FL l) l (ae l c)) s)).length == 1)=true) :
  ko (picked (ae l c)<|having (comes (FL l) l<|ae l c) s)∈bn (msF l c) s:=by
 have hl:(picked (ae l c)<|having (comes (FL l) l<|ae l c) s).length=1:=by simpa using hl
 match hp:picked (ae l c) (having (comes (FL l) l<|ae l c) s),hl with
 | [a],_ =>
  show a∈_
  have ha:a∈picked (ae l c) (having (comes (FL l) l<|ae l c) s):=by rw [hp]; simp
  unfold picked at ha
  rw [y8] at ha
  rcases ha with ha | ha
  ·cases ha
  obtain ⟨x,hx,rfl⟩:=List.mem_map.1 ha
  obtain ⟨hx1,_⟩:=List.mem_filter.1 hx
  obtain ⟨hx2,hx3⟩:=List.mem_filter.1 hx1
  obtain ⟨m,hm,j1,j2,_⟩:=h.come hc hx2
  exact lZ.2 ⟨m,hm,j2 s (by simpa using hx3),j1⟩
theorem Good.sel_mem (h:Good l) {s:Sd}:∀ (n:Nat) (c:Nm),(bQ l c).isSome=true->(eT (FL l) l n (ae l c) (msF l c) s).2=true->(eT (FL l) l n (ae l c) (msF l c) s).1∈bn (msF l c) s:=by
 intro n
 induction n with
 | zero =>
  intro c hc
  unfold eT
  split
  ·rename_i a ha
   intro _; rw [ha]; simp
  ·simp only []
   split
   ·rename_i hq
    intro h1
    exact h.pick_mem hc h1
   ·split
    ·rename_i h2; cases h2
    ·intro h1; cases h1
 | succ n ih =>
  intro c hc
  unfold eT
  split
  ·rename_i a ha
   intro _; rw [ha]; simp
  ·simp only []
   split
   ·rename_i hq
    intro h1
    exact h.pick_mem hc h1
   ·split
    ·rename_i i t n' h1 h2
     cases h2
     have hi:i∈bX (having (comes (FL l) l<|ae l c) s):=by rw [h1]; simp
     have hpm:dF (ae l c) i∈(ae l c).pars:=rE hi
     have hpp:=eY h.sys hpm
     have hpc:(bQ l (dF (ae l c) i).name).isSome=true:=by rw [<- ed]; exact mF hpp
     split
     ·intro h3
      rw [jC h.sys] at h3 ⊢
      obtain ⟨m,hm,hs,hmn⟩:=lZ.1<|ih _ hpc h3
      have hpi:(ae l c).pars[i]? = some (dF (ae l c) i):=by
       obtain ⟨x,hx,rfl⟩:=pJ.1 hi
       obtain ⟨p,hp,_⟩:=jl (List.mem_filter.1 hx).1
       unfold dF; rw [hp]; rfl
      obtain ⟨m2,hm2,j1,j2,_⟩:=h.come hc<|Ll (fl:=FL l) (l:=l) hpi (m:=m) (by rw [jC h.sys]; exact hm)
      refine lZ.2 ⟨m2,hm2,j2 s hs,?_⟩
      rw [j1,<- hmn]; rfl
     ·intro h3; cases h3
    ·intro h1; cases h1
end
def jP (l:FS) (c:Nm) (s:Sd):List Nm×Int:=if wholeE l [c]≠0 then ([],wholeE l [c]) else if bn (look (build l).1 c).mems s=[] then ([],5) else (bn (look (build l).1 c).mems s,0)
def selOf (l:FS) (c:Nm) (s:Sd):Nm×Bool:=eT (look (build l).1) l l.length (ae l c) (look (build l).1 c).mems s
def CK (l:FS) (c:Nm) (s:Sd):Nm×Int:=if (jP l c s).2≠0 then ([],(jP l c s).2) else ((selOf l c s).1,0)
def ul (ms:List Mb) (ss:List Sd):List Nm:=(ms.filter λx=>ss.all λs=>x.seeds.contains s).map λx=>x.name
def vT (l:FS) (d c n:Nm):Nm×Int :=
 if (bP l [d] c n).2≠0 then ([],(bP l [d] c n).2) else if has (bC l) d c=false then ([],5) else
 match ul (look (build l).1 d).mems (bP l [d] c n).1.seeds with
 | []=>([],5)
 | [a]=>(a,0)
 | a::b::t=>if (a::b::t).contains (selOf l d ((bP l [d] c n).1.seeds.headD ⟨[],[]⟩)).1 then ((selOf l d ((bP l [d] c n).1.seeds.headD ⟨[],[]⟩)).1,0) else ([],5)
section
variable {l:FS}
theorem Lp (h:Good l) {c:Nm} (hc:(bQ l c).isSome=true) (n:Nat) (ms:List Mb) (s:Sd):eT (look (build l).1) l n (ae l c) ms s=eT (FL l) l n (ae l c) ms s :=
 uh h.sys n c ms s λa h1 _=>h.look (by rw [<- ed]; exact uM (by rw [ed]; exact hc) h1)
theorem Good.selOf (h:Good l) {c:Nm} (hc:(bQ l c).isSome=true) (s:Sd):Fl.selOf l c s=eT (FL l) l l.length (ae l c) (msF l c) s:=by
 unfold Fl.selOf
 rw [Lp h hc,h.look hc,jC h.sys]
theorem Good.names (h:Good l) {c:Nm} (hc:(bQ l c).isSome=true) (s:Sd):jP l c s=if bn (msF l c) s=[] then ([],5) else (bn (msF l c) s,0):=by
 unfold jP
 rw [if_neg (λh2=>h2<|h.whole.2<|by simpa using hc),h.look hc,jC h.sys]
theorem Good.sel_ok (h : Good l) {c : Nm} (hc : (bQ l c).isSome = true) {s : Sd} {m : Mb} (hm : m ∈ msF l c) (hs : s ∈ m.seeds) :
  (eT (FL l) l l.length (ae l c) (msF l c) s).2=true/\(eT (FL l) l l.length (ae l c) (msF l c) s).1∈bn (msF l c) s:=by
 have key : (eT (FL l) l l.length (ae l c) (msF l c) s).2 = true := by
  cases hq:(eT (FL l) l l.length (ae l c) (msF l c) s).2 with
  | true=>rfl
  | false =>
   exfalso
   have h1:=(List.append_eq_nil_iff.1 (List.append_eq_nil_iff.1 (h.ok c hc).calm.chosen).1).1
   have hsd:s∈(skF l c false).seeds:=by
    unfold Sk.seeds
    rw [(jO _).2,List.mem_flatMap]
    exact ⟨m,hm,hs⟩
   have h2:=flatMap_nil h1 s hsd
   have hq':((skF l c false).sel s).2=false:=hq
   rw [hq',if_neg (by decide)] at h2
   have hn:m.name∈bn (msF l c) s:=lZ.2 ⟨m,hm,hs,rfl⟩
   match hl:bn (msF l c) s,hn with
   | [a],_ =>
    have:(eT (FL l) l l.length (ae l c) (msF l c) s).2=true:=by unfold eT; rw [hl]
    rw [hq] at this; cases this
   | a::b::t,_ =>
    have hmem:∀ f,f a b∈(skF l c false).pairs (bn (msF l c) s) (λ_ _=>true) f:=λf=>NN.2 ⟨0,1,a,b,by rw [hl]; rfl,by rw [hl]; rfl,by decide,λ_=>by decide,rfl,rfl⟩
    have h3:∀ r:List Cf,(skF l c false).cut r=[]->r=[]:=λr hr=>by
     cases r with
     | nil=>rfl
     | cons x t=>simp [Sk.cut,skF] at hr
    have h4:=h3 _ h2
    have h5:=hmem λa b=>⟨11,(skF l c false).c.name,a,b,⟨s.cls,s.name⟩,og0⟩
    have h6:(skF l c false).pairs (bn (skF l c false).ms s) (λ_ _=>true) (λa b=>⟨11,(skF l c false).c.name,a,b,⟨s.cls,s.name⟩,og0⟩)=[]:=h4
    have h7:(skF l c false).ms=msF l c:=rfl
    rw [h7] at h6
    rw [h6] at h5; cases h5
 exact ⟨key,h.sel_mem _ c hc key⟩
theorem Good.selected (h:Good l) {c:Nm} (hc:(bQ l c).isSome=true) {s:Sd} {m:Mb} (hm:m∈msF l c) (hs:s∈m.seeds):jP l c s=(bn (msF l c) s,0)/\CK l c s=((Fl.selOf l c s).1,0)/\(Fl.selOf l c s).1∈bn (msF l c) s:=by
 have hne:bn (msF l c) s≠[]:=List.ne_nil_of_mem<|lZ.2 ⟨m,hm,hs,rfl⟩
 have h1:jP l c s=(bn (msF l c) s,0):=by rw [h.names hc,if_neg hne]
 refine ⟨h1,?_,?_⟩
 ·unfold CK; rw [h1,if_neg (by simp)]
 ·rw [h.selOf hc]; exact (h.sel_ok hc hm hs).2
end
section
variable {l m:FS}
theorem CL (hr:Right (bC l)) {fl:Nm->Fl}:∀ (f g:Nat) (c:Nm) (ms:List Mb) (s:Sd),(bQ l c).isSome=true->rk (bC l) c≤f->rk (bC l) c≤g->eT fl l f (ae l c) ms s=eT fl l g (ae l c) ms s:=by
 have h1:∀ c,(bQ l c).isSome=true->1≤rk (bC l) c:=λc hc=>by
  unfold rk
  exact List.countP_pos_iff.2 ⟨c,fJ.1 (by rw [ed]; exact hc),nM _ c⟩
 intro f
 induction f with
 | zero=>intro g c ms s hc h2; have:=h1 c hc; omega
 | succ f ih =>
  intro g c ms s hc h2 h3
  cases g with
  | zero=>have:=h1 c hc; omega
  | succ g =>
   unfold eT
   split
   ·rfl
   ·simp only []
    split
    ·rfl
    ·split
     ·rename_i i t n' e1 e2
      cases e2
      rw [e1]
      simp only []
      have hi:i∈bX (having (comes fl l<|ae l c) s):=by rw [e1]; simp
      have hpp:=eY hr<|rE hi
      have:=iM hr.acyc hpp
      rw [ih g _ _ s (by rw [<- ed]; exact mF hpp) (by omega) (by omega)]
     ·rename_i e1
      split
      ·rename_i i t n' e2 e3
       cases e3
       exact absurd rfl<|e1 i t f e2
      ·rfl
structure Agree (l m:FS) (D:Nm->Prop):Prop where
 left:Right (bC l)
 right:Right (bC m)
 find:∀ c,D c->bQ m c=bQ l c
 up:∀ c,D c->∀ p∈par (bC l) c,D p
 there:∀ c,D c->(bQ l c).isSome=true
variable {D:Nm->Prop}
theorem Agree.class (h:Agree l m D) {c:Nm} (hc:D c):ae m c=ae l c:=by unfold ae; rw [h.find c hc]
theorem Agree.par (h:Agree l m D) {c:Nm} (hc:D c):Hr.par (bC m) c=Hr.par (bC l) c:=by rw [zY h.left,zY h.right,h.class hc]
theorem Agree.W (h:Agree l m D) {a:Nm}:∀ (k:Nat) {c:Nm},D c->Hr.W (bC m) a k c=Hr.W (bC l) a k c
 | 0,c,_=>rfl
 | k+1,c,hc=>by
  show (Hr.par (bC m) c).any _=(Hr.par (bC l) c).any _
  rw [h.par hc,Bool.eq_iff_iff,List.any_eq_true,List.any_eq_true]
  exact ⟨λ⟨p,h1,h2⟩=>⟨p,h1,by rw [<- h.W k (h.up c hc p h1)]; exact h2⟩,λ⟨p,h1,h2⟩=>⟨p,h1,by rw [h.W k (h.up c hc p h1)]; exact h2⟩⟩
theorem Agree.has (h:Agree l m D) {c a:Nm} (hc:D c):Hr.has (bC m) c a=Hr.has (bC l) c a:=by
 rw [Bool.eq_iff_iff,gp,gp]
 exact ⟨λ⟨k,hk⟩=>⟨k,by rw [<- h.W k hc]; exact hk⟩,λ⟨k,hk⟩=>⟨k,by rw [h.W k hc]; exact hk⟩⟩
theorem Agree.above (h:Agree l m D):∀ c,D c->Hr.above (bC m) c=Hr.above (bC l) c:=by
 refine oN h.left.acyc λc ih hc=>?_
 rw [BP h.left.acyc,BP h.right.acyc,h.par hc]
 congr 1
 have key:∀ (ps o:List Nm),(∀ p∈ps,p∈Hr.par (bC l) c)->ps.foldl (λo p=>dd o<|Hr.above (bC m) p) o=ps.foldl (λo p=>dd o<|Hr.above (bC l) p) o:=by
  intro ps
  induction ps with
  | nil=>intro _ _; rfl
  | cons p t ih2 =>
   intro o hp
   rw [List.foldl_cons,List.foldl_cons,ih p (hp p<|by simp) (h.up c hc p<|hp p<|by simp)]
   exact ih2 _ λq hq=>hp q<|by simp [hq]
 exact key _ [] λ_ h=>h
theorem Agree.parD (h:Agree l m D) {c:Nm} (hc:D c) {p:Pt} (hp:p∈(ae l c).pars):D p.name:=h.up c hc _ (eY h.left hp)
theorem Agree.upD (h:Agree l m D):∀ c,D c->∀ a,Hr.has (bC l) c a=true->D a:=by
 refine oN h.left.acyc λc ih hc a ha=>?_
 rcases ww ha with rfl | ⟨p,hp,hpa⟩
 ·exact hc
 ·exact ih p hp (h.up c hc p hp) a hpa
theorem si {fl fl':Nm->Fl} {c:FC} (h1:∀ p∈c.pars,fl p.name=fl' p.name) (h2:∀ p∈c.pars,ae m p.name=ae l p.name):comes fl l c=comes fl' m c:=by
 unfold comes
 refine dG λq hq=>?_
 rw [h1 q.1 (yT hq),h2 q.1 (yT hq)]
theorem Agree.FL (h:Agree l m D):∀ c,D c->Fl.FL m c=Fl.FL l c:=by
 refine oN h.left.acyc λc ih hc=>?_
 rw [FZ h.left,FZ h.right]
 have h1:comes (Fl.FL l) l (ae l c)=comes (Fl.FL m) m (ae l c):=si (λp hp=>(ih _ (eY h.left hp)<|h.parD hc hp).symm) λp hp=>h.class<|h.parD hc hp
 have h2:msF m c=msF l c:=by unfold msF; rw [h.class hc,h1]
 rw [h.class hc,h2]
 have hn:(ae l c).name=c:=by
  obtain ⟨x,hx⟩:=Option.isSome_iff_exists.1<|h.there c hc
  rw [iI hx,pM hx]
 unfold flatOf
 rw [hn,h.above c hc]
 congr 1
 refine oK λa ha=>?_
 rw [h.class (h.upD c hc a (((jH h.left.acyc c).2 a).1 ha))]
theorem Agree.ms (h:Agree l m D) {c:Nm} (hc:D c):msF m c=msF l c:=by rw [<- jC h.right,<- jC h.left,h.FL c hc]
theorem Agree.sel (h:Agree l m D) {s:Sd}:∀ (n:Nat) (c:Nm),D c->∀ ms,eT (Fl.FL m) m n (ae l c) ms s=eT (Fl.FL l) l n (ae l c) ms s:=by
 intro n
 induction n with
 | zero =>
  intro c hc ms
  have h1:comes (Fl.FL l) l (ae l c)=comes (Fl.FL m) m (ae l c):=si (λp hp=>(h.FL _<|h.parD hc hp).symm) λp hp=>h.class<|h.parD hc hp
  unfold eT
  rw [h1]
  split
  ·rfl
  ·simp only []
   split
   ·rfl
   ·split
    ·rename_i e; cases e
    ·rfl
 | succ n ih =>
  intro c hc ms
  have h1:comes (Fl.FL l) l (ae l c)=comes (Fl.FL m) m (ae l c):=si (λp hp=>(h.FL _<|h.parD hc hp).symm) λp hp=>h.class<|h.parD hc hp
  unfold eT
  rw [h1]
  split
  ·rfl
  ·simp only []
   split
   ·rfl
   ·split
    ·rename_i i t n' e1 e2
     cases e2
     have hi:i∈bX (having (comes (Fl.FL m) m<|ae l c) s):=by rw [e1]; simp
     have hd:=h.parD hc<|rE hi
     rw [h.class hd,h.FL _ hd,ih _ hd]
    ·rfl
theorem Agree.conf (h:Agree l m D) {c:Nm} (hc:D c) (all:Bool):vO m c all=vO l c all:=by
 unfold vO skF
 rw [h.class hc,h.ms hc]
 refine (Cz (si (λp hp=>(h.FL _<|h.parD hc hp).symm) λp hp=>h.class<|h.parD hc hp) (λp hp=>(h.FL _<|h.parD hc hp).symm) λd=>?_).symm
 show eT (Fl.FL l) l l.length (ae l c) (msF l c) d=eT (Fl.FL m) m m.length (ae l c) (msF l c) d
 have hr1:=qI (bC l) c
 have hr2:=qI (bC m) c
 rw [kr] at hr1 hr2
 have e1:eT (Fl.FL m) m m.length (ae l c) (msF l c) d=eT (Fl.FL m) m (l.length+m.length) (ae l c) (msF l c) d:=by
  rw [<- h.class hc]
  exact CL h.right _ _ c _ d (by rw [h.find c hc]; exact h.there c hc) hr2<|by omega
 rw [e1,h.sel _ c hc,CL h.left l.length (l.length+m.length) c _ d (h.there c hc) hr1 (by omega)]
theorem Agree.okF (h:Agree l m D) {c:Nm} (hc:D c):Fl.okF m c↔Fl.okF l c:=by unfold Fl.okF; rw [h.conf hc,h.ms hc]

/-! ### The classes in another order -/
/-! ### A class behind the others -/
end
def rv (c:FC):FC:={ c with pars:=c.pars.reverse }
def tl (l:FS):FS:=l.map rv
structure MR (a b:Mb):Prop where
 name:a.name=b.name
 kind:a.kind=b.kind
 seeds:a.seeds=b.seeds
 args:a.args=b.args
 ty:a.ty=b.ty
 impl:a.kind≠3->a.impl=b.impl
 pre:∀ g,g∈a.pre↔g∈b.pre
 post:∀ g,g∈a.post↔g∈b.post
theorem MR.refl (a:Mb):MR a a:=⟨rfl,rfl,rfl,rfl,rfl,λ_=>rfl,λ_=>Iff.rfl,λ_=>Iff.rfl⟩
inductive ML:List Mb->List Mb->Prop
 | nil:ML [] []
 | cons {a b:Mb} {s t:List Mb}:MR a b->ML s t->ML (a::s) (b::t)
theorem ML.left {xs ys:List Mb} (h:ML xs ys):∀ a∈xs,∃ b∈ys,MR a b:=by
 induction h with
 | nil=>simp
 | cons h1 _ ih =>
  intro a ha
  rcases List.mem_cons.1 ha with rfl | ha
  ·exact ⟨_,by simp,h1⟩
  ·obtain ⟨b,hb,h2⟩:=ih a ha
   exact ⟨b,by simp [hb],h2⟩
theorem ML.right {xs ys:List Mb} (h:ML xs ys):∀ b∈ys,∃ a∈xs,MR a b:=by
 induction h with
 | nil=>simp
 | cons h1 _ ih =>
  intro a ha
  rcases List.mem_cons.1 ha with rfl | ha
  ·exact ⟨_,by simp,h1⟩
  ·obtain ⟨b,hb,h2⟩:=ih a ha
   exact ⟨b,by simp [hb],h2⟩
theorem ML.len {xs ys:List Mb} (h:ML xs ys):xs.length=ys.length:=by
 induction h with
 | nil=>rfl
 | cons _ _ ih=>simp [ih]
theorem ML.at {xs ys:List Mb} (h:ML xs ys):∀ (i:Nat) (a b:Mb),xs[i]? = some a->ys[i]? = some b->MR a b:=by
 induction h with
 | nil=>intro i a b h; simp at h
 | cons h1 _ ih =>
  intro i a b ha hb
  cases i with
  | zero=>simp at ha hb; subst ha hb; exact h1
  | succ i=>exact ih i a b (by simpa using ha) (by simpa using hb)
theorem ML.filter {xs ys:List Mb} {f g:Mb->Bool} (h:ML xs ys) (hf:∀ a b,MR a b->f a=g b):ML (xs.filter f) (ys.filter g):=by
 induction h with
 | nil=>exact .nil
 | @cons a b s t h1 _ ih =>
  rw [List.filter_cons,List.filter_cons,hf a b h1]
  split
  ·exact .cons h1 ih
  ·exact ih
theorem ML.map {α : Type} {xs ys:List Mb} {f g:Mb -> α} (h:ML xs ys) (hf:∀ a b,MR a b->f a=g b):xs.map f=ys.map g:=by
 induction h with
 | nil=>rfl
 | @cons a b s t h1 _ ih=>rw [List.map_cons,List.map_cons,ih,hf a b h1]
theorem ML.any {xs ys:List Mb} {f g:Mb->Bool} (h:ML xs ys) (hf:∀ a b,MR a b->f a=g b):xs.any f=ys.any g:=by
 induction h with
 | nil=>rfl
 | @cons a b s t h1 _ ih=>rw [List.any_cons,List.any_cons,ih,hf a b h1]
theorem ML.named {xs ys:List Mb} (h:ML xs ys) (s:Sd):bn xs s=bn ys s:=(h.filter λa b hab=>by rw [hab.seeds]).map λa b hab=>hab.name
theorem ML.find {xs ys:List Mb} (h:ML xs ys) (n:Nm):(dI xs n=none/\dI ys n=none)∨∃ a b,dI xs n=some a/\dI ys n=some b/\MR a b:=by
 induction h with
 | nil=>exact .inl ⟨rfl,rfl⟩
 | @cons a b s t h1 _ ih =>
  unfold dI at ih ⊢
  rw [List.find?_cons,List.find?_cons,<- h1.name]
  cases hq:a.name == n with
  | true=>exact .inr ⟨a,b,rfl,rfl,h1⟩
  | false=>exact ih
theorem ML.of : ∀ {xs ys : List Mb}, qE xs -> qE ys -> (∀ a ∈ xs, ∃ b ∈ ys, MR a b) -> (∀ b ∈ ys, ∃ a ∈ xs, MR a b) -> ML xs ys
 | [],[],_,_,_,_=>.nil
 | [],y::t,_,_,_,h=>by obtain ⟨a,ha,_⟩:=h y (by simp); cases ha
 | x::s,[],_,_,h,_=>by obtain ⟨a,ha,_⟩:=h x (by simp); cases ha
 | x :: s, y :: t, h1, h2, h3, h4 => by
  obtain ⟨a1,a2⟩:=List.pairwise_cons.1 h1
  obtain ⟨b1,b2⟩:=List.pairwise_cons.1 h2
  have hn:x.name=y.name:=by
   obtain ⟨b,hb,hxb⟩:=h3 x<|by simp
   obtain ⟨a,ha,hay⟩:=h4 y<|by simp
   rcases List.mem_cons.1 hb with rfl | hb
   ·exact hxb.name
   rcases List.mem_cons.1 ha with rfl | ha
   ·exact hay.name
   ·have e1:=b1 b hb
    have e2:=a1 a ha
    rw [<- hxb.name] at e1
    rw [hay.name] at e2
    rw [iP e1] at e2; cases e2
  have hxy:MR x y:=by
   obtain ⟨b,hb,hxb⟩:=h3 x<|by simp
   rcases List.mem_cons.1 hb with rfl | hb
   ·exact hxb
   ·have e1:=b1 b hb
    rw [<- hxb.name,hn,lt_irrefl] at e1; cases e1
  refine .cons hxy (ML.of a2 b2 (λa ha=>?_) λb hb=>?_)
  ·obtain ⟨b,hb,hab⟩:=h3 a<|by simp [ha]
   rcases List.mem_cons.1 hb with rfl | hb
   ·have e1:=a1 a ha
    rw [hab.name,hn,lt_irrefl] at e1; cases e1
   ·exact ⟨b,hb,hab⟩
  ·obtain ⟨a,ha,hab⟩:=h4 b<|by simp [hb]
   rcases List.mem_cons.1 ha with rfl | ha
   ·have e1:=b1 b hb
    rw [<- hab.name,hn,lt_irrefl] at e1; cases e1
   ·exact ⟨a,ha,hab⟩
section
variable {l:FS}
/-! ### What comes -/
structure CR (k:Nat) (x y:Cm):Prop where
 og:x.og=y.og
 par:x.par+y.par+1=k
 mem:MR x.mem y.mem
 was:x.was=y.was
theorem CR.dfd {k:Nat} {x y:Cm} (h:CR k x y):x.dfd=y.dfd:=by unfold Cm.dfd; rw [h.mem.kind]
def PR (l:FS) (fl fl':Nm->Fl) (c:FC):Prop:=∀ p∈c.pars,ML (fl p.name).mems (fl' p.name).mems
section
variable {fl fl':Nm->Fl} {c:FC}
end
end
section
variable {l:FS}
theorem Good.kinds (h:Good l):∀ c,(bQ l c).isSome=true->∀ m∈msF l c,m.kind≠3->∃ f,feat (ae l m.impl.cls) m.impl.name=some f/\f.kind=m.kind:=by
 refine oN h.sys.acyc λc ih hc m hm=>?_
 have hj : ∀ x ∈ comes (FL l) l (ae l c), x.mem.kind ≠ 3 -> ∃ f, feat (ae l x.mem.impl.cls) x.mem.impl.name = some f /\ f.kind = x.mem.kind := λx hx hk => by
  obtain ⟨p,hp,m1,hm1,he⟩:=jl hx
  have hpm:=eY h.sys<|List.mem_of_getElem? hp
  rw [jC h.sys] at hm1
  have hk1:x.mem.kind=m1.kind:=by
   rw [he] at hk ⊢
   show (if _ then _ else _)=_
   split
   ·rename_i hq
    exfalso; apply hk
    show (if _ then _ else _)=_
    rw [if_pos hq]
   ·rfl
  obtain ⟨f,h1,h2⟩:=ih _ hpm (by rw [<- ed]; exact mF hpm) m1 hm1 (by rw [<- hk1]; exact hk)
  have hi:x.mem.impl=m1.impl:=by rw [he]; rfl
  exact ⟨f,by rw [hi]; exact h1,by rw [hk1]; exact h2⟩
 rcases ((h.mems hc).2.2.2 m).1 hm with ⟨n,⟨x,hx,hn⟩,_,rfl⟩ | ⟨f,hf,rfl⟩
 ·intro hk
  obtain ⟨y,hy,_,j2,j3,_⟩:=mU _<|List.ne_nil_of_mem<|fT.2 ⟨hx,hn⟩
  rw [j2] at hk
  rw [j3,j2]
  exact hj y (fT.1 hy).1 hk
 ·intro _
  have h1:(jN (ae l c) f<|under (comes (FL l) l<|ae l c) f.name).impl=⟨(ae l c).name,f.name⟩/\(jN (ae l c) f<|under (comes (FL l) l<|ae l c) f.name).kind=f.kind:=by
   unfold jN; simp only []; split <;> exact ⟨rfl,rfl⟩
  rw [h1.1,h1.2]
  obtain ⟨g1,g2,_⟩:=h.class hc
  exact ⟨f,by rw [g2]; exact Ga g1.names hf,rfl⟩
structure Still (s:Sk):Prop where
 l1:∀ (i:Nat) (p:Pt),s.c.pars[i]? = some p->∀ r∈p.ren,(dI (s.fl p.name).mems r.fro).isSome=true
 l1':∀ (i:Nat) (p:Pt),s.c.pars[i]? = some p->∀ n∈p.und++p.red++p.sel,s.fro i n≠[]
 l2:∀ p∈s.c.pars,∀ n∈p.und,n ∉ p.red
 l3:∀ (i:Nat) (p:Pt),s.c.pars[i]? = some p->∀ m∈(s.fl p.name).mems,(s.fro i<|bN p m.name).length≤1
 l4:∀ (i:Nat) (p:Pt),s.c.pars[i]? = some p->∀ n∈p.und,∀ x∈s.fro i n,x.was=2
 l5:∀ p∈s.c.pars,∀ n∈p.red,(feat s.c n).isSome=true
 red:∀ k,k<3->∀ f,∀ x∈s.cs,feat s.c x.mem.name=some f->s.redK f x k=false
 t1:∀ x∈s.cs,∀ y∈s.cs,x.mem.name=y.mem.name->feat s.c x.mem.name=none->Sk.sameTy x.mem y.mem=true
 t1':∀ x∈s.cs,∀ f,feat s.c x.mem.name=some f->f.args=x.mem.args/\(f.ty.kind == 0)=(x.mem.ty.kind == 0)
 t2:∀ x∈s.cs,∀ y∈s.cs,x.mem.name=y.mem.name->feat s.c x.mem.name=none->x.dfd=false->y.dfd=false->Sk.same x.mem y.mem=true
 c1:∀ d∈s.seeds,(s.sel d).2=true
 c2:∀ (i:Nat) (p:Pt),s.c.pars[i]? = some p->∀ n∈p.sel,s.fro i n=[]∨(((dI s.ms n).getD mb0).seeds.any λd=>decide (1<(bn s.ms d).length))=true
 c3:s.c.dfd=false->∀ m∈s.ms,m.kind≠3
 ap:∀ d∈s.seeds,∀ (i k:Nat) (a b:Mb),i<k->(s.ms.filter λm=>m.seeds.contains d)[i]? = some a->(s.ms.filter λm=>m.seeds.contains d)[k]? = some b->Sk.sameTy a b=true
end
section
variable {l:FS}
theorem Ed {a b:List Nm} (h:∀ x,x∈a↔x∈b) (ha:a.Nodup) (hb:b.Nodup):a.length=b.length :=
 Nat.le_antisymm (aT ha λx hx=>(h x).1 hx) (aT hb λx hx=>(h x).2 hx)
theorem NS (xs:List Nm):(dd [] xs).Nodup:=by
 have : ∀ (xs o : List Nm), o.Nodup -> (dd o xs).Nodup := by
  intro xs
  induction xs with
  | nil=>exact λ_ h=>h
  | cons x t ih =>
   intro o h
   refine ih (Hr.step o x) ?_
   by_cases hx:x∈o
   ·rw [lF hx]; exact h
   ·rw [nO hx]
    refine List.nodup_append.2 ⟨h,by simp,λa ha b hb=>?_⟩
    simp only [List.mem_singleton] at hb
    subst hb
    exact λe=>hx (e ▸ ha)
 exact this xs [] List.nodup_nil
theorem Ac {c:FC} {xs:List Cm} {n:Nm}:n∈picked c xs↔∃ x∈xs,(dF c x.par).sel.contains x.mem.name=true/\x.mem.name=n:=by
 unfold picked
 rw [y8,List.mem_map]
 constructor
 ·rintro (h | ⟨x,h,rfl⟩)
  ·cases h
  ·exact ⟨x,(List.mem_filter.1 h).1,(List.mem_filter.1 h).2,rfl⟩
 ·rintro ⟨x,h1,h2,rfl⟩
  exact .inr ⟨x,List.mem_filter.2 ⟨h1,h2⟩,rfl⟩
end
def resN : Nm := "Result".toUTF8.data.toList
def rn (s:Nm):Nm:=if s=resN∨s=[] then s else 113::s
def Nrm (s:Nm):Prop:=s≠resN/\s≠[]
mutual
def rEx:Ex->Ex
 | .mk k n i l=>.mk k (if k=6∨k=10 then rn n else n) i (rExs l)
def rExs:List Ex->List Ex
 | []=>[]
 | a::t=>rEx a::rExs t
end
def rCla (c:Cla):Cla:=⟨c.tag,rEx c.ex⟩
def rGrp (g:Grp):Grp:=⟨g.cls,g.cs.map rCla⟩
def rVr (v:Vr):Vr:=⟨rn v.name,v.ty⟩
def rSd (s:Sd):Sd:=⟨s.cls,rn s.name⟩
def rMb (m:Mb):Mb:={ m with name:=rn m.name,args:=m.args.map rVr,impl:=rSd m.impl,seeds:=m.seeds.map rSd,pre:=m.pre.map rGrp,post:=m.post.map rGrp }
def rFl (f:Fl):Fl:={ f with mems:=f.mems.map rMb,inv:=f.inv.map rGrp }
def rFe (f:Fe):Fe:={ f with name:=rn f.name,args:=f.args.map rVr,req:=f.req.map rCla,ens:=f.ens.map rCla }
def rPn (x:Pn):Pn:=⟨rn x.fro,rn x.to⟩
def rPt (p:Pt):Pt:={ p with ren:=p.ren.map rPn,und:=p.und.map rn,red:=p.red.map rn,sel:=p.sel.map rn }
def rFC (c:FC):FC:={ c with pars:=c.pars.map rPt,feats:=c.feats.map rFe,inv:=c.inv.map rCla }
def rl (l:FS):FS:=l.map rFC
def rCm (x:Cm):Cm:={ x with og:=⟨x.og.par,rn x.og.name⟩,mem:=rMb x.mem }
structure NrmF (l:FS):Prop where
 feat:∀ c∈l,∀ f∈c.feats,Nrm f.name/\f.name.length<20
 ren:∀ c∈l,∀ p∈c.pars,∀ x∈p.ren,Nrm x.fro/\Nrm x.to/\x.fro.length<20/\x.to.length<20
section
variable {l:FS}
def NrmS (xs:List Sd):Prop:=∀ s∈xs,Nrm s.name
end
section
variable {l:FS}
def Gb (fl:Nm->Fl) (l:FS) (c:FC) (ms:List Mb) (s:Sd) (up:Pt->Nm×Bool):Nm×Bool :=
 if (bn ms s).length=1 then ((bn ms s).headD [],true)
 else if picked c (having (comes fl l c) s)≠[]∨(bX<|having (comes fl l c) s).length≠1 then (ko (picked c<|having (comes fl l c) s),(picked c<|having (comes fl l c) s).length == 1)
 else up (dF c<|(bX<|having (comes fl l c) s).headD 0)
theorem Lr {fl:Nm->Fl} {c:FC} {ms:List Mb} {s:Sd}:eT fl l 0 c ms s=Gb fl l c ms s λ_=>([],false):=by
 unfold eT Gb
 match bn ms s with
 | [a]=>rfl
 | []=>
  have h01:¬ ((0:Nat)=1):=by decide
  simp only [List.length_nil,h01,if_false]
  split
  ·rfl
  ·split
   ·rename_i e; cases e
   ·rfl
 | a::b::t =>
  have h01:¬ (t.length+1+1=1):=by omega
  simp only [List.length_cons,h01,if_false]
  split
  ·rfl
  ·split
   ·rename_i e; cases e
   ·rfl
theorem CO {fl : Nm -> Fl} {c : FC} {ms : List Mb} {s : Sd} {n : Nat} : eT fl l (n + 1) c ms s = Gb fl l c ms s λp =>
  if 1<(bn (fl p.name).mems s).length then (bN p (eT fl l n (ae l p.name) (fl p.name).mems s).1,(eT fl l n (ae l p.name) (fl p.name).mems s).2) else ([],false):=by
 have key:∀ (xs:List Nat) (f:Nat->Nm×Bool),xs.length=1->(match xs,n+1 with
   | i::_,k+1=>(λ(i k:Nat)=>f i) i k
   | _,_=>([],false))=f (xs.headD 0):=λxs f h=>by
  match xs,h with
  | [i],_=>rfl
 unfold Gb
 rw [eT]
 split
 ·rename_i a e; rw [e]; rfl
 ·rename_i hne
  have hl:(bn ms s).length≠1:=λh=>by
   match hq:bn ms s,h with
   | [a],_=>exact hne a hq
  rw [if_neg hl]
  simp only []
  by_cases hq:picked c (having (comes fl l c) s)≠[]∨(bX<|having (comes fl l c) s).length≠1
  ·rw [if_pos hq,if_pos hq]
  ·rw [if_neg hq,if_neg hq]
   have h1:(bX<|having (comes fl l c) s).length=1:=Classical.not_not.1 (not_or.1 hq).2
   match hf:bX (having (comes fl l c) s),h1 with
   | [i],_=>rfl
end
end Go.Fl
namespace Go.Ck
open Go Go.RowKit

def Ext (X Y:Res):Prop:=∃ T:Res,∀ f t,bu f (Y::t)↔bu f (T::X::t)
section
variable {X Y Zq:Res}
theorem Ext.refl (X:Res):Ext X X:=⟨Res.star [],λ_ t=>(dD (h:=[]) (k:=X::t)).symm⟩
theorem Ext.trans (h:Ext X Y) (k:Ext Y Zq):Ext X Zq:=by
 obtain ⟨T,hT⟩:=h
 obtain ⟨U,hU⟩:=k
 refine ⟨Res.star [U,T],λf t=>?_⟩
 rw [hU,dD]
 have h1:bu f (U::Y::t)↔bu f (Y::U::t):=bu.perm<|.swap _ _ _
 rw [h1,hT]
 exact bu.perm (by
  show (T::X::U::t).Perm (U::T::X::t)
  exact (List.perm_middle (l₁ := [T,X])))
theorem Ext.vw (h:Ext X Y):∃ T,∀ t,Vw (Y::t) (T::X::t):=by
 obtain ⟨T,hT⟩:=h
 exact ⟨T,λt w hh=>(hT _ _).1 hh⟩
theorem Ext.rd (h:Ext X Y) (p:Addr) (u:Value) (hr:Rd X p u):Rd Y p u:=λw hw=>by
 obtain ⟨T,hT⟩:=h
 have h1:=(hT (hp w) []).1 ⟨hw,λb _ hb=>hb,trivial⟩
 exact hr w h1.2.2.1
theorem Ext.packs (X:Res) (L:SH):Ext X (Res.star (L++[X])):=⟨Res.star L,λf t=>by
 rw [dD,dD]
 exact bu.perm (by rw [List.append_assoc]; exact .refl _)⟩
theorem iT {X:Res} {L L':SH} {r:Res} (s:Sel L r L') (p:Addr) (u:Value) (h:Rd r p u):Rd (Res.star (L++[X])) p u:=by
 have:Sel (L++[X]) r (L'++[X]):=by
  clear h
  induction s with
  | here=>exact .here
  | there _ ih=>exact .there ih
 exact rU this h
end
def CtX (P:Program) (k:FuncId) (args:Array Value) (X:Res) (hf:SH) (R:Value->Res->SH->Prop):Prop:=Ct P k args (X::hf) λu h'=>∃ Y k',h'=Y::k'/\Ext X Y/\R u Y k'
theorem CtX.mono {P:Program} {k:FuncId} {args:Array Value} {X:Res} {hf:SH} {R R':Value->Res->SH->Prop} (h:CtX P k args X hf R) (hr:∀ u Y k',Ext X Y->R u Y k'->R' u Y k'):CtX P k args X hf R':=Ct.mono h λ_ _ ⟨Y,k',h1,h2,h3⟩=>⟨Y,k',h1,h2,hr _ _ _ h2 h3⟩
section
variable {c:Cx} {ops:Array Oper} {K:Act->World->Prop} {rest:List Oper} {e:Env} {h h' hr:SH} {Q:Exit->Act->World->Prop} {x:Code} {ex:Exit} {X:Res} {L:SH}
theorem um (p:Pk h (L++[X]) hr):Vw h (Res.star (L++[X])::hr):=λ_ hh=>dn.2<|hh.pk p
theorem pV (L:SH) (X:Res) (hn:∀ Y,Ext X Y->(∀ r L',Sel L r L'->∀ p u,Rd r p u->Rd Y p u)->St c ops K rest e (Y::hr)) (p:Pk h (L++[X]) hr:=by repeat (first | exact Pk.nil | (apply Pk.cons; (repeat (first | exact Sel.here | apply Sel.there))))):St c ops K rest e h :=
 qp (um p) (hn _ (Ext.packs X L) λ_ _ s p u h=>iT s p u h)
theorem iy (L:SH) (X:Res) (hn:∀ Y,Ext X Y->(∀ r L',Sel L r L'->∀ p u,Rd r p u->Rd Y p u)->Xt c ex Q e (Y::hr)) (p:Pk h (L++[X]) hr:=by repeat (first | exact Pk.nil | (apply Pk.cons; (repeat (first | exact Sel.here | apply Sel.there))))):Xt c ex Q e h :=
 jG (um p) (hn _ (Ext.packs X L) λ_ _ s p u h=>iT s p u h)
theorem Iw (L:SH) (X:Res) (hn:∀ Y,Ext X Y->(∀ r L',Sel L r L'->∀ p u,Rd r p u->Rd Y p u)->Cd c x Q e (Y::hr)) (p:Pk h (L++[X]) hr:=by repeat (first | exact Pk.nil | (apply Pk.cons; (repeat (first | exact Sel.here | apply Sel.there))))):Cd c x Q e h :=
 dK (um p) (hn _ (Ext.packs X L) λ_ _ s p u h=>iT s p u h)
end

/-! ## What has a plain reading -/
class Enc (α : Type) where
 sz:Nat
 by':Nat
 rep:Res->List Value -> α -> Prop
 len:∀ {X:Res} {us:List Value} {a : α},rep X us a->us.length=sz
 ones:∀ {X:Res} {us:List Value} {a : α},rep X us a->us.all Value.oneCell'=true
 up:∀ {X Y:Res} {us:List Value} {a : α},(∀ p u,Rd X p u->Rd Y p u)->rep X us a->rep Y us a
def Ls {α : Type} [Enc α] (X:Res) (v:Value) (xs:List α):Prop:=Row X (Enc.sz α) (Enc.rep X) v xs/\xs.length * Enc.by' α ≤ reachBytes
section
variable {α : Type} [Enc α] {X Y R:Res} {v:Value} {xs ys:List α} {us:List Value} {a : α}
theorem Ls.up' (hr:∀ p u,Rd X p u->Rd Y p u) (h:Ls X v xs):Ls Y v xs:=⟨Row.mono h.1 hr λ_ _ _ g=>Enc.up hr g,h.2⟩
theorem Ls.up (h:Ls X v xs) (he:Ext X Y):Ls Y v xs:=h.up' he.rd
theorem Ls.nil:Ls X (.slice none 0 0) ([]:List α):=⟨Row.nil,by simp⟩
theorem Ls.one (h:Ls X v xs):v.oneCell'=true:=Row.one h.1
theorem Ls.form (h:Ls X v xs):∃ a cap,v = .slice a xs.length cap/\xs.length≤cap/\cap≤maxLen/\(a=none->cap=0):=by
 obtain ⟨⟨a,cap,h1,h2,h3,h4,_⟩,_⟩:=h
 exact ⟨a,cap,h1,h2,h3,h4⟩
theorem Ls.at (h:Ls X v xs) {i:Nat} (hi:xs[i]? = some a):∃ b o cap us,v = .slice (some ⟨b,o,none⟩) xs.length cap/\us.length=Enc.sz α /\ Rds X b (o+i * Enc.sz α) us/\Enc.rep X us a:=Row.at h.1 hi
theorem Ls.sizes (h:Ls X v xs):xs.length * Enc.by' α ≤ reachBytes:=h.2
def Rws (X:Res) (rows:List (List Value)) (xs:List α):Prop:=rows.length=xs.length/\∀ (j:Nat) us x,rows[j]? = some us->xs[j]? = some x->Enc.rep X us x
theorem Rws.nil:Rws X [] ([]:List α):=⟨rfl,λj us x h=>by simp at h⟩
theorem Rws.up {rows:List (List Value)} (h:Rws X rows xs) (he:Ext X Y):Rws Y rows xs:=⟨h.1,λj us x h1 h2=>Enc.up he.rd<|h.2 j us x h1 h2⟩
theorem Rws.snoc {rows:List (List Value)} (h:Rws X rows xs) (ha:Enc.rep X us a):Rws X (rows++[us]) (xs++[a]):=by
 refine ⟨by simp [h.1],λj vs x h1 h2=>?_⟩
 by_cases hj:j<rows.length
 ·rw [List.getElem?_append_left hj] at h1
  rw [List.getElem?_append_left (by rw [<- h.1]; exact hj)] at h2
  exact h.2 j vs x h1 h2
 ·have h3:=(List.getElem?_eq_some_iff.1 h1).1
  have h4:j=rows.length:=by simp at h3; omega
  subst h4
  rw [List.getElem?_append_right (Nat.le_refl _),Nat.sub_self] at h1
  rw [h.1,List.getElem?_append_right (Nat.le_refl _),Nat.sub_self] at h2
  simp only [List.getElem?_cons_zero,Option.some.injEq] at h1 h2
  subst h1 h2; exact ha
theorem Rws.app {rows rows':List (List Value)} (h:Rws X rows xs) (h':Rws X rows' ys):Rws X (rows++rows') (xs++ys):=by
 refine ⟨by simp [h.1,h'.1],λj vs x h1 h2=>?_⟩
 by_cases hj:j<rows.length
 ·rw [List.getElem?_append_left hj] at h1
  rw [List.getElem?_append_left (by rw [<- h.1]; exact hj)] at h2
  exact h.2 j vs x h1 h2
 ·rw [List.getElem?_append_right (by omega)] at h1
  rw [List.getElem?_append_right (by rw [<- h.1]; omega),<- h.1] at h2
  exact h'.2 _ vs x h1 h2
theorem Rws.lens {rows:List (List Value)} (h:Rws X rows xs):∀ r∈rows,r.length=Enc.sz α := λr hr=>by
 obtain ⟨j,hj,rfl⟩:=List.getElem_of_mem hr
 exact Enc.len<|h.2 j _ _ (Zy hj)<|Zy (by rw [<- h.1]; exact hj)
theorem Rws.ones {rows:List (List Value)} (h:Rws X rows xs):∀ u∈rows.flatten,u.oneCell'=true:=λu hu=>by
 obtain ⟨r,hr,hu⟩:=List.mem_flatten.1 hu
 obtain ⟨j,hj,rfl⟩:=List.getElem_of_mem hr
 exact List.all_eq_true.1 (Enc.ones<|h.2 j _ _ (Zy hj)<|Zy (by rw [<- h.1]; exact hj)) u hu
theorem Rws.ls {E:TypeId} {rows:List (List Value)} (h:Rws X rows xs) (hok:∃ f,(VR v E (Enc.sz α) rows).ok f) (hr:∀ p u,Rd (VR v E (Enc.sz α) rows) p u->Rd X p u) (hb:xs.length * Enc.by' α ≤ reachBytes):Ls X v xs :=
 ⟨Nt hok h.1 hr h.2,hb⟩
theorem Ls.rows (h:Ls X v xs):∃ rows,Rws X rows xs/\∀ (j:Nat) us,rows[j]? = some us->∃ b o cap,v = .slice (some ⟨b,o,none⟩) xs.length cap/\Rds X b (o+j * Enc.sz α) us:=by
 have : ∀ n, n ≤ xs.length -> ∃ rows : List (List Value), rows.length = n /\ ∀ (j : Nat) us, rows[j]? = some us -> ∃ x, xs[j]? = some x /\ Enc.rep X us x /\ ∃ b o cap, v = .slice (some ⟨b, o, none⟩) xs.length cap /\ Rds X b (o + j * Enc.sz α) us := by
  intro n
  induction n with
  | zero=>exact λ_=>⟨[],rfl,λj us h=>by simp at h⟩
  | succ n ih =>
   intro hn
   obtain ⟨rows,h1,h2⟩:=ih<|by omega
   obtain ⟨b,o,cap,us,g1,g2,g3,g4⟩:=h.at<|Zy (show n<xs.length by omega)
   refine ⟨rows++[us],by simp [h1],λj vs hj=>?_⟩
   by_cases hjl:j<rows.length
   ·rw [List.getElem?_append_left hjl] at hj; exact h2 j vs hj
   ·have h3:=(List.getElem?_eq_some_iff.1 hj).1
    have h4:j=n:=by simp at h3; omega
    subst h4
    rw [List.getElem?_append_right (by omega),h1,Nat.sub_self] at hj
    simp only [List.getElem?_cons_zero,Option.some.injEq] at hj
    subst hj
    exact ⟨_,Zy _,g4,b,o,cap,g1,g3⟩
 obtain ⟨rows,h1,h2⟩:=this xs.length (Nat.le_refl _)
 refine ⟨rows,⟨h1,λj us x g1 g2=>?_⟩,λj us g=>?_⟩
 ·obtain ⟨y,k1,k2,_⟩:=h2 j us g1
  rw [k1] at g2; cases g2; exact k2
 ·obtain ⟨_,_,_,k⟩:=h2 j us g; exact k
end
end Go.Ck
