/-
  The parents of all classes the other way round: members that differ in the order of their groups alone (and,if they are deferred,in where they were declared last). The law of FlatTurned. No program in sight.
-/
import Derived.Test.YtknmacdbffgjgaaGreatDoorM9
set_option linter.unusedVariables false
set_option linter.unusedSimpArgs false
set_option maxRecDepth 100000
set_option maxHeartbeats 16000000
namespace Go.Fl
open Go Go.Hr
section
variable {fl:Nm→Fl} {l:FS} {c:FC} {ms:List Mb}
def Part (a b:List Cf):Prop:=(∀ x∈a,x∈b)∧(a=[]→b=[])
theorem Part.refl (a:List Cf):Part a a:=⟨fun _ h=>h,fun h=>h⟩
theorem Part.app {a b a' b':List Cf} (h:Part a b) (h':Part a' b'):Part (a++a') (b++b'):=by
 refine ⟨fun x hx=>?_,fun hx=>?_⟩
 ·rcases List.mem_append.1 hx with hx | hx
  ·exact List.mem_append_left _ (h.1 x hx)
  ·exact List.mem_append_right _ (h'.1 x hx)
 ·obtain ⟨h1,h2⟩:=List.append_eq_nil_iff.1 hx
  rw [h.2 h1,h'.2 h2]; rfl
theorem Part.flat {α : Type} {f g : α → List Cf} {xs:List α} (h:∀ x∈xs,Part (f x) (g x)):Part (xs.flatMap f) (xs.flatMap g):=by
 induction xs with
 | nil=>exact Part.refl _
 | cons a t ih =>
  rw [List.flatMap_cons,List.flatMap_cons]
  exact (h a (by simp)).app (ih fun x hx=>h x (by simp [hx]))
theorem jm {s:Sk} {α : Type} {xs:List α} {is : α → α → Bool} {f : α → α → Cf} {x:Cf}:x∈s.pairs xs is f↔∃ (i k:Nat) (a b : α),xs[i]? = some a∧xs[k]? = some b∧i≠k∧(s.all=false→i<k)∧is a b=true∧x=f a b:=by
 unfold Sk.pairs
 constructor
 ·intro h
  obtain ⟨⟨a,i⟩,h1,h2⟩:=List.mem_flatMap.1 h
  obtain ⟨⟨b,k⟩,h3,h4⟩:=List.mem_flatMap.1 h2
  simp only [] at h4
  split at h4
  ·simp at h4
  ·rename_i hq
   simp only [not_or,not_and,Bool.not_eq_false] at hq
   obtain ⟨q1,q2,q3⟩:=hq
   simp only [List.mem_singleton] at h4
   exact ⟨i,k,a,b,List.mem_zipIdx_iff_getElem?.1 h1,List.mem_zipIdx_iff_getElem?.1 h3,q1,fun h=>by have:=q2 h; omega,q3,h4⟩
 ·rintro ⟨i,k,a,b,h1,h2,h3,h4,h5,rfl⟩
  refine List.mem_flatMap.2 ⟨(a,i),List.mem_zipIdx_iff_getElem?.2 h1,List.mem_flatMap.2 ⟨(b,k),List.mem_zipIdx_iff_getElem?.2 h2,?_⟩⟩
  have hq:¬ (i=k∨(s.all=false∧k<i)∨is a b=false):=by
   simp only [not_or,not_and,Bool.not_eq_false]
   exact ⟨h3,fun h=>by have:=h4 h; omega,h5⟩
  simp only []
  rw [if_neg hq]; simp
theorem sW {α : Type} {xs:List α} {is : α → α → Bool} {f : α → α → Cf} (hs:∀ a b,is a b=true→is b a=true):Part ((Sk.mk fl l c ms false).pairs xs is f) ((Sk.mk fl l c ms true).pairs xs is f):=by
 refine ⟨fun x hx=>?_,fun hx=>?_⟩
 ·obtain ⟨i,k,a,b,h1,h2,h3,h4,h5,h6⟩:=jm.1 hx
  exact jm.2 ⟨i,k,a,b,h1,h2,h3,(fun h=>by cases h),h5,h6⟩
 ·cases hy : (Sk.mk fl l c ms true).pairs xs is f with
  | nil=>rfl
  | cons y t =>
   obtain ⟨i,k,a,b,h1,h2,h3,h4,h5,h6⟩:=jm.1 (show y∈(Sk.mk fl l c ms true).pairs xs is f by rw [hy]; simp)
   exfalso
   by_cases hik:i<k
   ·have:f a b∈(Sk.mk fl l c ms false).pairs xs is f:=jm.2 ⟨i,k,a,b,h1,h2,h3,fun _=>hik,h5,rfl⟩
    rw [hx] at this; cases this
   ·have:f b a∈(Sk.mk fl l c ms false).pairs xs is f:=jm.2 ⟨k,i,b,a,h2,h1,fun e=>h3 e.symm,fun _=>by omega,hs a b h5,rfl⟩
    rw [hx] at this; cases this
theorem Fz {a b:List Cf} (h:Part a b):Part ((Sk.mk fl l c ms false).cut a) ((Sk.mk fl l c ms true).cut b):=by
 show Part (a.take 1) b
 refine ⟨fun x hx=>h.1 x (List.mem_of_mem_take hx),fun hx=>h.2 ?_⟩
 cases a with
 | nil=>rfl
 | cons x t=>simp at hx
theorem yA {a b:Mb} (h:Sk.sameTy a b=true):Sk.sameTy b a=true:=by
 unfold Sk.sameTy at *
 simp only [Bool.and_eq_true,decide_eq_true_eq] at *
 exact ⟨h.1.symm,h.2.symm⟩
theorem KO {a b:Mb} (h:Sk.same a b=true):Sk.same b a=true:=by
 unfold Sk.same at *
 simp only [Bool.and_eq_true,decide_eq_true_eq] at *
 exact ⟨⟨h.1.1.symm,h.1.2.symm⟩,yA h.2⟩
theorem Cn:Part (Sk.mk fl l c ms false).conflicts (Sk.mk fl l c ms true).conflicts:=by
 have hcp:∀ xs k is,(∀ a b,is a b=true→is b a=true)→Part ((Sk.mk fl l c ms false).cpairs xs k is) ((Sk.mk fl l c ms true).cpairs xs k is):=fun xs k is hs=>Fz (sW hs)
 unfold Sk.conflicts
 refine Part.app ?_ (Part.app ?_ (Part.app ?_ (Part.app ?_ ?_)))
 ·unfold Sk.lost
  refine Part.app (Part.app (Part.app (Part.app (Part.refl _) (Part.refl _)) (Part.flat fun p _=>Part.flat fun m _=>?_)) (Part.refl _)) (Part.refl _)
  show Part (if 1<((Sk.mk fl l c ms false).fro p.2 (bK p.1 m.name)).length then _ else []) (if 1<((Sk.mk fl l c ms false).fro p.2 (bK p.1 m.name)).length then _ else [])
  split
  ·exact hcp _ _ _ fun _ _ _=>rfl
  ·exact Part.refl _
 ·exact Part.refl _
 ·unfold Sk.typed
  refine Part.app (Part.refl _) (Part.flat fun n _=>?_)
  show Part (if (feat c n).isSome=true then [] else _) (if (feat c n).isSome=true then [] else _)
  split
  ·exact Part.refl _
  ·refine hcp _ _ _ fun a b h=>?_
   simp only [Bool.and_eq_true,Bool.not_eq_true',Bool.eq_false_iff] at h ⊢
   exact ⟨⟨h.1.2,h.1.1⟩,fun h2=>h.2 (KO h2)⟩
 ·unfold Sk.chosen
  refine Part.app (Part.app (Part.flat fun d _=>?_) (Part.refl _)) (Part.refl _)
  show Part (if ((Sk.mk fl l c ms false).sel d).2=true then [] else _) (if ((Sk.mk fl l c ms false).sel d).2=true then [] else _)
  split
  ·exact Part.refl _
  ·exact Fz (sW fun _ _ _=>rfl)
 ·unfold Sk.apart
  refine Part.flat fun d _=>sW fun a b h=>?_
  simp only [Bool.not_eq_true',Bool.eq_false_iff] at h ⊢
  exact fun h2=>h (yA h2)
end
def lower (b:UInt8):Bool:=decide (97≤b.toNat) && decide (b.toNat≤122)
def okS (b:UInt8):Bool:=(lower b || digit b) || b.toNat == 95
def oQ : Nm := "true false void current result and as attached check class create deferred detachable do else end ensure feature from if implies inherit invariant local loop not old or put raise redefine rename require rescue retry select separate then undefine until variant when".toUTF8.data.toList
def qU:Nm→Nm→List Nm
 | [],w=>if w=[] then [] else [w]
 | b::t,w=>if b=32 then (if w=[] then qU t [] else w::qU t []) else qU t (w++[b])
def kws:List Nm:=qU oQ []
def small (s:Nm):Bool:=match s with
 | []=>false
 | b::_=>decide (s.length≤20) && lower b && s.all okS && !kws.contains s
def mQ (xs:List Int):Int:=(xs.find? (· != 0)).getD 0
def xg (fs:List Fe) (q:Fe×Nat):Int :=
 if small q.1.name=false then 4 else if (fs.take q.2).any fun g=>g.name == q.1.name then 6
 else if q.1.kind<1∨3<q.1.kind∨(q.1.kind=1∧(q.1.args≠[]∨q.1.ty.kind=0)) then 2 else 0
def Ar (c:FC):Int:=if 60<c.feats.length then 3 else mQ (c.feats.zipIdx.map (xg c.feats))
def FB (p:Pt):Int:=if p.ren.any fun x => !small x.to then 4 else if (p.ren.map fun x=>x.fro).Nodup then 0 else 6
def kC (l:FS) (c:FC):Int :=
 if 3<c.forms.length then 3 else if ¬ (c.forms.map fun f=>f.name).Nodup then 6
 else if c.pars.any fun p=>decide (p.args.length≠(ae l p.name).forms.length) then 2
 else if Ar c≠0 then Ar c else mQ (c.pars.map FB)
def bQ (l:FS):Int×Nm :=
 if (check (bn l)).1≠0 then check (bn l) else match (l.map fun c=>(kC l c,c.name)).find? fun e=>e.1 != 0 with
  | some e=>e
  | none=>(0,[])
structure FRight (l:FS):Prop where
 sys:Right (bn l)
 form:∀ c∈l,kC l c=0
theorem fT {l:FS}:(bQ l).1=0↔FRight l:=by
 unfold bQ
 split
 ·rename_i h
  exact ⟨fun h2=>absurd h2 h,fun h2=>absurd (oh.2 h2.sys) h⟩
 ·rename_i h
  have h:=Classical.not_not.1 h
  split
  ·rename_i e he
   have h1:=List.find?_some he
   obtain ⟨c,hc,rfl⟩:=List.mem_map.1 (List.mem_of_find?_eq_some he)
   simp only [bne_iff_ne,ne_eq] at h1
   exact ⟨fun h2=>absurd h2 h1,fun h2=>absurd (h2.form c hc) h1⟩
  ·rename_i hn
   refine ⟨fun _=>⟨oh.1 h,fun c hc=>?_⟩,fun _=>rfl⟩
   have:=List.find?_eq_none.1 hn (kC l c,c.name) (List.mem_map.2 ⟨c,hc,rfl⟩)
   simpa using this
theorem yB {xs:List Int}:mQ xs=0↔∀ x∈xs,x=0:=by
 unfold mQ
 cases h:xs.find? (· != 0) with
 | none=>exact ⟨fun _ x hx=>by simpa using List.find?_eq_none.1 h x hx,fun _=>rfl⟩
 | some e =>
  have h1:=List.find?_some h
  simp only [bne_iff_ne,ne_eq] at h1
  exact ⟨fun h2=>absurd h2 h1,fun h2=>absurd (h2 e (List.mem_of_find?_eq_some h)) h1⟩
structure CRight (l:FS) (c:FC):Prop where
 few:c.forms.length≤3
 once:(c.forms.map fun f=>f.name).Nodup
 args:∀ p∈c.pars,p.args.length=(ae l p.name).forms.length
 feats:c.feats.length≤60
 names:(c.feats.map fun f=>f.name).Nodup
 fsmall:∀ f∈c.feats,small f.name=true
 fkind:∀ f∈c.feats,1≤f.kind∧f.kind≤3∧(f.kind=1→f.args=[]∧f.ty.kind≠0)
 tosmall:∀ p∈c.pars,∀ x∈p.ren,small x.to=true
 ren:∀ p∈c.pars,(p.ren.map fun x=>x.fro).Nodup
theorem Hu {fs:List Fe} (h:∀ (i:Nat) (f:Fe),fs[i]? = some f→((fs.take i).any fun g=>g.name == f.name)=false):(fs.map fun f=>f.name).Nodup:=by
 rw [List.nodup_iff_pairwise_ne,List.pairwise_iff_getElem]
 intro i j hi hj hij
 simp only [List.length_map] at hi hj
 rw [List.getElem_map,List.getElem_map]
 intro e
 have h1:=h j fs[j] (List.getElem?_eq_getElem hj)
 have:fs[i]∈fs.take j:=by rw [List.mem_take_iff_getElem]; exact ⟨i,by omega,rfl⟩
 have h2:=List.any_eq_false.1 h1 _ this
 simp [e] at h2
theorem gm {l:FS} {c:FC} (h:kC l c=0):CRight l c:=by
 unfold kC at h
 split at h
 ·cases h
 rename_i q1
 split at h
 ·cases h
 rename_i q2
 split at h
 ·cases h
 rename_i q3
 split at h
 ·rename_i q; exact absurd h q
 rename_i q4
 have q4:=Classical.not_not.1 q4
 unfold Ar at q4
 split at q4
 ·cases q4
 rename_i q5
 have h1:=yB.1 q4
 have h2:=yB.1 h
 have h3:∀ (i:Nat) (f:Fe),c.feats[i]? = some f→xg c.feats (f,i)=0:=fun i f hf=>h1 _ (List.mem_map.2 ⟨(f,i),List.mem_zipIdx_iff_getElem?.2 hf,rfl⟩)
 have h4:∀ (i:Nat) (f:Fe),c.feats[i]? = some f→small f.name=true∧((c.feats.take i).any fun g=>g.name == f.name)=false∧1≤f.kind∧f.kind≤3∧(f.kind=1→f.args=[]∧f.ty.kind≠0):=fun i f hf=>by
  have:=h3 i f hf
  unfold xg at this
  simp only [] at this
  split at this
  ·cases this
  rename_i k1
  split at this
  ·cases this
  rename_i k2
  split at this
  ·cases this
  rename_i k3
  simp only [not_or,not_and] at k3
  exact ⟨by simpa using k1,by simpa using k2,by omega,by omega,fun hk=>⟨Classical.not_not.1 (k3.2.2 hk).1,(k3.2.2 hk).2⟩⟩
 have h5:∀ p∈c.pars,FB p=0:=fun p hp=>h2 _ (List.mem_map.2 ⟨p,hp,rfl⟩)
 have h6:∀ p∈c.pars,(p.ren.any fun x => !small x.to)=false∧(p.ren.map fun x=>x.fro).Nodup:=fun p hp=>by
  have:=h5 p hp
  unfold FB at this
  split at this
  ·cases this
  rename_i k1
  split at this
  ·rename_i k2; exact ⟨by simpa using k1,k2⟩
  ·cases this
 refine ⟨by omega,Classical.not_not.1 q2,fun p hp=>?_,by omega,Hu fun i f hf=>(h4 i f hf).2.1,fun f hf=>?_,fun f hf=>?_,fun p hp x hx=>?_,fun p hp=>(h6 p hp).2⟩
 ·have:=List.any_eq_false.1 (Bool.not_eq_true _ ▸ q3) p hp
  simpa using this
 ·obtain ⟨i,hi,rfl⟩:=List.getElem_of_mem hf
  exact (h4 i _ (List.getElem?_eq_getElem hi)).1
 ·obtain ⟨i,hi,rfl⟩:=List.getElem_of_mem hf
  exact (h4 i _ (List.getElem?_eq_getElem hi)).2.2
 ·have:=List.any_eq_false.1 (h6 p hp).1 x hx
  simpa using this

/-! ### What the calls return -/
def d9 (l:FS):Cf×Bool×Int :=
 if (bQ l).1≠0 then (cf0,false,(bQ l).1) else if (build l).2.2=3 then (cf0,false,3) else ((build l).2.1,(build l).2.2 == 10,0)
def wholeE (l:FS) (ns:List Nm):Int:=if (bQ l).1≠0 then (bQ l).1 else if ns.all (fun n=>(bL l n).isSome) then (build l).2.2 else 5
def gI (l:FS):List Fl×Int:=if wholeE l []≠0 then ([],wholeE l []) else ((build l).1.map fun p=>p.2,0)
def lF (l:FS) (x:Cf):List Nm→List (Nm×Fl)→Int
 | [],_=>11
 | n::t,fs=>if n=x.cls then (if (qP l fs n true).conflicts.contains x then 0 else 11)
  else if (qP l fs n false).conflicts≠[] then 11 else if over (lu l fs n) then 11 else lF l x t (fs++[(n,flatOf l (ae l n) (lu l fs n))])
def gV (l:FS) (x:Cf):Int:=if (bQ l).1≠0 then (bQ l).1 else if (bL l x.cls).isNone then 11 else lF l x (above (bn l) x.cls) []
section
variable {l:FS}
theorem J6 (hr : Right (bn l)) (x : Cf) : ∀ (t d : List Nm), Tp (bn l) (d ++ t) → x.cls ∉ d → (lF l x t (forms l d) = 0 ↔ ∃ a b, t = a ++ x.cls :: b ∧ x.cls ∉ a ∧ (∀ m ∈ a, okF l m) ∧ x ∈ iY l x.cls true) ∧ (lF l x t (forms l d) = 0 ∨ lF l x t (forms l d) = 11)
 | [],d,_,_=>by
  refine ⟨⟨fun h=>(by cases h),fun ⟨a,b,h,_⟩=>?_⟩,.inr rfl⟩
  have:=congrArg List.length h
  simp at this
 | n :: t, d, h, hd => by
  have hu:=D9 hr.acyc h
  have h':Tp (bn l) (d++[n]++t):=by rw [List.append_assoc]; exact h
  unfold lF
  rw [sU hr hu,sU hr hu,Ap hr hu]
  by_cases hn:n=x.cls
  ·subst hn
   rw [if_pos rfl]
   refine ⟨⟨fun h=>?_,fun ⟨a,b,h1,h2,h3,h4⟩=>?_⟩,?_⟩
   ·split at h
    ·rename_i hc
     exact ⟨[],t,rfl,by simp,by simp,by simpa using hc⟩
    ·cases h
   ·rw [if_pos (by simpa using h4)]
   ·split
    ·exact .inl rfl
    ·exact .inr rfl
  ·rw [if_neg hn]
   have key : (∃ a b, n :: t = a ++ x.cls :: b ∧ x.cls ∉ a ∧ (∀ m ∈ a, okF l m) ∧ x ∈ iY l x.cls true) ↔ okF l n ∧ ∃ a b, t = a ++ x.cls :: b ∧ x.cls ∉ a ∧ (∀ m ∈ a, okF l m) ∧ x ∈ iY l x.cls true := by
    constructor
    ·rintro ⟨a,b,h1,h2,h3,h4⟩
     cases a with
     | nil=>simp only [List.nil_append,List.cons.injEq] at h1; exact absurd h1.1 hn
     | cons a0 a =>
      simp only [List.cons_append,List.cons.injEq] at h1
      obtain ⟨rfl,h1⟩:=h1
      exact ⟨h3 _ (by simp),a,b,h1,fun h=>h2 (by simp [h]),fun m hm=>h3 m (by simp [hm]),h4⟩
    ·rintro ⟨h0,a,b,h1,h2,h3,h4⟩
     refine ⟨n::a,b,by rw [h1]; rfl,fun h=>?_,fun m hm=>?_,h4⟩
     ·rcases List.mem_cons.1 h with h | h
      ·exact hn h.symm
      ·exact h2 h
     ·rcases List.mem_cons.1 hm with rfl | hm
      ·exact h0
      ·exact h3 m hm
   rw [key]
   split
   ·rename_i hc
    exact ⟨⟨fun h=>(by cases h),fun h=>absurd h.1.1 hc⟩,.inr rfl⟩
   ·rename_i hc
    have hc:=Classical.not_not.1 hc
    split
    ·rename_i ho
     refine ⟨⟨fun h=>(by cases h),fun h=>?_⟩,.inr rfl⟩
     have:=h.1.2
     rw [ho] at this; cases this
    ·rename_i ho
     have ho:over (msF l n)=false:=by simpa using ho
     rw [← Ch hr,show forms l d++[(n,FL l n)]=forms l (d++[n]) by simp [forms]]
     obtain ⟨h1,h2⟩:=J6 hr x t (d++[n]) h' (by
      simp only [List.mem_append,List.mem_singleton,not_or]
      exact ⟨hd,fun h=>hn h.symm⟩)
     exact ⟨h1.trans ⟨fun h=>⟨⟨hc,ho⟩,h⟩,fun h=>h.2⟩,h2⟩
theorem KP (hr:Right (bn l)) (x:Cf):lF l x (above (bn l) x.cls) []=0↔(∀ a,has (bn l) x.cls a=true→a≠x.cls→okF l a)∧x∈iY l x.cls true:=by
 obtain ⟨h1,h2⟩:=iI hr.acyc x.cls
 have h3:=(J6 hr x (above (bn l) x.cls) [] h1 (by simp)).1
 refine h3.trans ?_
 obtain ⟨o,ho⟩:=GU hr.acyc x.cls
 have hn:=h1.nodup
 constructor
 ·rintro ⟨a, b, g1, g2, g3, g4⟩
  refine ⟨fun y hy hne=>?_,g4⟩
  have hm:=(h2 y).2 hy
  rw [g1] at hm
  rcases List.mem_append.1 hm with hm | hm
  ·exact g3 y hm
  rcases List.mem_cons.1 hm with hm | hm
  ·exact absurd hm hne
  ·exfalso
   rw [ho] at g1 hn
   cases b with
   | nil=>cases hm
   | cons b0 b =>
    have h5:(a++x.cls::b0::b).getLast? = some x.cls:=by rw [← g1,List.getLast?_append]; rfl
    have h6:(b0::b).getLast? = some x.cls:=by
     rw [List.getLast?_append,List.getLast?_cons_cons] at h5
     cases hq:(b0::b).getLast? with
     | none=>simp at hq
     | some y=>rw [hq] at h5; exact h5
    have h4:x.cls∈b0::b:=List.mem_of_getLast? h6
    rw [g1] at hn
    have:=(List.nodup_append.1 hn).2.1
    exact (List.nodup_cons.1 this).1 h4
 ·rintro ⟨g1,g2⟩
  refine ⟨o,[],ho,fun h=>?_,fun m hm=>g1 m ((h2 m).1 (by rw [ho]; simp [hm])) fun e=>?_,g2⟩
  ·rw [ho] at hn
   exact (List.nodup_append.1 hn).2.2 _ h _ (by simp) rfl
  ·subst e
   rw [ho] at hn
   exact absurd rfl ((List.nodup_append.1 hn).2.2 _ hm _ (by simp))
theorem KQ {s:Sk} {x:Cf} (h:x∈s.conflicts):x.cls=s.c.name:=by
 have hcp:∀ xs k is,x∈s.cpairs xs k is→x.cls=s.c.name:=fun xs k is hx=>by
  have:x∈s.pairs xs is fun a b=>s.cf k a.mem.name a.og b.og:=by
   unfold Sk.cpairs Sk.cut at hx
   split at hx
   ·exact hx
   ·exact List.mem_of_mem_take hx
  obtain ⟨i,k,a,b,_,_,_,_,_,rfl⟩:=jm.1 this
  rfl
 unfold Sk.conflicts at h
 rcases List.mem_append.1 h with h | h
 ·unfold Sk.lost at h
  rcases List.mem_append.1 h with h | h
  ·rcases List.mem_append.1 h with h | h
   ·rcases List.mem_append.1 h with h | h
    ·rcases List.mem_append.1 h with h | h
     ·obtain ⟨p,_,h⟩:=List.mem_flatMap.1 h
      rcases List.mem_append.1 h with h | h
      ·obtain ⟨r,_,h⟩:=List.mem_flatMap.1 h
       split at h
       ·rw [List.mem_singleton.1 h]; rfl
       ·cases h
      ·obtain ⟨r,_,h⟩:=List.mem_flatMap.1 h
       split at h
       ·rw [List.mem_singleton.1 h]; rfl
       ·cases h
     ·obtain ⟨p,_,h⟩:=List.mem_flatMap.1 h
      obtain ⟨r,_,h⟩:=List.mem_flatMap.1 h
      split at h
      ·rw [List.mem_singleton.1 h]; rfl
      ·cases h
    ·obtain ⟨p,_,h⟩:=List.mem_flatMap.1 h
     obtain ⟨m,_,h⟩:=List.mem_flatMap.1 h
     split at h
     ·exact hcp _ _ _ h
     ·cases h
   ·obtain ⟨p,_,h⟩:=List.mem_flatMap.1 h
    obtain ⟨n,_,h⟩:=List.mem_flatMap.1 h
    obtain ⟨y,_,h⟩:=List.mem_flatMap.1 h
    split at h
    ·rw [List.mem_singleton.1 h]; rfl
    ·cases h
  ·obtain ⟨p,_,h⟩:=List.mem_flatMap.1 h
   obtain ⟨n,_,h⟩:=List.mem_flatMap.1 h
   split at h
   ·rw [List.mem_singleton.1 h]; rfl
   ·cases h
 rcases List.mem_append.1 h with h | h
 ·obtain ⟨k,_,h⟩:=List.mem_flatMap.1 h
  obtain ⟨n,_,h⟩:=List.mem_flatMap.1 h
  split at h
  ·cases h
  ·obtain ⟨y,_,h⟩:=List.mem_flatMap.1 h
   split at h
   ·rw [List.mem_singleton.1 h]; rfl
   ·cases h
 rcases List.mem_append.1 h with h | h
 ·rcases List.mem_append.1 h with h | h
  ·obtain ⟨n,_,h⟩:=List.mem_flatMap.1 h
   obtain ⟨y,_,h⟩:=List.mem_flatMap.1 h
   split at h
   ·simp only [] at h
    split at h
    ·cases h
    ·rw [List.mem_singleton.1 h]; rfl
   ·split at h
    ·cases h
    ·rw [List.mem_singleton.1 h]; rfl
  ·obtain ⟨n,_,h⟩:=List.mem_flatMap.1 h
   split at h
   ·cases h
   ·exact hcp _ _ _ h
 rcases List.mem_append.1 h with h | h
 ·rcases List.mem_append.1 h with h | h
  ·rcases List.mem_append.1 h with h | h
   ·obtain ⟨d, _, h⟩ := List.mem_flatMap.1 h
    split at h
    ·cases h
    ·have:∃ is f,(∀ a b,(f a b:Cf).cls=s.c.name)∧x∈s.pairs (aY s.ms d) is f:=by
      unfold Sk.cut at h
      split at h
      ·exact ⟨_,_,fun a b=>rfl,h⟩
      ·exact ⟨_,_,fun a b=>rfl,List.mem_of_mem_take h⟩
     obtain ⟨is,f,hf,hx⟩:=this
     obtain ⟨i,k,a,b,_,_,_,_,_,rfl⟩:=jm.1 hx
     exact hf a b
   ·obtain ⟨p,_,h⟩:=List.mem_flatMap.1 h
    obtain ⟨n,_,h⟩:=List.mem_flatMap.1 h
    split at h
    ·rw [List.mem_singleton.1 h]; rfl
    ·cases h
  ·obtain ⟨m,_,h⟩:=List.mem_flatMap.1 h
   split at h
   ·rw [List.mem_singleton.1 h]; rfl
   ·cases h
 ·obtain ⟨d,_,h⟩:=List.mem_flatMap.1 h
  obtain ⟨i,k,a,b,_,_,_,_,_,rfl⟩:=jm.1 h
  rfl
theorem Np {n:Nm} {all:Bool} {x:Cf} (hn:(bL l n).isSome=true) (h:x∈iY l n all):x.cls=n:=by
 have h1:x.cls=(ae l n).name:=KQ (s:=skF l n all) h
 obtain ⟨c,hc⟩:=Option.isSome_iff_exists.1 hn
 rw [h1,fZ hc,lD hc]
theorem gp (hr:Right (bn l)) {n:Nm}:n∈order (bn l)↔(bL l n).isSome=true:=by
 rw [(iJ hr.acyc hr.uniq).2,← dW,fD]
theorem xh (h:(bQ l).1≠0):d9 l=(cf0,false,(bQ l).1)∧gI l=([],(bQ l).1)∧∀ x,gV l x=(bQ l).1:=by
 have hw:wholeE l []=(bQ l).1:=by unfold wholeE; rw [if_pos h]
 exact ⟨by unfold d9; rw [if_pos h],by unfold gI; rw [hw,if_pos h],fun x=>by unfold gV; rw [if_pos h]⟩
theorem vg (h:(bQ l).1=0):d9 l=(if (build l).2.2=3 then (cf0,false,3) else ((build l).2.1,(build l).2.2 == 10,0))∧(gI l).2=(build l).2.2:=by
 have h':¬ (bQ l).1≠0:=fun h2=>h2 h
 have hw:wholeE l []=(build l).2.2:=by unfold wholeE; rw [if_neg h']; rfl
 refine ⟨by unfold d9; rw [if_neg h'],?_⟩
 unfold gI; rw [hw]
 split
 ·rfl
 ·rename_i h; exact (Classical.not_not.1 h).symm
theorem yC (h:(bQ l).1=0) (x:Cf):gV l x=0↔(bL l x.cls).isSome=true∧(∀ a,has (bn l) x.cls a=true→a≠x.cls→okF l a)∧x∈iY l x.cls true:=by
 have hr:=(fT.1 h).sys
 unfold gV
 rw [if_neg (fun h2=>h2 h)]
 cases hx:bL l x.cls with
 | none =>
  rw [if_pos (by rfl)]
  exact ⟨fun h=>(by cases h),fun h=>(by cases h.1)⟩
 | some c =>
  rw [if_neg (by simp),KP hr]
  exact ⟨fun h2=>⟨rfl,h2⟩,fun h2=>h2.2⟩
theorem Br (c : Cf) : ((d9 l).2.2 ≠ 0 → (gI l).2 = (d9 l).2.2 ∧ (d9 l).2.1 = false) ∧
  ((d9 l).2.2=0→((d9 l).2.1=true↔(gI l).2=10)∧((d9 l).2.1=false→(gI l).2=0)∧((d9 l).2.1=true→gV l (d9 l).1=0)∧(gV l c=0→(d9 l).2.1=true)):=by
 by_cases hf:(bQ l).1=0
 ·have hR:=fT.1 hf
  have hr:=hR.sys
  have hb:=Aq hr
  have hb2:(build l).2.2=(scan l (order (bn l))).2.2:=by rw [hb]
  have hb1:(build l).2.1=(scan l (order (bn l))).2.1:=by rw [hb]
  obtain ⟨hc1,hc2⟩:=vg hf
  obtain ⟨ht,ho⟩:=iJ hr.acyc hr.uniq
  rcases Nn (l:=l) (order (bn l)) with he | he | he
  ·have he':(build l).2.2=0:=hb2.trans he
   obtain ⟨_,_,hok⟩:=J5 he
   rw [he'] at hc1 hc2
   rw [if_neg (by decide),show ((0:Int) == 10)=false from rfl] at hc1
   rw [hc1,hc2]
   refine ⟨fun h=>absurd rfl h,fun _=>⟨⟨fun h=>(by cases h),fun h=>(by cases h)⟩,fun _=>rfl,fun h=>(by cases h),fun h=>?_⟩⟩
   obtain ⟨h1,h2,h3⟩:=(yC hf c).1 h
   have h4:=(Cn (fl:=FL l) (l:=l) (c:=ae l c.cls) (ms:=msF l c.cls)).2 (hok _ ((gp hr).2 h1)).1
   have h5:iY l c.cls true=[]:=h4
   rw [h5] at h3; cases h3
  ·have he':(build l).2.2=3:=hb2.trans he
   rw [he'] at hc1 hc2
   rw [if_pos rfl] at hc1
   rw [hc1,hc2]
   exact ⟨fun _=>⟨rfl,rfl⟩,fun h=>(by cases h)⟩
  ·have he':(build l).2.2=10:=hb2.trans he
   obtain ⟨d,n,t,x,xs,g1,g2,g3,g4⟩:=Ht he
   rw [he'] at hc1 hc2
   rw [if_neg (by decide),show ((10:Int) == 10)=true from rfl] at hc1
   rw [hc1,hc2]
   refine ⟨fun h=>absurd rfl h,fun _=>⟨⟨fun _=>rfl,fun _=>rfl⟩,fun h=>(by cases h),fun _=>?_,fun _=>rfl⟩⟩
   have hxm:x∈iY l n false:=by rw [g2]; simp
   have hmn:n∈order (bn l):=by rw [g1]; simp
   have hns:=(gp hr).1 hmn
   have hcls:x.cls=n:=Np hns hxm
   rw [yC hf,hb1,g3,hcls]
   exact ⟨hns,fun a h1 h2=>g4 a (D9 hr.acyc (g1 ▸ ht) a h1 h2),(Cn (fl:=FL l) (l:=l) (c:=ae l n) (ms:=msF l n)).1 x hxm⟩
 ·obtain ⟨h1,h2,_⟩:=xh hf
  rw [h1,h2]
  exact ⟨fun _=>⟨rfl,rfl⟩,fun h=>absurd h hf⟩
end
theorem mR {α : Type} {r : α → α → Prop} (irr : ∀ a, ¬ r a a) (asy : ∀ a b, r a b → ¬ r b a) : ∀ {xs ys : List α}, xs.Pairwise r → ys.Pairwise r → (∀ a, a ∈ xs ↔ a ∈ ys) → xs = ys
 | [],[],_,_,_=>rfl
 | [],y::t,_,_,h=>absurd ((h y).2 (by simp)) (by simp)
 | x::s,[],_,_,h=>absurd ((h x).1 (by simp)) (by simp)
 | x::s,y::t,h1,h2,h=>by
  obtain ⟨a1,a2⟩:=List.pairwise_cons.1 h1
  obtain ⟨b1,b2⟩:=List.pairwise_cons.1 h2
  have hxy:x=y:=by
   rcases List.mem_cons.1 ((h x).1 (by simp)) with e | e
   ·exact e
   rcases List.mem_cons.1 ((h y).2 (by simp)) with e2 | e2
   ·exact e2.symm
   ·exact absurd (b1 x e) (asy _ _ (a1 y e2))
  subst hxy
  refine congrArg _ (mR irr asy a2 b2 fun a=>⟨fun ha=>?_,fun ha=>?_⟩)
  ·rcases List.mem_cons.1 ((h a).1 (by simp [ha])) with e | e
   ·subst e; exact absurd (a1 _ ha) (irr _)
   ·exact e
  ·rcases List.mem_cons.1 ((h a).2 (by simp [ha])) with e | e
   ·subst e; exact absurd (b1 _ ha) (irr _)
   ·exact e
def rO (xs:List Mb):Prop:=xs.Pairwise fun a b=>lt a.name b.name=true
theorem vz:∀ {o:List Mb} {x y:Mb},y∈yV o x↔y∈o∨y=x
 | [],x,y=>by simp [yV]
 | z::t,x,y=>by
  unfold yV
  split
  ·rw [List.mem_cons,or_comm]
  ·rw [List.mem_cons,vz,List.mem_cons,or_assoc]
theorem FD : ∀ {o : List Mb} {x : Mb}, rO o → (∀ y ∈ o, y.name ≠ x.name) → rO (yV o x)
 | [],x,_,_=>by simp [yV,rO]
 | z :: t, x, h, hn => by
  obtain ⟨h1,h2⟩:=List.pairwise_cons.1 h
  unfold yV
  split
  ·rename_i hz
   refine List.pairwise_cons.2 ⟨fun y hy=>?_,h⟩
   rcases List.mem_cons.1 hy with rfl | hy
   ·exact hz
   ·exact lt_trans hz (h1 y hy)
  ·rename_i hz
   have hx:lt z.name x.name=true:=by
    rcases dP x.name z.name with h | h | h
    ·exact absurd h hz
    ·exact absurd h.symm (hn z (by simp))
    ·exact h
   refine List.pairwise_cons.2 ⟨fun y hy=>?_,FD h2 fun y hy=>hn y (by simp [hy])⟩
   rcases vz.1 hy with hy | rfl
   ·exact h1 y hy
   ·exact hx
theorem iO {xs:List Mb} (hn:(xs.map fun m=>m.name).Nodup):rO (qO xs)∧∀ y,y∈qO xs↔y∈xs:=by
 have key : ∀ (xs o : List Mb), rO o → (xs.map fun m => m.name).Nodup → (∀ x ∈ xs, ∀ y ∈ o, y.name ≠ x.name) → rO (xs.foldl yV o) ∧ ∀ y, y ∈ xs.foldl yV o ↔ y ∈ o ∨ y ∈ xs := by
  intro xs
  induction xs with
  | nil=>intro o h _ _; exact ⟨h,fun y=>by simp⟩
  | cons x t ih =>
   intro o h hn hd
   rw [List.map_cons,List.nodup_cons] at hn
   obtain ⟨h1,h2⟩:=ih (yV o x) (FD h fun y hy=>hd x (by simp) y hy) hn.2 fun z hz y hy=>by
    rcases vz.1 hy with hy | rfl
    ·exact hd z (by simp [hz]) y hy
    ·exact fun e=>hn.1 (by rw [e]; exact List.mem_map.2 ⟨z,hz,rfl⟩)
   refine ⟨h1,fun y=>?_⟩
   rw [List.foldl_cons,h2,vz,List.mem_cons,or_assoc]
 obtain ⟨h1,h2⟩:=key xs [] List.Pairwise.nil hn (by simp)
 exact ⟨h1,fun y=>by rw [show qO xs=xs.foldl yV [] from rfl,h2]; simp⟩
theorem yD {xs ys:List Mb} (h1:rO xs) (h2:rO ys) (h:∀ m,m∈xs↔m∈ys):xs=ys :=
 mR (r:=fun (a b:Mb)=>lt a.name b.name=true) (fun a h=>by rw [lt_irrefl] at h; cases h) (fun a b h g=>by rw [iB h] at g; cases g) h1 h2 h
theorem rO.nodup {xs:List Mb} (h:rO xs):(xs.map fun m=>m.name).Nodup:=by
 rw [List.nodup_iff_pairwise_ne,List.pairwise_map]
 exact h.imp fun {a b} hab e=>by rw [e,lt_irrefl] at hab; cases hab
theorem Hw {xs:List Mb} {n:Nm} {m:Mb} (h:dR xs n=some m):m∈xs∧m.name=n:=⟨List.mem_of_find?_eq_some h,by simpa using List.find?_some h⟩
/-! ### Seeds -/
theorem oU (a:Sd):slt a a=false:=by simp [slt,lt_irrefl]
theorem rE {a b c:Sd} (h1:slt a b=true) (h2:slt b c=true):slt a c=true:=by
 unfold slt at *
 simp only [Bool.or_eq_true,Bool.and_eq_true,beq_iff_eq] at *
 rcases h1 with h1 | ⟨h1,h3⟩ <;> rcases h2 with h2 | ⟨h2,h4⟩
 ·exact .inl (lt_trans h1 h2)
 ·exact .inl (h2 ▸ h1)
 ·exact .inl (h1 ▸ h2)
 ·exact .inr ⟨h1.trans h2,lt_trans h3 h4⟩
theorem rF (a b:Sd):slt a b=true∨a=b∨slt b a=true:=by
 obtain ⟨a1,a2⟩:=a
 obtain ⟨b1,b2⟩:=b
 unfold slt
 simp only [Bool.or_eq_true,Bool.and_eq_true,beq_iff_eq,Sd.mk.injEq]
 rcases dP a1 b1 with h | h | h
 ·exact .inl (.inl h)
 ·rcases dP a2 b2 with g | g | g
  ·exact .inl (.inr ⟨h,g⟩)
  ·exact .inr (.inl ⟨h,g⟩)
  ·exact .inr (.inr (.inr ⟨h.symm,g⟩))
 ·exact .inr (.inr (.inl h))
theorem KR {a b:Sd} (h:slt a b=true):¬ slt b a=true:=fun h2=>by
 have:=rE h h2
 rw [oU] at this; cases this
def yX (xs:List Sd):Prop:=xs.Pairwise fun a b=>slt a b=true
theorem Au : ∀ {o : List Sd} {x y : Sd}, y ∈ yU o x ↔ y ∈ o ∨ y = x
 | [],x,y=>by simp [yU]
 | z :: t, x, y => by
  unfold yU
  split
  ·rw [List.mem_cons,or_comm]
  ·split
   ·rename_i h; subst h
    exact ⟨.inl,fun h=>h.elim id fun h=>h ▸ List.mem_cons_self⟩
   ·rw [List.mem_cons,Au,List.mem_cons,or_assoc]
theorem FE : ∀ {o : List Sd} {x : Sd}, yX o → yX (yU o x)
 | [],x,_=>by simp [yU,yX]
 | z :: t, x, h => by
  obtain ⟨h1,h2⟩:=List.pairwise_cons.1 h
  unfold yU
  split
  ·rename_i hz
   refine List.pairwise_cons.2 ⟨fun y hy=>?_,h⟩
   rcases List.mem_cons.1 hy with rfl | hy
   ·exact hz
   ·exact rE hz (h1 y hy)
  ·rename_i hz
   split
   ·exact h
   ·rename_i hne
    have hx:slt z x=true:=by
     rcases rF x z with h | h | h
     ·exact absurd h hz
     ·exact absurd h hne
     ·exact h
    refine List.pairwise_cons.2 ⟨fun y hy=>?_,FE h2⟩
    rcases Au.1 hy with hy | rfl
    ·exact h1 y hy
    ·exact hx
theorem jI (xs:List Sd):yX (qM xs)∧∀ y,y∈qM xs↔y∈xs:=by
 have key:∀ (xs o:List Sd),yX o→yX (xs.foldl yU o)∧∀ y,y∈xs.foldl yU o↔y∈o∨y∈xs:=by
  intro xs
  induction xs with
  | nil=>intro o h; exact ⟨h,fun y=>by simp⟩
  | cons x t ih =>
   intro o h
   obtain ⟨h1,h2⟩:=ih (yU o x) (FE h)
   refine ⟨h1,fun y=>?_⟩
   rw [List.foldl_cons,h2,Au,List.mem_cons,or_assoc]
 obtain ⟨h1,h2⟩:=key xs [] List.Pairwise.nil
 exact ⟨h1,fun y=>by rw [show qM xs=xs.foldl yU [] from rfl,h2]; simp⟩
theorem FH {xs ys:List Sd} (h1:yX xs) (h2:yX ys) (h:∀ m,m∈xs↔m∈ys):xs=ys :=
 mR (r:=fun (a b:Sd)=>slt a b=true) (fun a h=>by rw [oU] at h; cases h) (fun _ _ h=>KR h) h1 h2 h

/-! ### Members of a class -/
section
variable {l:FS}
theorem jX {cs:List Cm} {n:Nm}:n∈keys cs↔∃ x∈cs,x.mem.name=n:=by
 unfold keys
 rw [zx,List.mem_map]; simp
theorem gW (cs:List Cm):(keys cs).Nodup:=by
 have : ∀ (xs o : List Nm), o.Nodup → (dd o xs).Nodup := by
  intro xs
  induction xs with
  | nil=>exact fun _ h=>h
  | cons x t ih =>
   intro o h
   refine ih (Hr.step o x) ?_
   by_cases hx:x∈o
   ·rw [kX hx]; exact h
   ·rw [mZ hx]
    refine List.nodup_append.2 ⟨h,by simp,fun a ha b hb=>?_⟩
    simp only [List.mem_singleton] at hb
    subst hb
    exact fun e=>hx (e ▸ ha)
 exact this _ [] List.nodup_nil
theorem fJ {cs:List Cm} {n:Nm} {x:Cm}:x∈under cs n↔x∈cs∧x.mem.name=n:=by simp [under]
theorem mr (l:List Cm) (h:l≠[]):∃ x∈l,(joined l).name=x.mem.name∧(joined l).kind=x.mem.kind∧(joined l).impl=x.mem.impl∧(joined l).args=x.mem.args∧(joined l).ty=x.mem.ty∧(joined l).clients=x.mem.clients:=by
 unfold joined
 cases hf:l.find? (fun (x:Cm) => !x.dfd) with
 | some x=>exact ⟨x,List.mem_of_find?_eq_some hf,rfl,rfl,rfl,rfl,rfl,rfl⟩
 | none =>
  cases l with
  | nil=>exact absurd rfl h
  | cons x t=>exact ⟨x,by simp,rfl,rfl,rfl,rfl,rfl,rfl⟩
theorem yE {cs:List Cm} {n:Nm} (h:n∈keys cs):(joined (under cs n)).name=n:=by
 obtain ⟨x,hx,hn⟩:=jX.1 h
 obtain ⟨y,hy,h1,_⟩:=mr (under cs n) (List.ne_nil_of_mem (fJ.2 ⟨hx,hn⟩))
 rw [h1]; exact (fJ.1 hy).2
theorem Co (c:FC) (f:Fe) (l:List Cm):(jH c f l).name=f.name:=by unfold jH; simp only []; split <;> rfl
theorem KS {c:FC} {n:Nm} {f:Fe} (h:feat c n=some f):f∈c.feats∧f.name=n:=⟨List.mem_of_find?_eq_some h,by simpa using List.find?_some h⟩
theorem FI {c:FC} (hn:(c.feats.map fun f=>f.name).Nodup) {f:Fe} (h:f∈c.feats):feat c f.name=some f:=by
 unfold feat
 generalize c.feats=xs at hn h
 induction xs with
 | nil=>cases h
 | cons x t ih =>
  rw [List.map_cons,List.nodup_cons] at hn
  rcases List.mem_cons.1 h with rfl | h
  ·rw [List.find?_cons_of_pos (by simp)]
  ·have hne:x.name≠f.name:=fun e=>hn.1 (by rw [e]; exact List.mem_map.2 ⟨f,h,rfl⟩)
   rw [List.find?_cons_of_neg (by simpa using hne)]
   exact ih hn.2 h
def sZ (cs:List Cm) (c:FC):List Mb:=((keys cs).filter fun n=>(feat c n).isNone).map (fun n=>joined (under cs n))++c.feats.map fun f=>jH c f (under cs f.name)
theorem KT (cs:List Cm) (c:FC):(sZ cs c).map (fun m=>m.name)=((keys cs).filter fun n=>(feat c n).isNone)++c.feats.map fun f=>f.name:=by
 unfold sZ
 rw [List.map_append,List.map_map,List.map_map]
 congr 1
 ·refine (List.map_congr_left fun n hn=>?_).trans (List.map_id _)
  exact yE (List.mem_filter.1 hn).1
 ·exact List.map_congr_left fun f _=>Co c f _
theorem Cr (cs:List Cm) {c:FC} (hn:(c.feats.map fun f=>f.name).Nodup):((sZ cs c).map fun m=>m.name).Nodup:=by
 rw [KT]
 refine List.nodup_append.2 ⟨(gW cs).filter _,hn,fun a ha b hb e=>?_⟩
 subst e
 obtain ⟨f,hf,rfl⟩:=List.mem_map.1 hb
 have:=(List.mem_filter.1 ha).2
 rw [FI hn hf] at this; cases this
theorem oV (cs:List Cm) {c:FC} (hn:(c.feats.map fun f=>f.name).Nodup):rO (members cs c)∧∀ m,m∈members cs c↔m∈sZ cs c:=iO (Cr cs hn)
theorem yF {cs:List Cm} {c:FC} (hn:(c.feats.map fun f=>f.name).Nodup) {m:Mb}:m∈members cs c↔(∃ n,(∃ x∈cs,x.mem.name=n)∧feat c n=none∧m=joined (under cs n))∨∃ f∈c.feats,m=jH c f (under cs f.name):=by
 rw [(oV cs hn).2]
 unfold sZ
 rw [List.mem_append,List.mem_map,List.mem_map]
 constructor
 ·rintro (⟨n,h,rfl⟩ | ⟨f,h,rfl⟩)
  ·obtain ⟨h1,h2⟩:=List.mem_filter.1 h
   exact .inl ⟨n,jX.1 h1,by simpa using h2,rfl⟩
  ·exact .inr ⟨f,h,rfl⟩
 ·rintro (⟨n,h1,h2,rfl⟩ | ⟨f,h,rfl⟩)
  ·exact .inl ⟨n,List.mem_filter.2 ⟨jX.2 h1,by rw [h2]; rfl⟩,rfl⟩
  ·exact .inr ⟨f,h,rfl⟩
end
def ed (l:FS) (n:Nm):Fl×Int:=if wholeE l [n]≠0 then (fl0,wholeE l [n]) else (look (build l).1 n,0)
def bS (l:FS) (ns:List Nm) (c n:Nm):Mb×Int:=if wholeE l (ns++[c])≠0 then (mb0,wholeE l (ns++[c])) else match dR (look (build l).1 c).mems n with
 | some m=>(m,0)
 | none=>(mb0,4)
def checkFl (l:FS) (f:List Fl):Int:=if (bQ l).1≠0 then (bQ l).1 else if (gI l).2≠0∨(gI l).1≠f then 11 else 0
section
variable {l:FS}
structure Good (l:FS):Prop where
 right:FRight l
 ok:∀ n,(bL l n).isSome=true→okF l n
theorem Good.sys (h:Good l):Right (bn l):=h.right.sys
theorem Hy:(gI l).2=0↔Good l:=by
 by_cases hf:(bQ l).1=0
 ·have hR:=fT.1 hf
  have hr:=hR.sys
  rw [(vg hf).2,Aq hr]
  constructor
  ·intro h
   exact ⟨hR,fun n hn=>(J5 h).2.2 n ((gp hr).2 hn)⟩
  ·intro h
   rw [Fy fun n hn=>h.ok n ((gp hr).1 hn)]
 ·rw [(xh hf).2.1]
  exact ⟨fun h=>absurd h hf,fun h=>absurd (fT.2 h.right) hf⟩
theorem Good.check (h:Good l):(bQ l).1=0:=fT.2 h.right
theorem Good.scan (h:Good l):Fl.scan l (order (bn l))=(order (bn l),cf0,0):=Fy fun n hn=>h.ok n ((gp h.sys).1 hn)
theorem Good.build (h:Good l):Fl.build l=(forms l (order (bn l)),cf0,0):=by rw [Aq h.sys,h.scan]
theorem Good.look (h:Good l) {n:Nm} (hn:(bL l n).isSome=true):Fl.look (Fl.build l).1 n=FL l n:=by
 rw [h.build]; exact oP ((gp h.sys).2 hn)
theorem Good.whole (h:Good l) {ns:List Nm}:wholeE l ns=0↔∀ n∈ns,(bL l n).isSome=true:=by
 unfold wholeE
 rw [if_neg (fun h2=>h2 h.check),h.build]
 split
 ·rename_i h2; simpa using h2
 ·rename_i h2
  refine ⟨fun h=>(by cases h),fun h3=>absurd (by simpa using h3) h2⟩
theorem Good.wholeE (h:Good l) {ns:List Nm} (hn:¬ ∀ n∈ns,(bL l n).isSome=true):Fl.wholeE l ns=5:=by
 unfold Fl.wholeE
 rw [if_neg (fun h2=>h2 h.check),if_neg (by simpa using hn)]
theorem Good.flats (h:Good l):gI l=((order (bn l)).map (FL l),0):=by
 unfold gI
 rw [if_neg (fun h2=>h2 (h.whole.2 (by simp))),h.build]
 simp [forms]
theorem Good.flatOf (h:Good l) {n:Nm} (hn:(bL l n).isSome=true):ed l n=(FL l n,0):=by
 unfold ed
 rw [if_neg (fun h2=>h2 (h.whole.2 (by simpa using hn))),h.look hn]
theorem Good.class (h:Good l) {n:Nm} (hn:(bL l n).isSome=true):CRight l (ae l n)∧(ae l n).name=n∧ae l n∈l:=by
 obtain ⟨c,hc⟩:=Option.isSome_iff_exists.1 hn
 rw [fZ hc]
 have hm:=List.mem_of_find?_eq_some hc
 exact ⟨gm (h.right.form c hm),lD hc,hm⟩
theorem Good.mems (h:Good l) {n:Nm} (hn:(bL l n).isSome=true):(FL l n).name=n∧(FL l n).mems=msF l n∧rO (msF l n)∧∀ m,m∈msF l n↔(∃ k,(∃ x∈comes (FL l) l (ae l n),x.mem.name=k)∧feat (ae l n) k=none∧m=joined (under (comes (FL l) l (ae l n)) k))∨∃ f∈(ae l n).feats,m=jH (ae l n) f (under (comes (FL l) l (ae l n)) f.name):=by
 obtain ⟨h1,h2,_⟩:=h.class hn
 refine ⟨by rw [FL_name h.sys,h2],jl h.sys n,(oV _ h1.names).1,fun m=>yF h1.names⟩
theorem Good.member (h:Good l) {ns:List Nm} {c n:Nm} (hns:∀ k∈ns,(bL l k).isSome=true) (hc:(bL l c).isSome=true):bS l ns c n=match dR (msF l c) n with
  | some m=>(m,0)
  | none=>(mb0,4):=by
 have hw:Fl.wholeE l (ns++[c])=0:=h.whole.2 fun k hk=>by
  rcases List.mem_append.1 hk with hk | hk
  ·exact hns k hk
  ·rw [List.mem_singleton.1 hk]; exact hc
 unfold bS
 rw [hw,if_neg (by decide),h.look hc,jl h.sys]
end
section
variable {l:FS}
theorem Nq {o:List Grp} {g x:Grp}:x∈uZ o g↔x∈o∨x=g:=by
 unfold uZ
 split
 ·rename_i h
  have h:g∈o:=by simpa using h
  exact ⟨.inl,fun h2=>h2.elim id fun e=>e ▸ h⟩
 ·simp
theorem Nr {o l:List Grp} {x:Grp}:x∈qN o l↔x∈o∨x∈l:=by
 unfold qN
 induction l generalizing o with
 | nil=>simp
 | cons g t ih=>rw [List.foldl_cons,ih,Nq,List.mem_cons,or_assoc]
theorem lG {ls:List (List Grp)} {x:Grp}:x∈groups ls↔∃ a∈ls,x∈a:=by
 have key:∀ (ls:List (List Grp)) (o:List Grp),x∈ls.foldl qN o↔x∈o∨∃ a∈ls,x∈a:=by
  intro ls
  induction ls with
  | nil=>intro o; simp
  | cons a t ih=>intro o; rw [List.foldl_cons,ih,Nr,or_assoc]; simp
 have:=key ls []
 simpa [groups] using this
theorem pR {cs:List Cm} {f:Cm→List Grp} {x:Grp}:x∈cs.foldl (fun (o:List Grp) (y:Cm)=>groups [o,f y]) []↔∃ y∈cs,x∈f y:=by
 have key:∀ (cs:List Cm) (o:List Grp),x∈cs.foldl (fun (o:List Grp) (y:Cm)=>groups [o,f y]) o↔x∈o∨∃ y∈cs,x∈f y:=by
  intro cs
  induction cs with
  | nil=>intro o; simp
  | cons a t ih=>intro o; rw [List.foldl_cons,ih,lG]; simp [or_assoc]
 have:=key cs []
 simpa using this
theorem kI {cs:List Cm} {s:Sd}:s∈(joined cs).seeds↔∃ x∈cs,s∈x.mem.seeds:=by
 show s∈qM _↔_
 rw [(jI _).2,List.mem_flatMap]
theorem tq {cs:List Cm} {g:Grp}:g∈(joined cs).pre↔∃ x∈cs,g∈x.mem.pre:=pR (f:=fun x=>x.mem.pre)
theorem qV {cs:List Cm} {g:Grp}:g∈(joined cs).post↔∃ x∈cs,g∈x.mem.post:=pR (f:=fun x=>x.mem.post)
theorem Cs {c:FC} {f:Fe} {cs:List Cm} (h:cs≠[]):(jH c f cs).seeds=(joined cs).seeds∧(jH c f cs).args=f.args∧(∀ g∈(joined cs).pre,g∈(jH c f cs).pre)∧(∀ g∈(joined cs).post,g∈(jH c f cs).post):=by
 unfold jH
 simp only []
 rw [if_neg h]
 exact ⟨rfl,rfl,fun g hg=>lG.2 ⟨_,by simp,hg⟩,fun g hg=>lG.2 ⟨_,by simp,hg⟩⟩
theorem KU {c:FC} {f:Fe}:(jH c f []).seeds=[⟨c.name,f.name⟩]:=rfl
theorem Hz {a b:Mb}:Sk.sameTy a b=true↔a.args=b.args∧a.ty=b.ty:=by simp [Sk.sameTy]
theorem flatMap_nil {α β : Type} {f : α → List β} {xs:List α} (h:xs.flatMap f=[]):∀ x∈xs,f x=[]:=fun x hx=>by
 cases hf:f x with
 | nil=>rfl
 | cons y t =>
  have:y∈xs.flatMap f:=List.mem_flatMap.2 ⟨x,hx,by rw [hf]; simp⟩
  rw [h] at this; cases this
structure Calm (l:FS) (n:Nm):Prop where
 lost:(skF l n false).lost=[]
 redecl:(skF l n false).redeclared=[]
 typed:(skF l n false).typed=[]
 chosen:(skF l n false).chosen=[]
 apart:(skF l n false).apart=[]
theorem okF.calm {n:Nm} (h:okF l n):Calm l n:=by
 have h1:(skF l n false).conflicts=[]:=h.1
 unfold Sk.conflicts at h1
 simp only [List.append_eq_nil_iff] at h1
 exact ⟨h1.1,h1.2.1,h1.2.2.1,h1.2.2.2.1,h1.2.2.2.2⟩
theorem KV {fl:Nm→Fl} {c:FC} {i:Nat} {p:Pt} {m:Mb} (hp:c.pars[i]? = some p) (hm:m∈(fl p.name).mems):qL (ae l p.name).forms i p m∈comes fl l c :=
 List.mem_flatMap.2 ⟨(p,i),List.mem_zipIdx_iff_getElem?.2 hp,List.mem_map.2 ⟨m,hm,rfl⟩⟩
theorem KW {s:Sk} {n:Nm}:n∈s.skeys↔∃ x∈s.cs,x.mem.name=n:=by
 unfold Sk.skeys
 rw [(iC _).2,jX]
theorem Good.come (h : Good l) {n : Nm} (hn : (bL l n).isSome = true) {x : Cm} (hx : x ∈ comes (FL l) l (ae l n)) :
  ∃ m∈msF l n,m.name=x.mem.name∧(∀ s∈x.mem.seeds,s∈m.seeds)∧m.args=x.mem.args∧(∀ g∈x.mem.pre,g∈m.pre)∧(∀ g∈x.mem.post,g∈m.post):=by
 have hc:=(h.ok n hn).calm
 obtain ⟨g1,g2,g3,g4⟩:=h.mems hn
 obtain ⟨k1,k2,k3⟩:=h.class hn
 have hu:x∈under (comes (FL l) l (ae l n)) x.mem.name:=fJ.2 ⟨hx,rfl⟩
 have ht:=(List.append_eq_nil_iff.1 hc.typed).1
 have hk:x.mem.name∈(skF l n false).skeys:=KW.2 ⟨x,hx,rfl⟩
 have ht1:=flatMap_nil (flatMap_nil ht _ hk)
 cases hf:feat (ae l n) x.mem.name with
 | none =>
  refine ⟨joined (under (comes (FL l) l (ae l n)) x.mem.name),(g4 _).2 (.inl ⟨_,⟨x,hx,rfl⟩,hf,rfl⟩),yE (jX.2 ⟨x,hx,rfl⟩),fun s hs=>kI.2 ⟨x,hu,hs⟩,?_,fun g hg=>tq.2 ⟨x,hu,hg⟩,fun g hg=>qV.2 ⟨x,hu,hg⟩⟩
  obtain ⟨y,hy,_,_,_,hya,_⟩:=mr _ (List.ne_nil_of_mem hu)
  rw [hya]
  have hs:∀ z∈under (comes (FL l) l (ae l n)) x.mem.name,∀ w,(under (comes (FL l) l (ae l n)) x.mem.name).head? = some w→w.mem.args=z.mem.args:=fun z hz w hw=>by
   have h1:=ht1 z hz
   have hf':feat (skF l n false).c x.mem.name=none:=hf
   rw [hf'] at h1
   simp only [] at h1
   have hw':(under (skF l n false).cs x.mem.name).head? = some w:=hw
   rw [hw'] at h1
   by_cases hq:Sk.sameTy ((some w).getD z).mem z.mem=true
   ·exact (Hz.1 hq).1
   ·rw [if_neg hq] at h1; cases h1
  cases hw:(under (comes (FL l) l (ae l n)) x.mem.name).head? with
  | none =>
   rw [List.head?_eq_none_iff] at hw
   rw [hw] at hu; cases hu
  | some w=>rw [← hs y hy w hw,← hs x hu w hw]
 | some f =>
  obtain ⟨hfm,hfn⟩:=KS hf
  have hne:under (comes (FL l) l (ae l n)) f.name≠[]:=by rw [hfn]; exact List.ne_nil_of_mem hu
  obtain ⟨o1,o2,o3,o4⟩:=Cs (c:=ae l n) (f:=f) hne
  refine ⟨jH (ae l n) f (under (comes (FL l) l (ae l n)) f.name),(g4 _).2 (.inr ⟨f,hfm,rfl⟩),by rw [Co,hfn],fun s hs=>?_,?_,fun g hg=>o3 g (tq.2 ⟨x,by rw [hfn]; exact hu,hg⟩),fun g hg=>o4 g (qV.2 ⟨x,by rw [hfn]; exact hu,hg⟩)⟩
  ·rw [o1]; exact kI.2 ⟨x,by rw [hfn]; exact hu,hs⟩
  ·rw [o2]
   have h1:=ht1 x hu
   have hf':feat (skF l n false).c x.mem.name=some f:=hf
   rw [hf'] at h1
   simp only [] at h1
   split at h1
   ·rename_i hq
    simp only [Bool.and_eq_true,decide_eq_true_eq] at hq
    exact hq.1
   ·cases h1
theorem Good.seeds_ne (h:Good l):∀ c,(bL l c).isSome=true→∀ m∈msF l c,m.seeds≠[]:=by
 refine nZ h.sys.acyc fun c ih hc m hm=>?_
 have hj:∀ xs:List Cm,xs≠[]→(∀ x∈xs,x∈comes (FL l) l (ae l c))→(joined xs).seeds≠[]:=fun xs hne hxs=>by
  obtain ⟨x,hx⟩:=List.exists_mem_of_ne_nil _ hne
  obtain ⟨p,hp,m1,hm1,he⟩:=iZ (hxs x hx)
  have hpm:=eT h.sys (List.mem_of_getElem? hp)
  rw [jl h.sys] at hm1
  obtain ⟨s,hs⟩:=List.exists_mem_of_ne_nil _ (ih _ hpm (by rw [← dW]; exact lW hpm) m1 hm1)
  exact List.ne_nil_of_mem (kI.2 ⟨x,hx,by rw [he]; exact hs⟩)
 rcases ((h.mems hc).2.2.2 m).1 hm with ⟨n,⟨x,hx,hn⟩,_,rfl⟩ | ⟨f,hf,rfl⟩
 ·exact hj _ (List.ne_nil_of_mem (fJ.2 ⟨hx,hn⟩)) fun y hy=>(fJ.1 hy).1
 ·by_cases hu:under (comes (FL l) l (ae l c)) f.name=[]
  ·rw [hu,KU]; simp
  ·rw [(Cs hu).1]
   exact hj _ hu fun y hy=>(fJ.1 hy).1

/-! ### Names that are selected -/
theorem lH {ms:List Mb} {s:Sd} {n:Nm}:n∈aY ms s↔∃ m∈ms,s∈m.seeds∧m.name=n:=by
 unfold aY
 rw [List.mem_map]
 constructor
 ·rintro ⟨m,h,rfl⟩
  obtain ⟨h1,h2⟩:=List.mem_filter.1 h
  exact ⟨m,h1,by simpa using h2,rfl⟩
 ·rintro ⟨m,h1,h2,rfl⟩
  exact ⟨m,List.mem_filter.2 ⟨h1,by simpa using h2⟩,rfl⟩
theorem Good.pick_mem (h:Good l) {s:Sd} {c:Nm} (hc:(bL l c).isSome=true) (hl:((picked (ae l c) (having (comes (FL l) l (ae l c)) s)).length == 1)=true) :
  jV (picked (ae l c) (having (comes (FL l) l (ae l c)) s))∈aY (msF l c) s:=by
 have hl:(picked (ae l c) (having (comes (FL l) l (ae l c)) s)).length=1:=by simpa using hl
 match hp:picked (ae l c) (having (comes (FL l) l (ae l c)) s),hl with
 | [a],_ =>
  show a∈_
  have ha:a∈picked (ae l c) (having (comes (FL l) l (ae l c)) s):=by rw [hp]; simp
  unfold picked at ha
  rw [zx] at ha
  rcases ha with ha | ha
  ·cases ha
  obtain ⟨x,hx,rfl⟩:=List.mem_map.1 ha
  obtain ⟨hx1,_⟩:=List.mem_filter.1 hx
  obtain ⟨hx2,hx3⟩:=List.mem_filter.1 hx1
  obtain ⟨m,hm,j1,j2,_⟩:=h.come hc hx2
  exact lH.2 ⟨m,hm,j2 s (by simpa using hx3),j1⟩
theorem Good.sel_mem (h:Good l) {s:Sd}:∀ (n:Nat) (c:Nm),(bL l c).isSome=true→(eF (FL l) l n (ae l c) (msF l c) s).2=true→(eF (FL l) l n (ae l c) (msF l c) s).1∈aY (msF l c) s:=by
 intro n
 induction n with
 | zero =>
  intro c hc
  unfold eF
  split
  ·rename_i a ha
   intro _; rw [ha]; simp
  ·simp only []
   split
   ·rename_i hq
    intro h1
    exact h.pick_mem hc h1
   ·split
    ·rename_i h2; cases h2
    ·intro h1; cases h1
 | succ n ih =>
  intro c hc
  unfold eF
  split
  ·rename_i a ha
   intro _; rw [ha]; simp
  ·simp only []
   split
   ·rename_i hq
    intro h1
    exact h.pick_mem hc h1
   ·split
    ·rename_i i t n' h1 h2
     cases h2
     have hi:i∈bW (having (comes (FL l) l (ae l c)) s):=by rw [h1]; simp
     have hpm:dC (ae l c) i∈(ae l c).pars:=qR hi
     have hpp:=eT h.sys hpm
     have hpc:(bL l (dC (ae l c) i).name).isSome=true:=by rw [← dW]; exact lW hpp
     split
     ·intro h3
      rw [jl h.sys] at h3 ⊢
      obtain ⟨m,hm,hs,hmn⟩:=lH.1 (ih _ hpc h3)
      have hpi:(ae l c).pars[i]? = some (dC (ae l c) i):=by
       obtain ⟨x,hx,rfl⟩:=oO.1 hi
       obtain ⟨p,hp,_⟩:=iZ (List.mem_filter.1 hx).1
       unfold dC; rw [hp]; rfl
      obtain ⟨m2,hm2,j1,j2,_⟩:=h.come hc (KV (fl:=FL l) (l:=l) hpi (m:=m) (by rw [jl h.sys]; exact hm))
      refine lH.2 ⟨m2,hm2,j2 s hs,?_⟩
      rw [j1,← hmn]; rfl
     ·intro h3; cases h3
    ·intro h1; cases h1
end
def jJ (l:FS) (c:Nm) (s:Sd):List Nm×Int:=if wholeE l [c]≠0 then ([],wholeE l [c]) else if aY (look (build l).1 c).mems s=[] then ([],5) else (aY (look (build l).1 c).mems s,0)
def selOf (l:FS) (c:Nm) (s:Sd):Nm×Bool:=eF (look (build l).1) l l.length (ae l c) (look (build l).1 c).mems s
def Cu (l:FS) (c:Nm) (s:Sd):Nm×Int:=if (jJ l c s).2≠0 then ([],(jJ l c s).2) else ((selOf l c s).1,0)
def tu (ms:List Mb) (ss:List Sd):List Nm:=(ms.filter fun x=>ss.all fun s=>x.seeds.contains s).map fun x=>x.name
def vB (l:FS) (d c n:Nm):Nm×Int :=
 if (bS l [d] c n).2≠0 then ([],(bS l [d] c n).2) else if has (bn l) d c=false then ([],5) else
 match tu (look (build l).1 d).mems (bS l [d] c n).1.seeds with
 | []=>([],5)
 | [a]=>(a,0)
 | a::b::t=>if (a::b::t).contains (selOf l d ((bS l [d] c n).1.seeds.headD ⟨[],[]⟩)).1 then ((selOf l d ((bS l [d] c n).1.seeds.headD ⟨[],[]⟩)).1,0) else ([],5)
section
variable {l:FS}
theorem KX (h:Good l) {c:Nm} (hc:(bL l c).isSome=true) (n:Nat) (ms:List Mb) (s:Sd):eF (look (build l).1) l n (ae l c) ms s=eF (FL l) l n (ae l c) ms s :=
 sS h.sys n c ms s fun a h1 _=>h.look (by rw [← dW]; exact uq (by rw [dW]; exact hc) h1)
theorem Good.selOf (h:Good l) {c:Nm} (hc:(bL l c).isSome=true) (s:Sd):Fl.selOf l c s=eF (FL l) l l.length (ae l c) (msF l c) s:=by
 unfold Fl.selOf
 rw [KX h hc,h.look hc,jl h.sys]
theorem Good.names (h:Good l) {c:Nm} (hc:(bL l c).isSome=true) (s:Sd):jJ l c s=if aY (msF l c) s=[] then ([],5) else (aY (msF l c) s,0):=by
 unfold jJ
 rw [if_neg (fun h2=>h2 (h.whole.2 (by simpa using hc))),h.look hc,jl h.sys]
theorem Good.sel_ok (h : Good l) {c : Nm} (hc : (bL l c).isSome = true) {s : Sd} {m : Mb} (hm : m ∈ msF l c) (hs : s ∈ m.seeds) :
  (eF (FL l) l l.length (ae l c) (msF l c) s).2=true∧(eF (FL l) l l.length (ae l c) (msF l c) s).1∈aY (msF l c) s:=by
 have key : (eF (FL l) l l.length (ae l c) (msF l c) s).2 = true := by
  cases hq:(eF (FL l) l l.length (ae l c) (msF l c) s).2 with
  | true=>rfl
  | false =>
   exfalso
   have h1:=(List.append_eq_nil_iff.1 (List.append_eq_nil_iff.1 (h.ok c hc).calm.chosen).1).1
   have hsd:s∈(skF l c false).seeds:=by
    unfold Sk.seeds
    rw [(jI _).2,List.mem_flatMap]
    exact ⟨m,hm,hs⟩
   have h2:=flatMap_nil h1 s hsd
   have hq':((skF l c false).sel s).2=false:=hq
   rw [hq',if_neg (by decide)] at h2
   have hn:m.name∈aY (msF l c) s:=lH.2 ⟨m,hm,hs,rfl⟩
   match hl:aY (msF l c) s,hn with
   | [a],_ =>
    have:(eF (FL l) l l.length (ae l c) (msF l c) s).2=true:=by unfold eF; rw [hl]
    rw [hq] at this; cases this
   | a::b::t,_ =>
    have hmem:∀ f,f a b∈(skF l c false).pairs (aY (msF l c) s) (fun _ _=>true) f:=fun f=>jm.2 ⟨0,1,a,b,by rw [hl]; rfl,by rw [hl]; rfl,by decide,fun _=>by decide,rfl,rfl⟩
    have h3:∀ r:List Cf,(skF l c false).cut r=[]→r=[]:=fun r hr=>by
     cases r with
     | nil=>rfl
     | cons x t=>simp [Sk.cut,skF] at hr
    have h4:=h3 _ h2
    have h5:=hmem fun a b=>⟨11,(skF l c false).c.name,a,b,⟨s.cls,s.name⟩,og0⟩
    have h6:(skF l c false).pairs (aY (skF l c false).ms s) (fun _ _=>true) (fun a b=>⟨11,(skF l c false).c.name,a,b,⟨s.cls,s.name⟩,og0⟩)=[]:=h4
    have h7:(skF l c false).ms=msF l c:=rfl
    rw [h7] at h6
    rw [h6] at h5; cases h5
 exact ⟨key,h.sel_mem _ c hc key⟩
theorem Good.selected (h:Good l) {c:Nm} (hc:(bL l c).isSome=true) {s:Sd} {m:Mb} (hm:m∈msF l c) (hs:s∈m.seeds):jJ l c s=(aY (msF l c) s,0)∧Cu l c s=((Fl.selOf l c s).1,0)∧(Fl.selOf l c s).1∈aY (msF l c) s:=by
 have hne:aY (msF l c) s≠[]:=List.ne_nil_of_mem (lH.2 ⟨m,hm,hs,rfl⟩)
 have h1:jJ l c s=(aY (msF l c) s,0):=by rw [h.names hc,if_neg hne]
 refine ⟨h1,?_,?_⟩
 ·unfold Cu; rw [h1,if_neg (by simp)]
 ·rw [h.selOf hc]; exact (h.sel_ok hc hm hs).2
end
section
variable {l m:FS}
theorem Cv (hr:Right (bn l)) {fl:Nm→Fl}:∀ (f g:Nat) (c:Nm) (ms:List Mb) (s:Sd),(bL l c).isSome=true→rk (bn l) c≤f→rk (bn l) c≤g→eF fl l f (ae l c) ms s=eF fl l g (ae l c) ms s:=by
 have h1:∀ c,(bL l c).isSome=true→1≤rk (bn l) c:=fun c hc=>by
  unfold rk
  exact List.countP_pos_iff.2 ⟨c,fD.1 (by rw [dW]; exact hc),mX _ c⟩
 intro f
 induction f with
 | zero=>intro g c ms s hc h2; have:=h1 c hc; omega
 | succ f ih =>
  intro g c ms s hc h2 h3
  cases g with
  | zero=>have:=h1 c hc; omega
  | succ g =>
   unfold eF
   split
   ·rfl
   ·simp only []
    split
    ·rfl
    ·split
     ·rename_i i t n' e1 e2
      cases e2
      rw [e1]
      simp only []
      have hi:i∈bW (having (comes fl l (ae l c)) s):=by rw [e1]; simp
      have hpp:=eT hr (qR hi)
      have:=il hr.acyc hpp
      rw [ih g _ _ s (by rw [← dW]; exact lW hpp) (by omega) (by omega)]
     ·rename_i e1
      split
      ·rename_i i t n' e2 e3
       cases e3
       exact absurd rfl (e1 i t f e2)
      ·rfl
structure Agree (l m:FS) (D:Nm→Prop):Prop where
 left:Right (bn l)
 right:Right (bn m)
 find:∀ c,D c→bL m c=bL l c
 up:∀ c,D c→∀ p∈par (bn l) c,D p
 there:∀ c,D c→(bL l c).isSome=true
variable {D:Nm→Prop}
theorem Agree.class (h:Agree l m D) {c:Nm} (hc:D c):ae m c=ae l c:=by unfold ae; rw [h.find c hc]
theorem Agree.par (h:Agree l m D) {c:Nm} (hc:D c):Hr.par (bn m) c=Hr.par (bn l) c:=by rw [Ao h.left,Ao h.right,h.class hc]
theorem Agree.W (h:Agree l m D) {a:Nm}:∀ (k:Nat) {c:Nm},D c→Hr.W (bn m) a k c=Hr.W (bn l) a k c
 | 0,c,_=>rfl
 | k+1,c,hc=>by
  show (Hr.par (bn m) c).any _=(Hr.par (bn l) c).any _
  rw [h.par hc,Bool.eq_iff_iff,List.any_eq_true,List.any_eq_true]
  exact ⟨fun ⟨p,h1,h2⟩=>⟨p,h1,by rw [← h.W k (h.up c hc p h1)]; exact h2⟩,fun ⟨p,h1,h2⟩=>⟨p,h1,by rw [h.W k (h.up c hc p h1)]; exact h2⟩⟩
theorem Agree.has (h:Agree l m D) {c a:Nm} (hc:D c):Hr.has (bn m) c a=Hr.has (bn l) c a:=by
 rw [Bool.eq_iff_iff,fU,fU]
 exact ⟨fun ⟨k,hk⟩=>⟨k,by rw [← h.W k hc]; exact hk⟩,fun ⟨k,hk⟩=>⟨k,by rw [h.W k hc]; exact hk⟩⟩
theorem Agree.above (h:Agree l m D):∀ c,D c→Hr.above (bn m) c=Hr.above (bn l) c:=by
 refine nZ h.left.acyc fun c ih hc=>?_
 rw [wM h.left.acyc,wM h.right.acyc,h.par hc]
 congr 1
 have key:∀ (ps o:List Nm),(∀ p∈ps,p∈Hr.par (bn l) c)→ps.foldl (fun o p=>dd o (Hr.above (bn m) p)) o=ps.foldl (fun o p=>dd o (Hr.above (bn l) p)) o:=by
  intro ps
  induction ps with
  | nil=>intro _ _; rfl
  | cons p t ih2 =>
   intro o hp
   rw [List.foldl_cons,List.foldl_cons,ih p (hp p (by simp)) (h.up c hc p (hp p (by simp)))]
   exact ih2 _ fun q hq=>hp q (by simp [hq])
 exact key _ [] fun _ h=>h
theorem Agree.parD (h:Agree l m D) {c:Nm} (hc:D c) {p:Pt} (hp:p∈(ae l c).pars):D p.name:=h.up c hc _ (eT h.left hp)
theorem Agree.upD (h:Agree l m D):∀ c,D c→∀ a,Hr.has (bn l) c a=true→D a:=by
 refine nZ h.left.acyc fun c ih hc a ha=>?_
 rcases wL ha with rfl | ⟨p,hp,hpa⟩
 ·exact hc
 ·exact ih p hp (h.up c hc p hp) a hpa
theorem rG {fl fl':Nm→Fl} {c:FC} (h1:∀ p∈c.pars,fl p.name=fl' p.name) (h2:∀ p∈c.pars,ae m p.name=ae l p.name):comes fl l c=comes fl' m c:=by
 unfold comes
 refine dD fun q hq=>?_
 rw [h1 q.1 (zl hq),h2 q.1 (zl hq)]
theorem Agree.FL (h:Agree l m D):∀ c,D c→Fl.FL m c=Fl.FL l c:=by
 refine nZ h.left.acyc fun c ih hc=>?_
 rw [Ch h.left,Ch h.right]
 have h1:comes (Fl.FL l) l (ae l c)=comes (Fl.FL m) m (ae l c):=rG (fun p hp=>(ih _ (eT h.left hp) (h.parD hc hp)).symm) fun p hp=>h.class (h.parD hc hp)
 have h2:msF m c=msF l c:=by unfold msF; rw [h.class hc,h1]
 rw [h.class hc,h2]
 have hn:(ae l c).name=c:=by
  obtain ⟨x,hx⟩:=Option.isSome_iff_exists.1 (h.there c hc)
  rw [fZ hx,lD hx]
 unfold flatOf
 rw [hn,h.above c hc]
 congr 1
 refine nU fun a ha=>?_
 rw [h.class (h.upD c hc a (((iI h.left.acyc c).2 a).1 ha))]
theorem Agree.ms (h:Agree l m D) {c:Nm} (hc:D c):msF m c=msF l c:=by rw [← jl h.right,← jl h.left,h.FL c hc]
theorem Agree.sel (h:Agree l m D) {s:Sd}:∀ (n:Nat) (c:Nm),D c→∀ ms,eF (Fl.FL m) m n (ae l c) ms s=eF (Fl.FL l) l n (ae l c) ms s:=by
 intro n
 induction n with
 | zero =>
  intro c hc ms
  have h1:comes (Fl.FL l) l (ae l c)=comes (Fl.FL m) m (ae l c):=rG (fun p hp=>(h.FL _ (h.parD hc hp)).symm) fun p hp=>h.class (h.parD hc hp)
  unfold eF
  rw [h1]
  split
  ·rfl
  ·simp only []
   split
   ·rfl
   ·split
    ·rename_i e; cases e
    ·rfl
 | succ n ih =>
  intro c hc ms
  have h1:comes (Fl.FL l) l (ae l c)=comes (Fl.FL m) m (ae l c):=rG (fun p hp=>(h.FL _ (h.parD hc hp)).symm) fun p hp=>h.class (h.parD hc hp)
  unfold eF
  rw [h1]
  split
  ·rfl
  ·simp only []
   split
   ·rfl
   ·split
    ·rename_i i t n' e1 e2
     cases e2
     have hi:i∈bW (having (comes (Fl.FL m) m (ae l c)) s):=by rw [e1]; simp
     have hd:=h.parD hc (qR hi)
     rw [h.class hd,h.FL _ hd,ih _ hd]
    ·rfl
theorem Agree.conf (h:Agree l m D) {c:Nm} (hc:D c) (all:Bool):iY m c all=iY l c all:=by
 unfold iY skF
 rw [h.class hc,h.ms hc]
 refine (Ci (rG (fun p hp=>(h.FL _ (h.parD hc hp)).symm) fun p hp=>h.class (h.parD hc hp)) (fun p hp=>(h.FL _ (h.parD hc hp)).symm) fun d=>?_).symm
 show eF (Fl.FL l) l l.length (ae l c) (msF l c) d=eF (Fl.FL m) m m.length (ae l c) (msF l c) d
 have hr1:=qh (bn l) c
 have hr2:=qh (bn m) c
 rw [jW] at hr1 hr2
 have e1:eF (Fl.FL m) m m.length (ae l c) (msF l c) d=eF (Fl.FL m) m (l.length+m.length) (ae l c) (msF l c) d:=by
  rw [← h.class hc]
  exact Cv h.right _ _ c _ d (by rw [h.find c hc]; exact h.there c hc) hr2 (by omega)
 rw [e1,h.sel _ c hc,Cv h.left l.length (l.length+m.length) c _ d (h.there c hc) hr1 (by omega)]
theorem Agree.okF (h:Agree l m D) {c:Nm} (hc:D c):Fl.okF m c↔Fl.okF l c:=by unfold Fl.okF; rw [h.conf hc,h.ms hc]

/-! ### The classes in another order -/
/-! ### A class behind the others -/
end
def rv (c:FC):FC:={ c with pars:=c.pars.reverse }
def tl (l:FS):FS:=l.map rv
structure MR (a b:Mb):Prop where
 name:a.name=b.name
 kind:a.kind=b.kind
 seeds:a.seeds=b.seeds
 args:a.args=b.args
 ty:a.ty=b.ty
 impl:a.kind≠3→a.impl=b.impl
 pre:∀ g,g∈a.pre↔g∈b.pre
 post:∀ g,g∈a.post↔g∈b.post
theorem MR.refl (a:Mb):MR a a:=⟨rfl,rfl,rfl,rfl,rfl,fun _=>rfl,fun _=>Iff.rfl,fun _=>Iff.rfl⟩
inductive ML:List Mb→List Mb→Prop
 | nil:ML [] []
 | cons {a b:Mb} {s t:List Mb}:MR a b→ML s t→ML (a::s) (b::t)
theorem ML.left {xs ys:List Mb} (h:ML xs ys):∀ a∈xs,∃ b∈ys,MR a b:=by
 induction h with
 | nil=>simp
 | cons h1 _ ih =>
  intro a ha
  rcases List.mem_cons.1 ha with rfl | ha
  ·exact ⟨_,by simp,h1⟩
  ·obtain ⟨b,hb,h2⟩:=ih a ha
   exact ⟨b,by simp [hb],h2⟩
theorem ML.right {xs ys:List Mb} (h:ML xs ys):∀ b∈ys,∃ a∈xs,MR a b:=by
 induction h with
 | nil=>simp
 | cons h1 _ ih =>
  intro a ha
  rcases List.mem_cons.1 ha with rfl | ha
  ·exact ⟨_,by simp,h1⟩
  ·obtain ⟨b,hb,h2⟩:=ih a ha
   exact ⟨b,by simp [hb],h2⟩
theorem ML.len {xs ys:List Mb} (h:ML xs ys):xs.length=ys.length:=by
 induction h with
 | nil=>rfl
 | cons _ _ ih=>simp [ih]
theorem ML.at {xs ys:List Mb} (h:ML xs ys):∀ (i:Nat) (a b:Mb),xs[i]? = some a→ys[i]? = some b→MR a b:=by
 induction h with
 | nil=>intro i a b h; simp at h
 | cons h1 _ ih =>
  intro i a b ha hb
  cases i with
  | zero=>simp at ha hb; subst ha hb; exact h1
  | succ i=>exact ih i a b (by simpa using ha) (by simpa using hb)
theorem ML.filter {xs ys:List Mb} {f g:Mb→Bool} (h:ML xs ys) (hf:∀ a b,MR a b→f a=g b):ML (xs.filter f) (ys.filter g):=by
 induction h with
 | nil=>exact .nil
 | @cons a b s t h1 _ ih =>
  rw [List.filter_cons,List.filter_cons,hf a b h1]
  split
  ·exact .cons h1 ih
  ·exact ih
theorem ML.map {α : Type} {xs ys:List Mb} {f g:Mb → α} (h:ML xs ys) (hf:∀ a b,MR a b→f a=g b):xs.map f=ys.map g:=by
 induction h with
 | nil=>rfl
 | @cons a b s t h1 _ ih=>rw [List.map_cons,List.map_cons,ih,hf a b h1]
theorem ML.any {xs ys:List Mb} {f g:Mb→Bool} (h:ML xs ys) (hf:∀ a b,MR a b→f a=g b):xs.any f=ys.any g:=by
 induction h with
 | nil=>rfl
 | @cons a b s t h1 _ ih=>rw [List.any_cons,List.any_cons,ih,hf a b h1]
theorem ML.named {xs ys:List Mb} (h:ML xs ys) (s:Sd):aY xs s=aY ys s:=(h.filter fun a b hab=>by rw [hab.seeds]).map fun a b hab=>hab.name
theorem ML.find {xs ys:List Mb} (h:ML xs ys) (n:Nm):(dR xs n=none∧dR ys n=none)∨∃ a b,dR xs n=some a∧dR ys n=some b∧MR a b:=by
 induction h with
 | nil=>exact .inl ⟨rfl,rfl⟩
 | @cons a b s t h1 _ ih =>
  unfold dR at ih ⊢
  rw [List.find?_cons,List.find?_cons,← h1.name]
  cases hq:a.name == n with
  | true=>exact .inr ⟨a,b,rfl,rfl,h1⟩
  | false=>exact ih
theorem ML.of : ∀ {xs ys : List Mb}, rO xs → rO ys → (∀ a ∈ xs, ∃ b ∈ ys, MR a b) → (∀ b ∈ ys, ∃ a ∈ xs, MR a b) → ML xs ys
 | [],[],_,_,_,_=>.nil
 | [],y::t,_,_,_,h=>by obtain ⟨a,ha,_⟩:=h y (by simp); cases ha
 | x::s,[],_,_,h,_=>by obtain ⟨a,ha,_⟩:=h x (by simp); cases ha
 | x :: s, y :: t, h1, h2, h3, h4 => by
  obtain ⟨a1,a2⟩:=List.pairwise_cons.1 h1
  obtain ⟨b1,b2⟩:=List.pairwise_cons.1 h2
  have hn:x.name=y.name:=by
   obtain ⟨b,hb,hxb⟩:=h3 x (by simp)
   obtain ⟨a,ha,hay⟩:=h4 y (by simp)
   rcases List.mem_cons.1 hb with rfl | hb
   ·exact hxb.name
   rcases List.mem_cons.1 ha with rfl | ha
   ·exact hay.name
   ·have e1:=b1 b hb
    have e2:=a1 a ha
    rw [← hxb.name] at e1
    rw [hay.name] at e2
    rw [iB e1] at e2; cases e2
  have hxy:MR x y:=by
   obtain ⟨b,hb,hxb⟩:=h3 x (by simp)
   rcases List.mem_cons.1 hb with rfl | hb
   ·exact hxb
   ·have e1:=b1 b hb
    rw [← hxb.name,hn,lt_irrefl] at e1; cases e1
  refine .cons hxy (ML.of a2 b2 (fun a ha=>?_) fun b hb=>?_)
  ·obtain ⟨b,hb,hab⟩:=h3 a (by simp [ha])
   rcases List.mem_cons.1 hb with rfl | hb
   ·have e1:=a1 a ha
    rw [hab.name,hn,lt_irrefl] at e1; cases e1
   ·exact ⟨b,hb,hab⟩
  ·obtain ⟨a,ha,hab⟩:=h4 b (by simp [hb])
   rcases List.mem_cons.1 ha with rfl | ha
   ·have e1:=b1 b hb
    rw [← hab.name,hn,lt_irrefl] at e1; cases e1
   ·exact ⟨a,ha,hab⟩
section
variable {l:FS}
/-! ### What comes -/
structure CR (k:Nat) (x y:Cm):Prop where
 og:x.og=y.og
 par:x.par+y.par+1=k
 mem:MR x.mem y.mem
 was:x.was=y.was
theorem CR.dfd {k:Nat} {x y:Cm} (h:CR k x y):x.dfd=y.dfd:=by unfold Cm.dfd; rw [h.mem.kind]
def PR (l:FS) (fl fl':Nm→Fl) (c:FC):Prop:=∀ p∈c.pars,ML (fl p.name).mems (fl' p.name).mems
section
variable {fl fl':Nm→Fl} {c:FC}
end
end
end Go.Fl
