/-
  Right systems of generic classes: what formals of ancestors are is the same by every way. No program in sight.
  Which types conform to which: an order; formals replaced. No program in sight.
  Types that conform do so after formals are replaced. No program in sight.
-/
import Derived.Test.YtaohbfnepjjdgaaGreatM5
set_option linter.unusedVariables false
set_option linter.unusedSimpArgs false
namespace Go.Hr
open Go
theorem Tp.pre {l : Sys} {a b : List Nm} (h : Tp l (a ++ b)) : Tp l a := by
 generalize ho:a++b=o at h
 induction h generalizing a b with
 | nil=>rw [(List.append_eq_nil_iff.1 ho).1]; exact .nil
 | @snoc o c h1 h2 h3 ih =>
  rcases List.eq_nil_or_concat b with rfl | ⟨b',c',rfl⟩
  ·rw [List.append_nil] at ho
   subst ho
   exact .snoc h1 h2 h3
  ·rw [List.concat_eq_append,← List.append_assoc] at ho
   exact ih (List.append_inj' ho rfl).1
theorem Tp.mid {l:Sys} {a t:List Nm} {c:Nm} (h:Tp l (a++c::t)):c ∉ a∧∀ p∈Hr.par l c,p∈a:=by
 have h1:Tp l (a++[c]):=Tp.pre (b:=t) (by rw [List.append_assoc]; exact h)
 generalize ho:a++[c]=o at h1
 cases h1 with
 | nil=>simp at ho
 | snoc h1 h2 h3 =>
  obtain ⟨h4,h5⟩:=List.append_inj' ho rfl
  simp only [List.cons.injEq,and_true] at h5
  subst h4 h5
  exact ⟨h2,h3⟩
theorem alook_append {α : Type} {F G:List (Nm × α)} {k:Nm}:alook (F++G) k=(alook F k).or (alook G k):=by
 unfold alook
 rw [List.find?_append]
 cases List.find? (fun x=>x.1 == k) F <;> rfl
section
variable {l:KS} {all:List (Nm×Own)}
theorem oupd_same {o:Own} {a:Nm} {ts:List Kt}:oupd o a ts a=some ts:=if_pos rfl
theorem clash_false {o:Own} {a:Nm} {ts:List Kt} (h:clash o a ts=false) {was:List Kt} (hw:o a=some was):was=ts:=by
 unfold clash at h; rw [hw] at h; simpa using h
theorem ownGo_spec : ∀ {ps : List (Kp × Nm)} {o o' : Own}, ownGo l all ps o = .ok o' →
  (∀ a ts,o a=some ts→o' a=some ts)∧(∀ q∈ps,o' q.2=some (seenT l all q.1 q.2))∧(∀ a,(o' a).isSome→(o a).isSome∨∃ q∈ps,q.2=a)
 | [],o,o',h=>by
  simp only [ownGo,Except.ok.injEq] at h
  subst h
  exact ⟨fun _ _ h=>h,(fun q h=>absurd h List.not_mem_nil),fun _ h=>.inl h⟩
 | (p, a) :: t, o, o', h => by
  rw [ownGo] at h
  split at h
  ·cases h
  ·split at h
   ·cases h
   ·rename_i h1 h2
    have h2:clash o a (seenT l all p a)=false:=by simpa using h2
    obtain ⟨g1,g2,g3⟩:=ownGo_spec h
    have hk:∀ b ts,o b=some ts→oupd o a (seenT l all p a) b=some ts:=fun b ts hb=>by
     unfold oupd
     split
     ·rename_i e; subst e; rw [clash_false h2 hb]
     ·exact hb
    refine ⟨fun b ts hb=>g1 b ts (hk b ts hb),fun q hq=>?_,fun b hb=>?_⟩
    ·rcases List.mem_cons.1 hq with rfl | hq
     ·exact g1 a _ oupd_same
     ·exact g2 q hq
    ·rcases g3 b hb with h3 | ⟨q,hq,rfl⟩
     ·unfold oupd at h3
      split at h3
      ·rename_i e; exact .inr ⟨(p,a),by simp,e.symm⟩
      ·exact .inl h3
     ·exact .inr ⟨q,by simp [hq],rfl⟩
theorem ownGo_err : ∀ {ps : List (Kp × Nm)} {o : Own} {e : Int}, ownGo l all ps o = .error e → e = 3 ∨ e = 10
 | [],o,e,h=>by simp [ownGo] at h
 | (p,a)::t,o,e,h=>by
  rw [ownGo] at h
  split at h
  ·simp at h; exact .inl h.symm
  ·split at h
   ·simp at h; exact .inr h.symm
   ·exact ownGo_err h
theorem tabGo_err : ∀ {cs : List Nm} {all : List (Nm × Own)} {e : Int × Nm}, tabGo l cs all = .error e → e.1 ≠ 0
 | [],all,e,h=>by simp [tabGo] at h
 | c :: t, all, e, h => by
  rw [tabGo] at h
  split at h
  ·cases h
  ·split at h
   ·rename_i h1
    simp only [Except.error.injEq] at h
    subst h
    rcases ownGo_err h1 with rfl | rfl
    ·exact (by decide:(3:Int)≠0)
    ·exact (by decide:(10:Int)≠0)
   ·exact tabGo_err h
structure OwnOk (l:KS) (all:List (Nm×Own)) (c:Nm) (x:KC) (o:Own):Prop where
 dom:∀ a,(o a).isSome=has (ksys l) c a
 own:o c=some (ownT x.formals)
 par:∀ p∈x.parents,∀ a,has (ksys l) p.name a=true→o a=some (seenT l all p a)
def TabOk (l:KS) (all:List (Nm×Own)):Prop:=∀ c o,alook all c=some o→∃ x,kfind l c=some x∧OwnOk l all c x o
theorem tabGo_spec (hR : Right (ksys l)) : ∀ {cs : List Nm} {all all' : List (Nm × Own)}, tabGo l cs all = .ok all' → Tp (ksys l) (all.map (·.1) ++ cs) → (∀ c ∈ cs, isC (ksys l) c = true) → TabOk l all →
  TabOk l all'∧all'.map (·.1)=all.map (·.1)++cs
 | [],all,all',h,_,_,hT=>by
  simp only [tabGo,Except.ok.injEq] at h
  subst h
  exact ⟨hT,by simp⟩
 | c :: t, all, all', h, hTp, hC, hT => by
  rw [tabGo] at h
  have hc:=hC c (by simp)
  rw [← kfind_isC] at hc
  obtain ⟨x,hx⟩:=Option.isSome_iff_exists.1 hc
  rw [hx] at h
  simp only [] at h
  split at h
  ·cases h
  ·rename_i o ho
   obtain ⟨hn,hp⟩:=hTp.mid
   have hlk:∀ d,alook (all++[(c,o)]) d=if d=c then some o else alook all d:=fun d=>by
    rw [alook_append]
    by_cases hd:d=c
    ·subst hd; rw [if_pos rfl,alook_none.2 hn,Option.none_or]; simp [alook]
    ·have:¬ c=d:=fun e=>hd e.symm
     rw [if_neg hd,alook_cons,if_neg this]
     cases alook all d <;> rfl
   have hse:∀ (p:Kp) a,p.name≠c→seenT l (all++[(c,o)]) p a=seenT l all p a:=fun p a hpc=>by
    unfold seenT; rw [hlk,if_neg hpc]
   have hpar:=kpar hR hx
   have hnew : OwnOk l (all ++ [(c, o)]) c x o := by
    obtain ⟨g1,g2,g3⟩:=ownGo_spec ho
    have hxc:=(kfind_some hx).1
    refine ⟨fun a=>?_,?_,fun p hpm a ha=>?_⟩
    ·rw [Bool.eq_iff_iff]
     constructor
     ·intro h1
      rcases g3 a h1 with h2 | ⟨q,hq,rfl⟩
      ·unfold own0 oupd at h2
       split at h2
       ·rename_i e; rw [e,hxc]; exact has_refl _ _
       ·cases h2
      ·obtain ⟨p,hpm,hq⟩:=List.mem_flatMap.1 hq
       obtain ⟨a,ha,rfl⟩:=List.mem_map.1 hq
       exact has_trans (has_par (by rw [hpar]; exact List.mem_map_of_mem hpm)) (((above_spec hR.acyc p.name).2 a).1 ha)
     ·intro h1
      rcases has_cases h1 with rfl | ⟨p,hp2,h2⟩
      ·rw [g1 c _ (by unfold own0; rw [hxc]; exact oupd_same)]; rfl
      ·rw [hpar] at hp2
       obtain ⟨p,hpm,rfl⟩:=List.mem_map.1 hp2
       rw [g2 (p,a) (List.mem_flatMap.2 ⟨p,hpm,List.mem_map.2 ⟨a,((above_spec hR.acyc p.name).2 a).2 h2,rfl⟩⟩)]; rfl
    ·exact g1 c _ (by unfold own0; rw [hxc]; exact oupd_same)
    ·rw [hse p a (fun e=>hn (e ▸ hp p.name (by rw [hpar]; exact List.mem_map_of_mem hpm)))]
     exact g2 (p,a) (List.mem_flatMap.2 ⟨p,hpm,List.mem_map.2 ⟨a,((above_spec hR.acyc p.name).2 a).2 ha,rfl⟩⟩)
   have hT' : TabOk l (all ++ [(c, o)]) := fun d o' hd => by
    rw [hlk] at hd
    split at hd
    ·rename_i e
     subst e
     cases hd
     exact ⟨x,hx,hnew⟩
    ·obtain ⟨y,hy,k1,k2,k3⟩:=hT d o' hd
     refine ⟨y,hy,k1,k2,fun p hpm a ha=>?_⟩
     rw [hse p a (fun e=>?_)]
     ·exact k3 p hpm a ha
     ·have hdm:d∈all.map (·.1):=alook_mem hd
      have hpd:p.name∈Hr.par (ksys l) d:=by rw [kpar hR hy]; exact List.mem_map_of_mem hpm
      have:=(hTp.pre).par hdm hpd
      exact hn (e ▸ this)
   obtain ⟨r1,r2⟩:=tabGo_spec hR h (by simpa using hTp) (fun d hd=>hC d (by simp [hd])) hT'
   exact ⟨r1,by rw [r2]; simp⟩
structure HRight (l:KS):Prop where
 right:Right (ksys l)
 fms:∀ x∈l,formalsE l x=0
structure KRight (l:KS) (all:List (Nm×Own)):Prop where
 right:Right (ksys l)
 fms:∀ x∈l,formalsE l x=0
 prs:∀ x∈l,parentsE l x=0
 tab:tabs l = .ok all
theorem kcheck_zero : (kcheck l).1 = 0 ↔ ∃ all, KRight l all := by
 unfold kcheck
 constructor
 ·intro h
  split at h
  ·rename_i h1; exact absurd h h1
  ·rename_i h1
   have hR:=check_zero.1 (Classical.not_not.1 h1)
   split at h
   ·rename_i x hx
    have:=List.find?_some hx
    simp only [bne_iff_ne,ne_eq] at this
    exact absurd h this
   ·rename_i hf
    split at h
    ·rename_i x hx
     have:=List.find?_some hx
     simp only [bne_iff_ne,ne_eq] at this
     exact absurd h this
    ·rename_i hp
     split at h
     ·rename_i e he; exact absurd h (tabGo_err he)
     ·rename_i all hall
      exact ⟨all,hR,fun x hx=>by simpa using List.find?_eq_none.1 hf x hx,fun x hx=>by simpa using List.find?_eq_none.1 hp x hx,hall⟩
 ·rintro ⟨all,h1,h2,h3,h4⟩
  rw [if_neg (by rw [check_zero.2 h1]; decide)]
  have hf:List.find? (fun x=>formalsE l x != 0) l=none:=List.find?_eq_none.2 fun x hx=>by rw [h2 x hx]; decide
  have hp:List.find? (fun x=>parentsE l x != 0) l=none:=List.find?_eq_none.2 fun x hx=>by rw [h3 x hx]; decide
  rw [hf,hp,h4]
section
variable (h:HRight l)
include h
theorem HRight.fm_len {x:KC} (hx:x∈l):x.formals.length≤3:=by
 have:=h.fms x hx
 unfold formalsE at this
 split at this
 ·cases this
 ·omega
theorem HRight.fm_zero {x:KC} (hx:x∈l) {i:Nat} {f:Fm} (hf:x.formals[i]? = some f):fmE l x.formals i f=0:=by
 have:=h.fms x hx
 unfold formalsE at this
 split at this
 ·cases this
 ·refine firstE_zero.1 this _ (List.mem_map.2 ⟨(f,i),?_,rfl⟩)
  rw [List.mem_zipIdx_iff_getElem?]; exact hf
theorem HRight.fm_at {x : KC} (hx : x ∈ l) {i : Nat} {f : Fm} (hf : x.formals[i]? = some f) : named f.name = true ∧ kfind l f.name = none ∧ fidx (x.formals.take i) f.name = none ∧ ((kfind l f.bound).isSome = true ∨ f.bound = root) ∧ (fmsOf l f.bound) = [] := by
 have:=h.fm_zero hx hf
 unfold fmE at this
 split at this
 ·cases this
 ·rename_i h1
  split at this
  ·cases this
  ·rename_i h2
   split at this
   ·cases this
   ·rename_i h3
    split at this
    ·cases this
    ·rename_i h4
     simp only [not_or,Option.not_isSome_iff_eq_none] at h2
     refine ⟨by simpa using h1,h2.1,h2.2,?_,List.eq_nil_of_length_eq_zero (Classical.not_not.1 h4)⟩
     by_cases hb:(kfind l f.bound).isSome=true
     ·exact .inl hb
     ·right
      exact Classical.byContradiction fun hne=>h3 ⟨by simpa using hb,hne⟩
theorem HRight.fm_nodup {x:KC} (hx:x∈l):(x.formals.map (·.name)).Nodup:=by
 rw [List.nodup_iff_pairwise_ne,List.pairwise_iff_getElem]
 intro i j hi hj hij
 simp only [List.length_map] at hi hj
 rw [List.getElem_map,List.getElem_map]
 intro e
 have:=(h.fm_at hx (List.getElem?_eq_getElem hj)).2.2.1
 unfold fidx at this
 rw [List.findIdx?_eq_none_iff] at this
 have h2:=this x.formals[i] (List.mem_take_iff_getElem.2 ⟨i,by omega,rfl⟩)
 rw [e] at h2
 simp at h2
theorem HRight.no_root:kfind l root=none:=by
 cases hk:kfind l root with
 | none=>rfl
 | some x =>
  obtain ⟨h1,h2⟩:=kfind_some hk
  have:=h.right.nam _ (ksys_mem h2)
  rw [show x.cls.name=root from h1] at this
  have hn:named root=false:=by decide +kernel
  rw [hn] at this; cases this
end
def insT (all:List (Nm×Own)) (c a:Nm):List Kt:=((alook all c).bind (· a)).getD []
section
variable (h:KRight l all)
include h
theorem KRight.head:HRight l:=⟨h.right,h.fms⟩
theorem KRight.fm_at {x:KC} (hx:x∈l) {i:Nat} {f:Fm} (hf:x.formals[i]? = some f):named f.name=true∧kfind l f.name=none∧fidx (x.formals.take i) f.name=none∧((kfind l f.bound).isSome=true∨f.bound=root)∧(fmsOf l f.bound)=[]:=h.head.fm_at hx hf
theorem KRight.fm_nodup {x:KC} (hx:x∈l):(x.formals.map (·.name)).Nodup:=h.head.fm_nodup hx
theorem KRight.no_root:kfind l root=none:=h.head.no_root
theorem KRight.tabOk:TabOk l all∧all.map (·.1)=order (ksys l):=by
 obtain ⟨h1,h2⟩:=order_spec h.right.acyc h.right.uniq
 have:=tabGo_spec h.right h.tab (by simpa using h1) (fun c hc=>isC_iff.2 ((h2 c).1 hc)) (fun c o hc=>by simp [alook] at hc)
 simpa using this
theorem KRight.own {c:Nm} {x:KC} (hx:kfind l c=some x):∃ o,alook all c=some o∧OwnOk l all c x o:=by
 obtain ⟨hT,hm⟩:=h.tabOk
 have hc:c∈all.map (·.1):=by
  rw [hm,(order_spec h.right.acyc h.right.uniq).2,← isC_iff,← kfind_isC,hx]; rfl
 cases hl:alook all c with
 | none=>exact absurd hc (alook_none.1 hl)
 | some o =>
  obtain ⟨y,hy,hO⟩:=hT c o hl
  rw [hx] at hy
  cases hy
  exact ⟨o,rfl,hO⟩
theorem KRight.ins_own {c:Nm} {x:KC} (hx:kfind l c=some x):insT all c c=ownT x.formals:=by
 obtain ⟨o,h1,h2⟩:=h.own hx
 unfold insT; rw [h1,Option.bind_some,h2.own]; rfl
theorem KRight.ins_par {c a:Nm} {x:KC} (hx:kfind l c=some x) {p:Kp} (hp:p∈x.parents) (ha:has (ksys l) p.name a=true):insT all c a=(insT all p.name a).map (Kt.subst (fmsOf l p.name) p.args):=by
 obtain ⟨o,h1,h2⟩:=h.own hx
 unfold insT; rw [h1,Option.bind_some,h2.par p hp a ha]; rfl
theorem KRight.look_some {c a:Nm} {x:KC} (hx:kfind l c=some x):((alook all c).bind (· a)).isSome=has (ksys l) c a:=by
 obtain ⟨o,h1,h2⟩:=h.own hx
 rw [h1,Option.bind_some,h2.dom]
theorem KRight.par_at {x : KC} (hx : x ∈ l) {p : Kp} (hp : p ∈ x.parents) : ∃ y, kfind l p.name = some y ∧ y ∈ l ∧ p.args.length = y.formals.length ∧ ∀ (i : Nat) a f, p.args[i]? = some a → y.formals[i]? = some f → ActOk l x.formals a f.bound ∧ a.depth ≤ 40 := by
 have h1:=h.prs x hx
 unfold parentsE at h1
 have h2:=firstE_zero.1 h1 _ (List.mem_map_of_mem hp)
 have hc:isC (ksys l) p.name=true:=h.right.all _ (ksys_mem hx) _ (List.mem_map_of_mem hp)
 rw [← kfind_isC] at hc
 obtain ⟨y,hy⟩:=Option.isSome_iff_exists.1 hc
 unfold parentE at h2
 rw [fmsOf_some hy] at h2
 split at h2
 ·cases h2
 ·rename_i h3
  have h3:=Classical.not_not.1 h3
  refine ⟨y,hy,(kfind_some hy).2,h3,fun i a f ha hf=>?_⟩
  have h4:=firstE_zero.1 h2 (argE l x.formals a f.bound) (List.mem_map.2 ⟨(a,f.bound),?_,rfl⟩)
  ·unfold argE at h4
   split at h4
   ·cases h4
   ·exact ⟨actE_zero.1 h4,by omega⟩
  ·exact List.mem_of_getElem? (i:=i) (by rw [List.getElem?_zip_eq_some]; exact ⟨ha,by rw [List.getElem?_map,hf]; rfl⟩)
theorem KRight.par_cl {x:KC} (hx:x∈l) {p:Kp} (hp:p∈x.parents):∀ a∈p.args,Cl x.formals x.formals.length a:=fun a ha=>by
 obtain ⟨y,_,_,hl,hall⟩:=h.par_at hx hp
 obtain ⟨i,hi,rfl⟩:=List.getElem_of_mem ha
 obtain ⟨h1,_⟩:=hall i _ (y.formals[i]'(by omega)) (List.getElem?_eq_getElem hi) (List.getElem?_eq_getElem _)
 exact inner_cl _ _ (Nat.le_refl _) h1.nmd h1.inn
theorem KRight.ind {P:Nm→KC→Prop} (hs:∀ c x,kfind l c=some x→(∀ p∈x.parents,∀ y,kfind l p.name=some y→P p.name y)→P c x):∀ c x,kfind l c=some x→P c x:=by
 have key:=rk_ind (l:=ksys l) h.right.acyc (P:=fun c=>∀ x,kfind l c=some x→P c x) (fun c ih x hx=>hs c x hx fun p hp y hy=>ih p.name (by rw [kpar h.right hx]; exact List.mem_map_of_mem hp) y hy)
 exact key
theorem KRight.ins_cl:∀ c x,kfind l c=some x→∀ a,has (ksys l) c a=true→∀ t∈insT all c a,Cl x.formals x.formals.length t:=h.ind fun c x hx ih a ha t ht=>by
 have hxl:=(kfind_some hx).2
 rcases has_cases ha with rfl | ⟨p,hp,h2⟩
 ·rw [h.ins_own hx] at ht
  exact own_cl (h.fm_nodup hxl) t ht
 ·rw [kpar h.right hx] at hp
  obtain ⟨p,hpm,rfl⟩:=List.mem_map.1 hp
  rw [h.ins_par hx hpm h2] at ht
  obtain ⟨t',ht',rfl⟩:=List.mem_map.1 ht
  obtain ⟨y,hy,_,hl,_⟩:=h.par_at hxl hpm
  have:=ih p hpm y hy a h2 t' ht'
  rw [fmsOf_some hy]
  rw [← hl] at this
  exact this.subst (h.par_cl hxl hpm)
theorem KRight.ins_len:∀ c x,kfind l c=some x→∀ a y,kfind l a=some y→has (ksys l) c a=true→(insT all c a).length=y.formals.length:=h.ind fun c x hx ih a y hy ha=>by
 rcases has_cases ha with rfl | ⟨p,hp,h2⟩
 ·rw [h.ins_own hx]
  rw [hx] at hy
  cases hy
  simp [ownT]
 ·rw [kpar h.right hx] at hp
  obtain ⟨p,hpm,rfl⟩:=List.mem_map.1 hp
  rw [h.ins_par hx hpm h2,List.length_map]
  obtain ⟨z,hz,_⟩:=h.par_at (kfind_some hx).2 hpm
  exact ih p hpm z hz a y hy h2
theorem KRight.ins_trans : ∀ c x, kfind l c = some x → ∀ a b y, kfind l a = some y → has (ksys l) c a = true → has (ksys l) a b = true → insT all c b = (insT all a b).map (Kt.subst y.formals (insT all c a)) := h.ind fun c x hx ih a b y hy ha hb => by
 rcases has_cases ha with rfl | ⟨p,hp,h2⟩
 ·rw [hx] at hy
  cases hy
  have hxl:=(kfind_some hx).2
  rw [h.ins_own hx]
  symm
  conv=>rhs; rw [← List.map_id (insT all c b)]
  refine List.map_congr_left fun t ht=>?_
  have hcl:=h.ins_cl c x hx b hb t ht
  have hlen:(ownT x.formals).length=x.formals.length:=by simp [ownT]
  clear ht
  induction hcl with
  | @fml n v s i h1 h3 =>
   rw [subst_formal,actOf_some h1 (by omega)]
   have hn:=(List.findIdx?_eq_some_iff_getElem.1 h1).2.1
   simp only [ownT,List.getElem_map,Kt.flag,Kt.kind,Kt.name,Kt.args,Kt.void,Kt.sep,Bool.false_or]
   rw [beq_iff_eq.1 hn]; rfl
  | @cls n az v s _ ih2 =>
   rw [subst_class]
   show Kt.mk 3 n (az.map _) v s=Kt.mk 3 n az v s
   congr 1
   conv=>rhs; rw [← List.map_id az]
   exact List.map_congr_left fun t ht=>ih2 t ht
 ·rw [kpar h.right hx] at hp
  obtain ⟨p,hpm,rfl⟩:=List.mem_map.1 hp
  have hxl:=(kfind_some hx).2
  obtain ⟨z,hz,hzl,hl,_⟩:=h.par_at hxl hpm
  rw [h.ins_par hx hpm (has_trans h2 hb),h.ins_par hx hpm h2,ih p hpm z hz a b y hy h2 hb,List.map_map,fmsOf_some hz]
  refine List.map_congr_left fun t ht=>?_
  have hcl:=h.ins_cl a y hy b hb t ht
  exact subst_subst (by rw [h.ins_len p.name z hz a y hy h2]; exact hcl)
end
/-! ## Along a way -/
def parArgs (l:KS) (c p:Nm):List Kt:=(((kfind l c).bind fun x=>x.parents.find? fun q=>q.name == p).map (·.args)).getD []
def along (l:KS):List Nm→List Kt→List Kt
 | c::p::t,A=>along l (p::t) ((parArgs l c p).map (Kt.subst (fmsOf l c) A))
 | _,A=>A
theorem along_one {c:Nm} {A:List Kt}:along l [c] A=A:=by simp [along]
theorem along_nil {A:List Kt}:along l [] A=A:=by simp [along]
theorem parArgs_at (hR:Right (ksys l)) {c:Nm} {x:KC} (hx:kfind l c=some x) {p:Nm} (hp:p∈par (ksys l) c):∃ q∈x.parents,q.name=p∧parArgs l c p=q.args:=by
 rw [kpar hR hx] at hp
 unfold parArgs
 rw [hx,Option.bind_some]
 cases hf:x.parents.find? fun q=>q.name == p with
 | none =>
  obtain ⟨q,hq,rfl⟩:=List.mem_map.1 hp
  have:=List.find?_eq_none.1 hf q hq
  simp at this
 | some q=>exact ⟨q,List.mem_of_find?_eq_some hf,by simpa using List.find?_some hf,rfl⟩
theorem KRight.along (h:KRight l all) {a:Nm}:∀ {way:List Nm} {c:Nm} {x:KC} {A:List Kt},Way (ksys l) a way c→kfind l c=some x→A.length=x.formals.length→along l way A=(insT all c a).map (Kt.subst x.formals A)
 | [],c,x,A,hw,_,_=>hw.elim
 | [d],c,x,A,hw,hx,hA=>by
  obtain ⟨rfl,rfl⟩:=hw
  rw [along_one,h.ins_own hx,own_subst (h.fm_nodup (kfind_some hx).2) hA]
 | d::p::t,c,x,A,hw,hx,hA=>by
  obtain ⟨rfl,hp,hw⟩:=hw
  obtain ⟨q,hq,rfl,hpa⟩:=parArgs_at h.right hx hp
  have hxl:=(kfind_some hx).2
  obtain ⟨y,hy,_,hl,_⟩:=h.par_at hxl hq
  obtain ⟨k,_,hk⟩:=way_W hw
  have hha:has (ksys l) q.name a=true:=has_iff.2 ⟨k,hk⟩
  rw [Hr.along,hpa,fmsOf_some hx,h.along hw hy (by rw [List.length_map]; exact hl),h.ins_par hx hq hha,List.map_map,fmsOf_some hy]
  refine List.map_congr_left fun t ht=>?_
  exact (subst_subst (by rw [hl]; exact h.ins_cl q.name y hy a hha t ht)).symm
end
end Go.Hr
namespace Go.Hr
open Go
def plainK (k:Int):Bool:=k == 1 || k == 2
def ctArgs (t:Kt):List Kt:=if t.kind=4 then [] else t.args
def anc (all:List (Nm×Own)) (c a:Nm):Bool:=((alook all c).bind (· a)).isSome
def instA (l:KS) (all:List (Nm×Own)) (c a:Nm) (A:List Kt):List Kt:=(insT all c a).map (Kt.subst (fmsOf l c) A)
def whyE (l:KS) (all:List (Nm×Own)) (F:List Fm) (s t:Kt):Int :=
 if s.kind=t.kind∧plainK s.kind=true then 1
 else if s.kind=0∧t.void=true then 2
 else if plainK s.kind=true∨plainK t.kind=true∨t.kind=0 then 13
 else if (s.kind=0∨s.void=true)∧t.void=false then 11
 else if s.sep=true∧t.sep=false then 12
 else if t.kind=3∧t.name=root then 3
 else if t.kind=4∧s.kind=4∧s.name=t.name then 4
 else if t.kind=4 then 13
 else if anc all (ctName F s) t.name=false then 14
 else if instA l all (ctName F s) t.name (ctArgs s)=t.args then 5 else 15
def Up (l:KS) (all:List (Nm×Own)) (F:List Fm) (s t:Kt):Prop :=
 (t.kind=3∧t.name=root)∨(t.kind=4∧s.kind=4∧s.name=t.name)∨(t.kind=3∧anc all (ctName F s) t.name=true∧instA l all (ctName F s) t.name (ctArgs s)=t.args)
def Goes (l:KS) (all:List (Nm×Own)) (F:List Fm) (s t:Kt):Prop :=
 (s.kind=t.kind∧plainK s.kind=true)∨(s.kind=0∧isNmd t=true∧t.void=true)∨(isNmd s=true∧isNmd t=true∧(s.void=true→t.void=true)∧(s.sep=true→t.sep=true)∧Up l all F s t)
section
variable {l:KS} {all:List (Nm×Own)} {F F':List Fm} {s t u:Kt}
theorem nmd_iff:isNmd t=true↔t.kind=3∨t.kind=4:=by simp [isNmd]
theorem inner_kinds (h : t.inner l F = 0) : ((t.kind = 0 ∨ t.kind = 1 ∨ t.kind = 2) ∧ t.name = [] ∧ t.args = [] ∧ t.void = false ∧ t.sep = false) ∨ t.kind = 3 ∨ t.kind = 4 := by
 obtain ⟨k,n,az,v,s⟩:=t
 rw [Kt.inner] at h
 by_cases h0:k=0∨k=1∨k=2
 ·rw [if_pos h0] at h
  split at h
  ·rename_i h1
   exact .inl ⟨h0,h1.1,List.eq_nil_of_length_eq_zero h1.2.1,h1.2.2.1,h1.2.2.2⟩
  ·cases h
 ·rw [if_neg h0] at h
  by_cases h4:k=4
  ·exact .inr (.inr h4)
  ·rw [if_neg h4] at h
   by_cases h3:k=3
   ·exact .inr (.inl h3)
   ·rw [if_neg h3] at h; cases h
theorem whyE_goes (hs : s.inner l F = 0) (ht : t.inner l F = 0) : whyE l all F s t < 11 ↔ Goes l all F s t := by
 have ks:=inner_kinds hs
 have kt:=inner_kinds ht
 unfold whyE Goes Up
 simp only [nmd_iff]
 by_cases c1:s.kind=t.kind∧plainK s.kind=true
 ·rw [if_pos c1]
  exact ⟨fun _=>.inl c1,fun _=>by decide⟩
 rw [if_neg c1]
 by_cases c2:s.kind=0∧t.void=true
 ·rw [if_pos c2]
  have htn:t.kind=3∨t.kind=4:=by
   rcases kt with ⟨_,_,_,h,_⟩ | h
   ·rw [c2.2] at h; cases h
   ·exact h
  simp only [show ((2:Int)<11)=True by decide,true_iff]
  exact .inr (.inl ⟨c2.1,htn,c2.2⟩)
 rw [if_neg c2]
 by_cases c3:plainK s.kind=true∨plainK t.kind=true∨t.kind=0
 ·rw [if_pos c3]
  simp only [show ¬ ((13:Int)<11) by decide,false_iff]
  rintro (h | ⟨h1,h2,h3⟩ | ⟨h1,h2,_⟩)
  ·exact c1 h
  ·exact c2 ⟨h1,h3⟩
  ·simp only [plainK,Bool.or_eq_true,beq_iff_eq] at c3
   omega
 rw [if_neg c3]
 simp only [plainK,Bool.or_eq_true,beq_iff_eq,not_or] at c3
 have htn:t.kind=3∨t.kind=4:=by rcases kt with ⟨h,_⟩ | h <;> omega
 by_cases c4:(s.kind=0∨s.void=true)∧t.void=false
 ·rw [if_pos c4]
  simp only [show ¬ ((11:Int)<11) by decide,false_iff]
  rintro (h | ⟨h1,h2,h3⟩ | ⟨h1,h2,h3,_⟩)
  ·exact c1 h
  ·exact c2 ⟨h1,h3⟩
  ·rcases c4.1 with h | h
   ·omega
   ·rw [h3 h] at c4; cases c4.2
 rw [if_neg c4]
 have hsn:s.kind=3∨s.kind=4:=by
  rcases ks with ⟨h,_⟩ | h
  ·have h0:s.kind=0:=by omega
   have:t.void=true:=Classical.byContradiction fun e=>c4 ⟨.inl h0,by simpa using e⟩
   exact absurd ⟨h0,this⟩ c2
  ·exact h
 have hv:s.void=true→t.void=true:=fun e=>Classical.byContradiction fun e2=>c4 ⟨.inr e,by simpa using e2⟩
 by_cases c5:s.sep=true∧t.sep=false
 ·rw [if_pos c5]
  simp only [show ¬ ((12:Int)<11) by decide,false_iff]
  rintro (h | ⟨h1,h2,h3⟩ | ⟨h1,h2,h3,h4,_⟩)
  ·exact c1 h
  ·exact c2 ⟨h1,h3⟩
  ·rw [h4 c5.1] at c5; cases c5.2
 rw [if_neg c5]
 have hp:s.sep=true→t.sep=true:=fun e=>Classical.byContradiction fun e2=>c5 ⟨e,by simpa using e2⟩
 have key:∀ {X:Prop},((s.kind=t.kind∧plainK s.kind=true)∨(s.kind=0∧(t.kind=3∨t.kind=4)∧t.void=true)∨((s.kind=3∨s.kind=4)∧(t.kind=3∨t.kind=4)∧(s.void=true→t.void=true)∧(s.sep=true→t.sep=true)∧X))↔X:=fun {X}=>by
  constructor
  ·rintro (h | ⟨h1,h2,h3⟩ | ⟨_,_,_,_,h⟩)
   ·exact absurd h c1
   ·exact absurd ⟨h1,h3⟩ c2
   ·exact h
  ·exact fun h=>.inr (.inr ⟨hsn,htn,hv,hp,h⟩)
 rw [key]
 by_cases c6:t.kind=3∧t.name=root
 ·rw [if_pos c6]; simp [c6]
 rw [if_neg c6]
 by_cases c7:t.kind=4∧s.kind=4∧s.name=t.name
 ·rw [if_pos c7]; simp [c7]
 rw [if_neg c7]
 by_cases c8:t.kind=4
 ·rw [if_pos c8]
  simp only [show ¬ ((13:Int)<11) by decide,false_iff]
  rintro (h | h | ⟨h,_⟩)
  ·exact c6 h
  ·exact c7 h
  ·omega
 rw [if_neg c8]
 have c8:t.kind=3:=by omega
 by_cases c9:anc all (ctName F s) t.name=false
 ·rw [if_pos c9]
  simp only [show ¬ ((14:Int)<11) by decide,false_iff]
  rintro (h | h | ⟨_,h,_⟩)
  ·exact c6 h
  ·exact c7 h
  ·rw [c9] at h; cases h
 rw [if_neg c9]
 have c9:anc all (ctName F s) t.name=true:=by simpa using c9
 by_cases c10:instA l all (ctName F s) t.name (ctArgs s)=t.args
 ·rw [if_pos c10]
  simp only [show ((5:Int)<11)=True by decide,true_iff]
  exact .inr (.inr ⟨c8,c9,c10⟩)
 ·rw [if_neg c10]
  simp only [show ¬ ((15:Int)<11) by decide,false_iff]
  rintro (h | h | ⟨_,_,h⟩)
  ·exact c6 h
  ·exact c7 h
  ·exact c10 h
end
section
variable {l:KS} (h:HRight l) {x:KC} (hx:x∈l) {s:Kt}
include h hx
theorem HRight.ct (hs : s.inner l x.formals = 0) (hn : isNmd s = true) : (ctName x.formals s = root ∧ ctArgs s = []) ∨ ∃ y, kfind l (ctName x.formals s) = some y ∧ (ctArgs s).length = y.formals.length := by
 obtain ⟨k,n,az,v,p⟩:=s
 rcases nmd_iff.1 hn with e | e <;> (simp only [Kt.kind] at e; subst e)
 ·rcases inner_class hs with ⟨_,rfl,rfl⟩ | ⟨y,hy,hl,_⟩
  ·exact .inl ⟨rfl,rfl⟩
  ·exact .inr ⟨y,hy,hl⟩
 ·obtain ⟨rfl,_,i,h1,h2⟩:=inner_formal hs
  have hb:ctName x.formals (.mk 4 n [] v p)=(x.formals[i]).bound:=by
   show boundOf x.formals n=_
   unfold boundOf
   rw [h1,Option.bind_some,List.getElem?_eq_getElem h2]; rfl
  rw [hb]
  obtain ⟨_,_,_,h3,h4⟩:=h.fm_at hx (List.getElem?_eq_getElem h2)
  rcases h3 with h3 | h3
  ·obtain ⟨y,hy⟩:=Option.isSome_iff_exists.1 h3
   rw [fmsOf_some hy] at h4
   exact .inr ⟨y,hy,by rw [h4]; rfl⟩
  ·exact .inl ⟨h3,rfl⟩
end
section
variable {l:KS} {all:List (Nm×Own)} (h:KRight l all) {x x':KC} (hx:x∈l) {s t u:Kt}
include h
theorem KRight.anc_root {a:Nm}:anc all root a=false:=by
 unfold anc
 cases hl:alook all root with
 | none=>rfl
 | some o =>
  obtain ⟨y,hy,_⟩:=h.tabOk.1 root o hl
  rw [h.no_root] at hy; cases hy
theorem KRight.anc_has {c a:Nm} {y:KC} (hy:kfind l c=some y):anc all c a=has (ksys l) c a:=h.look_some hy
theorem KRight.anc_find {c a:Nm} (ha:anc all c a=true):∃ y,kfind l c=some y∧has (ksys l) c a=true:=by
 unfold anc at ha
 cases hl:alook all c with
 | none=>rw [hl] at ha; cases ha
 | some o =>
  obtain ⟨y,hy,hO⟩:=h.tabOk.1 c o hl
  rw [hl,Option.bind_some,hO.dom] at ha
  exact ⟨y,hy,ha⟩
include hx
theorem KRight.ct (hs:s.inner l x.formals=0) (hn:isNmd s=true):(ctName x.formals s=root∧ctArgs s=[])∨∃ y,kfind l (ctName x.formals s)=some y∧(ctArgs s).length=y.formals.length:=h.head.ct hx hs hn
omit h hx in
theorem KRight.args_len (hs:s.inner l x.formals=0) (hk:s.kind=3) {y:KC} (hy:kfind l s.name=some y):s.args.length=y.formals.length:=by
 obtain ⟨k,n,az,v,p⟩:=s
 simp only [Kt.kind] at hk
 subst hk
 rcases inner_class hs with ⟨h1,_⟩ | ⟨z,hz,hl,_⟩
 ·simp only [Kt.name] at hy; rw [h1] at hy; cases hy
 ·simp only [Kt.name] at hy; rw [hz] at hy; cases hy; exact hl
theorem KRight.up_refl {t : Kt} (hs : s.inner l x.formals = 0) (hn : isNmd s = true) (h1 : t.kind = s.kind) (h2 : t.name = s.name) (h3 : t.args = s.args) : Up l all x.formals s t := by
 rcases nmd_iff.1 hn with e | e
 ·by_cases hr : s.name = root
  ·exact .inl ⟨by rw [h1,e],by rw [h2,hr]⟩
  ·refine .inr (.inr ⟨by rw [h1,e],?_⟩)
   have hc:ctName x.formals s=s.name:=by unfold ctName; rw [if_neg (by omega)]
   have ha:ctArgs s=s.args:=by unfold ctArgs; rw [if_neg (by omega)]
   rw [hc,ha,h2,h3]
   have:=h.ct hx hs hn
   rw [hc,ha] at this
   rcases this with ⟨h4,_⟩ | ⟨y,hy,hl⟩
   ·exact absurd h4 hr
   ·refine ⟨by rw [h.anc_has hy]; exact has_refl _ _,?_⟩
    unfold instA
    rw [h.ins_own hy,fmsOf_some hy,own_subst (h.fm_nodup (kfind_some hy).2) hl]
 ·exact .inr (.inl ⟨by rw [h1,e],e,h2.symm⟩)
theorem KRight.goes_refl (hs:s.inner l x.formals=0):Goes l all x.formals s s↔s.kind≠0:=by
 constructor
 ·rintro (⟨_,h1⟩ | ⟨h1,h2,_⟩ | ⟨h1,_⟩) e
  ·rw [e] at h1; cases h1
  ·rw [nmd_iff] at h2; omega
  ·rw [nmd_iff] at h1; omega
 ·intro hk
  rcases inner_kinds hs with ⟨h1,_⟩ | h1
  ·exact .inl ⟨rfl,by simp only [plainK,Bool.or_eq_true,beq_iff_eq]; omega⟩
  ·exact .inr (.inr ⟨nmd_iff.2 h1,nmd_iff.2 h1,id,id,h.up_refl hx hs (nmd_iff.2 h1) rfl rfl rfl⟩)
omit hx in
theorem KRight.up_trans (hs : s.inner l x.formals = 0) (ht : t.inner l x.formals = 0) (hu : u.inner l x.formals = 0) (hsn : isNmd s = true) (htn : isNmd t = true) (h1 : Up l all x.formals s t) (h2 : Up l all x.formals t u) : Up l all x.formals s u := by
 rcases h2 with h2 | ⟨h2,h3,h4⟩ | ⟨h2,h3,h4⟩
 ·exact .inl h2
 ·rcases h1 with ⟨h5,_⟩ | ⟨_,h6,h7⟩ | ⟨h5,_⟩
  ·omega
  ·exact .inr (.inl ⟨h2,h6,h7.trans h4⟩)
  ·omega
 ·refine .inr (.inr ⟨h2,?_⟩)
  rcases h1 with ⟨h5,h6⟩ | ⟨h5,h6,h7⟩ | ⟨h5,h6,h7⟩
  ·have:ctName x.formals t=root:=by unfold ctName; rw [if_neg (by omega),h6]
   rw [this,h.anc_root] at h3; cases h3
  ·have hc:ctName x.formals s=ctName x.formals t:=by unfold ctName; rw [if_pos h6,if_pos h5,h7]
   have ha:ctArgs s=ctArgs t:=by unfold ctArgs; rw [if_pos h6,if_pos h5]
   rw [hc,ha]; exact ⟨h3,h4⟩
  ·have hc:ctName x.formals t=t.name:=by unfold ctName; rw [if_neg (by omega)]
   have ha:ctArgs t=t.args:=by unfold ctArgs; rw [if_neg (by omega)]
   rw [hc] at h3 h4
   rw [ha] at h4
   obtain ⟨y,hy,hhas⟩:=h.anc_find h6
   obtain ⟨z,hz,hhas2⟩:=h.anc_find h3
   refine ⟨by rw [h.anc_has hy]; exact has_trans hhas hhas2,?_⟩
   rw [← h4]
   unfold instA
   rw [h.ins_trans _ y hy _ _ z hz hhas hhas2,List.map_map,← h7]
   unfold instA
   rw [fmsOf_some hz]
   refine List.map_congr_left fun τ hτ => ?_
   exact subst_subst (by rw [h.ins_len _ y hy _ z hz hhas]; exact h.ins_cl _ z hz _ hhas2 τ hτ)
omit hx in
theorem KRight.goes_trans (hs : s.inner l x.formals = 0) (ht : t.inner l x.formals = 0) (hu : u.inner l x.formals = 0) (h1 : Goes l all x.formals s t) (h2 : Goes l all x.formals t u) : Goes l all x.formals s u := by
 rcases h1 with ⟨h1,h3⟩ | ⟨h1,h3,h4⟩ | ⟨h1,h3,h4,h5,h6⟩
 ·rcases h2 with ⟨h2,h4⟩ | ⟨h2,_⟩ | ⟨h2,_⟩
  ·exact .inl ⟨h1.trans h2,h3⟩
  ·rw [h1,h2] at h3; cases h3
  ·rw [nmd_iff] at h2
   simp only [plainK,Bool.or_eq_true,beq_iff_eq] at h3
   omega
 ·rw [nmd_iff] at h3
  rcases h2 with ⟨h2,h5⟩ | ⟨h2,_⟩ | ⟨_,h5,h6,_⟩
  ·simp only [plainK,Bool.or_eq_true,beq_iff_eq] at h5; omega
  ·omega
  ·exact .inr (.inl ⟨h1,h5,h6 h4⟩)
 ·have h3':=nmd_iff.1 h3
  rcases h2 with ⟨h2,h7⟩ | ⟨h2,_⟩ | ⟨_,h7,h8,h9,h10⟩
  ·simp only [plainK,Bool.or_eq_true,beq_iff_eq] at h7; omega
  ·omega
  ·exact .inr (.inr ⟨h1,h7,fun e=>h8 (h4 e),fun e=>h9 (h5 e),h.up_trans hs ht hu h1 h3 h6 h10⟩)
omit hx in
theorem KRight.goes_antisymm (hs : s.inner l x.formals = 0) (ht : t.inner l x.formals = 0) (h1 : Goes l all x.formals s t) (h2 : Goes l all x.formals t s) : s = t := by
 have ks:=inner_kinds hs
 have kt:=inner_kinds ht
 rcases h1 with ⟨h1,h3⟩ | ⟨h1,h3,h4⟩ | ⟨h1,h3,h4,h5,h6⟩
 ·simp only [plainK,Bool.or_eq_true,beq_iff_eq] at h3
  rcases ks with ⟨_,a1,a2,a3,a4⟩ | ks
  ·rcases kt with ⟨_,b1,b2,b3,b4⟩ | kt
   ·exact Kt.ext h1 (a1.trans b1.symm) (a2.trans b2.symm) (a3.trans b3.symm) (a4.trans b4.symm)
   ·omega
  ·omega
 ·rw [nmd_iff] at h3
  rcases h2 with ⟨h2,h5⟩ | ⟨h2,_⟩ | ⟨_,h5,_⟩
  ·omega
  ·omega
  ·rw [nmd_iff] at h5; omega
 ·have h1' := nmd_iff.1 h1
  have h3':=nmd_iff.1 h3
  rcases h2 with ⟨h2,h7⟩ | ⟨h2,_⟩ | ⟨_,_,h8,h9,h10⟩
  ·simp only [plainK,Bool.or_eq_true,beq_iff_eq] at h7; omega
  ·omega
  ·have hv : s.void = t.void := by rw [Bool.eq_iff_iff]; exact ⟨h4, h8⟩
   have hp:s.sep=t.sep:=by rw [Bool.eq_iff_iff]; exact ⟨h5,h9⟩
   have hroot:∀ {a:Kt},a.inner l x.formals=0→a.kind=3→a.name=root→a.args=[]:=fun {a} ha hk hn=>by
    obtain ⟨k,n,az,v,p⟩:=a
    simp only [Kt.kind] at hk
    simp only [Kt.name] at hn
    subst hk hn
    rcases inner_class ha with ⟨_,_,rfl⟩ | ⟨y,hy,_⟩
    ·rfl
    ·rw [h.no_root] at hy; cases hy
   have hcs:s.kind=3→ctName x.formals s=s.name:=fun e=>by unfold ctName; rw [if_neg (by omega)]
   have hct:t.kind=3→ctName x.formals t=t.name:=fun e=>by unfold ctName; rw [if_neg (by omega)]
   rcases h6 with ⟨h6,h7⟩ | ⟨h6,h7,h11⟩ | ⟨h6,h7,h11⟩
   ·rcases h10 with ⟨h12,h13⟩ | ⟨h12,h13,_⟩ | ⟨h12,h13,_⟩
    ·exact Kt.ext (h12.trans h6.symm) (h13.trans h7.symm) ((hroot hs h12 h13).trans (hroot ht h6 h7).symm) hv hp
    ·omega
    ·rw [hct h6,h7,h.anc_root] at h13; cases h13
   ·have e1:s.args=[]:=by
     obtain ⟨k,n,az,v,p⟩:=s
     simp only [Kt.kind] at h7
     subst h7
     exact (inner_formal hs).1
    have e2:t.args=[]:=by
     obtain ⟨k,n,az,v,p⟩:=t
     simp only [Kt.kind] at h6
     subst h6
     exact (inner_formal ht).1
    exact Kt.ext (h7.trans h6.symm) h11 (e1.trans e2.symm) hv hp
   ·rcases h10 with ⟨h12,h13⟩ | ⟨h12,h13,_⟩ | ⟨h12,h13,h14⟩
    ·rw [hcs h12,h13,h.anc_root] at h7; cases h7
    ·omega
    ·rw [hcs h12] at h7 h11
     rw [hct h6] at h13 h14
     obtain ⟨y,hy,hh⟩:=h.anc_find h7
     obtain ⟨z,hz,hh2⟩:=h.anc_find h13
     have hn:s.name=t.name:=has_antisymm h.right.acyc hh hh2
     have ha:ctArgs s=s.args:=by unfold ctArgs; rw [if_neg (by omega)]
     rw [ha,← hn] at h11
     unfold instA at h11
     rw [h.ins_own hy,fmsOf_some hy,own_subst (h.fm_nodup (kfind_some hy).2) (KRight.args_len hs h12 hy)] at h11
     exact Kt.ext (h12.trans h6.symm) hn h11 hv hp
end
end Go.Hr
namespace Go.Hr
open Go
section
variable {l:KS} {F F':List Fm} {A:List Kt} {t:Kt}
theorem inner_flag {t:Kt} {v s:Bool} (hn:isNmd t=true) (h:t.inner l F=0) (hs:t.sep=false) (hs2:s=false):(t.flag v s).inner l F=0:=by
 obtain ⟨k,n,az,v',s'⟩:=t
 simp only [Kt.sep] at hs
 subst hs hs2
 rcases nmd_iff.1 hn with e | e <;> (simp only [Kt.kind] at e; subst e)
 ·simp only [Kt.flag,Kt.kind,Kt.name,Kt.args,Kt.void,Kt.sep]
  rw [Kt.inner,if_neg (by decide),if_neg (by decide),if_pos rfl] at h ⊢
  exact h
 ·simp only [Kt.flag,Kt.kind,Kt.name,Kt.args,Kt.void,Kt.sep,Bool.or_false]
  rw [Kt.inner,if_neg (by decide),if_pos rfl] at h ⊢
  exact h
theorem ctName_flag {v s:Bool}:ctName F (t.flag v s)=ctName F t:=rfl
theorem ctArgs_flag {v s:Bool}:ctArgs (t.flag v s)=ctArgs t:=rfl
def Fits (l:KS) (F' F:List Fm) (A:List Kt):Prop:=A.length=F.length∧∀ (i:Nat) a f,A[i]? = some a→F[i]? = some f→ActOk l F' a f.bound
theorem boundOf_at {n:Nm} {i:Nat} (h:fidx F n=some i) (hi:i<F.length):boundOf F n=(F[i]).bound:=by
 unfold boundOf; rw [h,Option.bind_some,List.getElem?_eq_getElem hi]; rfl
theorem under_trans {c b d:Nm} (h1:under l c b=true) (h2:under l b d=true):under l c d=true:=by
 unfold under at *
 simp only [Bool.or_eq_true,Bool.and_eq_true,beq_iff_eq,bne_iff_ne,ne_eq] at *
 rcases h2 with h2 | ⟨h2,h3⟩
 ·exact .inl h2
 ·rcases h1 with h1 | ⟨h1,h4⟩
  ·exact absurd h1 h2
  ·exact .inr ⟨h1,has_trans h4 h3⟩
theorem inner_subst (hA : Fits l F' F A) : ∀ (d : Nat) (t : Kt), t.depth ≤ d → t.inner l F = 0 → (t.subst F A).inner l F' = 0
 | 0,t,hd,_=>by cases t; simp [Kt.depth] at hd
 | d + 1, .mk k n az v s, hd, hi => by
  rcases inner_kinds hi with ⟨h0,h1,h2,h3,h4⟩ | h3 | h4
  ·simp only [Kt.kind] at h0
   rw [subst_other (by omega) (by omega)]
   rw [Kt.inner,if_pos h0] at hi ⊢
   exact hi
  ·simp only [Kt.kind] at h3
   subst h3
   rw [subst_class]
   rcases inner_class hi with ⟨g1,rfl,rfl⟩ | ⟨x,g1,g2,g3⟩
   ·rw [Kt.inner,if_neg (by decide),if_neg (by decide),if_pos rfl,g1]; rfl
   ·rw [Kt.inner, if_neg (by decide), if_neg (by decide), if_pos rfl, g1]
    simp only [List.length_map]
    rw [if_pos g2,inners_zero (by simpa using g2)]
    intro i a b ha hb
    rw [List.getElem?_map] at ha hb
    obtain ⟨a',ha',rfl⟩:=Option.map_eq_some_iff.1 ha
    obtain ⟨f,hf,rfl⟩:=Option.map_eq_some_iff.1 hb
    have hk:=g3 i a' f ha' hf
    have hda:a'.depth≤d:=by have:=depth_args (t:=.mk 3 n az v s) (List.mem_of_getElem? ha'); omega
    have hin:=inner_subst hA d a' hda hk.inn
    obtain ⟨k',n',az',v',s'⟩:=a'
    have hv:=hk.void
    have hp:=hk.sep
    simp only [Kt.void,Kt.sep] at hv hp
    subst hv hp
    rcases nmd_iff.1 hk.nmd with e | e <;> (simp only [Kt.kind] at e; subst e)
    ·rw [subst_class] at hin ⊢
     exact ⟨rfl,rfl,rfl,hin,hk.und⟩
    ·obtain ⟨rfl,_,j,h5,h6⟩:=inner_formal hk.inn
     have h7:j<A.length:=by rw [hA.1]; exact h6
     have hj:=hA.2 j _ _ (List.getElem?_eq_getElem h7) (List.getElem?_eq_getElem h6)
     rw [subst_formal,actOf_some h5 h7] at hin ⊢
     simp only [] at hin ⊢
     refine ⟨hj.nmd,?_,?_,hin,?_⟩
     ·show (A[j].void || false)=false
      rw [hj.void]; rfl
     ·show (A[j].sep || false)=false
      rw [hj.sep]; rfl
     ·rw [ctName_flag]
      have hu:=hk.und
      rw [show ctName F (.mk 4 n' [] false false)=(F[j]).bound from boundOf_at h5 h6] at hu
      exact under_trans hj.und hu
  ·simp only [Kt.kind] at h4
   subst h4
   obtain ⟨rfl,rfl,j,h5,h6⟩:=inner_formal hi
   have h7:j<A.length:=by rw [hA.1]; exact h6
   have hj:=hA.2 j _ _ (List.getElem?_eq_getElem h7) (List.getElem?_eq_getElem h6)
   rw [subst_formal,actOf_some h5 h7]
   exact inner_flag hj.nmd hj.inn hj.sep rfl
theorem depths_le {D:Nat}:∀ {az:List Kt},(∀ a∈az,a.depth≤D)→depths az≤D
 | [],_=>by simp [depths]
 | a::t,h=>by
  unfold depths
  have h1:=h a (by simp)
  have h2:=depths_le (az:=t) fun b hb=>h b (by simp [hb])
  omega
theorem depth_subst {D : Nat} (hA : ∀ a ∈ A, a.depth ≤ D) : ∀ (d : Nat) (t : Kt), t.depth ≤ d → (t.subst F A).depth ≤ d + D
 | 0,t,hd=>by cases t; simp [Kt.depth] at hd
 | d + 1, .mk k n az v s, hd => by
  by_cases h4:k=4
  ·subst h4
   rw [subst_formal]
   unfold actOf
   cases hf:fidx F n with
   | none=>simp only [Option.bind_none]; omega
   | some i =>
    simp only [Option.bind_some]
    cases ha:A[i]? with
    | none=>simp only []; omega
    | some a =>
     simp only []
     have h1:=hA a (List.mem_of_getElem? ha)
     have h2:(a.flag v s).depth=a.depth:=by cases a; rfl
     omega
  ·by_cases h3 : k = 3
   ·subst h3
    rw [subst_class]
    show depths (az.map (Kt.subst F A))+1≤_
    have hda:∀ a∈az,a.depth≤d:=fun a ha=>by have:=depth_args (t:=.mk 3 n az v s) ha; omega
    have:=depths_le (D:=d+D) (az:=az.map (Kt.subst F A)) fun b hb=>by
     obtain ⟨a,ha,rfl⟩:=List.mem_map.1 hb
     exact depth_subst hA d a (hda a ha)
    omega
   ·rw [subst_other h4 h3]; omega
end
section
variable {l:KS} {all:List (Nm×Own)} (h:KRight l all) {x x':KC} (hx:x∈l) (hx':x'∈l) {A:List Kt} {s t:Kt}
include h hx hx'
theorem KRight.up_subst (hA : Fits l x'.formals x.formals A) (hs : s.inner l x.formals = 0) (ht : t.inner l x.formals = 0) (hsn : isNmd s = true) (htn : isNmd t = true) (hu : Up l all x.formals s t) : Up l all x'.formals (s.subst x.formals A) (t.subst x.formals A) := by
 have hss:=inner_subst hA _ s (Nat.le_refl _) hs
 obtain ⟨k,n,az,v,p⟩:=s
 obtain ⟨k',n',az',v',p'⟩:=t
 rcases hu with ⟨h1,h2⟩ | ⟨h1,h2,h3⟩ | ⟨h1,h2,h3⟩
 ·simp only [Kt.kind,Kt.name] at h1 h2
  subst h1 h2
  rw [subst_class (n:=root)]
  exact .inl ⟨rfl,rfl⟩
 ·simp only [Kt.kind,Kt.name] at h1 h2 h3
  subst h1 h2 h3
  obtain ⟨rfl,rfl,j,h5,h6⟩:=inner_formal hs
  have h7:j<A.length:=by rw [hA.1]; exact h6
  have hj:=hA.2 j _ _ (List.getElem?_eq_getElem h7) (List.getElem?_eq_getElem h6)
  rw [subst_formal,subst_formal,actOf_some h5 h7]
  have:=h.up_refl hx' (s:=A[j]) hj.inn hj.nmd (t:=A[j].flag v' p') rfl rfl rfl
  rcases this with g | g | g
  ·exact .inl g
  ·exact .inr (.inl g)
  ·exact .inr (.inr g)
 ·simp only [Kt.kind] at h1
  subst h1
  simp only [Kt.name,Kt.args] at h2 h3
  rw [subst_class (n:=n')]
  refine .inr (.inr ⟨rfl,?_⟩)
  show anc all _ n'=true∧instA l all _ n' _=az'.map _
  rcases nmd_iff.1 hsn with e | e <;> (simp only [Kt.kind] at e; subst e)
  ·rw [subst_class]
   have hc:ctName x.formals (.mk 3 n az v p)=n:=rfl
   rw [hc] at h2 h3
   refine ⟨h2,?_⟩
   obtain ⟨y,hy,hh⟩:=h.anc_find h2
   show instA l all n n' (az.map _)=_
   have h3:instA l all n n' az=az':=h3
   rw [← h3]
   unfold instA
   rw [List.map_map,fmsOf_some hy]
   refine List.map_congr_left fun τ hτ => ?_
   have hl:az.length=y.formals.length:=KRight.args_len (s:=.mk 3 n az v p) hs rfl hy
   exact (subst_subst (by rw [hl]; exact h.ins_cl n y hy n' hh τ hτ)).symm
  ·obtain ⟨rfl, rfl, j, h5, h6⟩ := inner_formal hs
   have h7:j<A.length:=by rw [hA.1]; exact h6
   have hj:=hA.2 j _ _ (List.getElem?_eq_getElem h7) (List.getElem?_eq_getElem h6)
   rw [subst_formal,actOf_some h5 h7] at hss ⊢
   simp only [] at hss ⊢
   rw [ctName_flag,ctArgs_flag]
   rw [show ctName x.formals (.mk 4 n [] v false)=(x.formals[j]).bound from boundOf_at h5 h6] at h2 h3
   have h3:instA l all (x.formals[j]).bound n' []=az':=h3
   obtain ⟨yB,hyB,hhB⟩:=h.anc_find h2
   have hBr:(x.formals[j]).bound≠root:=fun e=>by rw [e,h.no_root] at hyB; cases hyB
   have hyf:yB.formals=[]:=by
    have:=(h.fm_at hx (List.getElem?_eq_getElem h6)).2.2.2.2
    rwa [fmsOf_some hyB] at this
   have hu:=hj.und
   unfold under at hu
   simp only [Bool.or_eq_true,Bool.and_eq_true,beq_iff_eq,bne_iff_ne,ne_eq] at hu
   obtain ⟨hcr,hch⟩:=hu.resolve_left hBr
   rcases h.ct hx' hj.inn hj.nmd with ⟨g1,_⟩ | ⟨y,hy,hl⟩
   ·exact absurd g1 hcr
   ·refine ⟨by rw [h.anc_has hy]; exact has_trans hch hhB,?_⟩
    have hcl:∀ τ ∈ insT all (x.formals[j]).bound n',Cl yB.formals 0 τ := fun τ hτ => by
     have:=h.ins_cl _ yB hyB n' hhB τ hτ
     rwa [hyf] at this ⊢
    have e1:az'=insT all (x.formals[j]).bound n':=by
     rw [← h3]
     unfold instA
     conv=>rhs; rw [← List.map_id (insT all (x.formals[j]).bound n')]
     exact List.map_congr_left fun τ hτ => subst_none (hcl τ hτ)
    have e2:az'.map (Kt.subst x.formals A)=az':=by
     conv=>rhs; rw [← List.map_id az']
     rw [e1]
     exact List.map_congr_left fun τ hτ => subst_none (hcl τ hτ)
    rw [e2,e1]
    unfold instA
    rw [h.ins_trans _ y hy _ _ yB hyB hch hhB,List.map_map]
    conv=>rhs; rw [← List.map_id (insT all (x.formals[j]).bound n')]
    refine List.map_congr_left fun τ hτ => ?_
    show Kt.subst _ _ (Kt.subst yB.formals _ τ) = τ
    rw [subst_none (hcl τ hτ),subst_none (hcl τ hτ)]
theorem KRight.goes_subst (hA : Fits l x'.formals x.formals A) (hs : s.inner l x.formals = 0) (ht : t.inner l x.formals = 0) (hg : Goes l all x.formals s t) : Goes l all x'.formals (s.subst x.formals A) (t.subst x.formals A) := by
 have hflag : ∀ {u : Kt}, u.inner l x.formals = 0 → isNmd u = true → isNmd (u.subst x.formals A) = true ∧ (u.subst x.formals A).void = u.void ∧ (u.subst x.formals A).sep = u.sep := fun {u} hi hn => by
  obtain ⟨k,n,az,v,p⟩:=u
  rcases nmd_iff.1 hn with e | e <;> (simp only [Kt.kind] at e; subst e)
  ·rw [subst_class]; exact ⟨rfl,rfl,rfl⟩
  ·obtain ⟨rfl,rfl,j,h5,h6⟩:=inner_formal hi
   have h7:j<A.length:=by rw [hA.1]; exact h6
   have hj:=hA.2 j _ _ (List.getElem?_eq_getElem h7) (List.getElem?_eq_getElem h6)
   rw [subst_formal,actOf_some h5 h7]
   refine ⟨hj.nmd,?_,?_⟩
   ·show (A[j].void || v)=v
    rw [hj.void]; rfl
   ·show (A[j].sep || false)=false
    rw [hj.sep]; rfl
 have hsame:∀ {u:Kt},isNmd u=false→u.subst x.formals A=u:=fun {u} hn=>by
  obtain ⟨k,n,az,v,p⟩:=u
  have:¬ (k=3∨k=4):=fun e=>by rw [(nmd_iff (t:=.mk k n az v p)).2 e] at hn; cases hn
  exact subst_other (by omega) (by omega)
 have hnot:∀ {u:Kt},(u.kind=0∨plainK u.kind=true)→isNmd u=false:=fun {u} hk=>by
  cases hn:isNmd u with
  | false=>rfl
  | true =>
   rw [nmd_iff] at hn
   simp only [plainK,Bool.or_eq_true,beq_iff_eq] at hk
   omega
 rcases hg with ⟨h1,h2⟩ | ⟨h1,h2,h3⟩ | ⟨h1,h2,h3,h4,h5⟩
 ·rw [hsame (hnot (.inr h2)),hsame (hnot (.inr (by rw [← h1]; exact h2)))]
  exact .inl ⟨h1,h2⟩
 ·obtain ⟨g1,g2,_⟩:=hflag ht h2
  rw [hsame (hnot (.inl h1))]
  exact .inr (.inl ⟨h1,g1,by rw [g2]; exact h3⟩)
 ·obtain ⟨g1,g2,g3⟩:=hflag hs h1
  obtain ⟨k1,k2,k3⟩:=hflag ht h2
  exact .inr (.inr ⟨g1,k1,by rw [g2,k2]; exact h3,by rw [g3,k3]; exact h4,h.up_subst hx hx' hA hs ht h1 h2 h5⟩)
end
end Go.Hr
