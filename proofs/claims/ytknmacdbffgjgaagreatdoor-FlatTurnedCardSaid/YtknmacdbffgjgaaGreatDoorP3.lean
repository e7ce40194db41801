/-
  Package heir: Check. Conditions: what is read.
-/
import Derived.Test.YtknmacdbffgjgaaGreatDoorP2
import Derived.ArgAppend
import Derived.Test.YtknmacdbffgjgaaGreatDoorP1
set_option linter.unusedVariables false
set_option linter.unusedSimpArgs false
set_option maxRecDepth 100000
set_option maxHeartbeats 16000000
namespace Go.Ck
open Go Go.RowKit

/-! ## Rows that are read -/
def Row {α : Type} (S:Res) (sz:Nat) (X:List Value -> α -> Prop) (v:Value) (l:List α):Prop :=
 ∃ a cap,v = .slice a l.length cap/\l.length<=cap/\cap<=maxLen/\(a=none->cap=0)/\∀ i x,l[i]? = some x->∃ b o us,a=some ⟨b,o,none⟩/\us.length=sz/\Rds S b (o+i * sz) us/\X us x
section
variable {α : Type} {S S':Res} {sz:Nat} {X X':List Value -> α -> Prop} {v:Value} {l:List α}
theorem Row.mono (h:Row S sz X v l) (hr:∀ p u,Rd S p u->Rd S' p u) (hx:∀ us x,x∈l->X us x->X' us x):Row S' sz X' v l:=by
 obtain ⟨a,cap,h1,h2,h3,h4,h5⟩:=h
 refine ⟨a,cap,h1,h2,h3,h4,λi x hi=>?_⟩
 obtain ⟨b,o,us,g1,g2,g3,g4⟩:=h5 i x hi
 exact ⟨b,o,us,g1,g2,λj hj=>hr _ _ (g3 j hj),hx _ _ (List.mem_of_getElem? hi) g4⟩
theorem Row.nil:Row S sz X (.slice none 0 0) []:=⟨none,0,rfl,Nat.le_refl _,Nat.zero_le _,λ_=>rfl,λi x h=>by simp at h⟩
theorem Row.at (h:Row S sz X v l) {i:Nat} {x : α} (hi:l[i]? = some x):∃ b o cap us,v = .slice (some ⟨b,o,none⟩) l.length cap/\us.length=sz/\Rds S b (o+i * sz) us/\X us x:=by
 obtain ⟨a,cap,h1,h2,h3,h4,h5⟩:=h
 obtain ⟨b,o,us,g1,g2,g3,g4⟩:=h5 i x hi
 exact ⟨b,o,cap,us,by rw [h1,g1],g2,g3,g4⟩
theorem Row.one (h:Row S sz X v l):v.oneCell'=true:=by obtain ⟨a,cap,rfl,_⟩:=h; rfl
end
theorem Row.at1 {α : Type} {S:Res} {X:List Value -> α -> Prop} {v:Value} {l:List α} (h:Row S 1 X v l) {i:Nat} {x : α} (hi:l[i]? = some x):∃ b o cap u,v = .slice (some ⟨b,o,none⟩) l.length cap/\Rd S ⟨b,o+i * 1,none⟩ u/\X [u] x:=by
 obtain ⟨b,o,cap,us,h1,h2,h3,h4⟩:=h.at hi
 match us,h2 with
 | [u],_=>exact ⟨b,o,cap,u,h1,by simpa using h3 0 (by simp),h4⟩
theorem nS {r:Res} {b o k:Nat} {us:List Value} {v:Value} (h:Rds r b o us) (hv:us[k]? = some v):Rd r ⟨b,o+k,none⟩ v:=by
 obtain ⟨hk,hv⟩:=List.getElem?_eq_some_iff.1 hv
 subst hv; exact h k hk
theorem bF {r:Res} {b o k:Nat} {us vs:List Value} (h:Rds r b o us) (hv:(us.drop k).take vs.length=vs):Rds r b (o+k) vs:=λi hi=>by
 have h1:us[k+i]? = some vs[i]:=by
  have:vs[i]? = some vs[i]:=Zy hi
  rw [<- this,<- hv,List.getElem?_take,if_pos (by have:=congrArg List.length hv; simp at this; omega),List.getElem?_drop]
 rw [Nat.add_assoc]; exact nS h h1
theorem bL {k:SH} {r:Res} {k':SH} (s:Sel k r k') (p:Addr) (v:Value) (h:Rd r p v):Rd (Res.star k) p v:=pM s h

/-! ## Contracts over many resources as one -/
theorem dG {w:World} {L hr:SH}:Holds w (Res.star L::hr)↔Holds w (L++hr):=dL
theorem dS {P:Program} {k:FuncId} {args:Array Value} {L:SH} {v:Value} (h:Reads P k args [Res.star L] v):Reads P k args L v:=λhr w hh =>
 (h hr w<|dG.2 hh).mono λ_ _ ⟨u,h',he,⟨hu,hh'⟩,hH,hS⟩=>⟨u,L,he,⟨hu,rfl⟩,by subst hh'; exact dG.1 hH,hS⟩
theorem lM {P:Program} {k:FuncId} {args:Array Value} {L:SH} {v:Value} (h:Reads P k args L v):Reads P k args [Res.star L] v:=λhr w hh =>
 (h hr w<|dG.1 hh).mono λ_ _ ⟨u,h',he,⟨hu,hh'⟩,hH,hS⟩=>⟨u,_,he,⟨hu,rfl⟩,by subst hh'; exact dG.2 hH,hS⟩
def CtN (P:Program) (k:FuncId) (args:Array Value) (hf:SH) (Q:Value->Res->Prop):Prop:=Ct P k args hf λu h'=>∃ T,h'=T::hf/\Q u T
theorem kH {P:Program} {k:FuncId} {args:Array Value} {L:SH} {Q:Value->Res->Prop} (h:CtN P k args [Res.star L] Q):CtN P k args L Q:=λhr w hh =>
 (h hr w<|dG.2 hh).mono λ_ _ ⟨u,h',he,⟨T,hT,hQ⟩,hH,hS⟩=>⟨u,T::L,he,⟨T,rfl,hQ⟩,by
  subst hT
  have h1:Holds _ (T::Res.star L::hr):=hH
  have h2:Holds _ (Res.star L::T::hr):=h1.perm<|.swap _ _ _
  exact (dG.1 h2).perm List.perm_middle,hS⟩
theorem CtN.mono {P:Program} {k:FuncId} {args:Array Value} {hf:SH} {Q Q':Value->Res->Prop} (h:CtN P k args hf Q) (hq:∀ u T,Q u T->Q' u T):CtN P k args hf Q':=Ct.mono h λ_ _ ⟨T,h1,h2⟩=>⟨T,h1,hq _ _ h2⟩

/-! ## Rows that are owned -/
def VR (v:Value) (E:TypeId) (sz:Nat) (rows:List (List Value)):Res where
 dom b:=∃ o m cp,v = .slice (some ⟨b,o,none⟩) m cp
 ok f:=(∀ r∈rows,r.length=sz)/\((v = .slice none 0 0/\rows=[])\/∃ b o cp pre j,v = .slice (some ⟨b,o,none⟩) rows.length cp/\f b=some (cl (pre++(rows.flatten++j)) E)/\pre.length=o/\rows.length<=cp/\cp<=maxLen/\cp * sz<=(rows.flatten++j).length)
 loc f g he:=λ⟨h1,h2⟩=>⟨h1,h2.imp id λ⟨b,o,cp,pre,j,hv,hb,hr⟩=>⟨b,o,cp,pre,j,hv,by rw [<- he b ⟨o,_,cp,hv⟩]; exact hb,hr⟩⟩
 pres f:=λ⟨_,h2⟩ b ⟨o,m,cp,hv⟩=>by
  rcases h2 with ⟨h3,_⟩ | ⟨b',o',cp',pre,j,h3,hb,_⟩
  .rw [h3] at hv; cases hv
  .rw [h3] at hv; cases hv; rw [hb]; rfl
section
variable {v:Value} {E:TypeId} {sz:Nat} {rows:List (List Value)} {f:Nat->Option Obj}
theorem VR.form (h:(VR v E sz rows).ok f):(v = .slice none 0 0/\rows=[])\/∃ b o cp,v = .slice (some ⟨b,o,none⟩) rows.length cp/\rows.length<=cp/\cp<=maxLen:=by
 rcases h.2 with h | ⟨b,o,cp,_,_,h1,_,_,h2,h3,_⟩
 .exact .inl h
 .exact .inr ⟨b,o,cp,h1,h2,h3⟩
theorem VR.one (h:(VR v E sz rows).ok f):v.oneCell'=true:=by rcases VR.form h with ⟨rfl,_⟩ | ⟨_,_,_,rfl,_⟩ <;> rfl
theorem VR.nil:(VR (.slice none 0 0) E sz []).ok f:=⟨by simp,.inl ⟨rfl,rfl⟩⟩
theorem mh {rows:List (List Value)} {sz m k:Nat} {r:List Value} {x:Value} (h:∀ r∈rows,r.length=sz) (hm:rows[m]? = some r) (hk:r[k]? = some x):rows.flatten[m * sz+k]? = some x:=by
 induction rows generalizing m with
 | nil=>simp at hm
 | cons q t ih =>
  have hq:=h q<|by simp
  cases m with
  | zero =>
   simp only [List.getElem?_cons_zero,Option.some.injEq] at hm
   subst hm
   rw [List.flatten_cons,Nat.zero_mul,Nat.zero_add,List.getElem?_append_left (List.getElem?_eq_some_iff.1 hk).1]; exact hk
  | succ m =>
   rw [List.getElem?_cons_succ] at hm
   rw [List.flatten_cons,List.getElem?_append_right (by rw [hq,Nat.succ_mul]; omega),hq,<- ih (λr hr=>h r<|by simp [hr]) hm]
   congr 1
   rw [Nat.succ_mul]; omega
theorem yh {rows:List (List Value)} {sz m k:Nat} {r:List Value} {x:Value} (h:∀ r∈rows,r.length=sz) (hm:rows[m]? = some r) (hk:k<sz):rows.flatten.set (m * sz+k) x=(rows.set m (r.set k x)).flatten:=by
 induction rows generalizing m with
 | nil=>simp at hm
 | cons q t ih =>
  have hq:=h q<|by simp
  cases m with
  | zero =>
   simp only [List.getElem?_cons_zero,Option.some.injEq] at hm
   subst hm
   rw [List.flatten_cons,Nat.zero_mul,Nat.zero_add,List.set_append_left _ _ (by omega),List.set_cons_zero,List.flatten_cons]
  | succ m =>
   rw [List.getElem?_cons_succ] at hm
   rw [List.flatten_cons,List.set_append_right _ _ (by rw [hq,Nat.succ_mul]; omega),hq,List.set_cons_succ,List.flatten_cons,<- ih (λr hr=>h r<|by simp [hr]) hm]
   congr 2
   rw [Nat.succ_mul]; omega
theorem jo {rows:List (List Value)} {sz:Nat} (h:∀ r∈rows,r.length=sz):rows.flatten.length=rows.length * sz:=by
 induction rows with
 | nil=>simp
 | cons q t ih=>rw [List.flatten_cons,List.length_append,h q (by simp),ih (λr hr=>h r (by simp [hr])),List.length_cons,Nat.succ_mul]; omega
theorem Gj {rows:List (List Value)} {sz j:Nat} {x:Value} (h:∀ r∈rows,r.length=sz) (hj:rows.flatten[j]? = some x):∃ m k r,j=m * sz+k/\rows[m]? = some r/\r[k]? = some x:=by
 induction rows generalizing j with
 | nil=>simp at hj
 | cons q t ih =>
  have hq:=h q<|by simp
  rw [List.flatten_cons] at hj
  by_cases hjq:j<q.length
  .rw [List.getElem?_append_left hjq] at hj
   exact ⟨0,j,q,by simp,Z,hj⟩
  .rw [List.getElem?_append_right (by omega)] at hj
   obtain ⟨m,k,r,h1,h2,h3⟩:=ih (λr hr=>h r<|by simp [hr]) hj
   exact ⟨m+1,k,r,by rw [Nat.succ_mul]; omega,h2,h3⟩
theorem Row.cells {α : Type} {S : Res} {X : List Value -> α -> Prop} {a : Option Addr} {n cp : Nat} : ∀ {l : List α}, Row S sz X (.slice a n cp) l -> ∃ rows : List (List Value), rows.length = l.length /\ (∀ r ∈ rows, r.length = sz) /\ (∀ (i : Nat) us x, rows[i]? = some us -> l[i]? = some x -> X us x) /\
  ∀ j u,rows.flatten[j]? = some u->∃ b o,a=some ⟨b,o,none⟩/\Rd S ⟨b,o+j,none⟩ u:=λ{l} h=>by
 obtain ⟨a',cap,h1,_,_,_,h5⟩:=h
 cases h1
 have key : ∀ (k : Nat), k <= l.length -> ∃ rows : List (List Value), rows.length = k /\ ∀ (i : Nat) us, rows[i]? = some us -> ∃ x b o, l[i]? = some x /\ a = some ⟨b, o, none⟩ /\ us.length = sz /\ Rds S b (o + i * sz) us /\ X us x := by
  intro k
  induction k with
  | zero=>exact λ_=>⟨[],rfl,λi us h=>by simp at h⟩
  | succ k ih =>
   intro hk
   obtain ⟨rows,g1,g2⟩:=ih<|by omega
   obtain ⟨b,o,us,e1,e2,e3,e4⟩:=h5 k l[k]<|Zy<|by omega
   refine ⟨rows++[us],by simp [g1],λi us' hi=>?_⟩
   by_cases hik:i<rows.length
   .rw [List.getElem?_append_left hik] at hi; exact g2 i us' hi
   .rw [List.getElem?_append_right (by omega)] at hi
    have hi0:i - rows.length=0:=by
     have:=(List.getElem?_eq_some_iff.1 hi).1
     simp at this; omega
    rw [hi0] at hi
    simp only [List.getElem?_cons_zero,Option.some.injEq] at hi
    subst hi
    have:i=k:=by omega
    subst this
    exact ⟨l[i],b,o,Zy (by omega),e1,e2,e3,e4⟩
 obtain ⟨rows,g1,g2⟩:=key l.length<|Nat.le_refl _
 have hsz:∀ r∈rows,r.length=sz:=λr hr=>by
  obtain ⟨i,hi,rfl⟩:=List.mem_iff_getElem.1 hr
  obtain ⟨_,_,_,_,_,e2,_⟩:=g2 i _<|Zy hi
  exact e2
 refine ⟨rows,g1,hsz,λi us x hi hx=>?_,λj u hj=>?_⟩
 .obtain ⟨x',b,o,e0,_,_,_,e4⟩:=g2 i us hi
  rw [hx] at e0; cases e0; exact e4
 .obtain ⟨m,k,r,rfl,e1,e2⟩:=Gj hsz hj
  obtain ⟨x,b,o,_,e3,e4,e5,_⟩:=g2 m r e1
  exact ⟨b,o,e3,by have:=nS e5 e2; rwa [Nat.add_assoc] at this⟩
theorem dU {b o n cp m:Nat} {r:List Value} (hm:rows[m]? = some r):Rds (VR (.slice (some ⟨b,o,none⟩) n cp) E sz rows) b (o+m * sz) r:=λi hi w hw=>by
 obtain ⟨h1,h2⟩:=hw
 rcases h2 with ⟨h3,_⟩ | ⟨b',o',cp',pre,j,h3,hb,hp,_⟩
 .cases h3
 .cases h3
  have hb':w.heap[b]? = _:=hb
  have h4:=mh h1 hm<|Zy hi
  have hlt:=(List.getElem?_eq_some_iff.1 h4).1
  simp only [World.cell?,hb',cl,List.getElem?_toArray,Option.isSome_none,Bool.false_eq_true,if_false]
  rw [List.getElem?_append_right (by omega),hp,show o+m * sz+i - o=m * sz+i by omega,List.getElem?_append_left hlt,h4]
theorem NP {α : Type} {X:List Value -> α -> Prop} {l:List α} {S:Res} (hok:∃ f,(VR v E sz rows).ok f) (hl:rows.length=l.length) (hr:∀ p u,Rd (VR v E sz rows) p u->Rd S p u) (hx:∀ (i:Nat) us x,rows[i]? = some us->l[i]? = some x->X us x):Row S sz X v l:=by
 obtain ⟨f,hf⟩:=hok
 rcases VR.form hf with ⟨rfl,h1⟩ | ⟨b,o,cp,rfl,h1,h2⟩
 .have hl0:l=[]:=List.eq_nil_of_length_eq_zero (by rw [<- hl,h1]; rfl)
  subst hl0; exact Row.nil
 .refine ⟨some ⟨b,o,none⟩,cp,by rw [hl],by omega,h2,(λh=>by cases h),λi x hi=>?_⟩
  have hlt:i<rows.length:=by rw [hl]; exact (List.getElem?_eq_some_iff.1 hi).1
  have hri:rows[i]? = some rows[i]:=Zy hlt
  exact ⟨b,o,rows[i],Z,hf.1 _ (List.getElem_mem hlt),λj hj=>hr _ _ (dU hri j hj),hx i _ _ hri hi⟩
end

/-! ### What is done to them -/
section
variable {w:World} {v:Value} {E:TypeId} {sz:Nat} {rows:List (List Value)} {h:SH}
theorem Holds.vr_nil (hh:Holds w h) (E:TypeId) (sz:Nat):Holds w (VR (.slice none 0 0) E sz []::h):=⟨VR.nil,(λ_ ⟨_,_,_,hv⟩=>by cases hv),hh⟩
theorem Holds.vr_set {b o n cp m k : Nat} {r : List Value} {x : Value} (hh : Holds w (VR (.slice (some ⟨b, o, none⟩) n cp) E sz rows :: h)) (hm : rows[m]? = some r) (hk : k < sz) :
  (∃ l,w.heap[b]? = some (cl l E)/\o+m * sz+k<l.length)/\Holds (w.setCell ⟨b,o+m * sz+k,none⟩ x) (VR (.slice (some ⟨b,o,none⟩) n cp) E sz (rows.set m<|r.set k x)::h):=by
 obtain ⟨⟨h1,h2⟩,hd,ht⟩:=hh
 rcases h2 with ⟨h3,_⟩ | ⟨b',o',cp',pre,j,h3,hb,hp,hc1,hc2,hc3⟩
 .cases h3
 .cases h3
  have hr:=h1 r<|List.mem_of_getElem? hm
  have h4:=mh (k:=k) h1 hm<|Zy<|by omega
  have hlt:=(List.getElem?_eq_some_iff.1 h4).1
  refine ⟨⟨_,hb,by simp only [List.length_append]; omega⟩,?_⟩
  have hpt:Holds w (pt b (cl (pre++(rows.flatten++j)) E)::h):=⟨hb,λc hc=>by rw [show c=b from hc]; exact hd b ⟨o,_,cp,rfl⟩,ht⟩
  have hset:=Holds.setCell (off:=o+m * sz+k) hpt x
  have hl:(pre++(rows.flatten++j)).set (o+m * sz+k) x=pre++((rows.set m<|r.set k x).flatten++j):=by
   rw [List.set_append_right _ _ (by omega),hp,show o+m * sz+k - o=m * sz+k by omega,List.set_append_left _ _ hlt,yh h1 hm hk]
  rw [hl] at hset
  refine ⟨⟨λq hq=>?_,.inr ⟨b,o,cp,pre,j,by rw [List.length_set],hset.1,hp,by rw [List.length_set]; exact hc1,hc2,?_⟩⟩,λc hc=>hd c hc,hset.2.2⟩
  .rcases List.mem_or_eq_of_mem_set hq with hq | rfl
   .exact h1 q hq
   .rw [List.length_set]; exact hr
  .have:(rows.set m<|r.set k x).flatten.length=rows.flatten.length:=by rw [<- yh h1 hm hk,List.length_set]
   rw [List.length_append,this,<- List.length_append]; exact hc3
theorem Holds.vr_take {b o n cp m:Nat} (hh:Holds w (VR (.slice (some ⟨b,o,none⟩) n cp) E sz rows::h)) (hm:m<=rows.length) :
  Holds w (VR (.slice (some ⟨b,o,none⟩) m cp) E sz (rows.take m)::h):=by
 obtain ⟨⟨h1,h2⟩,hd,ht⟩:=hh
 rcases h2 with ⟨h3,_⟩ | ⟨b',o',cp',pre,j,h3,hb,hp,hc1,hc2,hc3⟩
 .cases h3
 .cases h3
  have hsp:rows.flatten=(rows.take m).flatten++(rows.drop m).flatten:=by rw [<- List.flatten_append,List.take_append_drop]
  refine ⟨⟨λq hq=>h1 q (List.mem_of_mem_take hq),.inr ⟨b,o,cp,pre,(rows.drop m).flatten++j,by rw [List.length_take,Nat.min_eq_left hm],by rw [hb,hsp,List.append_assoc],hp,by rw [List.length_take]; omega,hc2,?_⟩⟩,λc ⟨o',m',cp',hv⟩=>?_,ht⟩
  .rw [<- List.append_assoc,<- hsp]; exact hc3
  .cases hv; exact hd _ ⟨_,_,_,rfl⟩
theorem Holds.vr_of {b n:Nat} {cells:List Value} (hh:Holds w (pt b (cl cells E)::h)) (hc:cells=rows.flatten) (h1:∀ r∈rows,r.length=sz) (hn:rows.length=n) (hm:n<=maxLen):Holds w (VR (.slice (some ⟨b,0,none⟩) n n) E sz rows::h):=by
 subst hn hc
 refine ⟨⟨h1,.inr ⟨b,0,_,[],[],Z,?_,Z,Nat.le_refl _,hm,by rw [List.append_nil,jo h1]; exact Nat.le_refl _⟩⟩,λc ⟨o',m',cp',hv⟩=>?_,hh.2.2⟩
 .have:=hh.1
  simpa [pt] using this
 .cases hv; exact hh.2.1 _ rfl

theorem Ce {P : Program} {t : TypeId} (ty : TypeId) {z : Value} {bytes : Nat} (ht : P.underlying t = some (.slice E)) (hE : Inf P E z sz bytes) (hzs : z.cells.size = sz) (hsz : 0 < sz)
  (hh:Holds w (VR v E sz rows::h)) {src:Addr} {m cp:Nat} {news:List (List Value)} (hn1:∀ r∈news,r.length=sz) (hl:news.length=m)
  (hnews:∀ j u,news.flatten[j]? = some u->w.cell? (src.add j)=some u) (h1:∀ u∈news.flatten,u.oneCell'=true) (hb:(rows.length+m) * bytes<=140737488355328) (h63:rows.length+m<=9223372036854775807) :
  ∃ v' w',(Builtin.append_ #[t,t] ty #[v,.slice (some src) m cp]).run P w = .ok v' w'/\Holds w' (VR v' E sz (rows++news)::h)/\Same w w'/\(v' = .slice none 0 0↔v = .slice none 0 0/\m=0):=by
 obtain ⟨i,hi,hz,hisz,hiby⟩:=hE.parts
 subst hisz hiby
 have hok:(VR v E i.size rows).ok (hp w):=hh.1
 have hmax:maxLen=9223372036854775807:=rfl
 have hall:∀ r∈rows++news,r.length=i.size:=λr hr=>(List.mem_append.1 hr).elim (hok.1 r)<|hn1 r
 have hnl:news.flatten.length=m * i.size:=by rw [jo hn1,hl]
 have hrl:rows.flatten.length=rows.length * i.size:=jo hok.1
 have newrow : ∀ (old : Nat), old < rows.length + m -> ∀ w1 : World, w1 = w.drew.alloc (.cells (rows.flatten.toArray ++ news.flatten.toArray ++ Builtin.zeroCells z.cells (grownCap w (rows.length + m) old E - (rows.length + m))) E) ->
   Holds w1 (VR (.slice (some ⟨w.heap.size,0,none⟩) (rows.length+m)<|grownCap w (rows.length+m) old E) E i.size (rows++news)::h)/\Same w w1:=by
  intro old ho w1 hw1
  have hge:=grownCap_ge w (rows.length+m) old E
  have hcm:grownCap w (rows.length+m) old E<=maxLen:=grownCap_le_maxLen w (rows.length+m) old E (by rw [hmax]; exact h63)
  have hH:Holds w.drew h:=Holds.grew hh.2.2<|Grew.drawn w _
  have hA:=Holds.alloc hH<|.cells (rows.flatten.toArray++news.flatten.toArray++Builtin.zeroCells z.cells (grownCap w (rows.length+m) old E - (rows.length+m))) E
  have hobj:(Obj.cells (rows.flatten.toArray++news.flatten.toArray++Builtin.zeroCells z.cells (grownCap w (rows.length+m) old E - (rows.length+m))) E)=cl ([]++((rows++news).flatten++(Builtin.zeroCells z.cells (grownCap w (rows.length+m) old E - (rows.length+m))).toList)) E:=by
   simp only [cl,Obj.cells.injEq,and_true]
   apply Array.ext'
   simp
  rw [hobj] at hA
  refine ⟨?_,?_⟩
  .rw [hw1,hobj]
   refine ⟨⟨hall,.inr ⟨w.heap.size,0,_,[],_,by rw [List.length_append,hl],hA.1,Z,by rw [List.length_append,hl]; exact hge,hcm,?_⟩⟩,λb ⟨o',m',cp',hv⟩=>?_,hA.2.2⟩
   .have hzl:(Builtin.zeroCells z.cells (grownCap w (rows.length+m) old E - (rows.length+m))).toList.length=(grownCap w (rows.length+m) old E - (rows.length+m)) * i.size:=by rw [Array.length_toList,size_zeroCells,hzs]
    rw [List.length_append,jo hall,List.length_append,hl,hzl,<- Nat.add_mul]
    apply Nat.mul_le_mul_right; omega
   .cases hv; exact hA.2.1 _ rfl
  .rw [hw1]; exact (Grew.drawn w _).toSame.trans (Grew.alloc _ _ rfl).toSame
 rcases hok.2 with ⟨rfl,rfl⟩ | ⟨g,o,cap,pre,j,rfl,hg,hpo,hnc,hcm,hcs⟩
 .by_cases hm:m=0
  .subst hm
   have hn:news=[]:=List.eq_nil_of_length_eq_zero hl
   subst hn
   refine ⟨.slice none 0 0,w,?_,hh,Same.refl w,by simp⟩
   simp [Builtin.append_,run_underlying ht,sizeOf,typeInfo,hi,Builtin.lenOf,Builtin.firstCells,loadCells,loadCellsFrom]
  .have hr:=run_append_nil (P:=P) w t ty E i z ht hi hz src m cp news.flatten hnl hnews (by omega) (by simp only [List.length_nil] at h63; omega) (by simp only [List.length_nil,Nat.zero_add] at hb; omega)
   have:=newrow 0 (by omega) _ rfl
   simp only [List.length_nil,Nat.zero_add,List.nil_append,List.flatten_nil,Array.empty_append] at this hr ⊢
   exact ⟨_,_,hr,this.1,this.2,by simp [hm]⟩
 .have hg' : w.heap[g]? = some (.cells (pre ++ (rows.flatten ++ j)).toArray E (0, 0)) := hg
  by_cases hroom:rows.length+m<=cap
  .have hfit:o+rows.length * i.size+0+news.flatten.length<=(pre++(rows.flatten++j)).toArray.size:=by
    rw [hnl,List.size_toArray,List.length_append,hpo]
    have:(rows.length+m) * i.size<=cap * i.size:=Nat.mul_le_mul_right _ hroom
    rw [Nat.add_mul] at this
    omega
   have hst:=run_storeCells_at P g (o+rows.length * i.size) E news.flatten 0 _ w hg' hfit h1
   simp only [Nat.add_zero] at hst
   have hfc:=run_firstCells_some (P:=P) w i.size m src m cp news.flatten hnl hnews
   have hr:(Builtin.append_ #[t,t] ty #[.slice (some ⟨g,o,none⟩) rows.length cap,.slice (some src) m cp]).run P w = .ok (.slice (some ⟨g,o,none⟩) (rows.length+m) cap) (w.setRow g ((pre++(rows.flatten++j)).toArray.toList.take (o+rows.length * i.size)++news.flatten++(pre++(rows.flatten++j)).toArray.toList.drop (o+rows.length * i.size+news.flatten.length)).toArray):=by
    simp [Builtin.append_,run_underlying ht,sizeOf,typeInfo,hi,Builtin.lenOf,hroom,hfc,Addr.add_lit,hst]
   have hset:=setRow_heap w g (pre++(rows.flatten++j)).toArray ((pre++(rows.flatten++j)).toArray.toList.take (o+rows.length * i.size)++news.flatten++(pre++(rows.flatten++j)).toArray.toList.drop (o+rows.length * i.size+news.flatten.length)).toArray E (0,0) hg'
   refine ⟨_,_,hr,?_,⟨rfl,rfl,rfl,Nat.le_refl _,by simp,pJ (b:=g) (λo ho=>by rw [hg'] at ho; cases ho; rfl) (λo ho=>by rw [hset] at ho; cases ho; rfl) λc hc=>setRow_other w g c _ hc⟩,by simp⟩
   have htk:(pre++(rows.flatten++j)).take (o+rows.length * i.size)=pre++rows.flatten:=by
    rw [<- List.append_assoc,List.take_left' (by rw [List.length_append,hpo,hrl])]
   have hdr:(pre++(rows.flatten++j)).drop (o+rows.length * i.size+news.flatten.length)=j.drop news.flatten.length:=by
    rw [<- List.drop_drop,<- List.append_assoc,List.drop_left' (by rw [List.length_append,hpo,hrl])]
   simp only [htk,hdr] at hset ⊢
   refine ⟨⟨hall,.inr ⟨g,o,cap,pre,j.drop news.flatten.length,by rw [List.length_append,hl],?_,hpo,by rw [List.length_append,hl]; exact hroom,hcm,?_⟩⟩,λb ⟨o',m',cp',hv⟩=>?_,?_⟩
   .show w.setRow g _ |>.heap[g]? = _
    rw [hset]; simp [cl]
   .rw [List.length_append,List.length_drop,jo hall,List.length_append,hl,hnl]
    rw [List.length_append,hrl] at hcs
    have h5:(rows.length+m) * i.size<=cap * i.size:=Nat.mul_le_mul_right _ hroom
    rw [Nat.add_mul] at h5 ⊢
    omega
   .cases hv; exact hh.2.1 _ ⟨_,_,_,rfl⟩
   .exact bn.loc hh.2.2 λb hb=>(setRow_other w g b _<|λe=>hh.2.1 b ⟨o,rows.length,cap,by rw [e]⟩ hb).symm
  .have holds:∀ k u,rows.flatten[k]? = some u->w.cell? ((⟨g,o,none⟩:Addr).add k)=some u:=λk u hu=>by
    rw [Addr.add_lit]
    have hlt:=(List.getElem?_eq_some_iff.1 hu).1
    simp only [World.cell?,hg',List.getElem?_toArray,Option.isSome_none,Bool.false_eq_true,if_false]
    rw [List.getElem?_append_right (by omega),hpo,show o+k - o=k by omega,List.getElem?_append_left hlt,hu]
   have hr:=run_append_grow (P:=P) w t ty E i z ht hi hz ⟨g,o,none⟩ rows.length cap rows.flatten hrl holds src m cp news.flatten hnl hnews (by omega) (by omega)<|growslice_fits (by omega) hb
   have:=newrow cap (by omega) _ rfl
   exact ⟨_,_,hr,this.1,this.2,by simp⟩
end

section
variable {P:Program} {e:Env} {h h':SH} {ty:TypeId}
theorem NQ {b o n cp m k sz:Nat} {E:TypeId} {rows:List (List Value)} {r:List Value} {v:Value} (hm:rows[m]? = some r) (hk:r[k]? = some v):Rd (VR (.slice (some ⟨b,o,none⟩) n cp) E sz rows) ⟨b,o+m * sz+k,none⟩ v:=nS (dU hm) hk
theorem ng {T E : TypeId} {x y : Operand} {b o n cp lo sz : Nat} {i : Int} {k : IntKind} (hx : e.ev? x = some (.slice (some ⟨b, o, none⟩) n cp)) (hy : e.ev? y = some (.int k i)) (hT : SlE P T E sz)
  (hi':i=(lo:Int)) (h1:lo<=n) (hc:n<=cp):Vop P e h (.slice T x (some y) none none) ty (.slice (some ⟨b,if cp=lo then o else o+lo * sz,none⟩) (n - lo) (cp - lo)):=
 ⟨by simp,by simp,λρ w d pos after g hρ _=>by
  subst hi'
  have hT':P.underlying T=some (.slice<|P.elem T):=by simp [Program.elem,hT.1]
  have he:P.elem T=E:=by simp [Program.elem,hT.1]
  have hr:=run_slice_l (P:=P) w T (some ⟨b,o,none⟩) n cp hT' k lo (by omega)<|by omega
  have hs:sliced (some ⟨b,o,none⟩) lo n cp sz = .slice (some ⟨b,if cp=lo then o else o+lo * sz,none⟩) (n - lo) (cp - lo):=by
   unfold sliced; by_cases hcl:cp=lo <;> simp [hcl,Addr.add_lit]
  simp only [he,hT.2 w,Result.andThen_ok,Int.toNat_natCast,hs] at hr
  simp only [execOp,hρ x _ hx,Option.map_some,Option.map_none,hρ y _ hy,Sem.run_bind,run_sliceAt_slice w T _ _ _ _ hT',hr,Result.andThen_ok,Sem.run_pure]⟩
theorem kI {T E : TypeId} {x y : Operand} {b o n cp hi sz : Nat} {i : Int} {k : IntKind} (hx : e.ev? x = some (.slice (some ⟨b, o, none⟩) n cp)) (hy : e.ev? y = some (.int k i)) (hT : SlE P T E sz)
  (hi':i=(hi:Int)) (h1:hi<=cp):Vop P e h (.slice T x none (some y) none) ty (.slice (some ⟨b,o,none⟩) hi cp):=
 ⟨by simp,by simp,λρ w d pos after g hρ _=>by
  subst hi'
  have hT':P.underlying T=some (.slice<|P.elem T):=by simp [Program.elem,hT.1]
  have he:P.elem T=E:=by simp [Program.elem,hT.1]
  have hr:=run_slice_h (P:=P) w T (some ⟨b,o,none⟩) n cp hT' k hi (by omega)<|by omega
  have hs:sliced (some ⟨b,o,none⟩) 0 hi cp sz = .slice (some ⟨b,o,none⟩) hi cp:=by
   unfold sliced; by_cases hcl:cp=0 <;> simp [hcl,Addr.add_lit]
  simp only [he,hT.2 w,Result.andThen_ok,Int.toNat_natCast,Int.toNat_zero,hs] at hr
  simp only [execOp,hρ x _ hx,Option.map_some,Option.map_none,hρ y _ hy,Sem.run_bind,run_sliceAt_slice w T _ _ _ _ hT',hr,Result.andThen_ok,Sem.run_pure]⟩
end

/-! ## What is known without a step -/
section
variable {c:Cx} {ops:Array Oper} {K:Act->World->Prop} {rest:List Oper} {e:Env} {h h':SH} {Q:Exit->Act->World->Prop} {x:Code} {ex:Exit} {r:Res}
theorem fD (s:Sel h r h') (hc:(∃ f,r.ok f)->Cd c x Q e h):Cd c x Q e h:=λa w hk hh hw=>hc ⟨_,(hh.sel s).1⟩ a w hk hh hw
theorem ni (s:Sel h r h') (hc:(∃ f,r.ok f)->St c ops K rest e h):St c ops K rest e h:=λa w hk hh hw=>hc ⟨_,(hh.sel s).1⟩ a w hk hh hw
theorem eF (s:Sel h r h') (hc:(∃ f,r.ok f)->Xt c ex Q e h):Xt c ex Q e h:=λa w hk hh hw=>hc ⟨_,(hh.sel s).1⟩ a w hk hh hw
def Vw (h h':SH):Prop:=∀ w:World,Holds w h->Holds w h'
theorem dY (hv:Vw h h') (hc:Cd c x Q e h'):Cd c x Q e h:=λa w hk hh hw=>hc a w hk (hv w hh) hw
theorem rQ (hv:Vw h h') (hc:St c ops K rest e h'):St c ops K rest e h:=λa w hk hh hw=>hc a w hk (hv w hh) hw
theorem jq (hv:Vw h h') (hc:Xt c ex Q e h'):Xt c ex Q e h:=λa w hk hh hw=>hc a w hk (hv w hh) hw
theorem Vw.sel {k:SH} (s:Sel h r h') (hv:Vw (r::h') k):Vw h k:=λw hh=>hv w<|hh.sel s
theorem Vw.pk {k hr m:SH} (p:Pk h k hr) (hv:Vw (k++hr) m):Vw h m:=λw hh=>hv w<|hh.pk p
theorem Vw.trans {a b d:SH} (p:Vw a b) (q:Vw b d):Vw a d:=λw h=>q w<|p w h
theorem Vw.refl:Vw h h:=λ_ hh=>hh
theorem Vw.frame {a b:SH} (hv:Vw a b) (hl:∀ w:World,Holds w a->∀ x,SH.dom b x->SH.dom a x) {k:SH}:Vw (a++k) (b++k):=λw hh=>by
 obtain ⟨h1,h2,h3⟩:=bn.append.1 hh
 exact bn.append.2 ⟨hv w h1,h2,λx hx=>h3 x<|hl w h1 x hx⟩
theorem fw {L k:SH}:Vw (L++k) (Res.star L::k):=λ_ hh=>dG.2 hh
end

/-! ## Rows -/
section
variable {v:Value} {E:TypeId} {sz:Nat} {rows rows':List (List Value)} {h h':SH}
theorem zi {b o n cp m:Nat} (hm:m<=rows.length):Vw (VR (.slice (some ⟨b,o,none⟩) n cp) E sz rows::h) (VR (.slice (some ⟨b,o,none⟩) m cp) E sz (rows.take m)::h):=λ_ hh=>hh.vr_take hm
theorem vw_of {b n:Nat} {cells:List Value} (rows:List (List Value)) (hc:cells=rows.flatten) (h1:∀ r∈rows,r.length=sz) (hn:rows.length=n) (hm:n<=maxLen):Vw (pt b (cl cells E)::h) (VR (.slice (some ⟨b,0,none⟩) n n) E sz rows::h):=λ_ hh=>hh.vr_of hc h1 hn hm
theorem dn (E:TypeId) (sz:Nat):Vw h (VR (.slice none 0 0) E sz []::h):=λ_ hh=>hh.vr_nil E sz
end
section
variable {c:Cx} {ops:Array Oper} {K:Act->World->Prop} {rest:List Oper} {e:Env} {h h':SH} {Q:Exit->Act->World->Prop} {x:Code} {ex:Exit}
variable {v:Value} {E:TypeId} {sz:Nat} {rows rows':List (List Value)}
theorem cd_row (s:Sel h (VR v E sz rows) h') (h0:v = .slice none 0 0->rows=[]->Cd c x Q e h) (h1:∀ b o cp,v = .slice (some ⟨b,o,none⟩) rows.length cp->rows.length<=cp->cp<=maxLen->Cd c x Q e h):Cd c x Q e h :=
 fD s λ⟨_,hf⟩=>(VR.form hf).elim (λ⟨a,b⟩=>h0 a b) λ⟨b,o,cp,h2,h3,h4⟩=>h1 b o cp h2 h3 h4
theorem st_row (s:Sel h (VR v E sz rows) h') (h0:v = .slice none 0 0->rows=[]->St c ops K rest e h) (h1:∀ b o cp,v = .slice (some ⟨b,o,none⟩) rows.length cp->rows.length<=cp->cp<=maxLen->St c ops K rest e h):St c ops K rest e h :=
 ni s λ⟨_,hf⟩=>(VR.form hf).elim (λ⟨a,b⟩=>h0 a b) λ⟨b,o,cp,h2,h3,h4⟩=>h1 b o cp h2 h3 h4
theorem fO (s:Sel h (VR v E sz rows) h') (hc:∀ a cp,v = .slice a rows.length cp->rows.length<=cp->cp<=maxLen->Cd c x Q e h):Cd c x Q e h :=
 cd_row s (λh1 h2=>hc none 0 (by rw [h1,h2]; rfl) (by rw [h2]; exact Nat.le_refl _)<|Nat.zero_le _) λb o cp h1 h2 h3=>hc _ cp h1 h2 h3
theorem jJ (s:Sel h (VR v E sz rows) h') (hc:∀ a cp,v = .slice a rows.length cp->rows.length<=cp->cp<=maxLen->St c ops K rest e h):St c ops K rest e h :=
 st_row s (λh1 h2=>hc none 0 (by rw [h1,h2]; rfl) (by rw [h2]; exact Nat.le_refl _)<|Nat.zero_le _) λb o cp h1 h2 h3=>hc _ cp h1 h2 h3
theorem st_vr {T:TypeId} {x y:Operand} {ty:TypeId} {pos:String} {after:Array Edge} {b o n cp m k:Nat} {r:List Value} {u:Value}
  (hx:e.ev? x=some (.pointer<|some ⟨b,o+m * sz+k,none⟩)) (hy:e.ev? y=some u) (hT:Sz c.P T 1) (hv:u.oneCell'=true) (hm:rows[m]? = some r) (hk:k<sz) (hl:rows.set m (r.set k u)=rows') (hs:Sel h (VR (.slice (some ⟨b,o,none⟩) n cp) E sz rows) h')
  (hn:St c ops K rest e (VR (.slice (some ⟨b,o,none⟩) n cp) E sz rows'::h')) :
  St c ops K (⟨none,.store T x y,ty,pos,after,none⟩::rest) e h :=
 eD (by simp) λa w hk' hh hs'=>by
  obtain ⟨⟨l,h1,h2⟩,h3⟩:=(hh.sel hs).vr_set (x:=u) hm hk
  have hr:=zP hT hv (E:=E) (l:=l) h1 h2
  simp only [execOp,hk'.ev hx,hk'.ev hy,Sem.run_bind,hr,Result.andThen_ok,Sem.run_pure]
  rw [hl] at h3
  exact hn _ _ hk' h3<|hs'.trans<|Same.setCell _ _ _
theorem KP {d:Nat} {t ty:TypeId} {x y:Operand} {pos:String} {after:Array Edge} {z:Value} {bytes m cp:Nat} {src:Addr} (news:List (List Value))
  (hx:e.ev? x=some v) (hy:e.ev? y=some (.slice (some src) m cp)) (ht:c.P.underlying t=some (.slice E)) (hE:Inf c.P E z sz bytes) (hzs:z.cells.size=sz) (hsz:0<sz)
  (hs:Sel h (VR v E sz rows) h') (hn1:∀ r∈news,r.length=sz) (hl:news.length=m) (hnews:∀ j u,news.flatten[j]? = some u->At h (src.add j) u) (h1:∀ u∈news.flatten,u.oneCell'=true)
  (hb:(rows.length+m) * bytes<=140737488355328) (h63:rows.length+m<=9223372036854775807) (hd:d<c.n)
  (hnx:∀ v',v'.oneCell'=true->(v' = .slice none 0 0↔v = .slice none 0 0/\m=0)->St c ops K rest ((d,v')::e) (VR v' E sz (rows++news)::h')) :
  St c ops K (⟨some d,.call { callee:=.builtin .append,args := #[x,y],argTypes := #[t,t] },ty,pos,after,none⟩::rest) e h :=
 eD (by simp) λa w hk hh hw=>by
  obtain ⟨v',w',hr,hH,hS,hv⟩:=Ce (P:=c.P) ty ht hE hzs hsz (hh.sel hs) (src:=src) (cp:=cp) hn1 hl (λj u hu=>(hnews j u hu).cell hh) h1 hb h63
  simp only [execOp,resolve,invoke,builtin,hk.ev hx,hk.ev hy,Sem.run_bind,Sem.run_pure,Result.andThen_ok,List.map_toArray,List.map_cons,List.map_nil,hr]
  exact hnx v' (VR.one hH.1) hv _ w' (hk.put _ hd) hH<|hw.trans hS
theorem eG {d:Nat} {t ty:TypeId} {x y:Operand} {pos:String} {after:Array Edge} {z:Value} {bytes sb so m cp:Nat} (news:List (List Value))
  (hx:e.ev? x=some v) (hy:e.ev? y=some (.slice (some ⟨sb,so,none⟩) m cp)) (ht:c.P.underlying t=some (.slice E)) (hE:Inf c.P E z sz bytes) (hzs:z.cells.size=sz) (hsz:0<sz)
  (hs:Sel h (VR v E sz rows) h') (hn1:∀ r∈news,r.length=sz) (hl:news.length=m) (hnews:∀ j u,news.flatten[j]? = some u->At h ⟨sb,so+j,none⟩ u) (h1:∀ u∈news.flatten,u.oneCell'=true)
  (hb:(rows.length+m) * bytes<=140737488355328) (h63:rows.length+m<=9223372036854775807) (hd:d<c.n)
  (hnx:∀ v',v'.oneCell'=true->(v' = .slice none 0 0↔v = .slice none 0 0/\m=0)->St c ops K rest ((d,v')::e) (VR v' E sz (rows++news)::h')) :
  St c ops K (⟨some d,.call { callee:=.builtin .append,args := #[x,y],argTypes := #[t,t] },ty,pos,after,none⟩::rest) e h :=
 KP news hx hy ht hE hzs hsz hs hn1 hl (λj u hu=>by rw [Addr.add_lit]; exact hnews j u hu) h1 hb h63 hd hnx
theorem uj {d : Nat} {T ty : TypeId} {pos : String} {after : Array Edge} {z : Value} {bytes : Nat} (hT : c.P.underlying T = some (.slice E)) (hE : Inf c.P E z sz bytes)
  (hnx:∀ b,St c ops K rest ((d,.slice (some ⟨b,0,none⟩) 0 0)::e) (VR (.slice (some ⟨b,0,none⟩) 0 0) E sz []::h)) (hd:d<c.n:=by exact ltn rfl) :
  St c ops K (⟨some d,.buildSlice T 0 #[],ty,pos,after,none⟩::rest) e h :=
 zW (sz:=sz) hT hE hd λb=>λa w hk hh hw=>hnx b a w hk (by
  obtain ⟨h1,h2,h3⟩:=hh
  rcases h1.2 with ⟨h4,_⟩ | ⟨b',cp,j,h4,h5,_⟩
  .cases h4
  .cases h4
   exact ⟨⟨by simp,.inr ⟨b,0,0,[],j,rfl,by simpa using h5,rfl,Nat.le_refl _,Nat.zero_le _,by simp⟩⟩,λx ⟨o,m,cp,hv⟩=>(by cases hv; exact h2 _ ⟨_,_,rfl⟩),h3⟩) hw
end

/-! ## One of many -/
def upd {α : Type} (f:Nat -> α) (i:Nat) (x : α):Nat -> α := λk=>if k=i then x else f k
theorem upd_same {α : Type} (f:Nat -> α) (i:Nat) (x : α):upd f i x i=x:=if_pos rfl
def foc {α : Type} (n i:Nat) (c : α) (g:Nat -> α):List α := (List.range n).map (upd g i c)
theorem foc_get {α : Type} {n i:Nat} {c : α} {g:Nat -> α} (hi:i<n):(foc n i c g)[i]? = some c:=by simp [foc,List.getElem?_map,List.getElem?_range,hi,upd_same]
def others (n i:Nat):List Nat:=(List.range n).filter λk=>decide (k≠i)
def RSx (n i:Nat) (R:Nat->Res):Res:=Res.star ((others n i).map R)
def RS (n:Nat) (R:Nat->Res):Res:=Res.star ((List.range n).map R)
section
variable {P:Program} {e:Env} {h:SH} {ty:TypeId}
theorem vY {T:TypeId} {x:Operand} {p:Addr} {v:Value} (hx:e.ev? x=some (.pointer (some p))) (hT:Ld1 P T)
  (ha:At h p v:=by repeat (first | exact bV (bZ<|by rfl) | exact bV (nS (by assumption)<|by rfl) | exact bV (NQ (foc_get<|by assumption)<|by rfl) | exact bV (NQ (by rfl)<|by rfl) | exact bV (by assumption) | apply Nq)):Vop P e h (.load T x) ty v:=v_load hx hT ha
theorem af {T:TypeId} {x:Operand} {b o n:Nat} {vs:List Value} {r:Res} {h':SH} (hx:e.ev? x=some (.pointer (some ⟨b,o,none⟩))) (hT:LdN P T n) (hl:vs.length=n) (hr:Rds r b o vs) (s:Sel h r h':=by repeat (first | exact Sel.here | apply Sel.there)) :
  Vop P e h (.load T x) ty (.agg vs.toArray):=v_loadR hx hT hl s hr
end
section
variable {c:Cx} {ops:Array Oper} {K:Act->World->Prop} {rest:List Oper} {e:Env} {h k k' hr:SH} {Q:Exit->Act->World->Prop} {x:Code} {ex:Exit}
theorem cd_pv (hv:∀ t,Vw (k++t) (k'++t)) (hc:Cd c x Q e (k'++hr)) (p:Pk h k hr:=by repeat (first | exact Pk.nil | (apply Pk.cons; (repeat (first | exact Sel.here | apply Sel.there))))):Cd c x Q e h:=dY (Vw.pk p<|hv hr) hc
theorem Aj (hv:∀ t,Vw (k++t) (k'++t)) (hc:St c ops K rest e (k'++hr)) (p:Pk h k hr:=by repeat (first | exact Pk.nil | (apply Pk.cons; (repeat (first | exact Sel.here | apply Sel.there))))):St c ops K rest e h:=rQ (Vw.pk p<|hv hr) hc
theorem lm (hv:∀ t,Vw (k++t) (k'++t)) (hc:Xt c ex Q e (k'++hr)) (p:Pk h k hr:=by repeat (first | exact Pk.nil | (apply Pk.cons; (repeat (first | exact Sel.here | apply Sel.there))))):Xt c ex Q e h:=jq (Vw.pk p<|hv hr) hc
theorem Ak {b n:Nat} {E:TypeId} {sz:Nat} {cells:List Value} (rows:List (List Value)) (hc:cells=rows.flatten) (h1:∀ r∈rows,r.length=sz) (hn:rows.length=n) (hm:n<=maxLen):∀ t,Vw ([pt b (cl cells E)]++t) ([VR (.slice (some ⟨b,0,none⟩) n n) E sz rows]++t):=λt=>vw_of rows hc h1 hn hm
theorem fP {L:SH}:∀ t,Vw (L++t) ([Res.star L]++t):=λt=>fw
end
end Go.Ck
namespace Go.Hr
open Go Go.RowKit Go.Ck
def strC (us:List Value) (n:Nm):Prop:=us=[sv n]
def parC (us:List Value) (p:Nm):Prop:=∃ a b c d e,us=[sv p,a,b,c,d,e]/\[sv p,a,b,c,d,e].all Value.oneCell'=true
def clsC (S:Res) (us:List Value) (x:Cls):Prop:=∃ d f pv c fa fc i,us=[sv x.name,d,f,pv,c,.slice fa x.feats fc,i]/\[sv x.name,d,f,pv,c,.slice fa x.feats fc,i].all Value.oneCell'=true/\Row S 6 parC pv x.parents
def mQ (S:Res) (v:Value) (l:Sys):Prop:=Row S 7 (clsC S) v l
def wW (S:Res) (v:Value) (xs:List Nm):Prop:=Row S 1 strC v xs
section
variable {S S':Res} (hr:∀ p u,Rd S p u->Rd S' p u)
include hr
theorem clsC.mono {us:List Value} {x:Cls} (h:clsC S us x):clsC S' us x:=let ⟨d,f,pv,c,fa,fc,i,h1,h0,h2⟩:=h; ⟨d,f,pv,c,fa,fc,i,h1,h0,h2.mono hr λ_ _ _ h=>h⟩
theorem mQ.mono {v:Value} {l:Sys} (h:mQ S v l):mQ S' v l:=Row.mono h hr λ_ _ _ h=>clsC.mono hr h
theorem wW.mono {v:Value} {xs:List Nm} (h:wW S v xs):wW S' v xs:=Row.mono h hr λ_ _ _ h=>h
end
section
variable {S:Res} {v:Value} {l:Sys}
theorem ul (h:mQ S v l) {i:Nat} {x:Cls} (hi:l[i]? = some x):∃ b o cap d f pa pc c fa fc j,v = .slice (some ⟨b,o,none⟩) l.length cap/\Rds S b (o+i * 7) [sv x.name,d,f,.slice pa x.parents.length pc,c,.slice fa x.feats fc,j]/\Row S 6 parC (.slice pa x.parents.length pc) x.parents/\[sv x.name,d,f,.slice pa x.parents.length pc,c,.slice fa x.feats fc,j].all Value.oneCell'=true:=by
 obtain ⟨b,o,cap,us,h1,_,h3,d,f,pv,c,fa,fc,j,rfl,h0,h4⟩:=Row.at h hi
 obtain ⟨pa,pc,rfl,_⟩:=id h4
 exact ⟨b,o,cap,d,f,pa,pc,c,fa,fc,j,h1,h3,h4,h0⟩
theorem IW {pv:Value} {ps:List Nm} (h:Row S 6 parC pv ps) {i:Nat} {p:Nm} (hi:ps[i]? = some p):∃ b o cap a c d e f,pv = .slice (some ⟨b,o,none⟩) ps.length cap/\Rds S b (o+i * 6) [sv p,a,c,d,e,f]/\[sv p,a,c,d,e,f].all Value.oneCell'=true:=by
 obtain ⟨b,o,cap,us,h1,_,h3,a,c,d,e,f,rfl,h0⟩:=Row.at h hi
 exact ⟨b,o,cap,a,c,d,e,f,h1,h3,h0⟩
theorem um {xs:List Nm} (h:wW S v xs) {i:Nat} {x:Nm} (hi:xs[i]? = some x):∃ b o cap,v = .slice (some ⟨b,o,none⟩) xs.length cap/\Rd S ⟨b,o+i * 1,none⟩ (sv x):=by
 obtain ⟨b,o,cap,u,h1,h2,h3⟩:=Row.at1 h hi
 simp only [strC,List.cons.injEq,and_true] at h3
 subst h3
 exact ⟨b,o,cap,h1,h2⟩
end
/-! ## Names that are owned -/
def nC (n:Nm):List Value:=[sv n]
def NR (v:Value) (xs:List Nm):Res:=VR v 9 1 (xs.map nC)
theorem iX {v:Value} {xs:List Nm} (hok:∃ f,(NR v xs).ok f):wW (NR v xs) v xs :=
 NP hok (by simp) (λ_ _ h=>h) λi us x h1 h2=>by
  rw [List.getElem?_map,h2] at h1
  simp only [Option.map_some,Option.some.injEq] at h1
  rw [<- h1]; rfl
def ixN (l:Sys) (c:Nm):Int:=match idx l c with | some i=>i | none => -1
theorem oW {l:Sys} {c:Nm}:(∀ i,idx l c=some i->∃ x,l[i]? = some x/\find l c=some x)/\(idx l c=none->find l c=none):=by
 constructor
 .intro i h
  obtain ⟨hi,h1,h2⟩:=List.findIdx?_eq_some_iff_getElem.1 h
  exact ⟨l[i],Zy hi,by
   unfold find
   rw [List.find?_eq_some_iff_getElem]
   exact ⟨h1,i,hi,Z,λj hj=>by simpa using h2 j hj⟩⟩
 .intro h
  unfold idx at h
  rw [List.findIdx?_eq_none_iff] at h
  unfold find
  rw [List.find?_eq_none]
  intro x hx
  simpa using h x hx
end Go.Hr
namespace Go.Hr
open Go Go.Ck Go.Proofs Go.Proofs.YtknmacdbffgjgaaGreatDoor Fx
attribute [local irreducible] Go.Ck.Sub St Cd Xt Nx DrL LsW
section
variable {S:Res} {v:Value} {l:Sys}
def fewL (l:Sys):Bool:=l.all (λx=>decide (x.parents.length<=8)) && (decide (l.length<=10) || (decide (24<l.length) && decide (l.length<=40)))
end
end Go.Hr
namespace Go.Hr
open Go Go.Ck Go.Proofs Go.Proofs.Tryz Go.Proofs.YtknmacdbffgjgaaGreatDoor Fx
attribute [local irreducible] Go.Ck.Sub St Cd Xt Nx DrL LsW
def sJ (m:List (Bs×Value)) (q:Cls×Nat):List (Bs×Value):=if (bR m q.1.name).isSome then m else eU m q.1.name (.int .i64 q.2)
def bN (l:Sys):List (Bs×Value):=l.zipIdx.foldl sJ []
theorem Am {l:Sys} {i:Nat} (h:i<l.length):bN (l.take (i+1))=sJ (bN (l.take i)) (l[i],i):=by
 unfold bN
 rw [List.take_succ_eq_append_getElem h,List.zipIdx_append,List.foldl_append]
 simp [List.length_take,Nat.min_eq_left (Nat.le_of_lt h)]
theorem uq (l:Sys) (c:Nm):bR (bN l) c=(idx l c).map λi=>.int .i64 i:=by
 have key : ∀ n, n <= l.length -> bR (bN<|l.take n) c = (idx (l.take n) c).map λi => .int .i64 i := by
  intro n
  induction n with
  | zero=>intro _; rfl
  | succ n ih =>
   intro hn
   rw [Am (by omega)]
   have ih:=ih<|by omega
   have hix:idx (l.take (n+1)) c=(idx (l.take n) c).or (if (l[n]).name=c then some n else none):=by
    unfold idx
    rw [List.take_succ_eq_append_getElem (by omega),List.findIdx?_append]
    congr 1
    by_cases h:(l[n]).name=c <;> simp [List.findIdx?_cons,h,List.length_take,Nat.min_eq_left (Nat.le_of_lt hn)]
   rw [hix]
   unfold sJ
   by_cases hc:(l[n]).name=c
   .simp only [hc,if_true]
    cases hi:idx (l.take n) c with
    | none =>
     rw [hi] at ih
     simp only [ih,Option.map_none,Option.isSome_none,Bool.false_eq_true,if_false]
     rw [oJ,if_pos rfl]; rfl
    | some j =>
     rw [hi] at ih
     simp only [ih,Option.map_some,Option.isSome_some,if_true]
     rfl
   .simp only [hc,if_false,Option.or_none]
    split
    .exact ih
    .rw [oJ,if_neg (λe=>hc e.symm)]; exact ih
 have:=key l.length<|Nat.le_refl _
 rwa [List.take_length] at this
section
variable {S:Res} {v:Value} {l:Sys}
theorem Gl (hv:mQ S v l) (hl:l.length<=1099511627776):Ct prog 138 #[v] [S] λu h'=>∃ mb,u = .map (some mb)/\h'=[mps mb (bN l),S]:=by
 obtain ⟨a,cap,rfl,_⟩:=id hv
 refine aJ (n:=31) func138 Z Z (len Z) λhr w0=>?_
 refine cQ<|sA Z<|sN<|nT<|cQ (fq (ltn Z) λb8=>?_)
 refine sA Z<|sK [0,2,3] Z<|cS<|cQ<|sM Z<|sV (aC Z underlying22)<|sM Z<|sK [2,3,9,10,11] Z<|cB<|aY (σ := Nat) (λi=>[(3,.map (some b8)),(9,.slice a l.length cap),(10,.int .i64 l.length),(11,.int .i64 (i:Nat))]) (λi=>mps b8 (bN<|l.take i)::S::hr) (λi=>i<=l.length) (λi=>l.length - i) 0 (Nat.zero_le _) ?_
 intro i hi
 refine cQ<|sV (aO Z Z)<|sN<|nT<|cS<|cC Z (λhd=>?_)<|λhd=>?_
 .have hlt:i<l.length:=Zx
  obtain ⟨b,o,cap2,d,f,pa,pc,c2,fa,fc,j2,hv2,hrd,hP,hone⟩:=ul hv<|Zy hlt
  have hkt:=Am hlt
  unfold sJ at hkt
  simp only at hkt
  refine cK<|xT<|cS<|cB<|cQ<|sM Z<|sV (vI (k:=i) (congrArg some hv2) Z rE Z hlt Z)<|sV (af Z gU Z hrd) ?_
  refine au oU λb5=>?_
  refine sA Z<|ai Z Z mP Z hone ?_
  refine sK [3,4,5,9,10,11] Z<|cQ<|sM Z<|sV (vF Z dR Z)<|sV (vY Z ld9) ?_
  refine sV (d9 Z Z gW oN slq) ?_
  refine sM Z<|sV (ah Z Z)<|sV (ah Z Z)<|sA Z<|sA Z<|sK [3,4,5,7,9,10,11] Z<|cQ<|sM Z<|sV (bg Z)<|sK [3,4,5,9,10,11,24] Z<|cC Z (λhq=>?_)<|λhq=>?_
  .have hn:(bR (bN<|l.take i) (l[i]).name).isSome=false:=Zu
   rw [hn] at hkt
   simp only [Bool.false_eq_true,if_false] at hkt
   refine cR<|sM Z<|sV (vF Z dR Z)<|sV (vY Z ld9) ?_
   refine sM Z<|dB Z Z Z gW slq ?_
   refine sN<|nK [3,9,10,11] Z<|ax<|xB<|xT<|cR<|sV (aI Z Z Z0)<|sM Z<|sN<|nK [3,9,10,11] Z<|ax ?_
   rw [<- hkt]
   refine aL (i+1) hlt (by show _ - _<_ - _; omega)
  .have hn:(bR (bN<|l.take i) (l[i]).name).isSome=true:=Zu
   rw [hn] at hkt
   simp only [if_true] at hkt
   refine cK<|xB<|xT<|cR<|sV (aI Z Z Z0)<|sM Z<|sN<|nK [3,9,10,11] Z<|ax ?_
   rw [<- hkt]
   refine aL (i+1) hlt (by show _ - _<_ - _; omega)
 .have hil:i=l.length:=by
   have:¬ i<l.length:=Zx
   omega
  subst hil
  rw [List.take_length]
  refine aB<|xE<|xE<|xY<|xT<|cQ<|sM Z<|sA Z<|sK [2] Z<|cT ?_
  exact aj Z ⟨b8,Z,Z⟩ sbq
end
theorem gM {P:Program} {e:Env} {h:SH} {o:Op} {ty:TypeId} {u u':Value} (hu:u=u') (hv:Vop P e h o ty u):Vop P e h o ty u':=hu ▸ hv
theorem Dj {c:Cx} {ex:Exit} {Q:Exit->Act->World->Prop} {e:Env} {h k:SH} (p:h.Perm k) (hx:Xt c ex Q e k):Xt c ex Q e h:=jq (λ_ hh=>Holds.perm p hh) hx
theorem Yc.frame {P:Program} {l:Nat} {args:Array Value} {hf:SH} {R:Value->SH->Prop} (h:Yc P l args hf R) (r:Res):Yc P l args (r::hf) (λv h'=>∃ k,h'=r::k/\R v k):=λhr w hh=>by
 have h1:Holds w (hf++(r::hr)):=hh.perm (List.perm_middle (l₁ := hf)).symm
 exact jg (λv w' ⟨k,hR,hH,hS⟩=>⟨r::k,⟨k,Z,hR⟩,hH.perm (List.perm_middle (l₁ := k)),hS⟩)<|h (r::hr) w h1
theorem Yc.mono {P:Program} {l:Nat} {args:Array Value} {hf:SH} {R R':Value->SH->Prop} (h:Yc P l args hf R) (hr:∀ v k,R v k->R' v k):Yc P l args hf R':=λx w hh=>jg (λv w' ⟨k,h1,h2,h3⟩=>⟨k,hr v k h1,h2,h3⟩)<|h x w hh
theorem rR (l:Sys) (c:Nm):(bR (bN l) c).isSome=isC l c:=by
 rw [uq]
 unfold isC
 cases h:idx l c with
 | none=>rw [(oW).2 h]; rfl
 | some i=>obtain ⟨x,_,hx⟩:=oW.1 i h; rw [hx]; rfl
theorem LB {f:Nm->Bool} {xs:List Nm} {i:Nat} (hi:i<xs.length) (h:f xs[i]=true):(xs.filter f)[((xs.take i).filter f).length]? = some xs[i]/\((xs.take (i+1)).filter f).length=((xs.take i).filter f).length+1:=by
 have h1:xs=xs.take i++xs[i]::xs.drop (i+1):=by rw [List.getElem_cons_drop,List.take_append_drop]
 constructor
 .have h2:xs.filter f=(xs.take i).filter f++xs[i]::(xs.drop (i+1)).filter f:=by
   conv=>lhs; rw [h1]
   rw [List.filter_append,List.filter_cons_of_pos h]
  rw [h2,List.getElem?_append_right (Nat.le_refl _)]
  simp
 .rw [List.take_succ_eq_append_getElem hi,List.filter_append,List.filter_cons_of_pos h]; simp
theorem Gm {f:Nm->Bool} {xs:List Nm} {i:Nat} (hi:i<xs.length) (h:f xs[i]=false):((xs.take (i+1)).filter f).length=((xs.take i).filter f).length:=by
 rw [List.take_succ_eq_append_getElem hi,List.filter_append,List.filter_cons_of_neg (by rw [h]; decide)]; simp
def seqv (b1 b2:Nat):Value:=.func (.func 242) #[] #[.pointer (some ⟨b1,0,none⟩),.pointer (some ⟨b2,0,none⟩)]
section
variable {S:Res} {v:Value} {l:Sys}
theorem of_ct (hv:mQ S v l) (hl:l.length<=1099511627776):Ct prog 166 #[v] [S] λu h'=>∃ mb,u = .agg #[v,.map (some mb)]/\h'=[mps mb (bN l),S]:=by
 obtain ⟨a,cap,rfl,_⟩:=id hv
 refine aJ (n:=7) func166 Z Z (len Z) λhr w0=>?_
 refine cQ (au tL λb2=>?_)
 refine sN<|nT<|cQ<|sM Z<|sM Z<|aH Z Z en138 Z (Gl hv hl) ?_
 rintro u h' ⟨mb,rfl,rfl⟩
 refine sV (aP (cells:=[.slice a l.length cap,.map (some mb)]) Z<|λ_=>Zz) ?_
 refine ai Z Z oL Z Z ?_
 refine sK [2] Z<|cT ?_
 exact bM (.cellN Z ll Z slq .nil) ⟨mb,Z,Z⟩ sbr
theorem kJ {mb:Nat} {c:Nm} (hv:v.oneCell'=true):Ct prog 178 #[.agg #[v,.map (some mb)],sv c] [] λu h'=>∃ b1 b2,u=seqv b1 b2/\h'=[pt b1 (cl [v,.map (some mb)] 164),pt b2 (cl [sv c] 9)]:=by
 refine aJ (n:=6) func178 Z Z (len Z) λhr w0=>?_
 refine cQ (aV Z Z λb2=>?_)
 refine aV Z Z λb3=>?_
 refine sA Z<|sK [2,3,4] Z<|cQ<|sV (bX Z Z)<|sA Z<|sK [4] Z<|cT ?_
 exact aj Z ⟨b2,b3,Z,Z⟩ sbq
theorem Gn {σ : Type} {b1 b2 mb yl : Nat} {c : Nm} (Inv : σ -> SH) (Φ : Nat -> σ -> Prop) (Stop : Nat -> SH -> Prop) (s0 : σ) (h0 : Φ 0 s0) (hv : mQ S v l) (hp : ∀ x ∈ l, x.parents.length <= 1099511627776)
  (hy:∀ (k:Nat) (s : σ) (p:Nm),(par l c)[k]? = some p -> Φ k s->Yc prog yl #[sv p] (S::mps mb (bN l)::Inv s) λu h'=>(u = .bool true/\∃ s',Φ (k+1) s'/\h'=S::mps mb (bN l)::Inv s')\/(u = .bool false/\∃ t,h'=S::mps mb (bN l)::t/\Stop k t)) :
  Ct prog 242 #[.func (.yield yl) #[] #[],.pointer (some ⟨b1,0,none⟩),.pointer (some ⟨b2,0,none⟩)] (pt b1 (cl [v,.map (some mb)] 164)::pt b2 (cl [sv c] 9)::S::mps mb (bN l)::Inv s0) λu h'=>u = .tuple #[] /\
   ((∃ s,Φ (par l c).length s/\h'=pt b1 (cl [v,.map (some mb)] 164)::pt b2 (cl [sv c] 9)::S::mps mb (bN l)::Inv s)\/∃ k t,Stop k t/\h'=pt b1 (cl [v,.map (some mb)] 164)::pt b2 (cl [sv c] 9)::S::mps mb (bN l)::t):=by
 obtain ⟨a,cap,rfl,_⟩:=id hv
 refine aJ (n:=47) func242 Z Z (len Z) λhr w0=>?_
 refine cQ<|sV (vF Z EF Z)<|sV (vY Z lh) ?_
 refine sV (vY Z ld9) ?_
 refine sV (d9 Z Z gW oN slq) ?_
 refine sM Z<|sV (ah Z Z)<|sV (ah Z Z)<|sA Z<|sA Z<|sK [0,1,4,5] Z<|cS<|cQ<|sM Z<|sV (bg Z)<|sK [0,1,4,18] Z<|cC Z (λhd=>?_)<|λhd=>?_
 .have hx:isC l c=false:=by rw [<- rR]; simpa using hd
  have hpn:par l c=[]:=by
   cases h:par l c with
   | nil=>rfl
   | cons p t=>have:=tQ (l:=l) (c:=c) (p:=p) (by rw [h]; simp); rw [hx] at this; cases this
  refine cT<|xR ?_
  exact aj Z ⟨Z,.inl ⟨s0,by rw [hpn]; exact h0,Z⟩⟩ sbq
 .have hx:isC l c=true:=by rw [<- rR]; simpa using hd
  obtain ⟨k,hk⟩:∃ k,idx l c=some k:=by
   cases h:idx l c with
   | some k=>exact ⟨k,rfl⟩
   | none=>unfold isC at hx; rw [oW.2 h] at hx; cases hx
  obtain ⟨x,hxi,hf⟩:=oW.1 k hk
  have hkl:=(List.getElem?_eq_some_iff.1 hxi).1
  have hpar:par l c=x.parents.filter (isC l):=by unfold par pars; rw [hf]; rfl
  have hlk:bR (bN l) c=some (.int .i64 k):=by rw [uq,hk]; rfl
  have hpl:=hp x<|List.mem_of_getElem? hxi
  obtain ⟨b,o,cap2,d,f,pa,pc,c2,fa,fc,j2,hv2,hrd,hP,hone⟩:=ul hv hxi
  rw [hlk]
  refine cK<|xT<|cQ<|sV (vF Z EE Z)<|sV (vY Z ld22) ?_
  refine sM Z<|sV (vI (k:=k) (congrArg some hv2) Z rE Z hkl Z)<|sV (vF Z eP Z)<|sV (vY Z lD) ?_
  refine sV (aC Z underlying39)<|sM Z<|sK [0,1,24,25,26] Z<|cB<|aY (σ := Nat × σ) (λq=>[(0,.func (.yield yl) #[] #[]),(1,.pointer (some ⟨b1,0,none⟩)),(24,.slice pa x.parents.length pc),(25,.int .i64 x.parents.length),(26,.int .i64 (q.1:Nat))]) (λq=>pt b1 (cl [.slice a l.length cap,.map (some mb)] 164)::pt b2 (cl [sv c] 9)::S::mps mb (bN l)::(Inv q.2++hr)) (λq=>q.1<=x.parents.length /\ Φ ((x.parents.take q.1).filter<|isC l).length q.2) (λq=>x.parents.length - q.1) (0,s0) ⟨Nat.zero_le _,h0⟩ ?_
  rintro ⟨i,s⟩ ⟨hi,hΦ⟩
  simp only at hi hΦ
  dsimp only
  refine cQ<|sV (aO Z Z)<|sN<|nT<|cS<|cC Z (λhd2=>?_)<|λhd2=>?_
  .have hlt:i<x.parents.length:=Zw
   obtain ⟨pb,po,pcap,a1,c1,d1,e1,f1,hpv,hprd,hpone⟩:=IW hP<|Zy hlt
   refine cK<|xT<|cS<|cB<|cQ<|sV (vI (k:=i) (congrArg some hpv) Z lY Z hlt Z)<|sV (af Z oP Z hprd) ?_
   refine au vO λb7=>?_
   refine ai Z Z qU Z hpone ?_
   refine sK [0,1,7,24,25,26] Z<|cQ<|sV (vF Z EF Z)<|sV (vY Z lh) ?_
   refine sV (vF Z gV Z)<|sV (vY Z ld9) ?_
   refine sV (d9 Z Z gW oN slq) ?_
   refine sM Z<|sV (ah Z Z)<|sV (ah Z Z)<|sA Z<|sA Z<|sK [0,1,7,9,24,25,26] Z<|cS ?_
   rw [rR]
   cases hc:isC l x.parents[i]
   .refine cR<|sM Z<|sM Z<|aF Z Z Z ?_
    iterate 4 refine aF rfl rfl rfl ?_
    refine sV (vP Z Z)<|sK [0,1,24,25,26,45] Z<|aG Z ?_
    refine cK<|xB<|xT<|cR<|sV (aI Z Z Z0)<|sM Z<|sN<|nK [0,1,24,25,26] Z<|ax ?_
    refine aL (i+1,s) ⟨hlt,by rw [Gm hlt hc]; exact hΦ⟩ (by show _ - _<_ - _; omega)
   .obtain ⟨q1,q2⟩:=LB hlt hc
    refine cR<|sM Z<|sM Z<|sG Z Z (vM Z)<|sG Z Z (vF Z gV Z)<|sG Z Z (vY Z ld9) ?_
    refine ve (gd:=39) (.inr ⟨_,_,Z,Z,Z⟩) Z Z (hy _ s _ (by rw [hpar]; exact q1) hΦ) (Pk.of (hr:=pt b7 (cl [sv x.parents[i],a1,c1,d1,e1,f1] 88)::pt b1 (cl [.slice a l.length cap,.map (some mb)] 164)::pt b2 (cl [sv c] 9)::hr)<|by exact List.perm_append_comm_assoc [pt b7 (cl [sv x.parents[i],a1,c1,d1,e1,f1] 88),pt b1 (cl [.slice a l.length cap,.map (some mb)] 164),pt b2 (cl [sv c] 9)] (S::mps mb (bN l)::Inv s) hr) (ltn Z) ?_
    rintro u h' (⟨rfl,s',h1,rfl⟩ | ⟨rfl,t,rfl,h1⟩)
    .refine sG Z Z (bg Z)<|sV (vQ Z Z)<|sK [0,1,24,25,26,45] Z<|aG Z ?_
     refine cK<|xB<|xT<|cR<|sV (aI Z Z Z0)<|sM Z<|sN<|nK [0,1,24,25,26] Z<|ax<|Dj (k:=pt b7 (cl [sv x.parents[i],a1,c1,d1,e1,f1] 88)::pt b1 (cl [.slice a l.length cap,.map (some mb)] 164)::pt b2 (cl [sv c] 9)::S::mps mb (bN l)::(Inv s'++hr)) (by exact List.perm_append_comm_assoc (S::mps mb (bN l)::Inv s') [pt b7 (cl [sv x.parents[i],a1,c1,d1,e1,f1] 88),pt b1 (cl [.slice a l.length cap,.map (some mb)] 164),pt b2 (cl [sv c] 9)] hr) ?_
     refine aL (i+1,s') ⟨hlt,by rw [q2]; exact h1⟩ (by show _ - _<_ - _; omega)
    .refine sG Z Z (bg Z)<|sV (vQ Z Z)<|sK [0,1,24,25,26,45] Z<|aQ Z ?_
     refine cT<|xW<|xR<|xR<|xW<|Dj (k:=pt b7 (cl [sv x.parents[i],a1,c1,d1,e1,f1] 88)::pt b1 (cl [.slice a l.length cap,.map (some mb)] 164)::pt b2 (cl [sv c] 9)::S::mps mb (bN l)::(t++hr)) (by exact List.perm_append_comm_assoc (S::mps mb (bN l)::t) [pt b7 (cl [sv x.parents[i],a1,c1,d1,e1,f1] 88),pt b1 (cl [.slice a l.length cap,.map (some mb)] 164),pt b2 (cl [sv c] 9)] hr) ?_
     exact aj Z ⟨Z,.inr ⟨_,t,h1,Z⟩⟩ sbq
  .have hil:i=x.parents.length:=by
    have:¬ i<x.parents.length:=Zw
    omega
   subst hil
   rw [List.take_length,<- hpar] at hΦ
   refine aB<|xE<|xE<|xY ?_
   exact xV Z ⟨Z,.inl ⟨s,hΦ,Z⟩⟩ sbq
end
def Col (m:List (Bs×Value)) (o G:List Nm):Prop:=∀ x,bR m x=if x∈o then some (.int .i64 2) else if x∈G then some (.int .i64 1) else none
theorem Col.grey {m:List (Bs×Value)} {o G:List Nm} (h:Col m o G) {c:Nm} (hc:c ∉ o):Col (eU m c (.int .i64 1)) o (c::G):=λx=>by
 rw [oJ,h x]
 by_cases hx:x=c
 .subst hx; rw [if_pos rfl,if_neg hc,if_pos (by simp)]
 .rw [if_neg hx]; simp [hx]
theorem Col.black {m:List (Bs×Value)} {o G:List Nm} {c:Nm} (h:Col m o (c::G)):Col (eU m c (.int .i64 2)) (o++[c]) G:=λx=>by
 rw [oJ,h x]
 by_cases hx:x=c
 .subst hx; rw [if_pos rfl,if_pos (by simp)]
 .rw [if_neg hx]; simp [hx]
def visV (b5 b2 b7 b6:Nat):Value:=.func (.func 177) #[] #[.pointer (some ⟨b5,0,none⟩),.pointer (some ⟨b2,0,none⟩),.pointer (some ⟨b7,0,none⟩),.pointer (some ⟨b6,0,none⟩)]
def visS (S:Res) (v:Value) (l:Sys) (b5 b2 b7 b6 mb mc:Nat) (q:List (Bs×Value)×Value×List Nm):SH :=
 [pt b5 (cl [.map (some mc)] 162),pt b2 (cl [v,.map (some mb)] 164),pt b7 (cl [visV b5 b2 b7 b6] 256),mps mc q.1,pt b6 (cl [q.2.1] 40),NR q.2.1 q.2.2,S,mps mb (bN l)]
section
variable {S:Res} {v:Value} {l:Sys}
theorem NS {b5 b2 b7 b6 mb mc : Nat} (hv : mQ S v l) (hp : ∀ x ∈ l, x.parents.length <= 1099511627776) (hl : l.length <= 1099511627776) (ha : gT l) : ∀ (f : Nat) (c : Nm) (m : List (Bs × Value)) (w : Value) (o G : List Nm), rk l c < f -> isC l c = true -> w.oneCell' = true -> Tp l o -> (∀ x ∈ o, isC l x = true) -> Col m o G -> (∀ g ∈ G, has l c g = false) ->
  Ct prog 177 #[sv c,.pointer (some ⟨b5,0,none⟩),.pointer (some ⟨b2,0,none⟩),.pointer (some ⟨b7,0,none⟩),.pointer (some ⟨b6,0,none⟩)] (visS S v l b5 b2 b7 b6 mb mc (m,w,o)) λu h'=>∃ m' w',u = .tuple #[]/\w'.oneCell'=true/\Col m' (vis l f o c) G/\h'=visS S v l b5 b2 b7 b6 mb mc (m',w',vis l f o c):=by
 obtain ⟨a,cap,rfl,_⟩:=id hv
 intro f
 induction f with
 | zero=>intro c m w o G h; omega
 | succ f ihf =>
  intro c m w o G hf hcC hw ho hoC hm hG
  have hlk:=hm c
  have hcG:c ∉ G:=λhg=>by have:=hG c hg; rw [lU] at this; cases this
  by_cases hc:c∈o
  .rw [if_pos hc] at hlk
   have hvis:vis l (f+1) o c=o:=by rw [vis,if_pos Zm]
   rw [hvis]
   refine rC (n:=26) func177 Z Z (len Z) λhr w0=>?_
   unfold visS
   dsimp only
   refine cS<|cQ<|sV (vY Z lh) ?_
   refine sM Z<|sV (gM (show (bR m c).getD (.int .i64 0) = .int .i64 2 by rw [hlk]; rfl)<|bP Z Z gW oN slq) ?_
   refine sV (bT Z Z)<|sK [0,1,2,3,4,10] Z<|aQ Z ?_
   refine cT<|xR ?_
   exact kv (bs:=[]) Z Z ⟨m,w,Z,hw,hm,Z⟩ sbq
  .rw [if_neg hc, if_neg hcG] at hlk
   refine rC (n:=26) func177 Z Z (len Z) λhr w0=>?_
   unfold visS
   dsimp only
   refine cS<|cQ<|sV (vY Z lh) ?_
   refine sM Z<|sV (gM (show (bR m c).getD (.int .i64 0) = .int .i64 0 by rw [hlk]; rfl)<|bP Z Z gW oN slq) ?_
   refine sV (bT Z Z)<|sK [0,1,2,3,4,10] Z<|aG Z ?_
   refine cK<|xT<|cQ<|sV (vY Z lh) ?_
   refine sM Z<|dB Z Z Z gW slq ?_
   refine sK [0,1,2,3,4] Z<|cS<|cQ ?_
   have hvis:vis l (f+1) o c=(par l c).foldl (vis l f) o++[c]:=by rw [vis,if_neg Zm]
   have hm1:=hm.grey hc
   refine sV (af Z ll Z ag) ?_
   refine sM Z<|aH Z Z Gf Z (kJ Z) ?_
   rintro u h' ⟨c1,c2,rfl,rfl⟩
   refine sK [0,1,3,4,15] Z<|cB ?_
   simp only [lC,lN]
   unfold seqv
   refine ji Z Gh λyl db rec hst hpe hps hasg hbo hkn2=>?_
   refine ⟨_,Ct.perm (Gn (σ := List (Bs×Value)×Value×List Nm) (b1:=c1) (b2:=c2) (mb:=mb) (yl:=yl) (c:=c) (λq=>pt yl (.loop rec)::pt db (.deferred<|some [])::pt b5 (cl [.map (some mc)] 162)::pt b2 (cl [.slice a l.length cap,.map (some mb)] 164)::pt b7 (cl [visV b5 b2 b7 b6] 256)::mps mc q.1::pt b6 (cl [q.2.1] 40)::NR q.2.1 q.2.2::hr)
    (λk q=>q.2.1.oneCell'=true/\Col q.1 q.2.2 (c::G)/\q.2.2=((par l c).take k).foldl (vis l f) o/\Tp l q.2.2/\∀ x∈q.2.2,isC l x=true) (λ_ _=>False) (eU m c (.int .i64 1),w,o) ⟨hw,hm1,rfl,ho,hoC⟩ hv hp ?_) ?_,?_⟩
   .rintro k ⟨m2, w2, o2⟩ p hk ⟨hw2, hm2, ho2, hT2, hC2⟩
    simp only at hw2 hm2 ho2 hT2 hC2
    have hpm:=List.mem_of_getElem? hk
    have hrk:=iJ ha hpm
    refine Yc.perm (rz (n:=26) (rec:=rec) (args:=[sv p]) (hf:=pt db (.deferred<|some [])::pt b5 (cl [.map (some mc)] 162)::pt b2 (cl [.slice a l.length cap,.map (some mb)] 164)::pt b7 (cl [visV b5 b2 b7 b6] 256)::mps mc m2::pt b6 (cl [w2] 40)::NR w2 o2::S::mps mb (bN l)::hr) (by rw [hps]; rfl) hkn2 (by rw [hps]; decide) ?_) (by exact (by repeat (first | exact Pm.refl | refine Pm.cons slq ?_):Pm _ _).perm)
    intro hr2 w1
    rw [hasg,hps,hbo]
    simp only [lC,lN]
    have hih:=ihf p m2 w2 o2 (c::G) (by omega) (kr hpm) hw2 hT2 hC2 hm2 (λg hg=>by
     rcases List.mem_cons.1 hg with rfl | hg
     .exact ha g p hpm
     .cases hh:has l p g with
      | false=>rfl
      | true=>have:=hG g hg; rw [oD (sw hpm) hh] at this; cases this)
    obtain ⟨hs1,hs2⟩:=kz ha f p o2 (by omega) hT2
    unfold visS at hih
    dsimp only at hih
    refine cR<|sA Z<|sN<|nK [3,6] Z<|ax<|lW Z slq (by first | rfl | assumption) ?_
    refine cB<|cR<|sV (vY Z ld256) ?_
    refine sM Z<|aH Z Z en177 Z (hih) ?_
    rintro u h' ⟨m3,w3,rfl,hw3,hm3,rfl⟩
    simp only [lC,lN]
    refine sN<|nK [] Z<|ax<|xB<|dI slq (.inl ⟨Z,(m3,w3,vis l f o2 p),⟨hw3,hm3,?_,hs1,λx hx=>?_⟩,Z⟩) ?_
    .obtain ⟨hkl,hke⟩:=List.getElem?_eq_some_iff.1 hk
     rw [List.take_succ_eq_append_getElem hkl,List.foldl_append,<- ho2,hke]; rfl
    .rcases (hs2 x).1 hx with hx | hx
     .exact hC2 x hx
     .exact sD (kr hpm) hx
    .rw [dJ hst hpe]
     exact sbq
   .exact (by repeat (first | exact Pm.refl | refine Pm.cons slq ?_):Pm _ _).perm
   .rintro u h' ⟨rfl, (⟨⟨m2, w2, o2⟩, ⟨hw2, hm2, ho2, hT2, hC2⟩, rfl⟩ | ⟨_, _, hfalse, _⟩)⟩
    .simp only at hw2 hm2 ho2 hT2 hC2
     refine ⟨rec,_,slq,(by rw [hst]; simp),?_⟩
     rw [hpe]
     dsimp only
     rw [List.take_length] at ho2
     have hlen:o2.length<=l.length:=by
      have:=aN (b:=nms l) hT2.nodup λx hx=>fV.1<|hC2 x hx
      simpa [nms] using this
     rw [hvis,<- ho2]
     refine xB<|xT<|cQ<|sV (vY Z lh) ?_
     refine sM Z<|dB Z Z Z gW slq ?_
     refine sK [0,4] Z<|cR<|sV (vY Z gq) ?_
     refine sM Z (ak (cells:=[sv c]) Z underlying40 gp Z Z Zz (ltn Z) λb24=>?_)
     refine eG [nC c] Z Z underlying40 gp Z (by decide) slq (by simp [nC]) Z (λj u2 hu2=>bV<|bZ<|by simpa [nC] using hu2) (by simp [nC,Value.oneCell']) (by simp; omega) (by simp; omega) (ltn Z) λw3 hw3 _=>?_
     rw [show o2.map nC++[nC c]=(o2++[c]).map nC by simp]
     refine bi Z Z yI ?_
     refine sN<|nK [] Z<|ax ?_
     exact xt_endM (bs:=[db]) Z Z ⟨eU m2 c (.int .i64 2),w3,Z,hw3,hm2.black,Z⟩ sbq
    .exact hfalse.elim
end
structure Fine (l:Sys):Prop where
 len:l.length<=900000
 few:∀ x∈l,x.parents.length<=1099511627776
theorem Right.fine {l:Sys} (h:Right l):Fine l:=⟨by have:=h.len; omega,λx hx=>by have:=h.few x hx; omega⟩
section
variable {S:Res} {v:Value} {l:Sys}
theorem Gp {mb:Nat} (hv:mQ S v l) (hF:Fine l) (ha:gT l) {c:Nm} (hc:isC l c=true):Ct prog 103 #[.agg #[v,.map (some mb)],sv c] [S,mps mb (bN l)] λu h'=>u.oneCell'=true/\h'=[NR u (above l c),S,mps mb (bN l)]:=by
 obtain ⟨a,cap,rfl,_⟩:=id hv
 refine aJ (n:=14) func103 Z Z (len Z) λhr w0=>?_
 refine dY (dn 9 1)<|cQ (aV Z Z λb2=>?_)
 refine sA Z<|sK [1,2,4] Z<|cQ (fq (ltn Z) λb8=>?_)
 refine au al162 λb5=>?_
 refine bi Z Z sz162 ?_
 refine sK [1,2,4,5] Z<|cQ (au al40 λb6=>?_)
 refine sN<|nT<|cQ (au al256 λb7=>?_)
 refine sN<|nT<|cQ<|sV (bX Z Z)<|bi Z Z sz256 ?_
 refine sK [1,4,6,7] Z<|cQ<|sV (vY Z ld256) ?_
 refine sM rfl<|aH rfl rfl en177 rfl (NS (b5:=b5) (b2:=b2) (b7:=b7) (b6:=b6) (mb:=mb) (mc:=b8) hv hF.few (Nat.le_trans hF.len<|by decide) ha (l.length+1) c [] (.slice none 0 0) [] [] (uV l c) hc rfl .nil (λx hx=>by cases hx) (λx=>rfl)<|λg hg=>by cases hg) ?_
 rintro u h' ⟨m',w',rfl,hw,hm,rfl⟩
 unfold visS
 simp only [lC,lN]
 refine sK [4,6] Z<|cQ<|sV (vY Z gq) ?_
 refine sA Z<|sK [4] Z<|cT ?_
 exact aj Z ⟨hw,Z⟩ sbq
def ixS (xs:List Nm) (c:Nm):Int:=match xs.findIdx? (· == c) with | some i=>i | none => -1
theorem ixS_has (xs:List Nm) (c:Nm):decide (0<=ixS xs c)=xs.contains c:=by
 unfold ixS
 cases h:xs.findIdx? (· == c) with
 | none =>
  rw [List.findIdx?_eq_none_iff] at h
  cases hc:xs.contains c with
  | false=>rfl
  | true =>
   rw [List.contains_iff_mem] at hc
   have:=h c hc
   simp at this
 | some i =>
  show decide (0<=(i:Int))=_
  obtain ⟨hi,h1,_⟩:=List.findIdx?_eq_some_iff_getElem.1 h
  have h1:xs[i]=c:=Zf
  rw [show xs.contains c=true by rw [List.contains_iff_mem,<- h1]; exact List.getElem_mem hi]
  exact decide_eq_true<|by omega
theorem NT {xs:List Nm} (hv:wW S v xs) (c:Nm) (hl:xs.length<=1099511627776):Reads prog 104 #[v,sv c] [S] (.int .i64 (ixS xs c)):=by
 obtain ⟨a,cap,rfl,_⟩:=id hv
 refine aJ (n:=19) func104 Z Z (len Z) λhr w0=>?_
 refine cQ<|sA Z<|sN<|nT<|cS<|cQ<|sM Z<|sV (aC Z underlying40)<|sM Z<|sK [0,1,4,7,8] Z<|cB<|aY (σ := Nat) (λi=>[(0,.slice a xs.length cap),(1,sv c),(7,.int .i64 xs.length),(8,.int .i64 (i:Nat))]) (λ_=>S::hr) (λi=>i<=xs.length/\∀ (j:Nat) (y:Nm),j<i->xs[j]? = some y->y≠c) (λi=>xs.length - i) 0 ⟨Nat.zero_le _,λj y hj=>by omega⟩ ?_
 rintro i ⟨hi,hne⟩
 refine cQ<|sV (aO Z Z)<|sN<|nT<|cS<|cC Z (λhd=>?_)<|λhd=>?_
 .have hlt:i<xs.length:=Zx
  obtain ⟨b,o,cap2,hv2,hrd⟩:=um hv<|Zy hlt
  refine cK<|xT<|cS<|cB<|cQ<|sM Z<|sA Z<|sK [0,1,5,7,8] Z<|cQ<|sM Z<|sM Z<|sM Z ?_
  refine sV (vI (k:=i) (congrArg some hv2) Z jG Z hlt Z)<|sV (vY Z ld9) ?_
  refine sV (iM Z Z)<|sK [0,1,5,7,8,16] Z<|cC Z (λhe=>?_)<|λhe=>?_
  .have he:xs[i]=c:=by
    have:c=xs[i]:=Zj
    exact this.symm
   refine cQ<|sM Z<|sA Z<|sK [4] Z<|cT<|xW<|xR<|xR<|xW<|xR ?_
   rw [show ixS xs c=(i:Int) by
    unfold ixS
    rw [show xs.findIdx? (· == c)=some i from List.findIdx?_eq_some_iff_getElem.2 ⟨hlt,by simp [he],λj hj=>by simpa using hne j _ hj (Zy (Nat.lt_trans hj hlt))⟩]]
   exact aj Z ⟨Z,Z⟩ sbq
  .have he:xs[i]≠c:=λh=>by rw [h] at he; simp at he
   refine cK<|xB<|xT<|cR<|sV (aI Z Z Z0)<|sM Z<|sN<|nK [0,1,7,8] Z<|ax<|aL (i+1) ⟨hlt,λj y hj hy=>?_⟩ (by show _ - _<_ - _; omega)
   by_cases hji:j=i
   .subst hji; rw [Zy hlt] at hy; cases hy; exact he
   .exact hne j y (by omega) hy
 .refine aB<|xE<|xE<|xY<|xT<|cQ<|sA Z<|sK [4] Z<|cT ?_
  have hil:i=xs.length:=by
   have:¬ i<xs.length:=Zx
   omega
  rw [show ixS xs c = -1 by
   unfold ixS
   rw [show xs.findIdx? (· == c)=none from List.findIdx?_eq_none_iff.2 λx hx=>by
    obtain ⟨j,hj,rfl⟩:=List.getElem_of_mem hx
    simpa using hne j _ (by omega) (Zy hj)]]
  exact aj Z ⟨Z,Z⟩ sbq
theorem fQ {xs:List Nm} (hv:wW S v xs) (c:Nm) (hl:xs.length<=1099511627776):Reads prog 42 #[v,sv c] [S] (.bool (xs.contains c)):=by
 refine aJ (n:=9) func42 Z Z (len Z) λhr w0=>?_
 refine cQ<|sA Z<|sN<|nT<|cQ<|sM Z<|sM Z<|bf Z Z en104 Z (NT hv c hl) ?_
 refine sV (qE Z Z)<|sA Z<|sK [4] Z<|cT ?_
 rw [ixS_has]
 exact aj Z ⟨Z,Z⟩ sbq
theorem oZ (ha:gT l) {c:Nm} (hc:isC l c=true):(above l c).length<=l.length:=by
 obtain ⟨h1,h2⟩:=jT ha c
 have:=aN (b:=nms l) h1.nodup λx hx=>fV.1<|sD hc ((h2 x).1 hx)
 simpa [nms] using this
theorem LC (ha:gT l) (c a:Nm):(above l c).contains a=has l c a:=by
 rw [Bool.eq_iff_iff,List.contains_iff_mem]
 exact (jT ha c).2 a
theorem has_ct {mb:Nat} (hv:mQ S v l) (hF:Fine l) (ha:gT l) {c:Nm} (hc:isC l c=true) (x:Nm):Ct prog 92 #[.agg #[v,.map (some mb)],sv c,sv x] [S,mps mb (bN l)] λu h'=>u = .bool (has l c x)/\h'=[S,mps mb (bN l)]:=by
 obtain ⟨a,cap,rfl,_⟩:=id hv
 have hlen:=oZ ha hc
 have hFl:=hF.len
 refine aJ (n:=12) func92 Z Z (len Z) λhr w0=>?_
 refine cQ (aV Z Z λb3=>?_)
 refine sA Z<|sK [1,2,3,6] Z<|cQ<|sV (af Z ll Z ag) ?_
 refine sM Z<|aH Z Z en103 Z (Gp hv hF ha hc) ?_
 rintro u h' ⟨hu,rfl⟩
 simp only [lC,lN]
 refine ni (r:=NR u<|above l c) slq λhok=>?_
 refine sM Z<|bf Z Z EI Z (fQ (iX hok) x<|by omega) ?_
 refine sA Z<|sK [6] Z<|cT ?_
 rw [LC ha]
 exact aj Z ⟨Z,Z⟩ sbq
end
section
variable {α : Type} (g : α -> Value)
def mvG (F:List (Nm × α)):List (Bs×Value):=F.map λp=>(p.1,g p.2)
theorem lQ (F:List (Nm × α)) (k:Nm):bR (mvG g F) k=(eB F k).map g:=by
 induction F with
 | nil=>rfl
 | cons p t ih =>
  rw [dQ]
  unfold mvG bR at ih ⊢
  rw [List.map_cons,List.find?_cons]
  by_cases h:p.1=k
  .simp [h]
  .have:(p.1 == k)=false:=by simp [h]
   simp only [this,if_neg h]
   exact ih
theorem o5 (F:List (Nm × α)) (k:Nm) (x : α):eU (mvG g F) k (g x)=mvG g (gG F k x):=by
 induction F with
 | nil=>rfl
 | cons p t ih =>
  unfold mvG at ih ⊢
  rw [List.map_cons]
  unfold eU gG
  by_cases h:p.1=k
  .simp [h]
  .rw [if_neg h,if_neg h,ih]; rfl
end
def nV (n:Nat):Value:=.int .i64 ((n:Int)+1)
section
variable {S:Res} {v:Value} {l:Sys}
theorem far_ct {mb:Nat} (hv:mQ S v l) (hF:Fine l) (to:Nm):Ct prog 271 #[.agg #[v,.map (some mb)],sv to] [S,mps mb (bN l)] λu h'=>∃ mf F,u = .map (some mf)/\h'=[mps mf (mvG nV F),S,mps mb (bN l)]/\∀ x,eB F x=gZ l to x:=by
 obtain ⟨a,cap,rfl,_⟩:=id hv
 have hFl:=hF.len
 refine rC (n:=62) func271 Z Z (len Z) λhr w0=>?_
 refine cQ (aV Z Z λb2=>?_)
 refine sA Z<|sK [1,2,4] Z<|cQ (fq (ltn Z) λb14=>?_)
 refine sM Z<|IR Z Z Z gW slq ?_
 refine sM Z (au al162 λb5=>?_)
 refine bi Z Z sz162 ?_
 refine sK [2,4,5] Z<|cS<|cQ (au al4 λb6=>?_)
 refine bi Z Z sz4 ?_
 refine sN<|nT<|cB ?_
 rw [show eU [] to (Value.int .i64 1)=mvG nV [(to,0)] from rfl]
 refine oI<|oH (σ := List (Nm×Nat)×Bool×Nat×List Nat) (λq=>q.2.2.2.map mk) (λq=>[(2,.pointer (some ⟨b2,0,none⟩)),(5,.pointer (some ⟨b5,0,none⟩)),(6,.pointer (some ⟨q.2.2.1,0,none⟩))]) (λq=>Res.star (marks q.2.2.2)::pt q.2.2.1 (cl [.bool q.2.1] 4)::pt b5 (cl [.map (some b14)] 162)::mps b14 (mvG nV q.1)::pt b2 (cl [.slice a l.length cap,.map (some mb)] 164)::S::mps mb (bN l)::hr) (λq=>FarI l to q.1/\(q.2.1=false->∀ c p,p∈par l c->Rel q.1 c p)) (λq=>if q.2.1 then pot l q.1+1 else 0) ([(to,0)],true,b6,[]) ⟨FarI.init l to,λh=>by cases h⟩ rfl ⟨rfl,rfl,rfl,trivial⟩ sbq ?_
 rintro ⟨F0,fl0,b60,bs⟩ ⟨hI0,hdone⟩
 simp only at hI0 hdone
 dsimp only
 refine cS<|cQ<|sV (vY Z ld4) ?_
 refine sN<|nT<|cC Z (λhf=>?_)<|λhf=>?_
 .refine cK<|xT<|cS<|cB<|cQ<|bi Z Z sz4 ?_
  refine sK [2,5,6] Z<|cQ<|sV (vF Z EE Z)<|sV (vY Z ld22) ?_
  refine sV (aC rfl underlying22)<|sM rfl<|sK [2,5,6,19,20,21] rfl<|cB<|oH (σ := Nat×List (Nm×Nat)×Bool×List Nat) (λq=>q.2.2.2.map mk) (λq=>[(2,.pointer (some ⟨b2,0,none⟩)),(5,.pointer (some ⟨b5,0,none⟩)),(6,.pointer (some ⟨b60,0,none⟩)),(19,.slice a l.length cap),(20,.int .i64 l.length),(21,.int .i64 (q.1:Nat))]) (λq=>Res.star (marks q.2.2.2)::pt b60 (cl [.bool q.2.2.1] 4)::pt b5 (cl [.map (some b14)] 162)::mps b14 (mvG nV q.2.1)::pt b2 (cl [.slice a l.length cap,.map (some mb)] 164)::S::mps mb (bN l)::hr) (λq=>q.1<=l.length/\FarI l to q.2.1/\(q.2.2.1=true->pot l q.2.1<pot l F0)/\(q.2.2.1=false->q.2.1=F0/\∀ (j:Nat) (y:Cls),j<q.1->l[j]? = some y->∀ p∈par l y.name,Rel F0 y.name p)) (λq=>l.length - q.1) (0,F0,false,bs) ⟨Nat.zero_le _,hI0,λh=>(by cases h),λ_=>⟨rfl,λj y hj=>by omega⟩⟩ rfl ⟨rfl,rfl,rfl,rfl,rfl,rfl,trivial⟩ sbq ?_
  rintro ⟨i,F,fl,bs2⟩ ⟨hi,hI,hpot,hsame⟩
  simp only at hi hI hpot hsame
  dsimp only
  refine cQ<|sV (aO Z Z)<|sN<|nT<|cS<|cC Z (λhd=>?_)<|λhd=>?_
  .have hlt:i<l.length:=Zx
   obtain ⟨b,o,cap2,d,f,pa,pc,c2,fa,fc,j2,hv2,hrd,hP,hone⟩:=ul hv<|Zy hlt
   have hname:(l[i]).name=(l[i]).name:=rfl
   generalize hcn:(l[i]).name=cn at *
   refine cK<|xT<|cS<|cB<|cQ<|sV (vI (k:=i) (congrArg some hv2) Z rE Z hlt Z)<|sV (af Z gU Z hrd) ?_
   refine au oU λb8=>?_
   refine ai Z Z mP Z hone ?_
   refine sK [2,5,6,8,19,20,21] Z<|cQ<|sV (af Z ll Z ag) ?_
   refine sV (vF Z dR Z)<|sV (vY Z ld9) ?_
   refine aH Z Z Gf Z (kJ Z) ?_
   rintro u h' ⟨n1,n2,rfl,rfl⟩
   refine sK [2,5,6,8,19,20,21,28] Z<|cB ?_
   simp only [lC,lN]
   unfold seqv
   refine ji Z Gh λyl db rec hst hpe hps hasg hbo hkn2=>?_
   refine ⟨_,Ct.perm (Gn (σ := List (Nm×Nat)×Bool) (b1:=n1) (b2:=n2) (mb:=mb) (yl:=yl) (c:=cn) (λq=>pt yl (.loop rec)::pt db (.deferred<|some [])::pt b8 (cl [sv cn,d,f,.slice pa l[i].parents.length pc,c2,.slice fa l[i].feats fc,j2] 44)::Res.star (marks bs2)::pt b60 (cl [.bool q.2] 4)::pt b5 (cl [.map (some b14)] 162)::mps b14 (mvG nV q.1)::pt b2 (cl [.slice a l.length cap,.map (some mb)] 164)::hr)
    (λk q=>FarI l to q.1/\(q.2=true->pot l q.1<pot l F0)/\(q.2=false->q.1=F0/\(∀ (j:Nat) (y:Cls),j<i->l[j]? = some y->∀ p∈par l y.name,Rel F0 y.name p)/\∀ p∈(par l cn).take k,Rel F0 cn p)) (λ_ _=>False) (F,fl) ⟨hI,hpot,λh=>⟨(hsame h).1,(hsame h).2,λp hp=>by simp at hp⟩⟩ hv hF.few ?_) ?_,?_⟩
   .rintro k ⟨F2, fl2⟩ p hk ⟨hI2, hpot2, hsame2⟩
    simp only at hI2 hpot2 hsame2
    have hpm:=List.mem_of_getElem? hk
    have htk:∀ q,q∈(par l cn).take (k+1)->q∈(par l cn).take k\/q=p:=λq hq=>by
     obtain ⟨hkl,hke⟩:=List.getElem?_eq_some_iff.1 hk
     rw [List.take_succ_eq_append_getElem hkl,hke] at hq
     simpa using hq
    refine Yc.perm (rz (n:=62) (rec:=rec) (args:=[sv p]) (hf:=pt db (.deferred<|some [])::pt b8 (cl [sv cn,d,f,.slice pa l[i].parents.length pc,c2,.slice fa l[i].feats fc,j2] 44)::Res.star (marks bs2)::pt b60 (cl [.bool fl2] 4)::pt b5 (cl [.map (some b14)] 162)::mps b14 (mvG nV F2)::pt b2 (cl [.slice a l.length cap,.map (some mb)] 164)::S::mps mb (bN l)::hr) (by rw [hps]; rfl) hkn2 (by rw [hps]; decide) ?_) (by exact (by repeat (first | exact Pm.refl | refine Pm.cons slq ?_):Pm _ _).perm)
    intro hr2 w1
    rw [hasg,hps,hbo]
    simp only [lC,lN]
    refine cR<|sA Z<|sN<|nK [5,6,8,9] Z<|ax<|lW Z slq (by first | rfl | assumption) ?_
    refine cB<|cQ<|sV (vY Z lh) ?_
    refine sM Z ?_
    cases hp1:eB F2 p
    .refine sV (gM (show Value.tuple #[(bR (mvG nV F2) p).getD (.int .i64 0),.bool (bR (mvG nV F2) p).isSome] = .tuple #[.int .i64 0,.bool false] by rw [lQ,hp1]; rfl)<|d9 Z Z gW oN slq) ?_
     refine sM Z<|sV (ah Z Z)<|sV (ah Z Z)<|sA Z<|sA Z<|sK [5,6,8,10,11] Z<|cQ<|sV (vY Z lh) ?_
     refine sV (vF Z dR Z)<|sV (vY Z ld9) ?_
     refine sV (d9 Z Z gW oN slq) ?_
     refine sM Z<|sV (ah Z Z)<|sV (ah Z Z)<|sA Z<|sA Z<|sK [5,6,8,10,11,12,13] Z<|cQ<|sM Z<|sM Z<|aF Z Z Z ?_
     iterate 2 refine aF rfl rfl rfl ?_
     refine cZ Z Z ?_
     refine cZ Z Z ?_
     refine cZ Z Z ?_
     refine cZ Z Z ?_
     refine aF Z Z Z ?_
     refine sV (vP Z Z)<|sK [5,6,8,10,53] Z<|aG Z ?_
     refine cK<|xB<|dI slq (.inl ⟨Z,(F2,fl2),⟨hI2,hpot2,λh=>⟨(hsame2 h).1,(hsame2 h).2.1,λq hq=>?_⟩⟩,Z⟩) ?_
     .obtain ⟨he,_,h3⟩:=hsame2 h
      rcases htk q hq with hq | rfl
      .exact h3 q hq
      .intro n hn
       rw [<- he,hp1] at hn; cases hn
     .rw [dJ hst hpe]
      exact sbq
    .rename_i n
     have hn1:=hI2.walk p n hp1
     have hn2:=hI2.len
     refine sV (gM (show Value.tuple #[(bR (mvG nV F2) p).getD (.int .i64 0),.bool (bR (mvG nV F2) p).isSome] = .tuple #[.int .i64 ((n:Int)+1),.bool true] by rw [lQ,hp1]; rfl)<|d9 Z Z gW oN slq) ?_
     refine sM Z<|sV (ah Z Z)<|sV (ah Z Z)<|sA Z<|sA Z<|sK [5,6,8,10,11] Z<|cQ<|sV (vY Z lh) ?_
     refine sV (vF Z dR Z)<|sV (vY Z ld9) ?_
     cases hc1:eB F2 cn
     .refine sV (gM (show Value.tuple #[(bR (mvG nV F2) cn).getD (.int .i64 0),.bool (bR (mvG nV F2) cn).isSome] = .tuple #[.int .i64 0,.bool false] by rw [lQ,hc1]; rfl)<|d9 Z Z gW oN slq) ?_
      refine sM Z<|sV (ah Z Z)<|sV (ah Z Z)<|sA Z<|sA Z<|sK [5,6,8,10,11,12,13] Z<|cQ<|sM Z<|sM Z<|sG Z Z (vM Z)<|sG Z Z (bg Z)<|sG Z Z (vM Z)<|aF Z Z Z ?_
      iterate 3 refine aF rfl rfl rfl ?_
      refine sG Z Z (vQ Z Z)<|sV (vQ Z Z)<|sK [5,6,8,10,53] Z<|aQ Z ?_
      refine cR<|sV (vY Z lh) ?_
      refine sV (vF Z dR Z)<|sV (vY Z ld9) ?_
      refine sM Z<|sV (aI Z Z Z0)<|dB Z Z Z gW slq ?_
      refine bi Z Z sz4 ?_
      refine sN<|nK [] Z<|ax<|xB ?_
      rw [show eU (mvG nV F2) cn (.int .i64 ((n:Int)+1+1))=mvG nV (gG F2 cn (n+1)) from o5 nV F2 cn (n+1)]
      obtain ⟨hI3,hpot3⟩:=hI2.better hpm hp1<|λn' h=>by rw [hc1] at h; cases h
      refine dI slq (.inl ⟨rfl,(gG F2 cn (n+1),true),⟨hI3,λ_=>?_,λh=>by cases h⟩,rfl⟩) ?_
      .show pot l (gG F2 cn (n+1))<pot l F0
       cases hfl:fl2 with
       | true=>have:=hpot2 hfl; omega
       | false=>exact Nat.lt_of_lt_of_eq hpot3 (congrArg (pot l) (hsame2 hfl).1)
      .rw [dJ hst hpe]
       exact sbq
     .rename_i n'
      have hn3:=hI2.walk cn n' hc1
      refine sV (gM (show Value.tuple #[(bR (mvG nV F2) cn).getD (.int .i64 0),.bool (bR (mvG nV F2) cn).isSome] = .tuple #[.int .i64 ((n':Int)+1),.bool true] by rw [lQ,hc1]; rfl)<|d9 Z Z gW oN slq) ?_
      refine sM Z<|sV (ah Z Z)<|sV (ah Z Z)<|sA Z<|sA Z<|sK [5,6,8,10,11,12,13] Z<|cQ<|sM Z<|sM Z<|sG Z Z (vM Z)<|sG Z Z (bg Z)<|sG Z Z (vM Z)<|sG Z Z (vM Z) ?_
      refine sG Z Z (vM Z)<|sG Z Z (aI Z Z Z0)<|sG Z Z (dh Z Z)<|sG Z Z (vP Z Z)<|sV (vQ Z Z)<|sK [5,6,8,10,53] Z<|cC Z (λhb=>?_)<|λhb=>?_
      .have hb:n+1<n':=by
        have:(n:Int)+1+1<(n':Int)+1:=by simpa using hb
        omega
       refine cR<|sV (vY Z lh) ?_
       refine sV (vF Z dR Z)<|sV (vY Z ld9) ?_
       refine sM Z<|sV (aI Z Z Z0)<|dB Z Z Z gW slq ?_
       refine bi Z Z sz4 ?_
       refine sN<|nK [] Z<|ax<|xB ?_
       rw [show eU (mvG nV F2) cn (.int .i64 ((n:Int)+1+1))=mvG nV (gG F2 cn (n+1)) from o5 nV F2 cn (n+1)]
       obtain ⟨hI3,hpot3⟩:=hI2.better hpm hp1<|λm h=>by rw [hc1] at h; cases h; exact hb
       refine dI slq (.inl ⟨rfl,(gG F2 cn (n+1),true),⟨hI3,λ_=>?_,λh=>by cases h⟩,rfl⟩) ?_
       .show pot l (gG F2 cn (n+1))<pot l F0
        cases hfl:fl2 with
        | true=>have:=hpot2 hfl; omega
        | false=>exact Nat.lt_of_lt_of_eq hpot3 (congrArg (pot l) (hsame2 hfl).1)
       .rw [dJ hst hpe]
        exact sbq
      .have hb:n'<=n+1:=by
        have:¬ (n:Int)+1+1<(n':Int)+1:=by simpa using hb
        omega
       refine cK<|xB<|dI slq (.inl ⟨Z,(F2,fl2),⟨hI2,hpot2,λh=>⟨(hsame2 h).1,(hsame2 h).2.1,λq hq=>?_⟩⟩,Z⟩) ?_
       .obtain ⟨he,_,h3⟩:=hsame2 h
        rcases htk q hq with hq | rfl
        .exact h3 q hq
        .intro m hm
         rw [<- he,hp1] at hm
         cases hm
         exact ⟨n',by rw [<- he]; exact hc1,hb⟩
       .rw [dJ hst hpe]
        exact sbq
   .exact (by repeat (first | exact Pm.refl | refine Pm.cons slq ?_):Pm _ _).perm
   .rintro u h' ⟨rfl, (⟨⟨F2, fl2⟩, ⟨hI2, hpot2, hsame2⟩, rfl⟩ | ⟨_, _, hfalse, _⟩)⟩
    .simp only at hI2 hpot2 hsame2
     rw [List.take_length] at hsame2
     refine ⟨rec,_,slq,(by rw [hst]; simp),?_⟩
     rw [hpe]
     dsimp only
     refine xB<|xB<|xT<|cR<|sV (aI Z Z Z0)<|sM Z<|sN<|nK [2,5,6,19,20,21] Z<|ax<|jD slq slq ?_
     refine lK (i+1,F2,fl2,db::bs2) ⟨hlt,hI2,hpot2,λh=>⟨(hsame2 h).1,λj y hj hy=>?_⟩⟩ (by show _ - _<_ - _; omega) Z ⟨Z,Z,Z,Z,Z,Z,trivial⟩ sbq
     obtain ⟨_,h2,h3⟩:=hsame2 h
     by_cases hji:j=i
     .subst hji
      rw [Zy hlt] at hy; cases hy
      rw [hcn]; exact h3
     .exact h2 j y (by omega) hy
    .exact hfalse.elim
  .have hil:i=l.length:=by
    have:¬ i<l.length:=Zx
    omega
   subst hil
   refine aB<|xE<|xE<|xY<|xB<|xT<|cQ<|sV (vY Z ld4) ?_
   refine sK [2,5,6,60] Z<|cR (au al4 λb6=>?_)
   refine bi Z Z sz4 ?_
   refine sN<|nK [2,5,6] Z<|ax ?_
   refine lK (F,fl,b6,bs2) ⟨hI,λh c p hp=>?_⟩ (by
    show (if fl=true then pot l F+1 else 0)<(if fl0=true then pot l F0+1 else 0)
    rw [if_pos hf]
    split
    .rename_i h; have:=hpot h; omega
    .omega) rfl ⟨rfl,rfl,rfl,trivial⟩ sbq
   obtain ⟨rfl,h2⟩:=hsame h
   have hc:=tQ hp
   obtain ⟨j,hj⟩:∃ j,idx l c=some j:=by
    cases hh:idx l c with
    | some j=>exact ⟨j,rfl⟩
    | none=>unfold isC at hc; rw [oW.2 hh] at hc; cases hc
   obtain ⟨x,hx,hfx⟩:=oW.1 j hj
   have hn:=(su hfx).1
   have:=h2 j x (List.getElem?_eq_some_iff.1 hx).1 hx p (by rw [hn]; exact hp)
   rwa [hn] at this
 .have hf2:fl0=false:=by simpa using hf
  refine aB<|xE<|xE<|xY<|xT<|cQ<|sV (vY Z lh) ?_
  refine sA Z<|sK [4] Z<|cT<|Er (bs:=bs) Z Z ⟨b14,F0,Z,Z,hI0.done<|hdone hf2⟩ sbq
end
def cmpI (a b:Int):Int:=if a<b then -1 else if b<a then 1 else 0
def rT (a b:Nm):Int:=if lt a b=true then -1 else if lt b a=true then 1 else 0
def cmpL:List Nm->List Nm->Int
 | [],[]=>0
 | [],_::_ => -1
 | _::_,[]=>1
 | a::x,b::y=>if rT a b≠0 then rT a b else cmpL x y
theorem KQ : ∀ a b : List Nm, decide (cmpL a b < 0) = CS a b
 | [],[]=>rfl
 | [],_::_=>rfl
 | _::_,[]=>rfl
 | a :: x, b :: y => by
  unfold cmpL CS
  have ih:=KQ x y
  unfold rT
  rcases eu a b with h | h | h
  .simp [h]
  .subst h; rw [lt_irrefl]; simp [ih]
  .have h2:=iQ h
   rw [h2,h]
   have:(a == b)=false:=by
    cases hab:a == b with
    | false=>rfl
    | true=>rw [show a=b by simpa using hab,lt_irrefl] at h; cases h
   simp [this]
section
variable {S S':Res} {v v':Value}
theorem KR (a:Int):Reads prog 272 #[.int .i64 a] [] (.bool false):=by
 refine aJ (n:=6) func272 Z Z (len Z) λhr w0=>?_
 refine cQ<|sA Z<|sN<|nT<|cQ<|sM Z<|sM Z<|sV (bT Z Z)<|sA Z<|sK [2] Z<|cT ?_
 rw [show (a != a)=false by simp]
 exact aj Z ⟨Z,Z⟩ sbq
theorem KS (a:Nm):Reads prog 203 #[sv a] [] (.bool false):=by
 refine aJ (n:=6) func203 Z Z (len Z) λhr w0=>?_
 refine cQ<|sA Z<|sN<|nT<|cQ<|sM Z<|sM Z<|sV (pV Z Z)<|sA Z<|sK [2] Z<|cT ?_
 rw [show (!(a == a))=false by simp]
 exact aj Z ⟨Z,Z⟩ sbq
theorem cmpI_ct (a b:Int):Reads prog 228 #[.int .i64 a,.int .i64 b] [] (.int .i64 (cmpI a b)):=by
 unfold cmpI
 refine aJ (n:=20) func228 Z Z (len Z) λhr w0=>?_
 refine cQ<|sA Z<|sN<|nT<|cQ<|sM Z<|bf Z Z en272 Z (KR a) ?_
 refine sA Z<|sK [0,1,4,5] Z<|cQ<|sM Z<|bf Z Z en272 Z (KR b) ?_
 refine sA Z<|sK [0,1,4,5,6] Z<|cS<|cQ<|sM Z<|sK [0,1,4,6,11] Z<|aG Z ?_
 refine cK<|xT<|cS<|cQ<|sM Z<|sK [0,1,4,13] Z<|aG Z ?_
 refine cK<|xT<|cS<|cQ<|sM Z<|sM Z<|sV (aO Z Z)<|sK [0,1,4,16] Z<|cC Z (λh1=>?_)<|λh1=>?_
 .refine cQ<|sA Z<|sK [4] Z<|cT<|xR ?_
  rw [if_pos Zf]
  exact aj Z ⟨Z,Z⟩ sbq
 .rw [if_neg Zf]
  refine cK<|xT<|cS<|cQ<|sM Z<|sM Z<|sV (dh Z Z)<|sK [4,19] Z<|cC Z (λh2=>?_)<|λh2=>?_
  .refine cQ<|sA Z<|sK [4] Z<|cT<|xR ?_
   rw [if_pos Zo]
   exact aj Z ⟨Z,Z⟩ sbq
  .refine cK<|xT<|cQ<|sA Z<|sK [4] Z<|cT ?_
   rw [if_neg Zo]
   exact aj Z ⟨Z,Z⟩ sbq
theorem zk (a b:Nm):Reads prog 126 #[sv a,sv b] [] (.int .i64 (rT a b)):=by
 unfold rT
 refine aJ (n:=20) func126 Z Z (len Z) λhr w0=>?_
 refine cQ<|sA Z<|sN<|nT<|cQ<|sM Z<|bf Z Z en203 Z (KS a) ?_
 refine sA Z<|sK [0,1,4,5] Z<|cQ<|sM Z<|bf Z Z en203 Z (KS b) ?_
 refine sA Z<|sK [0,1,4,5,6] Z<|cS<|cQ<|sM Z<|sK [0,1,4,6,11] Z<|aG Z ?_
 refine cK<|xT<|cS<|cQ<|sM Z<|sK [0,1,4,13] Z<|aG Z ?_
 refine cK<|xT<|cS<|cQ<|sM Z<|sM Z<|sV (v_slss Z Z)<|sK [0,1,4,16] Z<|cC Z (λh1=>?_)<|λh1=>?_
 .refine cQ<|sA Z<|sK [4] Z<|cT<|xR ?_
  rw [if_pos h1]
  exact aj Z ⟨Z,Z⟩ sbq
 .rw [if_neg (show ¬ lt a b=true by rw [show lt a b=false from h1]; decide)]
  refine cK<|xT<|cS<|cQ<|sM Z<|sM Z<|sV (v_sgtr Z Z)<|sK [4,19] Z<|cC Z (λh2=>?_)<|λh2=>?_
  .refine cQ<|sA Z<|sK [4] Z<|cT<|xR ?_
   rw [if_pos (by
    rw [Bool.not_eq_true',Bool.or_eq_false_iff] at h2
    rcases eu a b with h | h | h
    .exact absurd h (by rw [show lt a b=false from h2.1]; decide)
    .rw [h] at h2; simp at h2
    .exact h)]
   exact aj Z ⟨Z,Z⟩ sbq
  .refine cK<|xT<|cQ<|sA Z<|sK [4] Z<|cT ?_
   rw [if_neg (by
    rw [Bool.not_eq_false',Bool.or_eq_true] at h2
    rcases h2 with h2 | h2
    .rw [iQ h2]; decide
    .rw [show a=b by simpa using h2,lt_irrefl]; decide)]
   exact aj Z ⟨Z,Z⟩ sbq
theorem cmpL_ct {xs ys:List Nm} (hv:wW S v xs) (hv':wW S' v' ys) (hl:xs.length<=1099511627776) (hl':ys.length<=1099511627776):Reads prog 229 #[v,v'] [S,S'] (.int .i64 (cmpL xs ys)):=by
 obtain ⟨a,cap,rfl,_⟩:=id hv
 obtain ⟨a',cap',rfl,_⟩:=id hv'
 refine aJ (n:=36) func229 Z Z (len Z) λhr w0=>?_
 refine cQ<|sA Z<|sN<|nT<|cS<|cQ<|sM Z<|sV (aC Z underlying40)<|sM Z<|sN<|nT<|cB<|aY (σ := Nat) (λi=>[(0,.slice a xs.length cap),(1,.slice a' ys.length cap'),(9,.slice a xs.length cap),(10,.int .i64 xs.length),(11,.int .i64 (i:Nat))]) (λ_=>S::S'::hr) (λi=>i<=xs.length/\i<=ys.length/\cmpL xs ys=cmpL (xs.drop i) (ys.drop i)) (λi=>xs.length - i) 0 ⟨Nat.zero_le _,Nat.zero_le _,Z⟩ ?_
 rintro i ⟨hi,hi',hc⟩
 refine cQ<|sV (aO Z Z)<|sN<|nT<|cS<|cC Z (λhd=>?_)<|λhd=>?_
 .have hlt:i<xs.length:=Zx
  obtain ⟨b,o,cap2,hv2,hrd⟩:=um hv<|Zy hlt
  have hx:xs.drop i=xs[i]::xs.drop (i+1):=(List.getElem_cons_drop hlt).symm
  refine cK<|xT<|cS<|cB<|cQ<|sM Z<|sV (vI (k:=i) (congrArg some hv2) Z jG Z hlt Z)<|sV (vY Z ld9) ?_
  refine sA Z<|sA Z<|sK [0,1,5,6,9,10,11] Z<|cS<|cQ<|sM Z<|sM Z<|sV (aC Z underlying40)<|sV (qE Z Z)<|sK [0,1,5,6,9,10,11,19] Z<|cC Z (λhe=>?_)<|λhe=>?_
  .have he:ys.length<=i:=by
    have:(ys.length:Int)<=i:=Zj
    omega
   have hy:ys.drop i=[]:=List.drop_eq_nil_of_le he
   refine cQ<|sA Z<|sK [4] Z<|cT<|xR<|xW<|xR<|xR<|xW<|xR ?_
   rw [hc,hx,hy]
   exact aj Z ⟨Z,Z⟩ sbq
  .have he:i<ys.length:=by
    have:¬ (ys.length:Int)<=i:=Zj
    omega
   obtain ⟨b',o',cap2',hv2',hrd'⟩:=um hv'<|Zy he
   have hy:ys.drop i=ys[i]::ys.drop (i+1):=(List.getElem_cons_drop he).symm
   refine cK<|xT<|cQ<|sM Z<|sM Z<|sV (vI (k:=i) (congrArg some hv2') Z jG Z he Z)<|sV (vY Z ld9) ?_
   refine sA Z<|sK [0,1,6,7,9,10,11] Z<|cQ<|sM Z<|sM Z<|bf Z Z KL Z (zk xs[i] ys[i]) ?_
   refine sA Z<|sK [0,1,8,9,10,11] Z<|cQ<|sM Z<|sV (bT Z Z)<|sK [0,1,8,9,10,11,28] Z<|cC Z (λhn=>?_)<|λhn=>?_
   .have hn:rT xs[i] ys[i]≠0:=Zk
    refine cQ<|sM Z<|sA Z<|sK [4] Z<|cT<|xW<|xR<|xR<|xW<|xR ?_
    rw [hc,hx,hy,cmpL,if_pos hn]
    exact aj Z ⟨Z,Z⟩ sbq
   .have hn:rT xs[i] ys[i]=0:=Zk
    refine cK<|xB<|xT<|cR<|sV (aI Z Z Z0)<|sM Z<|sN<|nK [0,1,9,10,11] Z<|ax ?_
    refine aL (i+1) ⟨hlt,he,by rw [hc,hx,hy,cmpL,if_neg (by rw [hn]; decide)]⟩ (by show _ - _<_ - _; omega)
 .have hil:i=xs.length:=by
   have:¬ i<xs.length:=Zx
   omega
  have hx:xs.drop i=[]:=List.drop_eq_nil_of_le<|by omega
  refine aB<|xE<|xE<|xY<|xT<|cS<|cQ<|sM Z<|sV (aC Z underlying40)<|sM Z<|sV (aC Z underlying40)<|sV (aO Z Z)<|sK [35] Z ?_
  refine cC Z (λhe=>?_)<|λhe=>?_
  .have he:xs.length<ys.length:=by
    have:(xs.length:Int)<ys.length:=Zj
    omega
   refine cQ<|sA Z<|sK [4] Z<|cT<|xR ?_
   rw [hc,hx,<- List.getElem_cons_drop (show i<ys.length by omega)]
   exact aj Z ⟨Z,Z⟩ sbq
  .have he:¬ xs.length<ys.length:=by
    have:¬ (xs.length:Int)<ys.length:=Zj
    omega
   refine cK<|xT<|cQ<|sA Z<|sK [4] Z<|cT ?_
   rw [hc,hx,List.drop_eq_nil_of_le (by omega)]
   exact aj Z ⟨Z,Z⟩ sbq
theorem NU {xs:List Nm} (hv:wW S v xs) (hl:xs.length<=1099511627776) (hne:xs≠[]):Reads prog 188 #[v] [S] (sv (iY xs)):=by
 obtain ⟨a,cap,rfl,_⟩:=id hv
 have h0:0<xs.length:=List.length_pos_iff.2 hne
 obtain ⟨b0,o0,cap0,hv0,hrd0⟩:=um hv<|Zy h0
 refine aJ (n:=25) func188 Z Z (len Z) λhr w0=>?_
 refine cQ<|sA Z<|sN<|nT<|cS<|cQ<|sM Z<|sV (aC Z underlying40)<|sV (aO Z Z)<|sK [0,2,7] Z<|cC Z (λhz=>?_)<|λhz=>?_
 .have:(xs.length:Int)<1:=Zl
  omega
 .refine cK<|xT<|cQ<|sM Z<|sV (vI (k:=0) (congrArg some hv0) Z jG Z h0 Z)<|sV (vY Z ld9) ?_
  refine sA Z<|sK [0,2,3] Z<|cS<|cQ<|sA Z<|sN<|nT<|cB<|aY (σ := Nm×Nat) (λq=>[(0,.slice a xs.length cap),(3,sv q.1),(4,.int .i64 (q.2:Nat))]) (λ_=>S::hr) (λq=>q.2<=xs.length/\q.1∈xs.take q.2/\∀ y∈xs.take q.2,lt y q.1=false) (λq=>xs.length - q.2) (xs[0],1) ⟨h0,by rw [List.take_succ_eq_append_getElem h0]; simp,λy hy=>by rw [List.take_succ_eq_append_getElem h0] at hy; simp at hy; rw [hy]; exact lt_irrefl _⟩ ?_
  rintro ⟨m,i⟩ ⟨hi,hm,hle⟩
  simp only at hi hm hle
  dsimp only
  refine cS<|cQ<|sM Z<|sM Z<|sV (aC Z underlying40)<|sV (aO Z Z)<|sK [0,3,4,15] Z<|cC Z (λhd=>?_)<|λhd=>?_
  .have hlt:i<xs.length:=Zx
   obtain ⟨b,o,cap2,hv2,hrd⟩:=um hv<|Zy hlt
   have ht:=List.take_succ_eq_append_getElem hlt
   refine cK<|xT<|cS<|cB<|cR<|sM Z<|sM Z<|sM Z<|sV (vI (k:=i) (congrArg some hv2) Z jG Z hlt Z)<|sV (vY Z ld9) ?_
   refine sV (v_smin Z Z)<|sA Z<|sN<|nK [0,3,4] Z<|ax<|xB<|xT<|cR<|sM Z<|sV (aI Z Z Z0)<|sA Z<|sN<|nK [0,3,4] Z<|ax<|aL (_,i+1) ⟨hlt,?_,?_⟩ (by show _ - _<_ - _; omega)
   .show (if _ then _ else _)∈xs.take (i+1)
    rw [ht,List.mem_append]
    split
    .exact .inl hm
    .exact .inr<|List.mem_singleton.2 Z
   .intro y hy
    show lt y (if _ then _ else _)=false
    rw [ht,List.mem_append,List.mem_singleton] at hy
    split
    .rename_i hq
     rcases hy with hy | rfl
     .exact hle y hy
     .rw [Bool.or_eq_true] at hq
      rcases hq with hq | hq
      .exact iQ hq
      .rw [show m=xs[i] by simpa using hq]; exact lt_irrefl _
    .rename_i hq
     rw [Bool.not_eq_true,Bool.or_eq_false_iff] at hq
     rcases hy with hy | rfl
     .cases hc : lt y xs[i] with
      | false=>rfl
      | true =>
       have hxm:lt xs[i] m=true:=by
        rcases eu m xs[i] with h | h | h
        .exact absurd h (by rw [show lt m xs[i]=false from hq.1]; decide)
        .rw [h] at hq; simp at hq
        .exact h
       have:=hle y hy
       rw [lt_trans hc hxm] at this; cases this
     .exact lt_irrefl _
  .have hil:i=xs.length:=by
    have:¬ i<xs.length:=Zx
    omega
   subst hil
   rw [List.take_length] at hm hle
   rw [Li hm hle]
   refine aB<|xE<|xE<|xY<|xT<|cQ<|sM Z<|sA Z<|sK [2] Z<|cT ?_
   exact aj Z ⟨Z,Z⟩ sbq
end
def nU (l:Sys) (to c:Nm):List Nm:=match gZ l to c with | none=>[] | some k=>short l to k c
theorem rU {l:Sys} {to:Nm} {F:List (Nm×Nat)} (hF:∀ x,eB F x=gZ l to x) (x:Nm):(bR (mvG nV F) x).getD (.int .i64 0)=match gZ l to x with | none=>.int .i64 0 | some k=>.int .i64 ((k:Int)+1):=by
 rw [lQ,hF]
 cases gZ l to x <;> rfl
theorem sO {l:Sys} {to c:Nm} {k:Nat} (h:gZ l to c=some k):k<=l.length:=by
 unfold gZ at h
 have:=List.mem_of_find?_eq_some h
 rw [List.mem_range] at this
 omega
theorem Dk {l:Sys} {to c:Nm}:gZ l to c=some 0↔c=to:=by
 rw [iF]
 simp [W]
theorem Ao (l:Sys) (to:Nm):∀ k c,short l to k c=c::(short l to k c).drop 1
 | 0,c=>rfl
 | k+1,c=>rfl
theorem KT {l:Sys} (hF:Fine l) (c:Nm):(par l c).length<=1099511627776:=by
 refine Nat.le_trans (List.length_filter_le _ _) ?_
 unfold pars
 cases hf:find l c with
 | none=>simp
 | some x=>exact hF.few x (su hf).2
section
variable {S:Res} {v:Value} {l:Sys}
theorem Gq {mb:Nat} (hv:mQ S v l) (hF:Fine l) (from_ to:Nm):CtN prog 226 #[.agg #[v,.map (some mb)],sv from_,sv to] [S,mps mb (bN l)] λu T=>∃ a cp,u = .slice a (nU l to from_).length cp/\a.isNone=(gZ l to from_).isNone/\T=NR u (nU l to from_):=by
 obtain ⟨a,cap,rfl,_⟩:=id hv
 have hFl:=hF.len
 refine rC (n:=52) func226 Z Z (len Z) λhr w0=>?_
 refine cQ (aV Z Z λb3=>?_)
 refine aV Z Z λb4=>?_
 refine sA Z<|sK [2,3,4,6] Z<|cQ<|sV (af Z ll Z ag) ?_
 refine sM Z<|aH Z Z en271 Z (far_ct hv hF to) ?_
 rintro u h' ⟨mf,F,rfl,rfl,hFF⟩
 simp only [lC,lN]
 refine au al162 λb7=>?_
 refine bi Z Z sz162 ?_
 refine sK [2,3,4,6,7] Z<|cS<|cQ<|sV (vY Z lh) ?_
 refine sV (vY Z ld9) ?_
 cases hd0:gZ l to from_
 .have hsr:nU l to from_=[]:=by unfold nU; rw [hd0]
  refine sV (gM (show (bR (mvG nV F) from_).getD (.int .i64 0) = .int .i64 0 by rw [rU hFF,hd0])<|bP Z Z gW oN slq) ?_
  refine sV (dX Z Z)<|sK [2,3,4,6,7,18] Z<|aQ Z ?_
  refine cQ<|sA Z<|sK [6] Z<|cT<|xR ?_
  rw [hsr]
  refine jq (dn 9 1)<|kv (bs:=[]) Z Z ⟨NR (.slice none 0 0) [],Z,none,0,Z,Z,Z⟩ sbq
 .rename_i k0
  have hsr:nU l to from_=short l to k0 from_:=by unfold nU; rw [hd0]
  have hk0:=sO hd0
  refine sV (gM (show (bR (mvG nV F) from_).getD (.int .i64 0) = .int .i64 ((k0:Int)+1) by rw [rU hFF,hd0])<|bP Z Z gW oN slq) ?_
  refine sV (dX Z Z)<|sK [2,3,4,6,7,18] Z ?_
  rw [show (((k0:Int)+1) == 0)=false by simp; omega]
  refine aG Z ?_
  refine cK<|xT<|cQ<|sV (vY Z ld9) ?_
  refine ak (cells:=[sv from_]) Z underlying40 gp Z Z Zz (ltn Z) λb20=>?_
  refine sA Z<|sK [2,3,4,6,7,8] Z<|cS<|cB<|cd_pv (Ak (b:=b20) (n:=1) (sz:=1) (E:=9) [nC from_] Z (by simp [nC]) Z<|by decide) ?_
  refine oI ?_
  simp only [lC,lN]
  refine oH (σ := (Nat×Nm)×(Value×List Nm)×List Nat) (λq=>q.2.2.map mk) (λq=>[(2,sv to),(3,.pointer (some ⟨b3,0,none⟩)),(4,.pointer (some ⟨b4,0,none⟩)),(7,.pointer (some ⟨b7,0,none⟩)),(8,q.2.1.1)]) (λq=>Res.star (marks q.2.2)::pt b4 (cl [sv q.1.2] 9)::NR q.2.1.1 q.2.1.2::pt b7 (cl [.map (some mf)] 162)::mps mf (mvG nV F)::pt b3 (cl [.slice a l.length cap,.map (some mb)] 164)::S::mps mb (bN l)::hr) (λq=>gZ l to q.1.2=some q.1.1/\q.2.1.1.oneCell'=true/\q.2.1.2++(short l to q.1.1 q.1.2).drop 1=short l to k0 from_) (λq=>q.1.1) ((k0,from_),(.slice (some ⟨b20,0,none⟩) 1 1,[from_]),[]) ⟨hd0,Z,(Ao l to k0 from_).symm⟩ Z ⟨Z,Z,Z,Z,Z,trivial⟩ sbq ?_
  rintro ⟨⟨j,c⟩,⟨w0v,out⟩,bs⟩ ⟨hdj,hw0,hout⟩
  simp only at hdj hw0 hout
  dsimp only
  have holen:out.length<=k0+1:=by
   have:=congrArg List.length hout
   rw [List.length_append,fZ] at this
   omega
  refine cS<|cQ<|sV (vY Z ld9) ?_
  refine sM Z<|sV (pV Z Z)<|sK [2,3,4,7,8,23] Z<|cC Z (λhct=>?_)<|λhct=>?_
  .have hct:c≠to:=Ze
   obtain ⟨j',rfl⟩:∃ j',j=j'+1:=by
    cases j with
    | zero=>exact absurd (Dk.1 hdj) hct
    | succ j'=>exact ⟨j',rfl⟩
   have hnx:=FQ hdj
   have hdn:=CP hdj
   have hjl:=sO hdj
   refine cK<|xT<|cB<|cQ (au al40 λb9=>?_)
   refine sK [2,3,4,7,8,9] Z<|cS<|cQ<|sV (af Z ll Z ag) ?_
   refine sV (vY Z ld9) ?_
   refine aH Z Z Gf Z (kJ Z) ?_
   rintro u h' ⟨n1,n2,rfl,rfl⟩
   refine sK [2,3,4,7,8,9,26] Z<|cB<|dY (dn 9 1) ?_
   simp only [lC,lN]
   unfold seqv
   refine ji Z Gh λyl db rec hst hpe hps hasg hbo hkn2=>?_
   refine ⟨_,Ct.perm (Gn (σ := Value×List Nm) (b1:=n1) (b2:=n2) (mb:=mb) (yl:=yl) (c:=c) (λq=>pt yl (.loop rec)::pt db (.deferred<|some [])::pt b9 (cl [q.1] 40)::NR q.1 q.2::Res.star (marks bs)::pt b4 (cl [sv c] 9)::NR w0v out::pt b7 (cl [.map (some mf)] 162)::mps mf (mvG nV F)::pt b3 (cl [.slice a l.length cap,.map (some mb)] 164)::hr)
    (λk q=>q.1.oneCell'=true/\q.2=((par l c).take k).filter λp=>gZ l to p == some j') (λ_ _=>False) (.slice none 0 0,[]) ⟨rfl,rfl⟩ hv hF.few ?_) ?_,?_⟩
   .rintro k ⟨w, ns⟩ p hk ⟨hw, hns⟩
    simp only at hw hns
    obtain ⟨hkl,hke⟩:=List.getElem?_eq_some_iff.1 hk
    have hpl:=KT hF c
    have hnl:ns.length<=k:=by rw [hns]; exact Nat.le_trans (List.length_filter_le _ _) (by simp; omega)
    have htk:((par l c).take (k+1)).filter (λp=>gZ l to p == some j')=ns++(if gZ l to p == some j' then [p] else []):=by
     rw [List.take_succ_eq_append_getElem hkl,hke,List.filter_append,<- hns]
     congr 1
     by_cases hq:(gZ l to p == some j')=true
     .rw [if_pos hq,List.filter_cons_of_pos (by exact hq)]; rfl
     .rw [if_neg hq,List.filter_cons_of_neg (by exact hq)]; rfl
    refine Yc.perm (rz (n:=52) (rec:=rec) (args:=[sv p]) (hf:=pt db (.deferred<|some [])::pt b9 (cl [w] 40)::NR w ns::Res.star (marks bs)::pt b4 (cl [sv c] 9)::NR w0v out::pt b7 (cl [.map (some mf)] 162)::mps mf (mvG nV F)::pt b3 (cl [.slice a l.length cap,.map (some mb)] 164)::S::mps mb (bN l)::hr) (by rw [hps]; rfl) hkn2 (by rw [hps]; decide) ?_) (by exact (by repeat (first | exact Pm.refl | refine Pm.cons slq ?_):Pm _ _).perm)
    intro hr2 w1
    rw [hasg,hps,hbo]
    simp only [lC,lN]
    refine cR<|sA Z<|sN<|nK [4,7,9,10] Z<|ax<|lW Z slq (by first | rfl | assumption) ?_
    refine cB<|cQ<|sV (vY Z lh) ?_
    refine sM Z ?_
    cases hdp:gZ l to p
    .refine sV (gM (show (bR (mvG nV F) p).getD (.int .i64 0) = .int .i64 0 by rw [rU hFF,hdp])<|bP Z Z gW oN slq) ?_
     refine sA Z<|sK [4,7,9,10,11] Z<|cQ<|sM Z<|sV (dh Z Z)<|sM Z<|aF Z Z Z ?_
     iterate 5 refine aF rfl rfl rfl ?_
     refine sV (vP Z Z)<|sK [9,10,40] Z<|aG Z ?_
     refine cK<|xB<|dI slq (.inl ⟨Z,(w,ns),⟨hw,?_⟩,Z⟩) ?_
     .show ns=_
      rw [htk,hdp]; simp
     .rw [dJ hst hpe]
      exact sbq
    .rename_i m
     have hml:=sO hdp
     refine sV (gM (show (bR (mvG nV F) p).getD (.int .i64 0) = .int .i64 ((m:Int)+1) by rw [rU hFF,hdp])<|bP Z Z gW oN slq) ?_
     refine sA Z<|sK [4,7,9,10,11] Z<|cQ<|sM Z<|sV (dh Z Z)<|sM Z ?_
     rw [show decide ((0:Int)<(m:Int)+1)=true from decide_eq_true (by omega)]
     refine sG Z Z (vM Z)<|sG Z Z (vY Z lh) ?_
     refine sG Z Z (vY Z ld9) ?_
     refine sG Z Z (gM (show (bR (mvG nV F) c).getD (.int .i64 0) = .int .i64 (((j'+1:Nat):Int)+1) by rw [rU hFF,hdj])<|bP Z Z gW oN slq) ?_
     refine sG Z Z (xP Z Z Z0)<|sG Z Z (dX Z Z)<|sV (vQ Z Z)<|sK [9,10,40] Z<|cC Z (λhb=>?_)<|λhb=>?_
     .have hb:m=j':=by
       have:(m:Int)+1=((j'+1:Nat):Int)+1 - 1:=by simpa using hb
       omega
      refine cR<|sV (vY Z gq) ?_
      refine sM Z (ak (cells:=[sv p]) Z underlying40 gp Z Z Zz (ltn Z) λb43=>?_)
      refine eG [nC p] Z Z underlying40 gp Z (by decide) (show Sel _ (NR w ns) _ from slq) (by simp [nC]) Z (λj u2 hu2=>bV<|bZ<|by simpa [nC] using hu2) (by simp [nC,Value.oneCell']) (by simp; omega) (by simp; omega) (ltn Z) λw3 hw3 _=>?_
      rw [show ns.map nC++[nC p]=(ns++[p]).map nC by simp]
      refine bi Z Z yI ?_
      refine sN<|nK [] Z<|ax<|xB<|dI slq (.inl ⟨Z,(w3,ns++[p]),⟨hw3,?_⟩,Z⟩) ?_
      .show ns++[p]=_
       rw [htk,hdp,hb]; simp
      .rw [dJ hst hpe]
       exact sbq
     .have hb:m≠j':=λe=>by
       have:¬ (m:Int)+1=((j'+1:Nat):Int)+1 - 1:=by simpa using hb
       omega
      refine cK<|xB<|dI slq (.inl ⟨Z,(w,ns),⟨hw,?_⟩,Z⟩) ?_
      .show ns=_
       rw [htk,hdp]; simp [hb]
      .rw [dJ hst hpe]
       exact sbq
   .exact (by repeat (first | exact Pm.refl | refine Pm.cons slq ?_):Pm _ _).perm
   .rintro u h' ⟨rfl,(⟨⟨w,ns⟩,⟨hw,hns⟩,rfl⟩ | ⟨_,_,hfalse,_⟩)⟩
    .simp only at hw hns
     rw [List.take_length] at hns
     refine ⟨rec,_,slq,(by rw [hst]; simp),?_⟩
     rw [hpe]
     dsimp only
     have hnx2:ns=nexts l to j' c:=hns
     have hnl:ns.length<=1099511627776:=by rw [hns]; exact Nat.le_trans (List.length_filter_le _ _) (KT hF c)
     rw [<- hnx2] at hnx hdn
     have hsh:short l to (j'+1) c=c::short l to j' (iY ns):=by rw [short,<- hnx2]
     rw [hsh] at hout
     refine xB<|xT<|cQ<|sV (vY Z gq) ?_
     refine ni (r:=NR w ns) slq λhok=>?_
     refine bf Z Z en188 Z (NU (iX hok) hnl hnx) ?_
     refine bi Z Z sz9 ?_
     refine sK [2,3,4,7,8] Z<|cR<|sM Z<|sV (vY Z ld9) ?_
     refine ak (cells:=[sv (iY ns)]) Z underlying40 gp Z Z Zz (ltn Z) λb49=>?_
     refine eG [nC (iY ns)] Z Z underlying40 gp Z (by decide) (show Sel _ (NR w0v out) _ from slq) (by simp [nC]) Z (λj u2 hu2=>bV<|bZ<|by simpa [nC] using hu2) (by simp [nC,Value.oneCell']) (by simp; omega) (by simp; omega) (ltn Z) λw3 hw3 _=>?_
     rw [show out.map nC++[nC (iY ns)]=(out++[iY ns]).map nC by simp]
     refine sA Z<|sN<|nK [2,3,4,7,8] Z<|ax<|xB<|jD slq slq ?_
     refine lK ((j',iY ns),(w3,out++[iY ns]),db::bs) ⟨hdn.2,hw3,?_⟩ (Nat.lt_succ_self _) Z ⟨Z,Z,Z,Z,Z,trivial⟩ sbq
     show out++[iY ns]++(short l to j'<|iY ns).drop 1=short l to k0 from_
     rw [<- hout,List.append_assoc]
     congr 1
     exact (Ao l to j'<|iY ns).symm
    .exact hfalse.elim
  .have hct:c=to:=Ze
   have hj0:j=0:=by
    have:=(Dk (l:=l)).2 hct
    rw [hdj] at this; cases this; rfl
   subst hj0
   have hout2:out=short l to k0 from_:=by rw [<- hout]; simp [short]
   have hne:out≠[]:=λe=>by
    have:=fZ l to k0 from_
    rw [<- hout2,e] at this; cases this
   rw [hsr,<- hout2]
   refine aB<|xE<|xE<|xY<|xT<|cQ<|sM Z<|sA Z<|sK [6] Z<|cT (eF (r:=NR w0v out) slq λ⟨fh,hok⟩=>?_)
   rcases VR.form hok with ⟨_,he⟩ | ⟨vb,vo,vc,he,_,_⟩
   .exact absurd (List.map_eq_nil_iff.1 he) hne
   .rw [List.length_map] at he
    subst he
    refine Er (bs:=bs) Z Z ⟨NR (.slice (some ⟨vb,vo,none⟩) out.length vc) out,Z,some ⟨vb,vo,none⟩,vc,Z,Z,Z⟩ sbq
end
def okB (u:UInt8):Bool:=upper u || digit u || u.toNat == 95
def EM (r:Int):Bool:=((decide (r<65) || decide (90<r)) && (decide (r<48) || decide (57<r))) && (r != 95)
theorem NV {u:UInt8} (h:u.toNat<128):EM u.toNat = !okB u:=by
 unfold EM okB upper digit
 rw [Bool.eq_iff_iff]
 simp only [Bool.and_eq_true,Bool.or_eq_true,decide_eq_true_eq,bne_iff_ne,ne_eq,Bool.not_eq_true',Bool.or_eq_false_iff,Bool.and_eq_false_iff,decide_eq_false_iff_not,beq_eq_false_iff_ne]
 omega
theorem odd_big {r:Int} (h:128<=r):EM r=true:=by
 unfold EM
 simp only [Bool.and_eq_true,Bool.or_eq_true,decide_eq_true_eq,bne_iff_ne,ne_eq]
 omega
theorem Gs {u:UInt8} (h:okB u=true):u.toNat<128:=by
 unfold okB upper digit at h
 simp only [Bool.or_eq_true,Bool.and_eq_true,decide_eq_true_eq,beq_iff_eq] at h
 omega
def ixO (s:Nm):Int:=match s.findIdx? (λu => !okB u) with | some i=>i | none => -1
theorem ixO_any (s:Nm):decide (0<=ixO s)=s.any λu => !okB u:=by
 unfold ixO
 cases h:s.findIdx? (λu => !okB u) with
 | none =>
  rw [List.findIdx?_eq_none_iff] at h
  symm
  show _=false
  rw [List.any_eq_false]
  intro x hx; rw [h x hx]; decide
 | some i =>
  show decide (0<=(i:Int))=_
  obtain ⟨hi,h1,_⟩:=List.findIdx?_eq_some_iff_getElem.1 h
  rw [List.any_eq_true.2 ⟨s[i],List.getElem_mem hi,h1⟩]
  exact decide_eq_true<|by omega
section
theorem NW (r:Int):Reads prog 224 #[.int .i32 r] [] (.bool (EM r)):=by
 unfold EM
 refine aJ (n:=21) func224 Z Z (len Z) λhr w0=>?_
 refine cQ<|sA Z<|sN<|nT<|cQ<|sM Z<|sV (aO Z Z)<|sM Z<|bH (k:=6) (d:=8) (v:=.bool (decide (r<65) || decide (90<r))) (λhcut=>aM (b:=decide (r<65)) false (λhg=>?_)<|λhg=>?_) ?_
 .refine aF Z Z hg ?_
  refine aF Z Z hg ?_
  refine sV (vQ (bO Z hg) Z) ?_
  exact hcut _ uG
 .refine sG Z (bG Z hg) (vM Z)<|sG Z (bG Z hg) (dh Z Z)<|sV (vP (bO Z hg) Z) ?_
  exact hcut _ uG
 refine sM Z<|bH (k:=14) (d:=16) (v:=.bool ((decide (r<65) || decide (90<r)) && (decide (r<48) || decide (57<r)))) (λhcut=>aM (b:=(decide (r<65) || decide (90<r))) true (λhg=>?_)<|λhg=>?_) ?_
 .refine aF Z Z hg ?_
  iterate 2 refine aF rfl rfl hg ?_
  refine cZ Z Z ?_
  refine cZ Z Z ?_
  refine aF Z Z hg ?_
  refine sV (vP (bO Z hg) Z) ?_
  exact hcut _ uG
 .refine sG Z (bG Z hg) (vM Z)<|sG Z (bG Z hg) (aO Z Z)<|sG Z (bG Z hg) (vM Z)<|bH (k:=13) (d:=15) (v:=.bool (decide (r<48) || decide (57<r))) (λhcut=>aM (b:=decide (r<48)) false (λhg1=>?_)<|λhg1=>?_) ?_
  .refine aF Z Z hg1 ?_
   refine aF Z Z hg1 ?_
   refine sG Z (bG Z hg) (vQ (bO Z hg1) Z) ?_
   exact hcut _<|uH (by first | rfl | (rw [hg1]; rfl) | simp_all)<|uS Z<|uS Z<|uR
  .refine sG Z (bG Z hg1) (vM Z)<|sG Z (bG Z hg1) (dh Z Z)<|sG Z (bG Z hg) (vP (bO Z hg1) Z) ?_
   exact hcut _<|uH (by first | rfl | (rw [hg1]; rfl) | simp_all)<|uS Z<|uS Z<|uR
  refine sV (vQ (bO Z hg) Z) ?_
  exact hcut _<|uH (by first | rfl | (rw [hg]; rfl) | simp_all) (by repeat (first | exact uR | refine uS Z ?_))
 refine sM Z<|bH (k:=18) (d:=20) (v:=.bool (((decide (r<65) || decide (90<r)) && (decide (r<48) || decide (57<r))) && (r != 95))) (λhcut=>aM (b:=((decide (r<65) || decide (90<r)) && (decide (r<48) || decide (57<r)))) true (λhg=>?_)<|λhg=>?_) ?_
 .refine aF Z Z hg ?_
  refine aF Z Z hg ?_
  refine sV (vP (bO Z hg) Z) ?_
  exact hcut _ uG
 .refine sG Z (bG Z hg) (vM Z)<|sG Z (bG Z hg) (bT Z Z)<|sV (vQ (bO Z hg) Z) ?_
  exact hcut _ uG
 refine sA Z<|sK [2] Z<|cT ?_
 exact aj Z ⟨Z,Z⟩ sbq
theorem EN (s:Nm) (hl:s.length<=1099511627776):Reads prog 297 #[sv s,.func (.func 224) #[] #[],.bool true] [] (.int .i64 (ixO s)):=by
 refine aJ (n:=21) func297 Z Z (len Z) λhr w0=>?_
 refine cQ<|sA Z<|sN<|nT<|cS<|cQ<|sM Z (Lv Z underlying9 (ltn Z) λb10=>?_)
 refine sK [1,2,6,10] Z<|cB<|aY (σ := Nat) (λi=>[(1,.func (.func 224) #[] #[]),(2,.bool true),(10,.pointer (some ⟨b10,0,none⟩))]) (λi=>pt b10 (.stringIter ⟨⟨s⟩⟩ i)::hr) (λi=>i<=s.length/\∀ (j:Nat) (y:UInt8),j<i->s[j]? = some y->okB y=true) (λi=>s.length - i) 0 ⟨Nat.zero_le _,λj y hj=>by omega⟩ ?_
 rintro i ⟨hi,hok⟩
 by_cases hlt:i<s.length
 .have hu:=Zy hlt
  refine cQ<|NE Z slq hlt (ltn Z) ?_
  refine sV (ah Z Z)<|sN<|nT<|cS<|aQ Z ?_
  refine cK<|xT<|cB<|cQ<|sV (ah Z Z)<|sV (ah Z Z)<|sA Z<|sA Z<|sK [1,2,7,8,10] Z<|cQ<|sM Z<|sM Z ?_
  by_cases hq:okB s[i]=true
  .have hd:=Da hu<|Gs hq
   have hod:EM (s[i]).toNat=false:=by rw [NV (Gs hq),hq]; rfl
   rw [hd]
   refine bf Z Z en224 Z (NW (((s[i]).toNat:Nat):Int)) ?_
   rw [hod]
   refine sM Z<|sV (pR underlying4 Z Z)<|sK [1,2,7,10,19] Z<|aG Z ?_
   refine cK<|xB<|aL (i+1) ⟨hlt,λj y hj hy=>?_⟩ (by show _ - _<_ - _; omega)
   by_cases hji:j=i
   .subst hji; rw [hu] at hy; cases hy; exact hq
   .exact hok j y (by omega) hy
  .have hq : okB s[i] = false := Zu
   have hod:EM ((Utf8.decode ⟨⟨s⟩⟩ i).1:Nat)=true:=by
    rcases Nat.lt_or_ge (s[i]).toNat 128 with h | h
    .rw [Da hu h]
     show EM ((s[i]).toNat:Nat)=true
     rw [NV h,hq]; rfl
    .exact odd_big (by have:=LA hu h; omega)
   refine bf Z Z en224 Z (NW (((Utf8.decode ⟨⟨s⟩⟩ i).1:Nat):Int)) ?_
   rw [hod]
   refine sM Z<|sV (pR underlying4 Z Z)<|sK [1,2,7,10,19] Z<|aQ Z ?_
   refine cQ<|sM Z<|sA Z<|sK [6] Z<|cT<|xW<|xR<|xW<|xR ?_
   rw [show ixO s=(i:Int) by
    unfold ixO
    rw [show s.findIdx? (λu => !okB u)=some i from List.findIdx?_eq_some_iff_getElem.2 ⟨hlt,by rw [hq]; rfl,λj hj=>by
     rw [hok j _ hj (Zy (Nat.lt_trans hj hlt))]; decide⟩]]
   exact aj Z ⟨Z,Z⟩ sbq
 .refine cQ<|Lx Z slq (by omega) (ltn Z) ?_
  refine sV (ah Z Z)<|sN<|nT<|cS<|aG Z ?_
  refine aB<|xE<|xE<|xY<|xT<|cQ<|sA Z<|sK [6] Z<|cT ?_
  rw [show ixO s = -1 by
   unfold ixO
   rw [show s.findIdx? (λu => !okB u)=none from List.findIdx?_eq_none_iff.2 λx hx=>by
    obtain ⟨j,hj,rfl⟩:=List.getElem_of_mem hx
    rw [hok j _ (by omega) (Zy hj)]; rfl]]
  exact aj Z ⟨Z,Z⟩ sbq
theorem EO (s:Nm) (hl:s.length<=1099511627776):Reads prog 270 #[sv s,.func (.func 224) #[] #[]] [] (.int .i64 (ixO s)):=by
 refine aJ (n:=8) func270 Z Z (len Z) λhr w0=>?_
 refine cQ<|sA Z<|sN<|nT<|cQ<|sM Z<|sM Z<|bf Z Z en297 Z (EN s hl) ?_
 refine sA Z<|sK [4] Z<|cT ?_
 exact aj Z ⟨Z,Z⟩ sbq
theorem yL (s:Nm) (hl:s.length<=1099511627776):Reads prog 225 #[sv s,.func (.func 224) #[] #[]] [] (.bool (s.any λu => !okB u)):=by
 refine aJ (n:=9) func225 Z Z (len Z) λhr w0=>?_
 refine cQ<|sA Z<|sN<|nT<|cQ<|sM Z<|sM Z<|bf Z Z en270 Z (EO s hl) ?_
 refine sV (qE Z Z)<|sA Z<|sK [4] Z<|cT ?_
 rw [ixO_any]
 exact aj Z ⟨Z,Z⟩ sbq
theorem EP:reserved=[[73,78,84,69,71,69,82],[66,79,79,76,69,65,78],[65,78,89],[78,79,78,69]]:=by decide +kernel
theorem IX (u:UInt8) (t:Nm):named (u::t)=(!((((decide (((u::t).length:Int)<1) || decide (20<((u::t).length:Int))) || ((u::t).any λu => !okB u)) || decide ((u.toNat:Int)<65)) || decide (90<(u.toNat:Int))) && !reserved.contains (u::t)):=by
 have h1:((u::t).any λu => !okB u) = !((u::t).all λb=>upper b || digit b || b.toNat == 95):=by
  rw [List.any_eq_not_all_not]
  congr 2
  funext x
  simp [okB]
 rw [h1]
 unfold named upper
 rw [Bool.eq_iff_iff]
 simp only [Bool.and_eq_true,Bool.or_eq_true,decide_eq_true_eq,Bool.not_eq_true',Bool.or_eq_false_iff,decide_eq_false_iff_not,Bool.not_eq_false',List.length_cons]
 constructor
 .rintro ⟨⟨⟨a1,a2⟩,a3⟩,a4⟩
  exact ⟨⟨⟨⟨⟨by omega,by omega⟩,a3⟩,by omega⟩,by omega⟩,a4⟩
 .rintro ⟨⟨⟨⟨⟨_,a1⟩,a3⟩,a5⟩,a6⟩,a4⟩
  exact ⟨⟨⟨by omega,by omega,by omega⟩,a3⟩,a4⟩
theorem mi (s:Nm):Reads prog 139 #[sv s] [] (.bool (named s)):=by
 cases s with
 | nil =>
  refine aJ (n:=31) func139 Z Z (len Z) λhr w0=>?_
  refine cQ<|sA Z<|sN<|nT<|cQ<|sA Z<|sN<|nT<|cS<|cQ<|sM Z<|sV (Eu Z underlying9)<|sV (aO Z Z) ?_
  refine sM Z<|aF Z Z Z ?_
  iterate 2 refine aF rfl rfl rfl ?_
  refine sV (vQ Z Z)<|sM Z<|aF Z Z Z ?_
  iterate 2 refine aF rfl rfl rfl ?_
  refine sV (vQ Z Z)<|sM Z<|aF Z Z Z ?_
  iterate 2 refine aF rfl rfl rfl ?_
  refine sV (vQ Z Z)<|sM Z<|aF Z Z Z ?_
  iterate 2 refine aF rfl rfl rfl ?_
  refine sV (vQ Z Z)<|sK [0,2,26] Z<|aQ Z ?_
  refine cQ<|sA Z<|sK [2] Z<|cT<|xR ?_
  exact aj Z ⟨Z,Z⟩ sbq
 | cons u t =>
  rw [IX]
  refine aJ (n:=31) func139 Z Z (len Z) λhr w0=>?_
  refine cQ<|sA Z<|sN<|nT<|cQ<|sA Z<|sN<|nT<|cS<|cQ<|sM Z<|sV (Eu Z underlying9)<|sV (aO Z Z) ?_
  refine sM Z<|bH (k:=8) (d:=11) (v:=.bool (decide (((u::t).length:Int)<1) || decide (20<((u::t).length:Int)))) (λhcut=>aM (b:=decide (((u::t).length:Int)<1)) false (λhg=>?_)<|λhg=>?_) ?_
  .refine aF Z Z hg ?_
   iterate 2 refine aF rfl rfl hg ?_
   refine sV (vQ (bO Z hg) Z) ?_
   exact hcut _ uG
  .refine sG Z (bG Z hg) (vM Z)<|sG Z (bG Z hg) (Eu Z underlying9)<|sG Z (bG Z hg) (dh Z Z)<|sV (vP (bO Z hg) Z) ?_
   exact hcut _ uG
  refine sM Z<|bH (k:=13) (d:=16) (v:=.bool ((decide (((u::t).length:Int)<1) || decide (20<((u::t).length:Int))) || ((u::t).any λu => !okB u))) (λhcut=>aM (b:=decide (((u::t).length:Int)<1) || decide (20<((u::t).length:Int))) false (λhg=>?_)<|λhg=>?_) ?_
  .refine aF Z Z hg ?_
   iterate 2 refine aF rfl rfl hg ?_
   refine sV (vQ (bO Z hg) Z) ?_
   exact hcut _ uG
  .refine sG Z (bG Z hg) (vM Z)<|sG Z (bG Z hg) (vM Z)<|bS Z (bG Z hg) Z Z en225 Z (yL (u::t) (by simp only [Bool.or_eq_false_iff,decide_eq_false_iff_not] at hg; omega)) ?_
   refine sV (vP (bO Z hg) Z) ?_
   exact hcut _ uG
  refine sM Z<|bH (k:=18) (d:=21) (v:=.bool (((decide (((u::t).length:Int)<1) || decide (20<((u::t).length:Int))) || ((u::t).any λu => !okB u)) || decide ((u.toNat:Int)<65))) (λhcut=>aM (b:=(decide (((u::t).length:Int)<1) || decide (20<((u::t).length:Int))) || ((u::t).any λu => !okB u)) false (λhg=>?_)<|λhg=>?_) ?_
  .refine aF Z Z hg ?_
   iterate 2 refine aF rfl rfl hg ?_
   refine sV (vQ (bO Z hg) Z) ?_
   exact hcut _ uG
  .refine sG Z (bG Z hg) (vM Z)<|sG Z (bG Z hg) (vE (k:=0) Z Z underlying9 Z Z)<|sG Z (bG Z hg) (aO Z Z)<|sV (vP (bO Z hg) Z) ?_
   exact hcut _ uG
  refine sM Z<|bH (k:=23) (d:=26) (v:=.bool ((((decide (((u::t).length:Int)<1) || decide (20<((u::t).length:Int))) || ((u::t).any λu => !okB u)) || decide ((u.toNat:Int)<65)) || decide (90<(u.toNat:Int)))) (λhcut=>aM (b:=((decide (((u::t).length:Int)<1) || decide (20<((u::t).length:Int))) || ((u::t).any λu => !okB u)) || decide ((u.toNat:Int)<65)) false (λhg=>?_)<|λhg=>?_) ?_
  .refine aF Z Z hg ?_
   iterate 2 refine aF rfl rfl hg ?_
   refine sV (vQ (bO Z hg) Z) ?_
   exact hcut _ uG
  .refine sG Z (bG Z hg) (vM Z)<|sG Z (bG Z hg) (vE (k:=0) Z Z underlying9 Z Z)<|sG Z (bG Z hg) (dh Z Z)<|sV (vP (bO Z hg) Z) ?_
   exact hcut _ uG
  refine sK [0,2,26] Z<|cC Z (λhx=>?_)<|λhx=>?_
  .refine cQ<|sA Z<|sK [2] Z<|cT<|xR ?_
   rw [hx]
   exact aj Z ⟨Z,Z⟩ sbq
  .refine cK<|xT<|cQ ?_
   rw [hx,EP]
   refine ak (cells:=[sv [73,78,84,69,71,69,82],sv [66,79,79,76,69,65,78],sv [65,78,89],sv [78,79,78,69]]) Z underlying40 gp Z Z Zz (ltn Z) λb27=>?_
   refine Aj (Ak (b:=b27) (n:=4) (sz:=1) (E:=9) (([[73,78,84,69,71,69,82],[66,79,79,76,69,65,78],[65,78,89],[78,79,78,69]]:List Nm).map nC) Z (by simp [nC]) Z<|by decide) ?_
   simp only [lC,lN]
   refine ni (r:=NR (.slice (some ⟨b27,0,none⟩) 4 4) [[73,78,84,69,71,69,82],[66,79,79,76,69,65,78],[65,78,89],[78,79,78,69]]) slq λhok=>?_
   refine sM Z<|bf Z Z EI Z (fQ (iX hok) (u::t)<|by decide) ?_
   refine sV (bg Z)<|sA Z<|sK [2] Z<|cT ?_
   exact aj Z ⟨Z,Z⟩ sbq
end
theorem Ap : ∀ (xs o : List Nm), o.Nodup -> (dd o xs).length <= o.length + xs.length /\ ((dd o xs).length < o.length + xs.length ↔ ¬ (o ++ xs).Nodup)
 | [],o,ho=>by simp [dd,ho]
 | x::t,o,ho=>by
  show (dd (step o x) t).length<=_/\((dd (step o x) t).length<_↔_)
  by_cases hx:x∈o
  .rw [lV hx]
   have:=(Ap t o ho).1
   rw [List.length_cons]
   refine ⟨by omega,λ_ hn=>?_,λ_=>by omega⟩
   exact (List.nodup_append.1 hn).2.2 x hx x (by simp) Z
  .rw [oF hx]
   have hn:(o++[x]).Nodup:=List.nodup_append.2 ⟨ho,by simp,λa ha b hb e=>by simp at hb; exact hx (hb ▸ e ▸ ha)⟩
   have:=Ap t (o++[x]) hn
   rw [List.length_append,List.length_singleton,List.append_assoc] at this
   rw [List.length_cons]
   simp only [lC,lN] at this
   rw [show o.length+(t.length+1)=o.length+1+t.length by omega]
   exact this
def twM (xs:List Nm):List (Nm×Unit):=xs.foldl (λF x=>gG F x ()) []
theorem tw_keys (xs:List Nm):(twM xs).map (·.1)=dd [] xs:=by
 have key:∀ (xs:List Nm) (F:List (Nm×Unit)),(xs.foldl (λF x=>gG F x ()) F).map (·.1)=dd (F.map (·.1)) xs:=by
  intro xs
  induction xs with
  | nil=>intro F; rfl
  | cons x t ih =>
   intro F
   rw [List.foldl_cons,ih]
   show dd _ t=dd (step _ x) t
   congr 1
   cases h:eB F x with
   | none=>rw [FW h,oF (zI.1 h),List.map_append]; rfl
   | some u=>rw [CX h,lV (Lr h)]
 exact key xs []
theorem tw_less (xs:List Nm):decide (((twM xs).length:Int)<xs.length) = !decide xs.Nodup:=by
 have h1:(twM xs).length=(dd [] xs).length:=by rw [<- tw_keys,List.length_map]
 have h2:=Ap xs [] List.nodup_nil
 rw [h1]
 simp only [List.length_nil,Nat.zero_add,List.nil_append] at h2
 rw [Bool.eq_iff_iff,decide_eq_true_eq,Bool.not_eq_true',decide_eq_false_iff_not,<- h2.2]
 omega
theorem tw_take {xs:List Nm} {i:Nat} (h:i<xs.length):twM (xs.take (i+1))=gG (twM (xs.take i)) xs[i] ():=by
 unfold twM
 rw [List.take_succ_eq_append_getElem h,List.foldl_append]; rfl
def tV (_:Unit):Value:=.bool true
theorem mvG_len {α : Type} (g : α -> Value) (F:List (Nm × α)):(mvG g F).length=F.length:=by simp [mvG]
section
variable {S:Res} {v:Value}
theorem NY (p:Nm) (a b c d e:Value) (h1:[sv p,a,b,c,d,e].all Value.oneCell'=true):Reads prog 141 #[.agg #[sv p,a,b,c,d,e]] [] (sv p):=by
 refine aJ (n:=5) func141 Z Z (len Z) λhr w0=>?_
 refine cQ (aV Z Z λb1=>?_)
 refine sA Z<|sK [1,2] Z<|cQ<|sV (vF Z gV Z)<|sV (vY Z ld9) ?_
 refine sA Z<|sK [2] Z<|cT ?_
 exact aj Z ⟨Z,Z⟩ sbq
theorem LD {ps:List Nm} (hP:Row S 6 parC v ps) (hl:ps.length<=1099511627776):Reads prog 140 #[v,.func (.func 141) #[] #[]] [S] (.bool (!decide ps.Nodup)):=by
 obtain ⟨a,cap,rfl,_⟩:=id hP
 refine aJ (n:=25) func140 Z Z (len Z) λhr w0=>?_
 refine cQ<|sA Z<|sN<|nT<|cQ (fq (ltn Z) λb8=>?_)
 refine sA Z<|sK [0,1,4,5] Z<|cS<|cQ<|sM Z<|sV (aC Z underlying39)<|sM Z<|sN<|nT<|cB ?_
 rw [show ([]:List (Bs×Value))=mvG tV (twM<|ps.take 0) from rfl]
 refine aY (σ := Nat) (λi=>[(0,.slice a ps.length cap),(1,.func (.func 141) #[] #[]),(5,.map (some b8)),(9,.slice a ps.length cap),(10,.int .i64 ps.length),(11,.int .i64 (i:Nat))]) (λi=>mps b8 (mvG tV<|twM<|ps.take i)::S::hr) (λi=>i<=ps.length) (λi=>ps.length - i) 0 (Nat.zero_le _) ?_
 intro i hi
 refine cQ<|sV (aO Z Z)<|sN<|nT<|cS<|cC Z (λhd=>?_)<|λhd=>?_
 .have hlt:i<ps.length:=Zx
  obtain ⟨b,o,cap2,c1,c2,c3,c4,c5,hv2,hrd,hone⟩:=IW hP<|Zy hlt
  refine cK<|xT<|cS<|cB<|cQ<|sV (vI (k:=i) (congrArg some hv2) Z lY Z hlt Z)<|sV (af Z oP Z hrd) ?_
  refine au vO λb7=>?_
  refine ai Z Z qU Z hone ?_
  refine sK [0,1,5,7,9,10,11] Z<|cR<|sM Z<|sM Z<|sV (af Z oP Z ag) ?_
  refine bf Z Z en141 Z (NY ps[i] c1 c2 c3 c4 c5 hone) ?_
  refine dB Z Z Z xZ slq ?_
  refine sN<|nK [0,1,5,9,10,11] Z<|ax<|xB<|xT<|cR<|sV (aI Z Z Z0)<|sM Z<|sN<|nK [0,1,5,9,10,11] Z<|ax ?_
  rw [show eU (mvG tV<|twM<|ps.take i) ps[i] (.bool true)=mvG tV (twM<|ps.take (i+1)) by rw [tw_take hlt]; exact o5 tV _ _ ()]
  refine aL (i+1) hlt (by show _ - _<_ - _; omega)
 .have hil:i=ps.length:=by
   have:¬ i<ps.length:=Zx
   omega
  subst hil
  rw [List.take_length]
  refine aB<|xE<|xE<|xY<|xT<|cQ<|sM Z<|sV (v_mlen Z underlying265 slq) ?_
  refine sM Z<|sV (aC Z underlying39)<|sV (aO Z Z)<|sA Z<|sK [4] Z<|cT ?_
  rw [mvG_len,tw_less]
  exact aj Z ⟨Z,Z⟩ sbq
end
def numC (us:List Value) (n:Int):Prop:=us=[.int .i64 n]
def orI (xs:List Int):Int:=(xs.find? (· != 0)).getD 0
theorem ring_lt {a b:List Nm}:decide (orI [cmpI a.length b.length,cmpL a b]<0)=zD a b:=by
 unfold orI zD cmpI
 rw [<- KQ]
 rcases Nat.lt_trichotomy a.length b.length with h | h | h
 .have h1:(a.length:Int)<b.length:=by omega
  simp [h1,h]
 .simp only [h,Int.lt_irrefl,if_false,List.find?_cons,bne_self_eq_false,Nat.lt_irrefl,decide_false,Bool.false_or,decide_true,Bool.true_and]
  by_cases hc:cmpL a b=0
  .simp [hc]
  .have:(cmpL a b != 0)=true:=Zm
   rw [this]; rfl
 .have h1:¬ (a.length:Int)<b.length:=by omega
  have h2:(b.length:Int)<a.length:=by omega
  have h3:¬ a.length<b.length:=by omega
  have h4:¬ a.length=b.length:=by omega
  simp [h1,h2,h3,h4]
section
variable {S:Res} {v:Value} {l:Sys}
theorem Or_ct {xs:List Int} (hv:Row S 1 numC v xs) (hl:xs.length<=1099511627776):Reads prog 227 #[v] [S] (.int .i64 (orI xs)):=by
 obtain ⟨a,cap,rfl,_⟩:=id hv
 refine aJ (n:=18) func227 Z Z (len Z) λhr w0=>?_
 refine cQ<|sA Z<|sN<|nT<|cQ<|sA Z<|sN<|nT<|cS<|cQ<|sM Z<|sV (aC Z underlying333)<|sM Z ?_
 refine sK [2,3,6,7,8] Z<|cB<|aY (σ := Nat) (λi=>[(3,.int .i64 0),(6,.slice a xs.length cap),(7,.int .i64 xs.length),(8,.int .i64 (i:Nat))]) (λ_=>S::hr) (λi=>i<=xs.length/\orI xs=orI (xs.drop i)) (λi=>xs.length - i) 0 ⟨Nat.zero_le _,Z⟩ ?_
 rintro i ⟨hi,ho⟩
 refine cQ<|sV (aO Z Z)<|sN<|nT<|cS<|cC Z (λhd=>?_)<|λhd=>?_
 .have hlt:i<xs.length:=Zx
  obtain ⟨b,o,cap2,u,hv2,hrd,hu⟩:=Row.at1 hv<|Zy hlt
  simp only [numC,List.cons.injEq,and_true] at hu
  subst hu
  have hx:xs.drop i=xs[i]::xs.drop (i+1):=(List.getElem_cons_drop hlt).symm
  refine cK<|xT<|cS<|cB<|cQ<|sV (vI (k:=i) (congrArg some hv2) Z sl333 Z hlt Z)<|sV (vY Z ld3) ?_
  refine sA Z<|sK [3,5,6,7,8] Z<|cQ<|sM Z<|sM Z<|sV (bT Z Z)<|sK [3,5,6,7,8,14] Z<|cC Z (λhn=>?_)<|λhn=>?_
  .refine cQ<|sM Z<|sA Z<|sK [2] Z<|cT<|xW<|xR<|xR<|xW<|xR ?_
   rw [ho,hx,show orI (xs[i]::xs.drop (i+1))=xs[i] by unfold orI; rw [List.find?_cons_of_pos (by exact hn)]; rfl]
   exact aj Z ⟨Z,Z⟩ sbq
  .refine cK<|xB<|xT<|cR<|sV (aI Z Z Z0)<|sM Z<|sN<|nK [3,6,7,8] Z<|ax<|aL (i+1) ⟨hlt,by rw [ho,hx]; unfold orI; rw [List.find?_cons_of_neg (by rw [hn]; decide)]⟩ (by show _ - _<_ - _; omega)
 .have hil:i=xs.length:=by
   have:¬ i<xs.length:=Zx
   omega
  rw [ho,List.drop_eq_nil_of_le (by omega)]
  refine aB<|xE<|xE<|xY<|xT<|cQ<|sM Z<|sA Z<|sK [2] Z<|cT ?_
  exact aj Z ⟨Z,Z⟩ sbq
theorem IY {b o n cp j:Nat} {E:TypeId} {sz:Nat} {rows:List (List Value)} {u:Value} (hj:rows.flatten[j]? = some u):Rd (VR (.slice (some ⟨b,o,none⟩) n cp) E sz rows) ⟨b,o+j,none⟩ u:=λw hw=>by
 obtain ⟨h1,h2⟩:=hw
 rcases h2 with ⟨h3,_⟩ | ⟨b',o',cp',pre,jj,h3,hb,hp,_⟩
 .cases h3
 .cases h3
  have hb':w.heap[b]? = _:=hb
  have hlt:=(List.getElem?_eq_some_iff.1 hj).1
  simp only [World.cell?,hb',cl,List.getElem?_toArray,Option.isSome_none,Bool.false_eq_true,if_false]
  rw [List.getElem?_append_right (by omega),hp,show o+j - o=j by omega,List.getElem?_append_left hlt,hj]
theorem nk (xs:List Nm):(xs.map nC).flatten=xs.map sv:=by
 induction xs with
 | nil=>rfl
 | cons x t ih=>rw [List.map_cons,List.flatten_cons,ih]; rfl
theorem LF {xs:List Nm} {j:Nat} {u:Value} (h:((xs.dropLast).map nC).flatten[j]? = some u):(xs.map nC).flatten[j]? = some u:=by
 rw [nk,List.getElem?_map] at h ⊢
 obtain ⟨x,hx,he⟩:=Option.map_eq_some_iff.1 h
 rw [List.dropLast_eq_take,List.getElem?_take] at hx
 split at hx
 .rw [hx]; simp [he]
 .cases hx
theorem NZ {xs:List Nm} {u:Value} (h:u∈(xs.map nC).flatten):u.oneCell'=true:=by
 rw [nk] at h
 obtain ⟨x,_,rfl⟩:=List.mem_map.1 h
 rfl
def BestV (w:Value) (b:Option (List Nm)):Prop:=∃ wa cp,w = .slice wa (b.getD []).length cp/\wa.isNone=b.isNone
def EQ (l:Sys) (i:Nat):List (List Nm):=(l.take i).flatMap λx=>(par l x.name).filterMap<|qR l x.name
theorem N7 (l:Sys):EQ l l.length=zF l:=by
 unfold EQ zF nms
 rw [List.take_length,List.flatMap_map]
theorem LG {l:Sys} {i:Nat} (h:i<l.length):EQ l (i+1)=EQ l i++(par l (l[i]).name).filterMap (qR l (l[i]).name):=by
 unfold EQ
 rw [List.take_succ_eq_append_getElem h,List.flatMap_append,List.flatMap_singleton]
theorem IZ (l:Sys) (to c:Nm):(nU l to c).length<=l.length+1:=by
 unfold nU
 cases h:gZ l to c with
 | none=>simp
 | some k=>have:=sO h; simp only [fZ]; omega
theorem mem_len {l:Sys} {i k:Nat} {cn:Nm} {q:List Nm} (h:some q=(EQ l i++((par l cn).take k).filterMap (qR l cn)).foldl better none):q.length<=l.length+1:=by
 have hm:=((mU _ _).2 q h.symm).resolve_left<|by simp
 have key:∀ c p,qR l c p=some q->q.length<=l.length+1:=λc p hc=>by
  unfold qR at hc
  obtain ⟨m,hdm,rfl⟩:=Option.map_eq_some_iff.1 hc
  have:=sO hdm
  simp [fZ]; omega
 rcases List.mem_append.1 hm with hm | hm
 .obtain ⟨x,_,hx⟩:=List.mem_flatMap.1 hm
  obtain ⟨p,_,hp⟩:=List.mem_filterMap.1 hx
  exact key _ p hp
 .obtain ⟨p,_,hp⟩:=List.mem_filterMap.1 hm
  exact key _ p hp
theorem KU {b:Nat} {x y:Int}:Row (pt b (cl [.int .i64 x,.int .i64 y] 3)) 1 numC (.slice (some ⟨b,0,none⟩) 2 2) [x,y]:=
 ⟨some ⟨b,0,none⟩,2,rfl,Nat.le_refl _,by decide,(λh=>by cases h),λi z hi=>by
  match i,hi with
  | 0,hi=>cases hi; exact ⟨b,0,[.int .i64 x],rfl,rfl,λj hj=>by match j,hj with | 0,_=>exact bZ rfl,rfl⟩
  | 1,hi=>cases hi; exact ⟨b,0,[.int .i64 y],rfl,rfl,λj hj=>by match j,hj with | 0,_=>exact bZ rfl,rfl⟩⟩
theorem LH {cs:List (List Nm)} {r:List Nm}:(cs++[r]).foldl better none=better (cs.foldl better none) r:=by simp [List.foldl_append]
theorem Ring_ct (hv:mQ S v l) (hF:Fine l):CtN prog 142 #[v] [S] λu T=>∃ w,u = .tuple #[w,.bool (ring l).isSome]/\w.oneCell'=true/\T=NR w ((ring l).getD []):=by
 obtain ⟨a,cap,rfl,_⟩:=id hv
 have hFl:=hF.len
 refine rC (n:=60) func142 Z Z (len Z) λhr w0=>?_
 refine cQ<|sA Z<|sA Z<|sN<|nT<|cQ<|sM Z<|aH Z Z en166 Z (of_ct hv<|by omega) ?_
 rintro u h' ⟨mb,rfl,rfl⟩
 refine au tL λb4=>?_
 refine ai Z Z oL Z Z ?_
 refine sK [0,2,3,4] Z<|cQ (au al40 λb5=>?_)
 refine sN<|nT<|cS<|cQ<|sM Z<|sV (aC Z underlying22)<|sM Z<|sK [2,3,4,5,13,14,15] Z<|cB<|dY (dn 9 1)<|oI ?_
 simp only [lC,lN]
 refine oH (σ := Nat×(Value×Option (List Nm))×List Nat) (λq=>q.2.2.map mk) (λq=>[(4,.pointer (some ⟨b4,0,none⟩)),(5,.pointer (some ⟨b5,0,none⟩)),(13,.slice a l.length cap),(14,.int .i64 l.length),(15,.int .i64 (q.1:Nat))]) (λq=>Res.star (marks q.2.2)::pt b5 (cl [q.2.1.1] 40)::NR q.2.1.1 (q.2.1.2.getD [])::pt b4 (cl [.slice a l.length cap,.map (some mb)] 164)::S::mps mb (bN l)::hr) (λq=>q.1<=l.length/\BestV q.2.1.1 q.2.1.2/\q.2.1.2=(EQ l q.1).foldl better none) (λq=>l.length - q.1) (0,(.slice none 0 0,none),[]) ⟨Nat.zero_le _,⟨none,0,Z,Z⟩,Z⟩ Z ⟨Z,Z,Z,Z,Z,trivial⟩ sbq ?_
 rintro ⟨i,⟨w0,best⟩,bs⟩ ⟨hi,hbv,hbest⟩
 simp only at hi hbv hbest
 obtain ⟨wa,wcp,rfl,hwa⟩:=id hbv
 dsimp only
 refine cQ<|sV (aO Z Z)<|sN<|nT<|cS<|cC Z (λhd=>?_)<|λhd=>?_
 .have hlt:i<l.length:=Zx
  obtain ⟨b,o,cap2,d,f,pa,pc,c2,fa,fc,j2,hv2,hrd,hP,hone⟩:=ul hv<|Zy hlt
  have hpre:=LG hlt
  generalize hcn:(l[i]).name=cn at *
  refine cK<|xT<|cS<|cB<|cQ<|sV (vI (k:=i) (congrArg some hv2) Z rE Z hlt Z)<|sV (af Z gU Z hrd) ?_
  refine au oU λb7=>?_
  refine ai Z Z mP Z hone ?_
  refine sK [4,5,7,13,14,15] Z<|cQ<|sV (af Z ll Z ag) ?_
  refine sV (vF Z dR Z)<|sV (vY Z ld9) ?_
  refine aH Z Z Gf Z (kJ Z) ?_
  rintro u h' ⟨n1,n2,rfl,rfl⟩
  refine sK [4,5,7,13,14,15,22] Z<|cB ?_
  simp only [lC,lN]
  unfold seqv
  refine ji Z Gh λyl db rec hst hpe hps hasg hbo hkn2=>?_
  refine ⟨_,Ct.perm (Gn (σ := Value×Option (List Nm)) (b1:=n1) (b2:=n2) (mb:=mb) (yl:=yl) (c:=cn) (λq=>pt yl (.loop rec)::pt db (.deferred<|some [])::pt b7 (cl [sv cn,d,f,.slice pa l[i].parents.length pc,c2,.slice fa l[i].feats fc,j2] 44)::Res.star (marks bs)::pt b5 (cl [q.1] 40)::NR q.1 (q.2.getD [])::pt b4 (cl [.slice a l.length cap,.map (some mb)] 164)::hr)
   (λk q=>BestV q.1 q.2/\q.2=(EQ l i++((par l cn).take k).filterMap (qR l cn)).foldl better none) (λ_ _=>False) (_,best) ⟨hbv,by rw [hbest]; simp⟩ hv hF.few ?_) ?_,?_⟩
  .rintro k ⟨w, bst⟩ p hk ⟨hbv2, hb2⟩
   simp only at hbv2 hb2
   obtain ⟨hkl,hke⟩:=List.getElem?_eq_some_iff.1 hk
   have hpm:=List.mem_of_getElem? hk
   have htk:((par l cn).take (k+1)).filterMap (qR l cn)=((par l cn).take k).filterMap (qR l cn)++(qR l cn p).toList:=by
    rw [List.take_succ_eq_append_getElem hkl,hke,List.filterMap_append]
    congr 1
   obtain ⟨wa2,wcp2,rfl,hwa2⟩:=id hbv2
   refine Yc.perm (rz (n:=60) (rec:=rec) (args:=[sv p]) (hf:=pt db (.deferred<|some [])::pt b7 (cl [sv cn,d,f,.slice pa l[i].parents.length pc,c2,.slice fa l[i].feats fc,j2] 44)::Res.star (marks bs)::pt b5 (cl [.slice wa2 (bst.getD []).length wcp2] 40)::NR (.slice wa2 (bst.getD []).length wcp2) (bst.getD [])::pt b4 (cl [.slice a l.length cap,.map (some mb)] 164)::S::mps mb (bN l)::hr) (by rw [hps]; rfl) hkn2 (by rw [hps]; decide) ?_) (by exact (by repeat (first | exact Pm.refl | refine Pm.cons slq ?_):Pm _ _).perm)
   intro hr2 w1
   rw [hasg,hps,hbo]
   simp only [lC,lN]
   refine cR<|sA Z<|sN<|nK [4,5,7,8] Z<|ax<|lW Z slq (by first | rfl | assumption) ?_
   refine cB<|cQ<|sV (af Z ll Z ag) ?_
   refine sM Z<|sV (vF Z dR Z)<|sV (vY Z ld9) ?_
   refine aH Z Z en226 Z (Gq hv hF p cn) ?_
   rintro u h' ⟨T,rfl,sa,scp,rfl,hsa,rfl⟩
   simp only [lC,lN]
   refine sA Z<|sK [5,7,9] Z<|cS<|cQ<|sM Z<|sV (dA Z Z underlying40)<|sK [5,7,9,30] Z ?_
   have hsl:=IZ l cn p
   rw [hsa]
   cases hdp:gZ l cn p
   .have hcd:qR l cn p=none:=by unfold qR; rw [hdp]; rfl
    refine aQ Z ?_
    refine aB<|xE<|xY<|dI slq (.inl ⟨Z,(_,bst),⟨hbv2,?_⟩,Z⟩) ?_
    .show bst=_
     rw [htk,hcd,hb2]; simp
    .rw [dJ hst hpe]
     exact sbq
   .rename_i m
    have hml:=sO hdp
    have hcd:qR l cn p=some (cn::(short l cn m p).dropLast):=by unfold qR; rw [hdp]; rfl
    have hsr:nU l cn p=short l cn m p:=by unfold nU; rw [hdp]
    rw [hsr] at hsl ⊢
    refine fD (r:=NR (.slice sa (short l cn m p).length scp)<|short l cn m p) slq λ⟨fh,hok⟩=>?_
    obtain ⟨ub,uo,rfl⟩:∃ ub uo,sa=some ⟨ub,uo,none⟩:=by
     rcases VR.form hok with ⟨he,_⟩ | ⟨ub,uo,uc,he,_⟩
     .injection he with e1 _ _
      rw [e1,hdp] at hsa; cases hsa
     .injection he with e1 _ _
      exact ⟨ub,uo,e1⟩
    have hscp:(short l cn m p).length<=scp:=by
     rcases VR.form hok with ⟨he,_⟩ | ⟨ub',uo',uc,he,hc1,_⟩
     .cases he
     .injection he with _ _ e3
      rw [List.length_map] at hc1; omega
    refine aG Z ?_
    refine cK<|xT<|cS<|jC (ork [(0,2),(1,1),(3,2),(4,2),(5,2),(6,2),(7,1),(2,0),(8,0),(9,2)] .nil) (λi => !(Nat.beq i 8)) [pt b7 (cl [sv cn,d,f,.slice pa l[i].parents.length pc,c2,.slice fa l[i].feats fc,j2] 44)] mixed Zz ?_
    refine dV Z (vF Z dR Z)<|bu Z (vY Z ld9) ?_
    refine dV Z (vM Z)<|dV Z (vM Z)<|dV Z (aC Z underlying40)<|dV Z (xP Z Z Z0)<|bu Z (kI (hi:=m) Z Z jG (by rw [fZ]; omega) (by rw [fZ] at hscp; omega)) ?_
    refine aT Z (ak (cells:=[sv cn]) Z underlying40 gp Z Z Zz (ltn Z) λb33=>aW ?_)
    refine aT rfl<|Aj (p:=.cons .here .nil) (Ak (b:=b33) (n:=1) (sz:=1) (E:=9) [nC cn] rfl (by simp [nC]) rfl<|by decide) (eG (v:=.slice (some ⟨b33,0,none⟩) 1 1) ((short l cn m p).dropLast.map nC) rfl rfl underlying40 gp rfl (by decide) slq (λr hr=>by obtain ⟨x,_,rfl⟩:=List.mem_map.1 hr; rfl) (by simp [fZ]) (λj u2 hu2=>⟨NR (.slice (some ⟨ub,uo,none⟩) (short l cn m p).length scp) (short l cn m p),_,slq,IY<|LF hu2⟩) (λu2 hu2=>NZ hu2) (by simp; omega) (by simp; omega) (ltn rfl) λv3 hv3 hv0=>(aW ?_))
    rw [show [nC cn]++(short l cn m p).dropLast.map nC=(cn::(short l cn m p).dropLast).map nC from rfl]
    refine dV Z (vA Z)<|bB<|nK [5,10] Z<|nT<|cS (fD (r:=NR v3 (cn::(short l cn m p).dropLast)) slq λ⟨fh2,hok2⟩=>?_)
    obtain ⟨vb,vo,vc,rfl⟩:∃ vb vo vc,v3 = .slice (some ⟨vb,vo,none⟩) (cn::(short l cn m p).dropLast).length vc:=by
     rcases VR.form hok2 with ⟨_,he⟩ | ⟨vb,vo,vc,he,_⟩
     .cases he
     .exact ⟨vb,vo,vc,by rw [he,List.length_map]⟩
    have hrl:(cn::(short l cn m p).dropLast).length<=900002:=by simp [fZ]; omega
    generalize cn::(short l cn m p).dropLast=r at *
    rw [hcd] at htk
    have hround:∀ b',b'=better bst r->b'=(EQ l i++((par l cn).take (k+1)).filterMap (qR l cn)).foldl better none:=λb' hb'=>by
     rw [hb',htk,<- List.append_assoc,Option.toList_some,LH,<- hb2]
    cases bst
    .obtain rfl:wa2=none:=by cases wa2 with | none=>rfl | some x=>cases hwa2
     refine bC (ork [(0,1),(1,1),(2,2),(3,2),(4,2),(5,1),(6,2),(7,1),(8,2),(9,1),(10,1),(11,1),(12,1),(13,2),(14,2)] .nil) (λ_=>true) mixed Zz ?_
     refine bu Z (vY Z gq) ?_
     refine bu Z (dA Z Z underlying40)<|dV Z (vM Z)<|jm Z Z Z Z ?_
     refine jm Z Z Z Z ?_
     refine kC Z Z Z Z ?_
     refine jm Z Z Z Z ?_
     refine kC Z Z Z Z ?_
     refine jm Z Z Z Z ?_
     iterate 4 refine kC rfl rfl rfl rfl ?_
     refine jm Z Z Z Z ?_
     refine dV Z (vQ Z Z)<|bB<|nK [5,10,54] Z<|nT<|aQ Z ?_
     refine cR<|sM Z<|bi Z Z yI ?_
     refine sN<|nK [] Z<|ax<|xB<|dI slq (.inl ⟨Z,(.slice (some ⟨vb,vo,none⟩) r.length vc,some r),⟨⟨some ⟨vb,vo,none⟩,vc,Z,Z⟩,hround (some r) Z⟩,Z⟩) ?_
     rw [dJ hst hpe]
     exact sbq
    .rename_i q
     obtain ⟨qa,rfl⟩:∃ x,wa2=some x:=by cases wa2 with | none=>cases hwa2 | some x=>exact ⟨x,rfl⟩
     have hql:=mem_len hb2
     simp only [Option.getD_some]
     refine fD (r:=NR (.slice (some qa) q.length wcp2) q) slq λ⟨fh3,hokq⟩=>?_
     refine bC (ork [(0,1),(1,1),(2,2),(3,2),(4,2),(5,1),(6,2),(7,1),(8,2),(9,1),(10,1),(11,0),(12,0),(13,2),(14,2)] .nil) (λi => !(Nat.beq i 11 || Nat.beq i 12)) mixed Zz ?_
     refine bu Z (vY Z gq) ?_
     refine bu Z (dA Z Z underlying40)<|dV Z (vM Z)<|dC Z Z Z (vM Z)<|dC Z Z Z (aC Z underlying40)<|jl Z Z Z (vY Z gq) ?_
     refine dC Z Z Z (aC Z underlying40)<|yV Z Z Z Z Z en228 Z (cmpI_ct r.length q.length) ?_
     refine dC Z Z Z (vM Z)<|jl Z Z Z (vY Z gq) ?_
     refine yV Z Z Z Z Z en229 Z (cmpL_ct (iX ⟨fh2,hok2⟩) (iX ⟨fh3,hokq⟩) (by omega)<|by omega) ?_
     refine Ko Z Z Z<|lX Z Z (ak (cells:=[.int .i64 (cmpI r.length q.length),.int .i64 (cmpL r q)]) Z underlying333 oN Z Z Zz (ltn Z) λb51=>aW ?_)
     refine Ko Z Z Z<|lX Z Z<|aH Z Z en227 Z (Or_ct (xs:=[cmpI r.length q.length,cmpL r q]) KU<|by simp) ?_
     rintro u h' ⟨rfl,rfl⟩
     simp only [lC,lN]
     refine aW ?_
     refine dC Z Z Z (aO Z Z)<|dV Z (vP Z Z)<|bB<|nK [5,10,54] Z<|nT ?_
     rw [ring_lt]
     refine cC Z (λhbt=>?_)<|λhbt=>?_
     .refine cR<|sM Z<|bi Z Z yI ?_
      refine sN<|nK [] Z<|ax<|xB<|dI slq (.inl ⟨Z,(.slice (some ⟨vb,vo,none⟩) r.length vc,some r),⟨⟨some ⟨vb,vo,none⟩,vc,Z,Z⟩,hround (some r) (by show _=(if zD r q=true then some r else some q); rw [if_pos hbt])⟩,Z⟩) ?_
      rw [dJ hst hpe]
      exact sbq
     .refine cK<|xB<|dI slq (.inl ⟨Z,(.slice (some qa) q.length wcp2,some q),⟨⟨some qa,wcp2,Z,Z⟩,hround (some q) (by show _=(if zD r q=true then some r else some q); rw [if_neg (by rw [hbt]; decide)])⟩,Z⟩) ?_
      rw [dJ hst hpe]
      exact sbq
  .exact (by repeat (first | exact Pm.refl | refine Pm.cons slq ?_):Pm _ _).perm
  .rintro u h' ⟨rfl,(⟨⟨w,bst⟩,⟨hbv2,hb2⟩,rfl⟩ | ⟨_,_,hfalse,_⟩)⟩
   .simp only at hbv2 hb2
    rw [List.take_length,<- hpre] at hb2
    refine ⟨rec,_,slq,(by rw [hst]; simp),?_⟩
    rw [hpe]
    dsimp only
    refine xB<|xB<|xT<|cR<|sV (aI Z Z Z0)<|sM Z<|sN<|nK [4,5,13,14,15] Z<|ax<|jD slq slq ?_
    refine lK (i+1,(w,bst),db::bs) ⟨hlt,hbv2,hb2⟩ (by show _ - _<_ - _; omega) Z ⟨Z,Z,Z,Z,Z,trivial⟩ sbq
   .exact hfalse.elim
 .have hil:i=l.length:=by
   have:¬ i<l.length:=Zx
   omega
  subst hil
  rw [N7] at hbest
  have hbr:best=ring l:=hbest
  refine aB<|xE<|xE<|xY<|xT<|cS<|bC (ork [(0,1),(1,1),(2,1),(3,2),(4,2)] .nil) (λ_=>true) mixed Zz ?_
  refine bu Z (vY Z gq) ?_
  refine bu Z (vY Z gq) ?_
  refine bu Z (yH Z Z underlying40)<|dV Z (vA Z)<|dV Z (vA Z)<|bB<|nK [2,3] Z<|nT<|cT ?_
  rw [show (!wa.isNone)=(ring l).isSome by rw [hwa,hbr]; cases ring l <;> rfl]
  refine Er (bs:=bs) Z Z ⟨NR (.slice wa (best.getD []).length wcp) (best.getD []),Z,_,Z,Z,by rw [hbr]⟩ sbq
end
end Go.Hr
namespace Go.Hr
open Go Go.Ck Go.Proofs Go.Proofs.YtknmacdbffgjgaaGreatDoor Fx
attribute [local irreducible] Go.Ck.Sub St Cd Xt Nx DrL LsW
section
variable {S S':Res} {v v':Value}
end
end Go.Hr
namespace Go.Hr
open Go Go.Ck Go.Proofs Go.Proofs.Tryz Go.Proofs.YtknmacdbffgjgaaGreatDoor Fx
attribute [local irreducible] Go.Ck.Sub St Cd Xt Nx DrL LsW
def ixP (g:Nm->Bool) (xs:List Nm):Int:=match xs.findIdx? g with | some i=>i | none => -1
section
variable {S:Res} {v:Value} {l:Sys} {kf:FuncId} {cp:Array Value} {g:Nm->Bool}
theorem N8 {mb:Nat} (hv:mQ S v l) (hF:Fine l) (hE:Ck.Enters prog kf) (hf:∀ x∈nms l,Reads prog kf (#[]++[sv x].toArray++cp) [S] (.bool (g x))):CtN prog 189 #[.agg #[v,.map (some mb)],.func (.func kf) #[] cp] [S] λu T=>u.oneCell'=true/\T=NR u ((nms l).filter g):=by
 obtain ⟨a,cap,rfl,_⟩:=id hv
 have hFl:=hF.len
 have hnl:(nms l).length=l.length:=by simp [nms]
 refine aJ (n:=26) func189 Z Z (len Z) λhr w0=>?_
 refine cQ (aV Z Z λb2=>?_)
 refine sA Z<|sK [1,2,4] Z<|cQ<|sA Z<|sN<|nT<|cS<|cQ<|sV (vF Z EE Z)<|sV (vY Z ld22) ?_
 refine sV (aC Z underlying22)<|sM Z<|sK [1,4,5,9,10,11] Z<|cB<|dY (dn 9 1)<|aY (σ := Value×Nat) (λq=>[(1,.func (.func kf) #[] cp),(5,q.1),(9,.slice a l.length cap),(10,.int .i64 l.length),(11,.int .i64 (q.2:Nat))]) (λq=>NR q.1 (((nms l).take q.2).filter g)::S::hr) (λq=>q.1.oneCell'=true/\q.2<=l.length) (λq=>l.length - q.2) (.slice none 0 0,0) ⟨Z,Nat.zero_le _⟩ ?_
 rintro ⟨w,i⟩ ⟨hw,hi⟩
 simp only at hw hi
 dsimp only
 refine cQ<|sV (aO Z Z)<|sN<|nT<|cS<|cC Z (λhd=>?_)<|λhd=>?_
 .have hlt:i<l.length:=Zx
  obtain ⟨b,o,cap2,d,f,pa,pc,c2,fa,fc,j2,hv2,hrd,hP,hone⟩:=ul hv<|Zy hlt
  have hlt':i<(nms l).length:=by omega
  have hnm:(nms l)[i]=(l[i]).name:=by simp [nms]
  have hmem:(l[i]).name∈nms l:=by rw [<- hnm]; exact List.getElem_mem hlt'
  have hll:(((nms l).take i).filter g).length<=900000:=Nat.le_trans (List.length_filter_le _ _) (by rw [List.length_take]; omega)
  have ht:((nms l).take (i+1)).filter g=((nms l).take i).filter g++(if g (l[i]).name=true then [(l[i]).name] else []):=by
   rw [List.take_succ_eq_append_getElem hlt',List.filter_append,hnm]
   congr 1
   by_cases hg:g (l[i]).name=true <;> simp [hg]
  refine cK<|xT<|cS<|cB<|cQ<|sV (vI (k:=i) (congrArg some hv2) Z rE Z hlt Z)<|sV (af Z gU Z hrd) ?_
  refine au oU λb7=>?_
  refine ai Z Z mP Z hone ?_
  refine sK [1,5,7,9,10,11] Z<|cQ<|sM Z<|sV (vF Z dR Z)<|sV (vY Z ld9) ?_
  refine bf Z Z hE Z ((hf (l[i]).name hmem)) ?_
  refine sK [1,5,7,9,10,11,18] Z<|cC Z (λhe=>?_)<|λhe=>?_
  .rw [if_pos he] at ht
   refine cR<|sM Z<|sV (vF Z dR Z)<|sV (vY Z ld9) ?_
   refine ak (cells:=[sv (l[i]).name]) Z underlying40 gp Z Z Zz (ltn Z) λb22=>?_
   refine eG [nC (l[i]).name] Z Z underlying40 gp Z (by decide) (show Sel _ (NR w<|((nms l).take i).filter g) _ from slq) (by simp [nC]) Z (λj u2 hu2=>bV<|bZ<|by simpa [nC] using hu2) (by simp [nC,Value.oneCell']) (by rw [List.length_map]; omega) (by rw [List.length_map]; omega) (ltn Z) λw3 hw3 _=>?_
   rw [show (((nms l).take i).filter g).map nC++[nC (l[i]).name]=(((nms l).take (i+1)).filter g).map nC by rw [ht]; simp]
   refine sA Z<|sN<|nK [1,5,9,10,11] Z<|ax<|xB<|xT<|cR<|sV (aI Z Z Z0)<|sM Z<|sN<|nK [1,5,9,10,11] Z<|ax ?_
   refine aL (w3,i+1) ⟨hw3,hlt⟩ (by show _ - _<_ - _; omega)
  .rw [if_neg (by rw [he]; decide),List.append_nil] at ht
   refine cK<|xB<|xT<|cR<|sV (aI Z Z Z0)<|sM Z<|sN<|nK [1,5,9,10,11] Z<|ax ?_
   rw [<- ht]
   refine aL (w,i+1) ⟨hw,hlt⟩ (by show _ - _<_ - _; omega)
 .have hil:i=l.length:=by
   have:¬ i<l.length:=Zx
   omega
  subst hil
  rw [<- hnl,List.take_length]
  refine aB<|xE<|xE<|xY<|xT<|cQ<|sM Z<|sA Z<|sK [4] Z<|cT ?_
  exact aj Z ⟨_,Z,hw,Z⟩ sbq
end
section
variable {S:Res} {v:Value} {l:Sys}
theorem Gt (hv:mQ S v l):Ct prog 63 #[v] [S] λu h'=>u = .tuple #[.int .i64 (check l).1,sv (check l).2]/\h'=[S]:=by
 obtain ⟨a,cap,rfl,_⟩:=id hv
 refine aJ (n:=89) func63 Z Z (len Z) λhr w0=>?_
 refine cQ<|sA Z<|sA Z<|sN<|nT<|cS<|cQ<|sM Z<|sV (aC Z underlying22)<|sV (dh Z Z)<|sK [0,2,3,17] Z<|cC Z (λh24=>?_)<|λh24=>?_
 .have h24:24<l.length:=by
   have:(24:Int)<l.length:=by simpa using h24
   omega
  refine cQ<|sA Z<|sA Z<|sK [2,3] Z<|cT<|xR ?_
  rw [FX h24]
  exact aj Z ⟨Z,Z⟩ sbq
 .have h24:l.length<=24:=by
   have:¬ (24:Int)<l.length:=by simpa using h24
   omega
  refine cK<|xT<|cQ<|sM Z<|aH Z Z en138 Z (Gl hv<|by omega) ?_
  rintro u h' ⟨mb,rfl,rfl⟩
  simp only [lC,lN]
  refine sA Z<|sK [0,2,3,4] Z<|cS<|cQ<|sM Z<|sV (aC Z underlying22)<|sM Z<|sN<|nT<|cB<|aY (σ := Nat) (λi=>[(0,.slice a l.length cap),(4,.map (some mb)),(20,.slice a l.length cap),(21,.int .i64 l.length),(22,.int .i64 (i:Nat))]) (λ_=>mps mb (bN l)::S::hr) (λi=>i<=l.length/\∀ (j:Nat) (y:Cls),j<i->l[j]? = some y->alone l j y=0) (λi=>l.length - i) 0 ⟨Nat.zero_le _,λj y hj=>by omega⟩ ?_
  rintro i ⟨hi,hb⟩
  refine cQ<|sV (aO Z Z)<|sN<|nT<|cS<|cC Z (λhd=>?_)<|λhd=>?_
  .have hlt:i<l.length:=Zx
   have hxi:=Zy hlt
   obtain ⟨b,o,cap2,d,f,pa,pc,c2,fa,fc,j2,hv2,hrd,hP,hone⟩:=ul hv hxi
   generalize l[i]=x at *
   refine cK<|xT<|cS<|cB<|cQ<|sM Z<|sV (vI (k:=i) (congrArg some hv2) Z rE Z hlt Z)<|sV (af Z gU Z hrd) ?_
   refine au oU λb6=>?_
   refine sA Z<|ai Z Z mP Z hone ?_
   refine sK [0,4,5,6,20,21,22] Z<|cB<|cQ<|sV (vF Z eP Z)<|sV (vY Z lD) ?_
   refine sV (aC Z underlying39)<|sV (dh Z Z)<|sA Z<|sK [0,4,5,6,20,21,22,27] Z<|cC Z (λh4=>?_)<|λh4=>?_
   .have h4:4<x.parents.length:=by
     have:(4:Int)<x.parents.length:=by simpa using h4
     omega
    have ha:alone l i x=3:=by unfold alone; rw [if_pos h4]
    refine cS<|bC (ork [(0,2),(1,1),(2,2),(3,2)] .nil) (λ_=>true) mixed Zz ?_
    refine dV Z (vF Z dR Z)<|bu Z (vY Z ld9) ?_
    refine dV Z (vA Z)<|dV Z (vA Z)<|bB<|nK [2,3] Z<|nT<|cT<|xW<|xW<|xR<|xR<|xW<|xR ?_
    rw [mV h24 hxi hb (by rw [ha]; decide),ha]
    exact aj Z ⟨Z,Z⟩ sbq
   .have h4:¬ 4<x.parents.length:=by
     have:¬ (4:Int)<x.parents.length:=by simpa using h4
     omega
    refine cQ<|sV (vF Z dR Z)<|sV (vY Z ld9) ?_
    refine bf Z Z en139 Z (mi x.name) ?_
    refine sV (bg Z)<|sA Z<|sK [0,4,5,6,20,21,22,34] Z<|cC Z (λhnn=>?_)<|λhnn=>?_
    .have hnn:named x.name=false:=by simpa using hnn
     have ha:alone l i x=4:=by unfold alone; rw [if_neg h4,if_pos hnn]
     refine cS<|bC (ork [(0,2),(1,1),(2,2),(3,2)] .nil) (λ_=>true) mixed Zz ?_
     refine dV Z (vF Z dR Z)<|bu Z (vY Z ld9) ?_
     refine dV Z (vA Z)<|dV Z (vA Z)<|bB<|nK [2,3] Z<|nT<|cT<|xW<|xW<|xR<|xR<|xW<|xR ?_
     rw [mV h24 hxi hb (by rw [ha]; decide),ha]
     exact aj Z ⟨Z,Z⟩ sbq
    .have hnn:named x.name=true:=by simpa using hnn
     obtain ⟨k, hk, hki⟩ : ∃ k, idx l x.name = some k /\ k <= i := by
      cases hx:idx l x.name with
      | none =>
       unfold idx at hx
       rw [List.findIdx?_eq_none_iff] at hx
       have:=hx x<|List.mem_of_getElem? hxi
       simp at this
      | some k =>
       refine ⟨k,Z,?_⟩
       obtain ⟨_,_,h3⟩:=List.findIdx?_eq_some_iff_getElem.1 hx
       rcases Nat.lt_or_ge i k with h | h
       .have:=h3 i h
        obtain ⟨_,he⟩:=List.getElem?_eq_some_iff.1 hxi
        rw [he] at this; simp at this
       .exact h
     refine cS<|cQ<|sM Z<|sV (vF Z dR Z)<|sV (vY Z ld9) ?_
     refine sV (gM (show (bR (bN l) x.name).getD (.int .i64 0) = .int .i64 (k:Int) by rw [uq,hk]; rfl)<|bP Z Z gW oN slq) ?_
     refine sM Z<|sV (aO Z Z)<|sA Z<|sK [0,4,6,20,21,22,41] Z<|cC Z (λhk1=>?_)<|λhk1=>?_
     .have hk1:k<i:=by
       have:(k:Int)<i:=by simpa using hk1
       omega
      have ha:alone l i x=6:=by
       unfold alone
       rw [if_neg h4,if_neg (by rw [hnn]; decide),if_pos (.inl (by rw [hk]; intro e; cases e; omega))]
      refine cK<|xT ?_
      rw [show decide ((k:Int)<(i:Int))=true from decide_eq_true (by omega)]
      refine aQ Z ?_
      refine cS<|bC (ork [(0,2),(1,1),(2,2),(3,2)] .nil) (λ_=>true) mixed Zz ?_
      refine dV Z (vF Z dR Z)<|bu Z (vY Z ld9) ?_
      refine dV Z (vA Z)<|dV Z (vA Z)<|bB<|nK [2,3] Z<|nT<|cT<|xW<|xW<|xR<|xR<|xW<|xR ?_
      rw [mV h24 hxi hb (by rw [ha]; decide),ha]
      exact aj Z ⟨Z,Z⟩ sbq
     .have hk1:k=i:=by
       have:¬ (k:Int)<i:=by simpa using hk1
       omega
      subst hk1
      refine cR<|sV (vF Z eP Z)<|sV (vY Z lD) ?_
      refine bf Z Z en140 Z (LD hP<|by omega) ?_
      refine sA Z<|sK [0,4,6,20,21,22,41] Z<|cC Z (λhtw=>?_)<|λhtw=>?_
      .have htw:¬ x.parents.Nodup:=by simpa using htw
       have ha:alone l k x=6:=by
        unfold alone
        rw [if_neg h4,if_neg (by rw [hnn]; decide),if_pos (.inr htw)]
       refine cS<|bC (ork [(0,2),(1,1),(2,2),(3,2)] .nil) (λ_=>true) mixed Zz ?_
       refine dV Z (vF Z dR Z)<|bu Z (vY Z ld9) ?_
       refine dV Z (vA Z)<|dV Z (vA Z)<|bB<|nK [2,3] Z<|nT<|cT<|xW<|xW<|xR<|xR<|xW<|xR ?_
       rw [mV h24 hxi hb (by rw [ha]; decide),ha]
       exact aj Z ⟨Z,Z⟩ sbq
      .have htw:x.parents.Nodup:=by simpa using htw
       have ha:alone l k x=0:=ic.2 ⟨by omega,hnn,hk,htw⟩
       refine cK<|xB<|xB<|xT<|cR<|sV (aI Z Z Z0)<|sM Z<|sN<|nK [0,4,20,21,22] Z<|ax<|aL (k+1) ⟨hlt,λj y hj hy=>?_⟩ (by show _ - _<_ - _; omega)
       by_cases hji:j=k
       .subst hji; rw [hxi] at hy; cases hy; exact ha
       .exact hb j y (by omega) hy
  .have hil:i=l.length:=by
    have:¬ i<l.length:=Zx
    omega
   have hball:∀ (j:Nat) (y:Cls),l[j]? = some y->alone l j y=0:=λj y hj=>hb j y (by rw [hil]; exact (List.getElem?_eq_some_iff.1 hj).1) hj
   refine aB<|xE<|xE<|xY<|xT<|cS<|cQ<|sM Z<|sV (aC Z underlying22)<|sM Z<|sK [0,4,54,55,56] Z<|cB<|aY (σ := Nat) (λi=>[(0,.slice a l.length cap),(4,.map (some mb)),(54,.slice a l.length cap),(55,.int .i64 l.length),(56,.int .i64 (i:Nat))]) (λ_=>mps mb (bN l)::S::hr) (λi=>i<=l.length/\∀ (j:Nat) (y:Cls),j<i->l[j]? = some y->lost l y=false) (λi=>l.length - i) 0 ⟨Nat.zero_le _,λj y hj=>by omega⟩ ?_
   rintro i2 ⟨hi2,hls⟩
   refine cQ<|sV (aO Z Z)<|sN<|nT<|cS<|cC Z (λhd2=>?_)<|λhd2=>?_
   .have hlt:i2<l.length:=Zw
    have hxi:=Zy hlt
    obtain ⟨b,o,cap2,d,f,pa,pc,c2,fa,fc,j2,hv2,hrd,hP,hone⟩:=ul hv hxi
    have hpx:=(ic.1<|hball _ _ hxi).1
    generalize l[i2]=x at *
    refine cK<|xT<|cS<|cB<|cQ<|sV (vI (k:=i2) (congrArg some hv2) Z rE Z hlt Z)<|sV (af Z gU Z hrd) ?_
    refine au oU λb8=>?_
    refine ai Z Z mP Z hone ?_
    refine sK [0,4,8,54,55,56] Z<|cQ<|sV (vF Z eP Z)<|sV (vY Z lD) ?_
    refine sV (aC Z underlying39)<|sM Z<|sK [0,4,8,54,55,56,61,62,63] Z<|cB<|aY (σ := Nat) (λk=>[(0,.slice a l.length cap),(4,.map (some mb)),(8,.pointer (some ⟨b8,0,none⟩)),(54,.slice a l.length cap),(55,.int .i64 l.length),(56,.int .i64 (i2:Nat)),(61,.slice pa x.parents.length pc),(62,.int .i64 x.parents.length),(63,.int .i64 (k:Nat))]) (λ_=>pt b8 (cl [sv x.name,d,f,.slice pa x.parents.length pc,c2,.slice fa x.feats fc,j2] 44)::mps mb (bN l)::S::hr) (λk=>k<=x.parents.length/\∀ (m:Nat) (p:Nm),m<k->x.parents[m]? = some p->isC l p=true) (λk=>x.parents.length - k) 0 ⟨Nat.zero_le _,λj y hj=>by omega⟩ ?_
    rintro k ⟨hk,hpk⟩
    refine cQ<|sV (aO Z Z)<|sN<|nT<|cS<|cC Z (λhd3=>?_)<|λhd3=>?_
    .have hkl:k<x.parents.length:=Zr
     have hpi:=Zy hkl
     obtain ⟨pb,po,pcap,q1,q2,q3,q4,q5,hpv,hprd,hpone⟩:=IW hP hpi
     generalize x.parents[k]=p at *
     refine cK<|xT<|cS<|cB<|cQ<|sV (vI (k:=k) (congrArg some hpv) Z lY Z hkl Z)<|sV (af Z oP Z hprd) ?_
     refine au vO λb10=>?_
     refine ai Z Z qU Z hpone ?_
     refine sK [0,4,8,10,54,55,56,61,62,63] Z<|cQ<|sM Z<|sV (vF Z gV Z)<|sV (vY Z ld9) ?_
     refine sV (d9 Z Z gW oN slq) ?_
     refine sM Z<|sV (ah Z Z)<|sV (ah Z Z)<|sA Z<|sA Z<|sK [0,4,8,12,54,55,56,61,62,63] Z<|cQ<|sM Z<|sV (bg Z)<|sK [0,4,8,54,55,56,61,62,63,75] Z ?_
     rw [rR]
     refine cC Z (λhno=>?_)<|λhno=>?_
     .have hno:isC l p=false:=Zd
      have hlost:lost l x=true:=List.any_eq_true.2 ⟨p,List.mem_of_getElem? hpi,by rw [hno]; rfl⟩
      refine cS<|bC (ork [(0,2),(1,1),(2,2),(3,2)] .nil) (λ_=>true) mixed Zz ?_
      refine dV Z (vF Z dR Z)<|bu Z (vY Z ld9) ?_
      refine dV Z (vA Z)<|dV Z (vA Z)<|bB<|nK [2,3] Z<|nT<|cT<|xW<|xR<|xR<|xW<|xW<|xR<|xR<|xW<|xR ?_
      rw [IJ h24 hball hxi hls hlost]
      exact aj Z ⟨Z,Z⟩ sbq
     .have hno:isC l p=true:=Zd
      refine cK<|xB<|xT<|cR<|sV (aI Z Z Z0)<|sM Z<|sN<|nK [0,4,8,54,55,56,61,62,63] Z<|ax<|aL (k+1) ⟨hkl,λm q hm hq=>?_⟩ (by show _ - _<_ - _; omega)
      by_cases hmk:m=k
      .subst hmk; rw [hpi] at hq; cases hq; exact hno
      .exact hpk m q (by omega) hq
    .have hkl:k=x.parents.length:=by
      have:¬ k<x.parents.length:=Zr
      omega
     refine aB<|xE<|xE<|xY<|xB<|xT<|cR<|sV (aI Z Z Z0)<|sM Z<|sN<|nK [0,4,54,55,56] Z<|ax<|aL (i2+1) ⟨hlt,λj y hj hy=>?_⟩ (by show _ - _<_ - _; omega)
     by_cases hji:j=i2
     .subst hji
      rw [hxi] at hy; cases hy
      unfold lost
      rw [List.any_eq_false]
      intro p hp
      obtain ⟨m,hm⟩:=List.getElem?_of_mem hp
      rw [hpk m p (by rw [hkl]; exact (List.getElem?_eq_some_iff.1 hm).1) hm]; decide
     .exact hls j y (by omega) hy
   .have hil2:i2=l.length:=by
     have:¬ i2<l.length:=Zw
     omega
    have hlall:∀ (j:Nat) (y:Cls),l[j]? = some y->lost l y=false:=λj y hj=>hls j y (by rw [hil2]; exact (List.getElem?_eq_some_iff.1 hj).1) hj
    refine aB<|xE<|xE<|xY<|xT<|cS<|cQ<|sM Z ?_
    have hF:Fine l:=⟨by omega,λx hx=>by
     obtain ⟨j,hj⟩:=List.getElem?_of_mem hx
     have:=(ic.1<|hball j x hj).1
     omega⟩
    refine aH Z Z en142 Z (Ring_ct hv hF) ?_
    rintro u h' ⟨T,rfl,w,rfl,hw,rfl⟩
    simp only [lC,lN]
    refine sM Z<|sV (ah Z Z)<|sV (ah Z Z)<|sA Z<|sA Z<|sK [13,14] Z<|cQ<|sM Z<|sK [13,85] Z ?_
    cases hrg:ring l
    .rw [Nn h24 hball hlall hrg]
     refine aG Z ?_
     refine cK<|xT<|cQ<|sA Z<|sA Z<|sK [2,3] Z<|cT ?_
     exact aj Z ⟨Z,Z⟩ sbq
    .rename_i r
     have hrk:=(ring_ok hrg).1
     cases r with
     | nil=>simp [zH] at hrk
     | cons r0 t =>
      rw [IK h24 hball hlall hrg]
      simp only [Option.getD_some]
      refine fD (r:=NR w (r0::t)) slq λhok=>?_
      obtain ⟨rb,ro,rcp,hrv,hrrd⟩:=um (iX hok) (show (r0::t)[0]? = some r0 from rfl)
      refine aQ Z ?_
      refine cS<|bC (ork [(0,2),(1,2),(2,1),(3,2),(4,2)] .nil) (λ_=>true) mixed Zz ?_
      refine dV Z (vM Z)<|dV Z (vI (k:=0) (congrArg some hrv) Z jG Z (by simp) Z) ?_
      refine bu Z (vY Z ld9) ?_
      refine dV Z (vA Z)<|dV Z (vA Z)<|bB<|nK [2,3] Z<|nT<|cT<|xR ?_
      exact aj Z ⟨Z,Z⟩ sbq
end
end Go.Hr
