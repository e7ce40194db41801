/-
  Package heir: above,has; Go's library: Index,Contains. Conditions: what is read,a system without rings.
-/
import Derived.Test.YtknmacdbffgjgaaGreatDoorM5
import Derived.ArgAppend
import Derived.Test.YtknmacdbffgjgaaGreatDoorM1
set_option linter.unusedVariables false
set_option linter.unusedSimpArgs false
set_option maxRecDepth 100000
set_option maxHeartbeats 16000000
namespace Go.Ck
open Go Go.RowKit

/-! ## Rows that are read -/
def Row {α : Type} (S:Res) (sz:Nat) (X:List Value -> α -> Prop) (v:Value) (l:List α):Prop :=
 ∃ a cap,v = .slice a l.length cap/\l.length≤cap/\cap≤maxLen/\(a=none->cap=0)/\∀ i x,l[i]? = some x->∃ b o us,a=some ⟨b,o,none⟩/\us.length=sz/\Rds S b (o+i * sz) us/\X us x
section
variable {α : Type} {S S':Res} {sz:Nat} {X X':List Value -> α -> Prop} {v:Value} {l:List α}
theorem Row.mono (h:Row S sz X v l) (hr:∀ p u,Rd S p u->Rd S' p u) (hx:∀ us x,x∈l->X us x->X' us x):Row S' sz X' v l:=by
 obtain ⟨a,cap,h1,h2,h3,h4,h5⟩:=h
 refine ⟨a,cap,h1,h2,h3,h4,λi x hi=>?_⟩
 obtain ⟨b,o,us,g1,g2,g3,g4⟩:=h5 i x hi
 exact ⟨b,o,us,g1,g2,λj hj=>hr _ _ (g3 j hj),hx _ _ (List.mem_of_getElem? hi) g4⟩
theorem Row.nil:Row S sz X (.slice none 0 0) []:=⟨none,0,rfl,Nat.le_refl _,Nat.zero_le _,λ_=>rfl,λi x h=>by simp at h⟩
theorem Row.at (h:Row S sz X v l) {i:Nat} {x : α} (hi:l[i]? = some x):∃ b o cap us,v = .slice (some ⟨b,o,none⟩) l.length cap/\us.length=sz/\Rds S b (o+i * sz) us/\X us x:=by
 obtain ⟨a,cap,h1,h2,h3,h4,h5⟩:=h
 obtain ⟨b,o,us,g1,g2,g3,g4⟩:=h5 i x hi
 exact ⟨b,o,cap,us,by rw [h1,g1],g2,g3,g4⟩
theorem Row.one (h:Row S sz X v l):v.oneCell'=true:=by obtain ⟨a,cap,rfl,_⟩:=h; rfl
end
theorem Row.at1 {α : Type} {S:Res} {X:List Value -> α -> Prop} {v:Value} {l:List α} (h:Row S 1 X v l) {i:Nat} {x : α} (hi:l[i]? = some x):∃ b o cap u,v = .slice (some ⟨b,o,none⟩) l.length cap/\Rd S ⟨b,o+i * 1,none⟩ u/\X [u] x:=by
 obtain ⟨b,o,cap,us,h1,h2,h3,h4⟩:=h.at hi
 match us,h2 with
 | [u],_=>exact ⟨b,o,cap,u,h1,by simpa using h3 0 (by simp),h4⟩
theorem lT {r:Res} {b o k:Nat} {us:List Value} {v:Value} (h:Rds r b o us) (hv:us[k]? = some v):Rd r ⟨b,o+k,none⟩ v:=by
 obtain ⟨hk,hv⟩:=List.getElem?_eq_some_iff.1 hv
 subst hv; exact h k hk
theorem bD {r:Res} {b o k:Nat} {us vs:List Value} (h:Rds r b o us) (hv:(us.drop k).take vs.length=vs):Rds r b (o+k) vs:=λi hi=>by
 have h1:us[k+i]? = some vs[i]:=by
  have:vs[i]? = some vs[i]:=Zy hi
  rw [<- this,<- hv,List.getElem?_take,if_pos (by have:=congrArg List.length hv; simp at this; omega),List.getElem?_drop]
 rw [Nat.add_assoc]; exact lT h h1
theorem bH {k:SH} {r:Res} {k':SH} (s:Sel k r k') (p:Addr) (v:Value) (h:Rd r p v):Rd (Res.star k) p v:=rU s h

/-! ## Contracts over many resources as one -/
theorem dn {w:World} {L hr:SH}:Holds w (Res.star L::hr)↔Holds w (L++hr):=dD
theorem eU {P:Program} {k:FuncId} {args:Array Value} {L:SH} {v:Value} (h:Reads P k args [Res.star L] v):Reads P k args L v:=λhr w hh =>
 (h hr w<|dn.2 hh).mono λ_ _ ⟨u,h',he,⟨hu,hh'⟩,hH,hS⟩=>⟨u,L,he,⟨hu,rfl⟩,by subst hh'; exact dn.1 hH,hS⟩
theorem lq {P:Program} {k:FuncId} {args:Array Value} {L:SH} {v:Value} (h:Reads P k args L v):Reads P k args [Res.star L] v:=λhr w hh =>
 (h hr w<|dn.1 hh).mono λ_ _ ⟨u,h',he,⟨hu,hh'⟩,hH,hS⟩=>⟨u,_,he,⟨hu,rfl⟩,by subst hh'; exact dn.2 hH,hS⟩
def CtN (P:Program) (k:FuncId) (args:Array Value) (hf:SH) (Q:Value->Res->Prop):Prop:=Ct P k args hf λu h'=>∃ T,h'=T::hf/\Q u T
theorem j4 {P:Program} {k:FuncId} {args:Array Value} {L:SH} {Q:Value->Res->Prop} (h:CtN P k args [Res.star L] Q):CtN P k args L Q:=λhr w hh =>
 (h hr w<|dn.2 hh).mono λ_ _ ⟨u,h',he,⟨T,hT,hQ⟩,hH,hS⟩=>⟨u,T::L,he,⟨T,rfl,hQ⟩,by
  subst hT
  have h1:Holds _ (T::Res.star L::hr):=hH
  have h2:Holds _ (Res.star L::T::hr):=h1.perm<|.swap _ _ _
  exact (dn.1 h2).perm List.perm_middle,hS⟩
theorem CtN.mono {P:Program} {k:FuncId} {args:Array Value} {hf:SH} {Q Q':Value->Res->Prop} (h:CtN P k args hf Q) (hq:∀ u T,Q u T->Q' u T):CtN P k args hf Q':=Ct.mono h λ_ _ ⟨T,h1,h2⟩=>⟨T,h1,hq _ _ h2⟩

/-! ## Rows that are owned -/
def VR (v:Value) (E:TypeId) (sz:Nat) (rows:List (List Value)):Res where
 dom b:=∃ o m cp,v = .slice (some ⟨b,o,none⟩) m cp
 ok f:=(∀ r∈rows,r.length=sz)/\((v = .slice none 0 0/\rows=[])∨∃ b o cp pre j,v = .slice (some ⟨b,o,none⟩) rows.length cp/\f b=some (cl (pre++(rows.flatten++j)) E)/\pre.length=o/\rows.length≤cp/\cp≤maxLen/\cp * sz≤(rows.flatten++j).length)
 loc f g he:=λ⟨h1,h2⟩=>⟨h1,h2.imp id λ⟨b,o,cp,pre,j,hv,hb,hr⟩=>⟨b,o,cp,pre,j,hv,by rw [<- he b ⟨o,_,cp,hv⟩]; exact hb,hr⟩⟩
 pres f:=λ⟨_,h2⟩ b ⟨o,m,cp,hv⟩=>by
  rcases h2 with ⟨h3,_⟩ | ⟨b',o',cp',pre,j,h3,hb,_⟩
  ·rw [h3] at hv; cases hv
  ·rw [h3] at hv; cases hv; rw [hb]; rfl
section
variable {v:Value} {E:TypeId} {sz:Nat} {rows:List (List Value)} {f:Nat->Option Obj}
theorem VR.form (h:(VR v E sz rows).ok f):(v = .slice none 0 0/\rows=[])∨∃ b o cp,v = .slice (some ⟨b,o,none⟩) rows.length cp/\rows.length≤cp/\cp≤maxLen:=by
 rcases h.2 with h | ⟨b,o,cp,_,_,h1,_,_,h2,h3,_⟩
 ·exact .inl h
 ·exact .inr ⟨b,o,cp,h1,h2,h3⟩
theorem VR.one (h:(VR v E sz rows).ok f):v.oneCell'=true:=by rcases VR.form h with ⟨rfl,_⟩ | ⟨_,_,_,rfl,_⟩ <;> rfl
theorem VR.nil:(VR (.slice none 0 0) E sz []).ok f:=⟨by simp,.inl ⟨rfl,rfl⟩⟩
theorem pG {rows:List (List Value)} {sz m k:Nat} {r:List Value} {x:Value} (h:∀ r∈rows,r.length=sz) (hm:rows[m]? = some r) (hk:r[k]? = some x):rows.flatten[m * sz+k]? = some x:=by
 induction rows generalizing m with
 | nil=>simp at hm
 | cons q t ih =>
  have hq:=h q<|by simp
  cases m with
  | zero =>
   simp only [List.getElem?_cons_zero,Option.some.injEq] at hm
   subst hm
   rw [List.flatten_cons,Nat.zero_mul,Nat.zero_add,List.getElem?_append_left (List.getElem?_eq_some_iff.1 hk).1]; exact hk
  | succ m =>
   rw [List.getElem?_cons_succ] at hm
   rw [List.flatten_cons,List.getElem?_append_right (by rw [hq,Nat.succ_mul]; omega),hq,<- ih (λr hr=>h r<|by simp [hr]) hm]
   congr 1
   rw [Nat.succ_mul]; omega
theorem jk {rows:List (List Value)} {sz:Nat} (h:∀ r∈rows,r.length=sz):rows.flatten.length=rows.length * sz:=by
 induction rows with
 | nil=>simp
 | cons q t ih=>rw [List.flatten_cons,List.length_append,h q (by simp),ih (λr hr=>h r (by simp [hr])),List.length_cons,Nat.succ_mul]; omega
theorem FI {rows:List (List Value)} {sz j:Nat} {x:Value} (h:∀ r∈rows,r.length=sz) (hj:rows.flatten[j]? = some x):∃ m k r,j=m * sz+k/\rows[m]? = some r/\r[k]? = some x:=by
 induction rows generalizing j with
 | nil=>simp at hj
 | cons q t ih =>
  have hq:=h q<|by simp
  rw [List.flatten_cons] at hj
  by_cases hjq:j<q.length
  ·rw [List.getElem?_append_left hjq] at hj
   exact ⟨0,j,q,by simp,Z,hj⟩
  ·rw [List.getElem?_append_right (by omega)] at hj
   obtain ⟨m,k,r,h1,h2,h3⟩:=ih (λr hr=>h r<|by simp [hr]) hj
   exact ⟨m+1,k,r,by rw [Nat.succ_mul]; omega,h2,h3⟩
theorem Row.cells {α : Type} {S : Res} {X : List Value -> α -> Prop} {a : Option Addr} {n cp : Nat} : ∀ {l : List α}, Row S sz X (.slice a n cp) l -> ∃ rows : List (List Value), rows.length = l.length /\ (∀ r ∈ rows, r.length = sz) /\ (∀ (i : Nat) us x, rows[i]? = some us -> l[i]? = some x -> X us x) /\
  ∀ j u,rows.flatten[j]? = some u->∃ b o,a=some ⟨b,o,none⟩/\Rd S ⟨b,o+j,none⟩ u:=λ{l} h=>by
 obtain ⟨a',cap,h1,_,_,_,h5⟩:=h
 cases h1
 have key : ∀ (k : Nat), k ≤ l.length -> ∃ rows : List (List Value), rows.length = k /\ ∀ (i : Nat) us, rows[i]? = some us -> ∃ x b o, l[i]? = some x /\ a = some ⟨b, o, none⟩ /\ us.length = sz /\ Rds S b (o + i * sz) us /\ X us x := by
  intro k
  induction k with
  | zero=>exact λ_=>⟨[],rfl,λi us h=>by simp at h⟩
  | succ k ih =>
   intro hk
   obtain ⟨rows,g1,g2⟩:=ih<|by omega
   obtain ⟨b,o,us,e1,e2,e3,e4⟩:=h5 k l[k]<|Zy<|by omega
   refine ⟨rows++[us],by simp [g1],λi us' hi=>?_⟩
   by_cases hik:i<rows.length
   ·rw [List.getElem?_append_left hik] at hi; exact g2 i us' hi
   ·rw [List.getElem?_append_right (by omega)] at hi
    have hi0:i - rows.length=0:=by
     have:=(List.getElem?_eq_some_iff.1 hi).1
     simp at this; omega
    rw [hi0] at hi
    simp only [List.getElem?_cons_zero,Option.some.injEq] at hi
    subst hi
    have:i=k:=by omega
    subst this
    exact ⟨l[i],b,o,Zy (by omega),e1,e2,e3,e4⟩
 obtain ⟨rows,g1,g2⟩:=key l.length<|Nat.le_refl _
 have hsz:∀ r∈rows,r.length=sz:=λr hr=>by
  obtain ⟨i,hi,rfl⟩:=List.mem_iff_getElem.1 hr
  obtain ⟨_,_,_,_,_,e2,_⟩:=g2 i _<|Zy hi
  exact e2
 refine ⟨rows,g1,hsz,λi us x hi hx=>?_,λj u hj=>?_⟩
 ·obtain ⟨x',b,o,e0,_,_,_,e4⟩:=g2 i us hi
  rw [hx] at e0; cases e0; exact e4
 ·obtain ⟨m,k,r,rfl,e1,e2⟩:=FI hsz hj
  obtain ⟨x,b,o,_,e3,e4,e5,_⟩:=g2 m r e1
  exact ⟨b,o,e3,by have:=lT e5 e2; rwa [Nat.add_assoc] at this⟩
theorem eX {b o n cp m:Nat} {r:List Value} (hm:rows[m]? = some r):Rds (VR (.slice (some ⟨b,o,none⟩) n cp) E sz rows) b (o+m * sz) r:=λi hi w hw=>by
 obtain ⟨h1,h2⟩:=hw
 rcases h2 with ⟨h3,_⟩ | ⟨b',o',cp',pre,j,h3,hb,hp,_⟩
 ·cases h3
 ·cases h3
  have hb':w.heap[b]? = _:=hb
  have h4:=pG h1 hm<|Zy hi
  have hlt:=(List.getElem?_eq_some_iff.1 h4).1
  simp only [World.cell?,hb',cl,List.getElem?_toArray,Option.isSome_none,Bool.false_eq_true,if_false]
  rw [List.getElem?_append_right (by omega),hp,show o+m * sz+i - o=m * sz+i by omega,List.getElem?_append_left hlt,h4]
theorem Nt {α : Type} {X:List Value -> α -> Prop} {l:List α} {S:Res} (hok:∃ f,(VR v E sz rows).ok f) (hl:rows.length=l.length) (hr:∀ p u,Rd (VR v E sz rows) p u->Rd S p u) (hx:∀ (i:Nat) us x,rows[i]? = some us->l[i]? = some x->X us x):Row S sz X v l:=by
 obtain ⟨f,hf⟩:=hok
 rcases VR.form hf with ⟨rfl,h1⟩ | ⟨b,o,cp,rfl,h1,h2⟩
 ·have hl0:l=[]:=List.eq_nil_of_length_eq_zero (by rw [<- hl,h1]; rfl)
  subst hl0; exact Row.nil
 ·refine ⟨some ⟨b,o,none⟩,cp,by rw [hl],by omega,h2,(λh=>by cases h),λi x hi=>?_⟩
  have hlt:i<rows.length:=by rw [hl]; exact (List.getElem?_eq_some_iff.1 hi).1
  have hri:rows[i]? = some rows[i]:=Zy hlt
  exact ⟨b,o,rows[i],Z,hf.1 _ (List.getElem_mem hlt),λj hj=>hr _ _ (eX hri j hj),hx i _ _ hri hi⟩
end

/-! ### What is done to them -/
section
variable {w:World} {v:Value} {E:TypeId} {sz:Nat} {rows:List (List Value)} {h:SH}
theorem Holds.vr_nil (hh:Holds w h) (E:TypeId) (sz:Nat):Holds w (VR (.slice none 0 0) E sz []::h):=⟨VR.nil,(λ_ ⟨_,_,_,hv⟩=>by cases hv),hh⟩
theorem Holds.vr_take {b o n cp m:Nat} (hh:Holds w (VR (.slice (some ⟨b,o,none⟩) n cp) E sz rows::h)) (hm:m≤rows.length) :
  Holds w (VR (.slice (some ⟨b,o,none⟩) m cp) E sz (rows.take m)::h):=by
 obtain ⟨⟨h1,h2⟩,hd,ht⟩:=hh
 rcases h2 with ⟨h3,_⟩ | ⟨b',o',cp',pre,j,h3,hb,hp,hc1,hc2,hc3⟩
 ·cases h3
 ·cases h3
  have hsp:rows.flatten=(rows.take m).flatten++(rows.drop m).flatten:=by rw [<- List.flatten_append,List.take_append_drop]
  refine ⟨⟨λq hq=>h1 q (List.mem_of_mem_take hq),.inr ⟨b,o,cp,pre,(rows.drop m).flatten++j,by rw [List.length_take,Nat.min_eq_left hm],by rw [hb,hsp,List.append_assoc],hp,by rw [List.length_take]; omega,hc2,?_⟩⟩,λc ⟨o',m',cp',hv⟩=>?_,ht⟩
  ·rw [<- List.append_assoc,<- hsp]; exact hc3
  ·cases hv; exact hd _ ⟨_,_,_,rfl⟩
theorem Holds.vr_of {b n:Nat} {cells:List Value} (hh:Holds w (pt b (cl cells E)::h)) (hc:cells=rows.flatten) (h1:∀ r∈rows,r.length=sz) (hn:rows.length=n) (hm:n≤maxLen):Holds w (VR (.slice (some ⟨b,0,none⟩) n n) E sz rows::h):=by
 subst hn hc
 refine ⟨⟨h1,.inr ⟨b,0,_,[],[],Z,?_,Z,Nat.le_refl _,hm,by rw [List.append_nil,jk h1]; exact Nat.le_refl _⟩⟩,λc ⟨o',m',cp',hv⟩=>?_,hh.2.2⟩
 ·have:=hh.1
  simpa [pt] using this
 ·cases hv; exact hh.2.1 _ rfl

theorem Ba {P : Program} {t : TypeId} (ty : TypeId) {z : Value} {bytes : Nat} (ht : P.underlying t = some (.slice E)) (hE : Inf P E z sz bytes) (hzs : z.cells.size = sz) (hsz : 0 < sz)
  (hh:Holds w (VR v E sz rows::h)) {src:Addr} {m cp:Nat} {news:List (List Value)} (hn1:∀ r∈news,r.length=sz) (hl:news.length=m)
  (hnews:∀ j u,news.flatten[j]? = some u->w.cell? (src.add j)=some u) (h1:∀ u∈news.flatten,u.oneCell'=true) (hb:(rows.length+m) * bytes≤140737488355328) (h63:rows.length+m≤9223372036854775807) :
  ∃ v' w',(Builtin.append_ #[t,t] ty #[v,.slice (some src) m cp]).run P w = .ok v' w'/\Holds w' (VR v' E sz (rows++news)::h)/\Same w w'/\(v' = .slice none 0 0↔v = .slice none 0 0/\m=0):=by
 obtain ⟨i,hi,hz,hisz,hiby⟩:=hE.parts
 subst hisz hiby
 have hok:(VR v E i.size rows).ok (hp w):=hh.1
 have hmax:maxLen=9223372036854775807:=rfl
 have hall:∀ r∈rows++news,r.length=i.size:=λr hr=>(List.mem_append.1 hr).elim (hok.1 r)<|hn1 r
 have hnl:news.flatten.length=m * i.size:=by rw [jk hn1,hl]
 have hrl:rows.flatten.length=rows.length * i.size:=jk hok.1
 have newrow : ∀ (old : Nat), old < rows.length + m -> ∀ w1 : World, w1 = w.drew.alloc (.cells (rows.flatten.toArray ++ news.flatten.toArray ++ Builtin.zeroCells z.cells (grownCap w (rows.length + m) old E - (rows.length + m))) E) ->
   Holds w1 (VR (.slice (some ⟨w.heap.size,0,none⟩) (rows.length+m)<|grownCap w (rows.length+m) old E) E i.size (rows++news)::h)/\Same w w1:=by
  intro old ho w1 hw1
  have hge:=grownCap_ge w (rows.length+m) old E
  have hcm:grownCap w (rows.length+m) old E≤maxLen:=grownCap_le_maxLen w (rows.length+m) old E (by rw [hmax]; exact h63)
  have hH:Holds w.drew h:=Holds.grew hh.2.2<|Grew.drawn w _
  have hA:=Holds.alloc hH<|.cells (rows.flatten.toArray++news.flatten.toArray++Builtin.zeroCells z.cells (grownCap w (rows.length+m) old E - (rows.length+m))) E
  have hobj:(Obj.cells (rows.flatten.toArray++news.flatten.toArray++Builtin.zeroCells z.cells (grownCap w (rows.length+m) old E - (rows.length+m))) E)=cl ([]++((rows++news).flatten++(Builtin.zeroCells z.cells (grownCap w (rows.length+m) old E - (rows.length+m))).toList)) E:=by
   simp only [cl,Obj.cells.injEq,and_true]
   apply Array.ext'
   simp
  rw [hobj] at hA
  refine ⟨?_,?_⟩
  ·rw [hw1,hobj]
   refine ⟨⟨hall,.inr ⟨w.heap.size,0,_,[],_,by rw [List.length_append,hl],hA.1,Z,by rw [List.length_append,hl]; exact hge,hcm,?_⟩⟩,λb ⟨o',m',cp',hv⟩=>?_,hA.2.2⟩
   ·have hzl:(Builtin.zeroCells z.cells (grownCap w (rows.length+m) old E - (rows.length+m))).toList.length=(grownCap w (rows.length+m) old E - (rows.length+m)) * i.size:=by rw [Array.length_toList,size_zeroCells,hzs]
    rw [List.length_append,jk hall,List.length_append,hl,hzl,<- Nat.add_mul]
    apply Nat.mul_le_mul_right; omega
   ·cases hv; exact hA.2.1 _ rfl
  ·rw [hw1]; exact (Grew.drawn w _).toSame.trans (Grew.alloc _ _ rfl).toSame
 rcases hok.2 with ⟨rfl,rfl⟩ | ⟨g,o,cap,pre,j,rfl,hg,hpo,hnc,hcm,hcs⟩
 ·by_cases hm:m=0
  ·subst hm
   have hn:news=[]:=List.eq_nil_of_length_eq_zero hl
   subst hn
   refine ⟨.slice none 0 0,w,?_,hh,Same.refl w,by simp⟩
   simp [Builtin.append_,run_underlying ht,sizeOf,typeInfo,hi,Builtin.lenOf,Builtin.firstCells,loadCells,loadCellsFrom]
  ·have hr:=run_append_nil (P:=P) w t ty E i z ht hi hz src m cp news.flatten hnl hnews (by omega) (by simp only [List.length_nil] at h63; omega) (by simp only [List.length_nil,Nat.zero_add] at hb; omega)
   have:=newrow 0 (by omega) _ rfl
   simp only [List.length_nil,Nat.zero_add,List.nil_append,List.flatten_nil,Array.empty_append] at this hr ⊢
   exact ⟨_,_,hr,this.1,this.2,by simp [hm]⟩
 ·have hg' : w.heap[g]? = some (.cells (pre ++ (rows.flatten ++ j)).toArray E (0, 0)) := hg
  by_cases hroom:rows.length+m≤cap
  ·have hfit:o+rows.length * i.size+0+news.flatten.length≤(pre++(rows.flatten++j)).toArray.size:=by
    rw [hnl,List.size_toArray,List.length_append,hpo]
    have:(rows.length+m) * i.size≤cap * i.size:=Nat.mul_le_mul_right _ hroom
    rw [Nat.add_mul] at this
    omega
   have hst:=run_storeCells_at P g (o+rows.length * i.size) E news.flatten 0 _ w hg' hfit h1
   simp only [Nat.add_zero] at hst
   have hfc:=run_firstCells_some (P:=P) w i.size m src m cp news.flatten hnl hnews
   have hr:(Builtin.append_ #[t,t] ty #[.slice (some ⟨g,o,none⟩) rows.length cap,.slice (some src) m cp]).run P w = .ok (.slice (some ⟨g,o,none⟩) (rows.length+m) cap) (w.setRow g ((pre++(rows.flatten++j)).toArray.toList.take (o+rows.length * i.size)++news.flatten++(pre++(rows.flatten++j)).toArray.toList.drop (o+rows.length * i.size+news.flatten.length)).toArray):=by
    simp [Builtin.append_,run_underlying ht,sizeOf,typeInfo,hi,Builtin.lenOf,hroom,hfc,Addr.add_lit,hst]
   have hset:=setRow_heap w g (pre++(rows.flatten++j)).toArray ((pre++(rows.flatten++j)).toArray.toList.take (o+rows.length * i.size)++news.flatten++(pre++(rows.flatten++j)).toArray.toList.drop (o+rows.length * i.size+news.flatten.length)).toArray E (0,0) hg'
   refine ⟨_,_,hr,?_,⟨rfl,rfl,rfl,Nat.le_refl _,by simp,oP (b:=g) (λo ho=>by rw [hg'] at ho; cases ho; rfl) (λo ho=>by rw [hset] at ho; cases ho; rfl) λc hc=>setRow_other w g c _ hc⟩,by simp⟩
   have htk:(pre++(rows.flatten++j)).take (o+rows.length * i.size)=pre++rows.flatten:=by
    rw [<- List.append_assoc,List.take_left' (by rw [List.length_append,hpo,hrl])]
   have hdr:(pre++(rows.flatten++j)).drop (o+rows.length * i.size+news.flatten.length)=j.drop news.flatten.length:=by
    rw [<- List.drop_drop,<- List.append_assoc,List.drop_left' (by rw [List.length_append,hpo,hrl])]
   simp only [htk,hdr] at hset ⊢
   refine ⟨⟨hall,.inr ⟨g,o,cap,pre,j.drop news.flatten.length,by rw [List.length_append,hl],?_,hpo,by rw [List.length_append,hl]; exact hroom,hcm,?_⟩⟩,λb ⟨o',m',cp',hv⟩=>?_,?_⟩
   ·show w.setRow g _ |>.heap[g]? = _
    rw [hset]; simp [cl]
   ·rw [List.length_append,List.length_drop,jk hall,List.length_append,hl,hnl]
    rw [List.length_append,hrl] at hcs
    have h5:(rows.length+m) * i.size≤cap * i.size:=Nat.mul_le_mul_right _ hroom
    rw [Nat.add_mul] at h5 ⊢
    omega
   ·cases hv; exact hh.2.1 _ ⟨_,_,_,rfl⟩
   ·exact bu.loc hh.2.2 λb hb=>(setRow_other w g b _<|λe=>hh.2.1 b ⟨o,rows.length,cap,by rw [e]⟩ hb).symm
  ·have holds:∀ k u,rows.flatten[k]? = some u->w.cell? ((⟨g,o,none⟩:Addr).add k)=some u:=λk u hu=>by
    rw [Addr.add_lit]
    have hlt:=(List.getElem?_eq_some_iff.1 hu).1
    simp only [World.cell?,hg',List.getElem?_toArray,Option.isSome_none,Bool.false_eq_true,if_false]
    rw [List.getElem?_append_right (by omega),hpo,show o+k - o=k by omega,List.getElem?_append_left hlt,hu]
   have hr:=run_append_grow (P:=P) w t ty E i z ht hi hz ⟨g,o,none⟩ rows.length cap rows.flatten hrl holds src m cp news.flatten hnl hnews (by omega) (by omega)<|growslice_fits (by omega) hb
   have:=newrow cap (by omega) _ rfl
   exact ⟨_,_,hr,this.1,this.2,by simp⟩
end

section
variable {P:Program} {e:Env} {h h':SH} {ty:TypeId}
theorem Nu {b o n cp m k sz:Nat} {E:TypeId} {rows:List (List Value)} {r:List Value} {v:Value} (hm:rows[m]? = some r) (hk:r[k]? = some v):Rd (VR (.slice (some ⟨b,o,none⟩) n cp) E sz rows) ⟨b,o+m * sz+k,none⟩ v:=lT (eX hm) hk
theorem mP {T E : TypeId} {x y : Operand} {b o n cp lo sz : Nat} {i : Int} {k : IntKind} (hx : e.ev? x = some (.slice (some ⟨b, o, none⟩) n cp)) (hy : e.ev? y = some (.int k i)) (hT : SlE P T E sz)
  (hi':i=(lo:Int)) (h1:lo≤n) (hc:n≤cp):Vop P e h (.slice T x (some y) none none) ty (.slice (some ⟨b,if cp=lo then o else o+lo * sz,none⟩) (n - lo) (cp - lo)):=
 ⟨by simp,by simp,λρ w d pos after g hρ _=>by
  subst hi'
  have hT':P.underlying T=some (.slice<|P.elem T):=by simp [Program.elem,hT.1]
  have he:P.elem T=E:=by simp [Program.elem,hT.1]
  have hr:=run_slice_l (P:=P) w T (some ⟨b,o,none⟩) n cp hT' k lo (by omega)<|by omega
  have hs:sliced (some ⟨b,o,none⟩) lo n cp sz = .slice (some ⟨b,if cp=lo then o else o+lo * sz,none⟩) (n - lo) (cp - lo):=by
   unfold sliced; by_cases hcl:cp=lo <;> simp [hcl,Addr.add_lit]
  simp only [he,hT.2 w,Result.andThen_ok,Int.toNat_natCast,hs] at hr
  simp only [execOp,hρ x _ hx,Option.map_some,Option.map_none,hρ y _ hy,Sem.run_bind,run_sliceAt_slice w T _ _ _ _ hT',hr,Result.andThen_ok,Sem.run_pure]⟩
theorem j6 {T E : TypeId} {x y : Operand} {b o n cp hi sz : Nat} {i : Int} {k : IntKind} (hx : e.ev? x = some (.slice (some ⟨b, o, none⟩) n cp)) (hy : e.ev? y = some (.int k i)) (hT : SlE P T E sz)
  (hi':i=(hi:Int)) (h1:hi≤cp):Vop P e h (.slice T x none (some y) none) ty (.slice (some ⟨b,o,none⟩) hi cp):=
 ⟨by simp,by simp,λρ w d pos after g hρ _=>by
  subst hi'
  have hT':P.underlying T=some (.slice<|P.elem T):=by simp [Program.elem,hT.1]
  have he:P.elem T=E:=by simp [Program.elem,hT.1]
  have hr:=run_slice_h (P:=P) w T (some ⟨b,o,none⟩) n cp hT' k hi (by omega)<|by omega
  have hs:sliced (some ⟨b,o,none⟩) 0 hi cp sz = .slice (some ⟨b,o,none⟩) hi cp:=by
   unfold sliced; by_cases hcl:cp=0 <;> simp [hcl,Addr.add_lit]
  simp only [he,hT.2 w,Result.andThen_ok,Int.toNat_natCast,Int.toNat_zero,hs] at hr
  simp only [execOp,hρ x _ hx,Option.map_some,Option.map_none,hρ y _ hy,Sem.run_bind,run_sliceAt_slice w T _ _ _ _ hT',hr,Result.andThen_ok,Sem.run_pure]⟩
end

/-! ## What is known without a step -/
section
variable {c:Cx} {ops:Array Oper} {K:Act->World->Prop} {rest:List Oper} {e:Env} {h h':SH} {Q:Exit->Act->World->Prop} {x:Code} {ex:Exit} {r:Res}
theorem fQ (s:Sel h r h') (hc:(∃ f,r.ok f)->Cd c x Q e h):Cd c x Q e h:=λa w hk hh hw=>hc ⟨_,(hh.sel s).1⟩ a w hk hh hw
theorem oF (s:Sel h r h') (hc:(∃ f,r.ok f)->St c ops K rest e h):St c ops K rest e h:=λa w hk hh hw=>hc ⟨_,(hh.sel s).1⟩ a w hk hh hw
theorem dZ (s:Sel h r h') (hc:(∃ f,r.ok f)->Xt c ex Q e h):Xt c ex Q e h:=λa w hk hh hw=>hc ⟨_,(hh.sel s).1⟩ a w hk hh hw
def Vw (h h':SH):Prop:=∀ w:World,Holds w h->Holds w h'
theorem dK (hv:Vw h h') (hc:Cd c x Q e h'):Cd c x Q e h:=λa w hk hh hw=>hc a w hk (hv w hh) hw
theorem qp (hv:Vw h h') (hc:St c ops K rest e h'):St c ops K rest e h:=λa w hk hh hw=>hc a w hk (hv w hh) hw
theorem jG (hv:Vw h h') (hc:Xt c ex Q e h'):Xt c ex Q e h:=λa w hk hh hw=>hc a w hk (hv w hh) hw
theorem Vw.sel {k:SH} (s:Sel h r h') (hv:Vw (r::h') k):Vw h k:=λw hh=>hv w<|hh.sel s
theorem Vw.pk {k hr m:SH} (p:Pk h k hr) (hv:Vw (k++hr) m):Vw h m:=λw hh=>hv w<|hh.pk p
theorem Vw.trans {a b d:SH} (p:Vw a b) (q:Vw b d):Vw a d:=λw h=>q w<|p w h
theorem Vw.refl:Vw h h:=λ_ hh=>hh
theorem Vw.frame {a b:SH} (hv:Vw a b) (hl:∀ w:World,Holds w a->∀ x,SH.dom b x->SH.dom a x) {k:SH}:Vw (a++k) (b++k):=λw hh=>by
 obtain ⟨h1,h2,h3⟩:=bu.append.1 hh
 exact bu.append.2 ⟨hv w h1,h2,λx hx=>h3 x<|hl w h1 x hx⟩
theorem eQ {L k:SH}:Vw (L++k) (Res.star L::k):=λ_ hh=>dn.2 hh
end

/-! ## Rows -/
section
variable {v:Value} {E:TypeId} {sz:Nat} {rows rows':List (List Value)} {h h':SH}
theorem yR {b o n cp m:Nat} (hm:m≤rows.length):Vw (VR (.slice (some ⟨b,o,none⟩) n cp) E sz rows::h) (VR (.slice (some ⟨b,o,none⟩) m cp) E sz (rows.take m)::h):=λ_ hh=>hh.vr_take hm
theorem vw_of {b n:Nat} {cells:List Value} (rows:List (List Value)) (hc:cells=rows.flatten) (h1:∀ r∈rows,r.length=sz) (hn:rows.length=n) (hm:n≤maxLen):Vw (pt b (cl cells E)::h) (VR (.slice (some ⟨b,0,none⟩) n n) E sz rows::h):=λ_ hh=>hh.vr_of hc h1 hn hm
theorem cZ (E:TypeId) (sz:Nat):Vw h (VR (.slice none 0 0) E sz []::h):=λ_ hh=>hh.vr_nil E sz
end
section
variable {c:Cx} {ops:Array Oper} {K:Act->World->Prop} {rest:List Oper} {e:Env} {h h':SH} {Q:Exit->Act->World->Prop} {x:Code} {ex:Exit}
variable {v:Value} {E:TypeId} {sz:Nat} {rows rows':List (List Value)}
theorem cd_row (s:Sel h (VR v E sz rows) h') (h0:v = .slice none 0 0->rows=[]->Cd c x Q e h) (h1:∀ b o cp,v = .slice (some ⟨b,o,none⟩) rows.length cp->rows.length≤cp->cp≤maxLen->Cd c x Q e h):Cd c x Q e h :=
 fQ s λ⟨_,hf⟩=>(VR.form hf).elim (λ⟨a,b⟩=>h0 a b) λ⟨b,o,cp,h2,h3,h4⟩=>h1 b o cp h2 h3 h4
theorem st_row (s:Sel h (VR v E sz rows) h') (h0:v = .slice none 0 0->rows=[]->St c ops K rest e h) (h1:∀ b o cp,v = .slice (some ⟨b,o,none⟩) rows.length cp->rows.length≤cp->cp≤maxLen->St c ops K rest e h):St c ops K rest e h :=
 oF s λ⟨_,hf⟩=>(VR.form hf).elim (λ⟨a,b⟩=>h0 a b) λ⟨b,o,cp,h2,h3,h4⟩=>h1 b o cp h2 h3 h4
theorem gz (s:Sel h (VR v E sz rows) h') (hc:∀ a cp,v = .slice a rows.length cp->rows.length≤cp->cp≤maxLen->Cd c x Q e h):Cd c x Q e h :=
 cd_row s (λh1 h2=>hc none 0 (by rw [h1,h2]; rfl) (by rw [h2]; exact Nat.le_refl _)<|Nat.zero_le _) λb o cp h1 h2 h3=>hc _ cp h1 h2 h3
theorem jB (s:Sel h (VR v E sz rows) h') (hc:∀ a cp,v = .slice a rows.length cp->rows.length≤cp->cp≤maxLen->St c ops K rest e h):St c ops K rest e h :=
 st_row s (λh1 h2=>hc none 0 (by rw [h1,h2]; rfl) (by rw [h2]; exact Nat.le_refl _)<|Nat.zero_le _) λb o cp h1 h2 h3=>hc _ cp h1 h2 h3
theorem Ki {d:Nat} {t ty:TypeId} {x y:Operand} {pos:String} {after:Array Edge} {z:Value} {bytes m cp:Nat} {src:Addr} (news:List (List Value))
  (hx:e.ev? x=some v) (hy:e.ev? y=some (.slice (some src) m cp)) (ht:c.P.underlying t=some (.slice E)) (hE:Inf c.P E z sz bytes) (hzs:z.cells.size=sz) (hsz:0<sz)
  (hs:Sel h (VR v E sz rows) h') (hn1:∀ r∈news,r.length=sz) (hl:news.length=m) (hnews:∀ j u,news.flatten[j]? = some u->At h (src.add j) u) (h1:∀ u∈news.flatten,u.oneCell'=true)
  (hb:(rows.length+m) * bytes≤140737488355328) (h63:rows.length+m≤9223372036854775807) (hd:d<c.n)
  (hnx:∀ v',v'.oneCell'=true->(v' = .slice none 0 0↔v = .slice none 0 0/\m=0)->St c ops K rest ((d,v')::e) (VR v' E sz (rows++news)::h')) :
  St c ops K (⟨some d,.call { callee:=.builtin .append,args := #[x,y],argTypes := #[t,t] },ty,pos,after,none⟩::rest) e h :=
 eF (by simp) λa w hk hh hw=>by
  obtain ⟨v',w',hr,hH,hS,hv⟩:=Ba (P:=c.P) ty ht hE hzs hsz (hh.sel hs) (src:=src) (cp:=cp) hn1 hl (λj u hu=>(hnews j u hu).cell hh) h1 hb h63
  simp only [execOp,resolve,invoke,builtin,hk.ev hx,hk.ev hy,Sem.run_bind,Sem.run_pure,Result.andThen_ok,List.map_toArray,List.map_cons,List.map_nil,hr]
  exact hnx v' (VR.one hH.1) hv _ w' (hk.put _ hd) hH<|hw.trans hS
theorem d9 {d:Nat} {t ty:TypeId} {x y:Operand} {pos:String} {after:Array Edge} {z:Value} {bytes sb so m cp:Nat} (news:List (List Value))
  (hx:e.ev? x=some v) (hy:e.ev? y=some (.slice (some ⟨sb,so,none⟩) m cp)) (ht:c.P.underlying t=some (.slice E)) (hE:Inf c.P E z sz bytes) (hzs:z.cells.size=sz) (hsz:0<sz)
  (hs:Sel h (VR v E sz rows) h') (hn1:∀ r∈news,r.length=sz) (hl:news.length=m) (hnews:∀ j u,news.flatten[j]? = some u->At h ⟨sb,so+j,none⟩ u) (h1:∀ u∈news.flatten,u.oneCell'=true)
  (hb:(rows.length+m) * bytes≤140737488355328) (h63:rows.length+m≤9223372036854775807) (hd:d<c.n)
  (hnx:∀ v',v'.oneCell'=true->(v' = .slice none 0 0↔v = .slice none 0 0/\m=0)->St c ops K rest ((d,v')::e) (VR v' E sz (rows++news)::h')) :
  St c ops K (⟨some d,.call { callee:=.builtin .append,args := #[x,y],argTypes := #[t,t] },ty,pos,after,none⟩::rest) e h :=
 Ki news hx hy ht hE hzs hsz hs hn1 hl (λj u hu=>by rw [Addr.add_lit]; exact hnews j u hu) h1 hb h63 hd hnx
theorem zQ {d : Nat} {T ty : TypeId} {pos : String} {after : Array Edge} {z : Value} {bytes : Nat} (hT : c.P.underlying T = some (.slice E)) (hE : Inf c.P E z sz bytes)
  (hnx:∀ b,St c ops K rest ((d,.slice (some ⟨b,0,none⟩) 0 0)::e) (VR (.slice (some ⟨b,0,none⟩) 0 0) E sz []::h)) (hd:d<c.n:=by exact ltn rfl) :
  St c ops K (⟨some d,.buildSlice T 0 #[],ty,pos,after,none⟩::rest) e h :=
 zx (sz:=sz) hT hE hd λb=>λa w hk hh hw=>hnx b a w hk (by
  obtain ⟨h1,h2,h3⟩:=hh
  rcases h1.2 with ⟨h4,_⟩ | ⟨b',cp,j,h4,h5,_⟩
  ·cases h4
  ·cases h4
   exact ⟨⟨by simp,.inr ⟨b,0,0,[],j,rfl,by simpa using h5,rfl,Nat.le_refl _,Nat.zero_le _,by simp⟩⟩,λx ⟨o,m,cp,hv⟩=>(by cases hv; exact h2 _ ⟨_,_,rfl⟩),h3⟩) hw
end

/-! ## One of many -/
def upd {α : Type} (f:Nat -> α) (i:Nat) (x : α):Nat -> α := λk=>if k=i then x else f k
theorem upd_same {α : Type} (f:Nat -> α) (i:Nat) (x : α):upd f i x i=x:=if_pos rfl
def foc {α : Type} (n i:Nat) (c : α) (g:Nat -> α):List α := (List.range n).map (upd g i c)
theorem foc_get {α : Type} {n i:Nat} {c : α} {g:Nat -> α} (hi:i<n):(foc n i c g)[i]? = some c:=by simp [foc,List.getElem?_map,List.getElem?_range,hi,upd_same]
def others (n i:Nat):List Nat:=(List.range n).filter λk=>decide (k≠i)
def RSx (n i:Nat) (R:Nat->Res):Res:=Res.star ((others n i).map R)
def RS (n:Nat) (R:Nat->Res):Res:=Res.star ((List.range n).map R)
section
variable {P:Program} {e:Env} {h:SH} {ty:TypeId}
theorem vY {T:TypeId} {x:Operand} {p:Addr} {v:Value} (hx:e.ev? x=some (.pointer (some p))) (hT:Ld1 P T)
  (ha:At h p v:=by repeat (first | exact bS (bU<|by rfl) | exact bS (lT (by assumption)<|by rfl) | exact bS (Nu (foc_get<|by assumption)<|by rfl) | exact bS (Nu (by rfl)<|by rfl) | exact bS (by assumption) | apply M4)):Vop P e h (.load T x) ty v:=v_load hx hT ha
theorem af {T:TypeId} {x:Operand} {b o n:Nat} {vs:List Value} {r:Res} {h':SH} (hx:e.ev? x=some (.pointer (some ⟨b,o,none⟩))) (hT:LdN P T n) (hl:vs.length=n) (hr:Rds r b o vs) (s:Sel h r h':=by repeat (first | exact Sel.here | apply Sel.there)) :
  Vop P e h (.load T x) ty (.agg vs.toArray):=v_loadR hx hT hl s hr
end
section
variable {c:Cx} {ops:Array Oper} {K:Act->World->Prop} {rest:List Oper} {e:Env} {h k k' hr:SH} {Q:Exit->Act->World->Prop} {x:Code} {ex:Exit}
theorem cd_pv (hv:∀ t,Vw (k++t) (k'++t)) (hc:Cd c x Q e (k'++hr)) (p:Pk h k hr:=by repeat (first | exact Pk.nil | (apply Pk.cons; (repeat (first | exact Sel.here | apply Sel.there))))):Cd c x Q e h:=dK (Vw.pk p<|hv hr) hc
theorem zR (hv:∀ t,Vw (k++t) (k'++t)) (hc:St c ops K rest e (k'++hr)) (p:Pk h k hr:=by repeat (first | exact Pk.nil | (apply Pk.cons; (repeat (first | exact Sel.here | apply Sel.there))))):St c ops K rest e h:=qp (Vw.pk p<|hv hr) hc
theorem kK (hv:∀ t,Vw (k++t) (k'++t)) (hc:Xt c ex Q e (k'++hr)) (p:Pk h k hr:=by repeat (first | exact Pk.nil | (apply Pk.cons; (repeat (first | exact Sel.here | apply Sel.there))))):Xt c ex Q e h:=jG (Vw.pk p<|hv hr) hc
theorem zS {b n:Nat} {E:TypeId} {sz:Nat} {cells:List Value} (rows:List (List Value)) (hc:cells=rows.flatten) (h1:∀ r∈rows,r.length=sz) (hn:rows.length=n) (hm:n≤maxLen):∀ t,Vw ([pt b (cl cells E)]++t) ([VR (.slice (some ⟨b,0,none⟩) n n) E sz rows]++t):=λt=>vw_of rows hc h1 hn hm
theorem fE {L:SH}:∀ t,Vw (L++t) ([Res.star L]++t):=λt=>eQ
end
end Go.Ck
namespace Go.Hr
open Go Go.RowKit Go.Ck
def strC (us:List Value) (n:Nm):Prop:=us=[sv n]
def parC (us:List Value) (p:Nm):Prop:=∃ a b c d e,us=[sv p,a,b,c,d,e]/\[sv p,a,b,c,d,e].all Value.oneCell'=true
def clsC (S:Res) (us:List Value) (x:Cls):Prop:=∃ d f pv c fa fc i,us=[sv x.name,d,f,pv,c,.slice fa x.feats fc,i]/\[sv x.name,d,f,pv,c,.slice fa x.feats fc,i].all Value.oneCell'=true/\Row S 6 parC pv x.parents
def mD (S:Res) (v:Value) (l:Sys):Prop:=Row S 7 (clsC S) v l
def wP (S:Res) (v:Value) (xs:List Nm):Prop:=Row S 1 strC v xs
section
variable {S S':Res} (hr:∀ p u,Rd S p u->Rd S' p u)
include hr
theorem clsC.mono {us:List Value} {x:Cls} (h:clsC S us x):clsC S' us x:=let ⟨d,f,pv,c,fa,fc,i,h1,h0,h2⟩:=h; ⟨d,f,pv,c,fa,fc,i,h1,h0,h2.mono hr λ_ _ _ h=>h⟩
theorem mD.mono {v:Value} {l:Sys} (h:mD S v l):mD S' v l:=Row.mono h hr λ_ _ _ h=>clsC.mono hr h
theorem wP.mono {v:Value} {xs:List Nm} (h:wP S v xs):wP S' v xs:=Row.mono h hr λ_ _ _ h=>h
end
section
variable {S:Res} {v:Value} {l:Sys}
theorem tX (h:mD S v l) {i:Nat} {x:Cls} (hi:l[i]? = some x):∃ b o cap d f pa pc c fa fc j,v = .slice (some ⟨b,o,none⟩) l.length cap/\Rds S b (o+i * 7) [sv x.name,d,f,.slice pa x.parents.length pc,c,.slice fa x.feats fc,j]/\Row S 6 parC (.slice pa x.parents.length pc) x.parents/\[sv x.name,d,f,.slice pa x.parents.length pc,c,.slice fa x.feats fc,j].all Value.oneCell'=true:=by
 obtain ⟨b,o,cap,us,h1,_,h3,d,f,pv,c,fa,fc,j,rfl,h0,h4⟩:=Row.at h hi
 obtain ⟨pa,pc,rfl,_⟩:=id h4
 exact ⟨b,o,cap,d,f,pa,pc,c,fa,fc,j,h1,h3,h4,h0⟩
theorem Ij {pv:Value} {ps:List Nm} (h:Row S 6 parC pv ps) {i:Nat} {p:Nm} (hi:ps[i]? = some p):∃ b o cap a c d e f,pv = .slice (some ⟨b,o,none⟩) ps.length cap/\Rds S b (o+i * 6) [sv p,a,c,d,e,f]/\[sv p,a,c,d,e,f].all Value.oneCell'=true:=by
 obtain ⟨b,o,cap,us,h1,_,h3,a,c,d,e,f,rfl,h0⟩:=Row.at h hi
 exact ⟨b,o,cap,a,c,d,e,f,h1,h3,h0⟩
theorem tY {xs:List Nm} (h:wP S v xs) {i:Nat} {x:Nm} (hi:xs[i]? = some x):∃ b o cap,v = .slice (some ⟨b,o,none⟩) xs.length cap/\Rd S ⟨b,o+i * 1,none⟩ (sv x):=by
 obtain ⟨b,o,cap,u,h1,h2,h3⟩:=Row.at1 h hi
 simp only [strC,List.cons.injEq,and_true] at h3
 subst h3
 exact ⟨b,o,cap,h1,h2⟩
end
/-! ## Names that are owned -/
def nC (n:Nm):List Value:=[sv n]
def NR (v:Value) (xs:List Nm):Res:=VR v 9 1 (xs.map nC)
theorem iY {v:Value} {xs:List Nm} (hok:∃ f,(NR v xs).ok f):wP (NR v xs) v xs :=
 Nt hok (by simp) (λ_ _ h=>h) λi us x h1 h2=>by
  rw [List.getElem?_map,h2] at h1
  simp only [Option.map_some,Option.some.injEq] at h1
  rw [<- h1]; rfl
def ixN (l:Sys) (c:Nm):Int:=match idx l c with | some i=>i | none => -1
theorem oG {l:Sys} {c:Nm}:(∀ i,idx l c=some i->∃ x,l[i]? = some x/\find l c=some x)/\(idx l c=none->find l c=none):=by
 constructor
 ·intro i h
  obtain ⟨hi,h1,h2⟩:=List.findIdx?_eq_some_iff_getElem.1 h
  exact ⟨l[i],Zy hi,by
   unfold find
   rw [List.find?_eq_some_iff_getElem]
   exact ⟨h1,i,hi,Z,λj hj=>by simpa using h2 j hj⟩⟩
 ·intro h
  unfold idx at h
  rw [List.findIdx?_eq_none_iff] at h
  unfold find
  rw [List.find?_eq_none]
  intro x hx
  simpa using h x hx
end Go.Hr
namespace Go.Hr
open Go Go.Ck Go.Proofs Go.Proofs.YtknmacdbffgjgaaGreatDoor Fx
attribute [local irreducible] Go.Ck.Sub St Cd Xt Nx DrL LsW
section
variable {S:Res} {v:Value} {l:Sys}
def fewL (l:Sys):Bool:=l.all (λx=>decide (x.parents.length≤8)) && (decide (l.length≤10) || (decide (24<l.length) && decide (l.length≤40)))
end
end Go.Hr
namespace Go.Hr
open Go Go.Ck Go.Proofs Go.Proofs.Tryz Go.Proofs.YtknmacdbffgjgaaGreatDoor Fx
attribute [local irreducible] Go.Ck.Sub St Cd Xt Nx DrL LsW
def rX (m:List (Bs×Value)) (q:Cls×Nat):List (Bs×Value):=if (bL m q.1.name).isSome then m else eG m q.1.name (.int .i64 q.2)
def bF (l:Sys):List (Bs×Value):=l.zipIdx.foldl rX []
theorem zT {l:Sys} {i:Nat} (h:i<l.length):bF (l.take (i+1))=rX (bF (l.take i)) (l[i],i):=by
 unfold bF
 rw [List.take_succ_eq_append_getElem h,List.zipIdx_append,List.foldl_append]
 simp [List.length_take,Nat.min_eq_left (Nat.le_of_lt h)]
theorem tZ (l:Sys) (c:Nm):bL (bF l) c=(idx l c).map λi=>.int .i64 i:=by
 have key : ∀ n, n ≤ l.length -> bL (bF<|l.take n) c = (idx (l.take n) c).map λi => .int .i64 i := by
  intro n
  induction n with
  | zero=>intro _; rfl
  | succ n ih =>
   intro hn
   rw [zT (by omega)]
   have ih:=ih<|by omega
   have hix:idx (l.take (n+1)) c=(idx (l.take n) c).or (if (l[n]).name=c then some n else none):=by
    unfold idx
    rw [List.take_succ_eq_append_getElem (by omega),List.findIdx?_append]
    congr 1
    by_cases h:(l[n]).name=c <;> simp [List.findIdx?_cons,h,List.length_take,Nat.min_eq_left (Nat.le_of_lt hn)]
   rw [hix]
   unfold rX
   by_cases hc:(l[n]).name=c
   ·simp only [hc,if_true]
    cases hi:idx (l.take n) c with
    | none =>
     rw [hi] at ih
     simp only [ih,Option.map_none,Option.isSome_none,Bool.false_eq_true,if_false]
     rw [nX,if_pos rfl]; rfl
    | some j =>
     rw [hi] at ih
     simp only [ih,Option.map_some,Option.isSome_some,if_true]
     rfl
   ·simp only [hc,if_false,Option.or_none]
    split
    ·exact ih
    ·rw [nX,if_neg (λe=>hc e.symm)]; exact ih
 have:=key l.length<|Nat.le_refl _
 rwa [List.take_length] at this
section
variable {S:Res} {v:Value} {l:Sys}
theorem FJ (hv:mD S v l) (hl:l.length≤1099511627776):Ct prog 138 #[v] [S] λu h'=>∃ mb,u = .map (some mb)/\h'=[mps mb (bF l),S]:=by
 obtain ⟨a,cap,rfl,_⟩:=id hv
 refine aL (n:=31) func138 Z Z (len Z) λhr w0=>?_
 refine cQ<|sA Z<|sN<|nT<|cQ (eO (ltn Z) λb8=>?_)
 refine sA Z<|sK [0,2,3] Z<|cS<|cQ<|sM Z<|sV (aF Z underlying22)<|sM Z<|sK [2,3,9,10,11] Z<|cB<|aW (σ := Nat) (λi=>[(3,.map (some b8)),(9,.slice a l.length cap),(10,.int .i64 l.length),(11,.int .i64 (i:Nat))]) (λi=>mps b8 (bF<|l.take i)::S::hr) (λi=>i≤l.length) (λi=>l.length - i) 0 (Nat.zero_le _) ?_
 intro i hi
 refine cQ<|sV (aN Z Z)<|sN<|nT<|cS<|cC Z (λhd=>?_)<|λhd=>?_
 ·have hlt:i<l.length:=Zx
  obtain ⟨b,o,cap2,d,f,pa,pc,c2,fa,fc,j2,hv2,hrd,hP,hone⟩:=tX hv<|Zy hlt
  have hkt:=zT hlt
  unfold rX at hkt
  simp only at hkt
  refine cK<|xT<|cS<|cB<|cQ<|sM Z<|sV (vI (k:=i) (congrArg some hv2) Z vz Z hlt Z)<|sV (af Z gL Z hrd) ?_
  refine ak oz λb5=>?_
  refine sA Z<|ai Z Z mq Z hone ?_
  refine sK [3,4,5,9,10,11] Z<|cQ<|sM Z<|sV (vF Z dN Z)<|sV (vY Z ld9) ?_
  refine sV (dU Z Z gQ om slq) ?_
  refine sM Z<|sV (ah Z Z)<|sV (ah Z Z)<|sA Z<|sA Z<|sK [3,4,5,7,9,10,11] Z<|cQ<|sM Z<|sV (aZ Z)<|sK [3,4,5,9,10,11,24] Z<|cC Z (λhq=>?_)<|λhq=>?_
  ·have hn:(bL (bF<|l.take i) (l[i]).name).isSome=false:=Zu
   rw [hn] at hkt
   simp only [Bool.false_eq_true,if_false] at hkt
   refine cR<|sM Z<|sV (vF Z dN Z)<|sV (vY Z ld9) ?_
   refine sM Z<|cO Z Z Z gQ slq ?_
   refine sN<|nK [3,9,10,11] Z<|ax<|xB<|xT<|cR<|sV (aI Z Z Z0)<|sM Z<|sN<|nK [3,9,10,11] Z<|ax ?_
   rw [<- hkt]
   refine aM (i+1) hlt (by show _ - _<_ - _; omega)
  ·have hn:(bL (bF<|l.take i) (l[i]).name).isSome=true:=Zu
   rw [hn] at hkt
   simp only [if_true] at hkt
   refine cK<|xB<|xT<|cR<|sV (aI Z Z Z0)<|sM Z<|sN<|nK [3,9,10,11] Z<|ax ?_
   rw [<- hkt]
   refine aM (i+1) hlt (by show _ - _<_ - _; omega)
 ·have hil:i=l.length:=by
   have:¬ i<l.length:=Zx
   omega
  subst hil
  rw [List.take_length]
  refine aC<|xE<|xE<|xY<|xT<|cQ<|sM Z<|sA Z<|sK [2] Z<|cT ?_
  exact aj Z ⟨b8,Z,Z⟩ sbq
end
theorem gG {P:Program} {e:Env} {h:SH} {o:Op} {ty:TypeId} {u u':Value} (hu:u=u') (hv:Vop P e h o ty u):Vop P e h o ty u':=hu ▸ hv
theorem Cu {c:Cx} {ex:Exit} {Q:Exit->Act->World->Prop} {e:Env} {h k:SH} (p:h.Perm k) (hx:Xt c ex Q e k):Xt c ex Q e h:=jG (λ_ hh=>Holds.perm p hh) hx
theorem Yc.frame {P:Program} {l:Nat} {args:Array Value} {hf:SH} {R:Value->SH->Prop} (h:Yc P l args hf R) (r:Res):Yc P l args (r::hf) (λv h'=>∃ k,h'=r::k/\R v k):=λhr w hh=>by
 have h1:Holds w (hf++(r::hr)):=hh.perm (List.perm_middle (l₁ := hf)).symm
 exact je (λv w' ⟨k,hR,hH,hS⟩=>⟨r::k,⟨k,Z,hR⟩,hH.perm (List.perm_middle (l₁ := k)),hS⟩)<|h (r::hr) w h1
theorem Yc.mono {P:Program} {l:Nat} {args:Array Value} {hf:SH} {R R':Value->SH->Prop} (h:Yc P l args hf R) (hr:∀ v k,R v k->R' v k):Yc P l args hf R':=λx w hh=>je (λv w' ⟨k,h1,h2,h3⟩=>⟨k,hr v k h1,h2,h3⟩)<|h x w hh
theorem q9 (l:Sys) (c:Nm):(bL (bF l) c).isSome=isC l c:=by
 rw [tZ]
 unfold isC
 cases h:idx l c with
 | none=>rw [(oG).2 h]; rfl
 | some i=>obtain ⟨x,_,hx⟩:=oG.1 i h; rw [hx]; rfl
theorem K5 {f:Nm->Bool} {xs:List Nm} {i:Nat} (hi:i<xs.length) (h:f xs[i]=true):(xs.filter f)[((xs.take i).filter f).length]? = some xs[i]/\((xs.take (i+1)).filter f).length=((xs.take i).filter f).length+1:=by
 have h1:xs=xs.take i++xs[i]::xs.drop (i+1):=by rw [List.getElem_cons_drop,List.take_append_drop]
 constructor
 ·have h2:xs.filter f=(xs.take i).filter f++xs[i]::(xs.drop (i+1)).filter f:=by
   conv=>lhs; rw [h1]
   rw [List.filter_append,List.filter_cons_of_pos h]
  rw [h2,List.getElem?_append_right (Nat.le_refl _)]
  simp
 ·rw [List.take_succ_eq_append_getElem hi,List.filter_append,List.filter_cons_of_pos h]; simp
theorem FK {f:Nm->Bool} {xs:List Nm} {i:Nat} (hi:i<xs.length) (h:f xs[i]=false):((xs.take (i+1)).filter f).length=((xs.take i).filter f).length:=by
 rw [List.take_succ_eq_append_getElem hi,List.filter_append,List.filter_cons_of_neg (by rw [h]; decide)]; simp
def seqv (b1 b2:Nat):Value:=.func (.func 242) #[] #[.pointer (some ⟨b1,0,none⟩),.pointer (some ⟨b2,0,none⟩)]
section
variable {S:Res} {v:Value} {l:Sys}
theorem of_ct (hv:mD S v l) (hl:l.length≤1099511627776):Ct prog 166 #[v] [S] λu h'=>∃ mb,u = .agg #[v,.map (some mb)]/\h'=[mps mb (bF l),S]:=by
 obtain ⟨a,cap,rfl,_⟩:=id hv
 refine aL (n:=7) func166 Z Z (len Z) λhr w0=>?_
 refine cQ (ak sW λb2=>?_)
 refine sN<|nT<|cQ<|sM Z<|sM Z<|aJ Z Z en138 Z (FJ hv hl) ?_
 rintro u h' ⟨mb,rfl,rfl⟩
 refine sV (aO (cells:=[.slice a l.length cap,.map (some mb)]) Z<|λ_=>Zz) ?_
 refine ai Z Z nZ Z Z ?_
 refine sK [2] Z<|cT ?_
 exact bE (.cellN Z kJ Z slq .nil) ⟨mb,Z,Z⟩ sbr
theorem kg {mb:Nat} {c:Nm} (hv:v.oneCell'=true):Ct prog 178 #[.agg #[v,.map (some mb)],sv c] [] λu h'=>∃ b1 b2,u=seqv b1 b2/\h'=[pt b1 (cl [v,.map (some mb)] 164),pt b2 (cl [sv c] 9)]:=by
 refine aL (n:=6) func178 Z Z (len Z) λhr w0=>?_
 refine cQ (aP Z Z λb2=>?_)
 refine aP Z Z λb3=>?_
 refine sA Z<|sK [2,3,4] Z<|cQ<|sV (cz Z Z)<|sA Z<|sK [4] Z<|cT ?_
 exact aj Z ⟨b2,b3,Z,Z⟩ sbq
theorem FM {σ : Type} {b1 b2 mb yl : Nat} {c : Nm} (Inv : σ -> SH) (Φ : Nat -> σ -> Prop) (Stop : Nat -> SH -> Prop) (s0 : σ) (h0 : Φ 0 s0) (hv : mD S v l) (hp : ∀ x ∈ l, x.parents.length ≤ 1099511627776)
  (hy:∀ (k:Nat) (s : σ) (p:Nm),(par l c)[k]? = some p -> Φ k s->Yc prog yl #[sv p] (S::mps mb (bF l)::Inv s) λu h'=>(u = .bool true/\∃ s',Φ (k+1) s'/\h'=S::mps mb (bF l)::Inv s')∨(u = .bool false/\∃ t,h'=S::mps mb (bF l)::t/\Stop k t)) :
  Ct prog 242 #[.func (.yield yl) #[] #[],.pointer (some ⟨b1,0,none⟩),.pointer (some ⟨b2,0,none⟩)] (pt b1 (cl [v,.map (some mb)] 164)::pt b2 (cl [sv c] 9)::S::mps mb (bF l)::Inv s0) λu h'=>u = .tuple #[] /\
   ((∃ s,Φ (par l c).length s/\h'=pt b1 (cl [v,.map (some mb)] 164)::pt b2 (cl [sv c] 9)::S::mps mb (bF l)::Inv s)∨∃ k t,Stop k t/\h'=pt b1 (cl [v,.map (some mb)] 164)::pt b2 (cl [sv c] 9)::S::mps mb (bF l)::t):=by
 obtain ⟨a,cap,rfl,_⟩:=id hv
 refine aL (n:=47) func242 Z Z (len Z) λhr w0=>?_
 refine cQ<|sV (vF Z DX Z)<|sV (vY Z kI) ?_
 refine sV (vY Z ld9) ?_
 refine sV (dU Z Z gQ om slq) ?_
 refine sM Z<|sV (ah Z Z)<|sV (ah Z Z)<|sA Z<|sA Z<|sK [0,1,4,5] Z<|cS<|cQ<|sM Z<|sV (aZ Z)<|sK [0,1,4,18] Z<|cC Z (λhd=>?_)<|λhd=>?_
 ·have hx:isC l c=false:=by rw [<- q9]; simpa using hd
  have hpn:par l c=[]:=by
   cases h:par l c with
   | nil=>rfl
   | cons p t=>have:=tC (l:=l) (c:=c) (p:=p) (by rw [h]; simp); rw [hx] at this; cases this
  refine cT<|xR ?_
  exact aj Z ⟨Z,.inl ⟨s0,by rw [hpn]; exact h0,Z⟩⟩ sbq
 ·have hx:isC l c=true:=by rw [<- q9]; simpa using hd
  obtain ⟨k,hk⟩:∃ k,idx l c=some k:=by
   cases h:idx l c with
   | some k=>exact ⟨k,rfl⟩
   | none=>unfold isC at hx; rw [oG.2 h] at hx; cases hx
  obtain ⟨x,hxi,hf⟩:=oG.1 k hk
  have hkl:=(List.getElem?_eq_some_iff.1 hxi).1
  have hpar:par l c=x.parents.filter (isC l):=by unfold par pars; rw [hf]; rfl
  have hlk:bL (bF l) c=some (.int .i64 k):=by rw [tZ,hk]; rfl
  have hpl:=hp x<|List.mem_of_getElem? hxi
  obtain ⟨b,o,cap2,d,f,pa,pc,c2,fa,fc,j2,hv2,hrd,hP,hone⟩:=tX hv hxi
  rw [hlk]
  refine cK<|xT<|cQ<|sV (vF Z DW Z)<|sV (vY Z ld22) ?_
  refine sM Z<|sV (vI (k:=k) (congrArg some hv2) Z vz Z hkl Z)<|sV (vF Z fu Z)<|sV (vY Z mr) ?_
  refine sV (aF Z underlying39)<|sM Z<|sK [0,1,24,25,26] Z<|cB<|aW (σ := Nat × σ) (λq=>[(0,.func (.yield yl) #[] #[]),(1,.pointer (some ⟨b1,0,none⟩)),(24,.slice pa x.parents.length pc),(25,.int .i64 x.parents.length),(26,.int .i64 (q.1:Nat))]) (λq=>pt b1 (cl [.slice a l.length cap,.map (some mb)] 164)::pt b2 (cl [sv c] 9)::S::mps mb (bF l)::(Inv q.2++hr)) (λq=>q.1≤x.parents.length /\ Φ ((x.parents.take q.1).filter<|isC l).length q.2) (λq=>x.parents.length - q.1) (0,s0) ⟨Nat.zero_le _,h0⟩ ?_
  rintro ⟨i,s⟩ ⟨hi,hΦ⟩
  simp only at hi hΦ
  dsimp only
  refine cQ<|sV (aN Z Z)<|sN<|nT<|cS<|cC Z (λhd2=>?_)<|λhd2=>?_
  ·have hlt:i<x.parents.length:=Zw
   obtain ⟨pb,po,pcap,a1,c1,d1,e1,f1,hpv,hprd,hpone⟩:=Ij hP<|Zy hlt
   refine cK<|xT<|cS<|cB<|cQ<|sV (vI (k:=i) (congrArg some hpv) Z oW Z hlt Z)<|sV (af Z qD Z hprd) ?_
   refine ak vG λb7=>?_
   refine ai Z Z sH Z hpone ?_
   refine sK [0,1,7,24,25,26] Z<|cQ<|sV (vF Z DX Z)<|sV (vY Z kI) ?_
   refine sV (vF Z gN Z)<|sV (vY Z ld9) ?_
   refine sV (dU Z Z gQ om slq) ?_
   refine sM Z<|sV (ah Z Z)<|sV (ah Z Z)<|sA Z<|sA Z<|sK [0,1,7,9,24,25,26] Z<|cS ?_
   rw [q9]
   cases hc:isC l x.parents[i]
   ·refine cR<|sM Z<|sM Z<|aB Z Z Z ?_
    iterate 4 refine aB rfl rfl rfl ?_
    refine sV (vP Z Z)<|sK [0,1,24,25,26,45] Z<|aH Z ?_
    refine cK<|xB<|xT<|cR<|sV (aI Z Z Z0)<|sM Z<|sN<|nK [0,1,24,25,26] Z<|ax ?_
    refine aM (i+1,s) ⟨hlt,by rw [FK hlt hc]; exact hΦ⟩ (by show _ - _<_ - _; omega)
   ·obtain ⟨q1,q2⟩:=K5 hlt hc
    refine cR<|sM Z<|sM Z<|sG Z Z (vM Z)<|sG Z Z (vF Z gN Z)<|sG Z Z (vY Z ld9) ?_
    refine uU (gd:=39) (.inr ⟨_,_,Z,Z,Z⟩) Z Z (hy _ s _ (by rw [hpar]; exact q1) hΦ) (Pk.of (hr:=pt b7 (cl [sv x.parents[i],a1,c1,d1,e1,f1] 88)::pt b1 (cl [.slice a l.length cap,.map (some mb)] 164)::pt b2 (cl [sv c] 9)::hr)<|by exact List.perm_append_comm_assoc [pt b7 (cl [sv x.parents[i],a1,c1,d1,e1,f1] 88),pt b1 (cl [.slice a l.length cap,.map (some mb)] 164),pt b2 (cl [sv c] 9)] (S::mps mb (bF l)::Inv s) hr) (ltn Z) ?_
    rintro u h' (⟨rfl,s',h1,rfl⟩ | ⟨rfl,t,rfl,h1⟩)
    ·refine sG Z Z (aZ Z)<|sV (vQ Z Z)<|sK [0,1,24,25,26,45] Z<|aH Z ?_
     refine cK<|xB<|xT<|cR<|sV (aI Z Z Z0)<|sM Z<|sN<|nK [0,1,24,25,26] Z<|ax<|Cu (k:=pt b7 (cl [sv x.parents[i],a1,c1,d1,e1,f1] 88)::pt b1 (cl [.slice a l.length cap,.map (some mb)] 164)::pt b2 (cl [sv c] 9)::S::mps mb (bF l)::(Inv s'++hr)) (by exact List.perm_append_comm_assoc (S::mps mb (bF l)::Inv s') [pt b7 (cl [sv x.parents[i],a1,c1,d1,e1,f1] 88),pt b1 (cl [.slice a l.length cap,.map (some mb)] 164),pt b2 (cl [sv c] 9)] hr) ?_
     refine aM (i+1,s') ⟨hlt,by rw [q2]; exact h1⟩ (by show _ - _<_ - _; omega)
    ·refine sG Z Z (aZ Z)<|sV (vQ Z Z)<|sK [0,1,24,25,26,45] Z<|aQ Z ?_
     refine cT<|xW<|xR<|xR<|xW<|Cu (k:=pt b7 (cl [sv x.parents[i],a1,c1,d1,e1,f1] 88)::pt b1 (cl [.slice a l.length cap,.map (some mb)] 164)::pt b2 (cl [sv c] 9)::S::mps mb (bF l)::(t++hr)) (by exact List.perm_append_comm_assoc (S::mps mb (bF l)::t) [pt b7 (cl [sv x.parents[i],a1,c1,d1,e1,f1] 88),pt b1 (cl [.slice a l.length cap,.map (some mb)] 164),pt b2 (cl [sv c] 9)] hr) ?_
     exact aj Z ⟨Z,.inr ⟨_,t,h1,Z⟩⟩ sbq
  ·have hil:i=x.parents.length:=by
    have:¬ i<x.parents.length:=Zw
    omega
   subst hil
   rw [List.take_length,<- hpar] at hΦ
   refine aC<|xE<|xE<|xY ?_
   exact zA Z ⟨Z,.inl ⟨s,hΦ,Z⟩⟩ sbq
end
def Col (m:List (Bs×Value)) (o G:List Nm):Prop:=∀ x,bL m x=if x∈o then some (.int .i64 2) else if x∈G then some (.int .i64 1) else none
theorem Col.grey {m:List (Bs×Value)} {o G:List Nm} (h:Col m o G) {c:Nm} (hc:c ∉ o):Col (eG m c (.int .i64 1)) o (c::G):=λx=>by
 rw [nX,h x]
 by_cases hx:x=c
 ·subst hx; rw [if_pos rfl,if_neg hc,if_pos (by simp)]
 ·rw [if_neg hx]; simp [hx]
theorem Col.black {m:List (Bs×Value)} {o G:List Nm} {c:Nm} (h:Col m o (c::G)):Col (eG m c (.int .i64 2)) (o++[c]) G:=λx=>by
 rw [nX,h x]
 by_cases hx:x=c
 ·subst hx; rw [if_pos rfl,if_pos (by simp)]
 ·rw [if_neg hx]; simp [hx]
def visV (b5 b2 b7 b6:Nat):Value:=.func (.func 177) #[] #[.pointer (some ⟨b5,0,none⟩),.pointer (some ⟨b2,0,none⟩),.pointer (some ⟨b7,0,none⟩),.pointer (some ⟨b6,0,none⟩)]
def visS (S:Res) (v:Value) (l:Sys) (b5 b2 b7 b6 mb mc:Nat) (q:List (Bs×Value)×Value×List Nm):SH :=
 [pt b5 (cl [.map (some mc)] 162),pt b2 (cl [v,.map (some mb)] 164),pt b7 (cl [visV b5 b2 b7 b6] 256),mps mc q.1,pt b6 (cl [q.2.1] 40),NR q.2.1 q.2.2,S,mps mb (bF l)]
section
variable {S:Res} {v:Value} {l:Sys}
theorem Nv {b5 b2 b7 b6 mb mc : Nat} (hv : mD S v l) (hp : ∀ x ∈ l, x.parents.length ≤ 1099511627776) (hl : l.length ≤ 1099511627776) (ha : gJ l) : ∀ (f : Nat) (c : Nm) (m : List (Bs × Value)) (w : Value) (o G : List Nm), rk l c < f -> isC l c = true -> w.oneCell' = true -> Tp l o -> (∀ x ∈ o, isC l x = true) -> Col m o G -> (∀ g ∈ G, has l c g = false) ->
  Ct prog 177 #[sv c,.pointer (some ⟨b5,0,none⟩),.pointer (some ⟨b2,0,none⟩),.pointer (some ⟨b7,0,none⟩),.pointer (some ⟨b6,0,none⟩)] (visS S v l b5 b2 b7 b6 mb mc (m,w,o)) λu h'=>∃ m' w',u = .tuple #[]/\w'.oneCell'=true/\Col m' (vis l f o c) G/\h'=visS S v l b5 b2 b7 b6 mb mc (m',w',vis l f o c):=by
 obtain ⟨a,cap,rfl,_⟩:=id hv
 intro f
 induction f with
 | zero=>intro c m w o G h; omega
 | succ f ihf =>
  intro c m w o G hf hcC hw ho hoC hm hG
  have hlk:=hm c
  have hcG:c ∉ G:=λhg=>by have:=hG c hg; rw [nM] at this; cases this
  by_cases hc:c∈o
  ·rw [if_pos hc] at hlk
   have hvis:vis l (f+1) o c=o:=by rw [vis,if_pos Zl]
   rw [hvis]
   refine qQ (n:=26) func177 Z Z (len Z) λhr w0=>?_
   unfold visS
   dsimp only
   refine cS<|cQ<|sV (vY Z kI) ?_
   refine sM Z<|sV (gG (show (bL m c).getD (.int .i64 0) = .int .i64 2 by rw [hlk]; rfl)<|bI Z Z gQ om slq) ?_
   refine sV (bK Z Z)<|sK [0,1,2,3,4,10] Z<|aQ Z ?_
   refine cT<|xR ?_
   exact jU (bs:=[]) Z Z ⟨m,w,Z,hw,hm,Z⟩ sbq
  ·rw [if_neg hc, if_neg hcG] at hlk
   refine qQ (n:=26) func177 Z Z (len Z) λhr w0=>?_
   unfold visS
   dsimp only
   refine cS<|cQ<|sV (vY Z kI) ?_
   refine sM Z<|sV (gG (show (bL m c).getD (.int .i64 0) = .int .i64 0 by rw [hlk]; rfl)<|bI Z Z gQ om slq) ?_
   refine sV (bK Z Z)<|sK [0,1,2,3,4,10] Z<|aH Z ?_
   refine cK<|xT<|cQ<|sV (vY Z kI) ?_
   refine sM Z<|cO Z Z Z gQ slq ?_
   refine sK [0,1,2,3,4] Z<|cS<|cQ ?_
   have hvis:vis l (f+1) o c=(par l c).foldl (vis l f) o++[c]:=by rw [vis,if_neg Zl]
   have hm1:=hm.grey hc
   refine sV (af Z kJ Z ag) ?_
   refine sM Z<|aJ Z Z Fz Z (kg Z) ?_
   rintro u h' ⟨c1,c2,rfl,rfl⟩
   refine sK [0,1,3,4,15] Z<|cB ?_
   simp only [lC,lN]
   unfold seqv
   refine jg Z FE λyl db rec hst hpe hps hasg hbo hkn2=>?_
   refine ⟨_,Ct.perm (FM (σ := List (Bs×Value)×Value×List Nm) (b1:=c1) (b2:=c2) (mb:=mb) (yl:=yl) (c:=c) (λq=>pt yl (.loop rec)::pt db (.deferred<|some [])::pt b5 (cl [.map (some mc)] 162)::pt b2 (cl [.slice a l.length cap,.map (some mb)] 164)::pt b7 (cl [visV b5 b2 b7 b6] 256)::mps mc q.1::pt b6 (cl [q.2.1] 40)::NR q.2.1 q.2.2::hr)
    (λk q=>q.2.1.oneCell'=true/\Col q.1 q.2.2 (c::G)/\q.2.2=((par l c).take k).foldl (vis l f) o/\Tp l q.2.2/\∀ x∈q.2.2,isC l x=true) (λ_ _=>False) (eG m c (.int .i64 1),w,o) ⟨hw,hm1,rfl,ho,hoC⟩ hv hp ?_) ?_,?_⟩
   ·rintro k ⟨m2, w2, o2⟩ p hk ⟨hw2, hm2, ho2, hT2, hC2⟩
    simp only at hw2 hm2 ho2 hT2 hC2
    have hpm:=List.mem_of_getElem? hk
    have hrk:=iM ha hpm
    refine Yc.perm (qO (n:=26) (rec:=rec) (args:=[sv p]) (hf:=pt db (.deferred<|some [])::pt b5 (cl [.map (some mc)] 162)::pt b2 (cl [.slice a l.length cap,.map (some mb)] 164)::pt b7 (cl [visV b5 b2 b7 b6] 256)::mps mc m2::pt b6 (cl [w2] 40)::NR w2 o2::S::mps mb (bF l)::hr) (by rw [hps]; rfl) hkn2 (by rw [hps]; decide) ?_) (by exact (by repeat (first | exact Pm.refl | refine Pm.cons slq ?_):Pm _ _).perm)
    intro hr2 w1
    rw [hasg,hps,hbo]
    simp only [lC,lN]
    have hih:=ihf p m2 w2 o2 (c::G) (by omega) (mF hpm) hw2 hT2 hC2 hm2 (λg hg=>by
     rcases List.mem_cons.1 hg with rfl | hg
     ·exact ha g p hpm
     ·cases hh:has l p g with
      | false=>rfl
      | true=>have:=hG g hg; rw [nN (rR hpm) hh] at this; cases this)
    obtain ⟨hs1,hs2⟩:=jW ha f p o2 (by omega) hT2
    unfold visS at hih
    dsimp only at hih
    refine cR<|sA Z<|sN<|nK [3,6] Z<|ax<|lG Z slq (by first | rfl | assumption) ?_
    refine cB<|cR<|sV (vY Z ld256) ?_
    refine sM Z<|aJ Z Z en177 Z (hih) ?_
    rintro u h' ⟨m3,w3,rfl,hw3,hm3,rfl⟩
    simp only [lC,lN]
    refine sN<|nK [] Z<|ax<|xB<|dA slq (.inl ⟨Z,(m3,w3,vis l f o2 p),⟨hw3,hm3,?_,hs1,λx hx=>?_⟩,Z⟩) ?_
    ·obtain ⟨hkl,hke⟩:=List.getElem?_eq_some_iff.1 hk
     rw [List.take_succ_eq_append_getElem hkl,List.foldl_append,<- ho2,hke]; rfl
    ·rcases (hs2 x).1 hx with hx | hx
     ·exact hC2 x hx
     ·exact uM (mF hpm) hx
    ·rw [dB hst hpe]
     exact sbq
   ·exact (by repeat (first | exact Pm.refl | refine Pm.cons slq ?_):Pm _ _).perm
   ·rintro u h' ⟨rfl, (⟨⟨m2, w2, o2⟩, ⟨hw2, hm2, ho2, hT2, hC2⟩, rfl⟩ | ⟨_, _, hfalse, _⟩)⟩
    ·simp only at hw2 hm2 ho2 hT2 hC2
     refine ⟨rec,_,slq,(by rw [hst]; simp),?_⟩
     rw [hpe]
     dsimp only
     rw [List.take_length] at ho2
     have hlen:o2.length≤l.length:=by
      have:=aT (b:=nms l) hT2.nodup λx hx=>fJ.1<|hC2 x hx
      simpa [nms] using this
     rw [hvis,<- ho2]
     refine xB<|xT<|cQ<|sV (vY Z kI) ?_
     refine sM Z<|cO Z Z Z gQ slq ?_
     refine sK [0,4] Z<|cR<|sV (vY Z fq) ?_
     refine sM Z (au (cells:=[sv c]) Z underlying40 fP Z Z Zz (ltn Z) λb24=>?_)
     refine d9 [nC c] Z Z underlying40 fP Z (by decide) slq (by simp [nC]) Z (λj u2 hu2=>bS<|bU<|by simpa [nC] using hu2) (by simp [nC,Value.oneCell']) (by simp; omega) (by simp; omega) (ltn Z) λw3 hw3 _=>?_
     rw [show o2.map nC++[nC c]=(o2++[c]).map nC by simp]
     refine bg Z Z yn ?_
     refine sN<|nK [] Z<|ax ?_
     exact xt_endM (bs:=[db]) Z Z ⟨eG m2 c (.int .i64 2),w3,Z,hw3,hm2.black,Z⟩ sbq
    ·exact hfalse.elim
end
structure Fine (l:Sys):Prop where
 len:l.length≤900000
 few:∀ x∈l,x.parents.length≤1099511627776
theorem Right.fine {l:Sys} (h:Right l):Fine l:=⟨by have:=h.len; omega,λx hx=>by have:=h.few x hx; omega⟩
section
variable {S:Res} {v:Value} {l:Sys}
theorem FN {mb:Nat} (hv:mD S v l) (hF:Fine l) (ha:gJ l) {c:Nm} (hc:isC l c=true):Ct prog 103 #[.agg #[v,.map (some mb)],sv c] [S,mps mb (bF l)] λu h'=>u.oneCell'=true/\h'=[NR u (above l c),S,mps mb (bF l)]:=by
 obtain ⟨a,cap,rfl,_⟩:=id hv
 refine aL (n:=14) func103 Z Z (len Z) λhr w0=>?_
 refine dK (cZ 9 1)<|cQ (aP Z Z λb2=>?_)
 refine sA Z<|sK [1,2,4] Z<|cQ (eO (ltn Z) λb8=>?_)
 refine ak al162 λb5=>?_
 refine bg Z Z sz162 ?_
 refine sK [1,2,4,5] Z<|cQ (ak al40 λb6=>?_)
 refine sN<|nT<|cQ (ak al256 λb7=>?_)
 refine sN<|nT<|cQ<|sV (cz Z Z)<|bg Z Z sz256 ?_
 refine sK [1,4,6,7] Z<|cQ<|sV (vY Z ld256) ?_
 refine sM rfl<|aJ rfl rfl en177 rfl (Nv (b5:=b5) (b2:=b2) (b7:=b7) (b6:=b6) (mb:=mb) (mc:=b8) hv hF.few (Nat.le_trans hF.len<|by decide) ha (l.length+1) c [] (.slice none 0 0) [] [] (uN l c) hc rfl .nil (λx hx=>by cases hx) (λx=>rfl)<|λg hg=>by cases hg) ?_
 rintro u h' ⟨m',w',rfl,hw,hm,rfl⟩
 unfold visS
 simp only [lC,lN]
 refine sK [4,6] Z<|cQ<|sV (vY Z fq) ?_
 refine sA Z<|sK [4] Z<|cT ?_
 exact aj Z ⟨hw,Z⟩ sbq
def ixS (xs:List Nm) (c:Nm):Int:=match xs.findIdx? (· == c) with | some i=>i | none => -1
theorem ixS_has (xs:List Nm) (c:Nm):decide (0≤ixS xs c)=xs.contains c:=by
 unfold ixS
 cases h:xs.findIdx? (· == c) with
 | none =>
  rw [List.findIdx?_eq_none_iff] at h
  cases hc:xs.contains c with
  | false=>rfl
  | true =>
   rw [List.contains_iff_mem] at hc
   have:=h c hc
   simp at this
 | some i =>
  show decide (0≤(i:Int))=_
  obtain ⟨hi,h1,_⟩:=List.findIdx?_eq_some_iff_getElem.1 h
  have h1:xs[i]=c:=Ze
  rw [show xs.contains c=true by rw [List.contains_iff_mem,<- h1]; exact List.getElem_mem hi]
  exact decide_eq_true<|by omega
theorem Nw {xs:List Nm} (hv:wP S v xs) (c:Nm) (hl:xs.length≤1099511627776):Reads prog 104 #[v,sv c] [S] (.int .i64 (ixS xs c)):=by
 obtain ⟨a,cap,rfl,_⟩:=id hv
 refine aL (n:=19) func104 Z Z (len Z) λhr w0=>?_
 refine cQ<|sA Z<|sN<|nT<|cS<|cQ<|sM Z<|sV (aF Z underlying40)<|sM Z<|sK [0,1,4,7,8] Z<|cB<|aW (σ := Nat) (λi=>[(0,.slice a xs.length cap),(1,sv c),(7,.int .i64 xs.length),(8,.int .i64 (i:Nat))]) (λ_=>S::hr) (λi=>i≤xs.length/\∀ (j:Nat) (y:Nm),j<i->xs[j]? = some y->y≠c) (λi=>xs.length - i) 0 ⟨Nat.zero_le _,λj y hj=>by omega⟩ ?_
 rintro i ⟨hi,hne⟩
 refine cQ<|sV (aN Z Z)<|sN<|nT<|cS<|cC Z (λhd=>?_)<|λhd=>?_
 ·have hlt:i<xs.length:=Zx
  obtain ⟨b,o,cap2,hv2,hrd⟩:=tY hv<|Zy hlt
  refine cK<|xT<|cS<|cB<|cQ<|sM Z<|sA Z<|sK [0,1,5,7,8] Z<|cQ<|sM Z<|sM Z<|sM Z ?_
  refine sV (vI (k:=i) (congrArg some hv2) Z iZ Z hlt Z)<|sV (vY Z ld9) ?_
  refine sV (gq Z Z)<|sK [0,1,5,7,8,16] Z<|cC Z (λhe=>?_)<|λhe=>?_
  ·have he:xs[i]=c:=by
    have:c=xs[i]:=Zj
    exact this.symm
   refine cQ<|sM Z<|sA Z<|sK [4] Z<|cT<|xW<|xR<|xR<|xW<|xR ?_
   rw [show ixS xs c=(i:Int) by
    unfold ixS
    rw [show xs.findIdx? (· == c)=some i from List.findIdx?_eq_some_iff_getElem.2 ⟨hlt,by simp [he],λj hj=>by simpa using hne j _ hj (Zy (Nat.lt_trans hj hlt))⟩]]
   exact aj Z ⟨Z,Z⟩ sbq
  ·have he:xs[i]≠c:=λh=>by rw [h] at he; simp at he
   refine cK<|xB<|xT<|cR<|sV (aI Z Z Z0)<|sM Z<|sN<|nK [0,1,7,8] Z<|ax<|aM (i+1) ⟨hlt,λj y hj hy=>?_⟩ (by show _ - _<_ - _; omega)
   by_cases hji:j=i
   ·subst hji; rw [Zy hlt] at hy; cases hy; exact he
   ·exact hne j y (by omega) hy
 ·refine aC<|xE<|xE<|xY<|xT<|cQ<|sA Z<|sK [4] Z<|cT ?_
  have hil:i=xs.length:=by
   have:¬ i<xs.length:=Zx
   omega
  rw [show ixS xs c = -1 by
   unfold ixS
   rw [show xs.findIdx? (· == c)=none from List.findIdx?_eq_none_iff.2 λx hx=>by
    obtain ⟨j,hj,rfl⟩:=List.getElem_of_mem hx
    simpa using hne j _ (by omega) (Zy hj)]]
  exact aj Z ⟨Z,Z⟩ sbq
theorem fF {xs:List Nm} (hv:wP S v xs) (c:Nm) (hl:xs.length≤1099511627776):Reads prog 42 #[v,sv c] [S] (.bool (xs.contains c)):=by
 refine aL (n:=9) func42 Z Z (len Z) λhr w0=>?_
 refine cQ<|sA Z<|sN<|nT<|cQ<|sM Z<|sM Z<|aX Z Z en104 Z (Nw hv c hl) ?_
 refine sV (qh Z Z)<|sA Z<|sK [4] Z<|cT ?_
 rw [ixS_has]
 exact aj Z ⟨Z,Z⟩ sbq
theorem oH (ha:gJ l) {c:Nm} (hc:isC l c=true):(above l c).length≤l.length:=by
 obtain ⟨h1,h2⟩:=jH ha c
 have:=aT (b:=nms l) h1.nodup λx hx=>fJ.1<|uM hc ((h2 x).1 hx)
 simpa [nms] using this
theorem K6 (ha:gJ l) (c a:Nm):(above l c).contains a=has l c a:=by
 rw [Bool.eq_iff_iff,List.contains_iff_mem]
 exact (jH ha c).2 a
theorem has_ct {mb:Nat} (hv:mD S v l) (hF:Fine l) (ha:gJ l) {c:Nm} (hc:isC l c=true) (x:Nm):Ct prog 92 #[.agg #[v,.map (some mb)],sv c,sv x] [S,mps mb (bF l)] λu h'=>u = .bool (has l c x)/\h'=[S,mps mb (bF l)]:=by
 obtain ⟨a,cap,rfl,_⟩:=id hv
 have hlen:=oH ha hc
 have hFl:=hF.len
 refine aL (n:=12) func92 Z Z (len Z) λhr w0=>?_
 refine cQ (aP Z Z λb3=>?_)
 refine sA Z<|sK [1,2,3,6] Z<|cQ<|sV (af Z kJ Z ag) ?_
 refine sM Z<|aJ Z Z en103 Z (FN hv hF ha hc) ?_
 rintro u h' ⟨hu,rfl⟩
 simp only [lC,lN]
 refine oF (r:=NR u<|above l c) slq λhok=>?_
 refine sM Z<|aX Z Z D5 Z (fF (iY hok) x<|by omega) ?_
 refine sA Z<|sK [6] Z<|cT ?_
 rw [K6 ha]
 exact aj Z ⟨Z,Z⟩ sbq
end
end Go.Hr
