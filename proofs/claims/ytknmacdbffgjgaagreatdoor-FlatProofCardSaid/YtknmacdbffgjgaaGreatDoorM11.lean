/-
  Package flat,Go's library: slices.ContainsFunc,names,find. Conditions: what is read.
-/
import Derived.Test.YtknmacdbffgjgaaGreatDoorM10
import Derived.Test.YtknmacdbffgjgaaGreatDoorM4
import Derived.Test.YtknmacdbffgjgaaGreatDoorM9
import Derived.Test.YtknmacdbffgjgaaGreatDoorM8
set_option linter.unusedVariables false
set_option linter.unusedSimpArgs false
set_option maxRecDepth 100000
set_option maxHeartbeats 16000000
namespace Go.Fl
open Go Go.RowKit Go.Ck Go.Hr
instance encN:Enc Nm where
 sz:=1
 by':=16
 rep _ us n:=us=[sv n]
 len h:=by subst h; rfl
 ones h:=by subst h; rfl
 up _ h:=h
/-! ### Types -/
def tyC (t:Kt) (x:Value):List Value:=[.int .i64 t.kind,sv t.name,x,.bool t.void,.bool t.sep]
def tyR (S:Res):Nat->List Value->Kt->Prop
 | 0,_,_=>False
 | n+1,us,t=>∃ x,us=tyC t x/\Row S 5 (tyR S n) x t.args/\t.args.length * 56≤reachBytes
section
variable {S T:Res}
theorem tyR.mono (hr:∀ p u,Rd S p u->Rd T p u):∀ {n:Nat} {us:List Value} {t:Kt},tyR S n us t->tyR T n us t
 | 0,_,_,h=>h.elim
 | n+1,us,t,⟨x,h1,h2,h3⟩=>⟨x,h1,h2.mono hr λ_ _ _ h=>tyR.mono hr h,h3⟩
theorem tyR.le:∀ {n m:Nat} {us:List Value} {t:Kt},tyR S n us t->n≤m->tyR S m us t
 | 0,_,_,_,h,_=>h.elim
 | n+1,0,_,_,_,h=>by omega
 | n+1,m+1,us,t,⟨x,h1,h2,h3⟩,h=>⟨x,h1,h2.mono (λ_ _ h=>h) λ_ _ _ g=>tyR.le g (by omega),h3⟩
theorem tyR.depth:∀ {n:Nat} {us:List Value} {t:Kt},tyR S n us t->tyR S t.depth us t
 | 0,_,_,h=>h.elim
 | n+1,us,.mk k nm az v s,⟨x,h1,h2,h3⟩=>⟨x,h1,h2.mono (λ_ _ h=>h) λus' a ha g=>(tyR.depth g).le (pF ha),h3⟩
end
instance encT:Enc Kt where
 sz:=5
 by':=56
 rep S us t:=tyR S t.depth us t
 len {X us t} h:=by
  obtain ⟨k,nm,az,v,s⟩:=t
  obtain ⟨x,rfl,_⟩:=h; rfl
 ones {X us t} h:=by
  obtain ⟨k,nm,az,v,s⟩:=t
  obtain ⟨x,rfl,h2,_⟩:=h
  simp only [tyC,List.all_cons,List.all_nil,h2.one,Bool.and_true,Bool.true_and]; rfl
 up hr h:=tyR.mono hr h
abbrev Ty (S:Res) (us:List Value) (t:Kt):Prop:=Enc.rep S us t
abbrev Tys (S:Res) (v:Value) (ts:List Kt):Prop:=Ls S v ts
section
variable {S T:Res}
theorem fZ {us:List Value} {t:Kt} {x:Value} (h1:us=tyC t x) (h2:Tys S x t.args):Ty S us t:=by
 obtain ⟨k,nm,az,v,s⟩:=t
 exact ⟨x,h1,h2.1.mono (λ_ _ h=>h) λus' a ha g=>tyR.le g (pF ha),h2.2⟩
theorem ek {us:List Value} {t:Kt} (h:Ty S us t):∃ x,us=tyC t x/\Tys S x t.args:=by
 obtain ⟨k,nm,az,v,s⟩:=t
 obtain ⟨x,h1,h2,h3⟩:=h
 exact ⟨x,h1,h2.mono (λ_ _ h=>h) λus' a ha g=>tyR.depth g,h3⟩
end
/-! ### Expressions -/
def exC (t:Ex) (x:Value):List Value:=[.int .i64 t.kind,sv t.name,.int .i64 t.num,x]
def exR (S:Res):Nat->List Value->Ex->Prop
 | 0,_,_=>False
 | n+1,us,t=>∃ x,us=exC t x/\Row S 4 (exR S n) x t.kids/\t.kids.length * 56≤reachBytes
section
variable {S T:Res}
theorem exR.mono (hr:∀ p u,Rd S p u->Rd T p u):∀ {n:Nat} {us:List Value} {t:Ex},exR S n us t->exR T n us t
 | 0,_,_,h=>h.elim
 | n+1,us,t,⟨x,h1,h2,h3⟩=>⟨x,h1,h2.mono hr λ_ _ _ h=>exR.mono hr h,h3⟩
theorem exR.le:∀ {n m:Nat} {us:List Value} {t:Ex},exR S n us t->n≤m->exR S m us t
 | 0,_,_,_,h,_=>h.elim
 | n+1,0,_,_,_,h=>by omega
 | n+1,m+1,us,t,⟨x,h1,h2,h3⟩,h=>⟨x,h1,h2.mono (λ_ _ h=>h) λ_ _ _ g=>exR.le g (by omega),h3⟩
theorem exR.depth:∀ {n:Nat} {us:List Value} {t:Ex},exR S n us t->exR S t.depth us t
 | 0,_,_,h=>h.elim
 | n+1,us,.mk k nm i l,⟨x,h1,h2,h3⟩=>⟨x,h1,h2.mono (λ_ _ h=>h) λus' a ha g=>(exR.depth g).le (vJ ha),h3⟩
end
instance encE:Enc Ex where
 sz:=4
 by':=56
 rep S us t:=exR S t.depth us t
 len {X us t} h:=by
  obtain ⟨k,nm,i,l⟩:=t
  obtain ⟨x,rfl,_⟩:=h; rfl
 ones {X us t} h:=by
  obtain ⟨k,nm,i,l⟩:=t
  obtain ⟨x,rfl,h2,_⟩:=h
  simp only [exC,List.all_cons,List.all_nil,h2.one,Bool.and_true]; rfl
 up hr h:=exR.mono hr h
section
variable {S T:Res}
theorem CP {us:List Value} {t:Ex} {x:Value} (h1:us=exC t x) (h2:Ls S x t.kids):Enc.rep S us t:=by
 obtain ⟨k,nm,i,l⟩:=t
 exact ⟨x,h1,h2.1.mono (λ_ _ h=>h) λus' a ha g=>exR.le g (vJ ha),h2.2⟩
theorem l8 {us:List Value} {t:Ex} (h:Enc.rep S us t):∃ x,us=exC t x/\Ls S x t.kids:=by
 obtain ⟨k,nm,i,l⟩:=t
 obtain ⟨x,h1,h2,h3⟩:=h
 exact ⟨x,h1,h2.mono (λ_ _ h=>h) λus' a ha g=>exR.depth g,h3⟩
end
/-! ### The rest -/
instance encCla:Enc Cla where
 sz:=5
 by':=72
 rep S us c:=∃ es,us=sv c.tag::es/\Enc.rep S es c.ex
 len h:=by obtain ⟨es,rfl,h2⟩:=h; rw [List.length_cons,Enc.len h2]; rfl
 ones h:=by obtain ⟨es,rfl,h2⟩:=h; rw [List.all_cons,Enc.ones h2]; rfl
 up hr h:=by obtain ⟨es,h1,h2⟩:=h; exact ⟨es,h1,Enc.up hr h2⟩
instance encGrp:Enc Grp where
 sz:=2
 by':=40
 rep S us g:=∃ x,us=[sv g.cls,x]/\Ls S x g.cs
 len h:=by obtain ⟨x,rfl,_⟩:=h; rfl
 ones h:=by obtain ⟨x,rfl,h2⟩:=h; simp [h2.one]; rfl
 up hr h:=by obtain ⟨x,h1,h2⟩:=h; exact ⟨x,h1,h2.up' hr⟩
instance encVr:Enc Vr where
 sz:=6
 by':=72
 rep S us v:=∃ ts,us=sv v.name::ts/\Ty S ts v.ty
 len h:=by obtain ⟨es,rfl,h2⟩:=h; rw [List.length_cons,Enc.len h2]; rfl
 ones h:=by obtain ⟨es,rfl,h2⟩:=h; rw [List.all_cons,Enc.ones h2]; rfl
 up hr h:=by obtain ⟨es,h1,h2⟩:=h; exact ⟨es,h1,Enc.up hr h2⟩
instance encSd:Enc Sd where
 sz:=2
 by':=32
 rep _ us s:=us=[sv s.cls,sv s.name]
 len h:=by subst h; rfl
 ones h:=by subst h; rfl
 up _ h:=h
instance encOg:Enc Og where
 sz:=2
 by':=32
 rep _ us s:=us=[sv s.par,sv s.name]
 len h:=by subst h; rfl
 ones h:=by subst h; rfl
 up _ h:=h
instance encFm:Enc Fm where
 sz:=2
 by':=32
 rep _ us s:=us=[sv s.name,sv s.bound]
 len h:=by subst h; rfl
 ones h:=by subst h; rfl
 up _ h:=h
instance encPn:Enc Pn where
 sz:=2
 by':=32
 rep _ us s:=us=[sv s.fro,sv s.to]
 len h:=by subst h; rfl
 ones h:=by subst h; rfl
 up _ h:=h
def mbC (m:Mb) (x2 x5:Value) (ts:List Value) (x11 x12 x13:Value):List Value:=sv m.name::.int .i64 m.kind::x2::sv m.impl.cls::sv m.impl.name::x5::(ts++[x11,x12,x13])
def mbR (S:Res) (m:Mb) (x2 x5:Value) (ts:List Value) (x11 x12 x13:Value):Prop:=Ls S x2 m.seeds/\Ls S x5 m.args/\Ty S ts m.ty/\Ls S x11 m.clients/\Ls S x12 m.pre/\Ls S x13 m.post
instance encMb:Enc Mb where
 sz:=14
 by':=232
 rep S us m:=∃ x2 x5 ts x11 x12 x13,us=mbC m x2 x5 ts x11 x12 x13/\mbR S m x2 x5 ts x11 x12 x13
 len h:=by
  obtain ⟨x2,x5,ts,x11,x12,x13,rfl,_,_,h3,_⟩:=h
  simp [mbC,Enc.len h3]; rfl
 ones h:=by
  obtain ⟨x2,x5,ts,x11,x12,x13,rfl,h1,h2,h3,h4,h5,h6⟩:=h
  simp only [mbC,List.all_cons,List.all_append,Enc.ones h3,List.all_nil,h1.one,h2.one,h4.one,h5.one,h6.one,Bool.and_true,Bool.true_and]; rfl
 up hr h:=by
  obtain ⟨x2,x5,ts,x11,x12,x13,h0,h1,h2,h3,h4,h5,h6⟩:=h
  exact ⟨x2,x5,ts,x11,x12,x13,h0,h1.up' hr,h2.up' hr,Enc.up hr h3,h4.up' hr,h5.up' hr,h6.up' hr⟩
instance encFl:Enc Fl where
 sz:=4
 by':=72
 rep S us f:=∃ x y,us=[sv f.name,.bool f.dfd,x,y]/\Ls S x f.mems/\Ls S y f.inv
 len h:=by obtain ⟨x,y,rfl,_⟩:=h; rfl
 ones h:=by obtain ⟨x,y,rfl,h2,h3⟩:=h; simp [h2.one,h3.one]; exact ⟨rfl,rfl⟩
 up hr h:=by obtain ⟨x,y,h1,h2,h3⟩:=h; exact ⟨x,y,h1,h2.up' hr,h3.up' hr⟩
def feC (f:Fe) (x2 x3:Value) (ts:List Value) (x9 x10 x11 x12 x13 x14:Value):List Value:=.int .i64 f.kind::sv f.name::x2::x3::(ts++[x9,x10,x11,x12,x13,x14])
instance encFe:Enc Fe where
 sz:=15
 by':=256
 rep S us f:=∃ x2 x3 ts x9 x10 x11 x12 x13 x14,us=feC f x2 x3 ts x9 x10 x11 x12 x13 x14/\Ls S x2 f.clients/\Ls S x3 f.args/\Ty S ts f.ty/\Ls S x10 f.req/\Ls S x11 f.ens/\[x9,x12,x13,x14].all Value.oneCell'=true
 len h:=by
  obtain ⟨x2,x3,ts,x9,x10,x11,x12,x13,x14,rfl,_,_,h3,_⟩:=h
  simp [feC,Enc.len h3]; rfl
 ones h:=by
  obtain ⟨x2,x3,ts,x9,x10,x11,x12,x13,x14,rfl,h1,h2,h3,h4,h5,h6⟩:=h
  simp only [List.all_cons,List.all_nil,Bool.and_true,Bool.and_eq_true] at h6
  simp only [feC,List.all_cons,List.all_append,Enc.ones h3,List.all_nil,h1.one,h2.one,h4.one,h5.one,h6.1,h6.2.1,h6.2.2.1,h6.2.2.2,Bool.and_true,Bool.true_and]; rfl
 up hr h:=by
  obtain ⟨x2,x3,ts,x9,x10,x11,x12,x13,x14,h0,h1,h2,h3,h4,h5,h6⟩:=h
  exact ⟨x2,x3,ts,x9,x10,x11,x12,x13,x14,h0,h1.up' hr,h2.up' hr,Enc.up hr h3,h4.up' hr,h5.up' hr,h6⟩
instance encPt:Enc Pt where
 sz:=6
 by':=136
 rep S us p:=∃ a b c d e,us=[sv p.name,a,b,c,d,e]/\Tys S a p.args/\Ls S b p.ren/\Ls S c p.und/\Ls S d p.red/\Ls S e p.sel
 len h:=by obtain ⟨a,b,c,d,e,rfl,_⟩:=h; rfl
 ones h:=by obtain ⟨a,b,c,d,e,rfl,h1,h2,h3,h4,h5⟩:=h; simp [h1.one,h2.one,h3.one,h4.one,h5.one]; rfl
 up hr h:=by obtain ⟨a,b,c,d,e,h0,h1,h2,h3,h4,h5⟩:=h; exact ⟨a,b,c,d,e,h0,h1.up' hr,h2.up' hr,h3.up' hr,h4.up' hr,h5.up' hr⟩
instance encFC:Enc FC where
 sz:=7
 by':=144
 rep S us c:=∃ a b e f i,us=[sv c.name,.bool c.dfd,a,b,e,f,i]/\Ls S a c.forms/\Ls S b c.pars/\e.oneCell'=true/\Ls S f c.feats/\Ls S i c.inv
 len h:=by obtain ⟨a,b,e,f,i,rfl,_⟩:=h; rfl
 ones h:=by obtain ⟨a,b,e,f,i,rfl,h1,h2,h3,h4,h5⟩:=h; simp [h1.one,h2.one,h3,h4.one,h5.one]; exact ⟨rfl,rfl⟩
 up hr h:=by obtain ⟨a,b,e,f,i,h0,h1,h2,h3,h4,h5⟩:=h; exact ⟨a,b,e,f,i,h0,h1.up' hr,h2.up' hr,h3,h4.up' hr,h5.up' hr⟩
instance encCm:Enc Cm where
 sz:=18
 by':=280
 rep S us x:=∃ ms,us=sv x.og.par::sv x.og.name::.int .i64 x.par::(ms++[.int .i64 x.was])/\Enc.rep S ms x.mem
 len h:=by obtain ⟨ms,rfl,h1⟩:=h; simp [Enc.len h1]; rfl
 ones h:=by obtain ⟨ms,rfl,h1⟩:=h; simp only [List.all_cons,List.all_append,Enc.ones h1,List.all_nil,Bool.and_true]; rfl
 up hr h:=by obtain ⟨ms,h0,h1⟩:=h; exact ⟨ms,h0,Enc.up hr h1⟩
def cfC (c:Cf):List Value:=[.int .i64 c.kind,sv c.cls,sv c.name,sv c.other,sv c.a.par,sv c.a.name,sv c.b.par,sv c.b.name]
def cfV (c:Cf):Value:=.agg (cfC c).toArray
end Go.Fl
namespace Go.Ck
open Go Go.RowKit
theorem Ad {P:Program} {e:Env} {h:SH} {t E ty:TypeId} {x y:Operand} {z:Value} {sz bytes:Nat} {a:Option Addr} {n cp:Nat} (hx:e.ev? x=some (.slice a n cp)) (hy:e.ev? y=some (.slice none 0 0)) (hT:P.underlying t=some (.slice E)) (hE:Inf P E z sz bytes) (hn:n≤cp):Vop P e h (.call { callee:=.builtin .append,args := #[x,y],argTypes := #[t,t] }) ty (.slice a n cp):=
 ⟨by simp,by simp,λρ w d pos after g hρ _=>by
  obtain ⟨i,hi,hz,hisz,hiby⟩:=hE.parts
  cases a <;> simp [execOp,resolve,invoke,builtin,hρ x _ hx,hρ y _ hy,Builtin.append_,run_underlying hT,sizeOf,typeInfo,hi,Builtin.lenOf,Builtin.firstCells,loadCells,loadCellsFrom,hn,storeCells]⟩
section
variable {α : Type} {S:Res} {sz:Nat} {X:List Value -> α -> Prop}
theorem Row.take {a:Option Addr} {n cp k:Nat} {l:List α} (h:Row S sz X (.slice a n cp) l) (hk:k≤l.length):Row S sz X (.slice a k cp) (l.take k):=by
 obtain ⟨a',cap,he,h2,h3,h4,h5⟩:=h
 cases he
 refine ⟨a,cp,by rw [List.length_take,Nat.min_eq_left hk],by rw [List.length_take]; omega,h3,h4,λi x hi=>?_⟩
 rw [List.getElem?_take] at hi
 split at hi
 ·exact h5 i x hi
 ·cases hi
theorem Row.drop {b o n cp k:Nat} {l:List α} (h:Row S sz X (.slice (some ⟨b,o,none⟩) n cp) l) (hk:k≤l.length):Row S sz X (.slice (some ⟨b,if cp=k then o else o+k * sz,none⟩) (n - k) (cp - k)) (l.drop k):=by
 obtain ⟨a',cap,he,h2,h3,h4,h5⟩:=h
 cases he
 refine ⟨_,_,by rw [List.length_drop],by rw [List.length_drop]; omega,by omega,(λh=>by cases h),λi x hi=>?_⟩
 rw [List.getElem?_drop] at hi
 have hlt:=(List.getElem?_eq_some_iff.1 hi).1
 obtain ⟨b2,o2,us,e,h6,h7,h8⟩:=h5 (k+i) x hi
 cases e
 refine ⟨_,_,us,Z,h6,?_,h8⟩
 rw [if_neg (by omega),Nat.add_assoc,<- Nat.add_mul]; exact h7
variable {c:Cx} {ops:Array Oper} {K:Act->World->Prop} {rest:List Oper} {e:Env} {h h' h'':SH}
theorem rH {l : List α} {v v1 z : Value} {E t ty : TypeId} {bytes d : Nat} {x y : Operand} {pos : String} {after : Array Edge} {rows : List (List Value)} (hv : Row S sz X v l)
  (hx:e.ev? x=some v1) (hy:e.ev? y=some v) (ht:c.P.underlying t=some (.slice E)) (hE:Inf c.P E z sz bytes) (hzs:z.cells.size=sz) (hsz:0<sz)
  (hs:Sel h (VR v1 E sz rows) h') (hS:Sel h' S h'') (h1:∀ us x,x∈l->X us x->∀ u∈us,u.oneCell'=true) (hb:(rows.length+l.length) * bytes≤140737488355328) (h63:rows.length+l.length≤9223372036854775807) (hd:d<c.n)
  (hnx:∀ v' news,v'.oneCell'=true->news.length=l.length->(∀ r∈news,r.length=sz)->(∀ (i:Nat) us x,news[i]? = some us->l[i]? = some x->X us x)->St c ops K rest ((d,v')::e) (VR v' E sz (rows++news)::h')) :
  St c ops K (⟨some d,.call { callee:=.builtin .append,args := #[x,y],argTypes := #[t,t] },ty,pos,after,none⟩::rest) e h:=by
 obtain ⟨a,cap,rfl,hlc,hcm,hnone,hel⟩:=id hv
 have key:St c ops K (⟨some d,.call { callee:=.builtin .append,args := #[x,y],argTypes := #[t,t] },ty,pos,after,none⟩::rest) e (VR v1 E sz rows::h'):=by
  cases a with
  | none =>
   have hc0:cap=0:=hnone rfl
   have hl0:l=[]:=List.eq_nil_of_length_eq_zero<|by omega
   subst hl0 hc0
   refine oF .here λ⟨f,hf⟩=>?_
   have hn:=hnx v1 []
   rw [List.append_nil] at hn
   rcases VR.form hf with ⟨rfl,g1⟩ | ⟨b,o,cp,rfl,g1,g2⟩
   ·exact Ib (Ad hx hy ht hE<|Nat.le_refl _) hd (hn Z Z (by simp) λi us x h=>by simp at h)
   ·exact Ib (Ad hx hy ht hE g1) hd (hn Z Z (by simp) λi us x h=>by simp at h)
  | some a =>
   obtain ⟨news,r1,r2,r3,r4⟩:=hv.cells
   exact Ki news hx hy ht hE hzs hsz .here r2 r1 (λj u hu=>by obtain ⟨b2,o,hb2,hr⟩:=r4 j u hu; cases hb2; rw [Addr.add_lit]; exact ⟨S,_,.there hS,hr⟩) (λu hu=>by obtain ⟨us,h2,h3⟩:=List.mem_flatten.1 hu; obtain ⟨i,hi,rfl⟩:=List.mem_iff_getElem.1 h2; exact h1 _ l[i] (List.getElem_mem _) (r3 i _ _ (Zy hi)<|Zy<|by omega) u h3) hb h63 hd λv' hv' _=>hnx v' news hv' r1 r2 r3
 exact St.perm hs.perm key
end
theorem Ae {P : Program} {e : Env} {h : SH} {ty : TypeId} {T E : TypeId} {x y z : Operand} {a : Option Addr} {n cp hi mx sz : Nat} {i j : Int} {k k' : IntKind} (hx : e.ev? x = some (.slice a n cp)) (hy : e.ev? y = some (.int k i)) (hz : e.ev? z = some (.int k' j)) (hT : SlE P T E sz)
  (hi':i=(hi:Int)) (hj:j=(mx:Int)) (h1:hi≤mx) (h2:mx≤cp):Vop P e h (.slice T x none (some y)<|some z) ty (.slice a hi mx):=
 ⟨by simp,by simp,λρ w d pos after g hρ _=>by
  subst hi' hj
  have hT':P.underlying T=some (.slice<|P.elem T):=by simp [Program.elem,hT.1]
  have he:P.elem T=E:=by simp [Program.elem,hT.1]
  have hr:=run_slice_hm (P:=P) w T a n cp hT' k k' hi mx (by omega) (by omega)<|by omega
  have hs:sliced a 0 hi mx sz = .slice a hi mx:=by
   unfold sliced; by_cases hcl:mx=0 <;> cases a <;> simp [hcl,Addr.add]
  simp only [he,hT.2 w,Result.andThen_ok,Int.toNat_natCast,hs] at hr
  simp only [execOp,hρ x _ hx,Option.map_some,Option.map_none,hρ y _ hy,hρ z _ hz,Sem.run_bind,run_sliceAt_slice w T _ _ _ _ hT',hr,Result.andThen_ok,Sem.run_pure]⟩
end Go.Ck
namespace Go.Fl
open Go Go.RowKit Go.Ck Go.Proofs Go.Proofs.Tryz Go.Proofs.YtknmacdbffgjgaaGreatDoor Fx Go.Hr
attribute [local irreducible] Go.Ck.Sub St Cd Xt Nx DrL LsW
def ixI (o:Option Nat):Int:=match o with | some i=>i | none => -1
section
variable {X:Res} {v:Value}
theorem Lt {xs:List Pn} {kf:FuncId} {cp:Array Value} {g:Pn->Bool} (hv:Ls X v xs) (hE:Ck.Enters prog kf) (hf:∀ a∈xs,∀ us,Enc.rep X us a->Reads prog kf (#[]++([.agg us.toArray]:List Value).toArray++cp) [X] (.bool (g a))):Reads prog 153 #[v,.func (.func kf) #[] cp] [X] (.int .i64 (ixI (xs.findIdx? g))):=by
 have hml:maxLen=9223372036854775807:=rfl
 obtain ⟨a,cap,rfl,hlc,hcm,_⟩:=id hv.form
 refine aL (n:=19) func153 Z Z (len Z) λhr w0=>?_
 refine cQ<|sA Z<|sN<|nT<|cS<|cQ<|sM Z<|sV (aF Z underlying86)<|sM Z<|sK [0,1,4,7,8] Z<|cB<|aW (σ := Nat) (λi=>[(0,.slice a xs.length cap),(1,.func (.func kf) #[] cp),(7,.int .i64 xs.length),(8,.int .i64 (i:Nat))]) (λ_=>X::hr) (λi=>i≤xs.length/\∀ j (hj:j<xs.length),j<i->g xs[j]=false) (λi=>xs.length - i) 0 ⟨Nat.zero_le _,λj _ hj=>absurd hj<|Nat.not_lt_zero _⟩ ?_
 rintro i ⟨hi,hal⟩
 refine cQ<|sV (aN Z Z)<|sN<|nT<|cS<|cC Z (λhd=>?_)<|λhd=>?_
 ·have hlt:i<xs.length:=Zx
  obtain ⟨b,o,cap2,us,e1,hus,hrd,hre⟩:=hv.at<|Zy hlt
  cases e1
  have hfx:=hf xs[i] (List.getElem_mem hlt) us hre
  refine cK<|xT<|cS<|cB<|cQ<|sM Z<|sA Z<|sK [0,1,5,7,8] Z<|cQ<|sM Z<|sM Z<|sM Z ?_
  refine sV (vI (k:=i) Z Z sl86 Z hlt Z)<|sV (af Z qV hus hrd) ?_
  refine aX Z Z hE Z (hfx) ?_
  refine sK [0,1,5,7,8,16] Z<|cC Z (λhe=>?_)<|λhe=>?_
  ·have he:g xs[i]=true:=he
   rw [show xs.findIdx? g=some i by
    rw [List.findIdx?_eq_some_iff_getElem]
    exact ⟨hlt,he,λj hj=>by rw [hal j (by omega) hj]; decide⟩]
   refine cQ<|sM Z<|sA Z<|sK [4] Z<|cT<|xW<|xR<|xR<|xW<|xR ?_
   exact aj Z ⟨Z,Z⟩ sbq
  ·have he:g xs[i]=false:=he
   refine cK<|xB<|xT<|cR<|sV (aI Z Z Z0)<|sM Z<|sN<|nK [0,1,7,8] Z<|ax<|aM (i+1) ⟨hlt,λj hj hj2=>?_⟩<|Nat.sub_lt_sub_left hlt<|Nat.lt_succ_self i
   by_cases hji:j=i
   ·subst hji; exact he
   ·exact hal j hj<|by omega
 ·have hil:i=xs.length:=by
   have:¬ i<xs.length:=Zx
   omega
  rw [show xs.findIdx? g=none by
   rw [List.findIdx?_eq_none_iff]
   intro f hfm
   obtain ⟨j,hj,rfl⟩:=List.getElem_of_mem hfm
   exact hal j hj (by omega)]
  refine aC<|xE<|xE<|xY<|xT<|cQ<|sA Z<|sK [4] Z<|cT ?_
  exact aj Z ⟨Z,Z⟩ sbq
theorem Lu {xs:List FC} {kf:FuncId} {cp:Array Value} {g:FC->Bool} (hv:Ls X v xs) (hE:Ck.Enters prog kf) (hf:∀ a∈xs,∀ us,Enc.rep X us a->Reads prog kf (#[]++([.agg us.toArray]:List Value).toArray++cp) [X] (.bool (g a))):Reads prog 150 #[v,.func (.func kf) #[] cp] [X] (.int .i64 (ixI (xs.findIdx? g))):=by
 have hml:maxLen=9223372036854775807:=rfl
 obtain ⟨a,cap,rfl,hlc,hcm,_⟩:=id hv.form
 refine aL (n:=19) func150 Z Z (len Z) λhr w0=>?_
 refine cQ<|sA Z<|sN<|nT<|cS<|cQ<|sM Z<|sV (aF Z underlying22)<|sM Z<|sK [0,1,4,7,8] Z<|cB<|aW (σ := Nat) (λi=>[(0,.slice a xs.length cap),(1,.func (.func kf) #[] cp),(7,.int .i64 xs.length),(8,.int .i64 (i:Nat))]) (λ_=>X::hr) (λi=>i≤xs.length/\∀ j (hj:j<xs.length),j<i->g xs[j]=false) (λi=>xs.length - i) 0 ⟨Nat.zero_le _,λj _ hj=>absurd hj<|Nat.not_lt_zero _⟩ ?_
 rintro i ⟨hi,hal⟩
 refine cQ<|sV (aN Z Z)<|sN<|nT<|cS<|cC Z (λhd=>?_)<|λhd=>?_
 ·have hlt:i<xs.length:=Zx
  obtain ⟨b,o,cap2,us,e1,hus,hrd,hre⟩:=hv.at<|Zy hlt
  cases e1
  have hfx:=hf xs[i] (List.getElem_mem hlt) us hre
  refine cK<|xT<|cS<|cB<|cQ<|sM Z<|sA Z<|sK [0,1,5,7,8] Z<|cQ<|sM Z<|sM Z<|sM Z ?_
  refine sV (vI (k:=i) Z Z vz Z hlt Z)<|sV (af Z gL hus hrd) ?_
  refine aX Z Z hE Z (hfx) ?_
  refine sK [0,1,5,7,8,16] Z<|cC Z (λhe=>?_)<|λhe=>?_
  ·have he:g xs[i]=true:=he
   rw [show xs.findIdx? g=some i by
    rw [List.findIdx?_eq_some_iff_getElem]
    exact ⟨hlt,he,λj hj=>by rw [hal j (by omega) hj]; decide⟩]
   refine cQ<|sM Z<|sA Z<|sK [4] Z<|cT<|xW<|xR<|xR<|xW<|xR ?_
   exact aj Z ⟨Z,Z⟩ sbq
  ·have he:g xs[i]=false:=he
   refine cK<|xB<|xT<|cR<|sV (aI Z Z Z0)<|sM Z<|sN<|nK [0,1,7,8] Z<|ax<|aM (i+1) ⟨hlt,λj hj hj2=>?_⟩<|Nat.sub_lt_sub_left hlt<|Nat.lt_succ_self i
   by_cases hji:j=i
   ·subst hji; exact he
   ·exact hal j hj<|by omega
 ·have hil:i=xs.length:=by
   have:¬ i<xs.length:=Zx
   omega
  rw [show xs.findIdx? g=none by
   rw [List.findIdx?_eq_none_iff]
   intro f hfm
   obtain ⟨j,hj,rfl⟩:=List.getElem_of_mem hfm
   exact hal j hj (by omega)]
  refine aC<|xE<|xE<|xY<|xT<|cQ<|sA Z<|sK [4] Z<|cT ?_
  exact aj Z ⟨Z,Z⟩ sbq
theorem Lv {xs:List Fe} {kf:FuncId} {cp:Array Value} {g:Fe->Bool} (hv:Ls X v xs) (hE:Ck.Enters prog kf) (hf:∀ a∈xs,∀ us,Enc.rep X us a->Reads prog kf (#[]++([.agg us.toArray]:List Value).toArray++cp) [X] (.bool (g a))):Reads prog 151 #[v,.func (.func kf) #[] cp] [X] (.int .i64 (ixI (xs.findIdx? g))):=by
 have hml:maxLen=9223372036854775807:=rfl
 obtain ⟨a,cap,rfl,hlc,hcm,_⟩:=id hv.form
 refine aL (n:=19) func151 Z Z (len Z) λhr w0=>?_
 refine cQ<|sA Z<|sN<|nT<|cS<|cQ<|sM Z<|sV (aF Z underlying41)<|sM Z<|sK [0,1,4,7,8] Z<|cB<|aW (σ := Nat) (λi=>[(0,.slice a xs.length cap),(1,.func (.func kf) #[] cp),(7,.int .i64 xs.length),(8,.int .i64 (i:Nat))]) (λ_=>X::hr) (λi=>i≤xs.length/\∀ j (hj:j<xs.length),j<i->g xs[j]=false) (λi=>xs.length - i) 0 ⟨Nat.zero_le _,λj _ hj=>absurd hj<|Nat.not_lt_zero _⟩ ?_
 rintro i ⟨hi,hal⟩
 refine cQ<|sV (aN Z Z)<|sN<|nT<|cS<|cC Z (λhd=>?_)<|λhd=>?_
 ·have hlt:i<xs.length:=Zx
  obtain ⟨b,o,cap2,us,e1,hus,hrd,hre⟩:=hv.at<|Zy hlt
  cases e1
  have hfx:=hf xs[i] (List.getElem_mem hlt) us hre
  refine cK<|xT<|cS<|cB<|cQ<|sM Z<|sA Z<|sK [0,1,5,7,8] Z<|cQ<|sM Z<|sM Z<|sM Z ?_
  refine sV (vI (k:=i) Z Z sl41 Z hlt Z)<|sV (af Z oq hus hrd) ?_
  refine aX Z Z hE Z (hfx) ?_
  refine sK [0,1,5,7,8,16] Z<|cC Z (λhe=>?_)<|λhe=>?_
  ·have he:g xs[i]=true:=he
   rw [show xs.findIdx? g=some i by
    rw [List.findIdx?_eq_some_iff_getElem]
    exact ⟨hlt,he,λj hj=>by rw [hal j (by omega) hj]; decide⟩]
   refine cQ<|sM Z<|sA Z<|sK [4] Z<|cT<|xW<|xR<|xR<|xW<|xR ?_
   exact aj Z ⟨Z,Z⟩ sbq
  ·have he:g xs[i]=false:=he
   refine cK<|xB<|xT<|cR<|sV (aI Z Z Z0)<|sM Z<|sN<|nK [0,1,7,8] Z<|ax<|aM (i+1) ⟨hlt,λj hj hj2=>?_⟩<|Nat.sub_lt_sub_left hlt<|Nat.lt_succ_self i
   by_cases hji:j=i
   ·subst hji; exact he
   ·exact hal j hj<|by omega
 ·have hil:i=xs.length:=by
   have:¬ i<xs.length:=Zx
   omega
  rw [show xs.findIdx? g=none by
   rw [List.findIdx?_eq_none_iff]
   intro f hfm
   obtain ⟨j,hj,rfl⟩:=List.getElem_of_mem hfm
   exact hal j hj (by omega)]
  refine aC<|xE<|xE<|xY<|xT<|cQ<|sA Z<|sK [4] Z<|cT ?_
  exact aj Z ⟨Z,Z⟩ sbq
theorem wT {xs:List Mb} {kf:FuncId} {cp:Array Value} {g:Mb->Bool} (hv:Ls X v xs) (hE:Ck.Enters prog kf) (hf:∀ a∈xs,∀ us,Enc.rep X us a->Reads prog kf (#[]++([.agg us.toArray]:List Value).toArray++cp) [X] (.bool (g a))):Reads prog 222 #[v,.func (.func kf) #[] cp] [X] (.int .i64 (ixI (xs.findIdx? g))):=by
 have hml:maxLen=9223372036854775807:=rfl
 obtain ⟨a,cap,rfl,hlc,hcm,_⟩:=id hv.form
 refine aL (n:=19) func222 Z Z (len Z) λhr w0=>?_
 refine cQ<|sA Z<|sN<|nT<|cS<|cQ<|sM Z<|sV (aF Z underlying52)<|sM Z<|sK [0,1,4,7,8] Z<|cB<|aW (σ := Nat) (λi=>[(0,.slice a xs.length cap),(1,.func (.func kf) #[] cp),(7,.int .i64 xs.length),(8,.int .i64 (i:Nat))]) (λ_=>X::hr) (λi=>i≤xs.length/\∀ j (hj:j<xs.length),j<i->g xs[j]=false) (λi=>xs.length - i) 0 ⟨Nat.zero_le _,λj _ hj=>absurd hj<|Nat.not_lt_zero _⟩ ?_
 rintro i ⟨hi,hal⟩
 refine cQ<|sV (aN Z Z)<|sN<|nT<|cS<|cC Z (λhd=>?_)<|λhd=>?_
 ·have hlt:i<xs.length:=Zx
  obtain ⟨b,o,cap2,us,e1,hus,hrd,hre⟩:=hv.at<|Zy hlt
  cases e1
  have hfx:=hf xs[i] (List.getElem_mem hlt) us hre
  refine cK<|xT<|cS<|cB<|cQ<|sM Z<|sA Z<|sK [0,1,5,7,8] Z<|cQ<|sM Z<|sM Z<|sM Z ?_
  refine sV (vI (k:=i) Z Z kQ Z hlt Z)<|sV (af Z dJ hus hrd) ?_
  refine aX Z Z hE Z (hfx) ?_
  refine sK [0,1,5,7,8,16] Z<|cC Z (λhe=>?_)<|λhe=>?_
  ·have he:g xs[i]=true:=he
   rw [show xs.findIdx? g=some i by
    rw [List.findIdx?_eq_some_iff_getElem]
    exact ⟨hlt,he,λj hj=>by rw [hal j (by omega) hj]; decide⟩]
   refine cQ<|sM Z<|sA Z<|sK [4] Z<|cT<|xW<|xR<|xR<|xW<|xR ?_
   exact aj Z ⟨Z,Z⟩ sbq
  ·have he:g xs[i]=false:=he
   refine cK<|xB<|xT<|cR<|sV (aI Z Z Z0)<|sM Z<|sN<|nK [0,1,7,8] Z<|ax<|aM (i+1) ⟨hlt,λj hj hj2=>?_⟩<|Nat.sub_lt_sub_left hlt<|Nat.lt_succ_self i
   by_cases hji:j=i
   ·subst hji; exact he
   ·exact hal j hj<|by omega
 ·have hil:i=xs.length:=by
   have:¬ i<xs.length:=Zx
   omega
  rw [show xs.findIdx? g=none by
   rw [List.findIdx?_eq_none_iff]
   intro f hfm
   obtain ⟨j,hj,rfl⟩:=List.getElem_of_mem hfm
   exact hal j hj (by omega)]
  refine aC<|xE<|xE<|xY<|xT<|cQ<|sA Z<|sK [4] Z<|cT ?_
  exact aj Z ⟨Z,Z⟩ sbq
theorem Lx {xs:List Fm} {kf:FuncId} {cp:Array Value} {g:Fm->Bool} (hv:Ls X v xs) (hE:Ck.Enters prog kf) (hf:∀ a∈xs,∀ us,Enc.rep X us a->Reads prog kf (#[]++([.agg us.toArray]:List Value).toArray++cp) [X] (.bool (g a))):Reads prog 185 #[v,.func (.func kf) #[] cp] [X] (.int .i64 (ixI (xs.findIdx? g))):=by
 have hml:maxLen=9223372036854775807:=rfl
 obtain ⟨a,cap,rfl,hlc,hcm,_⟩:=id hv.form
 refine aL (n:=19) func185 Z Z (len Z) λhr w0=>?_
 refine cQ<|sA Z<|sN<|nT<|cS<|cQ<|sM Z<|sV (aF Z underlying38)<|sM Z<|sK [0,1,4,7,8] Z<|cB<|aW (σ := Nat) (λi=>[(0,.slice a xs.length cap),(1,.func (.func kf) #[] cp),(7,.int .i64 xs.length),(8,.int .i64 (i:Nat))]) (λ_=>X::hr) (λi=>i≤xs.length/\∀ j (hj:j<xs.length),j<i->g xs[j]=false) (λi=>xs.length - i) 0 ⟨Nat.zero_le _,λj _ hj=>absurd hj<|Nat.not_lt_zero _⟩ ?_
 rintro i ⟨hi,hal⟩
 refine cQ<|sV (aN Z Z)<|sN<|nT<|cS<|cC Z (λhd=>?_)<|λhd=>?_
 ·have hlt:i<xs.length:=Zx
  obtain ⟨b,o,cap2,us,e1,hus,hrd,hre⟩:=hv.at<|Zy hlt
  cases e1
  have hfx:=hf xs[i] (List.getElem_mem hlt) us hre
  refine cK<|xT<|cS<|cB<|cQ<|sM Z<|sA Z<|sK [0,1,5,7,8] Z<|cQ<|sM Z<|sM Z<|sM Z ?_
  refine sV (vI (k:=i) Z Z sl38 Z hlt Z)<|sV (af Z JY hus hrd) ?_
  refine aX Z Z hE Z (hfx) ?_
  refine sK [0,1,5,7,8,16] Z<|cC Z (λhe=>?_)<|λhe=>?_
  ·have he:g xs[i]=true:=he
   rw [show xs.findIdx? g=some i by
    rw [List.findIdx?_eq_some_iff_getElem]
    exact ⟨hlt,he,λj hj=>by rw [hal j (by omega) hj]; decide⟩]
   refine cQ<|sM Z<|sA Z<|sK [4] Z<|cT<|xW<|xR<|xR<|xW<|xR ?_
   exact aj Z ⟨Z,Z⟩ sbq
  ·have he:g xs[i]=false:=he
   refine cK<|xB<|xT<|cR<|sV (aI Z Z Z0)<|sM Z<|sN<|nK [0,1,7,8] Z<|ax<|aM (i+1) ⟨hlt,λj hj hj2=>?_⟩<|Nat.sub_lt_sub_left hlt<|Nat.lt_succ_self i
   by_cases hji:j=i
   ·subst hji; exact he
   ·exact hal j hj<|by omega
 ·have hil:i=xs.length:=by
   have:¬ i<xs.length:=Zx
   omega
  rw [show xs.findIdx? g=none by
   rw [List.findIdx?_eq_none_iff]
   intro f hfm
   obtain ⟨j,hj,rfl⟩:=List.getElem_of_mem hfm
   exact hal j hj (by omega)]
  refine aC<|xE<|xE<|xY<|xT<|cQ<|sA Z<|sK [4] Z<|cT ?_
  exact aj Z ⟨Z,Z⟩ sbq
theorem LA {xs:List Sd} {kf:FuncId} {cp:Array Value} {g:Sd->Bool} (hv:Ls X v xs) (hE:Ck.Enters prog kf) (hf:∀ a∈xs,∀ us,Enc.rep X us a->Reads prog kf (#[]++([.agg us.toArray]:List Value).toArray++cp) [X] (.bool (g a))):Reads prog 100 #[v,.func (.func kf) #[] cp] [X] (.int .i64 (ixI (xs.findIdx? g))):=by
 have hml:maxLen=9223372036854775807:=rfl
 obtain ⟨a,cap,rfl,hlc,hcm,_⟩:=id hv.form
 refine aL (n:=19) func100 Z Z (len Z) λhr w0=>?_
 refine cQ<|sA Z<|sN<|nT<|cS<|cQ<|sM Z<|sV (aF Z underlying67)<|sM Z<|sK [0,1,4,7,8] Z<|cB<|aW (σ := Nat) (λi=>[(0,.slice a xs.length cap),(1,.func (.func kf) #[] cp),(7,.int .i64 xs.length),(8,.int .i64 (i:Nat))]) (λ_=>X::hr) (λi=>i≤xs.length/\∀ j (hj:j<xs.length),j<i->g xs[j]=false) (λi=>xs.length - i) 0 ⟨Nat.zero_le _,λj _ hj=>absurd hj<|Nat.not_lt_zero _⟩ ?_
 rintro i ⟨hi,hal⟩
 refine cQ<|sV (aN Z Z)<|sN<|nT<|cS<|cC Z (λhd=>?_)<|λhd=>?_
 ·have hlt:i<xs.length:=Zx
  obtain ⟨b,o,cap2,us,e1,hus,hrd,hre⟩:=hv.at<|Zy hlt
  cases e1
  have hfx:=hf xs[i] (List.getElem_mem hlt) us hre
  refine cK<|xT<|cS<|cB<|cQ<|sM Z<|sA Z<|sK [0,1,5,7,8] Z<|cQ<|sM Z<|sM Z<|sM Z ?_
  refine sV (vI (k:=i) Z Z oh Z hlt Z)<|sV (af Z gM hus hrd) ?_
  refine aX Z Z hE Z (hfx) ?_
  refine sK [0,1,5,7,8,16] Z<|cC Z (λhe=>?_)<|λhe=>?_
  ·have he:g xs[i]=true:=he
   rw [show xs.findIdx? g=some i by
    rw [List.findIdx?_eq_some_iff_getElem]
    exact ⟨hlt,he,λj hj=>by rw [hal j (by omega) hj]; decide⟩]
   refine cQ<|sM Z<|sA Z<|sK [4] Z<|cT<|xW<|xR<|xR<|xW<|xR ?_
   exact aj Z ⟨Z,Z⟩ sbq
  ·have he:g xs[i]=false:=he
   refine cK<|xB<|xT<|cR<|sV (aI Z Z Z0)<|sM Z<|sN<|nK [0,1,7,8] Z<|ax<|aM (i+1) ⟨hlt,λj hj hj2=>?_⟩<|Nat.sub_lt_sub_left hlt<|Nat.lt_succ_self i
   by_cases hji:j=i
   ·subst hji; exact he
   ·exact hal j hj<|by omega
 ·have hil:i=xs.length:=by
   have:¬ i<xs.length:=Zx
   omega
  rw [show xs.findIdx? g=none by
   rw [List.findIdx?_eq_none_iff]
   intro f hfm
   obtain ⟨j,hj,rfl⟩:=List.getElem_of_mem hfm
   exact hal j hj (by omega)]
  refine aC<|xE<|xE<|xY<|xT<|cQ<|sA Z<|sK [4] Z<|cT ?_
  exact aj Z ⟨Z,Z⟩ sbq
theorem LB {xs:List Grp} {kf:FuncId} {cp:Array Value} {g:Grp->Bool} (hv:Ls X v xs) (hE:Ck.Enters prog kf) (hf:∀ a∈xs,∀ us,Enc.rep X us a->Reads prog kf (#[]++([.agg us.toArray]:List Value).toArray++cp) [X] (.bool (g a))):Reads prog 167 #[v,.func (.func kf) #[] cp] [X] (.int .i64 (ixI (xs.findIdx? g))):=by
 have hml:maxLen=9223372036854775807:=rfl
 obtain ⟨a,cap,rfl,hlc,hcm,_⟩:=id hv.form
 refine aL (n:=19) func167 Z Z (len Z) λhr w0=>?_
 refine cQ<|sA Z<|sN<|nT<|cS<|cQ<|sM Z<|sV (aF Z underlying53)<|sM Z<|sK [0,1,4,7,8] Z<|cB<|aW (σ := Nat) (λi=>[(0,.slice a xs.length cap),(1,.func (.func kf) #[] cp),(7,.int .i64 xs.length),(8,.int .i64 (i:Nat))]) (λ_=>X::hr) (λi=>i≤xs.length/\∀ j (hj:j<xs.length),j<i->g xs[j]=false) (λi=>xs.length - i) 0 ⟨Nat.zero_le _,λj _ hj=>absurd hj<|Nat.not_lt_zero _⟩ ?_
 rintro i ⟨hi,hal⟩
 refine cQ<|sV (aN Z Z)<|sN<|nT<|cS<|cC Z (λhd=>?_)<|λhd=>?_
 ·have hlt:i<xs.length:=Zx
  obtain ⟨b,o,cap2,us,e1,hus,hrd,hre⟩:=hv.at<|Zy hlt
  cases e1
  have hfx:=hf xs[i] (List.getElem_mem hlt) us hre
  refine cK<|xT<|cS<|cB<|cQ<|sM Z<|sA Z<|sK [0,1,5,7,8] Z<|cQ<|sM Z<|sM Z<|sM Z ?_
  refine sV (vI (k:=i) Z Z Fs Z hlt Z)<|sV (af Z lQ hus hrd) ?_
  refine aX Z Z hE Z (hfx) ?_
  refine sK [0,1,5,7,8,16] Z<|cC Z (λhe=>?_)<|λhe=>?_
  ·have he:g xs[i]=true:=he
   rw [show xs.findIdx? g=some i by
    rw [List.findIdx?_eq_some_iff_getElem]
    exact ⟨hlt,he,λj hj=>by rw [hal j (by omega) hj]; decide⟩]
   refine cQ<|sM Z<|sA Z<|sK [4] Z<|cT<|xW<|xR<|xR<|xW<|xR ?_
   exact aj Z ⟨Z,Z⟩ sbq
  ·have he:g xs[i]=false:=he
   refine cK<|xB<|xT<|cR<|sV (aI Z Z Z0)<|sM Z<|sN<|nK [0,1,7,8] Z<|ax<|aM (i+1) ⟨hlt,λj hj hj2=>?_⟩<|Nat.sub_lt_sub_left hlt<|Nat.lt_succ_self i
   by_cases hji:j=i
   ·subst hji; exact he
   ·exact hal j hj<|by omega
 ·have hil:i=xs.length:=by
   have:¬ i<xs.length:=Zx
   omega
  rw [show xs.findIdx? g=none by
   rw [List.findIdx?_eq_none_iff]
   intro f hfm
   obtain ⟨j,hj,rfl⟩:=List.getElem_of_mem hfm
   exact hal j hj (by omega)]
  refine aC<|xE<|xE<|xY<|xT<|cQ<|sA Z<|sK [4] Z<|cT ?_
  exact aj Z ⟨Z,Z⟩ sbq
theorem CQ {xs:List Cm} {kf:FuncId} {cp:Array Value} {g:Cm->Bool} (hv:Ls X v xs) (hE:Ck.Enters prog kf) (hf:∀ a∈xs,∀ us,Enc.rep X us a->Reads prog kf (#[]++([.agg us.toArray]:List Value).toArray++cp) [X] (.bool (g a))):Reads prog 193 #[v,.func (.func kf) #[] cp] [X] (.int .i64 (ixI (xs.findIdx? g))):=by
 have hml:maxLen=9223372036854775807:=rfl
 obtain ⟨a,cap,rfl,hlc,hcm,_⟩:=id hv.form
 refine aL (n:=19) func193 Z Z (len Z) λhr w0=>?_
 refine cQ<|sA Z<|sN<|nT<|cS<|cQ<|sM Z<|sV (aF Z underlying187)<|sM Z<|sK [0,1,4,7,8] Z<|cB<|aW (σ := Nat) (λi=>[(0,.slice a xs.length cap),(1,.func (.func kf) #[] cp),(7,.int .i64 xs.length),(8,.int .i64 (i:Nat))]) (λ_=>X::hr) (λi=>i≤xs.length/\∀ j (hj:j<xs.length),j<i->g xs[j]=false) (λi=>xs.length - i) 0 ⟨Nat.zero_le _,λj _ hj=>absurd hj<|Nat.not_lt_zero _⟩ ?_
 rintro i ⟨hi,hal⟩
 refine cQ<|sV (aN Z Z)<|sN<|nT<|cS<|cC Z (λhd=>?_)<|λhd=>?_
 ·have hlt:i<xs.length:=Zx
  obtain ⟨b,o,cap2,us,e1,hus,hrd,hre⟩:=hv.at<|Zy hlt
  cases e1
  have hfx:=hf xs[i] (List.getElem_mem hlt) us hre
  refine cK<|xT<|cS<|cB<|cQ<|sM Z<|sA Z<|sK [0,1,5,7,8] Z<|cQ<|sM Z<|sM Z<|sM Z ?_
  refine sV (vI (k:=i) Z Z lJ Z hlt Z)<|sV (af Z ic hus hrd) ?_
  refine aX Z Z hE Z (hfx) ?_
  refine sK [0,1,5,7,8,16] Z<|cC Z (λhe=>?_)<|λhe=>?_
  ·have he:g xs[i]=true:=he
   rw [show xs.findIdx? g=some i by
    rw [List.findIdx?_eq_some_iff_getElem]
    exact ⟨hlt,he,λj hj=>by rw [hal j (by omega) hj]; decide⟩]
   refine cQ<|sM Z<|sA Z<|sK [4] Z<|cT<|xW<|xR<|xR<|xW<|xR ?_
   exact aj Z ⟨Z,Z⟩ sbq
  ·have he:g xs[i]=false:=he
   refine cK<|xB<|xT<|cR<|sV (aI Z Z Z0)<|sM Z<|sN<|nK [0,1,7,8] Z<|ax<|aM (i+1) ⟨hlt,λj hj hj2=>?_⟩<|Nat.sub_lt_sub_left hlt<|Nat.lt_succ_self i
   by_cases hji:j=i
   ·subst hji; exact he
   ·exact hal j hj<|by omega
 ·have hil:i=xs.length:=by
   have:¬ i<xs.length:=Zx
   omega
  rw [show xs.findIdx? g=none by
   rw [List.findIdx?_eq_none_iff]
   intro f hfm
   obtain ⟨j,hj,rfl⟩:=List.getElem_of_mem hfm
   exact hal j hj (by omega)]
  refine aC<|xE<|xE<|xY<|xT<|cQ<|sA Z<|sK [4] Z<|cT ?_
  exact aj Z ⟨Z,Z⟩ sbq
theorem LC {xs:List Vr} {kf:FuncId} {cp:Array Value} {g:Vr->Bool} (hv:Ls X v xs) (hE:Ck.Enters prog kf) (hf:∀ a∈xs,∀ us,Enc.rep X us a->Reads prog kf (#[]++([.agg us.toArray]:List Value).toArray++cp) [X] (.bool (g a))):Reads prog 223 #[v,.func (.func kf) #[] cp] [X] (.int .i64 (ixI (xs.findIdx? g))):=by
 have hml:maxLen=9223372036854775807:=rfl
 obtain ⟨a,cap,rfl,hlc,hcm,_⟩:=id hv.form
 refine aL (n:=19) func223 Z Z (len Z) λhr w0=>?_
 refine cQ<|sA Z<|sN<|nT<|cS<|cQ<|sM Z<|sV (aF Z underlying70)<|sM Z<|sK [0,1,4,7,8] Z<|cB<|aW (σ := Nat) (λi=>[(0,.slice a xs.length cap),(1,.func (.func kf) #[] cp),(7,.int .i64 xs.length),(8,.int .i64 (i:Nat))]) (λ_=>X::hr) (λi=>i≤xs.length/\∀ j (hj:j<xs.length),j<i->g xs[j]=false) (λi=>xs.length - i) 0 ⟨Nat.zero_le _,λj _ hj=>absurd hj<|Nat.not_lt_zero _⟩ ?_
 rintro i ⟨hi,hal⟩
 refine cQ<|sV (aN Z Z)<|sN<|nT<|cS<|cC Z (λhd=>?_)<|λhd=>?_
 ·have hlt:i<xs.length:=Zx
  obtain ⟨b,o,cap2,us,e1,hus,hrd,hre⟩:=hv.at<|Zy hlt
  cases e1
  have hfx:=hf xs[i] (List.getElem_mem hlt) us hre
  refine cK<|xT<|cS<|cB<|cQ<|sM Z<|sA Z<|sK [0,1,5,7,8] Z<|cQ<|sM Z<|sM Z<|sM Z ?_
  refine sV (vI (k:=i) Z Z zH Z hlt Z)<|sV (af Z vC hus hrd) ?_
  refine aX Z Z hE Z (hfx) ?_
  refine sK [0,1,5,7,8,16] Z<|cC Z (λhe=>?_)<|λhe=>?_
  ·have he:g xs[i]=true:=he
   rw [show xs.findIdx? g=some i by
    rw [List.findIdx?_eq_some_iff_getElem]
    exact ⟨hlt,he,λj hj=>by rw [hal j (by omega) hj]; decide⟩]
   refine cQ<|sM Z<|sA Z<|sK [4] Z<|cT<|xW<|xR<|xR<|xW<|xR ?_
   exact aj Z ⟨Z,Z⟩ sbq
  ·have he:g xs[i]=false:=he
   refine cK<|xB<|xT<|cR<|sV (aI Z Z Z0)<|sM Z<|sN<|nK [0,1,7,8] Z<|ax<|aM (i+1) ⟨hlt,λj hj hj2=>?_⟩<|Nat.sub_lt_sub_left hlt<|Nat.lt_succ_self i
   by_cases hji:j=i
   ·subst hji; exact he
   ·exact hal j hj<|by omega
 ·have hil:i=xs.length:=by
   have:¬ i<xs.length:=Zx
   omega
  rw [show xs.findIdx? g=none by
   rw [List.findIdx?_eq_none_iff]
   intro f hfm
   obtain ⟨j,hj,rfl⟩:=List.getElem_of_mem hfm
   exact hal j hj (by omega)]
  refine aC<|xE<|xE<|xY<|xT<|cQ<|sA Z<|sK [4] Z<|cT ?_
  exact aj Z ⟨Z,Z⟩ sbq
end
theorem sj {α : Type} (g : α -> Bool) (xs:List α):decide ((0:Int)≤ixI (xs.findIdx? g))=xs.any g:=by
 cases h:xs.findIdx? g with
 | none =>
  have:=List.findIdx?_eq_none_iff.1 h
  rw [show ixI none = -1 from rfl,show decide ((0:Int) ≤ -1)=false from rfl]
  symm
  rw [List.any_eq_false]
  intro x hx
  rw [this x hx]; decide
 | some i =>
  obtain ⟨h1,h2,_⟩:=List.findIdx?_eq_some_iff_getElem.1 h
  rw [show ixI (some i)=(i:Int) from rfl,decide_eq_true (Int.natCast_nonneg i)]
  symm
  rw [List.any_eq_true]
  exact ⟨xs[i],List.getElem_mem h1,h2⟩
theorem vU {α : Type} {g : α -> Bool} {xs:List α}:(xs.findIdx? g=none/\xs.find? g=none)∨∃ i x,xs.findIdx? g=some i/\xs[i]? = some x/\xs.find? g=some x/\i<xs.length:=by
 cases h:xs.findIdx? g with
 | none =>
  left
  refine ⟨Z,?_⟩
  rw [List.find?_eq_none]
  intro x hx
  rw [List.findIdx?_eq_none_iff.1 h x hx]; decide
 | some i =>
  right
  obtain ⟨h1,h2,h3⟩:=List.findIdx?_eq_some_iff_getElem.1 h
  exact ⟨i,xs[i],Z,Zy h1,List.find?_eq_some_iff_getElem.2 ⟨h2,i,h1,Z,λj hj=>by simpa using h3 j hj⟩,h1⟩
section
variable {X:Res} {v:Value}
theorem NT {xs:List Sd} {kf:FuncId} {cp:Array Value} {g:Sd->Bool} (hv:Ls X v xs) (hE:Ck.Enters prog kf) (hf:∀ a∈xs,∀ us,Enc.rep X us a->Reads prog kf (#[]++([.agg us.toArray]:List Value).toArray++cp) [X] (.bool (g a))):Reads prog 31 #[v,.func (.func kf) #[] cp] [X] (.bool (xs.any g)):=by
 rw [<- sj]
 obtain ⟨a,cap,rfl,hlc,hcm,_⟩:=id hv.form
 refine aL (n:=9) func31 Z Z (len Z) λhr w0=>?_
 refine cQ<|sA Z<|sN<|nT<|cQ<|sM Z<|sM Z<|aX Z Z en100 Z (LA hv hE hf) ?_
 refine sV (qh Z Z)<|sA Z<|sK [4] Z<|cT ?_
 exact aj Z ⟨Z,Z⟩ sbq
theorem NU {xs:List Grp} {kf:FuncId} {cp:Array Value} {g:Grp->Bool} (hv:Ls X v xs) (hE:Ck.Enters prog kf) (hf:∀ a∈xs,∀ us,Enc.rep X us a->Reads prog kf (#[]++([.agg us.toArray]:List Value).toArray++cp) [X] (.bool (g a))):Reads prog 93 #[v,.func (.func kf) #[] cp] [X] (.bool (xs.any g)):=by
 rw [<- sj]
 obtain ⟨a,cap,rfl,hlc,hcm,_⟩:=id hv.form
 refine aL (n:=9) func93 Z Z (len Z) λhr w0=>?_
 refine cQ<|sA Z<|sN<|nT<|cQ<|sM Z<|sM Z<|aX Z Z en167 Z (LB hv hE hf) ?_
 refine sV (qh Z Z)<|sA Z<|sK [4] Z<|cT ?_
 exact aj Z ⟨Z,Z⟩ sbq
theorem LD {xs:List Mb} {kf:FuncId} {cp:Array Value} {g:Mb->Bool} (hv:Ls X v xs) (hE:Ck.Enters prog kf) (hf:∀ a∈xs,∀ us,Enc.rep X us a->Reads prog kf (#[]++([.agg us.toArray]:List Value).toArray++cp) [X] (.bool (g a))):Reads prog 132 #[v,.func (.func kf) #[] cp] [X] (.bool (xs.any g)):=by
 rw [<- sj]
 obtain ⟨a,cap,rfl,hlc,hcm,_⟩:=id hv.form
 refine aL (n:=9) func132 Z Z (len Z) λhr w0=>?_
 refine cQ<|sA Z<|sN<|nT<|cQ<|sM Z<|sM Z<|aX Z Z en222 Z (wT hv hE hf) ?_
 refine sV (qh Z Z)<|sA Z<|sK [4] Z<|cT ?_
 exact aj Z ⟨Z,Z⟩ sbq
theorem LF {xs:List Vr} {kf:FuncId} {cp:Array Value} {g:Vr->Bool} (hv:Ls X v xs) (hE:Ck.Enters prog kf) (hf:∀ a∈xs,∀ us,Enc.rep X us a->Reads prog kf (#[]++([.agg us.toArray]:List Value).toArray++cp) [X] (.bool (g a))):Reads prog 135 #[v,.func (.func kf) #[] cp] [X] (.bool (xs.any g)):=by
 rw [<- sj]
 obtain ⟨a,cap,rfl,hlc,hcm,_⟩:=id hv.form
 refine aL (n:=9) func135 Z Z (len Z) λhr w0=>?_
 refine cQ<|sA Z<|sN<|nT<|cQ<|sM Z<|sM Z<|aX Z Z en223 Z (LC hv hE hf) ?_
 refine sV (qh Z Z)<|sA Z<|sK [4] Z<|cT ?_
 exact aj Z ⟨Z,Z⟩ sbq
theorem NV {us:List Value} {c:FC} (h:Enc.rep X us c):Reads prog 118 #[.agg us.toArray] [] (sv c.name):=by
 obtain ⟨a,b,e,f,i,rfl,_⟩:=h
 refine aL (n:=5) func118 Z Z (len Z) λhr w0=>?_
 refine cQ (aP Z Z λb1=>?_)
 refine sA Z<|sK [1,2] Z<|cQ<|sV (vF Z dN Z)<|sV (vY Z ld9) ?_
 refine sA Z<|sK [2] Z<|cT ?_
 exact aj Z ⟨Z,Z⟩ sbq
theorem NW {us:List Value} {c:Fe} (h:Enc.rep X us c):Reads prog 112 #[.agg us.toArray] [] (sv c.name):=by
 obtain ⟨x2,x3,ts,x9,x10,x11,x12,x13,x14,rfl,_,_,h3,_⟩:=h
 obtain ⟨y,rfl,_⟩:=ek h3
 unfold feC tyC
 refine aL (n:=5) func112 Z Z (len Z) λhr w0=>?_
 refine cQ (aP Z Z λb1=>?_)
 refine sA Z<|sK [1,2] Z<|cQ<|sV (vF Z o8 Z)<|sV (vY Z ld9) ?_
 refine sA Z<|sK [2] Z<|cT ?_
 exact aj Z ⟨Z,Z⟩ sbq
theorem NY {us:List Value} {c:Fm} (h:Enc.rep X us c):Reads prog 144 #[.agg us.toArray] [] (sv c.name):=by
 have h:us=[sv c.name,sv c.bound]:=h
 subst h
 refine aL (n:=5) func144 Z Z (len Z) λhr w0=>?_
 refine cQ (aP Z Z λb1=>?_)
 refine sA Z<|sK [1,2] Z<|cQ<|sV (vF Z JZ Z)<|sV (vY Z ld9) ?_
 refine sA Z<|sK [2] Z<|cT ?_
 exact aj Z ⟨Z,Z⟩ sbq
theorem Gc {us:List Value} {c:Pn} (h:Enc.rep X us c):Reads prog 149 #[.agg us.toArray] [] (sv c.fro):=by
 have h:us=[sv c.fro,sv c.to]:=h
 subst h
 refine aL (n:=5) func149 Z Z (len Z) λhr w0=>?_
 refine cQ (aP Z Z λb1=>?_)
 refine sA Z<|sK [1,2] Z<|cQ<|sV (vF Z yK Z)<|sV (vY Z ld9) ?_
 refine sA Z<|sK [2] Z<|cT ?_
 exact aj Z ⟨Z,Z⟩ sbq
theorem NZ {us:List Value} {c:Mb} (h:Enc.rep X us c):Reads prog 170 #[.agg us.toArray] [] (sv c.name):=by
 obtain ⟨x2,x5,ts,x11,x12,x13,rfl,_,_,h3,_⟩:=h
 obtain ⟨y,rfl,_⟩:=ek h3
 unfold mbC tyC
 refine aL (n:=5) func170 Z Z (len Z) λhr w0=>?_
 refine cQ (aP Z Z λb1=>?_)
 refine sA Z<|sK [1,2] Z<|cQ<|sV (vF Z dC Z)<|sV (vY Z ld9) ?_
 refine sA Z<|sK [2] Z<|cT ?_
 exact aj Z ⟨Z,Z⟩ sbq
def fe0:Fe:=⟨0,[],[],[],.mk 0 [] [] false false,[],[]⟩
def pn0:Pn:=⟨[],[]⟩
theorem Iy {us:List Value} {c:FC} {b4 b5:Nat} {n:Nm} (h:Enc.rep X us c):Reads prog 190 #[.agg us.toArray,.pointer (some ⟨b5,0,none⟩),.pointer (some ⟨b4,0,none⟩)] [pt b5 (cl [.func (.func 118) #[] #[]] 197),pt b4 (cl [sv n] 9)] (.bool (c.name == n)):=by
 have hn:=NV h
 obtain ⟨a,b,e,f,i,rfl,_⟩:=id h
 refine aL (n:=10) func190 Z Z (len Z) λhr w0=>?_
 refine cQ (aP Z Z λb3=>?_)
 refine sA Z<|sK [1,2,3,4] Z<|cS<|bB (ork [(0,1),(1,1),(2,1),(3,1),(4,1),(5,2)] .nil) (λ_=>true) mixed Zz ?_
 refine bi Z (vY Z ld197) ?_
 refine bi Z (af Z gL Z ag) ?_
 refine gY Z Z Z en118 Z (hn) ?_
 refine bi Z (vY Z ld9) ?_
 refine bi Z (gq Z Z)<|dV Z (vA Z)<|bA<|nK [4] Z<|nT<|cT ?_
 exact aj Z ⟨Z,Z⟩ sbq
theorem Iz {us:List Value} {c:Fe} {b4 b5:Nat} {n:Nm} (h:Enc.rep X us c):Reads prog 183 #[.agg us.toArray,.pointer (some ⟨b5,0,none⟩),.pointer (some ⟨b4,0,none⟩)] [pt b5 (cl [.func (.func 112) #[] #[]] 186),pt b4 (cl [sv n] 9)] (.bool (c.name == n)):=by
 have hn:=NW h
 obtain ⟨x2,x3,ts,x9,x10,x11,x12,x13,x14,rfl,_,_,h3,_⟩:=id h
 obtain ⟨y,rfl,_⟩:=ek h3
 unfold feC tyC
 refine aL (n:=10) func183 Z Z (len Z) λhr w0=>?_
 refine cQ (aP Z Z λb3=>?_)
 refine sA Z<|sK [1,2,3,4] Z<|cS<|bB (ork [(0,1),(1,1),(2,1),(3,1),(4,1),(5,2)] .nil) (λ_=>true) mixed Zz ?_
 refine bi Z (vY Z ld186) ?_
 refine bi Z (af Z oq Z ag) ?_
 refine gY Z Z Z en112 Z (hn) ?_
 refine bi Z (vY Z ld9) ?_
 refine bi Z (gq Z Z)<|dV Z (vA Z)<|bA<|nK [4] Z<|nT<|cT ?_
 exact aj Z ⟨Z,Z⟩ sbq
theorem IA {us:List Value} {c:Mb} {b4 b5:Nat} {n:Nm} (h:Enc.rep X us c):Reads prog 236 #[.agg us.toArray,.pointer (some ⟨b5,0,none⟩),.pointer (some ⟨b4,0,none⟩)] [pt b5 (cl [.func (.func 170) #[] #[]] 249),pt b4 (cl [sv n] 9)] (.bool (c.name == n)):=by
 have hn:=NZ h
 obtain ⟨x2,x5,ts,x11,x12,x13,rfl,_,_,h3,_⟩:=id h
 obtain ⟨y,rfl,_⟩:=ek h3
 unfold mbC tyC
 refine aL (n:=10) func236 Z Z (len Z) λhr w0=>?_
 refine cQ (aP Z Z λb3=>?_)
 refine sA Z<|sK [1,2,3,4] Z<|cS<|bB (ork [(0,1),(1,1),(2,1),(3,1),(4,1),(5,2)] .nil) (λ_=>true) mixed Zz ?_
 refine bi Z (vY Z ld249) ?_
 refine bi Z (af Z dJ Z ag) ?_
 refine gY Z Z Z en170 Z (hn) ?_
 refine bi Z (vY Z ld9) ?_
 refine bi Z (gq Z Z)<|dV Z (vA Z)<|bA<|nK [4] Z<|nT<|cT ?_
 exact aj Z ⟨Z,Z⟩ sbq
theorem IB {us:List Value} {c:Pn} {b4 b5:Nat} {n:Nm} (h:Enc.rep X us c):Reads prog 278 #[.agg us.toArray,.pointer (some ⟨b5,0,none⟩),.pointer (some ⟨b4,0,none⟩)] [pt b5 (cl [.func (.func 149) #[] #[]] 229),pt b4 (cl [sv n] 9)] (.bool (c.fro == n)):=by
 have hn:=Gc h
 have h:us=[sv c.fro,sv c.to]:=id h
 subst h
 refine aL (n:=10) func278 Z Z (len Z) λhr w0=>?_
 refine cQ (aP Z Z λb3=>?_)
 refine sA Z<|sK [1,2,3,4] Z<|cS<|bB (ork [(0,1),(1,1),(2,1),(3,1),(4,1),(5,2)] .nil) (λ_=>true) mixed Zz ?_
 refine bi Z (vY Z ld229) ?_
 refine bi Z (af Z qV Z ag) ?_
 refine gY Z Z Z en149 Z (hn) ?_
 refine bi Z (vY Z ld9) ?_
 refine bi Z (gq Z Z)<|dV Z (vA Z)<|bA<|nK [4] Z<|nT<|cT ?_
 exact aj Z ⟨Z,Z⟩ sbq
theorem uq {xs:List FC} {n:Nm} (hv:Ls X v xs):Ct prog 117 #[v,sv n,.func (.func 118) #[] #[]] [X] λu h'=>h'=[X]/\∃ us,u = .tuple #[.agg us.toArray,.bool (xs.find? λc=>c.name == n).isSome]/\Enc.rep X us ((xs.find? λc=>c.name == n).getD Bb):=by
 obtain ⟨a,cap,hvf,hlc,hcm,_⟩:=id hv.form
 have hf:∀ b4 b5:Nat,∀ c∈xs,∀ us,Enc.rep (Res.star [pt b5 (cl [.func (.func 118) #[] #[]] 197),pt b4 (cl [sv n] 9),X]) us c->Reads prog 190 (#[]++([.agg us.toArray]:List Value).toArray ++ #[.pointer (some ⟨b5,0,none⟩),.pointer (some ⟨b4,0,none⟩)]) [Res.star [pt b5 (cl [.func (.func 118) #[] #[]] 197),pt b4 (cl [sv n] 9),X]] (.bool (c.name == n)):=λb4 b5 c _ us h =>
  lq (Reads.more (Iy (b4:=b4) (b5:=b5) (n:=n) h)<|.cons .here<|.cons .here .nil)
 subst hvf
 refine aL (n:=20) func117 Z Z (len Z) λhr w0=>?_
 refine cQ (aP Z Z λb4=>?_)
 refine aP Z Z λb5=>?_
 refine ak oz λb6=>?_
 refine sA Z<|sK [0,4,5,6,7] Z<|cQ<|sM Z<|sV (cz Z Z)<|aX Z Z en150 Z ((eU<|Lu (X:=Res.star [pt b5 (cl [.func (.func 118) #[] #[]] 197),pt b4 (cl [sv n] 9),X]) (hv.up'<|bH<|.there<|.there .here) en190<|hf b4 b5)) ?_
 refine sA Z<|sK [0,6,7,8] Z<|cS<|cQ<|sM Z<|sV (aN Z Z)<|sK [0,6,7,8,14] Z ?_
 rcases vU (g:=λc:FC=>c.name == n) (xs:=xs) with ⟨h1,h2⟩ | ⟨i,x,h1,h2,h3,hlt⟩
 ·rw [h1,h2]
  refine aQ Z ?_
  refine cQ (ak oz λb9=>?_)
  refine sK [0,6,7,8,9] Z<|cQ<|sV (af Z gL Z ag) ?_
  refine ai Z Z mq Z Z ?_
  refine sA Z<|sK [6,7] Z<|cT<|xR ?_
  exact bE (.cellN Z gL Z slq<|.tmp Z .nil) ⟨Z,_,Z,⟨_,_,_,_,_,Z,Ls.nil,Ls.nil,Z,Ls.nil,Ls.nil⟩⟩ sbr
 ·rw [h1,h3]
  obtain ⟨b,o,cap2,us,e1,hus,hrd,hre⟩:=hv.at h2
  cases e1
  have hone:=Enc.ones hre
  refine aH Z ?_
  refine cK<|xT<|cQ<|sM Z<|sM Z<|sV (vI (k:=i) Z Z vz Z hlt Z)<|sV (af Z gL hus hrd) ?_
  refine ai (hl:=by rw [hus]; rfl) Z Z mq hus hone ?_
  refine sA Z<|sK [6,7] Z<|cT ?_
  exact bE (.cellN Z gL hus slq<|.tmp Z .nil) ⟨Z,us,Z,hre⟩ sbr
theorem jc {xs:List Fe} {n:Nm} (hv:Ls X v xs):Ct prog 111 #[v,sv n,.func (.func 112) #[] #[]] [X] λu h'=>h'=[X]/\∃ us,u = .tuple #[.agg us.toArray,.bool (xs.find? λc=>c.name == n).isSome]/\Enc.rep X us ((xs.find? λc=>c.name == n).getD fe0):=by
 obtain ⟨a,cap,hvf,hlc,hcm,_⟩:=id hv.form
 have hf:∀ b4 b5:Nat,∀ c∈xs,∀ us,Enc.rep (Res.star [pt b5 (cl [.func (.func 112) #[] #[]] 186),pt b4 (cl [sv n] 9),X]) us c->Reads prog 183 (#[]++([.agg us.toArray]:List Value).toArray ++ #[.pointer (some ⟨b5,0,none⟩),.pointer (some ⟨b4,0,none⟩)]) [Res.star [pt b5 (cl [.func (.func 112) #[] #[]] 186),pt b4 (cl [sv n] 9),X]] (.bool (c.name == n)):=λb4 b5 c _ us h =>
  lq (Reads.more (Iz (b4:=b4) (b5:=b5) (n:=n) h)<|.cons .here<|.cons .here .nil)
 subst hvf
 refine aL (n:=20) func111 Z Z (len Z) λhr w0=>?_
 refine cQ (aP Z Z λb4=>?_)
 refine aP Z Z λb5=>?_
 refine ak lS λb6=>?_
 refine sA Z<|sK [0,4,5,6,7] Z<|cQ<|sM Z<|sV (cz Z Z)<|aX Z Z en151 Z ((eU<|Lv (X:=Res.star [pt b5 (cl [.func (.func 112) #[] #[]] 186),pt b4 (cl [sv n] 9),X]) (hv.up'<|bH<|.there<|.there .here) en183<|hf b4 b5)) ?_
 refine sA Z<|sK [0,6,7,8] Z<|cS<|cQ<|sM Z<|sV (aN Z Z)<|sK [0,6,7,8,14] Z ?_
 rcases vU (g:=λc:Fe=>c.name == n) (xs:=xs) with ⟨h1,h2⟩ | ⟨i,x,h1,h2,h3,hlt⟩
 ·rw [h1,h2]
  refine aQ Z ?_
  refine cQ (ak lS λb9=>?_)
  refine sK [0,6,7,8,9] Z<|cQ<|sV (af Z oq Z ag) ?_
  refine ai Z Z jX Z Z ?_
  refine sA Z<|sK [6,7] Z<|cT<|xR ?_
  exact bE (.cellN Z oq Z slq<|.tmp Z .nil) ⟨Z,_,Z,⟨_,_,_,_,_,_,_,_,_,Z,Ls.nil,Ls.nil,fZ Z Ls.nil,Ls.nil,Ls.nil,Z⟩⟩ sbr
 ·rw [h1,h3]
  obtain ⟨b,o,cap2,us,e1,hus,hrd,hre⟩:=hv.at h2
  cases e1
  have hone:=Enc.ones hre
  refine aH Z ?_
  refine cK<|xT<|cQ<|sM Z<|sM Z<|sV (vI (k:=i) Z Z sl41 Z hlt Z)<|sV (af Z oq hus hrd) ?_
  refine ai (hl:=by rw [hus]; rfl) Z Z jX hus hone ?_
  refine sA Z<|sK [6,7] Z<|cT ?_
  exact bE (.cellN Z oq hus slq<|.tmp Z .nil) ⟨Z,us,Z,hre⟩ sbr
theorem ut {xs:List Mb} {n:Nm} (hv:Ls X v xs):Ct prog 169 #[v,sv n,.func (.func 170) #[] #[]] [X] λu h'=>h'=[X]/\∃ us,u = .tuple #[.agg us.toArray,.bool (xs.find? λc=>c.name == n).isSome]/\Enc.rep X us ((xs.find? λc=>c.name == n).getD mb0):=by
 obtain ⟨a,cap,hvf,hlc,hcm,_⟩:=id hv.form
 have hf:∀ b4 b5:Nat,∀ c∈xs,∀ us,Enc.rep (Res.star [pt b5 (cl [.func (.func 170) #[] #[]] 249),pt b4 (cl [sv n] 9),X]) us c->Reads prog 236 (#[]++([.agg us.toArray]:List Value).toArray ++ #[.pointer (some ⟨b5,0,none⟩),.pointer (some ⟨b4,0,none⟩)]) [Res.star [pt b5 (cl [.func (.func 170) #[] #[]] 249),pt b4 (cl [sv n] 9),X]] (.bool (c.name == n)):=λb4 b5 c _ us h =>
  lq (Reads.more (IA (b4:=b4) (b5:=b5) (n:=n) h)<|.cons .here<|.cons .here .nil)
 subst hvf
 refine aL (n:=20) func169 Z Z (len Z) λhr w0=>?_
 refine cQ (aP Z Z λb4=>?_)
 refine aP Z Z λb5=>?_
 refine ak iR λb6=>?_
 refine sA Z<|sK [0,4,5,6,7] Z<|cQ<|sM Z<|sV (cz Z Z)<|aX Z Z en222 Z ((eU<|wT (X:=Res.star [pt b5 (cl [.func (.func 170) #[] #[]] 249),pt b4 (cl [sv n] 9),X]) (hv.up'<|bH<|.there<|.there .here) en236<|hf b4 b5)) ?_
 refine sA Z<|sK [0,6,7,8] Z<|cS<|cQ<|sM Z<|sV (aN Z Z)<|sK [0,6,7,8,14] Z ?_
 rcases vU (g:=λc:Mb=>c.name == n) (xs:=xs) with ⟨h1,h2⟩ | ⟨i,x,h1,h2,h3,hlt⟩
 ·rw [h1,h2]
  refine aQ Z ?_
  refine cQ (ak iR λb9=>?_)
  refine sK [0,6,7,8,9] Z<|cQ<|sV (af Z dJ Z ag) ?_
  refine ai Z Z gF Z Z ?_
  refine sA Z<|sK [6,7] Z<|cT<|xR ?_
  exact bE (.cellN Z dJ Z slq<|.tmp Z .nil) ⟨Z,_,Z,⟨_,_,_,_,_,_,Z,Ls.nil,Ls.nil,fZ Z Ls.nil,Ls.nil,Ls.nil,Ls.nil⟩⟩ sbr
 ·rw [h1,h3]
  obtain ⟨b,o,cap2,us,e1,hus,hrd,hre⟩:=hv.at h2
  cases e1
  have hone:=Enc.ones hre
  refine aH Z ?_
  refine cK<|xT<|cQ<|sM Z<|sM Z<|sV (vI (k:=i) Z Z kQ Z hlt Z)<|sV (af Z dJ hus hrd) ?_
  refine ai (hl:=by rw [hus]; rfl) Z Z gF hus hone ?_
  refine sA Z<|sK [6,7] Z<|cT ?_
  exact bE (.cellN Z dJ hus slq<|.tmp Z .nil) ⟨Z,us,Z,hre⟩ sbr
theorem IC {xs:List Pn} {n:Nm} (hv:Ls X v xs):Ct prog 241 #[v,sv n,.func (.func 149) #[] #[]] [X] λu h'=>h'=[X]/\∃ us,u = .tuple #[.agg us.toArray,.bool (xs.find? λc=>c.fro == n).isSome]/\Enc.rep X us ((xs.find? λc=>c.fro == n).getD pn0):=by
 obtain ⟨a,cap,hvf,hlc,hcm,_⟩:=id hv.form
 have hf:∀ b4 b5:Nat,∀ c∈xs,∀ us,Enc.rep (Res.star [pt b5 (cl [.func (.func 149) #[] #[]] 229),pt b4 (cl [sv n] 9),X]) us c->Reads prog 278 (#[]++([.agg us.toArray]:List Value).toArray ++ #[.pointer (some ⟨b5,0,none⟩),.pointer (some ⟨b4,0,none⟩)]) [Res.star [pt b5 (cl [.func (.func 149) #[] #[]] 229),pt b4 (cl [sv n] 9),X]] (.bool (c.fro == n)):=λb4 b5 c _ us h =>
  lq (Reads.more (IB (b4:=b4) (b5:=b5) (n:=n) h)<|.cons .here<|.cons .here .nil)
 subst hvf
 refine aL (n:=20) func241 Z Z (len Z) λhr w0=>?_
 refine cQ (aP Z Z λb4=>?_)
 refine aP Z Z λb5=>?_
 refine ak Fu λb6=>?_
 refine sA Z<|sK [0,4,5,6,7] Z<|cQ<|sM Z<|sV (cz Z Z)<|aX Z Z en153 Z ((eU<|Lt (X:=Res.star [pt b5 (cl [.func (.func 149) #[] #[]] 229),pt b4 (cl [sv n] 9),X]) (hv.up'<|bH<|.there<|.there .here) en278<|hf b4 b5)) ?_
 refine sA Z<|sK [0,6,7,8] Z<|cS<|cQ<|sM Z<|sV (aN Z Z)<|sK [0,6,7,8,14] Z ?_
 rcases vU (g:=λc:Pn=>c.fro == n) (xs:=xs) with ⟨h1,h2⟩ | ⟨i,x,h1,h2,h3,hlt⟩
 ·rw [h1,h2]
  refine aQ Z ?_
  refine cQ (ak Fu λb9=>?_)
  refine sK [0,6,7,8,9] Z<|cQ<|sV (af Z qV Z ag) ?_
  refine ai Z Z zD Z Z ?_
  refine sA Z<|sK [6,7] Z<|cT<|xR ?_
  exact bE (.cellN Z qV Z slq<|.tmp Z .nil) ⟨Z,_,Z,Z⟩ sbr
 ·rw [h1,h3]
  obtain ⟨b,o,cap2,us,e1,hus,hrd,hre⟩:=hv.at h2
  cases e1
  have hone:=Enc.ones hre
  refine aH Z ?_
  refine cK<|xT<|cQ<|sM Z<|sM Z<|sV (vI (k:=i) Z Z sl86 Z hlt Z)<|sV (af Z qV hus hrd) ?_
  refine ai (hl:=by rw [hus]; rfl) Z Z zD hus hone ?_
  refine sA Z<|sK [6,7] Z<|cT ?_
  exact bE (.cellN Z qV hus slq<|.tmp Z .nil) ⟨Z,us,Z,hre⟩ sbr
end
end Go.Fl
