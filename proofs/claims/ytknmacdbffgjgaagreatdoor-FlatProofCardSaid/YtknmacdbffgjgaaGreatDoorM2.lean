/-
  Rules on code: sequence,test,block,loop,the function's body and its results. Generic: nothing of the program is named here. No condition.
-/
import Derived.RangeFuncLeaves
import Derived.RangeFuncRecord
import Derived.OrdersIn
import Derived.TacticsIn
import Derived.WalkKit
import Derived.WalkSpells
set_option linter.unusedVariables false
set_option linter.unusedSimpArgs false
set_option maxRecDepth 100000
set_option maxHeartbeats 16000000
namespace Go.Ck
open Go

/-! ## What is known of a frame -/
abbrev Env:=List (Nat×Value)
def Env.get? : Env->Nat->Option Value
 | [],_=>none
 | (j,v)::t,i=>bif Nat.beq j i then some v else Env.get? t i
def Env.ev? (e:Env):Operand->Option Value
 | .tmp t=>e.get? t
 | .const v=>some v
 | .global g=>some (.pointer (some ⟨g,0,none⟩))
 | .func f=>some (.func (.func f) #[] #[])

structure Kn (n:Nat) (ds:List Deferred) (a:Act) (e:Env):Prop where
 size:a.tmps.size=n
 defers:a.defers=ds
 get:∀ i v,e.get? i=some v->a.tmps[i]? = some v

theorem zk {a b:Nat} (h:a≠b):Nat.beq a b=false:=by
 cases hb:Nat.beq a b with
 | false=>rfl
 | true=>exact absurd (Nat.eq_of_beq_eq_true hb) h

theorem Kn.put {n:Nat} {ds:List Deferred} {a:Act} {e:Env} (h:Kn n ds a e) {d:Nat} (v:Value) (hd:d<n):Kn n ds (a.put (some d) v) ((d,v)::e):=by
 refine ⟨by simp [Act.put,h.size],h.defers,λi u hi=>?_⟩
 by_cases hid:d=i
 ·subst hid
  simp only [Env.get?,Nat.beq_refl,cond_true,Option.some.injEq] at hi
  subst hi
  simp [Act.put,h.size,hd]
 ·simp only [Env.get?,zk hid,cond_false] at hi
  simp only [Act.put,Array.getElem?_setIfInBounds_ne hid]
  exact h.get i u hi

theorem Kn.ev {n:Nat} {ds:List Deferred} {a:Act} {e:Env} (h:Kn n ds a e) {x:Operand} {v:Value} (hx:e.ev? x=some v):a.eval x=v:=by
 cases x with
 | tmp t=>simp only [Env.ev?] at hx; simp [Act.eval,Array.getD_eq_getD_getElem?,h.get t v hx]
 | const u=>simpa [Env.ev?,Act.eval] using hx
 | global g=>simpa [Env.ev?,Act.eval] using hx
 | func f=>simpa [Env.ev?,Act.eval] using hx

def Env.sub:Env->Env->Prop
 | [],_=>True
 | (j,v)::t,e=>e.get? j=some v/\Env.sub t e
theorem Env.sub_get {e' e:Env} (h:Env.sub e' e) {i:Nat} {v:Value} (hi:e'.get? i=some v):e.get? i=some v:=by
 induction e' with
 | nil=>simp [Env.get?] at hi
 | cons q t ih =>
  obtain ⟨p,u⟩:=q
  obtain ⟨h1,h2⟩:=h
  by_cases hp:p=i
  ·subst hp
   simp only [Env.get?,Nat.beq_refl,cond_true,Option.some.injEq] at hi
   rw [<- hi]; exact h1
  ·simp only [Env.get?,zk hp,cond_false] at hi
   exact ih h2 hi
theorem Kn.weaken {n:Nat} {ds:List Deferred} {a:Act} {e e':Env} (h:Kn n ds a e) (hs:Env.sub e' e):Kn n ds a e' :=
 ⟨h.size,h.defers,λi v hi=>h.get i v<|Env.sub_get hs hi⟩

/-! ## What is known of the heap -/
structure Res where
 dom:Nat->Prop
 ok:(Nat->Option Obj)->Prop
 loc:∀ f g,(∀ b,dom b->f b=g b)->ok f->ok g
 pres:∀ f,ok f->∀ b,dom b->(f b).isSome=true
abbrev SH:=List Res
def SH.dom:SH->Nat->Prop
 | [],_=>False
 | r::t,b=>r.dom b∨SH.dom t b
def bu (f:Nat->Option Obj):SH->Prop
 | []=>True
 | r::t=>r.ok f/\(∀ b,r.dom b->¬ SH.dom t b)/\bu f t
def hp (w:World):Nat->Option Obj:=λb=>w.heap[b]?
def Holds (w:World) (h:SH):Prop:=bu (hp w) h

theorem SH.dom_append {h k:SH} {b:Nat}:SH.dom (h++k) b↔SH.dom h b∨SH.dom k b:=by
 induction h with
 | nil=>simp [SH.dom]
 | cons r t ih=>simp only [List.cons_append,SH.dom,ih,or_assoc]

theorem SH.dom_perm {h k:SH} (hk:h.Perm k) {b:Nat}:SH.dom h b↔SH.dom k b:=by
 induction hk with
 | nil=>exact Iff.rfl
 | cons x _ ih=>simp only [SH.dom,ih]
 | swap x y l=>simp only [SH.dom]; constructor <;> (rintro (h | h | h) <;> simp [h])
 | trans _ _ ih1 ih2=>exact ih1.trans ih2

theorem bu.perm {f:Nat->Option Obj} {h k:SH} (hk:h.Perm k):bu f h↔bu f k:=by
 induction hk with
 | nil=>exact Iff.rfl
 | cons x hp ih=>simp only [bu,ih,SH.dom_perm hp]
 | swap x y l =>
  simp only [bu,SH.dom]
  constructor
  ·rintro ⟨h1,h2,h3,h4,h5⟩
   exact ⟨h3,λb hb hn=>hn.elim (λhy=>h2 b hy<|.inl hb) (h4 b hb),h1,λb hb hn=>h2 b hb (.inr hn),h5⟩
  ·rintro ⟨h1,h2,h3,h4,h5⟩
   exact ⟨h3,λb hb hn=>hn.elim (λhy=>h2 b hy<|.inl hb) (h4 b hb),h1,λb hb hn=>h2 b hb (.inr hn),h5⟩
 | trans _ _ ih1 ih2=>exact ih1.trans ih2

theorem bu.append {f:Nat->Option Obj} {h k:SH}:bu f (h++k)↔bu f h/\bu f k/\∀ b,SH.dom h b->¬ SH.dom k b:=by
 induction h with
 | nil=>simp [bu,SH.dom]
 | cons r t ih =>
  simp only [List.cons_append,bu,ih,SH.dom_append,SH.dom]
  constructor
  ·rintro ⟨h1,h2,h3,h4,h5⟩
   exact ⟨⟨h1,λb hb hn=>h2 b hb (.inl hn),h3⟩,h4,λb hb hn=>hb.elim (λhr=>h2 b hr<|.inr hn)<|λht=>h5 b ht hn⟩
  ·rintro ⟨⟨h1,h2,h3⟩,h4,h5⟩
   exact ⟨h1,λb hb hn=>hn.elim (h2 b hb) (h5 b<|.inl hb),h3,h4,λb hb=>h5 b<|.inr hb⟩

theorem bu.loc {f g:Nat->Option Obj} {h:SH} (hh:bu f h) (he:∀ b,SH.dom h b->f b=g b):bu g h:=by
 induction h with
 | nil=>trivial
 | cons r t ih=>exact ⟨r.loc f g (λb hb=>he b (.inl hb)) hh.1,hh.2.1,ih hh.2.2 λb hb=>he b (.inr hb)⟩

theorem bu.pres {f:Nat->Option Obj} {h:SH} (hh:bu f h) {b:Nat} (hb:SH.dom h b):(f b).isSome=true:=by
 induction h with
 | nil=>exact hb.elim
 | cons r t ih=>exact hb.elim (r.pres f hh.1 b) (ih hh.2.2)

def Res.star (h:SH):Res:=⟨SH.dom h,λf=>bu f h,λ_ _ he hh=>hh.loc he,λ_ hh _ hb=>hh.pres hb⟩
theorem dD {f:Nat->Option Obj} {h k:SH}:bu f (Res.star h::k)↔bu f (h++k):=by
 rw [bu.append]
 simp only [bu,Res.star]
 exact ⟨λ⟨a,b,c⟩=>⟨a,c,b⟩,λ⟨a,c,b⟩=>⟨a,b,c⟩⟩

def pt (b:Nat) (o:Obj):Res:=⟨(· = b),λf=>f b=some o,λf g he hf=>by rw [<- he b rfl]; exact hf,λf hf c hc=>by rw [hc,hf]; rfl⟩
def old (W:World):Res:=⟨(· < W.heap.size),λf=>∀ b,b<W.heap.size->f b=W.heap[b]?,λf g he hf b hb=>by rw [<- he b hb]; exact hf b hb,
 λf hf b hb=>by rw [hf b hb,Array.getElem?_eq_getElem hb]; rfl⟩

theorem Holds.lt {w:World} {h:SH} (hh:Holds w h) {b:Nat} (hb:SH.dom h b):b<w.heap.size:=by
 have:=bu.pres hh hb
 simp only [hp] at this
 rcases Nat.lt_or_ge b w.heap.size with h1 | h1
 ·exact h1
 ·rw [Array.getElem?_eq_none h1] at this; cases this

structure Same (w w':World):Prop where
 os:w'.os=w.os
 tape:w'.tape=w.tape
 output:w'.output=w.output
 dw:w.drawn≤w'.drawn
 size:w.heap.size≤w'.heap.size
 fz:∀ a,a.block<w.heap.size->w'.frozen? a=w.frozen? a
theorem Same.refl (w:World):Same w w:=⟨rfl,rfl,rfl,Nat.le_refl _,Nat.le_refl _,λ_ _=>rfl⟩
theorem Same.trans {a b c:World} (h:Same a b) (k:Same b c):Same a c:=⟨k.os.trans h.os,k.tape.trans h.tape,k.output.trans h.output,Nat.le_trans h.dw k.dw,Nat.le_trans h.size k.size,λx hx=>(k.fz x<|Nat.lt_of_lt_of_le hx h.size).trans<|h.fz x hx⟩
def melt:Obj->Bool
 | .cells _ _ (lo,hi)=>Nat.ble hi lo
 | _=>true
theorem xD {w:World} {a:Addr} (h:∀ o,w.heap[a.block]? = some o->melt o=true):w.frozen? a=false:=by
 unfold World.frozen?
 cases hq:w.heap[a.block]? with
 | none=>rfl
 | some o =>
  have hm:=h o hq
  cases o with
  | cells c t f =>
   obtain ⟨lo,hi⟩:=f
   have:hi≤lo:=Nat.le_of_ble_eq_true hm
   simp; omega
  | _=>rfl
theorem oP {w w':World} {b:Nat} (h1:∀ o,w.heap[b]? = some o->melt o=true) (h2:∀ o,w'.heap[b]? = some o->melt o=true) (h3:∀ c,c≠b->w'.heap[c]? = w.heap[c]?) (a:Addr) (_:a.block<w.heap.size):w'.frozen? a=w.frozen? a:=by
 by_cases h:a.block=b
 ·rw [xD (w:=w) (by rw [h]; exact h1),xD (w:=w') (by rw [h]; exact h2)]
 ·unfold World.frozen?; rw [h3 _ h]

structure Grew (w w':World):Prop extends Same w w' where
 block:∀ b,b<w.heap.size->w'.heap[b]? = w.heap[b]?
theorem Grew.refl (w:World):Grew w w:=⟨Same.refl w,λ_ _=>rfl⟩
theorem Grew.trans {a b c:World} (h:Grew a b) (k:Grew b c):Grew a c :=
 ⟨h.toSame.trans k.toSame,λi hi=>(k.block i<|Nat.lt_of_lt_of_le hi h.size).trans<|h.block i hi⟩
theorem Holds.grew {w w':World} {h:SH} (hh:Holds w h) (hg:Grew w w'):Holds w' h :=
 bu.loc hh λb hb=>(hg.block b<|Holds.lt hh hb).symm
theorem Grew.drawn (w:World) (n:Nat) (hn:w.drawn≤n:=by exact Nat.le_succ _):Grew w { w with drawn:=n }:=⟨⟨rfl,rfl,rfl,hn,Nat.le_refl _,λ_ _=>rfl⟩,λ_ _=>rfl⟩
theorem alloc_old (w:World) (o:Obj) (b:Nat) (hb:b≠w.heap.size):(w.alloc o).heap[b]? = w.heap[b]? := by
 show (w.heap.push o)[b]? = _
 rw [Array.getElem?_push,if_neg (by omega)]
theorem Grew.alloc (w:World) (o:Obj) (ho:melt o=true):Grew w (w.alloc o):=⟨⟨rfl,rfl,rfl,Nat.le_refl _,by simp,oP (b:=w.heap.size) (λo' h=>by simp at h) (λo' h=>by
  have:(w.heap.push o)[w.heap.size]? = some o':=h
  simp at this; rw [<- this]; exact ho) (λc hc=>alloc_old w o c hc)⟩,λb hb=>alloc_old w o b (by omega)⟩

theorem Holds.alloc {w:World} {h:SH} (hh:Holds w h) (o:Obj):Holds (w.alloc o) (pt w.heap.size o::h):=by
 refine ⟨?_,λb hb hn=>?_,bu.loc hh λb hb=>(alloc_old w o b (by have:=Holds.lt hh hb; omega)).symm⟩
 ·show (w.heap.push o)[w.heap.size]? = some o
  simp
 ·have h1:b=w.heap.size:=hb
  have h2:=Holds.lt hh hn
  omega

theorem Holds.modify {w w':World} {b:Nat} {o o':Obj} {h:SH} (hh:Holds w (pt b o::h)) (h1:w'.heap[b]? = some o') (h2:∀ c,c≠b->w'.heap[c]? = w.heap[c]?):Holds w' (pt b o'::h):=
 ⟨h1,hh.2.1,bu.loc hh.2.2 λc hc=>(h2 c<|λe=>hh.2.1 b rfl (e ▸ hc)).symm⟩

/-! ## Selecting resources -/
inductive Sel:SH->Res->SH->Prop
 | here {r:Res} {t:SH}:Sel (r::t) r t
 | there {x r:Res} {t t':SH}:Sel t r t'->Sel (x::t) r (x::t')
theorem Sel.perm {h h':SH} {r:Res} (s:Sel h r h'):h.Perm (r::h'):=by
 induction s with
 | here=>exact .refl _
 | there _ ih=>exact (ih.cons _).trans (.swap _ _ _)
inductive Pk:SH->SH->SH->Prop
 | nil {h:SH}:Pk h [] h
 | cons {h h1 k hr:SH} {x:Res}:Sel h x h1->Pk h1 k hr->Pk h (x::k) hr
 | of {h k hr:SH}:h.Perm (k++hr)->Pk h k hr
theorem Pk.perm {h k hr:SH} (p:Pk h k hr):h.Perm (k++hr):=by
 induction p with
 | nil=>exact .refl _
 | cons s _ ih=>exact s.perm.trans (ih.cons _)
 | of h=>exact h
theorem Holds.perm {w:World} {h k:SH} (hk:h.Perm k) (hh:Holds w h):Holds w k:=(bu.perm hk).1 hh
theorem Holds.pk {w:World} {h k hr:SH} (p:Pk h k hr) (hh:Holds w h):Holds w (k++hr):=hh.perm p.perm
theorem Holds.sel {w:World} {h h':SH} {r:Res} (s:Sel h r h') (hh:Holds w h):Holds w (r::h'):=hh.perm s.perm

def Sub (k h:SH):Prop:=∃ x,h.Perm (k++x)
theorem Sub.refl (h:SH):Sub h h:=⟨[],by simp⟩
theorem Sub.nil (h:SH):Sub [] h:=⟨h,.refl _⟩
theorem Sub.cons {k h:SH} {x:Res} (s:Sub k h):Sub k (x::h):=let ⟨y,p⟩:=s; ⟨x::y,(p.cons x).trans List.perm_middle.symm⟩
theorem Sub.sel {h h1 k:SH} {x:Res} (s:Sel h x h1) (t:Sub k h1):Sub (x::k) h:=let ⟨y,p⟩:=t; ⟨y,s.perm.trans<|p.cons x⟩
theorem Sub.pk {h k x:SH} (p:Pk h k x):Sub k h:=⟨x,p.perm⟩
theorem Sub.of {k h:SH} (p:h.Perm k):Sub k h:=⟨[],by simpa using p⟩
theorem Sub.trans {a b d:SH} (p:Sub a b) (q:Sub b d):Sub a d:=let ⟨x,hx⟩:=p; let ⟨y,hy⟩:=q; ⟨x++y,hy.trans<|(hx.append_right y).trans<|by rw [List.append_assoc]⟩
theorem Holds.sub {w:World} {h k:SH} (s:Sub k h) (hh:Holds w h):Holds w k:=let ⟨_,p⟩:=s; (bu.append.1<|hh.perm p).1

/-! ## What a resource says of a cell -/
def Rd (r:Res) (p:Addr) (v:Value):Prop:=∀ w:World,r.ok (hp w)->w.cell? p=some v
theorem rd_pt {b off:Nat} {cs:Array Value} {T:TypeId} {fr:Nat×Nat} {v:Value} (h:cs[off]? = some v):Rd (pt b (.cells cs T fr)) ⟨b,off,none⟩ v:=λw hw=>by
 have hw':w.heap[b]? = some (.cells cs T fr):=hw
 simp [World.cell?,hw',h]
theorem M3 {W:World} {p:Addr} {v:Value} (hb:p.block<W.heap.size) (h:W.cell? p=some v):Rd (old W) p v:=λw hw=>by
 have hw':w.heap[p.block]? = W.heap[p.block]? := hw p.block hb
 rw [<- h]; exact World.cell?_of_block hw'
theorem rU {k:SH} {r:Res} {k':SH} {p:Addr} {v:Value} (s:Sel k r k') (h:Rd r p v):Rd (Res.star k) p v:=λw hw=>h w ((bu.perm s.perm).1 hw).1
theorem Rd.at {w:World} {h h':SH} {r:Res} {p:Addr} {v:Value} (hr:Rd r p v) (s:Sel h r h') (hh:Holds w h):w.cell? p=some v:=hr w (hh.sel s).1

/-! ## Contracts -/
def Ct (P:Program) (k:FuncId) (args:Array Value) (hf:SH) (R:Value->SH->Prop):Prop :=
 ∀ (hr:SH) (w:World),Holds w (hf++hr)->Calls P k args w λe w'=>∃ v h',e = .returned v/\R v h'/\Holds w' (h'++hr)/\Same w w'
def Cq (P:Program) (k:FuncId) (args:Array Value) (hf:SH) (v:Value):Prop :=
 ∀ (hr:SH) (w:World),Holds w (hf++hr)->Calls P k args w λe w'=>e = .returned v/\Grew w w'
theorem Ct.mono {P:Program} {k:FuncId} {args:Array Value} {hf:SH} {R R':Value->SH->Prop} (h:Ct P k args hf R) (hr:∀ v h',R v h'->R' v h'):Ct P k args hf R' :=
 λhr' w hw=>(h hr' w hw).mono λ_ _ ⟨v,h',e,r,rest⟩=>⟨v,h',e,hr v h' r,rest⟩
theorem Cq.ct {P:Program} {k:FuncId} {args:Array Value} {hf:SH} {v:Value} (h:Cq P k args hf v):Ct P k args hf λu h'=>u=v/\h'=hf :=
 λhr w hw=>(h hr w hw).mono λ_ _ ⟨e,g⟩=>⟨v,hf,e,⟨rfl,rfl⟩,Holds.grew hw g,g.toSame⟩
theorem slq {h h1:SH} {r:Res} (p:Sel h r h1:=by repeat (first | exact Sel.here | apply Sel.there)):Sel h r h1:=p
theorem sbq {k h:SH} (p:Sub k h:=by (repeat (refine Sub.sel (by repeat (first | exact Sel.here | apply Sel.there)) ?_)); (repeat apply Sub.cons); first | exact Sub.refl _ | exact Sub.nil _):Sub k h:=p
theorem sbr {k h:SH} (p:Sub k h:=by repeat (first | exact Sub.refl _ | exact Sub.nil _ | refine Sub.sel (by repeat (first | exact Sel.here | apply Sel.there)) ?_ | apply Sub.cons)):Sub k h:=p
theorem Zz {p : Prop} (h : p := by kernel_rfl) : p := h
theorem Zy {α : Type _} {l : List α} {i : Nat} (h : i < l.length) : l[i]? = some l[i] := List.getElem?_eq_getElem h
theorem Zx {p : Prop} (h : p := by simpa using hd) : p := h
theorem Zw {p : Prop} (h : p := by simpa using hd2) : p := h
theorem Zv {p : Prop} (h : p := by simpa using hne) : p := h
theorem Zu {p : Prop} (h : p := by simpa using hq) : p := h
theorem Zt {p : Prop} (h : p := by simpa using hl) : p := h
theorem Zr {p : Prop} (h : p := by simpa using hu2) : p := h
theorem Zp {p : Prop} (h : p := by simpa using hd3) : p := h
theorem Zo {p : Prop} (h : p := by simpa using h) : p := h
theorem Zn {p : Prop} (h : p := by simpa using hz) : p := h
theorem Zm {p : Prop} (h : p := by simpa using h2) : p := h
theorem Zl {p : Prop} (h : p := by simpa using hc) : p := h
theorem Zk {p : Prop} (h : p := by simpa using hn) : p := h
theorem Zj {p : Prop} (h : p := by simpa using he) : p := h
theorem Zi {p : Prop} (h : p := by simpa using hi) : p := h
theorem Zh {p : Prop} (h : p := by simpa using hsz) : p := h
theorem Zg {p : Prop} (h : p := by simpa using hj) : p := h
theorem Zf {p : Prop} (h : p := by simpa using hb) : p := h
theorem Ze {p : Prop} (h : p := by simpa using h1) : p := h
theorem Zd {p : Prop} (h : p := by simpa using hct) : p := h
theorem Zc {p : Prop} (h : p := by simpa using hno) : p := h
theorem Zb {p : Prop} (h : p := by simpa using h3) : p := h
theorem Za {p : Prop} (h : p := by simpa using ho2) : p := h
theorem Z0 {p : Prop} (h : p := by unfold I64 at *; omega) : p := h

theorem ltn {a b:Nat} (h:Nat.blt a b=true):a<b:=by simpa [Nat.blt_eq] using h
theorem len {a b:Nat} (h:Nat.ble a b=true):a≤b:=Nat.le_of_ble_eq_true h
def Fw (r:Option Nat):Fence:={ Fence.wide with round:=r }
theorem JQ (r:Option Nat) (n:Nat):(Fw r).room n:=λ_ h=>by simp [Fw,Fence.wide] at h
theorem zl (r:Option Nat) (n:Nat):(Fw r).depth.isSome=true->1≤n:=λh=>by simp [Fw,Fence.wide] at h
theorem tH {r:Option Nat} {n:Nat} {P:Program} {f:FuncId} {args:Array Value} {w:World} {R:Ending->World->Prop} (h:Calls P f args w R):CallsIn (Fw r) n P f args w R :=
 let h':=(callsIn_wide (n:=n)).2 h
 ⟨trivial,λcs _=>h'.2 cs<|room_wide _⟩
theorem uP {r:Option Nat} {n:Nat} {P:Program} {f:FuncId} {args:Array Value} {w:World} {R:Ending->World->Prop} (h:CallsIn (Fw r) n P f args w R):Calls P f args w R :=
 (callsIn_wide (n:=n)).1 ⟨trivial,λcs _=>h.2 cs<|JQ r _⟩

def Rounds (P:Program) (l:Nat) (f:FuncId) (tmps:Array Value) (assign body:Code) (w:World) (R:Value->World->Prop):Prop :=
 RoundIn (Fw none) 0 P l f tmps assign body w λe w'=>∃ v,e = .returned v/\R v w'

def zm (P:Program) (R:Value->World->Prop):Result Next->Prop
 | .ok (.value v) w'=>R v w'
 | .ok .skip w'=>R undef w'
 | .ok (.enter f args) w'=>Calls P f args w' λe w''=>∃ v,e = .returned v/\R v w''
 | .ok (.round l f tmps assign body) w'=>Rounds P l f tmps assign body w' R
 | .ok (.row row args) w'=>Rows P row args w' R
 | _=>False
def OpV (P:Program) (r:Option Nat) (o:Oper) (a:Act) (w:World) (R:Value->World->Prop):Prop:=zm P R ((o.semAt r a.eval).run P w)
def OpW (P:Program) (r:Option Nat) (o:Oper) (a:Act) (w:World) (K:Act->World->Prop):Prop:=OpV P r o a w λv w'=>K (a.put o.dst v) w'

theorem je {P:Program} {R R':Value->World->Prop} (hk:∀ v w,R v w->R' v w) {x:Result Next} (h:zm P R x):zm P R' x:=by
 cases x with
 | halt _ _=>exact h
 | ok n w' =>
  cases n <;> first
   | exact h.elim
   | exact hk _ _ h
   | exact Calls.mono h λ_ _ ⟨v,e,k⟩=>⟨v,e,hk _ _ k⟩
   | exact RoundIn.mono h λ_ _ ⟨v,e,k⟩=>⟨v,e,hk _ _ k⟩
   | exact Rows.mono h λ_ _ k=>hk _ _ k
theorem OpV.mono {P:Program} {r:Option Nat} {o:Oper} {a:Act} {w:World} {R R':Value->World->Prop} (hk:∀ v w,R v w->R' v w) (h:OpV P r o a w R):OpV P r o a w R':=je hk h
theorem OpW.mono {P:Program} {r:Option Nat} {o:Oper} {a:Act} {w:World} {K K':Act->World->Prop} (hk:∀ a w,K a w->K' a w) (h:OpW P r o a w K):OpW P r o a w K':=OpV.mono (λ_ _ k=>hk _ _ k) h

theorem Ia {r:Option Nat} {n:Nat} {P:Program} {l:Nat} {f:FuncId} {tmps:Array Value} {assign body:Code} {w:World} {R:Ending->World->Prop}
  (h:RoundIn (Fw none) 0 P l f tmps assign body w R):RoundIn (Fw r) n P l f tmps assign body w R:=⟨trivial,λc cs _=>h.2 c cs<|JQ none _⟩

theorem OpW.wpIn {P:Program} {r:Option Nat} {o:Oper} {a:Act} {w:World} {K:Act->World->Prop} {Q:Exit->Act->World->Prop} (h:OpW P r o a w K):o.wpIn (Fw r) 0 P a w K Q:=by
 refine ⟨λ_ _=>trivial,?_⟩
 unfold OpW OpV at h
 show o.uponIn (Fw r) 0 P a K Q ((o.semAt r a.eval).run P w)
 generalize (o.semAt r a.eval).run P w=x at *
 cases x with
 | halt _ _=>exact h.elim
 | ok n w' =>
  cases n <;> first
   | exact h.elim
   | exact h
   | exact ⟨zl r _,tH (Calls.mono h λ_ _ ⟨v,e,k⟩=>by subst e; exact k)⟩
   | exact ⟨zl r _,Ia (RoundIn.mono h λ_ _ ⟨v,e,k⟩=>by subst e; exact k)⟩
   | exact ⟨zl r _,λc cs _=>let ⟨v,w',k,s⟩:=h c cs; ⟨v,w',k,stepsIn_wide.2 s⟩⟩

/-! ## A list of operations, in its order -/
def LsW (P:Program) (r:Option Nat) (ops:Array Oper) (K:Act->World->Prop):List Oper->Act->World->Prop
 | [],a,w=>K a w
 | o::rest,a,w=>if Region.wanted o (yielded ops a.tmps) then OpW P r o a w (LsW P r ops K rest) else LsW P r ops K rest (a.put o.dst undef) w

theorem LsW.wpListIn {P : Program} {r : Option Nat} {ops : Array Oper} {K : Act -> World -> Prop} {Q : Exit -> Act -> World -> Prop} (hQ : ∀ a w, K a w -> Q .normal a w) :
  ∀ (l:List Oper) (a:Act) (w:World),LsW P r ops K l a w->Go.wpListIn (Fw r) 0 P ops Q l a w
 | [],a,w,h=>hQ a w h
 | o::rest,a,w,h=>by
  unfold LsW at h
  unfold Go.wpListIn
  split
  ·rename_i hw
   rw [if_pos hw] at h
   exact OpW.wpIn<|OpW.mono (λa w h=>LsW.wpListIn hQ rest a w h) h
  ·rename_i hw
   rw [if_neg hw] at h
   exact ⟨λ_ _=>trivial,LsW.wpListIn hQ rest _ w h⟩

theorem LsW.region {P:Program} {r:Option Nat} {id:Nat} {l:List Oper} {Q:Exit->Act->World->Prop} {a:Act} {w:World} (h:LsW P r l.toArray (Q .normal) l a w) :
  (Code.region id l.toArray false).wpIn (Fw r) 0 P Q a w:=wpIn_region_lit<|LsW.wpListIn (λ_ _ h=>h) l a w h

/-! ## The judgement on a list of operations -/
structure Cx where
 P:Program
 r:Option Nat
 n:Nat
 ds:List Deferred
 w0:World
def St (c:Cx) (ops:Array Oper) (K:Act->World->Prop) (rest:List Oper) (e:Env) (h:SH):Prop :=
 ∀ a w,Kn c.n c.ds a e->Holds w h->Same c.w0 w->LsW c.P c.r ops K rest a w
def Nx (c:Cx) (K:Act->World->Prop) (e:Env) (h:SH):Prop:=∀ a w,Kn c.n c.ds a e->Holds w h->Same c.w0 w->K a w

section
variable {c:Cx} {ops:Array Oper} {K:Act->World->Prop} {rest:List Oper} {e:Env} {h:SH}
theorem sN (hk:Nx c K e h):St c ops K [] e h:=hk

def Vop (P:Program) (e:Env) (h:SH) (op:Op) (ty:TypeId) (v:Value):Prop :=
 (∀ k,op≠.defer k)/\(∀ cs b,op≠.select cs b)/\∀ (ρ : Operand->Value) (w:World) (d:Option Tmp) (pos:String) (after:Array Edge) (g:Option (Nat×Bool)),(∀ x u,e.ev? x=some u -> ρ x=u)->Holds w h ->
  (execOp ρ ⟨d,op,ty,pos,after,g⟩).run P w = .ok (.value v) w

theorem Kn.evs {n:Nat} {ds:List Deferred} {a:Act} {e:Env} (h:Kn n ds a e):∀ x u,e.ev? x=some u->a.eval x=u:=λ_ _ hx=>h.ev hx

theorem Ib {d:Nat} {op:Op} {ty:TypeId} {pos:String} {after:Array Edge} {v:Value} (hv:Vop c.P e h op ty v) (hd:d<c.n) (hn:St c ops K rest ((d,v)::e) h) :
  St c ops K (⟨some d,op,ty,pos,after,none⟩::rest) e h:=λa w hk hh hs=>by
 unfold LsW
 rw [if_pos (by simp [Region.wanted])]
 unfold OpW OpV
 rw [Oper.semAt_eq _ _ _ hv.1,hv.2.2 a.eval w _ _ _ _ hk.evs hh]
 exact hn _ w (hk.put v hd) hh hs
theorem st_valg {d g gd:Nat} {op:Op} {ty:TypeId} {pos:String} {after:Array Edge} {v:Value} {want:Bool} (hg:((ops[g]?).bind (·.dst))=some gd) (hgv:e.get? gd=some (.bool want))
  (hv:Vop c.P e h op ty v) (hd:d<c.n) (hn:St c ops K rest ((d,v)::e) h) :
  St c ops K (⟨some d,op,ty,pos,after,some (g,want)⟩::rest) e h:=λa w hk hh hs=>by
 unfold LsW
 have hy:yielded ops a.tmps g=some want:=by
  unfold yielded
  cases ho:ops[g]? with
  | none=>simp [ho] at hg
  | some o=>simp only [ho,Option.bind_some] at hg; simp [hg,hk.get gd _ hgv]
 rw [if_pos (by simp [Region.wanted,hy])]
 unfold OpW OpV
 rw [Oper.semAt_eq _ _ _ hv.1,hv.2.2 a.eval w _ _ _ _ hk.evs hh]
 exact hn _ w (hk.put v hd) hh hs
theorem st_skip {d g gd:Nat} {op:Op} {ty:TypeId} {pos:String} {after:Array Edge} {want b:Bool} (hg:((ops[g]?).bind (·.dst))=some gd) (hgv:e.get? gd=some (.bool b)) (hb:b = !want) (hd:d<c.n)
  (hn:St c ops K rest ((d,undef)::e) h) :
  St c ops K (⟨some d,op,ty,pos,after,some (g,want)⟩::rest) e h:=λa w hk hh hs=>by
 unfold LsW
 have hy:yielded ops a.tmps g=some b:=by
  unfold yielded
  cases ho:ops[g]? with
  | none=>simp [ho] at hg
  | some o=>simp only [ho,Option.bind_some] at hg; simp [hg,hk.get gd _ hgv]
 rw [if_neg (by subst hb; cases want <;> simp [Region.wanted,hy])]
 exact hn _ w (hk.put undef hd) hh hs
theorem St.weaken {e':Env} (hs:Env.sub e' e) (hn:St c ops K rest e' h):St c ops K rest e h:=λa w hk hh hw=>hn a w (hk.weaken hs) hh hw
theorem Nx.weaken {e':Env} (hs:Env.sub e' e) (hn:Nx c K e' h):Nx c K e h:=λa w hk hh hw=>hn a w (hk.weaken hs) hh hw
theorem Nx.perm {h':SH} (hp:h.Perm h') (hn:Nx c K e h'):Nx c K e h:=λa w hk hh hw=>hn a w hk (hh.perm hp) hw
theorem St.perm {h':SH} (hp:h.Perm h') (hn:St c ops K rest e h'):St c ops K rest e h:=λa w hk hh hw=>hn a w hk (hh.perm hp) hw
end

inductive Keep (e:Env):List Nat->Env->Prop
 | nil:Keep e [] []
 | cons {k:Nat} {v:Value} {ks:List Nat} {e':Env}:e.get? k=some v->Keep e ks e'->Keep e (k::ks) ((k,v)::e')
theorem Keep.sub {e e':Env} {ks:List Nat} (h:Keep e ks e'):Env.sub e' e:=by
 induction h with
 | nil=>trivial
 | cons h1 _ ih=>exact ⟨h1,ih⟩
/-! ## Operations that yield a value -/
section
variable {P:Program} {e:Env} {h:SH} {ty:TypeId}
theorem vM {x:Operand} {v:Value} (hx:e.ev? x=some v):Vop P e h (.move x) ty v :=
 ⟨by simp,by simp,λρ w d pos after g hρ _=>by simp [execOp,hρ x v hx]⟩
theorem vA {x:Operand} {v:Value} (hx:e.ev? x=some v):Vop P e h (.assign x) ty v :=
 ⟨by simp,by simp,λρ w d pos after g hρ _=>by simp [execOp,hρ x v hx]⟩
theorem vQ {x y z:Operand} {v:Value} (hx:e.ev? x=some (.bool true)) (hy:e.ev? y=some v):Vop P e h (.pick x y z) ty v :=
 ⟨by simp,by simp,λρ w d pos after g hρ _=>by simp [execOp,hρ x _ hx,hρ y v hy,asBool]⟩
theorem vP {x y z:Operand} {v:Value} (hx:e.ev? x=some (.bool false)) (hz:e.ev? z=some v):Vop P e h (.pick x y z) ty v :=
 ⟨by simp,by simp,λρ w d pos after g hρ _=>by simp [execOp,hρ x _ hx,hρ z v hz,asBool]⟩
theorem vN {x:Operand} {a:Addr} (hx:e.ev? x=some (.pointer (some a))):Vop P e h (.nilCheck x) ty (.pointer (some a)):=
 ⟨by simp,by simp,λρ w d pos after g hρ _=>by simp [execOp,hρ x _ hx]⟩
theorem cz {fn : Fn} {first cap : Array Operand} {vf vc : List Value} (h1 : first.toList.mapM e.ev? = some vf) (h2 : cap.toList.mapM e.ev? = some vc) :
  Vop P e h (.makeFunc fn first cap) ty (.func fn vf.toArray vc.toArray):=by
 have key:∀ (ρ : Operand->Value),(∀ x u,e.ev? x=some u -> ρ x=u)->∀ (l:List Operand) (vs:List Value),l.mapM e.ev? = some vs->l.map ρ = vs:=by
  intro ρ hρ l
  induction l with
  | nil=>intro vs hv; simpa using hv.symm
  | cons x t ih =>
   intro vs hv
   simp only [List.mapM_cons,Option.bind_eq_bind,Option.bind_eq_some_iff,Option.pure_def,Option.some.injEq] at hv
   obtain ⟨u,hu,us,hus,rfl⟩:=hv
   simp [hρ x u hu,ih us hus]
 refine ⟨by simp,by simp,λρ w d pos after g hρ _=>?_⟩
 have e1:Array.map ρ first=vf.toArray:=by
  apply Array.toList_inj.1; simpa using key ρ hρ first.toList vf h1
 have e2:Array.map ρ cap=vc.toArray:=by
  apply Array.toList_inj.1; simpa using key ρ hρ cap.toList vc h2
 simp [execOp,Instr.makeFunc,e1,e2]
end

def I64 (n:Int):Prop := -9223372036854775808≤n/\n≤9223372036854775807
theorem I64.wrap {n:Int} (h:I64 n):IntKind.i64.wrap n=n:=IntWalk.i64_in n (by unfold I64 at h; omega)
theorem I64.of {n:Int} (h1 : -1000000000≤n) (h2:n≤1000000000):I64 n:=by unfold I64; omega

def cl (l:List Value) (T:TypeId):Obj:=.cells l.toArray T (0,0)
theorem bU {b off:Nat} {l:List Value} {T:TypeId} {v:Value} (h:l[off]? = some v):Rd (pt b (cl l T)) ⟨b,off,none⟩ v:=rd_pt Zo

def At (h:SH) (p:Addr) (v:Value):Prop:=∃ r h',Sel h r h'/\Rd r p v
theorem bS {r:Res} {t:SH} {p:Addr} {v:Value} (h:Rd r p v):At (r::t) p v:=⟨r,t,.here,h⟩
theorem M4 {x:Res} {t:SH} {p:Addr} {v:Value} (h:At t p v):At (x::t) p v:=let ⟨r,h',s,q⟩:=h; ⟨r,x::h',.there s,q⟩
theorem At.cell {w:World} {h:SH} {p:Addr} {v:Value} (ha:At h p v) (hh:Holds w h):w.cell? p=some v:=let ⟨_,_,s,q⟩:=ha; q.at s hh
inductive SetAt:List Value->Nat->Value->List Value->Prop
 | zero {x v:Value} {t:List Value}:SetAt (x::t) 0 v (v::t)
 | succ {x v:Value} {t t':List Value} {n:Nat}:SetAt t n v t'->SetAt (x::t) (n+1) v (x::t')
 | set {t:List Value} {n:Nat} {v:Value}:SetAt t n v (t.set n v)
theorem SetAt.eq {l l':List Value} {n:Nat} {v:Value} (h:SetAt l n v l'):l.set n v=l':=by
 induction h with
 | zero=>rfl
 | succ _ ih=>simp [ih]
 | set=>rfl

/-! ## What a type of the program is -/
def Sz (P:Program) (T:TypeId) (n:Nat):Prop:=∀ w:World,(sizeOf T).run P w = .ok n w
def Ld1 (P:Program) (T:TypeId):Prop:=∀ (w:World) (a:Addr) (v:Value),w.cell? a=some v->(Instr.loadAt T<|.pointer<|some a).run P w = .ok v w
def LdN (P:Program) (T:TypeId) (n:Nat):Prop:=∀ (w:World) (b o:Nat) (vs:List Value),vs.length=n->(∀ i,i<n->w.cell? ⟨b,o+i,none⟩=vs[i]?)->(Instr.loadAt T<|.pointer<|some ⟨b,o,none⟩).run P w = .ok (.agg vs.toArray) w
def Fa (P:Program) (S:TypeId) (f off:Nat):Prop:=∀ (b o:Nat) (w:World),(Instr.fieldAt S (.pointer<|some ⟨b,o,none⟩) f).run P w = .ok (.pointer<|some ⟨b,o+off,none⟩) w
def SlE (P:Program) (T E:TypeId) (sz:Nat):Prop:=P.underlying T=some (.slice E)/\Sz P E sz
def Enters (P:Program) (k:FuncId):Prop:=∀ (args:Array Value) (w:World),(callFunc k args).run P w = .ok (.enter k args) w
def Al (P:Program) (T:TypeId) (zs:List Value):Prop:=∀ w:World,(Instr.alloc T true (.tuple #[])).run P w = .ok (.pointer<|some ⟨w.heap.size,0,none⟩) (w.alloc<|cl zs T)

def M5:TypeDesc->Bool
 | .struct _ | .array _ _=>false
 | _=>true
theorem Ld1.of {P:Program} {T:TypeId} {d:TypeDesc} (h:P.underlying T=some d) (hd:M5 d=true):Ld1 P T:=λw a v hv=>by
 have hi:(isAgg T).run P w = .ok false w:=by
  unfold isAgg
  simp only [Sem.run_bind,run_underlying h,Result.andThen_ok]
  cases d <;> first | rfl | (simp [M5] at hd)
 unfold Instr.loadAt loadVar
 simp [Instr.sureAddr,hi,hv]
theorem Sz.of {P:Program} {T:TypeId} {n:Nat} {i:TypeInfo} (h:P.info? T=some i) (hn:i.size=n):Sz P T n:=λw=>by simp [sizeOf,typeInfo,h,hn]

theorem LdN.of {P : Program} {T : TypeId} {n : Nat} {fs : Array Field} (h : P.underlying T = some (.struct fs)) (hs : Sz P T n) : LdN P T n := λw b o vs hl hv => by
 have hi:(isAgg T).run P w = .ok true w:=by unfold isAgg; simp only [Sem.run_bind,run_underlying h,Result.andThen_ok]; rfl
 have key:∀ (k:Nat) (m:Nat) (acc:Array Value),m+k=n->acc=(vs.take m).toArray->(loadCellsFrom ⟨b,o,none⟩ m k acc).run P w = .ok vs.toArray w:=by
  intro k
  induction k with
  | zero =>
   intro m acc hm ha
   have:m=n:=by omega
   subst this
   simp [loadCellsFrom,ha,List.take_of_length_le (Nat.le_of_eq hl)]
  | succ k ih =>
   intro m acc hm ha
   have hmn:m<n:=by omega
   have hc:=hv m hmn
   have hlt:m<vs.length:=by omega
   rw [Zy hlt] at hc
   unfold loadCellsFrom
   simp only [Sem.run_bind,run_load,Addr.add_lit,hc,Result.andThen_ok]
   refine ih (m+1) _ (by omega) ?_
   rw [ha,List.take_succ_eq_append_getElem hlt]
   simp
 unfold Instr.loadAt loadVar loadCells
 simp only [Instr.sureAddr,Sem.run_bind,Sem.run_pure,Result.andThen_ok,hi,if_true,hs w,key n 0 #[] (by omega) (by simp)]

section
variable {P:Program} {e:Env} {h h':SH} {ty:TypeId}

/-! ## Integers and truths -/
theorem aI {t t':TypeId} {x y:Operand} {a b:Int} (hx:e.ev? x=some (.int .i64 a)) (hy:e.ev? y=some (.int .i64 b)) (hr:I64 (a+b)):Vop P e h (.binOp .add t x y t') ty (.int .i64 (a+b)):=
 ⟨by simp,by simp,λρ w d pos after g hρ _=>by simp [execOp,hρ x _ hx,hρ y _ hy,eqGuard_add,binOp_add,Op.intArith,hr.wrap]⟩
theorem zn {t t':TypeId} {x y:Operand} {a b:Int} (hx:e.ev? x=some (.int .i64 a)) (hy:e.ev? y=some (.int .i64 b)) (hr:I64 (a - b)):Vop P e h (.binOp .sub t x y t') ty (.int .i64 (a - b)):=
 ⟨by simp,by simp,λρ w d pos after g hρ _=>by simp [execOp,hρ x _ hx,hρ y _ hy,eqGuard_sub,binOp_sub,Op.intArith,hr.wrap]⟩
theorem Dw {t t':TypeId} {x y:Operand} {a b:Int} (hx:e.ev? x=some (.int .i64 a)) (hy:e.ev? y=some (.int .i64 b)):Vop P e h (.binOp .add t x y t') ty (.int .i64 (IntKind.i64.wrap (a+b))):=
 ⟨by simp,by simp,λρ w d pos after g hρ _=>by simp [execOp,hρ x _ hx,hρ y _ hy,eqGuard_add,binOp_add,Op.intArith]⟩
theorem aN {t t':TypeId} {x y:Operand} {k:IntKind} {a b:Int} (hx:e.ev? x=some (.int k a)) (hy:e.ev? y=some (.int k b)):Vop P e h (.binOp .lss t x y t') ty (.bool (decide (a<b))):=
 ⟨by simp,by simp,λρ w d pos after g hρ _=>by simp [execOp,hρ x _ hx,hρ y _ hy,eqGuard_lss,binOp_lss]⟩
theorem Ca {t t':TypeId} {x y:Operand} {k:IntKind} {a b:Int} (hx:e.ev? x=some (.int k a)) (hy:e.ev? y=some (.int k b)):Vop P e h (.binOp .leq t x y t') ty (.bool (decide (a≤b))):=
 ⟨by simp,by simp,λρ w d pos after g hρ _=>by simp [execOp,hρ x _ hx,hρ y _ hy,eqGuard_leq,binOp_leq]⟩
theorem bW {t t':TypeId} {x y:Operand} {k:IntKind} {a b:Int} (hx:e.ev? x=some (.int k a)) (hy:e.ev? y=some (.int k b)):Vop P e h (.binOp .gtr t x y t') ty (.bool (decide (b<a))):=
 ⟨by simp,by simp,λρ w d pos after g hρ _=>by simp [execOp,hρ x _ hx,hρ y _ hy,eqGuard_gtr,binOp_gtr]⟩
theorem qh {t t':TypeId} {x y:Operand} {k:IntKind} {a b:Int} (hx:e.ev? x=some (.int k a)) (hy:e.ev? y=some (.int k b)):Vop P e h (.binOp .geq t x y t') ty (.bool (decide (b≤a))):=
 ⟨by simp,by simp,λρ w d pos after g hρ _=>by simp [execOp,hρ x _ hx,hρ y _ hy,eqGuard_geq,binOp_geq]⟩
theorem dE {t t':TypeId} {x y:Operand} {k:IntKind} {a b:Int} (hx:e.ev? x=some (.int k a)) (hy:e.ev? y=some (.int k b)):Vop P e h (.binOp .eql t x y t') ty (.bool (a == b)):=
 ⟨by simp,by simp,λρ w d pos after g hρ _=>by simp [execOp,hρ x _ hx,hρ y _ hy,eqGuard_at_int,binOp_eql]⟩
theorem bK {t t':TypeId} {x y:Operand} {k:IntKind} {a b:Int} (hx:e.ev? x=some (.int k a)) (hy:e.ev? y=some (.int k b)):Vop P e h (.binOp .neq t x y t') ty (.bool (a != b)):=
 ⟨by simp,by simp,λρ w d pos after g hρ _=>by simp [execOp,hρ x _ hx,hρ y _ hy,eqGuard_at_int,binOp_neq]⟩
theorem aZ {t:TypeId} {x:Operand} {b:Bool} (hx:e.ev? x=some (.bool b)):Vop P e h (.unOp .not t x) ty (.bool (!b)):=
 ⟨by simp,by simp,λρ w d pos after g hρ _=>by simp [execOp,hρ x _ hx,Op.unary]⟩
theorem ah {x:Operand} {i:Nat} {vs:Array Value} {v:Value} (hx:e.ev? x=some (.tuple vs)) (hv:vs[i]? = some v):Vop P e h (.extract x i) ty v :=
 ⟨by simp,by simp,λρ w d pos after g hρ _=>by simp [execOp,hρ x _ hx,Instr.extract,hv]⟩

/-! ## Addresses and loads -/
theorem vF {S:TypeId} {x:Operand} {f off b o o':Nat} (hx:e.ev? x=some (.pointer (some ⟨b,o,none⟩))) (hf:Fa P S f off) (ho:o+off=o'):Vop P e h (.fieldAddr S x f) ty (.pointer (some ⟨b,o',none⟩)):=
 ⟨by simp,by simp,λρ w d pos after g hρ _=>by subst ho; simp [execOp,hρ x _ hx,hf b o w]⟩
theorem v_load {T:TypeId} {x:Operand} {p:Addr} {v:Value} (hx:e.ev? x=some (.pointer (some p))) (hT:Ld1 P T) (ha:At h p v):Vop P e h (.load T x) ty v :=
 ⟨by simp,by simp,λρ w d pos after g hρ hh=>by simp [execOp,hρ x _ hx,hT w p v (ha.cell hh)]⟩
theorem v_loadN {T:TypeId} {x:Operand} {b o n:Nat} {vs:List Value} (hx:e.ev? x=some (.pointer (some ⟨b,o,none⟩))) (hT:LdN P T n) (hl:vs.length=n) (hr:∀ i,(hi:i<vs.length)->At h ⟨b,o+i,none⟩ vs[i]) :
  Vop P e h (.load T x) ty (.agg vs.toArray):=
 ⟨by simp,by simp,λρ w d pos after g hρ hh=>by
  have:=hT w b o vs hl<|λi hi=>by rw [Zy (by omega)]; exact (hr i<|by omega).cell hh
  simp [execOp,hρ x _ hx,this]⟩
theorem aF {t ty':TypeId} {x:Operand} {a:Option Addr} {n cp:Nat} {E:TypeId} (hx:e.ev? x=some (.slice a n cp)) (ht:P.underlying t=some (.slice E)):Vop P e h (.call { callee:=.builtin .len,args := #[x],argTypes := #[t] }) ty' (.int .i64 n):=
 ⟨by simp,by simp,λρ w d pos after g hρ _=>by simp [execOp,resolve,invoke,builtin,hρ x _ hx,Builtin.len_,run_underlying ht,goInt]⟩
theorem vI {T E:TypeId} {x y:Operand} {b o n cp sz k o':Nat} {kd:IntKind} {i:Int} (hx:e.ev? x=some (.slice (some ⟨b,o,none⟩) n cp)) (hy:e.ev? y=some (.int kd i)) (hT:SlE P T E sz) (hi:i=(k:Int)) (hk:k<n) (ho:o+k * sz=o') :
  Vop P e h (.indexAddr T x y) ty (.pointer<|some ⟨b,o',none⟩):=
 ⟨by simp,by simp,λρ w d pos after g hρ _=>by
  subst hi ho
  have h0:(0:Int)≤k/\(k:Int)<n:=by omega
  simp only [execOp,hρ x _ hx,hρ y _ hy,Instr.indexAt,Sem.run_bind,asIntOf,Sem.run_pure,Result.andThen_ok,run_underlying hT.1,if_pos h0,hT.2 w,Int.toNat_natCast,Addr.add_lit]⟩
/-! ## Calls -/
theorem Dx {ρ : Operand->Value} (hρ : ∀ x u,e.ev? x=some u -> ρ x=u):∀ (l:List Operand) (vs:List Value),l.mapM e.ev? = some vs->l.map ρ = vs
 | [],vs,hv=>by simpa using hv.symm
 | x::t,vs,hv=>by
  simp only [List.mapM_cons,Option.bind_eq_bind,Option.bind_eq_some_iff,Option.pure_def,Option.some.injEq] at hv
  obtain ⟨u,hu,us,hus,rfl⟩:=hv
  simp [hρ x u hu,Dx hρ t us hus]
theorem qM {f:Operand} {az:Array Operand} {ts:Array TypeId} {k:FuncId} {fi cp:Array Value} {vs:List Value} {args:Array Value} (hf:e.ev? f=some (.func (.func k) fi cp)) (has:az.toList.mapM e.ev? = some vs) (hE:Enters P k) (ha:fi++vs.toArray++cp=args)
  {ρ : Operand->Value} (hρ : ∀ x u,e.ev? x=some u -> ρ x=u) (w:World) (d:Option Tmp) (pos:String) (after:Array Edge) (g:Option (Nat×Bool)) :
  (execOp ρ ⟨d,.call { callee:=.value f,args:=az,argTypes:=ts },ty,pos,after,g⟩).run P w = .ok (.enter k args) w:=by
 have e1:Array.map ρ az=vs.toArray:=by
  apply Array.toList_inj.1; simpa using Dx hρ az.toList vs has
 simp only [execOp,resolve,hρ f _ hf,Deferred.ofValue,e1,Sem.run_bind,Sem.run_pure,Result.andThen_ok,invoke]
 rw [<- ha]
 exact hE _ _
end

section
variable {c:Cx} {ops:Array Oper} {K:Act->World->Prop} {rest:List Oper} {e:Env} {h h' hr:SH}
theorem eF {d:Option Nat} {op:Op} {ty:TypeId} {pos:String} {after:Array Edge} (hd:∀ k,op≠.defer k)
  (hop:∀ a w,Kn c.n c.ds a e->Holds w h->Same c.w0 w->zm c.P (λv w'=>LsW c.P c.r ops K rest (a.put d v) w') ((execOp a.eval ⟨d,op,ty,pos,after,none⟩).run c.P w)) :
  St c ops K (⟨d,op,ty,pos,after,none⟩::rest) e h:=λa w hk hh hs=>by
 unfold LsW
 rw [if_pos (by simp [Region.wanted])]
 unfold OpW OpV
 rw [Oper.semAt_eq _ _ _ hd]
 exact hop a w hk hh hs

theorem st_call {d:Nat} {f:Operand} {az:Array Operand} {ts:Array TypeId} {ty:TypeId} {pos:String} {after:Array Edge} {k:FuncId} {fi cp:Array Value} {vs:List Value} {args:Array Value} {hf:SH} {R:Value->SH->Prop}
  (hv:e.ev? f=some (.func (.func k) fi cp)) (has:az.toList.mapM e.ev? = some vs) (hE:Enters c.P k) (ha:fi++vs.toArray++cp=args) (ct:Ct c.P k args hf R) (pk:Pk h hf hr) (hd:d<c.n)
  (hn:∀ v h',R v h'->St c ops K rest ((d,v)::e) (h'++hr)) :
  St c ops K (⟨some d,.call { callee:=.value f,args:=az,argTypes:=ts },ty,pos,after,none⟩::rest) e h :=
 eF (by simp) λa w hk hh hs=>by
  rw [qM hv has hE ha hk.evs]
  exact (ct hr w<|hh.pk pk).mono λ_ w' ⟨v,h',he,hR,hH,hS⟩=>⟨v,he,hn v h' hR _ w' (hk.put v hd) hH<|hs.trans hS⟩
def Reads (P:Program) (k:FuncId) (args:Array Value) (hf:SH) (v:Value):Prop:=Ct P k args hf λu h'=>u=v/\h'=hf
theorem Reads.more {P:Program} {k:FuncId} {args:Array Value} {hf big x:SH} {v:Value} (h:Reads P k args hf v) (pk:Pk big hf x):Reads P k args big v:=λhr w hh=>by
 have hp:(big++hr).Perm (hf++(x++hr)):=(pk.perm.append_right hr).trans<|by rw [List.append_assoc]
 exact (h (x++hr) w<|hh.perm hp).mono λ_ _ ⟨u,h',he,⟨hu,hh'⟩,hH,hS⟩=>⟨u,big,he,⟨hu,rfl⟩,by subst hh'; exact hH.perm hp.symm,hS⟩
theorem M6 {d:Nat} {f:Operand} {az:Array Operand} {ts:Array TypeId} {ty:TypeId} {pos:String} {after:Array Edge} {k:FuncId} {fi cp:Array Value} {vs:List Value} {args:Array Value} {hf:SH} {v:Value}
  (hv:e.ev? f=some (.func (.func k) fi cp)) (has:az.toList.mapM e.ev? = some vs) (hE:Enters c.P k) (ha:fi++vs.toArray++cp=args) (ct:Reads c.P k args hf v) (pk:Pk h hf hr) (hd:d<c.n)
  (hn:St c ops K rest ((d,v)::e) h) :
  St c ops K (⟨some d,.call { callee:=.value f,args:=az,argTypes:=ts },ty,pos,after,none⟩::rest) e h :=
 eF (by simp) λa w hk hh hs=>by
  rw [qM hv has hE ha hk.evs]
  exact (ct hr w<|hh.pk pk).mono λ_ w' ⟨u,h',he,⟨hu,hh'⟩,hH,hS⟩=>⟨u,he,by subst hu hh'; exact hn _ w' (hk.put _ hd) (hH.perm pk.perm.symm) (hs.trans hS)⟩
theorem KX {d g gd:Nat} {f:Operand} {az:Array Operand} {ts:Array TypeId} {ty:TypeId} {pos:String} {after:Array Edge} {k:FuncId} {fi cp:Array Value} {vs:List Value} {args:Array Value} {hf:SH} {v:Value} {want:Bool}
  (hg:((ops[g]?).bind (·.dst))=some gd) (hgv:e.get? gd=some (.bool want))
  (hv:e.ev? f=some (.func (.func k) fi cp)) (has:az.toList.mapM e.ev? = some vs) (hE:Enters c.P k) (ha:fi++vs.toArray++cp=args) (ct:Reads c.P k args hf v) (pk:Pk h hf hr) (hd:d<c.n)
  (hn:St c ops K rest ((d,v)::e) h) :
  St c ops K (⟨some d,.call { callee:=.value f,args:=az,argTypes:=ts },ty,pos,after,some (g,want)⟩::rest) e h:=λa w hk hh hs=>by
 unfold LsW
 have hy:yielded ops a.tmps g=some want:=by
  unfold yielded
  cases ho:ops[g]? with
  | none=>simp [ho] at hg
  | some o=>simp only [ho,Option.bind_some] at hg; simp [hg,hk.get gd _ hgv]
 rw [if_pos (by simp [Region.wanted,hy])]
 unfold OpW OpV
 rw [Oper.semAt_eq _ _ _ (by simp),qM hv has hE ha hk.evs]
 exact (ct hr w<|hh.pk pk).mono λ_ w' ⟨u,h',he,⟨hu,hh'⟩,hH,hS⟩=>⟨u,he,by subst hu hh'; exact hn _ w' (hk.put _ hd) (hH.perm pk.perm.symm) (hs.trans hS)⟩

/-! ## Stores and new blocks -/
theorem Same.setCell (w:World) (a:Addr) (v:Value):Same w (w.setCell a v):=⟨rfl,rfl,rfl,Nat.le_refl _,by simp [World.setCell],λ_ _=>by simp⟩
theorem Holds.setCell {w:World} {b off:Nat} {l:List Value} {T:TypeId} {k:SH} (hh:Holds w (pt b (cl l T)::k)) (v:Value):Holds (w.setCell ⟨b,off,none⟩ v) (pt b (cl (l.set off v) T)::k):=by
 have h1:w.heap[b]? = some (cl l T):=hh.1
 obtain ⟨hlt,hb⟩:=Array.getElem?_eq_some_iff.1 h1
 refine Holds.modify hh ?_ λk hk=>?_
 ·show (w.heap.modify b _)[b]? = _
  rw [Array.getElem?_eq_getElem (by rw [Array.size_modify]; exact hlt),Array.getElem_modify_self,hb]
  simp [cl]
 ·show (w.heap.modify b _)[k]? = _
  rw [Array.getElem?_modify,if_neg (λe=>hk e.symm)]

def St1 (P:Program) (T:TypeId):Prop:=Sz P T 1
theorem Ic {P:Program} {T:TypeId} (hT:Sz P T 1) {v:Value} (hv:v.oneCell'=true) {w:World} {b off:Nat} {l:List Value} {E:TypeId} (hb:w.heap[b]? = some (cl l E)) (ho:off<l.length) :
  (Instr.storeAt T (.pointer<|some ⟨b,off,none⟩) v).run P w = .ok () (w.setCell ⟨b,off,none⟩ v):=by
 have hcl:w.cell? ⟨b,off,none⟩=some l[off]:=by simp [World.cell?,hb,cl,ho]
 have hfz:w.frozen? ⟨b,off,none⟩=false:=by simp [World.frozen?,hb,cl]
 have hcs:v.cells = #[v]:=by cases v <;> first | rfl | (simp [Value.oneCell'] at hv)
 unfold Instr.storeAt storeVar
 simp only [Instr.sureAddr,Sem.run_bind,Sem.run_pure,Result.andThen_ok,hT w,hcs]
 simp [storeCells,run_store _ _ _ _ _ hv,hcl,hfz,Addr.add_zero']

theorem M7 {T E:TypeId} {x y:Operand} {ty:TypeId} {pos:String} {after:Array Edge} {b off:Nat} {l l':List Value} {v:Value} {k:SH}
  (hx:e.ev? x=some (.pointer<|some ⟨b,off,none⟩)) (hy:e.ev? y=some v) (hT:Sz c.P T 1) (hv:v.oneCell'=true) (hs:Sel h (pt b<|cl l E) k) (ho:off<l.length) (hl:SetAt l off v l')
  (hn:St c ops K rest e (pt b (cl l' E)::k)) :
  St c ops K (⟨none,.store T x y,ty,pos,after,none⟩::rest) e h :=
 eF (by simp) λa w hk hh hs'=>by
  have hh':=hh.sel hs
  have hr:=Ic hT hv (E:=E) (l:=l) hh'.1 ho
  simp only [execOp,hk.ev hx,hk.ev hy,Sem.run_bind,hr,Result.andThen_ok,Sem.run_pure]
  rw [<- hl.eq] at hn
  exact hn _ _ hk (Holds.setCell hh' v)<|hs'.trans<|Same.setCell _ _ _

theorem M8 {d:Nat} {T ty:TypeId} {pos:String} {after:Array Edge} {zs:List Value} (hA:Al c.P T zs) (hd:d<c.n)
  (hn:∀ b,St c ops K rest ((d,.pointer (some ⟨b,0,none⟩))::e) (pt b (cl zs T)::h)) :
  St c ops K (⟨some d,.alloc T,ty,pos,after,none⟩::rest) e h :=
 eF (by simp) λa w hk hh hs=>by
  simp only [execOp,Sem.run_bind,hA w,Result.andThen_ok,Sem.run_pure]
  exact hn _ _ _ (hk.put _ hd) (Holds.alloc hh _)<|hs.trans (Grew.alloc _ _ rfl).toSame
theorem st_box {d:Nat} {T ty:TypeId} {x:Operand} {pos:String} {after:Array Edge} {v:Value} {zs:List Value} (hx:e.ev? x=some v) (hz:v.cells=zs.toArray) (hd:d<c.n)
  (hn:∀ b,St c ops K rest ((d,.pointer (some ⟨b,0,none⟩))::e) (pt b (cl zs T)::h)) :
  St c ops K (⟨some d,.box T x,ty,pos,after,none⟩::rest) e h :=
 eF (by simp) λa w hk hh hs=>by
  simp only [execOp,hk.ev hx,Instr.box,newVar,newRow,hz,Sem.run_bind,run_newObj_alloc,Result.andThen_ok,Sem.run_pure]
  exact hn _ _ _ (hk.put _ hd) (Holds.alloc hh _)<|hs.trans (Grew.alloc _ _ rfl).toSame
end

def Cd (c:Cx) (x:Code) (Q:Exit->Act->World->Prop) (e:Env) (h:SH):Prop:=∀ a w,Kn c.n c.ds a e->Holds w h->Same c.w0 w->x.wpIn (Fw c.r) 0 c.P Q a w
def Xt (c:Cx) (ex:Exit) (Q:Exit->Act->World->Prop) (e:Env) (h:SH):Prop:=∀ a w,Kn c.n c.ds a e->Holds w h->Same c.w0 w->Q ex a w
def Behind (c:Cx) (y:Code) (Q:Exit->Act->World->Prop):Act->World->Prop:=λa w=>y.wpIn (Fw c.r) 0 c.P Q a w

inductive Pm:SH->SH->Prop
 | refl {h:SH}:Pm h h
 | cons {h h1 k:SH} {x:Res}:Sel h x h1->Pm h1 k->Pm h (x::k)
theorem Pm.perm {h k:SH} (p:Pm h k):h.Perm k:=by
 induction p with
 | refl=>exact .refl _
 | cons s _ ih=>exact s.perm.trans (ih.cons _)

section
variable {c:Cx} {Q:Exit->Act->World->Prop} {e:Env} {h:SH}
theorem Cd.weaken {x:Code} {e':Env} {h':SH} (hs:Env.sub e' e) (hp:h.Perm h') (hc:Cd c x Q e' h'):Cd c x Q e h:=λa w hk hh hw=>hc a w (hk.weaken hs) (hh.perm hp) hw
theorem Xt.weaken {ex:Exit} {e':Env} {h':SH} (hs:Env.sub e' e) (hp:h.Perm h') (hc:Xt c ex Q e' h'):Xt c ex Q e h:=λa w hk hh hw=>hc a w (hk.weaken hs) (hh.perm hp) hw
theorem Holds.drop {w:World} {h':SH} {r:Res} (s:Sel h r h') (hh:Holds w h):Holds w h':=(Holds.sel s hh).2.2
theorem cK (hx:Xt c .normal Q e h):Cd c .skip Q e h:=λa w hk hh hw=>wpIn_skip<|hx a w hk hh hw
theorem Fb {l:Nat} (hx:Xt c .normal Q e h):Cd c (.label l) Q e h:=λa w hk hh hw=>wpIn_label<|hx a w hk hh hw
theorem cT (hx:Xt c .ret Q e h):Cd c .ret Q e h:=λa w hk hh hw=>wpIn_ret<|hx a w hk hh hw
theorem aC {id:Nat} (hx:Xt c (.exit id) Q e h):Cd c (.exit id) Q e h:=λa w hk hh hw=>wpIn_exit<|hx a w hk hh hw
theorem cS {x y:Code} (hx:Cd c x (Exit.then (Behind c y Q) Q) e h):Cd c (.seq x y) Q e h:=λa w hk hh hw=>wpIn_seq<|hx a w hk hh hw
theorem cB {id:Nat} {x:Code} (hx:Cd c x (Exit.inBlock id Q) e h):Cd c (.block id x) Q e h:=λa w hk hh hw=>wpIn_block<|hx a w hk hh hw
theorem cC {x:Operand} {y z:Code} {t:Bool} (hx:e.ev? x=some (.bool t)) (ht:t=true->Cd c y Q e h) (hf:t=false->Cd c z Q e h):Cd c (.cond x y z) Q e h :=
 λa w hk hh hw=>wpIn_cond_split (hk.ev hx) (λq=>ht q a w hk hh hw)<|λq=>hf q a w hk hh hw
theorem aQ {x:Operand} {y z:Code} (hx:e.ev? x=some (.bool true)) (ht:Cd c y Q e h):Cd c (.cond x y z) Q e h:=cC hx (λ_=>ht) (λq=>by cases q)
theorem aH {x:Operand} {y z:Code} (hx:e.ev? x=some (.bool false)) (hf:Cd c z Q e h):Cd c (.cond x y z) Q e h:=cC hx (λq=>by cases q) (λ_=>hf)
theorem cR {id:Nat} {l:List Oper} (hs:St c l.toArray (Q .normal) l e h):Cd c (.region id l.toArray false) Q e h:=λa w hk hh hw=>LsW.region<|hs a w hk hh hw

/-! ### Ways out -/
theorem xT {y:Code} (hy:Cd c y Q e h):Xt c .normal (Exit.then (Behind c y Q) Q) e h:=hy
theorem nT {y:Code} (hy:Cd c y Q e h):Nx c (Exit.then (Behind c y Q) Q .normal) e h:=hy
theorem ax (hy:Xt c .normal Q e h):Nx c (Q .normal) e h:=hy
theorem xE {id:Nat} {K:Act->World->Prop} (hx:Xt c (.exit id) Q e h):Xt c (.exit id) (Exit.then K Q) e h:=hx
theorem xR {K:Act->World->Prop} (hx:Xt c .ret Q e h):Xt c .ret (Exit.then K Q) e h:=hx
theorem xB {id:Nat} (hx:Xt c .normal Q e h):Xt c .normal (Exit.inBlock id Q) e h:=hx
theorem xW {id:Nat} (hx:Xt c .ret Q e h):Xt c .ret (Exit.inBlock id Q) e h:=hx
theorem xY {id:Nat} (hx:Xt c .normal Q e h):Xt c (.exit id) (Exit.inBlock id Q) e h:=λa w hk hh hw=>by
 simp only [Exit.inBlock,if_true]; exact hx a w hk hh hw
theorem fO {id id':Nat} (hne:id'≠id) (hx:Xt c (.exit id') Q e h):Xt c (.exit id') (Exit.inBlock id Q) e h:=λa w hk hh hw=>by
 simp only [Exit.inBlock,if_neg hne]; exact hx a w hk hh hw

/-! ### A loop -/
theorem exists_least {p:Nat->Prop} (h:∃ n,p n):∃ n,p n/\∀ m,p m->n≤m:=by
 obtain ⟨n,hn⟩:=h
 induction n using Nat.strongRecOn with
 | _ n ih =>
  by_cases hm:∃ m,m<n/\p m
  ·obtain ⟨m,h1,h2⟩:=hm; exact ih m h1 h2
  ·exact ⟨n,hn,λm h2=>by
    rcases Nat.lt_or_ge m n with h1 | h1
    ·exact absurd ⟨m,h1,h2⟩ hm
    ·exact h1⟩
noncomputable def least (p:Nat->Prop):Nat:=Classical.epsilon λn=>p n/\∀ m,p m->n≤m
theorem oQ {p:Nat->Prop} (h:∃ n,p n):p (least p)/\∀ m,p m->least p≤m:=Classical.epsilon_spec (exists_least h)
def JR {σ : Type} (c:Cx) (E : σ -> Env) (H : σ -> SH) (Φ : σ -> Prop) (μ : σ -> Nat) (s : σ) (a:Act) (w:World):Prop :=
 ∃ s',Φ s' /\ μ s' < μ s/\Kn c.n c.ds a (E s')/\Holds w (H s')/\Same c.w0 w
theorem cd_loop {σ : Type} {x : Code} (E : σ -> Env) (H : σ -> SH) (Φ : σ -> Prop) (μ : σ -> Nat) (s0 : σ) (h0 : Φ s0) (hs : Env.sub (E s0) e) (hp : Sub (H s0) h)
    (hr:∀ s,Φ s->Cd c x (Exit.then (JR c E H Φ μ s) Q) (E s) (H s)):Cd c (.loop x) Q e h:=λa w hk hh hw=>by
  let p:Act->World->Nat->Prop:=λa w n=>∃ s,Φ s /\ μ s=n/\Kn c.n c.ds a (E s)/\Holds w (H s)/\Same c.w0 w
  have hmin:∀ a w n,p a w n->p a w (least<|p a w)/\least (p a w)≤n:=λa w n hn=>⟨(oQ ⟨n,hn⟩).1,(oQ ⟨n,hn⟩).2 n hn⟩
  refine wpIn_loop (λa w=>∃ n,p a w n) (λa w=>least<|p a w) ⟨_,s0,h0,rfl,hk.weaken hs,hh.sub hp,hw⟩ λa w ⟨n,hn⟩=>?_
  obtain ⟨⟨s,h1,h2,h3,h4,h5⟩,_⟩:=hmin a w n hn
  refine wpIn_mono (hr s h1 a w h3 h4 h5) λex a' w' hq=>?_
  cases ex <;> first
    | exact hq
    | (obtain ⟨s', g1, g2, g3, g4, g5⟩ := hq
       have hp':p a' w' (μ s'):=⟨s',g1,rfl,g3,g4,g5⟩
       exact ⟨⟨_,hp'⟩,Nat.lt_of_le_of_lt (hmin a' w' _ hp').2 (h2 ▸ g2)⟩)
theorem M9 {σ : Type} {E : σ -> Env} {H : σ -> SH} {Φ : σ -> Prop} {μ : σ -> Nat} {s : σ} (s' : σ) (h1 : Φ s') (h2 : μ s' < μ s) (hs:Env.sub (E s') e) (hp:Sub (H s') h) :
  Xt c .normal (Exit.then (JR c E H Φ μ s) Q) e h:=λ_ _ hk hh hw=>⟨s',h1,h2,hk.weaken hs,hh.sub hp,hw⟩

/-! ### The function -/
def Post (w0:World) (hr:SH) (R:Value->SH->Prop) (en:Ending) (w:World):Prop:=∃ v h',en = .returned v/\R v h'/\Holds w (h'++hr)/\Same w0 w
def Env.ofArgs:Nat->List Value->Env
 | _,[]=>[]
 | i,v::t=>(i,v)::Env.ofArgs (i+1) t
theorem Env.ofArgs_get {l:List Value}:∀ {i j:Nat} {v:Value},(Env.ofArgs i l).get? j=some v->i≤j/\l[j - i]? = some v:=by
 induction l with
 | nil=>intro i j v hv; simp [Env.ofArgs,Env.get?] at hv
 | cons x t ih =>
  intro i j v hv
  by_cases hij:i=j
  ·subst hij
   simp only [Env.ofArgs,Env.get?,Nat.beq_refl,cond_true,Option.some.injEq] at hv
   simp [hv]
  ·simp only [Env.ofArgs,Env.get?,zk hij,cond_false] at hv
   obtain ⟨h1,h2⟩:=ih hv
   refine ⟨by omega,?_⟩
   rw [show j - i=(j - (i+1))+1 by omega]
   simpa using h2
theorem aL {P:Program} {k:FuncId} {fn:Func} {x:Code} {n:Nat} {l:List Value} {hf:SH} {R:Value->SH->Prop} (hF:P.funcs[k]? = some fn) (hb:fn.body=some x) (hnt:fn.ntmps=n) (hn:l.length≤n)
  (hc:∀ (hr:SH) (w0:World),Cd ⟨P,none,n,[],w0⟩ x (bodyPost P fn<|Post w0 hr R) (Env.ofArgs 0 l) (hf++hr)):Ct P k l.toArray hf R:=λhr w hh=>by
 refine uP (r:=none) (n:=0)<|callsIn_of_wp hF hb trivial<|hc hr w _ w ⟨?_,rfl,λi v hi=>?_⟩ hh<|Same.refl w
 ·simp; omega
 ·obtain ⟨_,h2⟩:=Env.ofArgs_get hi
  simp only [Nat.sub_zero] at h2
  have hlt:i<l.length:=(List.getElem?_eq_some_iff.1 h2).1
  rw [Zy hlt,Option.some.injEq] at h2
  simp [Array.getElem?_append,hlt,h2]

def Env.res? (e:Env):List ResultVar->Option (List Value)
 | []=>some []
 | .tmp t::rest=>(e.get? t).bind λv=>(Env.res? e rest).map (v :: ·)
 | .cell _ _::_=>none
def kH:List Value->Value
 | [v]=>v
 | vs=>.tuple vs.toArray
theorem mI {P : Program} {fn : Func} {n : Nat} {ds : List Deferred} {a : Act} (hk : Kn n ds a e) {vs : List Value} (hr : e.res? fn.results.toList = some vs) (w : World) :
  (results fn a.tmps).run P w = .ok (kH vs) w:=by
 have key : ∀ (f : ResultVar -> Sem Value) (_ : ∀ t, f (.tmp t) = pure (a.tmps.getD t undef)) (l : List ResultVar) (vs : List Value), e.res? l = some vs -> (l.mapM f).run P w = .ok vs w := by
  intro f hf l
  induction l with
  | nil=>intro vs hv; simp [Env.res?] at hv; subst hv; simp
  | cons x t ih =>
   intro vs hv
   cases x with
   | cell a' t'=>simp [Env.res?] at hv
   | tmp t' =>
    simp only [Env.res?,Option.bind_eq_some_iff,Option.map_eq_some_iff] at hv
    obtain ⟨u,hu,us,hus,rfl⟩:=hv
    simp [List.mapM_cons,ih us hus,hf,Array.getD_eq_getD_getElem?,hk.get t' u hu]
 unfold results
 rw [<- Array.toArray_toList (xs:=fn.results),List.mapM_toArray]
 simp only [Sem.run_bind,Sem.run_map]
 rw [key _ (λ_=>rfl) _ _ hr]
 simp only [Result.andThen_ok,Sem.run_pure]
 cases vs with
 | nil=>simp [kH]
 | cons v t=>cases t <;> simp [kH]
section
variable {P:Program} {n:Nat} {w0:World} {fn:Func} {hr h':SH} {R:Value->SH->Prop} {r:Option Nat} {vs:List Value}
theorem xt_ret (hv:e.res? fn.results.toList=some vs) (hR:R (kH vs) h') (hp:Sub (h'++hr) h):Xt ⟨P,r,n,[],w0⟩ .ret (bodyPost P fn (Post w0 hr R)) e h :=
 λa w hk hh hw=>⟨hk.defers,_,mI hk hv w,_,h',rfl,hR,hh.sub hp,hw⟩
theorem xt_end (hv:e.res? fn.results.toList=some vs) (hR:R (kH vs) h') (hp:Sub (h'++hr) h):Xt ⟨P,r,n,[],w0⟩ .normal (bodyPost P fn (Post w0 hr R)) e h :=
 λa w hk hh hw=>⟨hk.defers,_,mI hk hv w,_,h',rfl,hR,hh.sub hp,hw⟩
end
end
end Go.Ck
