/-
  What the laws' arguments read as: systems of classes,conflicts,flat forms,names. No condition.
-/
import Derived.Test.YtknmacdbffgjgaaGreatDoorP4
import Derived.Test.YtknmacdbffgjgaaGreatDoorP7
set_option linter.unusedVariables false
set_option linter.unusedSimpArgs false
set_option maxRecDepth 100000
set_option maxHeartbeats 16000000
namespace Go.Ck
open Go Go.RowKit Go.ChangeShapes Go.WideShapes
section
variable {H:Type} {enc:TypeId×Value->H} {P:Program} {W:World}

theorem yE {α : Type} {Q : Nat -> α -> Prop} : ∀ n : Nat, (∀ i, i < n -> ∃ x, Q i x) -> ∃ xs : List α, xs.length = n /\ ∀ i x, xs[i]? = some x -> Q i x
 | 0,_=>⟨[],rfl,λi x h=>by simp at h⟩
 | n + 1, h => by
  obtain ⟨xs,h1,h2⟩:=yE n λi hi=>h i<|by omega
  obtain ⟨x,hx⟩:=h n<|by omega
  refine ⟨xs++[x],by simp [h1],λi y hy=>?_⟩
  by_cases hi:i<xs.length
  .rw [List.getElem?_append_left hi] at hy; exact h2 i y hy
  .rw [List.getElem?_append_right (by omega)] at hy
   have h0:i - xs.length=0:=by
    have:=(List.getElem?_eq_some_iff.1 hy).1
    simp at this; omega
   rw [h0] at hy
   simp at hy
   subst hy
   have:i=n:=by omega
   rw [this]; exact hx
theorem FH {α : Type} {X : List Value -> α -> Prop} {n : Nat} {t e : TypeId} {v : Value} (h : Gd enc P W n t [v]) (hu : P.underlying t = some (.slice e)) (hsz : 0 < P.cellsOf e) (hX : ∀ m us, n = m + 1 -> Gd enc P W m e us -> ∃ x, X us x) :
  ∃ xs:List α,Row (old W) (P.cellsOf e) X v xs/\xs.length * P.bytesOf e<=reachBytes:=by
 rcases h.slice hu hsz with h0 | ⟨a,len,cap,m,hn,h1,h2,h3,h4,h5⟩
 .obtain rfl:=(List.cons.inj h0).1
  exact ⟨[],Row.nil,by simp⟩
 .obtain rfl:=(List.cons.inj h1).1
  obtain ⟨xs,g1,g2⟩:=yE (Q:=λi (x : α)=>∃ b o us,a=⟨b,o,none⟩/\us.length=P.cellsOf e/\Rds (old W) b (o+i * P.cellsOf e) us/\X us x) len λi hi=>by
   obtain ⟨b,o,us,k1,k2,k3,k4⟩:=h5 i hi
   obtain ⟨x,hx⟩:=hX m us hn k4
   exact ⟨x,b,o,us,k1,k2,k3,hx⟩
  subst g1
  refine ⟨xs,⟨some a,cap,rfl,h2,h3,(λh=>by cases h),λi x hi=>?_⟩,h4⟩
  obtain ⟨b,o,us,k1,k2,k3,k4⟩:=g2 i x hi
  exact ⟨b,o,us,by rw [k1],k2,k3,k4⟩
theorem kZ {n:Nat} {t:TypeId} {cs:List Value} (h:Gd enc P W n t cs) (hu:P.underlying t=some .string):∃ s:List UInt8,cs=[sv s]:=by
 obtain ⟨x,h,_⟩:=h
 cases n with
 | zero=>simp [DataW.trod] at h
 | succ n =>
  obtain ⟨q,rfl,_⟩:=DataW.trod_string hu h
  exact ⟨q.data.toList,Z⟩
theorem zz {n:Nat} {t:TypeId} {cs:List Value} (h:Gd enc P W n t cs) (hu:P.underlying t=some .bool):∃ b,cs=[.bool b]:=by
 obtain ⟨x,h,_⟩:=h
 cases n with
 | zero=>simp [DataW.trod] at h
 | succ n =>
  obtain ⟨q,rfl,_⟩:=DataW.trod_bool hu h
  exact ⟨_,Z⟩
theorem FI {n:Nat} {t:TypeId} {k:IntKind} {cs:List Value} (h:Gd enc P W n t cs) (hu:P.underlying t=some (.int k)):∃ q,cs=[.int k q]:=by
 obtain ⟨x,h,_⟩:=h
 cases n with
 | zero=>simp [DataW.trod] at h
 | succ n =>
  obtain ⟨q,rfl,_⟩:=DataW.trod_int hu h
  exact ⟨_,Z⟩

theorem yF {α : Type} [Enc α] {n:Nat} {t e:TypeId} {v:Value} (h:Gd enc P W n t [v]) (hu:P.underlying t=some (.slice e)) (hc:P.cellsOf e=Enc.sz α) (hb:P.bytesOf e=Enc.by' α) (hp:0<Enc.sz α) (hX:∀ m us,n=m+1->Gd enc P W m e us->∃ x : α,Enc.rep (old W) us x):∃ xs:List α,Ls (old W) v xs:=by
 obtain ⟨xs,hr,hb'⟩:=FH (X:=Enc.rep<|old W) h hu (by rw [hc]; exact hp) hX
 exact ⟨xs,by rw [hc] at hr; exact hr,by rw [hb] at hb'; exact hb'⟩
theorem Ef {n:Nat} {t e:TypeId} {v:Value} (h:Gd enc P W n t [v]) (hu:P.underlying t=some (.slice e)) (hsz:0<P.cellsOf e):v.oneCell'=true:=by
 rcases h.slice hu hsz with h0 | ⟨a,len,cap,m,hn,h1,_⟩
 .obtain rfl:=(List.cons.inj h0).1; rfl
 .obtain rfl:=(List.cons.inj h1).1; rfl
end
end Go.Ck
namespace Go.Fl
open Go Go.RowKit Go.ChangeShapes Go.WideShapes Go.Ck Go.Proofs Go.Proofs.Tryz Go.Proofs.YtknmacdbffgjgaaGreatDoor Go.Hr
section
variable {H:Type} {enc:TypeId×Value->H} {W:World}
theorem cl9:prog.cellsOf 9=1:=Zz
theorem cl44:prog.cellsOf 44=7:=Zz
theorem cl73:prog.cellsOf 73=5:=Zz
theorem cl88:prog.cellsOf 88=6:=Zz
theorem cl111:prog.cellsOf 111=2:=Zz
theorem cl130:prog.cellsOf 130=15:=Zz
theorem cl132:prog.cellsOf 132=6:=Zz
theorem cl143:prog.cellsOf 143=2:=Zz
theorem cl216:prog.cellsOf 216=4:=Zz
theorem cl218:prog.cellsOf 218=5:=Zz
theorem cl404:prog.cellsOf 404=8:=Zz
theorem lst2 {us:List Value} (h:us.length=2):∃ e0 e1,us=[e0,e1]:=by
 match us,h with
 | [e0,e1],_=>exact ⟨e0,e1,rfl⟩
theorem lst4 {us:List Value} (h:us.length=4):∃ e0 e1 e2 e3,us=[e0,e1,e2,e3]:=by
 match us,h with
 | [e0,e1,e2,e3],_=>exact ⟨e0,e1,e2,e3,rfl⟩
theorem lst5 {us:List Value} (h:us.length=5):∃ e0 e1 e2 e3 e4,us=[e0,e1,e2,e3,e4]:=by
 match us,h with
 | [e0,e1,e2,e3,e4],_=>exact ⟨e0,e1,e2,e3,e4,rfl⟩
theorem lst6 {us:List Value} (h:us.length=6):∃ e0 e1 e2 e3 e4 e5,us=[e0,e1,e2,e3,e4,e5]:=by
 match us,h with
 | [e0,e1,e2,e3,e4,e5],_=>exact ⟨e0,e1,e2,e3,e4,e5,rfl⟩
theorem lst7 {us:List Value} (h:us.length=7):∃ e0 e1 e2 e3 e4 e5 e6,us=[e0,e1,e2,e3,e4,e5,e6]:=by
 match us,h with
 | [e0,e1,e2,e3,e4,e5,e6],_=>exact ⟨e0,e1,e2,e3,e4,e5,e6,rfl⟩
theorem lst15 {us:List Value} (h:us.length=15):∃ e0 e1 e2 e3 e4 e5 e6 e7 e8 e9 e10 e11 e12 e13 e14,us=[e0,e1,e2,e3,e4,e5,e6,e7,e8,e9,e10,e11,e12,e13,e14]:=by
 match us,h with
 | [e0,e1,e2,e3,e4,e5,e6,e7,e8,e9,e10,e11,e12,e13,e14],_=>exact ⟨e0,e1,e2,e3,e4,e5,e6,e7,e8,e9,e10,e11,e12,e13,e14,rfl⟩
theorem mO {n:Nat} {v:Value} (h:Gd enc prog W n 40 [v]):∃ xs:List Nm,Ls (old W) v xs:=by
 exact yF h underlying40 cl9 Zz (by decide) λm us _ hg=>(by obtain ⟨x,rfl⟩:=kZ hg underlying9; exact ⟨x,rfl⟩)
theorem ty_gd:∀ (n:Nat) (us:List Value),Gd enc prog W n 73 us->∃ t:Kt,Enc.rep (old W) us t:=by
 intro n
 induction n using Nat.strongRecOn with
 | _ n ih =>
  intro us h
  obtain ⟨m,rfl,hl,hf⟩:=h.struct underlying73
  obtain ⟨e0,e1,e2,e3,e4,rfl⟩:=lst5<|by rw [hl,cl73]
  have g0:Gd enc prog W m 3 [e0]:=hf 0 _ rfl
  have g1:Gd enc prog W m 9 [e1]:=hf 1 _ rfl
  have g2:Gd enc prog W m 71 [e2]:=hf 2 _ rfl
  have g3:Gd enc prog W m 4 [e3]:=hf 3 _ rfl
  have g4:Gd enc prog W m 4 [e4]:=hf 4 _ rfl
  obtain ⟨x0,hx0⟩:=FI g0 underlying3
  cases hx0
  obtain ⟨x1,hx1⟩:=kZ g1 underlying9
  cases hx1
  obtain ⟨x3,hx3⟩:=zz g3 underlying4
  cases hx3
  obtain ⟨x4,hx4⟩:=zz g4 underlying4
  cases hx4
  obtain ⟨ts,hr,hb⟩:=FH (X:=Enc.rep<|old W) g2 underlying71 (by rw [cl73]; decide) λm' us' hm hg=>ih m' (by omega) us' hg
  rw [cl73] at hr
  rw [show prog.bytesOf 73=56 by kernel_rfl] at hb
  exact ⟨.mk x0 x1 ts x3 x4,gI (t:=.mk x0 x1 ts x3 x4) Z ⟨hr,hb⟩⟩
theorem Eg {n:Nat} {us:List Value} (h:Gd enc prog W n 73 us):∃ t:Kt,Enc.rep (old W) us t:=ty_gd n us h
theorem JX {n:Nat} {v:Value} (h:Gd enc prog W n 71 [v]):∃ xs:List Kt,Tys (old W) v xs:=by
 obtain ⟨ts,hr,hb⟩:=FH (X:=Enc.rep<|old W) h underlying71 (by rw [cl73]; decide) λm' us' hm hg=>ty_gd m' us' hg
 rw [cl73] at hr
 rw [show prog.bytesOf 73=56 by kernel_rfl] at hb
 exact ⟨ts,hr,hb⟩
theorem ex_gd:∀ (n:Nat) (us:List Value),Gd enc prog W n 216 us->∃ t:Ex,Enc.rep (old W) us t:=by
 intro n
 induction n using Nat.strongRecOn with
 | _ n ih =>
  intro us h
  obtain ⟨m,rfl,hl,hf⟩:=h.struct underlying216
  obtain ⟨e0,e1,e2,e3,rfl⟩:=lst4<|by rw [hl,cl216]
  have g0:Gd enc prog W m 3 [e0]:=hf 0 _ rfl
  have g1:Gd enc prog W m 9 [e1]:=hf 1 _ rfl
  have g2:Gd enc prog W m 3 [e2]:=hf 2 _ rfl
  have g3:Gd enc prog W m 214 [e3]:=hf 3 _ rfl
  obtain ⟨x0,hx0⟩:=FI g0 underlying3
  cases hx0
  obtain ⟨x1,hx1⟩:=kZ g1 underlying9
  cases hx1
  obtain ⟨x2,hx2⟩:=FI g2 underlying3
  cases hx2
  obtain ⟨ts,hr⟩:=yF (α := Ex) g3 underlying214 cl216 Zz (by decide) λm' us' hm hg=>ih m' (by omega) us' hg
  exact ⟨.mk x0 x1 x2 ts,DC (t:=.mk x0 x1 x2 ts) Z hr⟩
theorem JY {n:Nat} {us:List Value} (h:Gd enc prog W n 216 us):∃ t:Ex,Enc.rep (old W) us t:=ex_gd n us h
theorem JZ {n:Nat} {us:List Value} (h:Gd enc prog W n 218 us):∃ x:Cla,Enc.rep (old W) us x:=by
 obtain ⟨m,rfl,hl,hf⟩:=h.struct underlying218
 obtain ⟨e0,e1,e2,e3,e4,rfl⟩:=lst5<|by rw [hl,cl218]
 have g0:Gd enc prog W m 9 [e0]:=hf 0 _ rfl
 have g1:Gd enc prog W m 216 [e1,e2,e3,e4]:=hf 1 _ rfl
 obtain ⟨x0,hx0⟩:=kZ g0 underlying9
 cases hx0
 obtain ⟨x1,hx1⟩:=JY g1
 exact ⟨⟨x0,x1⟩,_,Z,hx1⟩
theorem uT {n:Nat} {v:Value} (h:Gd enc prog W n 42 [v]):∃ xs:List Cla,Ls (old W) v xs:=by
 exact yF h underlying42 cl218 Zz (by decide) λm us _ hg=>JZ hg
theorem J2 {n:Nat} {us:List Value} (h:Gd enc prog W n 132 us):∃ x:Vr,Enc.rep (old W) us x:=by
 obtain ⟨m,rfl,hl,hf⟩:=h.struct underlying132
 obtain ⟨e0,e1,e2,e3,e4,e5,rfl⟩:=lst6<|by rw [hl,cl132]
 have g0:Gd enc prog W m 9 [e0]:=hf 0 _ rfl
 have g1:Gd enc prog W m 73 [e1,e2,e3,e4,e5]:=hf 1 _ rfl
 obtain ⟨x0,hx0⟩:=kZ g0 underlying9
 cases hx0
 obtain ⟨x1,hx1⟩:=Eg g1
 exact ⟨⟨x0,x1⟩,_,Z,hx1⟩
theorem Bt {n:Nat} {v:Value} (h:Gd enc prog W n 70 [v]):∃ xs:List Vr,Ls (old W) v xs:=by
 exact yF h underlying70 cl132 Zz (by decide) λm us _ hg=>J2 hg
theorem J3 {n:Nat} {us:List Value} (h:Gd enc prog W n 111 us):∃ x:Fm,Enc.rep (old W) us x:=by
 obtain ⟨m,rfl,hl,hf⟩:=h.struct underlying111
 obtain ⟨e0,e1,rfl⟩:=lst2<|by rw [hl,cl111]
 have g0:Gd enc prog W m 9 [e0]:=hf 0 _ rfl
 have g1:Gd enc prog W m 9 [e1]:=hf 1 _ rfl
 obtain ⟨x0,hx0⟩:=kZ g0 underlying9
 cases hx0
 obtain ⟨x1,hx1⟩:=kZ g1 underlying9
 cases hx1
 exact ⟨⟨x0,x1⟩,Z⟩
theorem J4 {n:Nat} {v:Value} (h:Gd enc prog W n 38 [v]):∃ xs:List Fm,Ls (old W) v xs:=by
 exact yF h underlying38 cl111 Zz (by decide) λm us _ hg=>J3 hg
theorem J5 {n:Nat} {us:List Value} (h:Gd enc prog W n 143 us):∃ x:Pn,Enc.rep (old W) us x:=by
 obtain ⟨m,rfl,hl,hf⟩:=h.struct underlying143
 obtain ⟨e0,e1,rfl⟩:=lst2<|by rw [hl,cl143]
 have g0:Gd enc prog W m 9 [e0]:=hf 0 _ rfl
 have g1:Gd enc prog W m 9 [e1]:=hf 1 _ rfl
 obtain ⟨x0,hx0⟩:=kZ g0 underlying9
 cases hx0
 obtain ⟨x1,hx1⟩:=kZ g1 underlying9
 cases hx1
 exact ⟨⟨x0,x1⟩,Z⟩
theorem J6 {n:Nat} {v:Value} (h:Gd enc prog W n 86 [v]):∃ xs:List Pn,Ls (old W) v xs:=by
 exact yF h underlying86 cl143 Zz (by decide) λm us _ hg=>J5 hg
theorem MZ {n:Nat} {us:List Value} (h:Gd enc prog W n 88 us):∃ x:Pt,Enc.rep (old W) us x:=by
 obtain ⟨m,rfl,hl,hf⟩:=h.struct underlying88
 obtain ⟨e0,e1,e2,e3,e4,e5,rfl⟩:=lst6<|by rw [hl,cl88]
 have g0:Gd enc prog W m 9 [e0]:=hf 0 _ rfl
 have g1:Gd enc prog W m 71 [e1]:=hf 1 _ rfl
 have g2:Gd enc prog W m 86 [e2]:=hf 2 _ rfl
 have g3:Gd enc prog W m 40 [e3]:=hf 3 _ rfl
 have g4:Gd enc prog W m 40 [e4]:=hf 4 _ rfl
 have g5:Gd enc prog W m 40 [e5]:=hf 5 _ rfl
 obtain ⟨x0,hx0⟩:=kZ g0 underlying9
 cases hx0
 obtain ⟨x1,hx1⟩:=JX g1
 obtain ⟨x2,hx2⟩:=J6 g2
 obtain ⟨x3,hx3⟩:=mO g3
 obtain ⟨x4,hx4⟩:=mO g4
 obtain ⟨x5,hx5⟩:=mO g5
 exact ⟨⟨x0,x1,x2,x3,x4,x5⟩,_,_,_,_,_,Z,hx1,hx2,hx3,hx4,hx5⟩
theorem J7 {n:Nat} {v:Value} (h:Gd enc prog W n 39 [v]):∃ xs:List Pt,Ls (old W) v xs:=by
 exact yF h underlying39 cl88 Zz (by decide) λm us _ hg=>MZ hg
theorem J8 {n:Nat} {us:List Value} (h:Gd enc prog W n 130 us):∃ x:Fe,Enc.rep (old W) us x:=by
 obtain ⟨m,rfl,hl,hf⟩:=h.struct underlying130
 obtain ⟨e0,e1,e2,e3,e4,e5,e6,e7,e8,e9,e10,e11,e12,e13,e14,rfl⟩:=lst15<|by rw [hl,cl130]
 have g0:Gd enc prog W m 3 [e0]:=hf 0 _ rfl
 have g1:Gd enc prog W m 9 [e1]:=hf 1 _ rfl
 have g2:Gd enc prog W m 40 [e2]:=hf 2 _ rfl
 have g3:Gd enc prog W m 70 [e3]:=hf 3 _ rfl
 have g4:Gd enc prog W m 73 [e4,e5,e6,e7,e8]:=hf 4 _ rfl
 have g5:Gd enc prog W m 70 [e9]:=hf 5 _ rfl
 have g6:Gd enc prog W m 42 [e10]:=hf 6 _ rfl
 have g7:Gd enc prog W m 42 [e11]:=hf 7 _ rfl
 have g8:Gd enc prog W m 128 [e12]:=hf 8 _ rfl
 have g9:Gd enc prog W m 128 [e13]:=hf 9 _ rfl
 have g10:Gd enc prog W m 4 [e14]:=hf 10 _ rfl
 obtain ⟨x0,hx0⟩:=FI g0 underlying3
 cases hx0
 obtain ⟨x1,hx1⟩:=kZ g1 underlying9
 cases hx1
 obtain ⟨x2,hx2⟩:=mO g2
 obtain ⟨x3,hx3⟩:=Bt g3
 obtain ⟨x4,hx4⟩:=Eg g4
 obtain ⟨x5,hx5⟩:=Bt g5
 obtain ⟨x6,hx6⟩:=uT g6
 obtain ⟨x7,hx7⟩:=uT g7
 have hx8:=Ef g8 underlying128 (by rw [cl404]; decide)
 have hx9:=Ef g9 underlying128 (by rw [cl404]; decide)
 obtain ⟨x10,hx10⟩:=zz g10 underlying4
 cases hx10
 exact ⟨⟨x0,x1,x2,x3,x4,x6,x7⟩,_,_,_,_,_,_,_,_,_,Z,hx2,hx3,hx4,hx6,hx7,by simp only [List.all_cons,List.all_nil,hx5.one,hx8,hx9,Bool.and_true,Bool.true_and]; rfl⟩
theorem J9 {n:Nat} {v:Value} (h:Gd enc prog W n 41 [v]):∃ xs:List Fe,Ls (old W) v xs:=by
 exact yF h underlying41 cl130 Zz (by decide) λm us _ hg=>J8 hg
theorem M0 {n:Nat} {us:List Value} (h:Gd enc prog W n 44 us):∃ x:FC,Enc.rep (old W) us x/\Crt (old W) us:=by
 obtain ⟨m,rfl,hl,hf⟩:=h.struct underlying44
 obtain ⟨e0,e1,e2,e3,e4,e5,e6,rfl⟩:=lst7<|by rw [hl,cl44]
 have g0:Gd enc prog W m 9 [e0]:=hf 0 _ rfl
 have g1:Gd enc prog W m 4 [e1]:=hf 1 _ rfl
 have g2:Gd enc prog W m 38 [e2]:=hf 2 _ rfl
 have g3:Gd enc prog W m 39 [e3]:=hf 3 _ rfl
 have g4:Gd enc prog W m 40 [e4]:=hf 4 _ rfl
 have g5:Gd enc prog W m 41 [e5]:=hf 5 _ rfl
 have g6:Gd enc prog W m 42 [e6]:=hf 6 _ rfl
 obtain ⟨x0,hx0⟩:=kZ g0 underlying9
 cases hx0
 obtain ⟨x1,hx1⟩:=zz g1 underlying4
 cases hx1
 obtain ⟨x2,hx2⟩:=J4 g2
 obtain ⟨x3,hx3⟩:=J7 g3
 obtain ⟨x4,hx4⟩:=mO g4
 obtain ⟨x5,hx5⟩:=J9 g5
 obtain ⟨x6,hx6⟩:=uT g6
 exact ⟨⟨x0,x1,x2,x3,x5,x6⟩,⟨_,_,_,_,_,Z,hx2,hx3,hx4.one,hx5,hx6⟩,_,x4,Z,hx4⟩
theorem M3 {n:Nat} {v:Value} (h:Gd enc prog W n 22 [v]):∃ l:FS,Ls (old W) v l/\Cre (old W) v l:=by
 obtain ⟨l,hr,hb⟩:=FH (X:=λus (c:FC)=>Enc.rep (old W) us c/\Crt (old W) us) h underlying22 (by rw [cl44]; decide) λm us hm hg=>M0 hg
 rw [cl44] at hr
 rw [show prog.bytesOf 44=144 by kernel_rfl] at hb
 refine ⟨l,⟨Row.mono hr (λ_ _ h=>h) λ_ _ _ g=>g.1,hb⟩,λi c hc=>?_⟩
 obtain ⟨b,o,cap,us,h1,h2,h3,h4⟩:=Row.at hr hc
 exact ⟨b,o,cap,us,h1,h3,h4.1,h4.2⟩
def partF:List TypeId:=[3,4,9,22,24,26,32,38,39,40,41,42,44,52,53,55,67,69,70,71,73,75,86,88,111,128,130,132,143,170,214,216,218,404]
theorem gd_of {v:Value} {t:TypeId} {d:DataW H} {ps:List MemPlace} {us:List Value} (h:DataW.Trod enc prog W 0 (λ_=>true) true t v d ps) (hc:v.cells.toList=us) (hz:∀ n∈d.weights prog t,n<=reachBytes):∃ n,Gd enc prog W n t us:=by
 obtain ⟨fuel,h⟩:=h
 exact ⟨fuel,(d,ps),by rw [<- hc]; exact h,hz⟩
end
end Go.Fl
