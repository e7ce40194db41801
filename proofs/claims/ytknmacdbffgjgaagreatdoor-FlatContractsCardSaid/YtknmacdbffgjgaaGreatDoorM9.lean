/-
  Package flat: each,copies; slices.Clone. Conditions: what is read.
-/
import Derived.Test.YtknmacdbffgjgaaGreatDoorM8
import Derived.Test.YtknmacdbffgjgaaGreatDoorM6
set_option linter.unusedVariables false
set_option linter.unusedSimpArgs false
set_option maxRecDepth 100000
set_option maxHeartbeats 16000000
namespace Go.Fl
open Go Go.RowKit Go.Ck Go.Proofs Go.Proofs.Tryz Go.Proofs.YtknmacdbffgjgaaGreatDoor Fx Go.Hr
attribute [local irreducible] Go.Ck.Sub St Cd Xt Nx DrL LsW
theorem pM {α : Type} (g : α -> Bool) (xs:List α):decide ((0:Int)≤ixI (xs.findIdx? g))=xs.any g:=by
 cases h:xs.findIdx? g with
 | none =>
  have:=List.findIdx?_eq_none_iff.1 h
  rw [show ixI none = -1 from rfl,show decide ((0:Int) ≤ -1)=false from rfl]
  symm
  rw [List.any_eq_false]
  intro x hx
  rw [this x hx]; decide
 | some i =>
  obtain ⟨h1,h2,_⟩:=List.findIdx?_eq_some_iff_getElem.1 h
  rw [show ixI (some i)=(i:Int) from rfl,decide_eq_true (Int.natCast_nonneg i)]
  symm
  rw [List.any_eq_true]
  exact ⟨xs[i],List.getElem_mem h1,h2⟩
theorem vS {α : Type} {g : α -> Bool} {xs:List α}:(xs.findIdx? g=none/\xs.find? g=none)∨∃ i x,xs.findIdx? g=some i/\xs[i]? = some x/\xs.find? g=some x/\i<xs.length:=by
 cases h:xs.findIdx? g with
 | none =>
  left
  refine ⟨Z,?_⟩
  rw [List.find?_eq_none]
  intro x hx
  rw [List.findIdx?_eq_none_iff.1 h x hx]; decide
 | some i =>
  right
  obtain ⟨h1,h2,h3⟩:=List.findIdx?_eq_some_iff_getElem.1 h
  exact ⟨i,xs[i],Z,Zy h1,List.find?_eq_some_iff_getElem.2 ⟨h2,i,h1,Z,λj hj=>by simpa using h3 j hj⟩,h1⟩
section
variable {X:Res} {v:Value}
theorem F7 {xs:List Sd} {kf:FuncId} {cp:Array Value} {g:Sd->Bool} (hv:Ls X v xs) (hE:Ck.Enters prog kf) (hf:∀ a∈xs,∀ us,Enc.rep X us a->Reads prog kf (#[]++([.agg us.toArray]:List Value).toArray++cp) [X] (.bool (g a))):Reads prog 31 #[v,.func (.func kf) #[] cp] [X] (.bool (xs.any g)):=by
 rw [<- pM]
 obtain ⟨a,cap,rfl,hlc,hcm,_⟩:=id hv.form
 refine aL (n:=9) func31 Z Z (len Z) λhr w0=>?_
 refine cQ<|sA Z<|sN<|nT<|cQ<|sM Z<|sM Z<|aY Z Z en100 Z (Le hv hE hf) ?_
 refine sV (nE Z Z)<|sA Z<|sK [4] Z<|cT ?_
 exact aj Z ⟨Z,Z⟩ sbq
theorem AU {xs:List Grp} {kf:FuncId} {cp:Array Value} {g:Grp->Bool} (hv:Ls X v xs) (hE:Ck.Enters prog kf) (hf:∀ a∈xs,∀ us,Enc.rep X us a->Reads prog kf (#[]++([.agg us.toArray]:List Value).toArray++cp) [X] (.bool (g a))):Reads prog 93 #[v,.func (.func kf) #[] cp] [X] (.bool (xs.any g)):=by
 rw [<- pM]
 obtain ⟨a,cap,rfl,hlc,hcm,_⟩:=id hv.form
 refine aL (n:=9) func93 Z Z (len Z) λhr w0=>?_
 refine cQ<|sA Z<|sN<|nT<|cQ<|sM Z<|sM Z<|aY Z Z en167 Z (Lf hv hE hf) ?_
 refine sV (nE Z Z)<|sA Z<|sK [4] Z<|cT ?_
 exact aj Z ⟨Z,Z⟩ sbq
theorem Lh {xs:List Mb} {kf:FuncId} {cp:Array Value} {g:Mb->Bool} (hv:Ls X v xs) (hE:Ck.Enters prog kf) (hf:∀ a∈xs,∀ us,Enc.rep X us a->Reads prog kf (#[]++([.agg us.toArray]:List Value).toArray++cp) [X] (.bool (g a))):Reads prog 132 #[v,.func (.func kf) #[] cp] [X] (.bool (xs.any g)):=by
 rw [<- pM]
 obtain ⟨a,cap,rfl,hlc,hcm,_⟩:=id hv.form
 refine aL (n:=9) func132 Z Z (len Z) λhr w0=>?_
 refine cQ<|sA Z<|sN<|nT<|cQ<|sM Z<|sM Z<|aY Z Z en222 Z (xx hv hE hf) ?_
 refine sV (nE Z Z)<|sA Z<|sK [4] Z<|cT ?_
 exact aj Z ⟨Z,Z⟩ sbq
theorem Li {xs:List Vr} {kf:FuncId} {cp:Array Value} {g:Vr->Bool} (hv:Ls X v xs) (hE:Ck.Enters prog kf) (hf:∀ a∈xs,∀ us,Enc.rep X us a->Reads prog kf (#[]++([.agg us.toArray]:List Value).toArray++cp) [X] (.bool (g a))):Reads prog 135 #[v,.func (.func kf) #[] cp] [X] (.bool (xs.any g)):=by
 rw [<- pM]
 obtain ⟨a,cap,rfl,hlc,hcm,_⟩:=id hv.form
 refine aL (n:=9) func135 Z Z (len Z) λhr w0=>?_
 refine cQ<|sA Z<|sN<|nT<|cQ<|sM Z<|sM Z<|aY Z Z en223 Z (Lg hv hE hf) ?_
 refine sV (nE Z Z)<|sA Z<|sK [4] Z<|cT ?_
 exact aj Z ⟨Z,Z⟩ sbq
theorem NE {us:List Value} {c:FC} (h:Enc.rep X us c):Reads prog 118 #[.agg us.toArray] [] (sv c.name):=by
 obtain ⟨a,b,e,f,i,rfl,_⟩:=h
 refine aL (n:=5) func118 Z Z (len Z) λhr w0=>?_
 refine cQ (aP Z Z λb1=>?_)
 refine sA Z<|sK [1,2] Z<|cQ<|sV (vF Z dN Z)<|sV (vY Z ld9) ?_
 refine sA Z<|sK [2] Z<|cT ?_
 exact aj Z ⟨Z,Z⟩ sbq
theorem NF {us:List Value} {c:Fe} (h:Enc.rep X us c):Reads prog 112 #[.agg us.toArray] [] (sv c.name):=by
 obtain ⟨x2,x3,ts,x9,x10,x11,x12,x13,x14,rfl,_,_,h3,_⟩:=h
 obtain ⟨y,rfl,_⟩:=eF h3
 unfold feC tyC
 refine aL (n:=5) func112 Z Z (len Z) λhr w0=>?_
 refine cQ (aP Z Z λb1=>?_)
 refine sA Z<|sK [1,2] Z<|cQ<|sV (vF Z oU Z)<|sV (vY Z ld9) ?_
 refine sA Z<|sK [2] Z<|cT ?_
 exact aj Z ⟨Z,Z⟩ sbq
theorem NG {us:List Value} {c:Fm} (h:Enc.rep X us c):Reads prog 144 #[.agg us.toArray] [] (sv c.name):=by
 have h:us=[sv c.name,sv c.bound]:=h
 subst h
 refine aL (n:=5) func144 Z Z (len Z) λhr w0=>?_
 refine cQ (aP Z Z λb1=>?_)
 refine sA Z<|sK [1,2] Z<|cQ<|sV (vF Z JP Z)<|sV (vY Z ld9) ?_
 refine sA Z<|sK [2] Z<|cT ?_
 exact aj Z ⟨Z,Z⟩ sbq
theorem F8 {us:List Value} {c:Pn} (h:Enc.rep X us c):Reads prog 149 #[.agg us.toArray] [] (sv c.fro):=by
 have h:us=[sv c.fro,sv c.to]:=h
 subst h
 refine aL (n:=5) func149 Z Z (len Z) λhr w0=>?_
 refine cQ (aP Z Z λb1=>?_)
 refine sA Z<|sK [1,2] Z<|cQ<|sV (vF Z zk Z)<|sV (vY Z ld9) ?_
 refine sA Z<|sK [2] Z<|cT ?_
 exact aj Z ⟨Z,Z⟩ sbq
theorem NH {us:List Value} {c:Mb} (h:Enc.rep X us c):Reads prog 170 #[.agg us.toArray] [] (sv c.name):=by
 obtain ⟨x2,x5,ts,x11,x12,x13,rfl,_,_,h3,_⟩:=h
 obtain ⟨y,rfl,_⟩:=eF h3
 unfold mbC tyC
 refine aL (n:=5) func170 Z Z (len Z) λhr w0=>?_
 refine cQ (aP Z Z λb1=>?_)
 refine sA Z<|sK [1,2] Z<|cQ<|sV (vF Z eB Z)<|sV (vY Z ld9) ?_
 refine sA Z<|sK [2] Z<|cT ?_
 exact aj Z ⟨Z,Z⟩ sbq
def fe0:Fe:=⟨0,[],[],[],.mk 0 [] [] false false,[],[]⟩
def pn0:Pn:=⟨[],[]⟩
theorem Ir {us:List Value} {c:FC} {b4 b5:Nat} {n:Nm} (h:Enc.rep X us c):Reads prog 190 #[.agg us.toArray,.pointer (some ⟨b5,0,none⟩),.pointer (some ⟨b4,0,none⟩)] [pt b5 (cl [.func (.func 118) #[] #[]] 197),pt b4 (cl [sv n] 9)] (.bool (c.name == n)):=by
 have hn:=NE h
 obtain ⟨a,b,e,f,i,rfl,_⟩:=id h
 refine aL (n:=10) func190 Z Z (len Z) λhr w0=>?_
 refine cQ (aP Z Z λb3=>?_)
 refine sA Z<|sK [1,2,3,4] Z<|cS<|bB (ork [(0,1),(1,1),(2,1),(3,1),(4,1),(5,2)] .nil) (λ_=>true) mixed Zz ?_
 refine bu Z (vY Z ld197) ?_
 refine bu Z (af Z gG Z ah) ?_
 refine jG Z Z Z en118 Z (hn) ?_
 refine bu Z (vY Z ld9) ?_
 refine bu Z (iE Z Z)<|dV Z (vA Z)<|bA<|nK [4] Z<|nT<|cT ?_
 exact aj Z ⟨Z,Z⟩ sbq
theorem Iu {us:List Value} {c:Fe} {b4 b5:Nat} {n:Nm} (h:Enc.rep X us c):Reads prog 183 #[.agg us.toArray,.pointer (some ⟨b5,0,none⟩),.pointer (some ⟨b4,0,none⟩)] [pt b5 (cl [.func (.func 112) #[] #[]] 186),pt b4 (cl [sv n] 9)] (.bool (c.name == n)):=by
 have hn:=NF h
 obtain ⟨x2,x3,ts,x9,x10,x11,x12,x13,x14,rfl,_,_,h3,_⟩:=id h
 obtain ⟨y,rfl,_⟩:=eF h3
 unfold feC tyC
 refine aL (n:=10) func183 Z Z (len Z) λhr w0=>?_
 refine cQ (aP Z Z λb3=>?_)
 refine sA Z<|sK [1,2,3,4] Z<|cS<|bB (ork [(0,1),(1,1),(2,1),(3,1),(4,1),(5,2)] .nil) (λ_=>true) mixed Zz ?_
 refine bu Z (vY Z ld186) ?_
 refine bu Z (af Z nR Z ah) ?_
 refine jG Z Z Z en112 Z (hn) ?_
 refine bu Z (vY Z ld9) ?_
 refine bu Z (iE Z Z)<|dV Z (vA Z)<|bA<|nK [4] Z<|nT<|cT ?_
 exact aj Z ⟨Z,Z⟩ sbq
theorem Iw {us:List Value} {c:Mb} {b4 b5:Nat} {n:Nm} (h:Enc.rep X us c):Reads prog 236 #[.agg us.toArray,.pointer (some ⟨b5,0,none⟩),.pointer (some ⟨b4,0,none⟩)] [pt b5 (cl [.func (.func 170) #[] #[]] 249),pt b4 (cl [sv n] 9)] (.bool (c.name == n)):=by
 have hn:=NH h
 obtain ⟨x2,x5,ts,x11,x12,x13,rfl,_,_,h3,_⟩:=id h
 obtain ⟨y,rfl,_⟩:=eF h3
 unfold mbC tyC
 refine aL (n:=10) func236 Z Z (len Z) λhr w0=>?_
 refine cQ (aP Z Z λb3=>?_)
 refine sA Z<|sK [1,2,3,4] Z<|cS<|bB (ork [(0,1),(1,1),(2,1),(3,1),(4,1),(5,2)] .nil) (λ_=>true) mixed Zz ?_
 refine bu Z (vY Z ld249) ?_
 refine bu Z (af Z eU Z ah) ?_
 refine jG Z Z Z en170 Z (hn) ?_
 refine bu Z (vY Z ld9) ?_
 refine bu Z (iE Z Z)<|dV Z (vA Z)<|bA<|nK [4] Z<|nT<|cT ?_
 exact aj Z ⟨Z,Z⟩ sbq
theorem Iy {us:List Value} {c:Pn} {b4 b5:Nat} {n:Nm} (h:Enc.rep X us c):Reads prog 278 #[.agg us.toArray,.pointer (some ⟨b5,0,none⟩),.pointer (some ⟨b4,0,none⟩)] [pt b5 (cl [.func (.func 149) #[] #[]] 229),pt b4 (cl [sv n] 9)] (.bool (c.fro == n)):=by
 have hn:=F8 h
 have h:us=[sv c.fro,sv c.to]:=id h
 subst h
 refine aL (n:=10) func278 Z Z (len Z) λhr w0=>?_
 refine cQ (aP Z Z λb3=>?_)
 refine sA Z<|sK [1,2,3,4] Z<|cS<|bB (ork [(0,1),(1,1),(2,1),(3,1),(4,1),(5,2)] .nil) (λ_=>true) mixed Zz ?_
 refine bu Z (vY Z ld229) ?_
 refine bu Z (af Z qL Z ah) ?_
 refine jG Z Z Z en149 Z (hn) ?_
 refine bu Z (vY Z ld9) ?_
 refine bu Z (iE Z Z)<|dV Z (vA Z)<|bA<|nK [4] Z<|nT<|cT ?_
 exact aj Z ⟨Z,Z⟩ sbq
theorem uh {xs:List FC} {n:Nm} (hv:Ls X v xs):Ct prog 117 #[v,sv n,.func (.func 118) #[] #[]] [X] λu h'=>h'=[X]/\∃ us,u = .tuple #[.agg us.toArray,.bool (xs.find? λc=>c.name == n).isSome]/\Enc.rep X us ((xs.find? λc=>c.name == n).getD BF):=by
 obtain ⟨a,cap,hvf,hlc,hcm,_⟩:=id hv.form
 have hf:∀ b4 b5:Nat,∀ c∈xs,∀ us,Enc.rep (Res.star [pt b5 (cl [.func (.func 118) #[] #[]] 197),pt b4 (cl [sv n] 9),X]) us c->Reads prog 190 (#[]++([.agg us.toArray]:List Value).toArray ++ #[.pointer (some ⟨b5,0,none⟩),.pointer (some ⟨b4,0,none⟩)]) [Res.star [pt b5 (cl [.func (.func 118) #[] #[]] 197),pt b4 (cl [sv n] 9),X]] (.bool (c.name == n)):=λb4 b5 c _ us h =>
  lg (Reads.more (Ir (b4:=b4) (b5:=b5) (n:=n) h)<|.cons .here<|.cons .here .nil)
 subst hvf
 refine aL (n:=20) func117 Z Z (len Z) λhr w0=>?_
 refine cQ (aP Z Z λb4=>?_)
 refine aP Z Z λb5=>?_
 refine au nS λb6=>?_
 refine sA Z<|sK [0,4,5,6,7] Z<|cQ<|sM Z<|sV (bQ Z Z)<|aY Z Z en150 Z ((dF<|Lb (X:=Res.star [pt b5 (cl [.func (.func 118) #[] #[]] 197),pt b4 (cl [sv n] 9),X]) (hv.up'<|bE<|.there<|.there .here) en190<|hf b4 b5)) ?_
 refine sA Z<|sK [0,6,7,8] Z<|cS<|cQ<|sM Z<|sV (aN Z Z)<|sK [0,6,7,8,14] Z ?_
 rcases vS (g:=λc:FC=>c.name == n) (xs:=xs) with ⟨h1,h2⟩ | ⟨i,x,h1,h2,h3,hlt⟩
 ·rw [h1,h2]
  refine aQ Z ?_
  refine cQ (au nS λb9=>?_)
  refine sK [0,6,7,8,9] Z<|cQ<|sV (af Z gG Z ah) ?_
  refine ai Z Z lY Z Z ?_
  refine sA Z<|sK [6,7] Z<|cT<|xR ?_
  exact bD (.cellN Z gG Z slq<|.tmp Z .nil) ⟨Z,_,Z,⟨_,_,_,_,_,Z,Ls.nil,Ls.nil,Z,Ls.nil,Ls.nil⟩⟩ sbr
 ·rw [h1,h3]
  obtain ⟨b,o,cap2,us,e1,hus,hrd,hre⟩:=hv.at h2
  cases e1
  have hone:=Enc.ones hre
  refine aG Z ?_
  refine cK<|xT<|cQ<|sM Z<|sM Z<|sV (vI (k:=i) Z Z ve Z hlt Z)<|sV (af Z gG hus hrd) ?_
  refine ai (hl:=by rw [hus]; rfl) Z Z lY hus hone ?_
  refine sA Z<|sK [6,7] Z<|cT ?_
  exact bD (.cellN Z gG hus slq<|.tmp Z .nil) ⟨Z,us,Z,hre⟩ sbr
theorem iT {xs:List Fe} {n:Nm} (hv:Ls X v xs):Ct prog 111 #[v,sv n,.func (.func 112) #[] #[]] [X] λu h'=>h'=[X]/\∃ us,u = .tuple #[.agg us.toArray,.bool (xs.find? λc=>c.name == n).isSome]/\Enc.rep X us ((xs.find? λc=>c.name == n).getD fe0):=by
 obtain ⟨a,cap,hvf,hlc,hcm,_⟩:=id hv.form
 have hf:∀ b4 b5:Nat,∀ c∈xs,∀ us,Enc.rep (Res.star [pt b5 (cl [.func (.func 112) #[] #[]] 186),pt b4 (cl [sv n] 9),X]) us c->Reads prog 183 (#[]++([.agg us.toArray]:List Value).toArray ++ #[.pointer (some ⟨b5,0,none⟩),.pointer (some ⟨b4,0,none⟩)]) [Res.star [pt b5 (cl [.func (.func 112) #[] #[]] 186),pt b4 (cl [sv n] 9),X]] (.bool (c.name == n)):=λb4 b5 c _ us h =>
  lg (Reads.more (Iu (b4:=b4) (b5:=b5) (n:=n) h)<|.cons .here<|.cons .here .nil)
 subst hvf
 refine aL (n:=20) func111 Z Z (len Z) λhr w0=>?_
 refine cQ (aP Z Z λb4=>?_)
 refine aP Z Z λb5=>?_
 refine au lH λb6=>?_
 refine sA Z<|sK [0,4,5,6,7] Z<|cQ<|sM Z<|sV (bQ Z Z)<|aY Z Z en151 Z ((dF<|Lc (X:=Res.star [pt b5 (cl [.func (.func 112) #[] #[]] 186),pt b4 (cl [sv n] 9),X]) (hv.up'<|bE<|.there<|.there .here) en183<|hf b4 b5)) ?_
 refine sA Z<|sK [0,6,7,8] Z<|cS<|cQ<|sM Z<|sV (aN Z Z)<|sK [0,6,7,8,14] Z ?_
 rcases vS (g:=λc:Fe=>c.name == n) (xs:=xs) with ⟨h1,h2⟩ | ⟨i,x,h1,h2,h3,hlt⟩
 ·rw [h1,h2]
  refine aQ Z ?_
  refine cQ (au lH λb9=>?_)
  refine sK [0,6,7,8,9] Z<|cQ<|sV (af Z nR Z ah) ?_
  refine ai Z Z jQ Z Z ?_
  refine sA Z<|sK [6,7] Z<|cT<|xR ?_
  exact bD (.cellN Z nR Z slq<|.tmp Z .nil) ⟨Z,_,Z,⟨_,_,_,_,_,_,_,_,_,Z,Ls.nil,Ls.nil,gN Z Ls.nil,Ls.nil,Ls.nil,Z⟩⟩ sbr
 ·rw [h1,h3]
  obtain ⟨b,o,cap2,us,e1,hus,hrd,hre⟩:=hv.at h2
  cases e1
  have hone:=Enc.ones hre
  refine aG Z ?_
  refine cK<|xT<|cQ<|sM Z<|sM Z<|sV (vI (k:=i) Z Z sl41 Z hlt Z)<|sV (af Z nR hus hrd) ?_
  refine ai (hl:=by rw [hus]; rfl) Z Z jQ hus hone ?_
  refine sA Z<|sK [6,7] Z<|cT ?_
  exact bD (.cellN Z nR hus slq<|.tmp Z .nil) ⟨Z,us,Z,hre⟩ sbr
theorem ui {xs:List Mb} {n:Nm} (hv:Ls X v xs):Ct prog 169 #[v,sv n,.func (.func 170) #[] #[]] [X] λu h'=>h'=[X]/\∃ us,u = .tuple #[.agg us.toArray,.bool (xs.find? λc=>c.name == n).isSome]/\Enc.rep X us ((xs.find? λc=>c.name == n).getD mb0):=by
 obtain ⟨a,cap,hvf,hlc,hcm,_⟩:=id hv.form
 have hf:∀ b4 b5:Nat,∀ c∈xs,∀ us,Enc.rep (Res.star [pt b5 (cl [.func (.func 170) #[] #[]] 249),pt b4 (cl [sv n] 9),X]) us c->Reads prog 236 (#[]++([.agg us.toArray]:List Value).toArray ++ #[.pointer (some ⟨b5,0,none⟩),.pointer (some ⟨b4,0,none⟩)]) [Res.star [pt b5 (cl [.func (.func 170) #[] #[]] 249),pt b4 (cl [sv n] 9),X]] (.bool (c.name == n)):=λb4 b5 c _ us h =>
  lg (Reads.more (Iw (b4:=b4) (b5:=b5) (n:=n) h)<|.cons .here<|.cons .here .nil)
 subst hvf
 refine aL (n:=20) func169 Z Z (len Z) λhr w0=>?_
 refine cQ (aP Z Z λb4=>?_)
 refine aP Z Z λb5=>?_
 refine au ji λb6=>?_
 refine sA Z<|sK [0,4,5,6,7] Z<|cQ<|sM Z<|sV (bQ Z Z)<|aY Z Z en222 Z ((dF<|xx (X:=Res.star [pt b5 (cl [.func (.func 170) #[] #[]] 249),pt b4 (cl [sv n] 9),X]) (hv.up'<|bE<|.there<|.there .here) en236<|hf b4 b5)) ?_
 refine sA Z<|sK [0,6,7,8] Z<|cS<|cQ<|sM Z<|sV (aN Z Z)<|sK [0,6,7,8,14] Z ?_
 rcases vS (g:=λc:Mb=>c.name == n) (xs:=xs) with ⟨h1,h2⟩ | ⟨i,x,h1,h2,h3,hlt⟩
 ·rw [h1,h2]
  refine aQ Z ?_
  refine cQ (au ji λb9=>?_)
  refine sK [0,6,7,8,9] Z<|cQ<|sV (af Z eU Z ah) ?_
  refine ai Z Z gP Z Z ?_
  refine sA Z<|sK [6,7] Z<|cT<|xR ?_
  exact bD (.cellN Z eU Z slq<|.tmp Z .nil) ⟨Z,_,Z,⟨_,_,_,_,_,_,Z,Ls.nil,Ls.nil,gN Z Ls.nil,Ls.nil,Ls.nil,Ls.nil⟩⟩ sbr
 ·rw [h1,h3]
  obtain ⟨b,o,cap2,us,e1,hus,hrd,hre⟩:=hv.at h2
  cases e1
  have hone:=Enc.ones hre
  refine aG Z ?_
  refine cK<|xT<|cQ<|sM Z<|sM Z<|sV (vI (k:=i) Z Z oM Z hlt Z)<|sV (af Z eU hus hrd) ?_
  refine ai (hl:=by rw [hus]; rfl) Z Z gP hus hone ?_
  refine sA Z<|sK [6,7] Z<|cT ?_
  exact bD (.cellN Z eU hus slq<|.tmp Z .nil) ⟨Z,us,Z,hre⟩ sbr
theorem Iz {xs:List Pn} {n:Nm} (hv:Ls X v xs):Ct prog 241 #[v,sv n,.func (.func 149) #[] #[]] [X] λu h'=>h'=[X]/\∃ us,u = .tuple #[.agg us.toArray,.bool (xs.find? λc=>c.fro == n).isSome]/\Enc.rep X us ((xs.find? λc=>c.fro == n).getD pn0):=by
 obtain ⟨a,cap,hvf,hlc,hcm,_⟩:=id hv.form
 have hf:∀ b4 b5:Nat,∀ c∈xs,∀ us,Enc.rep (Res.star [pt b5 (cl [.func (.func 149) #[] #[]] 229),pt b4 (cl [sv n] 9),X]) us c->Reads prog 278 (#[]++([.agg us.toArray]:List Value).toArray ++ #[.pointer (some ⟨b5,0,none⟩),.pointer (some ⟨b4,0,none⟩)]) [Res.star [pt b5 (cl [.func (.func 149) #[] #[]] 229),pt b4 (cl [sv n] 9),X]] (.bool (c.fro == n)):=λb4 b5 c _ us h =>
  lg (Reads.more (Iy (b4:=b4) (b5:=b5) (n:=n) h)<|.cons .here<|.cons .here .nil)
 subst hvf
 refine aL (n:=20) func241 Z Z (len Z) λhr w0=>?_
 refine cQ (aP Z Z λb4=>?_)
 refine aP Z Z λb5=>?_
 refine au Fj λb6=>?_
 refine sA Z<|sK [0,4,5,6,7] Z<|cQ<|sM Z<|sV (bQ Z Z)<|aY Z Z en153 Z ((dF<|La (X:=Res.star [pt b5 (cl [.func (.func 149) #[] #[]] 229),pt b4 (cl [sv n] 9),X]) (hv.up'<|bE<|.there<|.there .here) en278<|hf b4 b5)) ?_
 refine sA Z<|sK [0,6,7,8] Z<|cS<|cQ<|sM Z<|sV (aN Z Z)<|sK [0,6,7,8,14] Z ?_
 rcases vS (g:=λc:Pn=>c.fro == n) (xs:=xs) with ⟨h1,h2⟩ | ⟨i,x,h1,h2,h3,hlt⟩
 ·rw [h1,h2]
  refine aQ Z ?_
  refine cQ (au Fj λb9=>?_)
  refine sK [0,6,7,8,9] Z<|cQ<|sV (af Z qL Z ah) ?_
  refine ai Z Z Ac Z Z ?_
  refine sA Z<|sK [6,7] Z<|cT<|xR ?_
  exact bD (.cellN Z qL Z slq<|.tmp Z .nil) ⟨Z,_,Z,Z⟩ sbr
 ·rw [h1,h3]
  obtain ⟨b,o,cap2,us,e1,hus,hrd,hre⟩:=hv.at h2
  cases e1
  have hone:=Enc.ones hre
  refine aG Z ?_
  refine cK<|xT<|cQ<|sM Z<|sM Z<|sV (vI (k:=i) Z Z sl86 Z hlt Z)<|sV (af Z qL hus hrd) ?_
  refine ai (hl:=by rw [hus]; rfl) Z Z Ac hus hone ?_
  refine sA Z<|sK [6,7] Z<|cT ?_
  exact bD (.cellN Z qL hus slq<|.tmp Z .nil) ⟨Z,us,Z,hre⟩ sbr
end
theorem AV:EqS prog 69 2:=EqS.of underlying69 Zz Zz Zz rfl
section
variable {X:Res} {v v':Value}
theorem vT {α : Type} {az bz:List α} {i:Nat} {a b : α} (h1:az[i]? = some a) (h2:bz[i]? = some b) (h:a≠b):az≠bz:=λe=>by
 rw [e,h2] at h1; exact h (Option.some.inj h1).symm
theorem vU {α : Type} {az bz:List α} {i:Nat} (h:az.take i=bz.take i) {a b : α} (h1:az[i]? = some a) (h2:bz[i]? = some b) (hs:a=b):az.take (i+1)=bz.take (i+1):=by
 subst hs
 obtain ⟨g1,rfl⟩:=List.getElem?_eq_some_iff.1 h1
 obtain ⟨g2,g3⟩:=List.getElem?_eq_some_iff.1 h2
 rw [List.take_succ_eq_append_getElem g1,List.take_succ_eq_append_getElem g2,h,g3]
theorem NI {x y:Sd} (h:(!([x.cls,x.name] == [y.cls,y.name]))=true):x≠y:=by
 rw [Kh] at h; intro e; subst e; simp at h
theorem NJ {x y:Sd} (h:(!([x.cls,x.name] == [y.cls,y.name]))=false):x=y:=by
 rw [Kh] at h; cases x; cases y; simp at h; simp [h]
theorem Lj {az bz:List Kt} {kf:FuncId} (hE:Ck.Enters prog kf) (hv:Ls X v az) (hv':Ls X v' bz) (hF:∀ (a b:Kt) us us',a∈az->Enc.rep X us a->Enc.rep X us' b->Reads prog kf #[.agg us.toArray,.agg us'.toArray] [X] (.bool (decide (a=b)))):Reads prog 296 #[v,v',.func (.func kf) #[] #[]] [X] (.bool (decide (az=bz))):=by
 have hml:maxLen=9223372036854775807:=rfl
 obtain ⟨a,cap,rfl,hlc,hcm,hnone⟩:=hv.form
 obtain ⟨a',cap',rfl,hlc',hcm',hnone'⟩:=hv'.form
 refine aL (n:=32) func296 Z Z (len Z) λhr w0=>?_
 refine cQ<|sA Z<|sN<|nT<|cS<|cQ<|sM Z<|sV (aF Z underlying71)<|sM Z<|sV (aF Z underlying71)<|sV (bP Z Z)<|sK [0,1,2,6,14] Z<|cC Z (λhl=>?_)<|λhl=>?_
 ·have hl:¬ az.length=bz.length:=by
   have:¬ (az.length:Int)=bz.length:=Zm
   omega
  rw [show decide (az=bz)=false from decide_eq_false λe=>hl (by rw [e])]
  refine cQ<|sA Z<|sK [6] Z<|cT<|xR ?_
  exact aj Z ⟨Z,Z⟩ sbq
 ·have hl:az.length=bz.length:=by
   have:(az.length:Int)=bz.length:=Zm
   omega
  refine cK<|xT<|cS<|cQ<|sM Z<|sV (aF Z underlying71)<|sM Z<|sK [1,2,6,15,16,17] Z<|cB<|aX (σ := Nat) (λi=>[(1,.slice a' bz.length cap'),(2,.func (.func kf) #[] #[]),(15,.slice a az.length cap),(16,.int .i64 az.length),(17,.int .i64 (i:Nat))]) (λ_=>X::hr) (λi=>i≤az.length/\az.take i=bz.take i) (λi=>az.length - i) 0 ⟨Nat.zero_le _,Z⟩ ?_
  rintro i ⟨hi,hal⟩
  refine cQ<|sV (aN Z Z)<|sN<|nT<|cS<|cC Z (λhd=>?_)<|λhd=>?_
  ·have hlt:i<az.length:=Zx
   have hlt':i<bz.length:=by omega
   have hg:=Zy hlt
   have hg':=Zy hlt'
   have hmem:=List.getElem_mem hlt
   obtain ⟨b,o,cap2,us,e1,hus,hrd,ht⟩:=hv.at hg
   cases e1
   obtain ⟨b',o',cap2',us',e1,hus',hrd',ht'⟩:=hv'.at hg'
   cases e1
   generalize az[i]=x at hg hmem ht
   generalize bz[i]=y at hg' ht'
   have hone:=Enc.ones ht
   have hone':=Enc.ones ht'
   refine cK<|xT<|cS<|cB<|cQ<|sM Z<|sV (vI (k:=i) Z Z yV Z hlt Z)<|sV (af Z fU hus hrd) ?_
   refine au Ak λb8=>?_
   refine sA Z<|ai (hl:=by rw [hus]; rfl) Z Z nL hus hone ?_
   refine sK [1,2,7,8,15,16,17] Z<|cQ<|sM Z<|sM Z<|sV (vI (k:=i) Z Z yV Z hlt' Z)<|sV (af Z fU hus' hrd') ?_
   refine au Ak λb9=>?_
   refine ai (hl:=by rw [hus']; rfl) Z Z nL hus' hone' ?_
   refine sK [1,2,8,9,15,16,17] Z<|cQ<|sM Z<|sV (af Z fU hus ah) ?_
   refine sV (af Z fU hus' ah) ?_
   refine aY Z Z hE Z ((hF x y us us' hmem ht ht')) ?_
   refine sV (bg Z)<|sK [1,2,15,16,17,30] Z<|cC Z (λhne=>?_)<|λhne=>?_
   ·have hne:x≠y:=Zv
    rw [show decide (az=bz)=false from decide_eq_false (vT hg hg' hne)]
    refine cQ<|sA Z<|sK [6] Z<|cT<|xW<|xR<|xR<|xW<|xR ?_
    exact aj Z ⟨Z,Z⟩ sbq
   ·have hne:x=y:=Zv
    refine cK<|xB<|xT<|cR<|sV (aI Z Z Za)<|sM Z<|sN<|nK [1,2,15,16,17] Z<|ax ?_
    refine aJ (i+1) ⟨hlt,vU hal hg hg' hne⟩<|Nat.sub_lt_sub_left hlt<|Nat.lt_succ_self i
  ·have hil:i=az.length:=by
    have:¬ i<az.length:=Zx
    omega
   rw [show decide (az=bz)=true from decide_eq_true (by
    have:=hal
    rw [hil,List.take_length,hl,List.take_length] at this
    exact this)]
   refine aB<|xE<|xE<|xY<|xT<|cQ<|sA Z<|sK [6] Z<|cT ?_
   exact aj Z ⟨Z,Z⟩ sbq
theorem CY {az bz:List Vr} {kf:FuncId} (hE:Ck.Enters prog kf) (hv:Ls X v az) (hv':Ls X v' bz) (hF:∀ (a b:Vr) us us',a∈az->Enc.rep X us a->Enc.rep X us' b->Reads prog kf #[.agg us.toArray,.agg us'.toArray] [X] (.bool (decide (a=b)))):Reads prog 215 #[v,v',.func (.func kf) #[] #[]] [X] (.bool (decide (az=bz))):=by
 have hml:maxLen=9223372036854775807:=rfl
 obtain ⟨a,cap,rfl,hlc,hcm,hnone⟩:=hv.form
 obtain ⟨a',cap',rfl,hlc',hcm',hnone'⟩:=hv'.form
 refine aL (n:=32) func215 Z Z (len Z) λhr w0=>?_
 refine cQ<|sA Z<|sN<|nT<|cS<|cQ<|sM Z<|sV (aF Z underlying70)<|sM Z<|sV (aF Z underlying70)<|sV (bP Z Z)<|sK [0,1,2,6,14] Z<|cC Z (λhl=>?_)<|λhl=>?_
 ·have hl:¬ az.length=bz.length:=by
   have:¬ (az.length:Int)=bz.length:=Zm
   omega
  rw [show decide (az=bz)=false from decide_eq_false λe=>hl (by rw [e])]
  refine cQ<|sA Z<|sK [6] Z<|cT<|xR ?_
  exact aj Z ⟨Z,Z⟩ sbq
 ·have hl:az.length=bz.length:=by
   have:(az.length:Int)=bz.length:=Zm
   omega
  refine cK<|xT<|cS<|cQ<|sM Z<|sV (aF Z underlying70)<|sM Z<|sK [1,2,6,15,16,17] Z<|cB<|aX (σ := Nat) (λi=>[(1,.slice a' bz.length cap'),(2,.func (.func kf) #[] #[]),(15,.slice a az.length cap),(16,.int .i64 az.length),(17,.int .i64 (i:Nat))]) (λ_=>X::hr) (λi=>i≤az.length/\az.take i=bz.take i) (λi=>az.length - i) 0 ⟨Nat.zero_le _,Z⟩ ?_
  rintro i ⟨hi,hal⟩
  refine cQ<|sV (aN Z Z)<|sN<|nT<|cS<|cC Z (λhd=>?_)<|λhd=>?_
  ·have hlt:i<az.length:=Zx
   have hlt':i<bz.length:=by omega
   have hg:=Zy hlt
   have hg':=Zy hlt'
   have hmem:=List.getElem_mem hlt
   obtain ⟨b,o,cap2,us,e1,hus,hrd,ht⟩:=hv.at hg
   cases e1
   obtain ⟨b',o',cap2',us',e1,hus',hrd',ht'⟩:=hv'.at hg'
   cases e1
   generalize az[i]=x at hg hmem ht
   generalize bz[i]=y at hg' ht'
   have hone:=Enc.ones ht
   have hone':=Enc.ones ht'
   refine cK<|xT<|cS<|cB<|cQ<|sM Z<|sV (vI (k:=i) Z Z sl70 Z hlt Z)<|sV (af Z vz hus hrd) ?_
   refine au JW λb8=>?_
   refine sA Z<|ai (hl:=by rw [hus]; rfl) Z Z Co hus hone ?_
   refine sK [1,2,7,8,15,16,17] Z<|cQ<|sM Z<|sM Z<|sV (vI (k:=i) Z Z sl70 Z hlt' Z)<|sV (af Z vz hus' hrd') ?_
   refine au JW λb9=>?_
   refine ai (hl:=by rw [hus']; rfl) Z Z Co hus' hone' ?_
   refine sK [1,2,8,9,15,16,17] Z<|cQ<|sM Z<|sV (af Z vz hus ah) ?_
   refine sV (af Z vz hus' ah) ?_
   refine aY Z Z hE Z ((hF x y us us' hmem ht ht')) ?_
   refine sV (bg Z)<|sK [1,2,15,16,17,30] Z<|cC Z (λhne=>?_)<|λhne=>?_
   ·have hne:x≠y:=Zv
    rw [show decide (az=bz)=false from decide_eq_false (vT hg hg' hne)]
    refine cQ<|sA Z<|sK [6] Z<|cT<|xW<|xR<|xR<|xW<|xR ?_
    exact aj Z ⟨Z,Z⟩ sbq
   ·have hne:x=y:=Zv
    refine cK<|xB<|xT<|cR<|sV (aI Z Z Za)<|sM Z<|sN<|nK [1,2,15,16,17] Z<|ax ?_
    refine aJ (i+1) ⟨hlt,vU hal hg hg' hne⟩<|Nat.sub_lt_sub_left hlt<|Nat.lt_succ_self i
  ·have hil:i=az.length:=by
    have:¬ i<az.length:=Zx
    omega
   rw [show decide (az=bz)=true from decide_eq_true (by
    have:=hal
    rw [hil,List.take_length,hl,List.take_length] at this
    exact this)]
   refine aB<|xE<|xE<|xY<|xT<|cQ<|sA Z<|sK [6] Z<|cT ?_
   exact aj Z ⟨Z,Z⟩ sbq
theorem Ll {az bz:List Ex} {kf:FuncId} (hE:Ck.Enters prog kf) (hv:Ls X v az) (hv':Ls X v' bz) (hF:∀ (a b:Ex) us us',a∈az->Enc.rep X us a->Enc.rep X us' b->Reads prog kf #[.agg us.toArray,.agg us'.toArray] [X] (.bool (decide (a=b)))):Reads prog 279 #[v,v',.func (.func kf) #[] #[]] [X] (.bool (decide (az=bz))):=by
 have hml:maxLen=9223372036854775807:=rfl
 obtain ⟨a,cap,rfl,hlc,hcm,hnone⟩:=hv.form
 obtain ⟨a',cap',rfl,hlc',hcm',hnone'⟩:=hv'.form
 refine aL (n:=32) func279 Z Z (len Z) λhr w0=>?_
 refine cQ<|sA Z<|sN<|nT<|cS<|cQ<|sM Z<|sV (aF Z underlying214)<|sM Z<|sV (aF Z underlying214)<|sV (bP Z Z)<|sK [0,1,2,6,14] Z<|cC Z (λhl=>?_)<|λhl=>?_
 ·have hl:¬ az.length=bz.length:=by
   have:¬ (az.length:Int)=bz.length:=Zm
   omega
  rw [show decide (az=bz)=false from decide_eq_false λe=>hl (by rw [e])]
  refine cQ<|sA Z<|sK [6] Z<|cT<|xR ?_
  exact aj Z ⟨Z,Z⟩ sbq
 ·have hl:az.length=bz.length:=by
   have:(az.length:Int)=bz.length:=Zm
   omega
  refine cK<|xT<|cS<|cQ<|sM Z<|sV (aF Z underlying214)<|sM Z<|sK [1,2,6,15,16,17] Z<|cB<|aX (σ := Nat) (λi=>[(1,.slice a' bz.length cap'),(2,.func (.func kf) #[] #[]),(15,.slice a az.length cap),(16,.int .i64 az.length),(17,.int .i64 (i:Nat))]) (λ_=>X::hr) (λi=>i≤az.length/\az.take i=bz.take i) (λi=>az.length - i) 0 ⟨Nat.zero_le _,Z⟩ ?_
  rintro i ⟨hi,hal⟩
  refine cQ<|sV (aN Z Z)<|sN<|nT<|cS<|cC Z (λhd=>?_)<|λhd=>?_
  ·have hlt:i<az.length:=Zx
   have hlt':i<bz.length:=by omega
   have hg:=Zy hlt
   have hg':=Zy hlt'
   have hmem:=List.getElem_mem hlt
   obtain ⟨b,o,cap2,us,e1,hus,hrd,ht⟩:=hv.at hg
   cases e1
   obtain ⟨b',o',cap2',us',e1,hus',hrd',ht'⟩:=hv'.at hg'
   cases e1
   generalize az[i]=x at hg hmem ht
   generalize bz[i]=y at hg' ht'
   have hone:=Enc.ones ht
   have hone':=Enc.ones ht'
   refine cK<|xT<|cS<|cB<|cQ<|sM Z<|sV (vI (k:=i) Z Z Cs Z hlt Z)<|sV (af Z jR hus hrd) ?_
   refine au JX λb8=>?_
   refine sA Z<|ai (hl:=by rw [hus]; rfl) Z Z Ad hus hone ?_
   refine sK [1,2,7,8,15,16,17] Z<|cQ<|sM Z<|sM Z<|sV (vI (k:=i) Z Z Cs Z hlt' Z)<|sV (af Z jR hus' hrd') ?_
   refine au JX λb9=>?_
   refine ai (hl:=by rw [hus']; rfl) Z Z Ad hus' hone' ?_
   refine sK [1,2,8,9,15,16,17] Z<|cQ<|sM Z<|sV (af Z jR hus ah) ?_
   refine sV (af Z jR hus' ah) ?_
   refine aY Z Z hE Z ((hF x y us us' hmem ht ht')) ?_
   refine sV (bg Z)<|sK [1,2,15,16,17,30] Z<|cC Z (λhne=>?_)<|λhne=>?_
   ·have hne:x≠y:=Zv
    rw [show decide (az=bz)=false from decide_eq_false (vT hg hg' hne)]
    refine cQ<|sA Z<|sK [6] Z<|cT<|xW<|xR<|xR<|xW<|xR ?_
    exact aj Z ⟨Z,Z⟩ sbq
   ·have hne:x=y:=Zv
    refine cK<|xB<|xT<|cR<|sV (aI Z Z Za)<|sM Z<|sN<|nK [1,2,15,16,17] Z<|ax ?_
    refine aJ (i+1) ⟨hlt,vU hal hg hg' hne⟩<|Nat.sub_lt_sub_left hlt<|Nat.lt_succ_self i
  ·have hil:i=az.length:=by
    have:¬ i<az.length:=Zx
    omega
   rw [show decide (az=bz)=true from decide_eq_true (by
    have:=hal
    rw [hil,List.take_length,hl,List.take_length] at this
    exact this)]
   refine aB<|xE<|xE<|xY<|xT<|cQ<|sA Z<|sK [6] Z<|cT ?_
   exact aj Z ⟨Z,Z⟩ sbq
theorem Lm {az bz:List Cla} {kf:FuncId} (hE:Ck.Enters prog kf) (hv:Ls X v az) (hv':Ls X v' bz) (hF:∀ (a b:Cla) us us',a∈az->Enc.rep X us a->Enc.rep X us' b->Reads prog kf #[.agg us.toArray,.agg us'.toArray] [X] (.bool (decide (a=b)))):Reads prog 244 #[v,v',.func (.func kf) #[] #[]] [X] (.bool (decide (az=bz))):=by
 have hml:maxLen=9223372036854775807:=rfl
 obtain ⟨a,cap,rfl,hlc,hcm,hnone⟩:=hv.form
 obtain ⟨a',cap',rfl,hlc',hcm',hnone'⟩:=hv'.form
 refine aL (n:=32) func244 Z Z (len Z) λhr w0=>?_
 refine cQ<|sA Z<|sN<|nT<|cS<|cQ<|sM Z<|sV (aF Z underlying42)<|sM Z<|sV (aF Z underlying42)<|sV (bP Z Z)<|sK [0,1,2,6,14] Z<|cC Z (λhl=>?_)<|λhl=>?_
 ·have hl:¬ az.length=bz.length:=by
   have:¬ (az.length:Int)=bz.length:=Zm
   omega
  rw [show decide (az=bz)=false from decide_eq_false λe=>hl (by rw [e])]
  refine cQ<|sA Z<|sK [6] Z<|cT<|xR ?_
  exact aj Z ⟨Z,Z⟩ sbq
 ·have hl:az.length=bz.length:=by
   have:(az.length:Int)=bz.length:=Zm
   omega
  refine cK<|xT<|cS<|cQ<|sM Z<|sV (aF Z underlying42)<|sM Z<|sK [1,2,6,15,16,17] Z<|cB<|aX (σ := Nat) (λi=>[(1,.slice a' bz.length cap'),(2,.func (.func kf) #[] #[]),(15,.slice a az.length cap),(16,.int .i64 az.length),(17,.int .i64 (i:Nat))]) (λ_=>X::hr) (λi=>i≤az.length/\az.take i=bz.take i) (λi=>az.length - i) 0 ⟨Nat.zero_le _,Z⟩ ?_
  rintro i ⟨hi,hal⟩
  refine cQ<|sV (aN Z Z)<|sN<|nT<|cS<|cC Z (λhd=>?_)<|λhd=>?_
  ·have hlt:i<az.length:=Zx
   have hlt':i<bz.length:=by omega
   have hg:=Zy hlt
   have hg':=Zy hlt'
   have hmem:=List.getElem_mem hlt
   obtain ⟨b,o,cap2,us,e1,hus,hrd,ht⟩:=hv.at hg
   cases e1
   obtain ⟨b',o',cap2',us',e1,hus',hrd',ht'⟩:=hv'.at hg'
   cases e1
   generalize az[i]=x at hg hmem ht
   generalize bz[i]=y at hg' ht'
   have hone:=Enc.ones ht
   have hone':=Enc.ones ht'
   refine cK<|xT<|cS<|cB<|cQ<|sM Z<|sV (vI (k:=i) Z Z Ff Z hlt Z)<|sV (af Z yD hus hrd) ?_
   refine au JY λb8=>?_
   refine sA Z<|ai (hl:=by rw [hus]; rfl) Z Z Cr hus hone ?_
   refine sK [1,2,7,8,15,16,17] Z<|cQ<|sM Z<|sM Z<|sV (vI (k:=i) Z Z Ff Z hlt' Z)<|sV (af Z yD hus' hrd') ?_
   refine au JY λb9=>?_
   refine ai (hl:=by rw [hus']; rfl) Z Z Cr hus' hone' ?_
   refine sK [1,2,8,9,15,16,17] Z<|cQ<|sM Z<|sV (af Z yD hus ah) ?_
   refine sV (af Z yD hus' ah) ?_
   refine aY Z Z hE Z ((hF x y us us' hmem ht ht')) ?_
   refine sV (bg Z)<|sK [1,2,15,16,17,30] Z<|cC Z (λhne=>?_)<|λhne=>?_
   ·have hne:x≠y:=Zv
    rw [show decide (az=bz)=false from decide_eq_false (vT hg hg' hne)]
    refine cQ<|sA Z<|sK [6] Z<|cT<|xW<|xR<|xR<|xW<|xR ?_
    exact aj Z ⟨Z,Z⟩ sbq
   ·have hne:x=y:=Zv
    refine cK<|xB<|xT<|cR<|sV (aI Z Z Za)<|sM Z<|sN<|nK [1,2,15,16,17] Z<|ax ?_
    refine aJ (i+1) ⟨hlt,vU hal hg hg' hne⟩<|Nat.sub_lt_sub_left hlt<|Nat.lt_succ_self i
  ·have hil:i=az.length:=by
    have:¬ i<az.length:=Zx
    omega
   rw [show decide (az=bz)=true from decide_eq_true (by
    have:=hal
    rw [hil,List.take_length,hl,List.take_length] at this
    exact this)]
   refine aB<|xE<|xE<|xY<|xT<|cQ<|sA Z<|sK [6] Z<|cT ?_
   exact aj Z ⟨Z,Z⟩ sbq
theorem IA {az bz:List Sd} (hv:Ls X v az) (hv':Ls X v' bz):Reads prog 38 #[v,v'] [X] (.bool (decide (az=bz))):=by
 have hml:maxLen=9223372036854775807:=rfl
 obtain ⟨a,cap,rfl,hlc,hcm,hnone⟩:=hv.form
 obtain ⟨a',cap',rfl,hlc',hcm',hnone'⟩:=hv'.form
 refine aL (n:=26) func38 Z Z (len Z) λhr w0=>?_
 refine cQ<|sA Z<|sN<|nT<|cS<|cQ<|sM Z<|sV (aF Z underlying67)<|sM Z<|sV (aF Z underlying67)<|sV (bP Z Z)<|sK [0,1,4,10] Z<|cC Z (λhl=>?_)<|λhl=>?_
 ·have hl:¬ az.length=bz.length:=by
   have:¬ (az.length:Int)=bz.length:=Zm
   omega
  rw [show decide (az=bz)=false from decide_eq_false λe=>hl (by rw [e])]
  refine cQ<|sA Z<|sK [4] Z<|cT<|xR ?_
  exact aj Z ⟨Z,Z⟩ sbq
 ·have hl:az.length=bz.length:=by
   have:(az.length:Int)=bz.length:=Zm
   omega
  refine cK<|xT<|cS<|cQ<|sM Z<|sV (aF Z underlying67)<|sM Z<|sK [0,1,4,12,13] Z<|cB<|aX (σ := Nat) (λi=>[(0,.slice a az.length cap),(1,.slice a' bz.length cap'),(12,.int .i64 az.length),(13,.int .i64 (i:Nat))]) (λ_=>X::hr) (λi=>i≤az.length/\az.take i=bz.take i) (λi=>az.length - i) 0 ⟨Nat.zero_le _,Z⟩ ?_
  rintro i ⟨hi,hal⟩
  refine cQ<|sV (aN Z Z)<|sN<|nT<|cS<|cC Z (λhd=>?_)<|λhd=>?_
  ·have hlt:i<az.length:=Zx
   have hlt':i<bz.length:=by omega
   have hg:=Zy hlt
   have hg':=Zy hlt'
   obtain ⟨b,o,cap2,us,e1,hus,hrd,ht⟩:=hv.at hg
   cases e1
   obtain ⟨b',o',cap2',us',e1,hus',hrd',ht'⟩:=hv'.at hg'
   cases e1
   generalize az[i]=x at hg ht
   generalize bz[i]=y at hg' ht'
   have ht:us=[sv x.cls,sv x.name]:=ht
   have ht':us'=[sv y.cls,sv y.name]:=ht'
   subst ht ht'
   refine cK<|xT<|cS<|cB<|cQ<|sM Z<|sA Z<|sK [0,1,5,12,13] Z<|cS<|bB (ork [(0,2),(1,2),(2,2),(3,1),(4,2),(5,2),(6,2),(7,1),(8,1)] .nil) (λ_=>true) mixed Zz ?_
   refine dV Z (vM Z)<|dV Z (vM Z)<|dV Z (vI (k:=i) Z Z oN Z hlt Z)<|bu Z (af Z il Z hrd) ?_
   refine dV Z (vM Z)<|dV Z (vM Z)<|dV Z (vI (k:=i) Z Z oN Z hlt' Z)<|bu Z (af Z il Z hrd') ?_
   refine bu Z (Cz AV Z Z)<|bA<|nK [0,1,12,13,24] Z<|nT<|cC Z (λhne=>?_)<|λhne=>?_
   ·have hne:x≠y:=by exact NI hne
    rw [show decide (az=bz)=false from decide_eq_false (vT hg hg' hne)]
    refine cQ<|sA Z<|sK [4] Z<|cT<|xW<|xR<|xR<|xW<|xR ?_
    exact aj Z ⟨Z,Z⟩ sbq
   ·have hne:x=y:=by exact NJ hne
    refine cK<|xB<|xT<|cR<|sV (aI Z Z Za)<|sM Z<|sN<|nK [0,1,12,13] Z<|ax ?_
    refine aJ (i+1) ⟨hlt,vU hal hg hg' hne⟩<|Nat.sub_lt_sub_left hlt<|Nat.lt_succ_self i
  ·have hil:i=az.length:=by
    have:¬ i<az.length:=Zx
    omega
   rw [show decide (az=bz)=true from decide_eq_true (by
    have:=hal
    rw [hil,List.take_length,hl,List.take_length] at this
    exact this)]
   refine aB<|xE<|xE<|xY<|xT<|cQ<|sA Z<|sK [4] Z<|cT ?_
   exact aj Z ⟨Z,Z⟩ sbq
end
section
variable {X:Res} {v v':Value} {us us':List Value}
theorem Eo {a:Vr} (h:Enc.rep X us a):∃ y,us=[sv a.name,.int .i64 a.ty.kind,sv a.ty.name,y,.bool a.ty.void,.bool a.ty.sep]/\Tys X y a.ty.args:=by
 obtain ⟨ts,rfl,ht⟩:=h
 obtain ⟨y,rfl,hy⟩:=eF ht
 exact ⟨y,Z,hy⟩
theorem Ep {a:Cla} (h:Enc.rep X us a):∃ y,us=[sv a.tag,.int .i64 a.ex.kind,sv a.ex.name,.int .i64 a.ex.num,y]/\Ls X y a.ex.kids:=by
 obtain ⟨ts,rfl,ht⟩:=h
 obtain ⟨y,rfl,hy⟩:=lQ ht
 exact ⟨y,Z,hy⟩
def gz (m:Mb) (x2 x5 y x11 x12 x13:Value):List Value:=[sv m.name,.int .i64 m.kind,x2,sv m.impl.cls,sv m.impl.name,x5,.int .i64 m.ty.kind,sv m.ty.name,y,.bool m.ty.void,.bool m.ty.sep,x11,x12,x13]
def mbL (X:Res) (m:Mb) (x2 x5 y x11 x12 x13:Value):Prop:=Ls X x2 m.seeds/\Ls X x5 m.args/\Tys X y m.ty.args/\Ls X x11 m.clients/\Ls X x12 m.pre/\Ls X x13 m.post
theorem dh {m:Mb} (h:Enc.rep X us m):∃ x2 x5 y x11 x12 x13,us=gz m x2 x5 y x11 x12 x13/\mbL X m x2 x5 y x11 x12 x13:=by
 obtain ⟨x2,x5,ts,x11,x12,x13,rfl,h1,h2,h3,h4⟩:=h
 obtain ⟨y,rfl,hy⟩:=eF h3
 exact ⟨x2,x5,y,x11,x12,x13,Z,h1,h2,hy,h4⟩
theorem qj {m:Mb} {x2 x5 y x11 x12 x13:Value} (h:mbL X m x2 x5 y x11 x12 x13):Enc.rep X (gz m x2 x5 y x11 x12 x13) m:=by
 obtain ⟨h1,h2,h3,h4⟩:=h
 exact ⟨x2,x5,tyC m.ty y,x11,x12,x13,Z,h1,h2,gN Z h3,h4⟩
theorem CZ {s t:Kt}:decide (s=t)=((((s.kind == t.kind && s.name == t.name) && s.void == t.void) && s.sep == t.sep) && decide (s.args=t.args)):=by
 obtain ⟨k,n,az,w,p⟩:=s
 obtain ⟨k',n',az',w',p'⟩:=t
 rw [Bool.eq_iff_iff]
 simp only [Kt.kind,Kt.name,Kt.void,Kt.sep,Kt.args,Bool.and_eq_true,beq_iff_eq,decide_eq_true_eq,Kt.mk.injEq]
 constructor
 ·rintro ⟨h1,h2,h3,h4,h5⟩; exact ⟨⟨⟨⟨h1,h2⟩,h4⟩,h5⟩,decide_eq_true h3⟩
 ·rintro ⟨⟨⟨⟨h1,h2⟩,h4⟩,h5⟩,h3⟩; exact ⟨h1,h2,of_decide_eq_true h3,h4,h5⟩
theorem C8 {s t:Ex}:decide (s=t)=(((s.kind == t.kind && s.name == t.name) && s.num == t.num) && decide (s.kids=t.kids)):=by
 obtain ⟨k,n,i,l⟩:=s
 obtain ⟨k',n',i',l'⟩:=t
 rw [Bool.eq_iff_iff]
 simp only [Ex.kind,Ex.name,Ex.num,Ex.kids,Bool.and_eq_true,beq_iff_eq,decide_eq_true_eq,Ex.mk.injEq]
 constructor
 ·rintro ⟨h1,h2,h3,h4⟩; exact ⟨⟨⟨h1,h2⟩,h3⟩,decide_eq_true h4⟩
 ·rintro ⟨⟨⟨h1,h2⟩,h3⟩,h4⟩; exact ⟨h1,h2,h3,of_decide_eq_true h4⟩
theorem Lp {s t:Vr}:decide (s=t)=(s.name == t.name && decide (s.ty=t.ty)):=by
 cases s; cases t; rw [Bool.eq_iff_iff]; simp
theorem Lr {s t:Cla}:decide (s=t)=(s.tag == t.tag && decide (s.ex=t.ex)):=by
 cases s; cases t; rw [Bool.eq_iff_iff]; simp
theorem C9 {s t:Grp}:decide (s=t)=(s.cls == t.cls && decide (s.cs=t.cs)):=by
 cases s; cases t; rw [Bool.eq_iff_iff]; simp
theorem xz {s t:Sd}:decide (s=t)=([s.cls,s.name] == [t.cls,t.name]):=by
 cases s; cases t; rw [Bool.eq_iff_iff]; simp
theorem F9 : ∀ (d : Nat) (s t : Kt) (us us' : List Value), s.depth ≤ d -> Ty X us s -> Ty X us' t -> Reads prog 267 #[.agg us.toArray, .agg us'.toArray] [X] (.bool (decide (s = t)))
 | 0,s,_,_,_,hd,_,_=>by cases s; simp [Kt.depth] at hd
 | d+1,s,t,us,us',hd,hs,ht=>by
  obtain ⟨x,rfl,hx⟩:=eF hs
  obtain ⟨y,rfl,hy⟩:=eF ht
  have hF:∀ (a b:Kt) us us',a∈s.args->Ty X us a->Ty X us' b->Reads prog 267 #[.agg us.toArray,.agg us'.toArray] [X] (.bool<|decide (a=b)):=λa b us us' ha h1 h2=>F9 d a b us us' (by have:=jI ha; omega) h1 h2
  rw [CZ]
  unfold tyC
  refine aL (n:=38) func267 Z Z (len Z) λhr w0=>?_
  refine cQ (aP Z Z λb2=>?_)
  refine aP Z Z λb3=>?_
  refine sA Z<|sK [2,3,4] Z<|cQ<|sV (vF Z qP Z)<|sV (vY Z ld3) ?_
  refine sV (vF Z qP Z)<|sV (vY Z ld3) ?_
  refine sV (dP Z Z)<|sM Z<|bC (k:=12) (d:=16) (v:=.bool ((s.kind == t.kind) && s.name == t.name)) (λhcut=>aM (b:=(s.kind == t.kind)) true (λhg=>?_)<|λhg=>?_) ?_
  ·refine aC Z Z hg ?_
   iterate 4 refine aC rfl rfl hg ?_
   refine sV (vP (bO Z hg) Z) ?_
   exact hcut _ uG
  ·refine sG Z (bG Z hg) (vF Z Ag Z)<|sG Z (bG Z hg) (vY Z ld9) ?_
   refine sG Z (bG Z hg) (vF Z Ag Z)<|sG Z (bG Z hg) (vY Z ld9) ?_
   refine sG Z (bG Z hg) (iE Z Z)<|sV (vQ (bO Z hg) Z) ?_
   exact hcut _ uG
  refine sM Z<|bC (k:=19) (d:=23) (v:=.bool (((s.kind == t.kind) && s.name == t.name) && s.void == t.void)) (λhcut=>aM (b:=((s.kind == t.kind) && s.name == t.name)) true (λhg=>?_)<|λhg=>?_) ?_
  ·refine aC Z Z hg ?_
   iterate 4 refine aC rfl rfl hg ?_
   refine sV (vP (bO Z hg) Z) ?_
   exact hcut _ uG
  ·refine sG Z (bG Z hg) (vF Z oP Z)<|sG Z (bG Z hg) (vY Z ld4) ?_
   refine sG Z (bG Z hg) (vF Z oP Z)<|sG Z (bG Z hg) (vY Z ld4) ?_
   refine sG Z (bG Z hg) (oJ underlying4 Z Z)<|sV (vQ (bO Z hg) Z) ?_
   exact hcut _ uG
  refine sM Z<|bC (k:=26) (d:=30) (v:=.bool ((((s.kind == t.kind) && s.name == t.name) && s.void == t.void) && s.sep == t.sep)) (λhcut=>aM (b:=(((s.kind == t.kind) && s.name == t.name) && s.void == t.void)) true (λhg=>?_)<|λhg=>?_) ?_
  ·refine aC Z Z hg ?_
   iterate 4 refine aC rfl rfl hg ?_
   refine sV (vP (bO Z hg) Z) ?_
   exact hcut _ uG
  ·refine sG Z (bG Z hg) (vF Z oQ Z)<|sG Z (bG Z hg) (vY Z ld4) ?_
   refine sG Z (bG Z hg) (vF Z oQ Z)<|sG Z (bG Z hg) (vY Z ld4) ?_
   refine sG Z (bG Z hg) (oJ underlying4 Z Z)<|sV (vQ (bO Z hg) Z) ?_
   exact hcut _ uG
  refine sM Z<|bC (k:=33) (d:=37) (v:=.bool (((((s.kind == t.kind) && s.name == t.name) && s.void == t.void) && s.sep == t.sep) && decide (s.args=t.args))) (λhcut=>aM (b:=((((s.kind == t.kind) && s.name == t.name) && s.void == t.void) && s.sep == t.sep)) true (λhg=>?_)<|λhg=>?_) ?_
  ·refine aC Z Z hg ?_
   iterate 4 refine aC rfl rfl hg ?_
   refine sV (vP (bO Z hg) Z) ?_
   exact hcut _ uG
  ·refine sG Z (bG Z hg) (vF Z iN Z)<|sG Z (bG Z hg) (vY Z oO) ?_
   refine sG Z (bG Z hg) (vF Z iN Z)<|sG Z (bG Z hg) (vY Z oO) ?_
   refine bU Z (bG Z hg) Z Z en296 Z (Lj en267 hx hy hF) ?_
   refine sV (vQ (bO Z hg) Z) ?_
   exact hcut _ uG
  refine sA Z<|sK [4] Z<|cT ?_
  exact aj Z ⟨Z,Z⟩ sbq
theorem Ga {s t:Kt} (hs:Ty X us s) (ht:Ty X us' t):Reads prog 267 #[.agg us.toArray,.agg us'.toArray] [X] (.bool (decide (s=t))):=F9 s.depth s t us us' (Nat.le_refl _) hs ht
theorem Gb {s t:Vr} (hs:Enc.rep X us s) (ht:Enc.rep X us' t):Reads prog 216 #[.agg us.toArray,.agg us'.toArray] [X] (.bool (decide (s=t))):=by
 obtain ⟨x,rfl,hx⟩:=Eo hs
 obtain ⟨y,rfl,hy⟩:=Eo ht
 rw [Lp]
 refine aL (n:=17) func216 Z Z (len Z) λhr w0=>?_
 refine cQ (aP Z Z λb2=>?_)
 refine aP Z Z λb3=>?_
 refine sA Z<|sK [2,3,4] Z<|cQ<|sV (vF Z JU Z)<|sV (vY Z ld9) ?_
 refine sV (vF Z JU Z)<|sV (vY Z ld9) ?_
 refine sV (iE Z Z)<|sM Z<|bC (k:=12) (d:=16) (v:=.bool ((s.name == t.name) && decide (s.ty=t.ty))) (λhcut=>aM (b:=(s.name == t.name)) true (λhg=>?_)<|λhg=>?_) ?_
 ·refine aC Z Z hg ?_
  iterate 4 refine aC rfl rfl hg ?_
  refine sV (vP (bO Z hg) Z) ?_
  exact hcut _ uG
 ·refine sG Z (bG Z hg) (vF Z mD Z)<|sG Z (bG Z hg) (af Z fU Z<|bF (us:=[sv s.name,.int .i64 s.ty.kind,sv s.ty.name,x,.bool s.ty.void,.bool s.ty.sep]) (vs:=tyC s.ty x) (k:=1) ah Z) ?_
  refine sG Z (bG Z hg) (vF Z mD Z)<|sG Z (bG Z hg) (af Z fU Z<|bF (us:=[sv t.name,.int .i64 t.ty.kind,sv t.ty.name,y,.bool t.ty.void,.bool t.ty.sep]) (vs:=tyC t.ty y) (k:=1) ah Z) ?_
  refine bU Z (bG Z hg) Z Z en267 Z (Ga (gN Z hx)<|gN Z hy) ?_
  refine sV (vQ (bO Z hg) Z) ?_
  exact hcut _ uG
 refine sA Z<|sK [4] Z<|cT ?_
 exact aj Z ⟨Z,Z⟩ sbq
theorem Gc : ∀ (d : Nat) (s t : Ex) (us us' : List Value), s.depth ≤ d -> Enc.rep X us s -> Enc.rep X us' t -> Reads prog 246 #[.agg us.toArray, .agg us'.toArray] [X] (.bool (decide (s = t)))
 | 0,s,_,_,_,hd,_,_=>by cases s; simp [Ex.depth] at hd
 | d+1,s,t,us,us',hd,hs,ht=>by
  obtain ⟨x,rfl,hx⟩:=lQ hs
  obtain ⟨y,rfl,hy⟩:=lQ ht
  have hF:∀ (a b:Ex) us us',a∈s.kids->Enc.rep X us a->Enc.rep X us' b->Reads prog 246 #[.agg us.toArray,.agg us'.toArray] [X] (.bool<|decide (a=b)):=λa b us us' ha h1 h2=>Gc d a b us us' (by have:=o7 ha; omega) h1 h2
  rw [C8]
  unfold exC
  refine aL (n:=31) func246 Z Z (len Z) λhr w0=>?_
  refine cQ (aP Z Z λb2=>?_)
  refine aP Z Z λb3=>?_
  refine sA Z<|sK [2,3,4] Z<|cQ<|sV (vF Z zn Z)<|sV (vY Z ld3) ?_
  refine sV (vF Z zn Z)<|sV (vY Z ld3) ?_
  refine sV (dP Z Z)<|sM Z<|bC (k:=12) (d:=16) (v:=.bool ((s.kind == t.kind) && s.name == t.name)) (λhcut=>aM (b:=(s.kind == t.kind)) true (λhg=>?_)<|λhg=>?_) ?_
  ·refine aC Z Z hg ?_
   iterate 4 refine aC rfl rfl hg ?_
   refine sV (vP (bO Z hg) Z) ?_
   exact hcut _ uG
  ·refine sG Z (bG Z hg) (vF Z zo Z)<|sG Z (bG Z hg) (vY Z ld9) ?_
   refine sG Z (bG Z hg) (vF Z zo Z)<|sG Z (bG Z hg) (vY Z ld9) ?_
   refine sG Z (bG Z hg) (iE Z Z)<|sV (vQ (bO Z hg) Z) ?_
   exact hcut _ uG
  refine sM Z<|bC (k:=19) (d:=23) (v:=.bool (((s.kind == t.kind) && s.name == t.name) && s.num == t.num)) (λhcut=>aM (b:=((s.kind == t.kind) && s.name == t.name)) true (λhg=>?_)<|λhg=>?_) ?_
  ·refine aC Z Z hg ?_
   iterate 4 refine aC rfl rfl hg ?_
   refine sV (vP (bO Z hg) Z) ?_
   exact hcut _ uG
  ·refine sG Z (bG Z hg) (vF Z zq Z)<|sG Z (bG Z hg) (vY Z ld3) ?_
   refine sG Z (bG Z hg) (vF Z zq Z)<|sG Z (bG Z hg) (vY Z ld3) ?_
   refine sG Z (bG Z hg) (dP Z Z)<|sV (vQ (bO Z hg) Z) ?_
   exact hcut _ uG
  refine sM Z<|bC (k:=26) (d:=30) (v:=.bool ((((s.kind == t.kind) && s.name == t.name) && s.num == t.num) && decide (s.kids=t.kids))) (λhcut=>aM (b:=(((s.kind == t.kind) && s.name == t.name) && s.num == t.num)) true (λhg=>?_)<|λhg=>?_) ?_
  ·refine aC Z Z hg ?_
   iterate 4 refine aC rfl rfl hg ?_
   refine sV (vP (bO Z hg) Z) ?_
   exact hcut _ uG
  ·refine sG Z (bG Z hg) (vF Z jq Z)<|sG Z (bG Z hg) (vY Z sO) ?_
   refine sG Z (bG Z hg) (vF Z jq Z)<|sG Z (bG Z hg) (vY Z sO) ?_
   refine bU Z (bG Z hg) Z Z en279 Z (Ll en246 hx hy hF) ?_
   refine sV (vQ (bO Z hg) Z) ?_
   exact hcut _ uG
  refine sA Z<|sK [4] Z<|cT ?_
  exact aj Z ⟨Z,Z⟩ sbq
theorem NK {s t:Ex} (hs:Enc.rep X us s) (ht:Enc.rep X us' t):Reads prog 246 #[.agg us.toArray,.agg us'.toArray] [X] (.bool (decide (s=t))):=Gc s.depth s t us us' (Nat.le_refl _) hs ht
theorem NL {s t:Cla} (hs:Enc.rep X us s) (ht:Enc.rep X us' t):Reads prog 245 #[.agg us.toArray,.agg us'.toArray] [X] (.bool (decide (s=t))):=by
 obtain ⟨x,rfl,hx⟩:=Ep hs
 obtain ⟨y,rfl,hy⟩:=Ep ht
 rw [Lr]
 refine aL (n:=17) func245 Z Z (len Z) λhr w0=>?_
 refine cQ (aP Z Z λb2=>?_)
 refine aP Z Z λb3=>?_
 refine sA Z<|sK [2,3,4] Z<|cQ<|sV (vF Z zt Z)<|sV (vY Z ld9) ?_
 refine sV (vF Z zt Z)<|sV (vY Z ld9) ?_
 refine sV (iE Z Z)<|sM Z<|bC (k:=12) (d:=16) (v:=.bool ((s.tag == t.tag) && decide (s.ex=t.ex))) (λhcut=>aM (b:=(s.tag == t.tag)) true (λhg=>?_)<|λhg=>?_) ?_
 ·refine aC Z Z hg ?_
  iterate 4 refine aC rfl rfl hg ?_
  refine sV (vP (bO Z hg) Z) ?_
  exact hcut _ uG
 ·refine sG Z (bG Z hg) (vF Z oZ Z)<|sG Z (bG Z hg) (af Z jR Z<|bF (us:=[sv s.tag,.int .i64 s.ex.kind,sv s.ex.name,.int .i64 s.ex.num,x]) (vs:=exC s.ex x) (k:=1) ah Z) ?_
  refine sG Z (bG Z hg) (vF Z oZ Z)<|sG Z (bG Z hg) (af Z jR Z<|bF (us:=[sv t.tag,.int .i64 t.ex.kind,sv t.ex.name,.int .i64 t.ex.num,y]) (vs:=exC t.ex y) (k:=1) ah Z) ?_
  refine bU Z (bG Z hg) Z Z en246 Z (NK (CW Z hx)<|CW Z hy) ?_
  refine sV (vQ (bO Z hg) Z) ?_
  exact hcut _ uG
 refine sA Z<|sK [4] Z<|cT ?_
 exact aj Z ⟨Z,Z⟩ sbq
theorem NM {s t:Grp} (hs:Enc.rep X us s) (ht:Enc.rep X us' t):Reads prog 182 #[.agg us.toArray,.agg us'.toArray] [X] (.bool (decide (s=t))):=by
 obtain ⟨x,rfl,hx⟩:=hs
 obtain ⟨y,rfl,hy⟩:=ht
 rw [C9]
 refine aL (n:=17) func182 Z Z (len Z) λhr w0=>?_
 refine cQ (aP Z Z λb2=>?_)
 refine aP Z Z λb3=>?_
 refine sA Z<|sK [2,3,4] Z<|cQ<|sV (vF Z zl Z)<|sV (vY Z ld9) ?_
 refine sV (vF Z zl Z)<|sV (vY Z ld9) ?_
 refine sV (iE Z Z)<|sM Z<|bC (k:=12) (d:=16) (v:=.bool ((s.cls == t.cls) && decide (s.cs=t.cs))) (λhcut=>aM (b:=(s.cls == t.cls)) true (λhg=>?_)<|λhg=>?_) ?_
 ·refine aC Z Z hg ?_
  iterate 4 refine aC rfl rfl hg ?_
  refine sV (vP (bO Z hg) Z) ?_
  exact hcut _ uG
 ·refine sG Z (bG Z hg) (vF Z rR Z)<|sG Z (bG Z hg) (vY Z tH) ?_
  refine sG Z (bG Z hg) (vF Z rR Z)<|sG Z (bG Z hg) (vY Z tH) ?_
  refine bU Z (bG Z hg) Z Z en244 Z (Lm en245 hx hy λ_ _ _ _ _ h1 h2=>NL h1 h2) ?_
  refine sV (vQ (bO Z hg) Z) ?_
  exact hcut _ uG
 refine sA Z<|sK [4] Z<|cT ?_
 exact aj Z ⟨Z,Z⟩ sbq
theorem xA {s t:Mb} (hs:Enc.rep X us s) (ht:Enc.rep X us' t):Reads prog 214 #[.agg us.toArray,.agg us'.toArray] [X] (.bool (Sk.sameTy s t)):=by
 obtain ⟨x2,x5,xy,x11,x12,x13,rfl,hx2,hx5,hxy,hx11,hx12,hx13⟩:=dh hs
 obtain ⟨y2,y5,yy,y11,y12,y13,rfl,hy2,hy5,hyy,hy11,hy12,hy13⟩:=dh ht
 unfold Sk.sameTy gz
 refine aL (n:=17) func214 Z Z (len Z) λhr w0=>?_
 refine cQ (aP Z Z λb2=>?_)
 refine aP Z Z λb3=>?_
 refine sA Z<|sK [2,3,4] Z<|cQ<|sV (vF Z jH Z)<|sV (vY Z qJ) ?_
 refine sV (vF Z jH Z)<|sV (vY Z qJ) ?_
 refine aY Z Z en215 Z (CY en216 hx5 hy5 λ_ _ _ _ _ h1 h2=>Gb h1 h2) ?_
 refine sM Z<|bC (k:=12) (d:=16) (v:=.bool ((decide (s.args=t.args)) && decide (s.ty=t.ty))) (λhcut=>aM (b:=(decide (s.args=t.args))) true (λhg=>?_)<|λhg=>?_) ?_
 ·refine aC Z Z hg ?_
  iterate 4 refine aC rfl rfl hg ?_
  refine sV (vP (bO Z hg) Z) ?_
  exact hcut _ uG
 ·refine sG Z (bG Z hg) (vF Z qQ Z)<|sG Z (bG Z hg) (af Z fU Z<|bF (us:=gz s x2 x5 xy x11 x12 x13) (vs:=tyC s.ty xy) (k:=6) ah Z) ?_
  refine sG Z (bG Z hg) (vF Z qQ Z)<|sG Z (bG Z hg) (af Z fU Z<|bF (us:=gz t y2 y5 yy y11 y12 y13) (vs:=tyC t.ty yy) (k:=6) ah Z) ?_
  refine bU Z (bG Z hg) Z Z en267 Z (Ga (gN Z hxy)<|gN Z hyy) ?_
  refine sV (vQ (bO Z hg) Z) ?_
  exact hcut _ uG
 refine sA Z<|sK [4] Z<|cT ?_
 exact aj Z ⟨Z,Z⟩ sbq
theorem same_ct {s t:Mb} (hs:Enc.rep X us s) (ht:Enc.rep X us' t):Reads prog 218 #[.agg us.toArray,.agg us'.toArray] [X] (.bool (Sk.same s t)):=by
 obtain ⟨x2,x5,xy,x11,x12,x13,rfl,hx2,hx5,hxy,hx11,hx12,hx13⟩:=dh hs
 obtain ⟨y2,y5,yy,y11,y12,y13,rfl,hy2,hy5,hyy,hy11,hy12,hy13⟩:=dh ht
 have hst:=xA (qj ⟨hx2,hx5,hxy,hx11,hx12,hx13⟩)<|qj ⟨hy2,hy5,hyy,hy11,hy12,hy13⟩
 unfold Sk.same
 rw [xz]
 unfold gz at *
 refine aL (n:=22) func218 Z Z (len Z) λhr w0=>?_
 refine cQ (aP Z Z λb2=>?_)
 refine aP Z Z λb3=>?_
 refine sA Z<|sK [2,3,4] Z<|cQ<|sV (vF Z DZ Z)<|sV (af Z il Z<|bF (us:=gz s x2 x5 xy x11 x12 x13) (vs:=[sv s.impl.cls,sv s.impl.name]) (k:=3) ah Z) ?_
 refine sV (vF Z DZ Z)<|sV (af Z il Z<|bF (us:=gz t y2 y5 yy y11 y12 y13) (vs:=[sv t.impl.cls,sv t.impl.name]) (k:=3) ah Z) ?_
 refine sV (jJ AV Z Z)<|sM Z<|bC (k:=12) (d:=16) (v:=.bool (([s.impl.cls,s.impl.name] == [t.impl.cls,t.impl.name]) && decide (s.seeds=t.seeds))) (λhcut=>aM (b:=([s.impl.cls,s.impl.name] == [t.impl.cls,t.impl.name])) true (λhg=>?_)<|λhg=>?_) ?_
 ·refine aC Z Z hg ?_
  iterate 4 refine aC rfl rfl hg ?_
  refine sV (vP (bO Z hg) Z) ?_
  exact hcut _ uG
 ·refine sG Z (bG Z hg) (vF Z dX Z)<|sG Z (bG Z hg) (vY Z nO) ?_
  refine sG Z (bG Z hg) (vF Z dX Z)<|sG Z (bG Z hg) (vY Z nO) ?_
  refine bU Z (bG Z hg) Z Z en38 Z (IA hx2 hy2) ?_
  refine sV (vQ (bO Z hg) Z) ?_
  exact hcut _ uG
 refine sM Z<|bC (k:=17) (d:=21) (v:=.bool ((([s.impl.cls,s.impl.name] == [t.impl.cls,t.impl.name]) && decide (s.seeds=t.seeds)) && Sk.sameTy s t)) (λhcut=>aM (b:=(([s.impl.cls,s.impl.name] == [t.impl.cls,t.impl.name]) && decide (s.seeds=t.seeds))) true (λhg=>?_)<|λhg=>?_) ?_
 ·refine aC Z Z hg ?_
  iterate 2 refine aC rfl rfl hg ?_
  refine sV (vP (bO Z hg) Z) ?_
  exact hcut _ uG
 ·refine sG Z (bG Z hg) (af Z eU Z ah) ?_
  refine sG Z (bG Z hg) (af Z eU Z ah) ?_
  refine bU Z (bG Z hg) Z Z J7 Z (hst) ?_
  refine sV (vQ (bO Z hg) Z) ?_
  exact hcut _ uG
 refine sA Z<|sK [4] Z<|cT ?_
 exact aj Z ⟨Z,Z⟩ sbq
end
def Cpy (α : Type) [Enc α] (K:FuncId):Prop:=∀ (X:Res) (a : α) (us:List Value),Enc.rep X us a->CtN prog K #[.agg us.toArray] [X] λu T=>∃ us':List Value,u = .agg us'.toArray/\Enc.rep T us' a

theorem len2 {l:List Value} (h:l.length=2):∃ c0 c1,l=[c0,c1]:=by
 match l,h with
 | [c0,c1],_=>exact ⟨c0,c1,rfl⟩
theorem len4 {l:List Value} (h:l.length=4):∃ c0 c1 c2 c3,l=[c0,c1,c2,c3]:=by
 match l,h with
 | [c0,c1,c2,c3],_=>exact ⟨c0,c1,c2,c3,rfl⟩
theorem len5 {l:List Value} (h:l.length=5):∃ c0 c1 c2 c3 c4,l=[c0,c1,c2,c3,c4]:=by
 match l,h with
 | [c0,c1,c2,c3,c4],_=>exact ⟨c0,c1,c2,c3,c4,rfl⟩
theorem len6 {l:List Value} (h:l.length=6):∃ c0 c1 c2 c3 c4 c5,l=[c0,c1,c2,c3,c4,c5]:=by
 match l,h with
 | [c0,c1,c2,c3,c4,c5],_=>exact ⟨c0,c1,c2,c3,c4,c5,rfl⟩
theorem len14 {l:List Value} (h:l.length=14):∃ c0 c1 c2 c3 c4 c5 c6 c7 c8 c9 c10 c11 c12 c13,l=[c0,c1,c2,c3,c4,c5,c6,c7,c8,c9,c10,c11,c12,c13]:=by
 match l,h with
 | [c0,c1,c2,c3,c4,c5,c6,c7,c8,c9,c10,c11,c12,c13],_=>exact ⟨c0,c1,c2,c3,c4,c5,c6,c7,c8,c9,c10,c11,c12,c13,rfl⟩
section
variable {X:Res} {v v':Value} {us us':List Value}
theorem IB {xs:List Kt} {kf:FuncId} (hE:Ck.Enters prog kf) (hv:Ls X v xs) (hF:∀ a∈xs,∀ us,Enc.rep X us a->CtN prog kf #[.agg us.toArray] [X] λu T=>∃ us':List Value,u = .agg us'.toArray/\Enc.rep T us' a):CtN prog 184 #[v,.func (.func kf) #[] #[]] [X] λu T=>Ls T u xs:=by
 have hml:maxLen=9223372036854775807:=rfl
 have hrb:reachBytes=140737488351232:=rfl
 have hsz:xs.length * 56≤reachBytes:=hv.sizes
 obtain ⟨a,cap,rfl,hlc,hcm,hnone⟩:=hv.form
 refine aL (n:=22) func184 Z Z (len Z) λhr w0=>?_
 refine cQ<|sA Z<|sN<|nT<|cQ<|sA Z<|sN<|nT<|cS<|cQ<|sM Z<|sV (aF Z underlying71)<|sM Z ?_
 refine sK [1,4,5,8,9,10] Z<|cB<|dK (cO 73 5)<|dK (eO (L:=[]))<|aX (σ := Value×List (List Value)×Res×Nat) (λq=>[(1,.func (.func kf) #[] #[]),(5,q.1),(8,.slice a xs.length cap),(9,.int .i64 xs.length),(10,.int .i64 (q.2.2.2:Nat))]) (λq=>VR q.1 73 5 q.2.1::q.2.2.1::X::hr) (λq=>q.2.2.2≤xs.length/\q.1.oneCell'=true/\Rws q.2.2.1 q.2.1 (xs.take q.2.2.2)) (λq=>xs.length - q.2.2.2) (.slice none 0 0,[],Res.star [],0) ⟨Nat.zero_le _,Z,Rws.nil⟩ ?_
 rintro ⟨w,rows,T,i⟩ ⟨hi,hw,hro⟩
 simp only at hi hw hro
 dsimp only
 refine cQ<|sV (aN Z Z)<|sN<|nT<|cS<|cC Z (λhd=>?_)<|λhd=>?_
 ·have hlt:i<xs.length:=Zx
  have hg:=Zy hlt
  have hmem:=List.getElem_mem hlt
  have hsn:xs.take (i+1)=xs.take i++[xs[i]]:=List.take_succ_eq_append_getElem hlt
  obtain ⟨b,o,cap2,us,e1,hus,hrd,ht⟩:=hv.at hg
  cases e1
  generalize xs[i]=x at hg hmem ht hsn
  have hone:=Enc.ones ht
  have hrl:rows.length=i:=by rw [hro.1,List.length_take]; omega
  refine cK<|xT<|cS<|cB<|cQ<|sV (vI (k:=i) Z Z yV Z hlt Z)<|sV (af Z fU hus hrd) ?_
  refine au Ak λb7=>?_
  refine ai (hl:=by rw [hus]; rfl) Z Z nL hus hone ?_
  refine sK [1,5,7,8,9,10] Z<|cR<|sM Z<|sM Z<|sV (af Z fU hus ah) ?_
  refine aH Z Z hE Z ((hF x hmem us ht)) ?_
  rintro u h' ⟨T2,rfl,us2,rfl,hT2⟩
  simp only [lC,lN]
  have hl2:us2.length=5:=Enc.len hT2
  have ho2:=Enc.ones hT2
  obtain ⟨c0,c1,c2,c3,c4,rfl⟩:=len5 hl2
  refine ak (cells:=[c0,c1,c2,c3,c4]) Z underlying71 JN Z Z Zz (ltn Z) λb62=>?_
  refine dZ [[c0,c1,c2,c3,c4]] Z Z underlying71 JN Z (by decide) (show Sel _ (VR w 73 5 rows) _ from slq) (by simp) Z (λj u2 hu2=>bT<|bV Zt) Zb (by rw [hrl]; omega) (by rw [hrl]; omega) (ltn Z) λw2 hw2 _=>?_
  refine sA Z<|sN<|nK [1,5,8,9,10] Z<|ax<|xB<|xT<|cR<|sV (aI Z Z Za)<|sM Z<|sN<|nK [1,5,8,9,10] Z<|ax<|kG (fu (L:=[T,T2])) ?_
  simp only [lC,lN]
  refine aJ (w2,rows++[[c0,c1,c2,c3,c4]],Res.star [T,T2],i+1) ⟨hlt,hw2,by rw [hsn]; exact Rws.snoc ⟨hro.1,λj us x h1 h2=>Enc.up (bE .here)<|hro.2 j us x h1 h2⟩ (Enc.up (bE<|.there .here) hT2)⟩<|Nat.sub_lt_sub_left hlt<|Nat.lt_succ_self i
 ·have hil:i=xs.length:=by
   have:¬ i<xs.length:=Zx
   omega
  subst hil
  rw [List.take_length] at hro
  refine aB<|xE<|xE<|xY<|xT<|cQ<|sM Z<|sA Z<|sK [4] Z<|cT (dY (r:=VR w 73 5 rows) slq λhok=>?_)
  refine kG (fu (L:=[VR w 73 5 rows,T])) ?_
  simp only [lC,lN]
  have hls:Ls (Res.star [VR w 73 5 rows,T]) w xs:=Rws.ls (E:=73) ⟨hro.1,λj us x h1 h2=>Enc.up (bE<|.there .here)<|hro.2 j us x h1 h2⟩ hok (bE .here) hsz
  exact aj Z ⟨Res.star [VR w 73 5 rows,T],Z,hls⟩ sbq
theorem IC {xs:List Vr} {kf:FuncId} (hE:Ck.Enters prog kf) (hv:Ls X v xs) (hF:∀ a∈xs,∀ us,Enc.rep X us a->CtN prog kf #[.agg us.toArray] [X] λu T=>∃ us':List Value,u = .agg us'.toArray/\Enc.rep T us' a):CtN prog 175 #[v,.func (.func kf) #[] #[]] [X] λu T=>Ls T u xs:=by
 have hml:maxLen=9223372036854775807:=rfl
 have hrb:reachBytes=140737488351232:=rfl
 have hsz:xs.length * 72≤reachBytes:=hv.sizes
 obtain ⟨a,cap,rfl,hlc,hcm,hnone⟩:=hv.form
 refine aL (n:=22) func175 Z Z (len Z) λhr w0=>?_
 refine cQ<|sA Z<|sN<|nT<|cQ<|sA Z<|sN<|nT<|cS<|cQ<|sM Z<|sV (aF Z underlying70)<|sM Z ?_
 refine sK [1,4,5,8,9,10] Z<|cB<|dK (cO 132 6)<|dK (eO (L:=[]))<|aX (σ := Value×List (List Value)×Res×Nat) (λq=>[(1,.func (.func kf) #[] #[]),(5,q.1),(8,.slice a xs.length cap),(9,.int .i64 xs.length),(10,.int .i64 (q.2.2.2:Nat))]) (λq=>VR q.1 132 6 q.2.1::q.2.2.1::X::hr) (λq=>q.2.2.2≤xs.length/\q.1.oneCell'=true/\Rws q.2.2.1 q.2.1 (xs.take q.2.2.2)) (λq=>xs.length - q.2.2.2) (.slice none 0 0,[],Res.star [],0) ⟨Nat.zero_le _,Z,Rws.nil⟩ ?_
 rintro ⟨w,rows,T,i⟩ ⟨hi,hw,hro⟩
 simp only at hi hw hro
 dsimp only
 refine cQ<|sV (aN Z Z)<|sN<|nT<|cS<|cC Z (λhd=>?_)<|λhd=>?_
 ·have hlt:i<xs.length:=Zx
  have hg:=Zy hlt
  have hmem:=List.getElem_mem hlt
  have hsn:xs.take (i+1)=xs.take i++[xs[i]]:=List.take_succ_eq_append_getElem hlt
  obtain ⟨b,o,cap2,us,e1,hus,hrd,ht⟩:=hv.at hg
  cases e1
  generalize xs[i]=x at hg hmem ht hsn
  have hone:=Enc.ones ht
  have hrl:rows.length=i:=by rw [hro.1,List.length_take]; omega
  refine cK<|xT<|cS<|cB<|cQ<|sV (vI (k:=i) Z Z sl70 Z hlt Z)<|sV (af Z vz hus hrd) ?_
  refine au JW λb7=>?_
  refine ai (hl:=by rw [hus]; rfl) Z Z Co hus hone ?_
  refine sK [1,5,7,8,9,10] Z<|cR<|sM Z<|sM Z<|sV (af Z vz hus ah) ?_
  refine aH Z Z hE Z ((hF x hmem us ht)) ?_
  rintro u h' ⟨T2,rfl,us2,rfl,hT2⟩
  simp only [lC,lN]
  have hl2:us2.length=6:=Enc.len hT2
  have ho2:=Enc.ones hT2
  obtain ⟨c0,c1,c2,c3,c4,c5,rfl⟩:=len6 hl2
  refine ak (cells:=[c0,c1,c2,c3,c4,c5]) Z underlying70 DW Z Z Zz (ltn Z) λb62=>?_
  refine dZ [[c0,c1,c2,c3,c4,c5]] Z Z underlying70 DW Z (by decide) (show Sel _ (VR w 132 6 rows) _ from slq) (by simp) Z (λj u2 hu2=>bT<|bV Zt) Zb (by rw [hrl]; omega) (by rw [hrl]; omega) (ltn Z) λw2 hw2 _=>?_
  refine sA Z<|sN<|nK [1,5,8,9,10] Z<|ax<|xB<|xT<|cR<|sV (aI Z Z Za)<|sM Z<|sN<|nK [1,5,8,9,10] Z<|ax<|kG (fu (L:=[T,T2])) ?_
  simp only [lC,lN]
  refine aJ (w2,rows++[[c0,c1,c2,c3,c4,c5]],Res.star [T,T2],i+1) ⟨hlt,hw2,by rw [hsn]; exact Rws.snoc ⟨hro.1,λj us x h1 h2=>Enc.up (bE .here)<|hro.2 j us x h1 h2⟩ (Enc.up (bE<|.there .here) hT2)⟩<|Nat.sub_lt_sub_left hlt<|Nat.lt_succ_self i
 ·have hil:i=xs.length:=by
   have:¬ i<xs.length:=Zx
   omega
  subst hil
  rw [List.take_length] at hro
  refine aB<|xE<|xE<|xY<|xT<|cQ<|sM Z<|sA Z<|sK [4] Z<|cT (dY (r:=VR w 132 6 rows) slq λhok=>?_)
  refine kG (fu (L:=[VR w 132 6 rows,T])) ?_
  simp only [lC,lN]
  have hls:Ls (Res.star [VR w 132 6 rows,T]) w xs:=Rws.ls (E:=132) ⟨hro.1,λj us x h1 h2=>Enc.up (bE<|.there .here)<|hro.2 j us x h1 h2⟩ hok (bE .here) hsz
  exact aj Z ⟨Res.star [VR w 132 6 rows,T],Z,hls⟩ sbq
theorem IE {xs:List Ex} {kf:FuncId} (hE:Ck.Enters prog kf) (hv:Ls X v xs) (hF:∀ a∈xs,∀ us,Enc.rep X us a->CtN prog kf #[.agg us.toArray] [X] λu T=>∃ us':List Value,u = .agg us'.toArray/\Enc.rep T us' a):CtN prog 280 #[v,.func (.func kf) #[] #[]] [X] λu T=>Ls T u xs:=by
 have hml:maxLen=9223372036854775807:=rfl
 have hrb:reachBytes=140737488351232:=rfl
 have hsz:xs.length * 56≤reachBytes:=hv.sizes
 obtain ⟨a,cap,rfl,hlc,hcm,hnone⟩:=hv.form
 refine aL (n:=22) func280 Z Z (len Z) λhr w0=>?_
 refine cQ<|sA Z<|sN<|nT<|cQ<|sA Z<|sN<|nT<|cS<|cQ<|sM Z<|sV (aF Z underlying214)<|sM Z ?_
 refine sK [1,4,5,8,9,10] Z<|cB<|dK (cO 216 4)<|dK (eO (L:=[]))<|aX (σ := Value×List (List Value)×Res×Nat) (λq=>[(1,.func (.func kf) #[] #[]),(5,q.1),(8,.slice a xs.length cap),(9,.int .i64 xs.length),(10,.int .i64 (q.2.2.2:Nat))]) (λq=>VR q.1 216 4 q.2.1::q.2.2.1::X::hr) (λq=>q.2.2.2≤xs.length/\q.1.oneCell'=true/\Rws q.2.2.1 q.2.1 (xs.take q.2.2.2)) (λq=>xs.length - q.2.2.2) (.slice none 0 0,[],Res.star [],0) ⟨Nat.zero_le _,Z,Rws.nil⟩ ?_
 rintro ⟨w,rows,T,i⟩ ⟨hi,hw,hro⟩
 simp only at hi hw hro
 dsimp only
 refine cQ<|sV (aN Z Z)<|sN<|nT<|cS<|cC Z (λhd=>?_)<|λhd=>?_
 ·have hlt:i<xs.length:=Zx
  have hg:=Zy hlt
  have hmem:=List.getElem_mem hlt
  have hsn:xs.take (i+1)=xs.take i++[xs[i]]:=List.take_succ_eq_append_getElem hlt
  obtain ⟨b,o,cap2,us,e1,hus,hrd,ht⟩:=hv.at hg
  cases e1
  generalize xs[i]=x at hg hmem ht hsn
  have hone:=Enc.ones ht
  have hrl:rows.length=i:=by rw [hro.1,List.length_take]; omega
  refine cK<|xT<|cS<|cB<|cQ<|sV (vI (k:=i) Z Z Cs Z hlt Z)<|sV (af Z jR hus hrd) ?_
  refine au JX λb7=>?_
  refine ai (hl:=by rw [hus]; rfl) Z Z Ad hus hone ?_
  refine sK [1,5,7,8,9,10] Z<|cR<|sM Z<|sM Z<|sV (af Z jR hus ah) ?_
  refine aH Z Z hE Z ((hF x hmem us ht)) ?_
  rintro u h' ⟨T2,rfl,us2,rfl,hT2⟩
  simp only [lC,lN]
  have hl2:us2.length=4:=Enc.len hT2
  have ho2:=Enc.ones hT2
  obtain ⟨c0,c1,c2,c3,rfl⟩:=len4 hl2
  refine ak (cells:=[c0,c1,c2,c3]) Z underlying214 M5 Z Z Zz (ltn Z) λb62=>?_
  refine dZ [[c0,c1,c2,c3]] Z Z underlying214 M5 Z (by decide) (show Sel _ (VR w 216 4 rows) _ from slq) (by simp) Z (λj u2 hu2=>bT<|bV Zt) Zb (by rw [hrl]; omega) (by rw [hrl]; omega) (ltn Z) λw2 hw2 _=>?_
  refine sA Z<|sN<|nK [1,5,8,9,10] Z<|ax<|xB<|xT<|cR<|sV (aI Z Z Za)<|sM Z<|sN<|nK [1,5,8,9,10] Z<|ax<|kG (fu (L:=[T,T2])) ?_
  simp only [lC,lN]
  refine aJ (w2,rows++[[c0,c1,c2,c3]],Res.star [T,T2],i+1) ⟨hlt,hw2,by rw [hsn]; exact Rws.snoc ⟨hro.1,λj us x h1 h2=>Enc.up (bE .here)<|hro.2 j us x h1 h2⟩ (Enc.up (bE<|.there .here) hT2)⟩<|Nat.sub_lt_sub_left hlt<|Nat.lt_succ_self i
 ·have hil:i=xs.length:=by
   have:¬ i<xs.length:=Zx
   omega
  subst hil
  rw [List.take_length] at hro
  refine aB<|xE<|xE<|xY<|xT<|cQ<|sM Z<|sA Z<|sK [4] Z<|cT (dY (r:=VR w 216 4 rows) slq λhok=>?_)
  refine kG (fu (L:=[VR w 216 4 rows,T])) ?_
  simp only [lC,lN]
  have hls:Ls (Res.star [VR w 216 4 rows,T]) w xs:=Rws.ls (E:=216) ⟨hro.1,λj us x h1 h2=>Enc.up (bE<|.there .here)<|hro.2 j us x h1 h2⟩ hok (bE .here) hsz
  exact aj Z ⟨Res.star [VR w 216 4 rows,T],Z,hls⟩ sbq
theorem IG {xs:List Cla} {kf:FuncId} (hE:Ck.Enters prog kf) (hv:Ls X v xs) (hF:∀ a∈xs,∀ us,Enc.rep X us a->CtN prog kf #[.agg us.toArray] [X] λu T=>∃ us':List Value,u = .agg us'.toArray/\Enc.rep T us' a):CtN prog 191 #[v,.func (.func kf) #[] #[]] [X] λu T=>Ls T u xs:=by
 have hml:maxLen=9223372036854775807:=rfl
 have hrb:reachBytes=140737488351232:=rfl
 have hsz:xs.length * 72≤reachBytes:=hv.sizes
 obtain ⟨a,cap,rfl,hlc,hcm,hnone⟩:=hv.form
 refine aL (n:=22) func191 Z Z (len Z) λhr w0=>?_
 refine cQ<|sA Z<|sN<|nT<|cQ<|sA Z<|sN<|nT<|cS<|cQ<|sM Z<|sV (aF Z underlying42)<|sM Z ?_
 refine sK [1,4,5,8,9,10] Z<|cB<|dK (cO 218 5)<|dK (eO (L:=[]))<|aX (σ := Value×List (List Value)×Res×Nat) (λq=>[(1,.func (.func kf) #[] #[]),(5,q.1),(8,.slice a xs.length cap),(9,.int .i64 xs.length),(10,.int .i64 (q.2.2.2:Nat))]) (λq=>VR q.1 218 5 q.2.1::q.2.2.1::X::hr) (λq=>q.2.2.2≤xs.length/\q.1.oneCell'=true/\Rws q.2.2.1 q.2.1 (xs.take q.2.2.2)) (λq=>xs.length - q.2.2.2) (.slice none 0 0,[],Res.star [],0) ⟨Nat.zero_le _,Z,Rws.nil⟩ ?_
 rintro ⟨w,rows,T,i⟩ ⟨hi,hw,hro⟩
 simp only at hi hw hro
 dsimp only
 refine cQ<|sV (aN Z Z)<|sN<|nT<|cS<|cC Z (λhd=>?_)<|λhd=>?_
 ·have hlt:i<xs.length:=Zx
  have hg:=Zy hlt
  have hmem:=List.getElem_mem hlt
  have hsn:xs.take (i+1)=xs.take i++[xs[i]]:=List.take_succ_eq_append_getElem hlt
  obtain ⟨b,o,cap2,us,e1,hus,hrd,ht⟩:=hv.at hg
  cases e1
  generalize xs[i]=x at hg hmem ht hsn
  have hone:=Enc.ones ht
  have hrl:rows.length=i:=by rw [hro.1,List.length_take]; omega
  refine cK<|xT<|cS<|cB<|cQ<|sV (vI (k:=i) Z Z Ff Z hlt Z)<|sV (af Z yD hus hrd) ?_
  refine au JY λb7=>?_
  refine ai (hl:=by rw [hus]; rfl) Z Z Cr hus hone ?_
  refine sK [1,5,7,8,9,10] Z<|cR<|sM Z<|sM Z<|sV (af Z yD hus ah) ?_
  refine aH Z Z hE Z ((hF x hmem us ht)) ?_
  rintro u h' ⟨T2,rfl,us2,rfl,hT2⟩
  simp only [lC,lN]
  have hl2:us2.length=5:=Enc.len hT2
  have ho2:=Enc.ones hT2
  obtain ⟨c0,c1,c2,c3,c4,rfl⟩:=len5 hl2
  refine ak (cells:=[c0,c1,c2,c3,c4]) Z underlying42 M6 Z Z Zz (ltn Z) λb62=>?_
  refine dZ [[c0,c1,c2,c3,c4]] Z Z underlying42 M6 Z (by decide) (show Sel _ (VR w 218 5 rows) _ from slq) (by simp) Z (λj u2 hu2=>bT<|bV Zt) Zb (by rw [hrl]; omega) (by rw [hrl]; omega) (ltn Z) λw2 hw2 _=>?_
  refine sA Z<|sN<|nK [1,5,8,9,10] Z<|ax<|xB<|xT<|cR<|sV (aI Z Z Za)<|sM Z<|sN<|nK [1,5,8,9,10] Z<|ax<|kG (fu (L:=[T,T2])) ?_
  simp only [lC,lN]
  refine aJ (w2,rows++[[c0,c1,c2,c3,c4]],Res.star [T,T2],i+1) ⟨hlt,hw2,by rw [hsn]; exact Rws.snoc ⟨hro.1,λj us x h1 h2=>Enc.up (bE .here)<|hro.2 j us x h1 h2⟩ (Enc.up (bE<|.there .here) hT2)⟩<|Nat.sub_lt_sub_left hlt<|Nat.lt_succ_self i
 ·have hil:i=xs.length:=by
   have:¬ i<xs.length:=Zx
   omega
  subst hil
  rw [List.take_length] at hro
  refine aB<|xE<|xE<|xY<|xT<|cQ<|sM Z<|sA Z<|sK [4] Z<|cT (dY (r:=VR w 218 5 rows) slq λhok=>?_)
  refine kG (fu (L:=[VR w 218 5 rows,T])) ?_
  simp only [lC,lN]
  have hls:Ls (Res.star [VR w 218 5 rows,T]) w xs:=Rws.ls (E:=218) ⟨hro.1,λj us x h1 h2=>Enc.up (bE<|.there .here)<|hro.2 j us x h1 h2⟩ hok (bE .here) hsz
  exact aj Z ⟨Res.star [VR w 218 5 rows,T],Z,hls⟩ sbq
theorem uj {xs:List Grp} {kf:FuncId} (hE:Ck.Enters prog kf) (hv:Ls X v xs) (hF:∀ a∈xs,∀ us,Enc.rep X us a->CtN prog kf #[.agg us.toArray] [X] λu T=>∃ us':List Value,u = .agg us'.toArray/\Enc.rep T us' a):CtN prog 120 #[v,.func (.func kf) #[] #[]] [X] λu T=>Ls T u xs:=by
 have hml:maxLen=9223372036854775807:=rfl
 have hrb:reachBytes=140737488351232:=rfl
 have hsz:xs.length * 40≤reachBytes:=hv.sizes
 obtain ⟨a,cap,rfl,hlc,hcm,hnone⟩:=hv.form
 refine aL (n:=22) func120 Z Z (len Z) λhr w0=>?_
 refine cQ<|sA Z<|sN<|nT<|cQ<|sA Z<|sN<|nT<|cS<|cQ<|sM Z<|sV (aF Z underlying53)<|sM Z ?_
 refine sK [1,4,5,8,9,10] Z<|cB<|dK (cO 170 2)<|dK (eO (L:=[]))<|aX (σ := Value×List (List Value)×Res×Nat) (λq=>[(1,.func (.func kf) #[] #[]),(5,q.1),(8,.slice a xs.length cap),(9,.int .i64 xs.length),(10,.int .i64 (q.2.2.2:Nat))]) (λq=>VR q.1 170 2 q.2.1::q.2.2.1::X::hr) (λq=>q.2.2.2≤xs.length/\q.1.oneCell'=true/\Rws q.2.2.1 q.2.1 (xs.take q.2.2.2)) (λq=>xs.length - q.2.2.2) (.slice none 0 0,[],Res.star [],0) ⟨Nat.zero_le _,Z,Rws.nil⟩ ?_
 rintro ⟨w,rows,T,i⟩ ⟨hi,hw,hro⟩
 simp only at hi hw hro
 dsimp only
 refine cQ<|sV (aN Z Z)<|sN<|nT<|cS<|cC Z (λhd=>?_)<|λhd=>?_
 ·have hlt:i<xs.length:=Zx
  have hg:=Zy hlt
  have hmem:=List.getElem_mem hlt
  have hsn:xs.take (i+1)=xs.take i++[xs[i]]:=List.take_succ_eq_append_getElem hlt
  obtain ⟨b,o,cap2,us,e1,hus,hrd,ht⟩:=hv.at hg
  cases e1
  generalize xs[i]=x at hg hmem ht hsn
  have hone:=Enc.ones ht
  have hrl:rows.length=i:=by rw [hro.1,List.length_take]; omega
  refine cK<|xT<|cS<|cB<|cQ<|sV (vI (k:=i) Z Z sl53 Z hlt Z)<|sV (af Z qM hus hrd) ?_
  refine au al170 λb7=>?_
  refine ai (hl:=by rw [hus]; rfl) Z Z Fb hus hone ?_
  refine sK [1,5,7,8,9,10] Z<|cR<|sM Z<|sM Z<|sV (af Z qM hus ah) ?_
  refine aH Z Z hE Z ((hF x hmem us ht)) ?_
  rintro u h' ⟨T2,rfl,us2,rfl,hT2⟩
  simp only [lC,lN]
  have hl2:us2.length=2:=Enc.len hT2
  have ho2:=Enc.ones hT2
  obtain ⟨c0,c1,rfl⟩:=len2 hl2
  refine ak (cells:=[c0,c1]) Z underlying53 mX Z Z Zz (ltn Z) λb62=>?_
  refine dZ [[c0,c1]] Z Z underlying53 mX Z (by decide) (show Sel _ (VR w 170 2 rows) _ from slq) (by simp) Z (λj u2 hu2=>bT<|bV Zt) Zb (by rw [hrl]; omega) (by rw [hrl]; omega) (ltn Z) λw2 hw2 _=>?_
  refine sA Z<|sN<|nK [1,5,8,9,10] Z<|ax<|xB<|xT<|cR<|sV (aI Z Z Za)<|sM Z<|sN<|nK [1,5,8,9,10] Z<|ax<|kG (fu (L:=[T,T2])) ?_
  simp only [lC,lN]
  refine aJ (w2,rows++[[c0,c1]],Res.star [T,T2],i+1) ⟨hlt,hw2,by rw [hsn]; exact Rws.snoc ⟨hro.1,λj us x h1 h2=>Enc.up (bE .here)<|hro.2 j us x h1 h2⟩ (Enc.up (bE<|.there .here) hT2)⟩<|Nat.sub_lt_sub_left hlt<|Nat.lt_succ_self i
 ·have hil:i=xs.length:=by
   have:¬ i<xs.length:=Zx
   omega
  subst hil
  rw [List.take_length] at hro
  refine aB<|xE<|xE<|xY<|xT<|cQ<|sM Z<|sA Z<|sK [4] Z<|cT (dY (r:=VR w 170 2 rows) slq λhok=>?_)
  refine kG (fu (L:=[VR w 170 2 rows,T])) ?_
  simp only [lC,lN]
  have hls:Ls (Res.star [VR w 170 2 rows,T]) w xs:=Rws.ls (E:=170) ⟨hro.1,λj us x h1 h2=>Enc.up (bE<|.there .here)<|hro.2 j us x h1 h2⟩ hok (bE .here) hsz
  exact aj Z ⟨Res.star [VR w 170 2 rows,T],Z,hls⟩ sbq
theorem II {xs:List Mb} {kf:FuncId} (hE:Ck.Enters prog kf) (hv:Ls X v xs) (hF:∀ a∈xs,∀ us,Enc.rep X us a->CtN prog kf #[.agg us.toArray] [X] λu T=>∃ us':List Value,u = .agg us'.toArray/\Enc.rep T us' a):CtN prog 119 #[v,.func (.func kf) #[] #[]] [X] λu T=>Ls T u xs:=by
 have hml:maxLen=9223372036854775807:=rfl
 have hrb:reachBytes=140737488351232:=rfl
 have hsz:xs.length * 232≤reachBytes:=hv.sizes
 obtain ⟨a,cap,rfl,hlc,hcm,hnone⟩:=hv.form
 refine aL (n:=22) func119 Z Z (len Z) λhr w0=>?_
 refine cQ<|sA Z<|sN<|nT<|cQ<|sA Z<|sN<|nT<|cS<|cQ<|sM Z<|sV (aF Z underlying52)<|sM Z ?_
 refine sK [1,4,5,8,9,10] Z<|cB<|dK (cO 75 14)<|dK (eO (L:=[]))<|aX (σ := Value×List (List Value)×Res×Nat) (λq=>[(1,.func (.func kf) #[] #[]),(5,q.1),(8,.slice a xs.length cap),(9,.int .i64 xs.length),(10,.int .i64 (q.2.2.2:Nat))]) (λq=>VR q.1 75 14 q.2.1::q.2.2.1::X::hr) (λq=>q.2.2.2≤xs.length/\q.1.oneCell'=true/\Rws q.2.2.1 q.2.1 (xs.take q.2.2.2)) (λq=>xs.length - q.2.2.2) (.slice none 0 0,[],Res.star [],0) ⟨Nat.zero_le _,Z,Rws.nil⟩ ?_
 rintro ⟨w,rows,T,i⟩ ⟨hi,hw,hro⟩
 simp only at hi hw hro
 dsimp only
 refine cQ<|sV (aN Z Z)<|sN<|nT<|cS<|cC Z (λhd=>?_)<|λhd=>?_
 ·have hlt:i<xs.length:=Zx
  have hg:=Zy hlt
  have hmem:=List.getElem_mem hlt
  have hsn:xs.take (i+1)=xs.take i++[xs[i]]:=List.take_succ_eq_append_getElem hlt
  obtain ⟨b,o,cap2,us,e1,hus,hrd,ht⟩:=hv.at hg
  cases e1
  generalize xs[i]=x at hg hmem ht hsn
  have hone:=Enc.ones ht
  have hrl:rows.length=i:=by rw [hro.1,List.length_take]; omega
  refine cK<|xT<|cS<|cB<|cQ<|sV (vI (k:=i) Z Z oM Z hlt Z)<|sV (af Z eU hus hrd) ?_
  refine au ji λb7=>?_
  refine ai (hl:=by rw [hus]; rfl) Z Z gP hus hone ?_
  refine sK [1,5,7,8,9,10] Z<|cR<|sM Z<|sM Z<|sV (af Z eU hus ah) ?_
  refine aH Z Z hE Z ((hF x hmem us ht)) ?_
  rintro u h' ⟨T2,rfl,us2,rfl,hT2⟩
  simp only [lC,lN]
  have hl2:us2.length=14:=Enc.len hT2
  have ho2:=Enc.ones hT2
  obtain ⟨c0,c1,c2,c3,c4,c5,c6,c7,c8,c9,c10,c11,c12,c13,rfl⟩:=len14 hl2
  refine ak (cells:=[c0,c1,c2,c3,c4,c5,c6,c7,c8,c9,c10,c11,c12,c13]) Z underlying52 vg Z Z Zz (ltn Z) λb62=>?_
  refine dZ [[c0,c1,c2,c3,c4,c5,c6,c7,c8,c9,c10,c11,c12,c13]] Z Z underlying52 vg Z (by decide) (show Sel _ (VR w 75 14 rows) _ from slq) (by simp) Z (λj u2 hu2=>bT<|bV Zt) Zb (by rw [hrl]; omega) (by rw [hrl]; omega) (ltn Z) λw2 hw2 _=>?_
  refine sA Z<|sN<|nK [1,5,8,9,10] Z<|ax<|xB<|xT<|cR<|sV (aI Z Z Za)<|sM Z<|sN<|nK [1,5,8,9,10] Z<|ax<|kG (fu (L:=[T,T2])) ?_
  simp only [lC,lN]
  refine aJ (w2,rows++[[c0,c1,c2,c3,c4,c5,c6,c7,c8,c9,c10,c11,c12,c13]],Res.star [T,T2],i+1) ⟨hlt,hw2,by rw [hsn]; exact Rws.snoc ⟨hro.1,λj us x h1 h2=>Enc.up (bE .here)<|hro.2 j us x h1 h2⟩ (Enc.up (bE<|.there .here) hT2)⟩<|Nat.sub_lt_sub_left hlt<|Nat.lt_succ_self i
 ·have hil:i=xs.length:=by
   have:¬ i<xs.length:=Zx
   omega
  subst hil
  rw [List.take_length] at hro
  refine aB<|xE<|xE<|xY<|xT<|cQ<|sM Z<|sA Z<|sK [4] Z<|cT (dY (r:=VR w 75 14 rows) slq λhok=>?_)
  refine kG (fu (L:=[VR w 75 14 rows,T])) ?_
  simp only [lC,lN]
  have hls:Ls (Res.star [VR w 75 14 rows,T]) w xs:=Rws.ls (E:=75) ⟨hro.1,λj us x h1 h2=>Enc.up (bE<|.there .here)<|hro.2 j us x h1 h2⟩ hok (bE .here) hsz
  exact aj Z ⟨Res.star [VR w 75 14 rows,T],Z,hls⟩ sbq
theorem Gf:∀ (d:Nat) (X:Res) (t:Kt) (us:List Value),t.depth≤d->Ty X us t->CtN prog 114 #[.agg us.toArray] [X] λu T=>∃ us':List Value,u = .agg us'.toArray/\Ty T us' t
 | 0,_,s,_,hd,_=>by cases s; simp [Kt.depth] at hd
 | d+1,X,t,us,hd,hs=>by
  obtain ⟨x,rfl,hx⟩:=eF hs
  have hF:∀ a∈t.args,∀ us,Ty X us a->CtN prog 114 #[.agg us.toArray] [X] λu T=>∃ us':List Value,u = .agg us'.toArray/\Ty T us' a:=λa ha us h=>Gf d X a us (by have:=jI ha; omega) h
  obtain ⟨xa,xc,rfl,_⟩:=id hx.form
  unfold tyC
  refine aL (n:=8) func114 Z Z (len Z) λhr w0=>?_
  refine cQ (aP Z Z λb1=>?_)
  refine au Ak λb2=>?_
  refine sK [1,2] Z<|cQ<|sV (vF Z iN Z)<|sV (vY Z oO) ?_
  refine aH Z Z en184 Z (IB J2 hx hF) ?_
  rintro u h' ⟨T,rfl,hT⟩
  simp only [lC,lN]
  obtain ⟨ua,uc,rfl,_⟩:=id hT.form
  refine sV (vF Z iN Z)<|bf Z Z sz71 ?_
  refine sK [1,2] Z<|cQ<|sV (af Z fU Z ah) ?_
  refine ai Z Z nL Z Z ?_
  refine sK [2] Z<|cT ?_
  exact bD (.cellN Z fU Z slq .nil) ⟨T,Z,_,Z,gN (t:=t) Z hT⟩ sbr
theorem AX {t:Kt} (h:Ty X us t):CtN prog 114 #[.agg us.toArray] [X] λu T=>∃ us':List Value,u = .agg us'.toArray/\Ty T us' t:=Gf t.depth X t us (Nat.le_refl _) h
theorem Gg:∀ (d:Nat) (X:Res) (t:Ex) (us:List Value),t.depth≤d->Enc.rep X us t->CtN prog 247 #[.agg us.toArray] [X] λu T=>∃ us':List Value,u = .agg us'.toArray/\Enc.rep T us' t
 | 0,_,s,_,hd,_=>by cases s; simp [Ex.depth] at hd
 | d+1,X,t,us,hd,hs=>by
  obtain ⟨x,rfl,hx⟩:=lQ hs
  have hF:∀ a∈t.kids,∀ us,Enc.rep X us a->CtN prog 247 #[.agg us.toArray] [X] λu T=>∃ us':List Value,u = .agg us'.toArray/\Enc.rep T us' a:=λa ha us h=>Gg d X a us (by have:=o7 ha; omega) h
  obtain ⟨xa,xc,rfl,_⟩:=id hx.form
  unfold exC
  refine aL (n:=8) func247 Z Z (len Z) λhr w0=>?_
  refine cQ (aP Z Z λb1=>?_)
  refine au JX λb2=>?_
  refine sK [1,2] Z<|cQ<|sV (vF Z jq Z)<|sV (vY Z sO) ?_
  refine aH Z Z en280 Z (IE en247 hx hF) ?_
  rintro u h' ⟨T,rfl,hT⟩
  simp only [lC,lN]
  obtain ⟨ua,uc,rfl,_⟩:=id hT.form
  refine sV (vF Z jq Z)<|bf Z Z sz214 ?_
  refine sK [1,2] Z<|cQ<|sV (af Z jR Z ah) ?_
  refine ai Z Z Ad Z Z ?_
  refine sK [2] Z<|cT ?_
  exact bD (.cellN Z jR Z slq .nil) ⟨T,Z,_,Z,CW (t:=t) Z hT⟩ sbr
theorem NN {t:Ex} (h:Enc.rep X us t):CtN prog 247 #[.agg us.toArray] [X] λu T=>∃ us':List Value,u = .agg us'.toArray/\Enc.rep T us' t:=Gg t.depth X t us (Nat.le_refl _) h
theorem NP {a:Vr} (h:Enc.rep X us a):CtN prog 176 #[.agg us.toArray] [X] λu T=>∃ us':List Value,u = .agg us'.toArray/\Enc.rep T us' a:=by
 obtain ⟨x,rfl,hx⟩:=Eo h
 obtain ⟨xa,xc,rfl,_⟩:=id hx.form
 have hc:=AX<|gN (t:=a.ty) rfl hx
 unfold tyC at hc
 refine aL (n:=8) func176 Z Z (len Z) λhr w0=>?_
 refine cQ (aP Z Z λb1=>?_)
 refine au JW λb2=>?_
 refine sK [1,2] Z<|cQ<|sV (vF Z mD Z)<|sV (af Z fU Z<|bF (us:=[sv a.name,.int .i64 a.ty.kind,sv a.ty.name,.slice xa a.ty.args.length xc,.bool a.ty.void,.bool a.ty.sep]) (vs:=[.int .i64 a.ty.kind,sv a.ty.name,.slice xa a.ty.args.length xc,.bool a.ty.void,.bool a.ty.sep]) (k:=1) ah Z) ?_
 refine aH Z Z J2 Z (hc) ?_
 rintro u h' ⟨T,rfl,us',rfl,hT⟩
 simp only [lC,lN]
 obtain ⟨y,rfl,hy⟩:=eF hT
 obtain ⟨ya,yc,rfl,_⟩:=id hy.form
 unfold tyC
 refine sV (vF rfl mD rfl)<|ik rfl rfl nL rfl (λu hu=>by simp at hu; rcases hu with rfl | rfl | rfl | rfl | rfl <;> rfl) (show Sel _ (pt b1<|cl [sv a.name,.int .i64 a.ty.kind,sv a.ty.name,.slice xa a.ty.args.length xc,.bool a.ty.void,.bool a.ty.sep] 132) _ from slq) (by simp) ?_
 rw [show splice [sv a.name,.int .i64 a.ty.kind,sv a.ty.name,.slice xa a.ty.args.length xc,.bool a.ty.void,.bool a.ty.sep] (0+1) [.int .i64 a.ty.kind,sv a.ty.name,.slice ya a.ty.args.length yc,.bool a.ty.void,.bool a.ty.sep]=[sv a.name,.int .i64 a.ty.kind,sv a.ty.name,.slice ya a.ty.args.length yc,.bool a.ty.void,.bool a.ty.sep] from rfl]
 refine sK [1,2] Z<|cQ<|sV (af Z vz Z ah) ?_
 refine ai Z Z Co Z Z ?_
 refine sK [2] Z<|cT ?_
 exact bD (.cellN Z vz Z slq .nil) ⟨T,Z,_,Z,_,Z,gN (t:=a.ty) Z hy⟩ sbr
theorem NQ {a:Cla} (h:Enc.rep X us a):CtN prog 192 #[.agg us.toArray] [X] λu T=>∃ us':List Value,u = .agg us'.toArray/\Enc.rep T us' a:=by
 obtain ⟨x,rfl,hx⟩:=Ep h
 obtain ⟨xa,xc,rfl,_⟩:=id hx.form
 have hc:=NN<|CW (t:=a.ex) rfl hx
 unfold exC at hc
 refine aL (n:=8) func192 Z Z (len Z) λhr w0=>?_
 refine cQ (aP Z Z λb1=>?_)
 refine au JY λb2=>?_
 refine sK [1,2] Z<|cQ<|sV (vF Z oZ Z)<|sV (af Z jR Z<|bF (us:=[sv a.tag,.int .i64 a.ex.kind,sv a.ex.name,.int .i64 a.ex.num,.slice xa a.ex.kids.length xc]) (vs:=[.int .i64 a.ex.kind,sv a.ex.name,.int .i64 a.ex.num,.slice xa a.ex.kids.length xc]) (k:=1) ah Z) ?_
 refine aH Z Z en247 Z (hc) ?_
 rintro u h' ⟨T,rfl,us',rfl,hT⟩
 simp only [lC,lN]
 obtain ⟨y,rfl,hy⟩:=lQ hT
 obtain ⟨ya,yc,rfl,_⟩:=id hy.form
 unfold exC
 refine sV (vF rfl oZ rfl)<|ik rfl rfl Ad rfl (λu hu=>by simp at hu; rcases hu with rfl | rfl | rfl | rfl <;> rfl) (show Sel _ (pt b1<|cl [sv a.tag,.int .i64 a.ex.kind,sv a.ex.name,.int .i64 a.ex.num,.slice xa a.ex.kids.length xc] 218) _ from slq) (by simp) ?_
 rw [show splice [sv a.tag,.int .i64 a.ex.kind,sv a.ex.name,.int .i64 a.ex.num,.slice xa a.ex.kids.length xc] (0+1) [.int .i64 a.ex.kind,sv a.ex.name,.int .i64 a.ex.num,.slice ya a.ex.kids.length yc]=[sv a.tag,.int .i64 a.ex.kind,sv a.ex.name,.int .i64 a.ex.num,.slice ya a.ex.kids.length yc] from rfl]
 refine sK [1,2] Z<|cQ<|sV (af Z yD Z ah) ?_
 refine ai Z Z Cr Z Z ?_
 refine sK [2] Z<|cT ?_
 exact bD (.cellN Z yD Z slq .nil) ⟨T,Z,_,Z,_,Z,CW (t:=a.ex) Z hy⟩ sbr
theorem AY {a:Grp} (h:Enc.rep X us a):CtN prog 121 #[.agg us.toArray] [X] λu T=>∃ us':List Value,u = .agg us'.toArray/\Enc.rep T us' a:=by
 obtain ⟨x,rfl,hx⟩:=h
 obtain ⟨xa,xc,rfl,_⟩:=id hx.form
 refine aL (n:=8) func121 Z Z (len Z) λhr w0=>?_
 refine cQ (aP Z Z λb1=>?_)
 refine au al170 λb2=>?_
 refine sK [1,2] Z<|cQ<|sV (vF Z rR Z)<|sV (vY Z tH) ?_
 refine aH Z Z en191 Z (IG en192 hx λ_ _ _ h=>NQ h) ?_
 rintro u h' ⟨T,rfl,hT⟩
 simp only [lC,lN]
 obtain ⟨ya,yc,rfl,_⟩:=id hT.form
 refine sV (vF Z rR Z)<|bf Z Z sz42 ?_
 refine sK [1,2] Z<|cQ<|sV (af Z qM Z ah) ?_
 refine ai Z Z Fb Z Z ?_
 refine sK [2] Z<|cT ?_
 exact bD (.cellN Z qM Z slq .nil) ⟨T,Z,_,Z,_,Z,hT⟩ sbr
theorem Gh {xs:List Sd} (hv:Ls X v xs):CtN prog 163 #[v] [X] λu T=>∃ rows,T=VR u 69 2 rows/\u.oneCell'=true/\Rws X rows xs:=by
 have hrb:reachBytes=140737488351232:=rfl
 have hsz:xs.length * 32≤reachBytes:=hv.sizes
 obtain ⟨a,cap,rfl,hlc,hcm,hnone⟩:=hv.form
 refine aL (n:=8) func163 Z Z (len Z) λhr w0=>?_
 refine cQ<|sA Z<|sN<|nT<|cS<|cQ<|sM Z<|sV (dI Z Z underlying67)<|sK [0,2,4] Z ?_
 cases a with
 | none =>
  refine aQ Z ?_
  refine cQ<|sA Z<|sK [2] Z<|cT<|xR<|jC (cO 69 2) ?_
  have hx0:xs=[]:=List.eq_nil_of_length_eq_zero (by have:=hnone rfl; omega)
  exact aj Z ⟨_,Z,[],Z,Z,by rw [hx0]; exact Rws.nil⟩ sbq
 | some a =>
  refine aG Z ?_
  refine cK<|xT<|cQ (Aq underlying67 Cu λb5=>?_)
  refine sM Z (rA hv.1 Z Z underlying67 Cu Z (by decide) (show Sel _ (VR (.slice (some ⟨b5,0,none⟩) 0 0) 69 2 []) _ from slq) (show Sel _ X _ from slq) (λus x _ h=>List.all_eq_true.1<|Enc.ones h) (by simp <;> omega) (by simp <;> omega) (ltn Z) λv7 n1 hv7 q1 q2 q3=>?_)
  refine sA Z<|sK [2] Z<|cT ?_
  exact aj Z ⟨_,Z,n1,Z,hv7,q1,q3⟩ sbq
theorem mJ {xs:List Nm} (hv:Ls X v xs):CtN prog 174 #[v] [X] λu T=>∃ rows,T=VR u 9 1 rows/\u.oneCell'=true/\Rws X rows xs:=by
 have hrb:reachBytes=140737488351232:=rfl
 have hsz:xs.length * 16≤reachBytes:=hv.sizes
 obtain ⟨a,cap,rfl,hlc,hcm,hnone⟩:=hv.form
 refine aL (n:=8) func174 Z Z (len Z) λhr w0=>?_
 refine cQ<|sA Z<|sN<|nT<|cS<|cQ<|sM Z<|sV (dI Z Z underlying40)<|sK [0,2,4] Z ?_
 cases a with
 | none =>
  refine aQ Z ?_
  refine cQ<|sA Z<|sK [2] Z<|cT<|xR<|jC (cO 9 1) ?_
  have hx0:xs=[]:=List.eq_nil_of_length_eq_zero (by have:=hnone rfl; omega)
  exact aj Z ⟨_,Z,[],Z,Z,by rw [hx0]; exact Rws.nil⟩ sbq
 | some a =>
  refine aG Z ?_
  refine cK<|xT<|cQ (Aq underlying40 fH λb5=>?_)
  refine sM Z (rA hv.1 Z Z underlying40 fH Z (by decide) (show Sel _ (VR (.slice (some ⟨b5,0,none⟩) 0 0) 9 1 []) _ from slq) (show Sel _ X _ from slq) (λus x _ h=>List.all_eq_true.1<|Enc.ones h) (by simp <;> omega) (by simp <;> omega) (ltn Z) λv7 n1 hv7 q1 q2 q3=>?_)
  refine sA Z<|sK [2] Z<|cT ?_
  exact aj Z ⟨_,Z,n1,Z,hv7,q1,q3⟩ sbq
theorem rC {xs:List Vr} (hv:Ls X v xs):CtN prog 200 #[v] [X] λu T=>∃ rows,T=VR u 132 6 rows/\u.oneCell'=true/\Rws X rows xs:=by
 have hrb:reachBytes=140737488351232:=rfl
 have hsz:xs.length * 72≤reachBytes:=hv.sizes
 obtain ⟨a,cap,rfl,hlc,hcm,hnone⟩:=hv.form
 refine aL (n:=8) func200 Z Z (len Z) λhr w0=>?_
 refine cQ<|sA Z<|sN<|nT<|cS<|cQ<|sM Z<|sV (dI Z Z underlying70)<|sK [0,2,4] Z ?_
 cases a with
 | none =>
  refine aQ Z ?_
  refine cQ<|sA Z<|sK [2] Z<|cT<|xR<|jC (cO 132 6) ?_
  have hx0:xs=[]:=List.eq_nil_of_length_eq_zero (by have:=hnone rfl; omega)
  exact aj Z ⟨_,Z,[],Z,Z,by rw [hx0]; exact Rws.nil⟩ sbq
 | some a =>
  refine aG Z ?_
  refine cK<|xT<|cQ (Aq underlying70 DW λb5=>?_)
  refine sM Z (rA hv.1 Z Z underlying70 DW Z (by decide) (show Sel _ (VR (.slice (some ⟨b5,0,none⟩) 0 0) 132 6 []) _ from slq) (show Sel _ X _ from slq) (λus x _ h=>List.all_eq_true.1<|Enc.ones h) (by simp <;> omega) (by simp <;> omega) (ltn Z) λv7 n1 hv7 q1 q2 q3=>?_)
  refine sA Z<|sK [2] Z<|cT ?_
  exact aj Z ⟨_,Z,n1,Z,hv7,q1,q3⟩ sbq
theorem Gi {xs:List Cm} (hv:Ls X v xs):CtN prog 262 #[v] [X] λu T=>∃ rows,T=VR u 191 18 rows/\u.oneCell'=true/\Rws X rows xs:=by
 have hrb:reachBytes=140737488351232:=rfl
 have hsz:xs.length * 280≤reachBytes:=hv.sizes
 obtain ⟨a,cap,rfl,hlc,hcm,hnone⟩:=hv.form
 refine aL (n:=8) func262 Z Z (len Z) λhr w0=>?_
 refine cQ<|sA Z<|sN<|nT<|cS<|cQ<|sM Z<|sV (dI Z Z underlying187)<|sK [0,2,4] Z ?_
 cases a with
 | none =>
  refine aQ Z ?_
  refine cQ<|sA Z<|sK [2] Z<|cT<|xR<|jC (cO 191 18) ?_
  have hx0:xs=[]:=List.eq_nil_of_length_eq_zero (by have:=hnone rfl; omega)
  exact aj Z ⟨_,Z,[],Z,Z,by rw [hx0]; exact Rws.nil⟩ sbq
 | some a =>
  refine aG Z ?_
  refine cK<|xT<|cQ (Aq underlying187 Ae λb5=>?_)
  refine sM Z (rA hv.1 Z Z underlying187 Ae Z (by decide) (show Sel _ (VR (.slice (some ⟨b5,0,none⟩) 0 0) 191 18 []) _ from slq) (show Sel _ X _ from slq) (λus x _ h=>List.all_eq_true.1<|Enc.ones h) (by simp <;> omega) (by simp <;> omega) (ltn Z) λv7 n1 hv7 q1 q2 q3=>?_)
  refine sA Z<|sK [2] Z<|cT ?_
  exact aj Z ⟨_,Z,n1,Z,hv7,q1,q3⟩ sbq
theorem Gj {xs:List Mb} (hv:Ls X v xs):CtN prog 160 #[v] [X] λu T=>∃ rows,T=VR u 75 14 rows/\u.oneCell'=true/\Rws X rows xs:=by
 have hrb:reachBytes=140737488351232:=rfl
 have hsz:xs.length * 232≤reachBytes:=hv.sizes
 obtain ⟨a,cap,rfl,hlc,hcm,hnone⟩:=hv.form
 refine aL (n:=8) func160 Z Z (len Z) λhr w0=>?_
 refine cQ<|sA Z<|sN<|nT<|cS<|cQ<|sM Z<|sV (dI Z Z underlying52)<|sK [0,2,4] Z ?_
 cases a with
 | none =>
  refine aQ Z ?_
  refine cQ<|sA Z<|sK [2] Z<|cT<|xR<|jC (cO 75 14) ?_
  have hx0:xs=[]:=List.eq_nil_of_length_eq_zero (by have:=hnone rfl; omega)
  exact aj Z ⟨_,Z,[],Z,Z,by rw [hx0]; exact Rws.nil⟩ sbq
 | some a =>
  refine aG Z ?_
  refine cK<|xT<|cQ (Aq underlying52 vg λb5=>?_)
  refine sM Z (rA hv.1 Z Z underlying52 vg Z (by decide) (show Sel _ (VR (.slice (some ⟨b5,0,none⟩) 0 0) 75 14 []) _ from slq) (show Sel _ X _ from slq) (λus x _ h=>List.all_eq_true.1<|Enc.ones h) (by simp <;> omega) (by simp <;> omega) (ltn Z) λv7 n1 hv7 q1 q2 q3=>?_)
  refine sA Z<|sK [2] Z<|cT ?_
  exact aj Z ⟨_,Z,n1,Z,hv7,q1,q3⟩ sbq
end
end Go.Fl
