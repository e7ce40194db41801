/-
  Package flat: whether types,variables,expressions,groups,members,flat forms are equal. Conditions: what is read.
-/
import Derived.Test.YtknmacdbffgjgaaGreatDoorM11
import Derived.Test.YtknmacdbffgjgaaGreatDoorM9
set_option linter.unusedVariables false
set_option linter.unusedSimpArgs false
set_option maxRecDepth 100000
set_option maxHeartbeats 16000000
namespace Go.Fl
open Go Go.RowKit Go.Ck Go.Proofs Go.Proofs.Tryz Go.Proofs.YtknmacdbffgjgaaGreatDoor Fx Go.Hr
attribute [local irreducible] Go.Ck.Sub St Cd Xt Nx DrL LsW
theorem rH {α : Type} (g : α → Bool) (xs:List α):decide ((0:Int)≤ixI (xs.findIdx? g))=xs.any g:=by
 cases h:xs.findIdx? g with
 | none =>
  have:=List.findIdx?_eq_none_iff.1 h
  rw [show ixI none = -1 from rfl,show decide ((0:Int) ≤ -1)=false from rfl]
  symm
  rw [List.any_eq_false]
  intro x hx
  rw [this x hx]; decide
 | some i =>
  obtain ⟨h1,h2,_⟩:=List.findIdx?_eq_some_iff_getElem.1 h
  rw [show ixI (some i)=(i:Int) from rfl,decide_eq_true (Int.natCast_nonneg i)]
  symm
  rw [List.any_eq_true]
  exact ⟨xs[i],List.getElem_mem h1,h2⟩
theorem vC {α : Type} {g : α → Bool} {xs:List α}:(xs.findIdx? g=none∧xs.find? g=none)∨∃ i x,xs.findIdx? g=some i∧xs[i]? = some x∧xs.find? g=some x∧i<xs.length:=by
 cases h:xs.findIdx? g with
 | none =>
  left
  refine ⟨Z,?_⟩
  rw [List.find?_eq_none]
  intro x hx
  rw [List.findIdx?_eq_none_iff.1 h x hx]; decide
 | some i =>
  right
  obtain ⟨h1,h2,h3⟩:=List.findIdx?_eq_some_iff_getElem.1 h
  exact ⟨i,xs[i],Z,List.getElem?_eq_getElem h1,List.find?_eq_some_iff_getElem.2 ⟨h2,i,h1,Z,fun j hj=>by simpa using h3 j hj⟩,h1⟩
section
variable {X:Res} {v:Value}
theorem Nt {xs:List Sd} {kf:FuncId} {cp:Array Value} {g:Sd→Bool} (hv:Ls X v xs) (hE:Ck.Enters prog kf) (hf:∀ a∈xs,∀ us,Enc.rep X us a→Reads prog kf (#[]++([.agg us.toArray]:List Value).toArray++cp) [X] (.bool (g a))):Reads prog 31 #[v,.func (.func kf) #[] cp] [X] (.bool (xs.any g)):=by
 rw [← rH]
 obtain ⟨a,cap,rfl,hlc,hcm,_⟩:=id hv.form
 refine aL (n:=9) func31 Z Z (len Z) fun hr w0=>?_
 refine cQ (sV (vA9 Z) (sN (nT (cQ (sM Z (sM Z (bg Z Z en100 Z (K6 hv hE hf) ?_)))))))
 refine sV (pg Z Z) (sV (vA9 Z) (sN (nK9 [4] Z (nT (cT ?_)))))
 exact aj Z ⟨Z,Z⟩ sbq
theorem Nu {xs:List Grp} {kf:FuncId} {cp:Array Value} {g:Grp→Bool} (hv:Ls X v xs) (hE:Ck.Enters prog kf) (hf:∀ a∈xs,∀ us,Enc.rep X us a→Reads prog kf (#[]++([.agg us.toArray]:List Value).toArray++cp) [X] (.bool (g a))):Reads prog 93 #[v,.func (.func kf) #[] cp] [X] (.bool (xs.any g)):=by
 rw [← rH]
 obtain ⟨a,cap,rfl,hlc,hcm,_⟩:=id hv.form
 refine aL (n:=9) func93 Z Z (len Z) fun hr w0=>?_
 refine cQ (sV (vA9 Z) (sN (nT (cQ (sM Z (sM Z (bg Z Z en167 Z (K7 hv hE hf) ?_)))))))
 refine sV (pg Z Z) (sV (vA9 Z) (sN (nK9 [4] Z (nT (cT ?_)))))
 exact aj Z ⟨Z,Z⟩ sbq
theorem K9 {xs:List Mb} {kf:FuncId} {cp:Array Value} {g:Mb→Bool} (hv:Ls X v xs) (hE:Ck.Enters prog kf) (hf:∀ a∈xs,∀ us,Enc.rep X us a→Reads prog kf (#[]++([.agg us.toArray]:List Value).toArray++cp) [X] (.bool (g a))):Reads prog 132 #[v,.func (.func kf) #[] cp] [X] (.bool (xs.any g)):=by
 rw [← rH]
 obtain ⟨a,cap,rfl,hlc,hcm,_⟩:=id hv.form
 refine aL (n:=9) func132 Z Z (len Z) fun hr w0=>?_
 refine cQ (sV (vA9 Z) (sN (nT (cQ (sM Z (sM Z (bg Z Z en222 Z (xk hv hE hf) ?_)))))))
 refine sV (pg Z Z) (sV (vA9 Z) (sN (nK9 [4] Z (nT (cT ?_)))))
 exact aj Z ⟨Z,Z⟩ sbq
theorem La {xs:List Vr} {kf:FuncId} {cp:Array Value} {g:Vr→Bool} (hv:Ls X v xs) (hE:Ck.Enters prog kf) (hf:∀ a∈xs,∀ us,Enc.rep X us a→Reads prog kf (#[]++([.agg us.toArray]:List Value).toArray++cp) [X] (.bool (g a))):Reads prog 135 #[v,.func (.func kf) #[] cp] [X] (.bool (xs.any g)):=by
 rw [← rH]
 obtain ⟨a,cap,rfl,hlc,hcm,_⟩:=id hv.form
 refine aL (n:=9) func135 Z Z (len Z) fun hr w0=>?_
 refine cQ (sV (vA9 Z) (sN (nT (cQ (sM Z (sM Z (bg Z Z en223 Z (K8 hv hE hf) ?_)))))))
 refine sV (pg Z Z) (sV (vA9 Z) (sN (nK9 [4] Z (nT (cT ?_)))))
 exact aj Z ⟨Z,Z⟩ sbq
theorem Nv {us:List Value} {c:FC} (h:Enc.rep X us c):Reads prog 118 #[.agg us.toArray] [] (sv c.name):=by
 obtain ⟨a,b,e,f,i,rfl,_⟩:=h
 refine aL (n:=5) func118 Z Z (len Z) fun hr w0=>?_
 refine cQ (aV Z Z fun b1=>?_)
 refine sV (vA9 Z) (sN (nK9 [1,2] Z (nT (cQ (sV (vF Z dH Z) (sV (vY Z ld9) ?_))))))
 refine sV (vA9 Z) (sN (nK9 [2] Z (nT (cT ?_))))
 exact aj Z ⟨Z,Z⟩ sbq
theorem Nw {us:List Value} {c:Fe} (h:Enc.rep X us c):Reads prog 112 #[.agg us.toArray] [] (sv c.name):=by
 obtain ⟨x2,x3,ts,x9,x10,x11,x12,x13,x14,rfl,_,_,h3,_⟩:=h
 obtain ⟨y,rfl,_⟩:=ek h3
 unfold feC tyC
 refine aL (n:=5) func112 Z Z (len Z) fun hr w0=>?_
 refine cQ (aV Z Z fun b1=>?_)
 refine sV (vA9 Z) (sN (nK9 [1,2] Z (nT (cQ (sV (vF Z oJ Z) (sV (vY Z ld9) ?_))))))
 refine sV (vA9 Z) (sN (nK9 [2] Z (nT (cT ?_))))
 exact aj Z ⟨Z,Z⟩ sbq
theorem Ny {us:List Value} {c:Fm} (h:Enc.rep X us c):Reads prog 144 #[.agg us.toArray] [] (sv c.name):=by
 have h:us=[sv c.name,sv c.bound]:=h
 subst h
 refine aL (n:=5) func144 Z Z (len Z) fun hr w0=>?_
 refine cQ (aV Z Z fun b1=>?_)
 refine sV (vA9 Z) (sN (nK9 [1,2] Z (nT (cQ (sV (vF Z Jv Z) (sV (vY Z ld9) ?_))))))
 refine sV (vA9 Z) (sN (nK9 [2] Z (nT (cT ?_))))
 exact aj Z ⟨Z,Z⟩ sbq
theorem FK {us:List Value} {c:Pn} (h:Enc.rep X us c):Reads prog 149 #[.agg us.toArray] [] (sv c.fro):=by
 have h:us=[sv c.fro,sv c.to]:=h
 subst h
 refine aL (n:=5) func149 Z Z (len Z) fun hr w0=>?_
 refine cQ (aV Z Z fun b1=>?_)
 refine sV (vA9 Z) (sN (nK9 [1,2] Z (nT (cQ (sV (vF Z zf Z) (sV (vY Z ld9) ?_))))))
 refine sV (vA9 Z) (sN (nK9 [2] Z (nT (cT ?_))))
 exact aj Z ⟨Z,Z⟩ sbq
theorem Nz {us:List Value} {c:Mb} (h:Enc.rep X us c):Reads prog 170 #[.agg us.toArray] [] (sv c.name):=by
 obtain ⟨x2,x5,ts,x11,x12,x13,rfl,_,_,h3,_⟩:=h
 obtain ⟨y,rfl,_⟩:=ek h3
 unfold mbC tyC
 refine aL (n:=5) func170 Z Z (len Z) fun hr w0=>?_
 refine cQ (aV Z Z fun b1=>?_)
 refine sV (vA9 Z) (sN (nK9 [1,2] Z (nT (cQ (sV (vF Z eH Z) (sV (vY Z ld9) ?_))))))
 refine sV (vA9 Z) (sN (nK9 [2] Z (nT (cT ?_))))
 exact aj Z ⟨Z,Z⟩ sbq
def fe0:Fe:=⟨0,[],[],[],.mk 0 [] [] false false,[],[]⟩
def pn0:Pn:=⟨[],[]⟩
theorem HY {us:List Value} {c:FC} {b4 b5:Nat} {n:Nm} (h:Enc.rep X us c):Reads prog 190 #[.agg us.toArray,.pointer (some ⟨b5,0,none⟩),.pointer (some ⟨b4,0,none⟩)] [pt b5 (cl [.func (.func 118) #[] #[]] 197),pt b4 (cl [sv n] 9)] (.bool (c.name == n)):=by
 have hn:=Nv h
 obtain ⟨a,b,e,f,i,rfl,_⟩:=id h
 refine aL (n:=10) func190 Z Z (len Z) fun hr w0=>?_
 refine cQ (aV Z Z fun b3=>?_)
 refine sV (vA9 Z) (sN (nK9 [1,2,3,4] Z (nT (cS (bB (ork [(0,1),(1,1),(2,1),(3,1),(4,1),(5,2)] .nil) (fun _=>true) mixed (by kernel_rfl) ?_)))))
 refine bu Z (vY Z ld197) ?_
 refine bu Z (ag Z gG Z af) ?_
 refine kZ Z Z Z en118 Z (hn) ?_
 refine bu Z (vY Z ld9) ?_
 refine bu Z (iL Z Z) (dV Z (vA9 Z) (bA (nK9 [4] Z (nT (cT ?_)))))
 exact aj Z ⟨Z,Z⟩ sbq
theorem HZ {us:List Value} {c:Fe} {b4 b5:Nat} {n:Nm} (h:Enc.rep X us c):Reads prog 183 #[.agg us.toArray,.pointer (some ⟨b5,0,none⟩),.pointer (some ⟨b4,0,none⟩)] [pt b5 (cl [.func (.func 112) #[] #[]] 186),pt b4 (cl [sv n] 9)] (.bool (c.name == n)):=by
 have hn:=Nw h
 obtain ⟨x2,x3,ts,x9,x10,x11,x12,x13,x14,rfl,_,_,h3,_⟩:=id h
 obtain ⟨y,rfl,_⟩:=ek h3
 unfold feC tyC
 refine aL (n:=10) func183 Z Z (len Z) fun hr w0=>?_
 refine cQ (aV Z Z fun b3=>?_)
 refine sV (vA9 Z) (sN (nK9 [1,2,3,4] Z (nT (cS (bB (ork [(0,1),(1,1),(2,1),(3,1),(4,1),(5,2)] .nil) (fun _=>true) mixed (by kernel_rfl) ?_)))))
 refine bu Z (vY Z ld186) ?_
 refine bu Z (ag Z nH Z af) ?_
 refine kZ Z Z Z en112 Z (hn) ?_
 refine bu Z (vY Z ld9) ?_
 refine bu Z (iL Z Z) (dV Z (vA9 Z) (bA (nK9 [4] Z (nT (cT ?_)))))
 exact aj Z ⟨Z,Z⟩ sbq
theorem H5 {us:List Value} {c:Mb} {b4 b5:Nat} {n:Nm} (h:Enc.rep X us c):Reads prog 236 #[.agg us.toArray,.pointer (some ⟨b5,0,none⟩),.pointer (some ⟨b4,0,none⟩)] [pt b5 (cl [.func (.func 170) #[] #[]] 249),pt b4 (cl [sv n] 9)] (.bool (c.name == n)):=by
 have hn:=Nz h
 obtain ⟨x2,x5,ts,x11,x12,x13,rfl,_,_,h3,_⟩:=id h
 obtain ⟨y,rfl,_⟩:=ek h3
 unfold mbC tyC
 refine aL (n:=10) func236 Z Z (len Z) fun hr w0=>?_
 refine cQ (aV Z Z fun b3=>?_)
 refine sV (vA9 Z) (sN (nK9 [1,2,3,4] Z (nT (cS (bB (ork [(0,1),(1,1),(2,1),(3,1),(4,1),(5,2)] .nil) (fun _=>true) mixed (by kernel_rfl) ?_)))))
 refine bu Z (vY Z ld249) ?_
 refine bu Z (ag Z fB Z af) ?_
 refine kZ Z Z Z en170 Z (hn) ?_
 refine bu Z (vY Z ld9) ?_
 refine bu Z (iL Z Z) (dV Z (vA9 Z) (bA (nK9 [4] Z (nT (cT ?_)))))
 exact aj Z ⟨Z,Z⟩ sbq
theorem H6 {us:List Value} {c:Pn} {b4 b5:Nat} {n:Nm} (h:Enc.rep X us c):Reads prog 278 #[.agg us.toArray,.pointer (some ⟨b5,0,none⟩),.pointer (some ⟨b4,0,none⟩)] [pt b5 (cl [.func (.func 149) #[] #[]] 229),pt b4 (cl [sv n] 9)] (.bool (c.fro == n)):=by
 have hn:=FK h
 have h:us=[sv c.fro,sv c.to]:=id h
 subst h
 refine aL (n:=10) func278 Z Z (len Z) fun hr w0=>?_
 refine cQ (aV Z Z fun b3=>?_)
 refine sV (vA9 Z) (sN (nK9 [1,2,3,4] Z (nT (cS (bB (ork [(0,1),(1,1),(2,1),(3,1),(4,1),(5,2)] .nil) (fun _=>true) mixed (by kernel_rfl) ?_)))))
 refine bu Z (vY Z ld229) ?_
 refine bu Z (ag Z qB Z af) ?_
 refine kZ Z Z Z en149 Z (hn) ?_
 refine bu Z (vY Z ld9) ?_
 refine bu Z (iL Z Z) (dV Z (vA9 Z) (bA (nK9 [4] Z (nT (cT ?_)))))
 exact aj Z ⟨Z,Z⟩ sbq
theorem tH {xs:List FC} {n:Nm} (hv:Ls X v xs):Ct prog 117 #[v,sv n,.func (.func 118) #[] #[]] [X] fun u h'=>h'=[X]∧∃ us,u = .tuple #[.agg us.toArray,.bool (xs.find? fun c=>c.name == n).isSome]∧Enc.rep X us ((xs.find? fun c=>c.name == n).getD Bq):=by
 obtain ⟨a,cap,hvf,hlc,hcm,_⟩:=id hv.form
 have hf:∀ b4 b5:Nat,∀ c∈xs,∀ us,Enc.rep (Res.star [pt b5 (cl [.func (.func 118) #[] #[]] 197),pt b4 (cl [sv n] 9),X]) us c→Reads prog 190 (#[]++([.agg us.toArray]:List Value).toArray ++ #[.pointer (some ⟨b5,0,none⟩),.pointer (some ⟨b4,0,none⟩)]) [Res.star [pt b5 (cl [.func (.func 118) #[] #[]] 197),pt b4 (cl [sv n] 9),X]] (.bool (c.name == n)):=fun b4 b5 c _ us h =>
  kQ (Reads.more (HY (b4:=b4) (b5:=b5) (n:=n) h) (.cons .here (.cons .here .nil)))
 subst hvf
 refine aL (n:=20) func117 Z Z (len Z) fun hr w0=>?_
 refine cQ (aV Z Z fun b4=>?_)
 refine aV Z Z fun b5=>?_
 refine au nJ fun b6=>?_
 refine sV (vA9 Z) (sN (nK9 [0,4,5,6,7] Z (nT (cQ (sM Z (sV (bY Z Z) (bg Z Z en150 Z ((eP (K3 (X:=Res.star [pt b5 (cl [.func (.func 118) #[] #[]] 197),pt b4 (cl [sv n] 9),X]) (hv.up' (bH (.there (.there .here)))) en190 (hf b4 b5)))) ?_)))))))
 refine sV (vA9 Z) (sN (nK9 [0,6,7,8] Z (nT (cS (cQ (sM Z (sV (aO Z Z) (sN (nK9 [0,6,7,8,14] Z (nT ?_))))))))))
 rcases vC (g:=fun c:FC=>c.name == n) (xs:=xs) with ⟨h1,h2⟩ | ⟨i,x,h1,h2,h3,hlt⟩
 ·rw [h1,h2]
  refine aT Z ?_
  refine cQ (au nJ fun b9=>?_)
  refine sN (nK9 [0,6,7,8,9] Z (nT (cQ (sV (ag Z gG Z af) ?_))))
  refine ai Z Z lS Z Z ?_
  refine sV (vA9 Z) (sN (nK9 [6,7] Z (nT (cT (xR ?_)))))
  exact bC (.cellN Z gG Z slq (.tmp Z .nil)) ⟨Z,_,Z,⟨_,_,_,_,_,Z,Ls.nil,Ls.nil,Z,Ls.nil,Ls.nil⟩⟩ sbr
 ·rw [h1,h3]
  obtain ⟨b,o,cap2,us,e1,hus,hrd,hre⟩:=hv.at h2
  cases e1
  have hone:=Enc.ones hre
  refine aG Z ?_
  refine cK9 (xT (cQ (sM Z (sM Z (sV (vI (k:=i) Z Z uM Z hlt Z) (sV (ag Z gG hus hrd) ?_))))))
  refine ai (hl:=by rw [hus]; rfl) Z Z lS hus hone ?_
  refine sV (vA9 Z) (sN (nK9 [6,7] Z (nT (cT ?_))))
  exact bC (.cellN Z gG hus slq (.tmp Z .nil)) ⟨Z,us,Z,hre⟩ sbr
theorem iP {xs:List Fe} {n:Nm} (hv:Ls X v xs):Ct prog 111 #[v,sv n,.func (.func 112) #[] #[]] [X] fun u h'=>h'=[X]∧∃ us,u = .tuple #[.agg us.toArray,.bool (xs.find? fun c=>c.name == n).isSome]∧Enc.rep X us ((xs.find? fun c=>c.name == n).getD fe0):=by
 obtain ⟨a,cap,hvf,hlc,hcm,_⟩:=id hv.form
 have hf:∀ b4 b5:Nat,∀ c∈xs,∀ us,Enc.rep (Res.star [pt b5 (cl [.func (.func 112) #[] #[]] 186),pt b4 (cl [sv n] 9),X]) us c→Reads prog 183 (#[]++([.agg us.toArray]:List Value).toArray ++ #[.pointer (some ⟨b5,0,none⟩),.pointer (some ⟨b4,0,none⟩)]) [Res.star [pt b5 (cl [.func (.func 112) #[] #[]] 186),pt b4 (cl [sv n] 9),X]] (.bool (c.name == n)):=fun b4 b5 c _ us h =>
  kQ (Reads.more (HZ (b4:=b4) (b5:=b5) (n:=n) h) (.cons .here (.cons .here .nil)))
 subst hvf
 refine aL (n:=20) func111 Z Z (len Z) fun hr w0=>?_
 refine cQ (aV Z Z fun b4=>?_)
 refine aV Z Z fun b5=>?_
 refine au lm fun b6=>?_
 refine sV (vA9 Z) (sN (nK9 [0,4,5,6,7] Z (nT (cQ (sM Z (sV (bY Z Z) (bg Z Z en151 Z ((eP (K4 (X:=Res.star [pt b5 (cl [.func (.func 112) #[] #[]] 186),pt b4 (cl [sv n] 9),X]) (hv.up' (bH (.there (.there .here)))) en183 (hf b4 b5)))) ?_)))))))
 refine sV (vA9 Z) (sN (nK9 [0,6,7,8] Z (nT (cS (cQ (sM Z (sV (aO Z Z) (sN (nK9 [0,6,7,8,14] Z (nT ?_))))))))))
 rcases vC (g:=fun c:Fe=>c.name == n) (xs:=xs) with ⟨h1,h2⟩ | ⟨i,x,h1,h2,h3,hlt⟩
 ·rw [h1,h2]
  refine aT Z ?_
  refine cQ (au lm fun b9=>?_)
  refine sN (nK9 [0,6,7,8,9] Z (nT (cQ (sV (ag Z nH Z af) ?_))))
  refine ai Z Z jP Z Z ?_
  refine sV (vA9 Z) (sN (nK9 [6,7] Z (nT (cT (xR ?_)))))
  exact bC (.cellN Z nH Z slq (.tmp Z .nil)) ⟨Z,_,Z,⟨_,_,_,_,_,_,_,_,_,Z,Ls.nil,Ls.nil,gN Z Ls.nil,Ls.nil,Ls.nil,Z⟩⟩ sbr
 ·rw [h1,h3]
  obtain ⟨b,o,cap2,us,e1,hus,hrd,hre⟩:=hv.at h2
  cases e1
  have hone:=Enc.ones hre
  refine aG Z ?_
  refine cK9 (xT (cQ (sM Z (sM Z (sV (vI (k:=i) Z Z sl41 Z hlt Z) (sV (ag Z nH hus hrd) ?_))))))
  refine ai (hl:=by rw [hus]; rfl) Z Z jP hus hone ?_
  refine sV (vA9 Z) (sN (nK9 [6,7] Z (nT (cT ?_))))
  exact bC (.cellN Z nH hus slq (.tmp Z .nil)) ⟨Z,us,Z,hre⟩ sbr
theorem tJ {xs:List Mb} {n:Nm} (hv:Ls X v xs):Ct prog 169 #[v,sv n,.func (.func 170) #[] #[]] [X] fun u h'=>h'=[X]∧∃ us,u = .tuple #[.agg us.toArray,.bool (xs.find? fun c=>c.name == n).isSome]∧Enc.rep X us ((xs.find? fun c=>c.name == n).getD mb0):=by
 obtain ⟨a,cap,hvf,hlc,hcm,_⟩:=id hv.form
 have hf:∀ b4 b5:Nat,∀ c∈xs,∀ us,Enc.rep (Res.star [pt b5 (cl [.func (.func 170) #[] #[]] 249),pt b4 (cl [sv n] 9),X]) us c→Reads prog 236 (#[]++([.agg us.toArray]:List Value).toArray ++ #[.pointer (some ⟨b5,0,none⟩),.pointer (some ⟨b4,0,none⟩)]) [Res.star [pt b5 (cl [.func (.func 170) #[] #[]] 249),pt b4 (cl [sv n] 9),X]] (.bool (c.name == n)):=fun b4 b5 c _ us h =>
  kQ (Reads.more (H5 (b4:=b4) (b5:=b5) (n:=n) h) (.cons .here (.cons .here .nil)))
 subst hvf
 refine aL (n:=20) func169 Z Z (len Z) fun hr w0=>?_
 refine cQ (aV Z Z fun b4=>?_)
 refine aV Z Z fun b5=>?_
 refine au jQ fun b6=>?_
 refine sV (vA9 Z) (sN (nK9 [0,4,5,6,7] Z (nT (cQ (sM Z (sV (bY Z Z) (bg Z Z en222 Z ((eP (xk (X:=Res.star [pt b5 (cl [.func (.func 170) #[] #[]] 249),pt b4 (cl [sv n] 9),X]) (hv.up' (bH (.there (.there .here)))) en236 (hf b4 b5)))) ?_)))))))
 refine sV (vA9 Z) (sN (nK9 [0,6,7,8] Z (nT (cS (cQ (sM Z (sV (aO Z Z) (sN (nK9 [0,6,7,8,14] Z (nT ?_))))))))))
 rcases vC (g:=fun c:Mb=>c.name == n) (xs:=xs) with ⟨h1,h2⟩ | ⟨i,x,h1,h2,h3,hlt⟩
 ·rw [h1,h2]
  refine aT Z ?_
  refine cQ (au jQ fun b9=>?_)
  refine sN (nK9 [0,6,7,8,9] Z (nT (cQ (sV (ag Z fB Z af) ?_))))
  refine ai Z Z iD Z Z ?_
  refine sV (vA9 Z) (sN (nK9 [6,7] Z (nT (cT (xR ?_)))))
  exact bC (.cellN Z fB Z slq (.tmp Z .nil)) ⟨Z,_,Z,⟨_,_,_,_,_,_,Z,Ls.nil,Ls.nil,gN Z Ls.nil,Ls.nil,Ls.nil,Ls.nil⟩⟩ sbr
 ·rw [h1,h3]
  obtain ⟨b,o,cap2,us,e1,hus,hrd,hre⟩:=hv.at h2
  cases e1
  have hone:=Enc.ones hre
  refine aG Z ?_
  refine cK9 (xT (cQ (sM Z (sM Z (sV (vI (k:=i) Z Z pW Z hlt Z) (sV (ag Z fB hus hrd) ?_))))))
  refine ai (hl:=by rw [hus]; rfl) Z Z iD hus hone ?_
  refine sV (vA9 Z) (sN (nK9 [6,7] Z (nT (cT ?_))))
  exact bC (.cellN Z fB hus slq (.tmp Z .nil)) ⟨Z,us,Z,hre⟩ sbr
theorem H7 {xs:List Pn} {n:Nm} (hv:Ls X v xs):Ct prog 241 #[v,sv n,.func (.func 149) #[] #[]] [X] fun u h'=>h'=[X]∧∃ us,u = .tuple #[.agg us.toArray,.bool (xs.find? fun c=>c.fro == n).isSome]∧Enc.rep X us ((xs.find? fun c=>c.fro == n).getD pn0):=by
 obtain ⟨a,cap,hvf,hlc,hcm,_⟩:=id hv.form
 have hf:∀ b4 b5:Nat,∀ c∈xs,∀ us,Enc.rep (Res.star [pt b5 (cl [.func (.func 149) #[] #[]] 229),pt b4 (cl [sv n] 9),X]) us c→Reads prog 278 (#[]++([.agg us.toArray]:List Value).toArray ++ #[.pointer (some ⟨b5,0,none⟩),.pointer (some ⟨b4,0,none⟩)]) [Res.star [pt b5 (cl [.func (.func 149) #[] #[]] 229),pt b4 (cl [sv n] 9),X]] (.bool (c.fro == n)):=fun b4 b5 c _ us h =>
  kQ (Reads.more (H6 (b4:=b4) (b5:=b5) (n:=n) h) (.cons .here (.cons .here .nil)))
 subst hvf
 refine aL (n:=20) func241 Z Z (len Z) fun hr w0=>?_
 refine cQ (aV Z Z fun b4=>?_)
 refine aV Z Z fun b5=>?_
 refine au ER fun b6=>?_
 refine sV (vA9 Z) (sN (nK9 [0,4,5,6,7] Z (nT (cQ (sM Z (sV (bY Z Z) (bg Z Z en153 Z ((eP (KZ (X:=Res.star [pt b5 (cl [.func (.func 149) #[] #[]] 229),pt b4 (cl [sv n] 9),X]) (hv.up' (bH (.there (.there .here)))) en278 (hf b4 b5)))) ?_)))))))
 refine sV (vA9 Z) (sN (nK9 [0,6,7,8] Z (nT (cS (cQ (sM Z (sV (aO Z Z) (sN (nK9 [0,6,7,8,14] Z (nT ?_))))))))))
 rcases vC (g:=fun c:Pn=>c.fro == n) (xs:=xs) with ⟨h1,h2⟩ | ⟨i,x,h1,h2,h3,hlt⟩
 ·rw [h1,h2]
  refine aT Z ?_
  refine cQ (au ER fun b9=>?_)
  refine sN (nK9 [0,6,7,8,9] Z (nT (cQ (sV (ag Z qB Z af) ?_))))
  refine ai Z Z zT Z Z ?_
  refine sV (vA9 Z) (sN (nK9 [6,7] Z (nT (cT (xR ?_)))))
  exact bC (.cellN Z qB Z slq (.tmp Z .nil)) ⟨Z,_,Z,Z⟩ sbr
 ·rw [h1,h3]
  obtain ⟨b,o,cap2,us,e1,hus,hrd,hre⟩:=hv.at h2
  cases e1
  have hone:=Enc.ones hre
  refine aG Z ?_
  refine cK9 (xT (cQ (sM Z (sM Z (sV (vI (k:=i) Z Z sl86 Z hlt Z) (sV (ag Z qB hus hrd) ?_))))))
  refine ai (hl:=by rw [hus]; rfl) Z Z zT hus hone ?_
  refine sV (vA9 Z) (sN (nK9 [6,7] Z (nT (cT ?_))))
  exact bC (.cellN Z qB hus slq (.tmp Z .nil)) ⟨Z,us,Z,hre⟩ sbr
end
theorem Az:EqS prog 69 2:=EqS.of underlying69 (by kernel_rfl) (by kernel_rfl) (by kernel_rfl) rfl
section
variable {X:Res} {v v':Value}
theorem vD {α : Type} {az bz:List α} {i:Nat} {a b : α} (h1:az[i]? = some a) (h2:bz[i]? = some b) (h:a≠b):az≠bz:=fun e=>by
 rw [e,h2] at h1; exact h (Option.some.inj h1).symm
theorem vE {α : Type} {az bz:List α} {i:Nat} (h:az.take i=bz.take i) {a b : α} (h1:az[i]? = some a) (h2:bz[i]? = some b) (hs:a=b):az.take (i+1)=bz.take (i+1):=by
 subst hs
 obtain ⟨g1,rfl⟩:=List.getElem?_eq_some_iff.1 h1
 obtain ⟨g2,g3⟩:=List.getElem?_eq_some_iff.1 h2
 rw [List.take_succ_eq_append_getElem g1,List.take_succ_eq_append_getElem g2,h,g3]
theorem NA {x y:Sd} (h:(!([x.cls,x.name] == [y.cls,y.name]))=true):x≠y:=by
 rw [JZ] at h; intro e; subst e; simp at h
theorem NB {x y:Sd} (h:(!([x.cls,x.name] == [y.cls,y.name]))=false):x=y:=by
 rw [JZ] at h; cases x; cases y; simp at h; simp [h]
theorem Lb {az bz:List Kt} {kf:FuncId} (hE:Ck.Enters prog kf) (hv:Ls X v az) (hv':Ls X v' bz) (hF:∀ (a b:Kt) us us',a∈az→Enc.rep X us a→Enc.rep X us' b→Reads prog kf #[.agg us.toArray,.agg us'.toArray] [X] (.bool (decide (a=b)))):Reads prog 296 #[v,v',.func (.func kf) #[] #[]] [X] (.bool (decide (az=bz))):=by
 have hml:maxLen=9223372036854775807:=rfl
 obtain ⟨a,cap,rfl,hlc,hcm,hnone⟩:=hv.form
 obtain ⟨a',cap',rfl,hlc',hcm',hnone'⟩:=hv'.form
 refine aL (n:=32) func296 Z Z (len Z) fun hr w0=>?_
 refine cQ (sV (vA9 Z) (sN (nT (cS (cQ (sM Z (sV (aF Z underlying71) (sM Z (sV (aF Z underlying71) (sV (bT Z Z) (sN (nK9 [0,1,2,6,14] Z (nT (cC Z (fun hl=>?_) (fun hl=>?_)))))))))))))))
 ·have hl:¬ az.length=bz.length:=by
   have:¬ (az.length:Int)=bz.length:=by simpa using hl
   omega
  rw [show decide (az=bz)=false from decide_eq_false fun e=>hl (by rw [e])]
  refine cQ (sV (vA9 Z) (sN (nK9 [6] Z (nT (cT (xR ?_))))))
  exact aj Z ⟨Z,Z⟩ sbq
 ·have hl:az.length=bz.length:=by
   have:(az.length:Int)=bz.length:=by simpa using hl
   omega
  refine cK9 (xT (cS (cQ (sM Z (sV (aF Z underlying71) (sM Z (sN (nK9 [1,2,6,15,16,17] Z (nT (cB (aZ (σ := Nat) (fun i=>[(1,.slice a' bz.length cap'),(2,.func (.func kf) #[] #[]),(15,.slice a az.length cap),(16,.int .i64 az.length),(17,.int .i64 (i:Nat))]) (fun _=>X::hr) (fun i=>i≤az.length∧az.take i=bz.take i) (fun i=>az.length - i) 0 ⟨Nat.zero_le _,Z⟩ ?_)))))))))))
  rintro i ⟨hi,hal⟩
  refine cQ (sV (aO Z Z) (sN (nT (cS (cC Z (fun hd=>?_) (fun hd=>?_))))))
  ·have hlt:i<az.length:=by simpa using hd
   have hlt':i<bz.length:=by omega
   have hg:=List.getElem?_eq_getElem hlt
   have hg':=List.getElem?_eq_getElem hlt'
   have hmem:=List.getElem_mem hlt
   obtain ⟨b,o,cap2,us,e1,hus,hrd,ht⟩:=hv.at hg
   cases e1
   obtain ⟨b',o',cap2',us',e1,hus',hrd',ht'⟩:=hv'.at hg'
   cases e1
   generalize az[i]=x at hg hmem ht
   generalize bz[i]=y at hg' ht'
   have hone:=Enc.ones ht
   have hone':=Enc.ones ht'
   refine cK9 (xT (cS (cB (cQ (sM Z (sV (vI (k:=i) Z Z yR Z hlt Z) (sV (ag Z fQ hus hrd) ?_)))))))
   refine au Aa fun b8=>?_
   refine sV (vA9 Z) (ai (hl:=by rw [hus]; rfl) Z Z nD hus hone ?_)
   refine sN (nK9 [1,2,7,8,15,16,17] Z (nT (cQ (sM Z (sM Z (sV (vI (k:=i) Z Z yR Z hlt' Z) (sV (ag Z fQ hus' hrd') ?_)))))))
   refine au Aa fun b9=>?_
   refine ai (hl:=by rw [hus']; rfl) Z Z nD hus' hone' ?_
   refine sN (nK9 [1,2,8,9,15,16,17] Z (nT (cQ (sM Z (sV (ag Z fQ hus af) ?_)))))
   refine sV (ag Z fQ hus' af) ?_
   refine bg Z Z hE Z ((hF x y us us' hmem ht ht')) ?_
   refine sV (bi Z) (sN (nK9 [1,2,15,16,17,30] Z (nT (cC Z (fun hne=>?_) (fun hne=>?_)))))
   ·have hne:x≠y:=by simpa using hne
    rw [show decide (az=bz)=false from decide_eq_false (vD hg hg' hne)]
    refine cQ (sV (vA9 Z) (sN (nK9 [6] Z (nT (cT (xW (xR (xR (xW (xR ?_))))))))))
    exact aj Z ⟨Z,Z⟩ sbq
   ·have hne:x=y:=by simpa using hne
    refine cK9 (xB (xT (cR (sV (aI Z Z (by unfold I64 at *; omega)) (sM Z (sN (nK9 [1,2,15,16,17] Z (ax ?_))))))))
    refine aJ (i+1) ⟨hlt,vE hal hg hg' hne⟩ (Nat.sub_lt_sub_left hlt (Nat.lt_succ_self i))
  ·have hil:i=az.length:=by
    have:¬ i<az.length:=by simpa using hd
    omega
   rw [show decide (az=bz)=true from decide_eq_true (by
    have:=hal
    rw [hil,List.take_length,hl,List.take_length] at this
    exact this)]
   refine aB (xE (xE (xY (xT (cQ (sV (vA9 Z) (sN (nK9 [6] Z (nT (cT ?_))))))))))
   exact aj Z ⟨Z,Z⟩ sbq
theorem CB {az bz:List Vr} {kf:FuncId} (hE:Ck.Enters prog kf) (hv:Ls X v az) (hv':Ls X v' bz) (hF:∀ (a b:Vr) us us',a∈az→Enc.rep X us a→Enc.rep X us' b→Reads prog kf #[.agg us.toArray,.agg us'.toArray] [X] (.bool (decide (a=b)))):Reads prog 215 #[v,v',.func (.func kf) #[] #[]] [X] (.bool (decide (az=bz))):=by
 have hml:maxLen=9223372036854775807:=rfl
 obtain ⟨a,cap,rfl,hlc,hcm,hnone⟩:=hv.form
 obtain ⟨a',cap',rfl,hlc',hcm',hnone'⟩:=hv'.form
 refine aL (n:=32) func215 Z Z (len Z) fun hr w0=>?_
 refine cQ (sV (vA9 Z) (sN (nT (cS (cQ (sM Z (sV (aF Z underlying70) (sM Z (sV (aF Z underlying70) (sV (bT Z Z) (sN (nK9 [0,1,2,6,14] Z (nT (cC Z (fun hl=>?_) (fun hl=>?_)))))))))))))))
 ·have hl:¬ az.length=bz.length:=by
   have:¬ (az.length:Int)=bz.length:=by simpa using hl
   omega
  rw [show decide (az=bz)=false from decide_eq_false fun e=>hl (by rw [e])]
  refine cQ (sV (vA9 Z) (sN (nK9 [6] Z (nT (cT (xR ?_))))))
  exact aj Z ⟨Z,Z⟩ sbq
 ·have hl:az.length=bz.length:=by
   have:(az.length:Int)=bz.length:=by simpa using hl
   omega
  refine cK9 (xT (cS (cQ (sM Z (sV (aF Z underlying70) (sM Z (sN (nK9 [1,2,6,15,16,17] Z (nT (cB (aZ (σ := Nat) (fun i=>[(1,.slice a' bz.length cap'),(2,.func (.func kf) #[] #[]),(15,.slice a az.length cap),(16,.int .i64 az.length),(17,.int .i64 (i:Nat))]) (fun _=>X::hr) (fun i=>i≤az.length∧az.take i=bz.take i) (fun i=>az.length - i) 0 ⟨Nat.zero_le _,Z⟩ ?_)))))))))))
  rintro i ⟨hi,hal⟩
  refine cQ (sV (aO Z Z) (sN (nT (cS (cC Z (fun hd=>?_) (fun hd=>?_))))))
  ·have hlt:i<az.length:=by simpa using hd
   have hlt':i<bz.length:=by omega
   have hg:=List.getElem?_eq_getElem hlt
   have hg':=List.getElem?_eq_getElem hlt'
   have hmem:=List.getElem_mem hlt
   obtain ⟨b,o,cap2,us,e1,hus,hrd,ht⟩:=hv.at hg
   cases e1
   obtain ⟨b',o',cap2',us',e1,hus',hrd',ht'⟩:=hv'.at hg'
   cases e1
   generalize az[i]=x at hg hmem ht
   generalize bz[i]=y at hg' ht'
   have hone:=Enc.ones ht
   have hone':=Enc.ones ht'
   refine cK9 (xT (cS (cB (cQ (sM Z (sV (vI (k:=i) Z Z sl70 Z hlt Z) (sV (ag Z uP hus hrd) ?_)))))))
   refine au JH fun b8=>?_
   refine sV (vA9 Z) (ai (hl:=by rw [hus]; rfl) Z Z BU hus hone ?_)
   refine sN (nK9 [1,2,7,8,15,16,17] Z (nT (cQ (sM Z (sM Z (sV (vI (k:=i) Z Z sl70 Z hlt' Z) (sV (ag Z uP hus' hrd') ?_)))))))
   refine au JH fun b9=>?_
   refine ai (hl:=by rw [hus']; rfl) Z Z BU hus' hone' ?_
   refine sN (nK9 [1,2,8,9,15,16,17] Z (nT (cQ (sM Z (sV (ag Z uP hus af) ?_)))))
   refine sV (ag Z uP hus' af) ?_
   refine bg Z Z hE Z ((hF x y us us' hmem ht ht')) ?_
   refine sV (bi Z) (sN (nK9 [1,2,15,16,17,30] Z (nT (cC Z (fun hne=>?_) (fun hne=>?_)))))
   ·have hne:x≠y:=by simpa using hne
    rw [show decide (az=bz)=false from decide_eq_false (vD hg hg' hne)]
    refine cQ (sV (vA9 Z) (sN (nK9 [6] Z (nT (cT (xW (xR (xR (xW (xR ?_))))))))))
    exact aj Z ⟨Z,Z⟩ sbq
   ·have hne:x=y:=by simpa using hne
    refine cK9 (xB (xT (cR (sV (aI Z Z (by unfold I64 at *; omega)) (sM Z (sN (nK9 [1,2,15,16,17] Z (ax ?_))))))))
    refine aJ (i+1) ⟨hlt,vE hal hg hg' hne⟩ (Nat.sub_lt_sub_left hlt (Nat.lt_succ_self i))
  ·have hil:i=az.length:=by
    have:¬ i<az.length:=by simpa using hd
    omega
   rw [show decide (az=bz)=true from decide_eq_true (by
    have:=hal
    rw [hil,List.take_length,hl,List.take_length] at this
    exact this)]
   refine aB (xE (xE (xY (xT (cQ (sV (vA9 Z) (sN (nK9 [6] Z (nT (cT ?_))))))))))
   exact aj Z ⟨Z,Z⟩ sbq
theorem Lc {az bz:List Ex} {kf:FuncId} (hE:Ck.Enters prog kf) (hv:Ls X v az) (hv':Ls X v' bz) (hF:∀ (a b:Ex) us us',a∈az→Enc.rep X us a→Enc.rep X us' b→Reads prog kf #[.agg us.toArray,.agg us'.toArray] [X] (.bool (decide (a=b)))):Reads prog 279 #[v,v',.func (.func kf) #[] #[]] [X] (.bool (decide (az=bz))):=by
 have hml:maxLen=9223372036854775807:=rfl
 obtain ⟨a,cap,rfl,hlc,hcm,hnone⟩:=hv.form
 obtain ⟨a',cap',rfl,hlc',hcm',hnone'⟩:=hv'.form
 refine aL (n:=32) func279 Z Z (len Z) fun hr w0=>?_
 refine cQ (sV (vA9 Z) (sN (nT (cS (cQ (sM Z (sV (aF Z underlying214) (sM Z (sV (aF Z underlying214) (sV (bT Z Z) (sN (nK9 [0,1,2,6,14] Z (nT (cC Z (fun hl=>?_) (fun hl=>?_)))))))))))))))
 ·have hl:¬ az.length=bz.length:=by
   have:¬ (az.length:Int)=bz.length:=by simpa using hl
   omega
  rw [show decide (az=bz)=false from decide_eq_false fun e=>hl (by rw [e])]
  refine cQ (sV (vA9 Z) (sN (nK9 [6] Z (nT (cT (xR ?_))))))
  exact aj Z ⟨Z,Z⟩ sbq
 ·have hl:az.length=bz.length:=by
   have:(az.length:Int)=bz.length:=by simpa using hl
   omega
  refine cK9 (xT (cS (cQ (sM Z (sV (aF Z underlying214) (sM Z (sN (nK9 [1,2,6,15,16,17] Z (nT (cB (aZ (σ := Nat) (fun i=>[(1,.slice a' bz.length cap'),(2,.func (.func kf) #[] #[]),(15,.slice a az.length cap),(16,.int .i64 az.length),(17,.int .i64 (i:Nat))]) (fun _=>X::hr) (fun i=>i≤az.length∧az.take i=bz.take i) (fun i=>az.length - i) 0 ⟨Nat.zero_le _,Z⟩ ?_)))))))))))
  rintro i ⟨hi,hal⟩
  refine cQ (sV (aO Z Z) (sN (nT (cS (cC Z (fun hd=>?_) (fun hd=>?_))))))
  ·have hlt:i<az.length:=by simpa using hd
   have hlt':i<bz.length:=by omega
   have hg:=List.getElem?_eq_getElem hlt
   have hg':=List.getElem?_eq_getElem hlt'
   have hmem:=List.getElem_mem hlt
   obtain ⟨b,o,cap2,us,e1,hus,hrd,ht⟩:=hv.at hg
   cases e1
   obtain ⟨b',o',cap2',us',e1,hus',hrd',ht'⟩:=hv'.at hg'
   cases e1
   generalize az[i]=x at hg hmem ht
   generalize bz[i]=y at hg' ht'
   have hone:=Enc.ones ht
   have hone':=Enc.ones ht'
   refine cK9 (xT (cS (cB (cQ (sM Z (sV (vI (k:=i) Z Z Jr Z hlt Z) (sV (ag Z nI hus hrd) ?_)))))))
   refine au JI fun b8=>?_
   refine sV (vA9 Z) (ai (hl:=by rw [hus]; rfl) Z Z zU hus hone ?_)
   refine sN (nK9 [1,2,7,8,15,16,17] Z (nT (cQ (sM Z (sM Z (sV (vI (k:=i) Z Z Jr Z hlt' Z) (sV (ag Z nI hus' hrd') ?_)))))))
   refine au JI fun b9=>?_
   refine ai (hl:=by rw [hus']; rfl) Z Z zU hus' hone' ?_
   refine sN (nK9 [1,2,8,9,15,16,17] Z (nT (cQ (sM Z (sV (ag Z nI hus af) ?_)))))
   refine sV (ag Z nI hus' af) ?_
   refine bg Z Z hE Z ((hF x y us us' hmem ht ht')) ?_
   refine sV (bi Z) (sN (nK9 [1,2,15,16,17,30] Z (nT (cC Z (fun hne=>?_) (fun hne=>?_)))))
   ·have hne:x≠y:=by simpa using hne
    rw [show decide (az=bz)=false from decide_eq_false (vD hg hg' hne)]
    refine cQ (sV (vA9 Z) (sN (nK9 [6] Z (nT (cT (xW (xR (xR (xW (xR ?_))))))))))
    exact aj Z ⟨Z,Z⟩ sbq
   ·have hne:x=y:=by simpa using hne
    refine cK9 (xB (xT (cR (sV (aI Z Z (by unfold I64 at *; omega)) (sM Z (sN (nK9 [1,2,15,16,17] Z (ax ?_))))))))
    refine aJ (i+1) ⟨hlt,vE hal hg hg' hne⟩ (Nat.sub_lt_sub_left hlt (Nat.lt_succ_self i))
  ·have hil:i=az.length:=by
    have:¬ i<az.length:=by simpa using hd
    omega
   rw [show decide (az=bz)=true from decide_eq_true (by
    have:=hal
    rw [hil,List.take_length,hl,List.take_length] at this
    exact this)]
   refine aB (xE (xE (xY (xT (cQ (sV (vA9 Z) (sN (nK9 [6] Z (nT (cT ?_))))))))))
   exact aj Z ⟨Z,Z⟩ sbq
theorem Ld {az bz:List Cla} {kf:FuncId} (hE:Ck.Enters prog kf) (hv:Ls X v az) (hv':Ls X v' bz) (hF:∀ (a b:Cla) us us',a∈az→Enc.rep X us a→Enc.rep X us' b→Reads prog kf #[.agg us.toArray,.agg us'.toArray] [X] (.bool (decide (a=b)))):Reads prog 244 #[v,v',.func (.func kf) #[] #[]] [X] (.bool (decide (az=bz))):=by
 have hml:maxLen=9223372036854775807:=rfl
 obtain ⟨a,cap,rfl,hlc,hcm,hnone⟩:=hv.form
 obtain ⟨a',cap',rfl,hlc',hcm',hnone'⟩:=hv'.form
 refine aL (n:=32) func244 Z Z (len Z) fun hr w0=>?_
 refine cQ (sV (vA9 Z) (sN (nT (cS (cQ (sM Z (sV (aF Z underlying42) (sM Z (sV (aF Z underlying42) (sV (bT Z Z) (sN (nK9 [0,1,2,6,14] Z (nT (cC Z (fun hl=>?_) (fun hl=>?_)))))))))))))))
 ·have hl:¬ az.length=bz.length:=by
   have:¬ (az.length:Int)=bz.length:=by simpa using hl
   omega
  rw [show decide (az=bz)=false from decide_eq_false fun e=>hl (by rw [e])]
  refine cQ (sV (vA9 Z) (sN (nK9 [6] Z (nT (cT (xR ?_))))))
  exact aj Z ⟨Z,Z⟩ sbq
 ·have hl:az.length=bz.length:=by
   have:(az.length:Int)=bz.length:=by simpa using hl
   omega
  refine cK9 (xT (cS (cQ (sM Z (sV (aF Z underlying42) (sM Z (sN (nK9 [1,2,6,15,16,17] Z (nT (cB (aZ (σ := Nat) (fun i=>[(1,.slice a' bz.length cap'),(2,.func (.func kf) #[] #[]),(15,.slice a az.length cap),(16,.int .i64 az.length),(17,.int .i64 (i:Nat))]) (fun _=>X::hr) (fun i=>i≤az.length∧az.take i=bz.take i) (fun i=>az.length - i) 0 ⟨Nat.zero_le _,Z⟩ ?_)))))))))))
  rintro i ⟨hi,hal⟩
  refine cQ (sV (aO Z Z) (sN (nT (cS (cC Z (fun hd=>?_) (fun hd=>?_))))))
  ·have hlt:i<az.length:=by simpa using hd
   have hlt':i<bz.length:=by omega
   have hg:=List.getElem?_eq_getElem hlt
   have hg':=List.getElem?_eq_getElem hlt'
   have hmem:=List.getElem_mem hlt
   obtain ⟨b,o,cap2,us,e1,hus,hrd,ht⟩:=hv.at hg
   cases e1
   obtain ⟨b',o',cap2',us',e1,hus',hrd',ht'⟩:=hv'.at hg'
   cases e1
   generalize az[i]=x at hg hmem ht
   generalize bz[i]=y at hg' ht'
   have hone:=Enc.ones ht
   have hone':=Enc.ones ht'
   refine cK9 (xT (cS (cB (cQ (sM Z (sV (vI (k:=i) Z Z sl42 Z hlt Z) (sV (ag Z yw hus hrd) ?_)))))))
   refine au JJ fun b8=>?_
   refine sV (vA9 Z) (ai (hl:=by rw [hus]; rfl) Z Z BV hus hone ?_)
   refine sN (nK9 [1,2,7,8,15,16,17] Z (nT (cQ (sM Z (sM Z (sV (vI (k:=i) Z Z sl42 Z hlt' Z) (sV (ag Z yw hus' hrd') ?_)))))))
   refine au JJ fun b9=>?_
   refine ai (hl:=by rw [hus']; rfl) Z Z BV hus' hone' ?_
   refine sN (nK9 [1,2,8,9,15,16,17] Z (nT (cQ (sM Z (sV (ag Z yw hus af) ?_)))))
   refine sV (ag Z yw hus' af) ?_
   refine bg Z Z hE Z ((hF x y us us' hmem ht ht')) ?_
   refine sV (bi Z) (sN (nK9 [1,2,15,16,17,30] Z (nT (cC Z (fun hne=>?_) (fun hne=>?_)))))
   ·have hne:x≠y:=by simpa using hne
    rw [show decide (az=bz)=false from decide_eq_false (vD hg hg' hne)]
    refine cQ (sV (vA9 Z) (sN (nK9 [6] Z (nT (cT (xW (xR (xR (xW (xR ?_))))))))))
    exact aj Z ⟨Z,Z⟩ sbq
   ·have hne:x=y:=by simpa using hne
    refine cK9 (xB (xT (cR (sV (aI Z Z (by unfold I64 at *; omega)) (sM Z (sN (nK9 [1,2,15,16,17] Z (ax ?_))))))))
    refine aJ (i+1) ⟨hlt,vE hal hg hg' hne⟩ (Nat.sub_lt_sub_left hlt (Nat.lt_succ_self i))
  ·have hil:i=az.length:=by
    have:¬ i<az.length:=by simpa using hd
    omega
   rw [show decide (az=bz)=true from decide_eq_true (by
    have:=hal
    rw [hil,List.take_length,hl,List.take_length] at this
    exact this)]
   refine aB (xE (xE (xY (xT (cQ (sV (vA9 Z) (sN (nK9 [6] Z (nT (cT ?_))))))))))
   exact aj Z ⟨Z,Z⟩ sbq
theorem H8 {az bz:List Sd} (hv:Ls X v az) (hv':Ls X v' bz):Reads prog 38 #[v,v'] [X] (.bool (decide (az=bz))):=by
 have hml:maxLen=9223372036854775807:=rfl
 obtain ⟨a,cap,rfl,hlc,hcm,hnone⟩:=hv.form
 obtain ⟨a',cap',rfl,hlc',hcm',hnone'⟩:=hv'.form
 refine aL (n:=26) func38 Z Z (len Z) fun hr w0=>?_
 refine cQ (sV (vA9 Z) (sN (nT (cS (cQ (sM Z (sV (aF Z underlying67) (sM Z (sV (aF Z underlying67) (sV (bT Z Z) (sN (nK9 [0,1,4,10] Z (nT (cC Z (fun hl=>?_) (fun hl=>?_)))))))))))))))
 ·have hl:¬ az.length=bz.length:=by
   have:¬ (az.length:Int)=bz.length:=by simpa using hl
   omega
  rw [show decide (az=bz)=false from decide_eq_false fun e=>hl (by rw [e])]
  refine cQ (sV (vA9 Z) (sN (nK9 [4] Z (nT (cT (xR ?_))))))
  exact aj Z ⟨Z,Z⟩ sbq
 ·have hl:az.length=bz.length:=by
   have:(az.length:Int)=bz.length:=by simpa using hl
   omega
  refine cK9 (xT (cS (cQ (sM Z (sV (aF Z underlying67) (sM Z (sN (nK9 [0,1,4,12,13] Z (nT (cB (aZ (σ := Nat) (fun i=>[(0,.slice a az.length cap),(1,.slice a' bz.length cap'),(12,.int .i64 az.length),(13,.int .i64 (i:Nat))]) (fun _=>X::hr) (fun i=>i≤az.length∧az.take i=bz.take i) (fun i=>az.length - i) 0 ⟨Nat.zero_le _,Z⟩ ?_)))))))))))
  rintro i ⟨hi,hal⟩
  refine cQ (sV (aO Z Z) (sN (nT (cS (cC Z (fun hd=>?_) (fun hd=>?_))))))
  ·have hlt:i<az.length:=by simpa using hd
   have hlt':i<bz.length:=by omega
   have hg:=List.getElem?_eq_getElem hlt
   have hg':=List.getElem?_eq_getElem hlt'
   obtain ⟨b,o,cap2,us,e1,hus,hrd,ht⟩:=hv.at hg
   cases e1
   obtain ⟨b',o',cap2',us',e1,hus',hrd',ht'⟩:=hv'.at hg'
   cases e1
   generalize az[i]=x at hg ht
   generalize bz[i]=y at hg' ht'
   have ht:us=[sv x.cls,sv x.name]:=ht
   have ht':us'=[sv y.cls,sv y.name]:=ht'
   subst ht ht'
   refine cK9 (xT (cS (cB (cQ (sM Z (sV (vA9 Z) (sN (nK9 [0,1,5,12,13] Z (nT (cS (bB (ork [(0,2),(1,2),(2,2),(3,1),(4,2),(5,2),(6,2),(7,1),(8,1)] .nil) (fun _=>true) mixed (by kernel_rfl) ?_)))))))))))
   refine dV Z (vM Z) (dV Z (vM Z) (dV Z (vI (k:=i) Z Z pX Z hlt Z) (bu Z (ag Z iM Z hrd) ?_)))
   refine dV Z (vM Z) (dV Z (vM Z) (dV Z (vI (k:=i) Z Z pX Z hlt' Z) (bu Z (ag Z iM Z hrd') ?_)))
   refine bu Z (Cc Az Z Z) (bA (nK9 [0,1,12,13,24] Z (nT (cC Z (fun hne=>?_) (fun hne=>?_)))))
   ·have hne:x≠y:=by exact NA hne
    rw [show decide (az=bz)=false from decide_eq_false (vD hg hg' hne)]
    refine cQ (sV (vA9 Z) (sN (nK9 [4] Z (nT (cT (xW (xR (xR (xW (xR ?_))))))))))
    exact aj Z ⟨Z,Z⟩ sbq
   ·have hne:x=y:=by exact NB hne
    refine cK9 (xB (xT (cR (sV (aI Z Z (by unfold I64 at *; omega)) (sM Z (sN (nK9 [0,1,12,13] Z (ax ?_))))))))
    refine aJ (i+1) ⟨hlt,vE hal hg hg' hne⟩ (Nat.sub_lt_sub_left hlt (Nat.lt_succ_self i))
  ·have hil:i=az.length:=by
    have:¬ i<az.length:=by simpa using hd
    omega
   rw [show decide (az=bz)=true from decide_eq_true (by
    have:=hal
    rw [hil,List.take_length,hl,List.take_length] at this
    exact this)]
   refine aB (xE (xE (xY (xT (cQ (sV (vA9 Z) (sN (nK9 [4] Z (nT (cT ?_))))))))))
   exact aj Z ⟨Z,Z⟩ sbq
end
section
variable {X:Res} {v v':Value} {us us':List Value}
theorem Ea {a:Vr} (h:Enc.rep X us a):∃ y,us=[sv a.name,.int .i64 a.ty.kind,sv a.ty.name,y,.bool a.ty.void,.bool a.ty.sep]∧Tys X y a.ty.args:=by
 obtain ⟨ts,rfl,ht⟩:=h
 obtain ⟨y,rfl,hy⟩:=ek ht
 exact ⟨y,Z,hy⟩
theorem Eb {a:Cla} (h:Enc.rep X us a):∃ y,us=[sv a.tag,.int .i64 a.ex.kind,sv a.ex.name,.int .i64 a.ex.num,y]∧Ls X y a.ex.kids:=by
 obtain ⟨ts,rfl,ht⟩:=h
 obtain ⟨y,rfl,hy⟩:=tF ht
 exact ⟨y,Z,hy⟩
def ik (m:Mb) (x2 x5 y x11 x12 x13:Value):List Value:=[sv m.name,.int .i64 m.kind,x2,sv m.impl.cls,sv m.impl.name,x5,.int .i64 m.ty.kind,sv m.ty.name,y,.bool m.ty.void,.bool m.ty.sep,x11,x12,x13]
def mbL (X:Res) (m:Mb) (x2 x5 y x11 x12 x13:Value):Prop:=Ls X x2 m.seeds∧Ls X x5 m.args∧Tys X y m.ty.args∧Ls X x11 m.clients∧Ls X x12 m.pre∧Ls X x13 m.post
theorem dJ {m:Mb} (h:Enc.rep X us m):∃ x2 x5 y x11 x12 x13,us=ik m x2 x5 y x11 x12 x13∧mbL X m x2 x5 y x11 x12 x13:=by
 obtain ⟨x2,x5,ts,x11,x12,x13,rfl,h1,h2,h3,h4⟩:=h
 obtain ⟨y,rfl,hy⟩:=ek h3
 exact ⟨x2,x5,y,x11,x12,x13,Z,h1,h2,hy,h4⟩
theorem pU {m:Mb} {x2 x5 y x11 x12 x13:Value} (h:mbL X m x2 x5 y x11 x12 x13):Enc.rep X (ik m x2 x5 y x11 x12 x13) m:=by
 obtain ⟨h1,h2,h3,h4⟩:=h
 exact ⟨x2,x5,tyC m.ty y,x11,x12,x13,Z,h1,h2,gN Z h3,h4⟩
theorem CE {s t:Kt}:decide (s=t)=((((s.kind == t.kind && s.name == t.name) && s.void == t.void) && s.sep == t.sep) && decide (s.args=t.args)):=by
 obtain ⟨k,n,az,w,p⟩:=s
 obtain ⟨k',n',az',w',p'⟩:=t
 rw [Bool.eq_iff_iff]
 simp only [Kt.kind,Kt.name,Kt.void,Kt.sep,Kt.args,Bool.and_eq_true,beq_iff_eq,decide_eq_true_eq,Kt.mk.injEq]
 constructor
 ·rintro ⟨h1,h2,h3,h4,h5⟩; exact ⟨⟨⟨⟨h1,h2⟩,h4⟩,h5⟩,decide_eq_true h3⟩
 ·rintro ⟨⟨⟨⟨h1,h2⟩,h4⟩,h5⟩,h3⟩; exact ⟨h1,h2,of_decide_eq_true h3,h4,h5⟩
theorem Le {s t:Ex}:decide (s=t)=(((s.kind == t.kind && s.name == t.name) && s.num == t.num) && decide (s.kids=t.kids)):=by
 obtain ⟨k,n,i,l⟩:=s
 obtain ⟨k',n',i',l'⟩:=t
 rw [Bool.eq_iff_iff]
 simp only [Ex.kind,Ex.name,Ex.num,Ex.kids,Bool.and_eq_true,beq_iff_eq,decide_eq_true_eq,Ex.mk.injEq]
 constructor
 ·rintro ⟨h1,h2,h3,h4⟩; exact ⟨⟨⟨h1,h2⟩,h3⟩,decide_eq_true h4⟩
 ·rintro ⟨⟨⟨h1,h2⟩,h3⟩,h4⟩; exact ⟨h1,h2,h3,of_decide_eq_true h4⟩
theorem Lf {s t:Vr}:decide (s=t)=(s.name == t.name && decide (s.ty=t.ty)):=by
 cases s; cases t; rw [Bool.eq_iff_iff]; simp
theorem Lg {s t:Cla}:decide (s=t)=(s.tag == t.tag && decide (s.ex=t.ex)):=by
 cases s; cases t; rw [Bool.eq_iff_iff]; simp
theorem Lh {s t:Grp}:decide (s=t)=(s.cls == t.cls && decide (s.cs=t.cs)):=by
 cases s; cases t; rw [Bool.eq_iff_iff]; simp
theorem xn {s t:Sd}:decide (s=t)=([s.cls,s.name] == [t.cls,t.name]):=by
 cases s; cases t; rw [Bool.eq_iff_iff]; simp
theorem FM : ∀ (d : Nat) (s t : Kt) (us us' : List Value), s.depth ≤ d → Ty X us s → Ty X us' t → Reads prog 267 #[.agg us.toArray, .agg us'.toArray] [X] (.bool (decide (s = t)))
 | 0,s,_,_,_,hd,_,_=>by cases s; simp [Kt.depth] at hd
 | d+1,s,t,us,us',hd,hs,ht=>by
  obtain ⟨x,rfl,hx⟩:=ek hs
  obtain ⟨y,rfl,hy⟩:=ek ht
  have hF:∀ (a b:Kt) us us',a∈s.args→Ty X us a→Ty X us' b→Reads prog 267 #[.agg us.toArray,.agg us'.toArray] [X] (.bool (decide (a=b))):=fun a b us us' ha h1 h2=>FM d a b us us' (by have:=jF ha; omega) h1 h2
  rw [CE]
  unfold tyC
  refine aL (n:=38) func267 Z Z (len Z) fun hr w0=>?_
  refine cQ (aV Z Z fun b2=>?_)
  refine aV Z Z fun b3=>?_
  refine sV (vA9 Z) (sN (nK9 [2,3,4] Z (nT (cQ (sV (vF Z qD Z) (sV (vY Z ld3) ?_))))))
  refine sV (vF Z qD Z) (sV (vY Z ld3) ?_)
  refine sV (dB Z Z) (sM Z (bD (k:=12) (d:=16) (v:=.bool ((s.kind == t.kind) && s.name == t.name)) (fun hcut=>aM (b:=(s.kind == t.kind)) true (fun hg=>?_) (fun hg=>?_)) ?_))
  ·refine aC Z Z hg ?_
   iterate 4 refine aC rfl rfl hg ?_
   refine sV (vP (bO Z hg) Z) ?_
   exact hcut _ uG
  ·refine sG Z (bG Z hg) (vF Z zX Z) (sG Z (bG Z hg) (vY Z ld9) ?_)
   refine sG Z (bG Z hg) (vF Z zX Z) (sG Z (bG Z hg) (vY Z ld9) ?_)
   refine sG Z (bG Z hg) (iL Z Z) (sV (vQ (bO Z hg) Z) ?_)
   exact hcut _ uG
  refine sM Z (bD (k:=19) (d:=23) (v:=.bool (((s.kind == t.kind) && s.name == t.name) && s.void == t.void)) (fun hcut=>aM (b:=((s.kind == t.kind) && s.name == t.name)) true (fun hg=>?_) (fun hg=>?_)) ?_)
  ·refine aC Z Z hg ?_
   iterate 4 refine aC rfl rfl hg ?_
   refine sV (vP (bO Z hg) Z) ?_
   exact hcut _ uG
  ·refine sG Z (bG Z hg) (vF Z oH Z) (sG Z (bG Z hg) (vY Z ld4) ?_)
   refine sG Z (bG Z hg) (vF Z oH Z) (sG Z (bG Z hg) (vY Z ld4) ?_)
   refine sG Z (bG Z hg) (oz underlying4 Z Z) (sV (vQ (bO Z hg) Z) ?_)
   exact hcut _ uG
  refine sM Z (bD (k:=26) (d:=30) (v:=.bool ((((s.kind == t.kind) && s.name == t.name) && s.void == t.void) && s.sep == t.sep)) (fun hcut=>aM (b:=(((s.kind == t.kind) && s.name == t.name) && s.void == t.void)) true (fun hg=>?_) (fun hg=>?_)) ?_)
  ·refine aC Z Z hg ?_
   iterate 4 refine aC rfl rfl hg ?_
   refine sV (vP (bO Z hg) Z) ?_
   exact hcut _ uG
  ·refine sG Z (bG Z hg) (vF Z oI Z) (sG Z (bG Z hg) (vY Z ld4) ?_)
   refine sG Z (bG Z hg) (vF Z oI Z) (sG Z (bG Z hg) (vY Z ld4) ?_)
   refine sG Z (bG Z hg) (oz underlying4 Z Z) (sV (vQ (bO Z hg) Z) ?_)
   exact hcut _ uG
  refine sM Z (bD (k:=33) (d:=37) (v:=.bool (((((s.kind == t.kind) && s.name == t.name) && s.void == t.void) && s.sep == t.sep) && decide (s.args=t.args))) (fun hcut=>aM (b:=((((s.kind == t.kind) && s.name == t.name) && s.void == t.void) && s.sep == t.sep)) true (fun hg=>?_) (fun hg=>?_)) ?_)
  ·refine aC Z Z hg ?_
   iterate 4 refine aC rfl rfl hg ?_
   refine sV (vP (bO Z hg) Z) ?_
   exact hcut _ uG
  ·refine sG Z (bG Z hg) (vF Z iN Z) (sG Z (bG Z hg) (vY Z oG) ?_)
   refine sG Z (bG Z hg) (vF Z iN Z) (sG Z (bG Z hg) (vY Z oG) ?_)
   refine bR Z (bG Z hg) Z Z en296 Z (Lb en267 hx hy hF) ?_
   refine sV (vQ (bO Z hg) Z) ?_
   exact hcut _ uG
  refine sV (vA9 Z) (sN (nK9 [4] Z (nT (cT ?_))))
  exact aj Z ⟨Z,Z⟩ sbq
theorem FN {s t:Kt} (hs:Ty X us s) (ht:Ty X us' t):Reads prog 267 #[.agg us.toArray,.agg us'.toArray] [X] (.bool (decide (s=t))):=FM s.depth s t us us' (Nat.le_refl _) hs ht
theorem FO {s t:Vr} (hs:Enc.rep X us s) (ht:Enc.rep X us' t):Reads prog 216 #[.agg us.toArray,.agg us'.toArray] [X] (.bool (decide (s=t))):=by
 obtain ⟨x,rfl,hx⟩:=Ea hs
 obtain ⟨y,rfl,hy⟩:=Ea ht
 rw [Lf]
 refine aL (n:=17) func216 Z Z (len Z) fun hr w0=>?_
 refine cQ (aV Z Z fun b2=>?_)
 refine aV Z Z fun b3=>?_
 refine sV (vA9 Z) (sN (nK9 [2,3,4] Z (nT (cQ (sV (vF Z JA Z) (sV (vY Z ld9) ?_))))))
 refine sV (vF Z JA Z) (sV (vY Z ld9) ?_)
 refine sV (iL Z Z) (sM Z (bD (k:=12) (d:=16) (v:=.bool ((s.name == t.name) && decide (s.ty=t.ty))) (fun hcut=>aM (b:=(s.name == t.name)) true (fun hg=>?_) (fun hg=>?_)) ?_))
 ·refine aC Z Z hg ?_
  iterate 4 refine aC rfl rfl hg ?_
  refine sV (vP (bO Z hg) Z) ?_
  exact hcut _ uG
 ·refine sG Z (bG Z hg) (vF Z mg Z) (sG Z (bG Z hg) (ag Z fQ Z (bF (us:=[sv s.name,.int .i64 s.ty.kind,sv s.ty.name,x,.bool s.ty.void,.bool s.ty.sep]) (vs:=tyC s.ty x) (k:=1) af Z)) ?_)
  refine sG Z (bG Z hg) (vF Z mg Z) (sG Z (bG Z hg) (ag Z fQ Z (bF (us:=[sv t.name,.int .i64 t.ty.kind,sv t.ty.name,y,.bool t.ty.void,.bool t.ty.sep]) (vs:=tyC t.ty y) (k:=1) af Z)) ?_)
  refine bR Z (bG Z hg) Z Z en267 Z (FN (gN Z hx) (gN Z hy)) ?_
  refine sV (vQ (bO Z hg) Z) ?_
  exact hcut _ uG
 refine sV (vA9 Z) (sN (nK9 [4] Z (nT (cT ?_))))
 exact aj Z ⟨Z,Z⟩ sbq
theorem FP : ∀ (d : Nat) (s t : Ex) (us us' : List Value), s.depth ≤ d → Enc.rep X us s → Enc.rep X us' t → Reads prog 246 #[.agg us.toArray, .agg us'.toArray] [X] (.bool (decide (s = t)))
 | 0,s,_,_,_,hd,_,_=>by cases s; simp [Ex.depth] at hd
 | d+1,s,t,us,us',hd,hs,ht=>by
  obtain ⟨x,rfl,hx⟩:=tF hs
  obtain ⟨y,rfl,hy⟩:=tF ht
  have hF:∀ (a b:Ex) us us',a∈s.kids→Enc.rep X us a→Enc.rep X us' b→Reads prog 246 #[.agg us.toArray,.agg us'.toArray] [X] (.bool (decide (a=b))):=fun a b us us' ha h1 h2=>FP d a b us us' (by have:=sQ ha; omega) h1 h2
  rw [Le]
  unfold exC
  refine aL (n:=31) func246 Z Z (len Z) fun hr w0=>?_
  refine cQ (aV Z Z fun b2=>?_)
  refine aV Z Z fun b3=>?_
  refine sV (vA9 Z) (sN (nK9 [2,3,4] Z (nT (cQ (sV (vF Z JD Z) (sV (vY Z ld3) ?_))))))
  refine sV (vF Z JD Z) (sV (vY Z ld3) ?_)
  refine sV (dB Z Z) (sM Z (bD (k:=12) (d:=16) (v:=.bool ((s.kind == t.kind) && s.name == t.name)) (fun hcut=>aM (b:=(s.kind == t.kind)) true (fun hg=>?_) (fun hg=>?_)) ?_))
  ·refine aC Z Z hg ?_
   iterate 4 refine aC rfl rfl hg ?_
   refine sV (vP (bO Z hg) Z) ?_
   exact hcut _ uG
  ·refine sG Z (bG Z hg) (vF Z JE Z) (sG Z (bG Z hg) (vY Z ld9) ?_)
   refine sG Z (bG Z hg) (vF Z JE Z) (sG Z (bG Z hg) (vY Z ld9) ?_)
   refine sG Z (bG Z hg) (iL Z Z) (sV (vQ (bO Z hg) Z) ?_)
   exact hcut _ uG
  refine sM Z (bD (k:=19) (d:=23) (v:=.bool (((s.kind == t.kind) && s.name == t.name) && s.num == t.num)) (fun hcut=>aM (b:=((s.kind == t.kind) && s.name == t.name)) true (fun hg=>?_) (fun hg=>?_)) ?_)
  ·refine aC Z Z hg ?_
   iterate 4 refine aC rfl rfl hg ?_
   refine sV (vP (bO Z hg) Z) ?_
   exact hcut _ uG
  ·refine sG Z (bG Z hg) (vF Z JF Z) (sG Z (bG Z hg) (vY Z ld3) ?_)
   refine sG Z (bG Z hg) (vF Z JF Z) (sG Z (bG Z hg) (vY Z ld3) ?_)
   refine sG Z (bG Z hg) (dB Z Z) (sV (vQ (bO Z hg) Z) ?_)
   exact hcut _ uG
  refine sM Z (bD (k:=26) (d:=30) (v:=.bool ((((s.kind == t.kind) && s.name == t.name) && s.num == t.num) && decide (s.kids=t.kids))) (fun hcut=>aM (b:=(((s.kind == t.kind) && s.name == t.name) && s.num == t.num)) true (fun hg=>?_) (fun hg=>?_)) ?_)
  ·refine aC Z Z hg ?_
   iterate 4 refine aC rfl rfl hg ?_
   refine sV (vP (bO Z hg) Z) ?_
   exact hcut _ uG
  ·refine sG Z (bG Z hg) (vF Z rA Z) (sG Z (bG Z hg) (vY Z EQ) ?_)
   refine sG Z (bG Z hg) (vF Z rA Z) (sG Z (bG Z hg) (vY Z EQ) ?_)
   refine bR Z (bG Z hg) Z Z en279 Z (Lc en246 hx hy hF) ?_
   refine sV (vQ (bO Z hg) Z) ?_
   exact hcut _ uG
  refine sV (vA9 Z) (sN (nK9 [4] Z (nT (cT ?_))))
  exact aj Z ⟨Z,Z⟩ sbq
theorem NC {s t:Ex} (hs:Enc.rep X us s) (ht:Enc.rep X us' t):Reads prog 246 #[.agg us.toArray,.agg us'.toArray] [X] (.bool (decide (s=t))):=FP s.depth s t us us' (Nat.le_refl _) hs ht
theorem ND {s t:Cla} (hs:Enc.rep X us s) (ht:Enc.rep X us' t):Reads prog 245 #[.agg us.toArray,.agg us'.toArray] [X] (.bool (decide (s=t))):=by
 obtain ⟨x,rfl,hx⟩:=Eb hs
 obtain ⟨y,rfl,hy⟩:=Eb ht
 rw [Lg]
 refine aL (n:=17) func245 Z Z (len Z) fun hr w0=>?_
 refine cQ (aV Z Z fun b2=>?_)
 refine aV Z Z fun b3=>?_
 refine sV (vA9 Z) (sN (nK9 [2,3,4] Z (nT (cQ (sV (vF Z JG Z) (sV (vY Z ld9) ?_))))))
 refine sV (vF Z JG Z) (sV (vY Z ld9) ?_)
 refine sV (iL Z Z) (sM Z (bD (k:=12) (d:=16) (v:=.bool ((s.tag == t.tag) && decide (s.ex=t.ex))) (fun hcut=>aM (b:=(s.tag == t.tag)) true (fun hg=>?_) (fun hg=>?_)) ?_))
 ·refine aC Z Z hg ?_
  iterate 4 refine aC rfl rfl hg ?_
  refine sV (vP (bO Z hg) Z) ?_
  exact hcut _ uG
 ·refine sG Z (bG Z hg) (vF Z uV Z) (sG Z (bG Z hg) (ag Z nI Z (bF (us:=[sv s.tag,.int .i64 s.ex.kind,sv s.ex.name,.int .i64 s.ex.num,x]) (vs:=exC s.ex x) (k:=1) af Z)) ?_)
  refine sG Z (bG Z hg) (vF Z uV Z) (sG Z (bG Z hg) (ag Z nI Z (bF (us:=[sv t.tag,.int .i64 t.ex.kind,sv t.ex.name,.int .i64 t.ex.num,y]) (vs:=exC t.ex y) (k:=1) af Z)) ?_)
  refine bR Z (bG Z hg) Z Z en246 Z (NC (Cy Z hx) (Cy Z hy)) ?_
  refine sV (vQ (bO Z hg) Z) ?_
  exact hcut _ uG
 refine sV (vA9 Z) (sN (nK9 [4] Z (nT (cT ?_))))
 exact aj Z ⟨Z,Z⟩ sbq
theorem NE {s t:Grp} (hs:Enc.rep X us s) (ht:Enc.rep X us' t):Reads prog 182 #[.agg us.toArray,.agg us'.toArray] [X] (.bool (decide (s=t))):=by
 obtain ⟨x,rfl,hx⟩:=hs
 obtain ⟨y,rfl,hy⟩:=ht
 rw [Lh]
 refine aL (n:=17) func182 Z Z (len Z) fun hr w0=>?_
 refine cQ (aV Z Z fun b2=>?_)
 refine aV Z Z fun b3=>?_
 refine sV (vA9 Z) (sN (nK9 [2,3,4] Z (nT (cQ (sV (vF Z JC Z) (sV (vY Z ld9) ?_))))))
 refine sV (vF Z JC Z) (sV (vY Z ld9) ?_)
 refine sV (iL Z Z) (sM Z (bD (k:=12) (d:=16) (v:=.bool ((s.cls == t.cls) && decide (s.cs=t.cs))) (fun hcut=>aM (b:=(s.cls == t.cls)) true (fun hg=>?_) (fun hg=>?_)) ?_))
 ·refine aC Z Z hg ?_
  iterate 4 refine aC rfl rfl hg ?_
  refine sV (vP (bO Z hg) Z) ?_
  exact hcut _ uG
 ·refine sG Z (bG Z hg) (vF Z zg Z) (sG Z (bG Z hg) (vY Z wT) ?_)
  refine sG Z (bG Z hg) (vF Z zg Z) (sG Z (bG Z hg) (vY Z wT) ?_)
  refine bR Z (bG Z hg) Z Z en244 Z (Ld en245 hx hy fun _ _ _ _ _ h1 h2=>ND h1 h2) ?_
  refine sV (vQ (bO Z hg) Z) ?_
  exact hcut _ uG
 refine sV (vA9 Z) (sN (nK9 [4] Z (nT (cT ?_))))
 exact aj Z ⟨Z,Z⟩ sbq
theorem xq {s t:Mb} (hs:Enc.rep X us s) (ht:Enc.rep X us' t):Reads prog 214 #[.agg us.toArray,.agg us'.toArray] [X] (.bool (Sk.sameTy s t)):=by
 obtain ⟨x2,x5,xy,x11,x12,x13,rfl,hx2,hx5,hxy,hx11,hx12,hx13⟩:=dJ hs
 obtain ⟨y2,y5,yy,y11,y12,y13,rfl,hy2,hy5,hyy,hy11,hy12,hy13⟩:=dJ ht
 unfold Sk.sameTy ik
 refine aL (n:=17) func214 Z Z (len Z) fun hr w0=>?_
 refine cQ (aV Z Z fun b2=>?_)
 refine aV Z Z fun b3=>?_
 refine sV (vA9 Z) (sN (nK9 [2,3,4] Z (nT (cQ (sV (vF Z ll Z) (sV (vY Z sF) ?_))))))
 refine sV (vF Z ll Z) (sV (vY Z sF) ?_)
 refine bg Z Z en215 Z (CB en216 hx5 hy5 fun _ _ _ _ _ h1 h2=>FO h1 h2) ?_
 refine sM Z (bD (k:=12) (d:=16) (v:=.bool ((decide (s.args=t.args)) && decide (s.ty=t.ty))) (fun hcut=>aM (b:=(decide (s.args=t.args))) true (fun hg=>?_) (fun hg=>?_)) ?_)
 ·refine aC Z Z hg ?_
  iterate 4 refine aC rfl rfl hg ?_
  refine sV (vP (bO Z hg) Z) ?_
  exact hcut _ uG
 ·refine sG Z (bG Z hg) (vF Z qE Z) (sG Z (bG Z hg) (ag Z fQ Z (bF (us:=ik s x2 x5 xy x11 x12 x13) (vs:=tyC s.ty xy) (k:=6) af Z)) ?_)
  refine sG Z (bG Z hg) (vF Z qE Z) (sG Z (bG Z hg) (ag Z fQ Z (bF (us:=ik t y2 y5 yy y11 y12 y13) (vs:=tyC t.ty yy) (k:=6) af Z)) ?_)
  refine bR Z (bG Z hg) Z Z en267 Z (FN (gN Z hxy) (gN Z hyy)) ?_
  refine sV (vQ (bO Z hg) Z) ?_
  exact hcut _ uG
 refine sV (vA9 Z) (sN (nK9 [4] Z (nT (cT ?_))))
 exact aj Z ⟨Z,Z⟩ sbq
theorem same_ct {s t:Mb} (hs:Enc.rep X us s) (ht:Enc.rep X us' t):Reads prog 218 #[.agg us.toArray,.agg us'.toArray] [X] (.bool (Sk.same s t)):=by
 obtain ⟨x2,x5,xy,x11,x12,x13,rfl,hx2,hx5,hxy,hx11,hx12,hx13⟩:=dJ hs
 obtain ⟨y2,y5,yy,y11,y12,y13,rfl,hy2,hy5,hyy,hy11,hy12,hy13⟩:=dJ ht
 have hst:=xq (pU ⟨hx2,hx5,hxy,hx11,hx12,hx13⟩) (pU ⟨hy2,hy5,hyy,hy11,hy12,hy13⟩)
 unfold Sk.same
 rw [xn]
 unfold ik at *
 refine aL (n:=22) func218 Z Z (len Z) fun hr w0=>?_
 refine cQ (aV Z Z fun b2=>?_)
 refine aV Z Z fun b3=>?_
 refine sV (vA9 Z) (sN (nK9 [2,3,4] Z (nT (cQ (sV (vF Z DF Z) (sV (ag Z iM Z (bF (us:=ik s x2 x5 xy x11 x12 x13) (vs:=[sv s.impl.cls,sv s.impl.name]) (k:=3) af Z)) ?_))))))
 refine sV (vF Z DF Z) (sV (ag Z iM Z (bF (us:=ik t y2 y5 yy y11 y12 y13) (vs:=[sv t.impl.cls,sv t.impl.name]) (k:=3) af Z)) ?_)
 refine sV (jG Az Z Z) (sM Z (bD (k:=12) (d:=16) (v:=.bool (([s.impl.cls,s.impl.name] == [t.impl.cls,t.impl.name]) && decide (s.seeds=t.seeds))) (fun hcut=>aM (b:=([s.impl.cls,s.impl.name] == [t.impl.cls,t.impl.name])) true (fun hg=>?_) (fun hg=>?_)) ?_))
 ·refine aC Z Z hg ?_
  iterate 4 refine aC rfl rfl hg ?_
  refine sV (vP (bO Z hg) Z) ?_
  exact hcut _ uG
 ·refine sG Z (bG Z hg) (vF Z eO Z) (sG Z (bG Z hg) (vY Z qz) ?_)
  refine sG Z (bG Z hg) (vF Z eO Z) (sG Z (bG Z hg) (vY Z qz) ?_)
  refine bR Z (bG Z hg) Z Z en38 Z (H8 hx2 hy2) ?_
  refine sV (vQ (bO Z hg) Z) ?_
  exact hcut _ uG
 refine sM Z (bD (k:=17) (d:=21) (v:=.bool ((([s.impl.cls,s.impl.name] == [t.impl.cls,t.impl.name]) && decide (s.seeds=t.seeds)) && Sk.sameTy s t)) (fun hcut=>aM (b:=(([s.impl.cls,s.impl.name] == [t.impl.cls,t.impl.name]) && decide (s.seeds=t.seeds))) true (fun hg=>?_) (fun hg=>?_)) ?_)
 ·refine aC Z Z hg ?_
  iterate 2 refine aC rfl rfl hg ?_
  refine sV (vP (bO Z hg) Z) ?_
  exact hcut _ uG
 ·refine sG Z (bG Z hg) (ag Z fB Z af) ?_
  refine sG Z (bG Z hg) (ag Z fB Z af) ?_
  refine bR Z (bG Z hg) Z Z JQ Z (hst) ?_
  refine sV (vQ (bO Z hg) Z) ?_
  exact hcut _ uG
 refine sV (vA9 Z) (sN (nK9 [4] Z (nT (cT ?_))))
 exact aj Z ⟨Z,Z⟩ sbq
end
end Go.Fl
