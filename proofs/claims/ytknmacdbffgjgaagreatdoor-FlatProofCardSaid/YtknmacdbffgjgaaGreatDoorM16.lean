/-
  Package flat: comes,as an iterator. Conditions: what is read; as many actual types as formals.
-/
import Derived.Test.YtknmacdbffgjgaaGreatDoorM15
set_option linter.unusedVariables false
set_option linter.unusedSimpArgs false
set_option maxRecDepth 100000
set_option maxHeartbeats 16000000
namespace Go.Ck
open Go Go.RowKit
theorem iU {P:Program} {e:Env} {h:SH} {ty T:TypeId} {x:Operand} {cs:List Value} {fs:Array Field} {k:Nat} {f:Field} {u:Value} (hx:e.ev? x=some (.agg cs.toArray)) (hT:P.underlying T=some (.struct fs)) (hf:fs[k]? = some f) (hA:∀ w,(isAgg f.type).run P w = .ok false w) (hu:cs[f.offset]? = some u):Vop P e h (.field T x k) ty u :=
 ⟨by simp,by simp,λρ w d pos after g hρ _=>by
  simp only [execOp,hρ x _ hx,Instr.field,Sem.run_bind,run_underlying hT,Result.andThen_ok,hf,part,asAgg,Sem.run_pure,hA]
  simp [hu]⟩
end Go.Ck
namespace Go.Fl
open Go Go.RowKit Go.Ck Go.Proofs Go.Proofs.Tryz Go.Proofs.YtknmacdbffgjgaaGreatDoor Fx Go.Hr
attribute [local irreducible] Go.Ck.Sub St Cd Xt Nx DrL LsW
section
variable {X Y:Res} {v v':Value} {us us':List Value}
def FlR (X:Res) (m:List (Nm×Value)) (fl:Nm->Fl):Prop:=∀ n,∃ us:List Value,(bL m n).getD (.agg #[.string ⟨#[]⟩,.bool false,.slice none 0 0,.slice none 0 0]) = .agg us.toArray/\Enc.rep X us (fl n)
theorem FlR.up {m:List (Nm×Value)} {fl:Nm->Fl} (h:FlR X m fl) (he:Ext X Y):FlR Y m fl:=λn=>by
 obtain ⟨us,h1,h2⟩:=h n
 exact ⟨us,h1,Enc.up he.rd h2⟩
def cq (fl:Nm->Fl) (l:FS) (q:Pt×Nat):List Cm:=(fl q.1.name).mems.map (ru (ae l q.1.name).forms q.2 q.1)
def Et (fl:Nm->Fl) (l:FS) (c:FC) (i:Nat):Nat:=((c.pars.zipIdx.take i).flatMap<|cq fl l).length
theorem Ol {c:FC} {i:Nat} (h:i<c.pars.length):c.pars.zipIdx[i]'Zo=(c.pars[i],i):=by simp
theorem LY {fl:Nm->Fl} {l:FS} {c:FC} {i:Nat} (h:i<c.pars.length):Et fl l c (i+1)=Et fl l c i+(fl c.pars[i].name).mems.length:=by
 unfold Et
 rw [List.take_succ_eq_append_getElem Zo,List.flatMap_append,List.length_append,Ol h]
 simp [cq]
theorem Om {fl:Nm->Fl} {l:FS} {c:FC} {i j:Nat} (h:i<c.pars.length) (hj:j<(fl c.pars[i].name).mems.length):(comes fl l c)[Et fl l c i+j]? = some (ru (ae l c.pars[i].name).forms i c.pars[i] (fl c.pars[i].name).mems[j]):=by
 have hz:i<c.pars.zipIdx.length:=Zo
 have h1:c.pars.zipIdx=c.pars.zipIdx.take i++c.pars.zipIdx[i]::c.pars.zipIdx.drop (i+1):=by rw [List.getElem_cons_drop,List.take_append_drop]
 have h2:comes fl l c=(c.pars.zipIdx.take i).flatMap (cq fl l)++(cq fl l c.pars.zipIdx[i]++(c.pars.zipIdx.drop (i+1)).flatMap (cq fl l)):=by
  show c.pars.zipIdx.flatMap (cq fl l)=_
  conv=>lhs; rw [h1]
  rw [List.flatMap_append,List.flatMap_cons]
 rw [h2]
 unfold Et
 rw [List.getElem?_append_right (by omega),Nat.add_sub_cancel_left,Ol h,List.getElem?_append_left (by simpa [cq] using hj)]
 simp [cq,hj]
theorem LZ (fl:Nm->Fl) (l:FS) (c:FC):Et fl l c c.pars.length=(comes fl l c).length:=by
 unfold Et comes
 rw [List.take_of_length_le (by simp)]
 rfl
theorem rws_set {α : Type} [Enc α] {X:Res} {rows:List (List Value)} {xs:List α} (h:Rws X rows xs) {k:Nat} {us:List Value} {a : α} (hr:Enc.rep X us a):Rws X (rows.set k us) (xs.set k a):=by
 refine ⟨by simp [h.1],λj vs x h1 h2=>?_⟩
 by_cases hj:k=j
 ·subst hj
  have e1:k<rows.length:=by simpa using (List.getElem?_eq_some_iff.1 h1).1
  rw [List.getElem?_set_self e1] at h1
  rw [List.getElem?_set_self (by rw [<- h.1]; exact e1)] at h2
  cases h1; cases h2; exact hr
 ·rw [List.getElem?_set_ne hj] at h1 h2
  exact h.2 j vs x h1 h2
theorem map_set {α : Type} {xs:List α} {g : α -> α} {k:Nat} (h:k<xs.length):((xs.take k).map g++xs.drop k).set k (g xs[k])=(xs.take (k+1)).map g++xs.drop (k+1):=by
 have hl:((xs.take k).map g).length=k:=by simp; omega
 rw [List.set_append_right _ _ (by omega),hl,Nat.sub_self,List.drop_eq_getElem_cons h,List.set_cons_zero,List.take_succ_eq_append_getElem h,List.map_append]
 simp
theorem map_at {α : Type} {xs:List α} {g : α -> α} {k:Nat} (h:k<xs.length):((xs.take k).map g++xs.drop k)[k]? = some xs[k]:=by
 have hl:((xs.take k).map g).length=k:=by simp; omega
 rw [List.getElem?_append_right (by omega),hl,Nat.sub_self,List.getElem?_drop,Nat.add_zero,Zy h]
def subV (F:List Fm) (A:List Kt) (a:Vr):Vr:={ a with ty:=dh F A a.ty }
theorem Eu {xs:List Nm} (h:Ls X v xs):wP X v xs:=h.1

theorem GI {σ : Type} {b1 b2 mb yl : Nat} {m : List (Nm × Value)} {fl : Nm -> Fl} {l : FS} {c : FC} {uc : List Value} (Inv : σ -> SH) (Φ : Nat -> Res -> σ -> Prop) (Stop : Nat -> Res -> SH -> Prop) (s0 : σ) (h0 : Φ 0 X s0) (hl : Ls X v l) (hc : Enc.rep X uc c) (hm : FlR X m fl) (hf : ∀ p ∈ c.pars, (ae l p.name).forms.length = p.args.length /\ p.und.length ≤ 1099511627776)
  (hy:∀ (k:Nat) (Y:Res) (s : σ) (x:Cm) (us:List Value),(comes fl l c)[k]? = some x->Ext X Y->Enc.rep Y us x -> Φ k Y s->Yc prog yl #[.agg us.toArray] (Y::mps mb m::Inv s) λu h'=>(u = .bool true/\∃ Y' s',Ext Y Y' /\ Φ (k+1) Y' s'/\h'=Y'::mps mb m::Inv s')∨(u = .bool false/\∃ Y' t,Ext Y Y'/\Stop k Y' t/\h'=Y'::mps mb m::t)) (hmon:∀ k Y Y' s,Ext Y Y' -> Φ k Y s -> Φ k Y' s) :
  Ct prog 237 #[.func (.yield yl) #[] #[],.pointer (some ⟨b1,0,none⟩),.pointer (some ⟨b2,0,none⟩)] (pt b1 (cl uc 44)::pt b2 (cl [v,.map (some mb)] 114)::X::mps mb m::Inv s0) λu h'=>u = .tuple #[] /\
   ((∃ Y s,Ext X Y /\ Φ (comes fl l c).length Y s/\h'=pt b1 (cl uc 44)::pt b2 (cl [v,.map (some mb)] 114)::Y::mps mb m::Inv s)∨∃ k Y t,Ext X Y/\Stop k Y t/\h'=pt b1 (cl uc 44)::pt b2 (cl [v,.map (some mb)] 114)::Y::mps mb m::t):=by
 have hml:maxLen=9223372036854775807:=rfl
 obtain ⟨ca,cb,ce,cf,ci,rfl,hca,hcb,hce,hcf,hci⟩:=gD hc
 obtain ⟨cb,ck,rfl,hck,hckm,_⟩:=id hcb.form
 refine aL (n:=113) func237 Z Z (len Z) λhr w0=>?_
 refine cQ<|sV (vF Z fu Z)<|sV (vY Z mr) ?_
 refine sV (aF Z underlying39)<|sM Z<|sK [0,2,13,14,15] Z<|cB<|aW (σ := Nat×Res × σ) (λq=>[(0,.func (.yield yl) #[] #[]),(2,.pointer (some ⟨b2,0,none⟩)),(13,.slice cb c.pars.length ck),(14,.int .i64 c.pars.length),(15,.int .i64 (q.1:Nat))]) (λq=>pt b1 (cl [sv c.name,.bool c.dfd,ca,.slice cb c.pars.length ck,ce,cf,ci] 44)::pt b2 (cl [v,.map (some mb)] 114)::q.2.1::mps mb m::(Inv q.2.2++hr)) (λq=>q.1≤c.pars.length/\Ext X q.2.1 /\ Φ (Et fl l c q.1) q.2.1 q.2.2) (λq=>c.pars.length - q.1) (0,X,s0) ⟨Nat.zero_le _,Ext.refl X,h0⟩ ?_
 rintro ⟨i,Y,s⟩ ⟨hi,hE,hΦ⟩
 simp only at hi hE hΦ
 dsimp only
 refine cQ<|sV (aN Z Z)<|sN<|nT<|cS<|cC Z (λhd=>?_)<|λhd=>?_
 ·have hlt:i<c.pars.length:=Zx
  have hsucc:=LY (fl:=fl) (l:=l) hlt
  have hat:=λj=>Om (fl:=fl) (l:=l) (j:=j) hlt
  have hfp:=hf c.pars[i]<|List.getElem_mem hlt
  obtain ⟨pb,po,pcap,pus,e1,hpus,hprd,hp⟩:=(hcb.up hE).at<|Zy hlt
  obtain ⟨rfl,rfl⟩:cb=some ⟨pb,po,none⟩/\ck=pcap:=by cases e1; exact ⟨rfl,rfl⟩
  generalize c.pars[i]=p at hsucc hat hfp hp
  have hp0:=hp
  obtain ⟨pa,pr,pu,pd,ps,rfl,hpa,hpr,hpu,hpd,hps⟩:=hp
  obtain ⟨aA,kA,rfl,_⟩:=id hpa.form
  obtain ⟨aR,kR,rfl,_⟩:=id hpr.form
  obtain ⟨aU,kU,rfl,_⟩:=id hpu.form
  obtain ⟨aD,kD,rfl,_⟩:=id hpd.form
  obtain ⟨aS,kS,rfl,_⟩:=id hps.form
  obtain ⟨fus,hfl,hfr⟩:=hm.up hE p.name
  obtain ⟨mx,my,rfl,hmx,hmy⟩:=hfr
  obtain ⟨mA,mK,rfl,_⟩:=id hmx.form
  have hcc:=l9 (n:=p.name) (fv:=.map<|some mb) (hl.up hE) rfl
  refine cK<|xT<|cS<|cB<|cQ<|sM Z<|sV (vI (k:=i) Z Z oW Z hlt Z)<|sV (af Z qD Z hprd) ?_
  refine ak vG λb5=>?_
  refine sA Z<|ai Z Z sH Z Z ?_
  refine sK [0,2,4,5,13,14,15] Z<|cQ<|sV (af Z gZ Z ag) ?_
  refine sV (vF Z gN Z)<|sV (vY Z ld9) ?_
  refine aJ Z Z en56 Z (hcc) ?_
  rintro u h' ⟨rfl,cus,rfl,hcr⟩
  simp only [lC,lN]
  obtain ⟨fa,fb,fc,fd,fe,rfl,hfa,-,-,-,-⟩:=gD hcr
  obtain ⟨fA,fK,rfl,_⟩:=id hfa.form
  refine sV (iU (k:=2) Z underlying44 Z isAgg38 Z)<|sA Z<|sK [0,2,4,5,6,13,14,15] Z<|cQ<|sV (vF Z iX Z)<|sV (vY Z qm) ?_
  refine sV (vF Z gN Z)<|sV (vY Z ld9) ?_
  refine sV (gG hfl<|bI Z Z qj ql slq) ?_
  refine sV (iU (k:=2) Z underlying55 Z isAgg52 Z)<|sV (aF Z underlying52)<|sM Z<|sK [0,2,4,5,6,13,14,15,30,31,32] Z<|cB<|aW (σ := Nat×Res × σ) (λq=>[(0,.func (.yield yl) #[] #[]),(2,.pointer (some ⟨b2,0,none⟩)),(13,.slice (some ⟨pb,po,none⟩) c.pars.length ck),(14,.int .i64 c.pars.length),(15,.int .i64 (i:Nat)),(4,.int .i64 (i:Nat)),(5,.pointer (some ⟨b5,0,none⟩)),(6,.slice fA (ae l p.name).forms.length fK),(30,.slice mA (fl p.name).mems.length mK),(31,.int .i64 (fl p.name).mems.length),(32,.int .i64 (q.1:Nat))]) (λq=>pt b5 (cl [sv p.name,.slice aA p.args.length kA,.slice aR p.ren.length kR,.slice aU p.und.length kU,.slice aD p.red.length kD,.slice aS p.sel.length kS] 88)::pt b1 (cl [sv c.name,.bool c.dfd,ca,.slice (some ⟨pb,po,none⟩) c.pars.length ck,ce,cf,ci] 44)::pt b2 (cl [v,.map (some mb)] 114)::q.2.1::mps mb m::(Inv q.2.2++hr)) (λq=>q.1≤(fl p.name).mems.length/\Ext Y q.2.1 /\ Φ (Et fl l c i+q.1) q.2.1 q.2.2) (λq=>(fl p.name).mems.length - q.1) (0,Y,s) ⟨Nat.zero_le _,Ext.refl Y,hΦ⟩ ?_
  clear hΦ
  rintro ⟨j,Zq,s⟩ ⟨hj,hE2,hΦ⟩
  simp only at hj hE2 hΦ
  dsimp only
  refine cQ<|sV (aN Z Z)<|sN<|nT<|cS<|cC Z (λhd2=>?_)<|λhd2=>?_
  ·have hltj:j<(fl p.name).mems.length:=Zw
   have hatj:=hat j hltj
   obtain ⟨xb,xo,xcap,xus,e2,hxus,hxrd,hx⟩:=(hmx.up hE2).at<|Zy hltj
   obtain ⟨rfl,rfl⟩:mA=some ⟨xb,xo,none⟩/\mK=xcap:=by cases e2; exact ⟨rfl,rfl⟩
   generalize (fl p.name).mems[j]=x at hatj hx
   obtain ⟨x2,x5,xy,x11,x12,x13,rfl,hx2,hx5,hxy,hx11,hx12,hx13⟩:=bZ hx
   obtain ⟨ax2,kx2,rfl,_⟩:=id hx2.form
   obtain ⟨ax5,kx5,rfl,_⟩:=id hx5.form
   obtain ⟨axy,kxy,rfl,_⟩:=id hxy.form
   obtain ⟨ax11,kx11,rfl,_⟩:=id hx11.form
   obtain ⟨ax12,kx12,rfl,_⟩:=id hx12.form
   obtain ⟨ax13,kx13,rfl,_⟩:=id hx13.form
   unfold fI at *
   have hp1:=Enc.up hE2.rd hp0
   refine cK<|xT<|cS<|cB<|cQ<|sV (vI (k:=j) Z Z kQ Z hltj Z)<|sV (af Z dJ Z hxrd) ?_
   refine ak iR λb8=>?_
   refine ai Z Z gF Z Z ?_
   refine sK [0,2,4,5,6,8,13,14,15,30,31,32] Z<|cQ<|sV (vF Z gN Z)<|sV (vY Z ld9) ?_
   refine sV (vF Z dC Z)<|sV (vY Z ld9) ?_
   refine sV (aO (cells:=[sv p.name,sv x.name]) Z<|λ_=>Zz) ?_
   refine sM Z<|sV (af Z dJ Z ag) ?_
   refine sV (vF Z o7 Z)<|sV (vY Z ld3) ?_
   refine sV (aO (cells:=[sv p.name,sv x.name,.int .i64 (i:Nat),sv x.name,.int .i64 x.kind,.slice ax2 x.seeds.length kx2,sv x.impl.cls,sv x.impl.name,.slice ax5 x.args.length kx5,.int .i64 x.ty.kind,sv x.ty.name,.slice axy x.ty.args.length kxy,.bool x.ty.void,.bool x.ty.sep,.slice ax11 x.clients.length kx11,.slice ax12 x.pre.length kx12,.slice ax13 x.post.length kx13,.int .i64 x.kind]) Z<|λ_=>Zz) ?_
   refine ak q8 λb9=>?_
   refine ai Z Z mM Z Z ?_
   refine sK [0,2,4,5,6,8,9,13,14,15,30,31,32] Z<|cQ<|sV (vF Z dW Z)<|sA Z<|sK [0,2,4,5,6,8,9,10,13,14,15,30,31,32] Z<|cQ<|sM Z<|sV (af Z qD Z ag) ?_
   refine sV (vF Z dC Z)<|sV (vY Z ld9) ?_
   refine aJ Z Z en173 Z (uw (n:=x.name) hp1) ?_
   rintro u h' ⟨rfl,rfl⟩
   simp only [lC,lN]
   refine sV (vN Z)<|sV (vF Z dC Z)<|bg Z Z sz9 ?_
   refine sK [0,2,4,5,6,8,9,10,13,14,15,30,31,32] Z<|cS<|cS<|bB (ork [(0,2),(1,1),(2,2),(3,2),(4,2),(5,1),(6,1)] .nil) (λ_=>true) mixed Zz ?_
   refine dV Z (vF Z wN Z)<|bi Z (vY Z fq) ?_
   refine dV Z (vM Z)<|dV Z (vN Z)<|dV Z (vF Z dC Z)<|bi Z (vY Z ld9) ?_
   refine gY Z Z Z D5 Z (fF (Eu<|hpu.up hE2) (bN p x.name) hfp.2) ?_
   refine bA<|nK [0,2,4,5,6,8,9,10,13,14,15,30,31,32,60] Z<|nT<|kX (ex:=.normal) (α := {k:Int // k=if p.und.contains (bN p x.name) then 3 else x.kind}) (λq=>[(0,.func (.yield yl) #[] #[]),(2,.pointer (some ⟨b2,0,none⟩)),(13,.slice (some ⟨pb,po,none⟩) c.pars.length ck),(14,.int .i64 c.pars.length),(15,.int .i64 (i:Nat)),(4,.int .i64 (i:Nat)),(5,.pointer (some ⟨b5,0,none⟩)),(6,.slice fA (ae l p.name).forms.length fK),(30,.slice (some ⟨xb,xo,none⟩) (fl p.name).mems.length mK),(31,.int .i64 (fl p.name).mems.length),(32,.int .i64 (j:Nat)),(8,.pointer (some ⟨b8,0,none⟩)),(9,.pointer (some ⟨b9,0,none⟩)),(10,.pointer (some ⟨b9,3,none⟩))]) (λq=>pt b9 (cl [sv p.name,sv x.name,.int .i64 (i:Nat),sv (bN p x.name),.int .i64 q.1,.slice ax2 x.seeds.length kx2,sv x.impl.cls,sv x.impl.name,.slice ax5 x.args.length kx5,.int .i64 x.ty.kind,sv x.ty.name,.slice axy x.ty.args.length kxy,.bool x.ty.void,.bool x.ty.sep,.slice ax11 x.clients.length kx11,.slice ax12 x.pre.length kx12,.slice ax13 x.post.length kx13,.int .i64 x.kind] 191)::pt b8 (cl [sv x.name,.int .i64 x.kind,.slice ax2 x.seeds.length kx2,sv x.impl.cls,sv x.impl.name,.slice ax5 x.args.length kx5,.int .i64 x.ty.kind,sv x.ty.name,.slice axy x.ty.args.length kxy,.bool x.ty.void,.bool x.ty.sep,.slice ax11 x.clients.length kx11,.slice ax12 x.pre.length kx12,.slice ax13 x.post.length kx13] 75)::pt b5 (cl [sv p.name,.slice aA p.args.length kA,.slice aR p.ren.length kR,.slice aU p.und.length kU,.slice aD p.red.length kD,.slice aS p.sel.length kS] 88)::pt b1 (cl [sv c.name,.bool c.dfd,ca,.slice (some ⟨pb,po,none⟩) c.pars.length ck,ce,cf,ci] 44)::pt b2 (cl [v,.map (some mb)] 114)::Zq::mps mb m::(Inv s++hr)) (λhcont=>?_)<|λq=>?_
   ·refine cC Z (λhu=>?_)<|λhu=>?_
    ·refine cR<|sM Z<|sV (vN Z)<|sV (vF Z o7 Z)<|bg Z Z sz3 ?_
     refine sN<|nK [0,2,4,5,6,8,9,10,13,14,15,30,31,32] Z<|ax ?_
     exact hcont ⟨3,by rw [if_pos hu]⟩ _ _ ⟨Z,Z,Z,Z,Z,Z,Z,Z,Z,Z,Z,Z,Z,Z,trivial⟩ sbq
    ·refine cK ?_
     exact hcont ⟨x.kind,by rw [if_neg (by rw [hu]; decide)]⟩ _ _ ⟨Z,Z,Z,Z,Z,Z,Z,Z,Z,Z,Z,Z,Z,Z,trivial⟩ sbq
   obtain ⟨kd,hkd⟩:=q
   dsimp only
   refine xT<|cQ<|sM Z<|sV (vF Z jL Z)<|sV (vY Z qU) ?_
   refine aJ Z Z en200 Z (oM<|rJ hx5) ?_
   rintro u h' ⟨T1,rfl,rows1,rfl,⟨o1,w1⟩,ua,uk,hu⟩
   rw [w1.1] at hu; subst hu
   simp only [lC,lN]
   refine sV (vN Z)<|sV (vF Z jL Z)<|bg Z Z sz70 ?_
   refine sK [0,2,4,5,6,8,9,10,13,14,15,30,31,32] Z<|cS<|cQ<|sM Z<|sV (vN Z)<|sV (vF Z jL Z)<|sV (vY Z qU) ?_
   refine sV (aF Z underlying70)<|sM Z<|sK [0,2,4,5,6,8,9,10,13,14,15,30,31,32,74,75] Z<|cB<|aW (σ := List (List Value)×Res×Nat) (λq=>[(0,.func (.yield yl) #[] #[]),(2,.pointer (some ⟨b2,0,none⟩)),(13,.slice (some ⟨pb,po,none⟩) c.pars.length ck),(14,.int .i64 c.pars.length),(15,.int .i64 (i:Nat)),(4,.int .i64 (i:Nat)),(5,.pointer (some ⟨b5,0,none⟩)),(6,.slice fA (ae l p.name).forms.length fK),(30,.slice (some ⟨xb,xo,none⟩) (fl p.name).mems.length mK),(31,.int .i64 (fl p.name).mems.length),(32,.int .i64 (j:Nat)),(8,.pointer (some ⟨b8,0,none⟩)),(9,.pointer (some ⟨b9,0,none⟩)),(10,.pointer (some ⟨b9,3,none⟩)),(74,.int .i64 x.args.length),(75,.int .i64 (q.2.2:Nat))]) (λq=>pt b9 (cl [sv p.name,sv x.name,.int .i64 (i:Nat),sv (bN p x.name),.int .i64 kd,.slice ax2 x.seeds.length kx2,sv x.impl.cls,sv x.impl.name,.slice ua x.args.length uk,.int .i64 x.ty.kind,sv x.ty.name,.slice axy x.ty.args.length kxy,.bool x.ty.void,.bool x.ty.sep,.slice ax11 x.clients.length kx11,.slice ax12 x.pre.length kx12,.slice ax13 x.post.length kx13,.int .i64 x.kind] 191)::VR (.slice ua x.args.length uk) 132 6 q.1::pt b8 (cl [sv x.name,.int .i64 x.kind,.slice ax2 x.seeds.length kx2,sv x.impl.cls,sv x.impl.name,.slice ax5 x.args.length kx5,.int .i64 x.ty.kind,sv x.ty.name,.slice axy x.ty.args.length kxy,.bool x.ty.void,.bool x.ty.sep,.slice ax11 x.clients.length kx11,.slice ax12 x.pre.length kx12,.slice ax13 x.post.length kx13] 75)::pt b5 (cl [sv p.name,.slice aA p.args.length kA,.slice aR p.ren.length kR,.slice aU p.und.length kU,.slice aD p.red.length kD,.slice aS p.sel.length kS] 88)::pt b1 (cl [sv c.name,.bool c.dfd,ca,.slice (some ⟨pb,po,none⟩) c.pars.length ck,ce,cf,ci] 44)::pt b2 (cl [v,.map (some mb)] 114)::q.2.1::mps mb m::(Inv s++hr)) (λq=>q.2.2≤x.args.length/\Ext Zq q.2.1/\Rws q.2.1 q.1 ((x.args.take q.2.2).map (subV (ae l p.name).forms p.args)++x.args.drop q.2.2)) (λq=>x.args.length - q.2.2) (rows1,Zq,0) ⟨Nat.zero_le _,Ext.refl Zq,by simpa using w1⟩ ?_
   rintro ⟨rows,W,k⟩ ⟨hk,hE3,hro⟩
   simp only at hk hE3 hro
   dsimp only
   refine cQ<|sV (aN Z Z)<|sN<|nT<|cS<|cC Z (λhd3=>?_)<|λhd3=>?_
   ·have hltk:k<x.args.length:=Zp
    have hset:=map_set (g:=subV (ae l p.name).forms p.args) hltk
    refine fQ (r:=VR (.slice ua x.args.length uk) 132 6 rows) slq λhok=>?_
    have hrl:rows.length=x.args.length:=by rw [hro.1]; simp; omega
    have hkr:k<rows.length:=by omega
    obtain ⟨ub,uo,rfl⟩:∃ ub uo,ua=some ⟨ub,uo,none⟩:=by
     obtain ⟨f0,hf0⟩:=hok
     rcases VR.form hf0 with ⟨h3,h4⟩ | ⟨b,o,cp,h3,-⟩
     ·rw [h4] at hkr; simp at hkr
     ·rw [hrl] at h3; cases h3; exact ⟨b,o,rfl⟩
    have hrow:=Zy hkr
    have hrepk:=hro.2 k _ x.args[k] hrow<|map_at hltk
    generalize hrk:rows[k]=r at hrow hrepk
    generalize x.args[k]=g at hset hrepk
    obtain ⟨ts,rfl,hty⟩:=hrepk
    obtain ⟨gy,rfl,hgy⟩:=ek hty
    obtain ⟨gya,gyc,rfl,_⟩:=id hgy.form
    have hrdT:=bD (k:=1) (vs:=[.int .i64 g.ty.kind,sv g.ty.name,.slice gya g.ty.args.length gyc,.bool g.ty.void,.bool g.ty.sep]) (eX (b:=ub) (o:=uo) (n:=x.args.length) (cp:=uk) (E:=132) (sz:=6) hrow) rfl
    have hcs:=Aj hfp.1 ((hfa.up hE2).up hE3) ((hpa.up hE2).up hE3) hty
    unfold tyC at hcs
    refine cK<|xT<|cS<|cB<|cQ<|sM Z<|sA Z<|sK [0,2,4,5,6,8,9,10,11,13,14,15,30,31,32,74,75] Z<|bB (ork [(0,2),(1,2),(2,2),(3,1),(4,2),(5,2),(6,2),(7,2),(8,1),(9,2),(10,2),(11,2),(12,1),(13,2),(14,2),(15,1),(16,0),(17,2),(18,2),(19,0)] .nil) (λi => !(Nat.beq i 19)) mixed Zz ?_
    refine dV Z (vM Z)<|dV Z (vN Z)<|dV Z (vF Z jL Z)<|bi Z (vY Z qU) ?_
    refine dV Z (vM Z)<|dV Z (vM Z)<|dV Z (vN Z)<|dV Z (vF Z jL Z)<|bi Z (vY Z qU) ?_
    refine dV Z (vM Z)<|dV Z (vI (k:=k) Z Z zH Z hltk Z)<|dV Z (vF Z jV Z)<|bi Z (af Z fD Z hrdT) ?_
    refine dV Z (vM Z)<|dV Z (vF Z wM Z)<|bi Z (vY Z oZ) ?_
    refine aV Z<|aJ Z Z Kb Z (hcs) ?_
    rintro u h' ⟨T,rfl,us5,rfl,hT⟩
    simp only [lC,lN]
    have h5:us5.length=5:=Enc.len hT
    have hone5:=Enc.ones hT
    obtain ⟨t0,t1,t2,t3,t4,rfl⟩:=len5 h5
    refine aY ?_
    refine dV Z (vI (k:=k) Z Z zH Z hltk Z)<|dV Z (vF Z jV Z)<|aV Z<|st_vrS (m:=k) (k:=1) (rows:=rows) Z Z nY Z (λu hu=>List.all_eq_true.1 hone5 u hu) hrow (by decide) slq<|aY ?_
    rw [show splice (sv g.name::tyC g.ty (.slice gya g.ty.args.length gyc)) 1 [t0,t1,t2,t3,t4]=[sv g.name,t0,t1,t2,t3,t4] from rfl]
    refine bA<|nK [0,2,4,5,6,8,9,10,13,14,15,30,31,32,74,75] Z<|ax<|xB<|xT<|cR<|sV (aI Z Z Z0)<|sM Z<|sN<|nK [0,2,4,5,6,8,9,10,13,14,15,30,31,32,74,75] Z<|ax (pW [T] W λW2 hE4 hsel hpk=>?_)
    refine aM (rows.set k [sv g.name,t0,t1,t2,t3,t4],W2,k+1) ⟨hltk,hE3.trans hE4,by rw [<- hset]; exact rws_set (hro.up hE4) ⟨[t0,t1,t2,t3,t4],Z,Enc.up (hpk _ _ .here) hT⟩⟩ (by dsimp only; omega)
   ·have hke:k=x.args.length:=by
     have:¬ k<x.args.length:=Zp
     omega
    subst hke
    rw [List.take_length,List.drop_length,List.append_nil] at hro
    have hcs:=Aj hfp.1 ((hfa.up hE2).up hE3) ((hpa.up hE2).up hE3)<|fZ (t:=x.ty) rfl<|hxy.up hE3
    unfold tyC at hcs
    refine aC<|xE<|xE<|xY<|xT<|cQ<|sM Z<|sV (vF Z nD Z)<|sV (af Z fD Z<|bD (us:=[sv x.name,.int .i64 x.kind,.slice ax2 x.seeds.length kx2,sv x.impl.cls,sv x.impl.name,.slice ax5 x.args.length kx5,.int .i64 x.ty.kind,sv x.ty.name,.slice axy x.ty.args.length kxy,.bool x.ty.void,.bool x.ty.sep,.slice ax11 x.clients.length kx11,.slice ax12 x.pre.length kx12,.slice ax13 x.post.length kx13]) (vs:=[.int .i64 x.ty.kind,sv x.ty.name,.slice axy x.ty.args.length kxy,.bool x.ty.void,.bool x.ty.sep]) (k:=6) ag Z) ?_
    refine sM Z<|sV (vF Z wM Z)<|sV (vY Z oZ) ?_
    refine aJ Z Z Kb Z (hcs) ?_
    rintro u h' ⟨T,rfl,us5,rfl,hT⟩
    simp only [lC,lN]
    obtain ⟨ny,rfl,hny⟩:=ek hT
    obtain ⟨nya,nyc,rfl,_⟩:=id hny.form
    unfold tyC
    refine sV (vN rfl)<|sV (vF rfl nD rfl)<|iF rfl rfl nY rfl (λu hu=>by simp at hu; rcases hu with rfl | rfl | rfl | rfl | rfl <;> rfl) (show Sel _ (pt b9<|cl [sv p.name,sv x.name,.int .i64 (i:Nat),sv (bN p x.name),.int .i64 kd,.slice ax2 x.seeds.length kx2,sv x.impl.cls,sv x.impl.name,.slice ua x.args.length uk,.int .i64 x.ty.kind,sv x.ty.name,.slice axy x.ty.args.length kxy,.bool x.ty.void,.bool x.ty.sep,.slice ax11 x.clients.length kx11,.slice ax12 x.pre.length kx12,.slice ax13 x.post.length kx13,.int .i64 x.kind] 191) _ from slq) (by simp) ?_
    rw [show splice [sv p.name,sv x.name,.int .i64 (i:Nat),sv (bN p x.name),.int .i64 kd,.slice ax2 x.seeds.length kx2,sv x.impl.cls,sv x.impl.name,.slice ua x.args.length uk,.int .i64 x.ty.kind,sv x.ty.name,.slice axy x.ty.args.length kxy,.bool x.ty.void,.bool x.ty.sep,.slice ax11 x.clients.length kx11,.slice ax12 x.pre.length kx12,.slice ax13 x.post.length kx13,.int .i64 x.kind] (3+6) [.int .i64 (dh (ae l p.name).forms p.args x.ty).kind,sv (dh (ae l p.name).forms p.args x.ty).name,.slice nya (dh (ae l p.name).forms p.args x.ty).args.length nyc,.bool (dh (ae l p.name).forms p.args x.ty).void,.bool (dh (ae l p.name).forms p.args x.ty).sep]=[sv p.name,sv x.name,.int .i64 (i:Nat),sv (bN p x.name),.int .i64 kd,.slice ax2 x.seeds.length kx2,sv x.impl.cls,sv x.impl.name,.slice ua x.args.length uk,.int .i64 (dh (ae l p.name).forms p.args x.ty).kind,sv (dh (ae l p.name).forms p.args x.ty).name,.slice nya (dh (ae l p.name).forms p.args x.ty).args.length nyc,.bool (dh (ae l p.name).forms p.args x.ty).void,.bool (dh (ae l p.name).forms p.args x.ty).sep,.slice ax11 x.clients.length kx11,.slice ax12 x.pre.length kx12,.slice ax13 x.post.length kx13,.int .i64 x.kind] from rfl]
    refine sK [0,2,4,5,6,9,13,14,15,30,31,32] Z<|cS (fQ (r:=VR (.slice ua x.args.length uk) 132 6 rows) slq λhok=>?_)
    refine cd_abs2 [T,VR (.slice ua x.args.length uk) 132 6 rows] W λW2 hE4 hsel hpk=>?_
    have hE5:=hE3.trans hE4
    have hargs:Ls W2 (.slice ua x.args.length uk) (x.args.map<|subV (ae l p.name).forms p.args):=by
     have:=Rws.ls (E:=132) (hro.up hE4) hok (hsel _ _<|.there .here) (show (x.args.map<|subV (ae l p.name).forms p.args).length * 72≤reachBytes by rw [List.length_map]; exact hx5.sizes)
     exact this
    have hrc:Enc.rep W2 [sv p.name,sv x.name,.int .i64 (i:Nat),sv (bN p x.name),.int .i64 kd,.slice ax2 x.seeds.length kx2,sv x.impl.cls,sv x.impl.name,.slice ua x.args.length uk,.int .i64 (dh (ae l p.name).forms p.args x.ty).kind,sv (dh (ae l p.name).forms p.args x.ty).name,.slice nya (dh (ae l p.name).forms p.args x.ty).args.length nyc,.bool (dh (ae l p.name).forms p.args x.ty).void,.bool (dh (ae l p.name).forms p.args x.ty).sep,.slice ax11 x.clients.length kx11,.slice ax12 x.pre.length kx12,.slice ax13 x.post.length kx13,.int .i64 x.kind] (ru (ae l p.name).forms i p x):=by
     subst hkd
     exact cm_of (x:=ru (ae l p.name).forms i p x) ⟨hx2.up hE5,hargs,hny.up' (hpk _ _ .here),hx11.up hE5,hx12.up hE5,hx13.up hE5⟩
    have hyy:=hy _ W2 s _ _ hatj ((hE.trans hE2).trans hE5) hrc<|hmon _ _ _ _ hE5 hΦ
    refine cR<|sM Z<|sV (af Z ic Z ag) ?_
    refine uU (gd:=0) (.inl Z) Z Z hyy (Pk.of (hr:=pt b9 (cl [sv p.name,sv x.name,.int .i64 (i:Nat),sv (bN p x.name),.int .i64 kd,.slice ax2 x.seeds.length kx2,sv x.impl.cls,sv x.impl.name,.slice ua x.args.length uk,.int .i64 (dh (ae l p.name).forms p.args x.ty).kind,sv (dh (ae l p.name).forms p.args x.ty).name,.slice nya (dh (ae l p.name).forms p.args x.ty).args.length nyc,.bool (dh (ae l p.name).forms p.args x.ty).void,.bool (dh (ae l p.name).forms p.args x.ty).sep,.slice ax11 x.clients.length kx11,.slice ax12 x.pre.length kx12,.slice ax13 x.post.length kx13,.int .i64 x.kind] 191)::pt b8 (cl [sv x.name,.int .i64 x.kind,.slice ax2 x.seeds.length kx2,sv x.impl.cls,sv x.impl.name,.slice ax5 x.args.length kx5,.int .i64 x.ty.kind,sv x.ty.name,.slice axy x.ty.args.length kxy,.bool x.ty.void,.bool x.ty.sep,.slice ax11 x.clients.length kx11,.slice ax12 x.pre.length kx12,.slice ax13 x.post.length kx13] 75)::pt b5 (cl [sv p.name,.slice aA p.args.length kA,.slice aR p.ren.length kR,.slice aU p.und.length kU,.slice aD p.red.length kD,.slice aS p.sel.length kS] 88)::pt b1 (cl [sv c.name,.bool c.dfd,ca,.slice (some ⟨pb,po,none⟩) c.pars.length ck,ce,cf,ci] 44)::pt b2 (cl [v,.map (some mb)] 114)::hr)<|by exact .cons _<|List.perm_append_comm_assoc [pt b9 (cl [sv p.name,sv x.name,.int .i64 (i:Nat),sv (bN p x.name),.int .i64 kd,.slice ax2 x.seeds.length kx2,sv x.impl.cls,sv x.impl.name,.slice ua x.args.length uk,.int .i64 (dh (ae l p.name).forms p.args x.ty).kind,sv (dh (ae l p.name).forms p.args x.ty).name,.slice nya (dh (ae l p.name).forms p.args x.ty).args.length nyc,.bool (dh (ae l p.name).forms p.args x.ty).void,.bool (dh (ae l p.name).forms p.args x.ty).sep,.slice ax11 x.clients.length kx11,.slice ax12 x.pre.length kx12,.slice ax13 x.post.length kx13,.int .i64 x.kind] 191),pt b8 (cl [sv x.name,.int .i64 x.kind,.slice ax2 x.seeds.length kx2,sv x.impl.cls,sv x.impl.name,.slice ax5 x.args.length kx5,.int .i64 x.ty.kind,sv x.ty.name,.slice axy x.ty.args.length kxy,.bool x.ty.void,.bool x.ty.sep,.slice ax11 x.clients.length kx11,.slice ax12 x.pre.length kx12,.slice ax13 x.post.length kx13] 75),pt b5 (cl [sv p.name,.slice aA p.args.length kA,.slice aR p.ren.length kR,.slice aU p.und.length kU,.slice aD p.red.length kD,.slice aS p.sel.length kS] 88),pt b1 (cl [sv c.name,.bool c.dfd,ca,.slice (some ⟨pb,po,none⟩) c.pars.length ck,ce,cf,ci] 44),pt b2 (cl [v,.map (some mb)] 114)] (mps mb m::Inv s) hr) (ltn Z) ?_
    rintro u h' (⟨rfl,Y2,s2,hE6,hΦ2,rfl⟩ | ⟨rfl,Y2,t,hE6,hS,rfl⟩)
    ·refine sV (aZ Z)<|sK [0,2,4,5,6,13,14,15,30,31,32,110] Z<|aH Z ?_
     refine cK<|xB<|xT<|cR<|sV (aI Z Z Z0)<|sM Z<|sN<|nK [0,2,4,5,6,13,14,15,30,31,32] Z<|ax<|Cu (k:=pt b9 (cl [sv p.name,sv x.name,.int .i64 (i:Nat),sv (bN p x.name),.int .i64 kd,.slice ax2 x.seeds.length kx2,sv x.impl.cls,sv x.impl.name,.slice ua x.args.length uk,.int .i64 (dh (ae l p.name).forms p.args x.ty).kind,sv (dh (ae l p.name).forms p.args x.ty).name,.slice nya (dh (ae l p.name).forms p.args x.ty).args.length nyc,.bool (dh (ae l p.name).forms p.args x.ty).void,.bool (dh (ae l p.name).forms p.args x.ty).sep,.slice ax11 x.clients.length kx11,.slice ax12 x.pre.length kx12,.slice ax13 x.post.length kx13,.int .i64 x.kind] 191)::pt b8 (cl [sv x.name,.int .i64 x.kind,.slice ax2 x.seeds.length kx2,sv x.impl.cls,sv x.impl.name,.slice ax5 x.args.length kx5,.int .i64 x.ty.kind,sv x.ty.name,.slice axy x.ty.args.length kxy,.bool x.ty.void,.bool x.ty.sep,.slice ax11 x.clients.length kx11,.slice ax12 x.pre.length kx12,.slice ax13 x.post.length kx13] 75)::pt b5 (cl [sv p.name,.slice aA p.args.length kA,.slice aR p.ren.length kR,.slice aU p.und.length kU,.slice aD p.red.length kD,.slice aS p.sel.length kS] 88)::pt b1 (cl [sv c.name,.bool c.dfd,ca,.slice (some ⟨pb,po,none⟩) c.pars.length ck,ce,cf,ci] 44)::pt b2 (cl [v,.map (some mb)] 114)::Y2::mps mb m::(Inv s2++hr)) (by exact List.perm_append_comm_assoc (Y2::mps mb m::Inv s2) [pt b9 (cl [sv p.name,sv x.name,.int .i64 (i:Nat),sv (bN p x.name),.int .i64 kd,.slice ax2 x.seeds.length kx2,sv x.impl.cls,sv x.impl.name,.slice ua x.args.length uk,.int .i64 (dh (ae l p.name).forms p.args x.ty).kind,sv (dh (ae l p.name).forms p.args x.ty).name,.slice nya (dh (ae l p.name).forms p.args x.ty).args.length nyc,.bool (dh (ae l p.name).forms p.args x.ty).void,.bool (dh (ae l p.name).forms p.args x.ty).sep,.slice ax11 x.clients.length kx11,.slice ax12 x.pre.length kx12,.slice ax13 x.post.length kx13,.int .i64 x.kind] 191),pt b8 (cl [sv x.name,.int .i64 x.kind,.slice ax2 x.seeds.length kx2,sv x.impl.cls,sv x.impl.name,.slice ax5 x.args.length kx5,.int .i64 x.ty.kind,sv x.ty.name,.slice axy x.ty.args.length kxy,.bool x.ty.void,.bool x.ty.sep,.slice ax11 x.clients.length kx11,.slice ax12 x.pre.length kx12,.slice ax13 x.post.length kx13] 75),pt b5 (cl [sv p.name,.slice aA p.args.length kA,.slice aR p.ren.length kR,.slice aU p.und.length kU,.slice aD p.red.length kD,.slice aS p.sel.length kS] 88),pt b1 (cl [sv c.name,.bool c.dfd,ca,.slice (some ⟨pb,po,none⟩) c.pars.length ck,ce,cf,ci] 44),pt b2 (cl [v,.map (some mb)] 114)] hr) ?_
     refine aM (j+1,Y2,s2) ⟨hltj,(hE2.trans hE5).trans hE6,hΦ2⟩ (by dsimp only; omega)
    ·refine sV (aZ Z)<|sK [0,2,4,5,6,13,14,15,30,31,32,110] Z<|aQ Z ?_
     refine cT<|xW<|xR<|xR<|xW<|xW<|xR<|xR<|xW<|Cu (k:=pt b9 (cl [sv p.name,sv x.name,.int .i64 (i:Nat),sv (bN p x.name),.int .i64 kd,.slice ax2 x.seeds.length kx2,sv x.impl.cls,sv x.impl.name,.slice ua x.args.length uk,.int .i64 (dh (ae l p.name).forms p.args x.ty).kind,sv (dh (ae l p.name).forms p.args x.ty).name,.slice nya (dh (ae l p.name).forms p.args x.ty).args.length nyc,.bool (dh (ae l p.name).forms p.args x.ty).void,.bool (dh (ae l p.name).forms p.args x.ty).sep,.slice ax11 x.clients.length kx11,.slice ax12 x.pre.length kx12,.slice ax13 x.post.length kx13,.int .i64 x.kind] 191)::pt b8 (cl [sv x.name,.int .i64 x.kind,.slice ax2 x.seeds.length kx2,sv x.impl.cls,sv x.impl.name,.slice ax5 x.args.length kx5,.int .i64 x.ty.kind,sv x.ty.name,.slice axy x.ty.args.length kxy,.bool x.ty.void,.bool x.ty.sep,.slice ax11 x.clients.length kx11,.slice ax12 x.pre.length kx12,.slice ax13 x.post.length kx13] 75)::pt b5 (cl [sv p.name,.slice aA p.args.length kA,.slice aR p.ren.length kR,.slice aU p.und.length kU,.slice aD p.red.length kD,.slice aS p.sel.length kS] 88)::pt b1 (cl [sv c.name,.bool c.dfd,ca,.slice (some ⟨pb,po,none⟩) c.pars.length ck,ce,cf,ci] 44)::pt b2 (cl [v,.map (some mb)] 114)::Y2::mps mb m::(t++hr)) (by exact List.perm_append_comm_assoc (Y2::mps mb m::t) [pt b9 (cl [sv p.name,sv x.name,.int .i64 (i:Nat),sv (bN p x.name),.int .i64 kd,.slice ax2 x.seeds.length kx2,sv x.impl.cls,sv x.impl.name,.slice ua x.args.length uk,.int .i64 (dh (ae l p.name).forms p.args x.ty).kind,sv (dh (ae l p.name).forms p.args x.ty).name,.slice nya (dh (ae l p.name).forms p.args x.ty).args.length nyc,.bool (dh (ae l p.name).forms p.args x.ty).void,.bool (dh (ae l p.name).forms p.args x.ty).sep,.slice ax11 x.clients.length kx11,.slice ax12 x.pre.length kx12,.slice ax13 x.post.length kx13,.int .i64 x.kind] 191),pt b8 (cl [sv x.name,.int .i64 x.kind,.slice ax2 x.seeds.length kx2,sv x.impl.cls,sv x.impl.name,.slice ax5 x.args.length kx5,.int .i64 x.ty.kind,sv x.ty.name,.slice axy x.ty.args.length kxy,.bool x.ty.void,.bool x.ty.sep,.slice ax11 x.clients.length kx11,.slice ax12 x.pre.length kx12,.slice ax13 x.post.length kx13] 75),pt b5 (cl [sv p.name,.slice aA p.args.length kA,.slice aR p.ren.length kR,.slice aU p.und.length kU,.slice aD p.red.length kD,.slice aS p.sel.length kS] 88),pt b1 (cl [sv c.name,.bool c.dfd,ca,.slice (some ⟨pb,po,none⟩) c.pars.length ck,ce,cf,ci] 44),pt b2 (cl [v,.map (some mb)] 114)] hr) ?_
     exact aj Z ⟨Z,.inr ⟨_,Y2,t,((hE.trans hE2).trans hE5).trans hE6,hS,Z⟩⟩ sbq
  ·have hje:j=(fl p.name).mems.length:=by
    have:¬ j<(fl p.name).mems.length:=Zw
    omega
   subst hje
   rw [<- hsucc] at hΦ
   refine aC<|xE<|xE<|xY<|xB<|xT<|cR<|sV (aI Z Z Z0)<|sM Z<|sN<|nK [0,2,13,14,15] Z<|ax ?_
   refine aM (i+1,Zq,s) ⟨hlt,hE.trans hE2,hΦ⟩ (by dsimp only; omega)
 ·have hie:i=c.pars.length:=by
   have:¬ i<c.pars.length:=Zx
   omega
  subst hie
  rw [LZ] at hΦ
  refine aC<|xE<|xE<|xY ?_
  exact zA Z ⟨Z,.inl ⟨Y,s,hE,hΦ,Z⟩⟩ sbq
end
end Go.Fl
