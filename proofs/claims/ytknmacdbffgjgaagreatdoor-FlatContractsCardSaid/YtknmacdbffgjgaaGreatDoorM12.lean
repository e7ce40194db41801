/-
  The reference: whether names,types,variables,expressions,clauses,groups,seeds,members,flat forms are equal. Conditions: what is read.
-/
import Derived.Test.YtknmacdbffgjgaaGreatDoorM11
set_option linter.unusedVariables false
set_option linter.unusedSimpArgs false
set_option maxRecDepth 100000
set_option maxHeartbeats 16000000
namespace Go.Ck
open Go Go.RowKit
theorem iI {P:Program} {e:Env} {h:SH} {ty T:TypeId} {x:Operand} {cs:List Value} {fs:Array Field} {k:Nat} {f:Field} {u:Value} (hx:e.ev? x=some (.agg cs.toArray)) (hT:P.underlying T=some (.struct fs)) (hf:fs[k]? = some f) (hA:∀ w,(isAgg f.type).run P w = .ok false w) (hu:cs[f.offset]? = some u):Vop P e h (.field T x k) ty u :=
 ⟨by simp,by simp,λρ w d pos after g hρ _=>by
  simp only [execOp,hρ x _ hx,Instr.field,Sem.run_bind,run_underlying hT,Result.andThen_ok,hf,part,asAgg,Sem.run_pure,hA]
  simp [hu]⟩
end Go.Ck
namespace Go.Fl
open Go Go.RowKit Go.Ck Go.Proofs Go.Proofs.Tryz Go.Proofs.YtknmacdbffgjgaaGreatDoor Fx Go.Hr
attribute [local irreducible] Go.Ck.Sub St Cd Xt Nx DrL LsW
section
variable {X Y:Res} {v v':Value} {us us':List Value}
def FlR (X:Res) (m:List (Nm×Value)) (fl:Nm->Fl):Prop:=∀ n,∃ us:List Value,(bK m n).getD (.agg #[.string ⟨#[]⟩,.bool false,.slice none 0 0,.slice none 0 0]) = .agg us.toArray/\Enc.rep X us (fl n)
theorem FlR.up {m:List (Nm×Value)} {fl:Nm->Fl} (h:FlR X m fl) (he:Ext X Y):FlR Y m fl:=λn=>by
 obtain ⟨us,h1,h2⟩:=h n
 exact ⟨us,h1,Enc.up he.rd h2⟩
def cq (fl:Nm->Fl) (l:FS) (q:Pt×Nat):List Cm:=(fl q.1.name).mems.map (qY (ae l q.1.name).forms q.2 q.1)
def Ez (fl:Nm->Fl) (l:FS) (c:FC) (i:Nat):Nat:=((c.pars.zipIdx.take i).flatMap<|cq fl l).length
theorem NU {c:FC} {i:Nat} (h:i<c.pars.length):c.pars.zipIdx[i]'Zo=(c.pars[i],i):=by simp
theorem Lx {fl:Nm->Fl} {l:FS} {c:FC} {i:Nat} (h:i<c.pars.length):Ez fl l c (i+1)=Ez fl l c i+(fl c.pars[i].name).mems.length:=by
 unfold Ez
 rw [List.take_succ_eq_append_getElem Zo,List.flatMap_append,List.length_append,NU h]
 simp [cq]
theorem NV {fl:Nm->Fl} {l:FS} {c:FC} {i j:Nat} (h:i<c.pars.length) (hj:j<(fl c.pars[i].name).mems.length):(comes fl l c)[Ez fl l c i+j]? = some (qY (ae l c.pars[i].name).forms i c.pars[i] (fl c.pars[i].name).mems[j]):=by
 have hz:i<c.pars.zipIdx.length:=Zo
 have h1:c.pars.zipIdx=c.pars.zipIdx.take i++c.pars.zipIdx[i]::c.pars.zipIdx.drop (i+1):=by rw [List.getElem_cons_drop,List.take_append_drop]
 have h2:comes fl l c=(c.pars.zipIdx.take i).flatMap (cq fl l)++(cq fl l c.pars.zipIdx[i]++(c.pars.zipIdx.drop (i+1)).flatMap (cq fl l)):=by
  show c.pars.zipIdx.flatMap (cq fl l)=_
  conv=>lhs; rw [h1]
  rw [List.flatMap_append,List.flatMap_cons]
 rw [h2]
 unfold Ez
 rw [List.getElem?_append_right (by omega),Nat.add_sub_cancel_left,NU h,List.getElem?_append_left (by simpa [cq] using hj)]
 simp [cq,hj]
theorem LA (fl:Nm->Fl) (l:FS) (c:FC):Ez fl l c c.pars.length=(comes fl l c).length:=by
 unfold Ez comes
 rw [List.take_of_length_le (by simp)]
 rfl
theorem rws_set {α : Type} [Enc α] {X:Res} {rows:List (List Value)} {xs:List α} (h:Rws X rows xs) {k:Nat} {us:List Value} {a : α} (hr:Enc.rep X us a):Rws X (rows.set k us) (xs.set k a):=by
 refine ⟨by simp [h.1],λj vs x h1 h2=>?_⟩
 by_cases hj:k=j
 ·subst hj
  have e1:k<rows.length:=by simpa using (List.getElem?_eq_some_iff.1 h1).1
  rw [List.getElem?_set_self e1] at h1
  rw [List.getElem?_set_self (by rw [<- h.1]; exact e1)] at h2
  cases h1; cases h2; exact hr
 ·rw [List.getElem?_set_ne hj] at h1 h2
  exact h.2 j vs x h1 h2
theorem map_set {α : Type} {xs:List α} {g : α -> α} {k:Nat} (h:k<xs.length):((xs.take k).map g++xs.drop k).set k (g xs[k])=(xs.take (k+1)).map g++xs.drop (k+1):=by
 have hl:((xs.take k).map g).length=k:=by simp; omega
 rw [List.set_append_right _ _ (by omega),hl,Nat.sub_self,List.drop_eq_getElem_cons h,List.set_cons_zero,List.take_succ_eq_append_getElem h,List.map_append]
 simp
theorem map_at {α : Type} {xs:List α} {g : α -> α} {k:Nat} (h:k<xs.length):((xs.take k).map g++xs.drop k)[k]? = some xs[k]:=by
 have hl:((xs.take k).map g).length=k:=by simp; omega
 rw [List.getElem?_append_right (by omega),hl,Nat.sub_self,List.getElem?_drop,Nat.add_zero,Zy h]
def subV (F:List Fm) (A:List Kt) (a:Vr):Vr:={ a with ty:=cZ F A a.ty }
theorem EA {xs:List Nm} (h:Ls X v xs):xu X v xs:=h.1

theorem Gz {σ : Type} {b1 b2 mb yl : Nat} {m : List (Nm × Value)} {fl : Nm -> Fl} {l : FS} {c : FC} {uc : List Value} (Inv : σ -> SH) (Φ : Nat -> Res -> σ -> Prop) (Stop : Nat -> Res -> SH -> Prop) (s0 : σ) (h0 : Φ 0 X s0) (hl : Ls X v l) (hc : Enc.rep X uc c) (hm : FlR X m fl) (hf : ∀ p ∈ c.pars, (ae l p.name).forms.length = p.args.length /\ p.und.length ≤ 1099511627776)
  (hy:∀ (k:Nat) (Y:Res) (s : σ) (x:Cm) (us:List Value),(comes fl l c)[k]? = some x->Ext X Y->Enc.rep Y us x -> Φ k Y s->Yc prog yl #[.agg us.toArray] (Y::mps mb m::Inv s) λu h'=>(u = .bool true/\∃ Y' s',Ext Y Y' /\ Φ (k+1) Y' s'/\h'=Y'::mps mb m::Inv s')∨(u = .bool false/\∃ Y' t,Ext Y Y'/\Stop k Y' t/\h'=Y'::mps mb m::t)) (hmon:∀ k Y Y' s,Ext Y Y' -> Φ k Y s -> Φ k Y' s) :
  Ct prog 237 #[.func (.yield yl) #[] #[],.pointer (some ⟨b1,0,none⟩),.pointer (some ⟨b2,0,none⟩)] (pt b1 (cl uc 44)::pt b2 (cl [v,.map (some mb)] 114)::X::mps mb m::Inv s0) λu h'=>u = .tuple #[] /\
   ((∃ Y s,Ext X Y /\ Φ (comes fl l c).length Y s/\h'=pt b1 (cl uc 44)::pt b2 (cl [v,.map (some mb)] 114)::Y::mps mb m::Inv s)∨∃ k Y t,Ext X Y/\Stop k Y t/\h'=pt b1 (cl uc 44)::pt b2 (cl [v,.map (some mb)] 114)::Y::mps mb m::t):=by
 have hml:maxLen=9223372036854775807:=rfl
 obtain ⟨ca,cb,ce,cf,ci,rfl,hca,hcb,hce,hcf,hci⟩:=gp hc
 obtain ⟨cb,ck,rfl,hck,hckm,_⟩:=id hcb.form
 refine aL (n:=113) func237 Z Z (len Z) λhr w0=>?_
 refine cQ<|sV (vF Z eY Z)<|sV (vY Z lZ) ?_
 refine sV (aF Z underlying39)<|sM Z<|sK [0,2,13,14,15] Z<|cB<|aX (σ := Nat×Res × σ) (λq=>[(0,.func (.yield yl) #[] #[]),(2,.pointer (some ⟨b2,0,none⟩)),(13,.slice cb c.pars.length ck),(14,.int .i64 c.pars.length),(15,.int .i64 (q.1:Nat))]) (λq=>pt b1 (cl [sv c.name,.bool c.dfd,ca,.slice cb c.pars.length ck,ce,cf,ci] 44)::pt b2 (cl [v,.map (some mb)] 114)::q.2.1::mps mb m::(Inv q.2.2++hr)) (λq=>q.1≤c.pars.length/\Ext X q.2.1 /\ Φ (Ez fl l c q.1) q.2.1 q.2.2) (λq=>c.pars.length - q.1) (0,X,s0) ⟨Nat.zero_le _,Ext.refl X,h0⟩ ?_
 rintro ⟨i,Y,s⟩ ⟨hi,hE,hΦ⟩
 simp only at hi hE hΦ
 dsimp only
 refine cQ<|sV (aN Z Z)<|sN<|nT<|cS<|cC Z (λhd=>?_)<|λhd=>?_
 ·have hlt:i<c.pars.length:=Zx
  have hsucc:=Lx (fl:=fl) (l:=l) hlt
  have hat:=λj=>NV (fl:=fl) (l:=l) (j:=j) hlt
  have hfp:=hf c.pars[i]<|List.getElem_mem hlt
  obtain ⟨pb,po,pcap,pus,e1,hpus,hprd,hp⟩:=(hcb.up hE).at<|Zy hlt
  obtain ⟨rfl,rfl⟩:cb=some ⟨pb,po,none⟩/\ck=pcap:=by cases e1; exact ⟨rfl,rfl⟩
  generalize c.pars[i]=p at hsucc hat hfp hp
  have hp0:=hp
  obtain ⟨pa,pr,pu,pd,ps,rfl,hpa,hpr,hpu,hpd,hps⟩:=hp
  obtain ⟨aA,kA,rfl,_⟩:=id hpa.form
  obtain ⟨aR,kR,rfl,_⟩:=id hpr.form
  obtain ⟨aU,kU,rfl,_⟩:=id hpu.form
  obtain ⟨aD,kD,rfl,_⟩:=id hpd.form
  obtain ⟨aS,kS,rfl,_⟩:=id hps.form
  obtain ⟨fus,hfl,hfr⟩:=hm.up hE p.name
  obtain ⟨mx,my,rfl,hmx,hmy⟩:=hfr
  obtain ⟨mA,mK,rfl,_⟩:=id hmx.form
  have hcc:=lS (n:=p.name) (fv:=.map<|some mb) (hl.up hE) rfl
  refine cK<|xT<|cS<|cB<|cQ<|sM Z<|sV (vI (k:=i) Z Z oL Z hlt Z)<|sV (af Z qp Z hprd) ?_
  refine au vD λb5=>?_
  refine sA Z<|ai Z Z r9 Z Z ?_
  refine sK [0,2,4,5,13,14,15] Z<|cQ<|sV (af Z gU Z ah) ?_
  refine sV (vF Z gH Z)<|sV (vY Z ld9) ?_
  refine aH Z Z en56 Z (hcc) ?_
  rintro u h' ⟨rfl,cus,rfl,hcr⟩
  simp only [lC,lN]
  obtain ⟨fa,fb,fc,fd,fe,rfl,hfa,-,-,-,-⟩:=gp hcr
  obtain ⟨fA,fK,rfl,_⟩:=id hfa.form
  refine sV (iI (k:=2) Z underlying44 Z isAgg38 Z)<|sA Z<|sK [0,2,4,5,6,13,14,15] Z<|cQ<|sV (vF Z iJ Z)<|sV (vY Z p9) ?_
  refine sV (vF Z gH Z)<|sV (vY Z ld9) ?_
  refine sV (gq hfl<|bI Z Z pY p8 slq) ?_
  refine sV (iI (k:=2) Z underlying55 Z isAgg52 Z)<|sV (aF Z underlying52)<|sM Z<|sK [0,2,4,5,6,13,14,15,30,31,32] Z<|cB<|aX (σ := Nat×Res × σ) (λq=>[(0,.func (.yield yl) #[] #[]),(2,.pointer (some ⟨b2,0,none⟩)),(13,.slice (some ⟨pb,po,none⟩) c.pars.length ck),(14,.int .i64 c.pars.length),(15,.int .i64 (i:Nat)),(4,.int .i64 (i:Nat)),(5,.pointer (some ⟨b5,0,none⟩)),(6,.slice fA (ae l p.name).forms.length fK),(30,.slice mA (fl p.name).mems.length mK),(31,.int .i64 (fl p.name).mems.length),(32,.int .i64 (q.1:Nat))]) (λq=>pt b5 (cl [sv p.name,.slice aA p.args.length kA,.slice aR p.ren.length kR,.slice aU p.und.length kU,.slice aD p.red.length kD,.slice aS p.sel.length kS] 88)::pt b1 (cl [sv c.name,.bool c.dfd,ca,.slice (some ⟨pb,po,none⟩) c.pars.length ck,ce,cf,ci] 44)::pt b2 (cl [v,.map (some mb)] 114)::q.2.1::mps mb m::(Inv q.2.2++hr)) (λq=>q.1≤(fl p.name).mems.length/\Ext Y q.2.1 /\ Φ (Ez fl l c i+q.1) q.2.1 q.2.2) (λq=>(fl p.name).mems.length - q.1) (0,Y,s) ⟨Nat.zero_le _,Ext.refl Y,hΦ⟩ ?_
  clear hΦ
  rintro ⟨j,Zq,s⟩ ⟨hj,hE2,hΦ⟩
  simp only at hj hE2 hΦ
  dsimp only
  refine cQ<|sV (aN Z Z)<|sN<|nT<|cS<|cC Z (λhd2=>?_)<|λhd2=>?_
  ·have hltj:j<(fl p.name).mems.length:=Zw
   have hatj:=hat j hltj
   obtain ⟨xb,xo,xcap,xus,e2,hxus,hxrd,hx⟩:=(hmx.up hE2).at<|Zy hltj
   obtain ⟨rfl,rfl⟩:mA=some ⟨xb,xo,none⟩/\mK=xcap:=by cases e2; exact ⟨rfl,rfl⟩
   generalize (fl p.name).mems[j]=x at hatj hx
   obtain ⟨x2,x5,xy,x11,x12,x13,rfl,hx2,hx5,hxy,hx11,hx12,hx13⟩:=dh hx
   obtain ⟨ax2,kx2,rfl,_⟩:=id hx2.form
   obtain ⟨ax5,kx5,rfl,_⟩:=id hx5.form
   obtain ⟨axy,kxy,rfl,_⟩:=id hxy.form
   obtain ⟨ax11,kx11,rfl,_⟩:=id hx11.form
   obtain ⟨ax12,kx12,rfl,_⟩:=id hx12.form
   obtain ⟨ax13,kx13,rfl,_⟩:=id hx13.form
   unfold gz at *
   have hp1:=Enc.up hE2.rd hp0
   refine cK<|xT<|cS<|cB<|cQ<|sV (vI (k:=j) Z Z oM Z hltj Z)<|sV (af Z eU Z hxrd) ?_
   refine au ji λb8=>?_
   refine ai Z Z gP Z Z ?_
   refine sK [0,2,4,5,6,8,13,14,15,30,31,32] Z<|cQ<|sV (vF Z gH Z)<|sV (vY Z ld9) ?_
   refine sV (vF Z eB Z)<|sV (vY Z ld9) ?_
   refine sV (aO (cells:=[sv p.name,sv x.name]) Z<|λ_=>Zz) ?_
   refine sM Z<|sV (af Z eU Z ah) ?_
   refine sV (vF Z Ah Z)<|sV (vY Z ld3) ?_
   refine sV (aO (cells:=[sv p.name,sv x.name,.int .i64 (i:Nat),sv x.name,.int .i64 x.kind,.slice ax2 x.seeds.length kx2,sv x.impl.cls,sv x.impl.name,.slice ax5 x.args.length kx5,.int .i64 x.ty.kind,sv x.ty.name,.slice axy x.ty.args.length kxy,.bool x.ty.void,.bool x.ty.sep,.slice ax11 x.clients.length kx11,.slice ax12 x.pre.length kx12,.slice ax13 x.post.length kx13,.int .i64 x.kind]) Z<|λ_=>Zz) ?_
   refine au qR λb9=>?_
   refine ai Z Z mr Z Z ?_
   refine sK [0,2,4,5,6,8,9,13,14,15,30,31,32] Z<|cQ<|sV (vF Z dS Z)<|sA Z<|sK [0,2,4,5,6,8,9,10,13,14,15,30,31,32] Z<|cQ<|sM Z<|sV (af Z qp Z ah) ?_
   refine sV (vF Z eB Z)<|sV (vY Z ld9) ?_
   refine aH Z Z en173 Z (ul (n:=x.name) hp1) ?_
   rintro u h' ⟨rfl,rfl⟩
   simp only [lC,lN]
   refine sV (vN Z)<|sV (vF Z eB Z)<|bf Z Z sz9 ?_
   refine sK [0,2,4,5,6,8,9,10,13,14,15,30,31,32] Z<|cS<|cS<|bB (ork [(0,2),(1,1),(2,2),(3,2),(4,2),(5,1),(6,1)] .nil) (λ_=>true) mixed Zz ?_
   refine dV Z (vF Z xn Z)<|bu Z (vY Z fI) ?_
   refine dV Z (vM Z)<|dV Z (vN Z)<|dV Z (vF Z eB Z)<|bu Z (vY Z ld9) ?_
   refine jG Z Z Z Ea Z (fw (EA<|hpu.up hE2) (bN p x.name) hfp.2) ?_
   refine bA<|nK [0,2,4,5,6,8,9,10,13,14,15,30,31,32,60] Z<|nT<|mM (ex:=.normal) (α := {k:Int // k=if p.und.contains (bN p x.name) then 3 else x.kind}) (λq=>[(0,.func (.yield yl) #[] #[]),(2,.pointer (some ⟨b2,0,none⟩)),(13,.slice (some ⟨pb,po,none⟩) c.pars.length ck),(14,.int .i64 c.pars.length),(15,.int .i64 (i:Nat)),(4,.int .i64 (i:Nat)),(5,.pointer (some ⟨b5,0,none⟩)),(6,.slice fA (ae l p.name).forms.length fK),(30,.slice (some ⟨xb,xo,none⟩) (fl p.name).mems.length mK),(31,.int .i64 (fl p.name).mems.length),(32,.int .i64 (j:Nat)),(8,.pointer (some ⟨b8,0,none⟩)),(9,.pointer (some ⟨b9,0,none⟩)),(10,.pointer (some ⟨b9,3,none⟩))]) (λq=>pt b9 (cl [sv p.name,sv x.name,.int .i64 (i:Nat),sv (bN p x.name),.int .i64 q.1,.slice ax2 x.seeds.length kx2,sv x.impl.cls,sv x.impl.name,.slice ax5 x.args.length kx5,.int .i64 x.ty.kind,sv x.ty.name,.slice axy x.ty.args.length kxy,.bool x.ty.void,.bool x.ty.sep,.slice ax11 x.clients.length kx11,.slice ax12 x.pre.length kx12,.slice ax13 x.post.length kx13,.int .i64 x.kind] 191)::pt b8 (cl [sv x.name,.int .i64 x.kind,.slice ax2 x.seeds.length kx2,sv x.impl.cls,sv x.impl.name,.slice ax5 x.args.length kx5,.int .i64 x.ty.kind,sv x.ty.name,.slice axy x.ty.args.length kxy,.bool x.ty.void,.bool x.ty.sep,.slice ax11 x.clients.length kx11,.slice ax12 x.pre.length kx12,.slice ax13 x.post.length kx13] 75)::pt b5 (cl [sv p.name,.slice aA p.args.length kA,.slice aR p.ren.length kR,.slice aU p.und.length kU,.slice aD p.red.length kD,.slice aS p.sel.length kS] 88)::pt b1 (cl [sv c.name,.bool c.dfd,ca,.slice (some ⟨pb,po,none⟩) c.pars.length ck,ce,cf,ci] 44)::pt b2 (cl [v,.map (some mb)] 114)::Zq::mps mb m::(Inv s++hr)) (λhcont=>?_)<|λq=>?_
   ·refine cC Z (λhu=>?_)<|λhu=>?_
    ·refine cR<|sM Z<|sV (vN Z)<|sV (vF Z Ah Z)<|bf Z Z sz3 ?_
     refine sN<|nK [0,2,4,5,6,8,9,10,13,14,15,30,31,32] Z<|ax ?_
     exact hcont ⟨3,by rw [if_pos hu]⟩ _ _ ⟨Z,Z,Z,Z,Z,Z,Z,Z,Z,Z,Z,Z,Z,Z,trivial⟩ sbq
    ·refine cK ?_
     exact hcont ⟨x.kind,by rw [if_neg (by rw [hu]; decide)]⟩ _ _ ⟨Z,Z,Z,Z,Z,Z,Z,Z,Z,Z,Z,Z,Z,Z,trivial⟩ sbq
   obtain ⟨kd,hkd⟩:=q
   dsimp only
   refine xT<|cQ<|sM Z<|sV (vF Z jH Z)<|sV (vY Z qJ) ?_
   refine aH Z Z en200 Z (oD<|rC hx5) ?_
   rintro u h' ⟨T1,rfl,rows1,rfl,⟨o1,w1⟩,ua,uk,hu⟩
   rw [w1.1] at hu; subst hu
   simp only [lC,lN]
   refine sV (vN Z)<|sV (vF Z jH Z)<|bf Z Z sz70 ?_
   refine sK [0,2,4,5,6,8,9,10,13,14,15,30,31,32] Z<|cS<|cQ<|sM Z<|sV (vN Z)<|sV (vF Z jH Z)<|sV (vY Z qJ) ?_
   refine sV (aF Z underlying70)<|sM Z<|sK [0,2,4,5,6,8,9,10,13,14,15,30,31,32,74,75] Z<|cB<|aX (σ := List (List Value)×Res×Nat) (λq=>[(0,.func (.yield yl) #[] #[]),(2,.pointer (some ⟨b2,0,none⟩)),(13,.slice (some ⟨pb,po,none⟩) c.pars.length ck),(14,.int .i64 c.pars.length),(15,.int .i64 (i:Nat)),(4,.int .i64 (i:Nat)),(5,.pointer (some ⟨b5,0,none⟩)),(6,.slice fA (ae l p.name).forms.length fK),(30,.slice (some ⟨xb,xo,none⟩) (fl p.name).mems.length mK),(31,.int .i64 (fl p.name).mems.length),(32,.int .i64 (j:Nat)),(8,.pointer (some ⟨b8,0,none⟩)),(9,.pointer (some ⟨b9,0,none⟩)),(10,.pointer (some ⟨b9,3,none⟩)),(74,.int .i64 x.args.length),(75,.int .i64 (q.2.2:Nat))]) (λq=>pt b9 (cl [sv p.name,sv x.name,.int .i64 (i:Nat),sv (bN p x.name),.int .i64 kd,.slice ax2 x.seeds.length kx2,sv x.impl.cls,sv x.impl.name,.slice ua x.args.length uk,.int .i64 x.ty.kind,sv x.ty.name,.slice axy x.ty.args.length kxy,.bool x.ty.void,.bool x.ty.sep,.slice ax11 x.clients.length kx11,.slice ax12 x.pre.length kx12,.slice ax13 x.post.length kx13,.int .i64 x.kind] 191)::VR (.slice ua x.args.length uk) 132 6 q.1::pt b8 (cl [sv x.name,.int .i64 x.kind,.slice ax2 x.seeds.length kx2,sv x.impl.cls,sv x.impl.name,.slice ax5 x.args.length kx5,.int .i64 x.ty.kind,sv x.ty.name,.slice axy x.ty.args.length kxy,.bool x.ty.void,.bool x.ty.sep,.slice ax11 x.clients.length kx11,.slice ax12 x.pre.length kx12,.slice ax13 x.post.length kx13] 75)::pt b5 (cl [sv p.name,.slice aA p.args.length kA,.slice aR p.ren.length kR,.slice aU p.und.length kU,.slice aD p.red.length kD,.slice aS p.sel.length kS] 88)::pt b1 (cl [sv c.name,.bool c.dfd,ca,.slice (some ⟨pb,po,none⟩) c.pars.length ck,ce,cf,ci] 44)::pt b2 (cl [v,.map (some mb)] 114)::q.2.1::mps mb m::(Inv s++hr)) (λq=>q.2.2≤x.args.length/\Ext Zq q.2.1/\Rws q.2.1 q.1 ((x.args.take q.2.2).map (subV (ae l p.name).forms p.args)++x.args.drop q.2.2)) (λq=>x.args.length - q.2.2) (rows1,Zq,0) ⟨Nat.zero_le _,Ext.refl Zq,by simpa using w1⟩ ?_
   rintro ⟨rows,W,k⟩ ⟨hk,hE3,hro⟩
   simp only at hk hE3 hro
   dsimp only
   refine cQ<|sV (aN Z Z)<|sN<|nT<|cS<|cC Z (λhd3=>?_)<|λhd3=>?_
   ·have hltk:k<x.args.length:=Zr
    have hset:=map_set (g:=subV (ae l p.name).forms p.args) hltk
    refine fJ (r:=VR (.slice ua x.args.length uk) 132 6 rows) slq λhok=>?_
    have hrl:rows.length=x.args.length:=by rw [hro.1]; simp; omega
    have hkr:k<rows.length:=by omega
    obtain ⟨ub,uo,rfl⟩:∃ ub uo,ua=some ⟨ub,uo,none⟩:=by
     obtain ⟨f0,hf0⟩:=hok
     rcases VR.form hf0 with ⟨h3,h4⟩ | ⟨b,o,cp,h3,-⟩
     ·rw [h4] at hkr; simp at hkr
     ·rw [hrl] at h3; cases h3; exact ⟨b,o,rfl⟩
    have hrow:=Zy hkr
    have hrepk:=hro.2 k _ x.args[k] hrow<|map_at hltk
    generalize hrk:rows[k]=r at hrow hrepk
    generalize x.args[k]=g at hset hrepk
    obtain ⟨ts,rfl,hty⟩:=hrepk
    obtain ⟨gy,rfl,hgy⟩:=eF hty
    obtain ⟨gya,gyc,rfl,_⟩:=id hgy.form
    have hrdT:=bF (k:=1) (vs:=[.int .i64 g.ty.kind,sv g.ty.name,.slice gya g.ty.args.length gyc,.bool g.ty.void,.bool g.ty.sep]) (eQ (b:=ub) (o:=uo) (n:=x.args.length) (cp:=uk) (E:=132) (sz:=6) hrow) rfl
    have hcs:=A7 hfp.1 ((hfa.up hE2).up hE3) ((hpa.up hE2).up hE3) hty
    unfold tyC at hcs
    refine cK<|xT<|cS<|cB<|cQ<|sM Z<|sA Z<|sK [0,2,4,5,6,8,9,10,11,13,14,15,30,31,32,74,75] Z<|bB (ork [(0,2),(1,2),(2,2),(3,1),(4,2),(5,2),(6,2),(7,2),(8,1),(9,2),(10,2),(11,2),(12,1),(13,2),(14,2),(15,1),(16,0),(17,2),(18,2),(19,0)] .nil) (λi => !(Nat.beq i 19)) mixed Zz ?_
    refine dV Z (vM Z)<|dV Z (vN Z)<|dV Z (vF Z jH Z)<|bu Z (vY Z qJ) ?_
    refine dV Z (vM Z)<|dV Z (vM Z)<|dV Z (vN Z)<|dV Z (vF Z jH Z)<|bu Z (vY Z qJ) ?_
    refine dV Z (vM Z)<|dV Z (vI (k:=k) Z Z sl70 Z hltk Z)<|dV Z (vF Z mD Z)<|bu Z (af Z fU Z hrdT) ?_
    refine dV Z (vM Z)<|dV Z (vF Z xk Z)<|bu Z (vY Z oO) ?_
    refine aV Z<|aH Z Z J3 Z (hcs) ?_
    rintro u h' ⟨T,rfl,us5,rfl,hT⟩
    simp only [lC,lN]
    have h5:us5.length=5:=Enc.len hT
    have hone5:=Enc.ones hT
    obtain ⟨t0,t1,t2,t3,t4,rfl⟩:=len5 h5
    refine aW ?_
    refine dV Z (vI (k:=k) Z Z sl70 Z hltk Z)<|dV Z (vF Z mD Z)<|aV Z<|st_vrS (m:=k) (k:=1) (rows:=rows) Z Z nL Z (λu hu=>List.all_eq_true.1 hone5 u hu) hrow (by decide) slq<|aW ?_
    rw [show splice (sv g.name::tyC g.ty (.slice gya g.ty.args.length gyc)) 1 [t0,t1,t2,t3,t4]=[sv g.name,t0,t1,t2,t3,t4] from rfl]
    refine bA<|nK [0,2,4,5,6,8,9,10,13,14,15,30,31,32,74,75] Z<|ax<|xB<|xT<|cR<|sV (aI Z Z Za)<|sM Z<|sN<|nK [0,2,4,5,6,8,9,10,13,14,15,30,31,32,74,75] Z<|ax (pO [T] W λW2 hE4 hsel hpk=>?_)
    refine aJ (rows.set k [sv g.name,t0,t1,t2,t3,t4],W2,k+1) ⟨hltk,hE3.trans hE4,by rw [<- hset]; exact rws_set (hro.up hE4) ⟨[t0,t1,t2,t3,t4],Z,Enc.up (hpk _ _ .here) hT⟩⟩ (by dsimp only; omega)
   ·have hke:k=x.args.length:=by
     have:¬ k<x.args.length:=Zr
     omega
    subst hke
    rw [List.take_length,List.drop_length,List.append_nil] at hro
    have hcs:=A7 hfp.1 ((hfa.up hE2).up hE3) ((hpa.up hE2).up hE3)<|gN (t:=x.ty) rfl<|hxy.up hE3
    unfold tyC at hcs
    refine aB<|xE<|xE<|xY<|xT<|cQ<|sM Z<|sV (vF Z qQ Z)<|sV (af Z fU Z<|bF (us:=[sv x.name,.int .i64 x.kind,.slice ax2 x.seeds.length kx2,sv x.impl.cls,sv x.impl.name,.slice ax5 x.args.length kx5,.int .i64 x.ty.kind,sv x.ty.name,.slice axy x.ty.args.length kxy,.bool x.ty.void,.bool x.ty.sep,.slice ax11 x.clients.length kx11,.slice ax12 x.pre.length kx12,.slice ax13 x.post.length kx13]) (vs:=[.int .i64 x.ty.kind,sv x.ty.name,.slice axy x.ty.args.length kxy,.bool x.ty.void,.bool x.ty.sep]) (k:=6) ah Z) ?_
    refine sM Z<|sV (vF Z xk Z)<|sV (vY Z oO) ?_
    refine aH Z Z J3 Z (hcs) ?_
    rintro u h' ⟨T,rfl,us5,rfl,hT⟩
    simp only [lC,lN]
    obtain ⟨ny,rfl,hny⟩:=eF hT
    obtain ⟨nya,nyc,rfl,_⟩:=id hny.form
    unfold tyC
    refine sV (vN rfl)<|sV (vF rfl qQ rfl)<|ik rfl rfl nL rfl (λu hu=>by simp at hu; rcases hu with rfl | rfl | rfl | rfl | rfl <;> rfl) (show Sel _ (pt b9<|cl [sv p.name,sv x.name,.int .i64 (i:Nat),sv (bN p x.name),.int .i64 kd,.slice ax2 x.seeds.length kx2,sv x.impl.cls,sv x.impl.name,.slice ua x.args.length uk,.int .i64 x.ty.kind,sv x.ty.name,.slice axy x.ty.args.length kxy,.bool x.ty.void,.bool x.ty.sep,.slice ax11 x.clients.length kx11,.slice ax12 x.pre.length kx12,.slice ax13 x.post.length kx13,.int .i64 x.kind] 191) _ from slq) (by simp) ?_
    rw [show splice [sv p.name,sv x.name,.int .i64 (i:Nat),sv (bN p x.name),.int .i64 kd,.slice ax2 x.seeds.length kx2,sv x.impl.cls,sv x.impl.name,.slice ua x.args.length uk,.int .i64 x.ty.kind,sv x.ty.name,.slice axy x.ty.args.length kxy,.bool x.ty.void,.bool x.ty.sep,.slice ax11 x.clients.length kx11,.slice ax12 x.pre.length kx12,.slice ax13 x.post.length kx13,.int .i64 x.kind] (3+6) [.int .i64 (cZ (ae l p.name).forms p.args x.ty).kind,sv (cZ (ae l p.name).forms p.args x.ty).name,.slice nya (cZ (ae l p.name).forms p.args x.ty).args.length nyc,.bool (cZ (ae l p.name).forms p.args x.ty).void,.bool (cZ (ae l p.name).forms p.args x.ty).sep]=[sv p.name,sv x.name,.int .i64 (i:Nat),sv (bN p x.name),.int .i64 kd,.slice ax2 x.seeds.length kx2,sv x.impl.cls,sv x.impl.name,.slice ua x.args.length uk,.int .i64 (cZ (ae l p.name).forms p.args x.ty).kind,sv (cZ (ae l p.name).forms p.args x.ty).name,.slice nya (cZ (ae l p.name).forms p.args x.ty).args.length nyc,.bool (cZ (ae l p.name).forms p.args x.ty).void,.bool (cZ (ae l p.name).forms p.args x.ty).sep,.slice ax11 x.clients.length kx11,.slice ax12 x.pre.length kx12,.slice ax13 x.post.length kx13,.int .i64 x.kind] from rfl]
    refine sK [0,2,4,5,6,9,13,14,15,30,31,32] Z<|cS (fJ (r:=VR (.slice ua x.args.length uk) 132 6 rows) slq λhok=>?_)
    refine cd_abs2 [T,VR (.slice ua x.args.length uk) 132 6 rows] W λW2 hE4 hsel hpk=>?_
    have hE5:=hE3.trans hE4
    have hargs:Ls W2 (.slice ua x.args.length uk) (x.args.map<|subV (ae l p.name).forms p.args):=by
     have:=Rws.ls (E:=132) (hro.up hE4) hok (hsel _ _<|.there .here) (show (x.args.map<|subV (ae l p.name).forms p.args).length * 72≤reachBytes by rw [List.length_map]; exact hx5.sizes)
     exact this
    have hrc:Enc.rep W2 [sv p.name,sv x.name,.int .i64 (i:Nat),sv (bN p x.name),.int .i64 kd,.slice ax2 x.seeds.length kx2,sv x.impl.cls,sv x.impl.name,.slice ua x.args.length uk,.int .i64 (cZ (ae l p.name).forms p.args x.ty).kind,sv (cZ (ae l p.name).forms p.args x.ty).name,.slice nya (cZ (ae l p.name).forms p.args x.ty).args.length nyc,.bool (cZ (ae l p.name).forms p.args x.ty).void,.bool (cZ (ae l p.name).forms p.args x.ty).sep,.slice ax11 x.clients.length kx11,.slice ax12 x.pre.length kx12,.slice ax13 x.post.length kx13,.int .i64 x.kind] (qY (ae l p.name).forms i p x):=by
     subst hkd
     exact cm_of (x:=qY (ae l p.name).forms i p x) ⟨hx2.up hE5,hargs,hny.up' (hpk _ _ .here),hx11.up hE5,hx12.up hE5,hx13.up hE5⟩
    have hyy:=hy _ W2 s _ _ hatj ((hE.trans hE2).trans hE5) hrc<|hmon _ _ _ _ hE5 hΦ
    refine cR<|sM Z<|sV (af Z gV Z ah) ?_
    refine uT (gd:=0) (.inl Z) Z Z hyy (Pk.of (hr:=pt b9 (cl [sv p.name,sv x.name,.int .i64 (i:Nat),sv (bN p x.name),.int .i64 kd,.slice ax2 x.seeds.length kx2,sv x.impl.cls,sv x.impl.name,.slice ua x.args.length uk,.int .i64 (cZ (ae l p.name).forms p.args x.ty).kind,sv (cZ (ae l p.name).forms p.args x.ty).name,.slice nya (cZ (ae l p.name).forms p.args x.ty).args.length nyc,.bool (cZ (ae l p.name).forms p.args x.ty).void,.bool (cZ (ae l p.name).forms p.args x.ty).sep,.slice ax11 x.clients.length kx11,.slice ax12 x.pre.length kx12,.slice ax13 x.post.length kx13,.int .i64 x.kind] 191)::pt b8 (cl [sv x.name,.int .i64 x.kind,.slice ax2 x.seeds.length kx2,sv x.impl.cls,sv x.impl.name,.slice ax5 x.args.length kx5,.int .i64 x.ty.kind,sv x.ty.name,.slice axy x.ty.args.length kxy,.bool x.ty.void,.bool x.ty.sep,.slice ax11 x.clients.length kx11,.slice ax12 x.pre.length kx12,.slice ax13 x.post.length kx13] 75)::pt b5 (cl [sv p.name,.slice aA p.args.length kA,.slice aR p.ren.length kR,.slice aU p.und.length kU,.slice aD p.red.length kD,.slice aS p.sel.length kS] 88)::pt b1 (cl [sv c.name,.bool c.dfd,ca,.slice (some ⟨pb,po,none⟩) c.pars.length ck,ce,cf,ci] 44)::pt b2 (cl [v,.map (some mb)] 114)::hr)<|by exact .cons _<|List.perm_append_comm_assoc [pt b9 (cl [sv p.name,sv x.name,.int .i64 (i:Nat),sv (bN p x.name),.int .i64 kd,.slice ax2 x.seeds.length kx2,sv x.impl.cls,sv x.impl.name,.slice ua x.args.length uk,.int .i64 (cZ (ae l p.name).forms p.args x.ty).kind,sv (cZ (ae l p.name).forms p.args x.ty).name,.slice nya (cZ (ae l p.name).forms p.args x.ty).args.length nyc,.bool (cZ (ae l p.name).forms p.args x.ty).void,.bool (cZ (ae l p.name).forms p.args x.ty).sep,.slice ax11 x.clients.length kx11,.slice ax12 x.pre.length kx12,.slice ax13 x.post.length kx13,.int .i64 x.kind] 191),pt b8 (cl [sv x.name,.int .i64 x.kind,.slice ax2 x.seeds.length kx2,sv x.impl.cls,sv x.impl.name,.slice ax5 x.args.length kx5,.int .i64 x.ty.kind,sv x.ty.name,.slice axy x.ty.args.length kxy,.bool x.ty.void,.bool x.ty.sep,.slice ax11 x.clients.length kx11,.slice ax12 x.pre.length kx12,.slice ax13 x.post.length kx13] 75),pt b5 (cl [sv p.name,.slice aA p.args.length kA,.slice aR p.ren.length kR,.slice aU p.und.length kU,.slice aD p.red.length kD,.slice aS p.sel.length kS] 88),pt b1 (cl [sv c.name,.bool c.dfd,ca,.slice (some ⟨pb,po,none⟩) c.pars.length ck,ce,cf,ci] 44),pt b2 (cl [v,.map (some mb)] 114)] (mps mb m::Inv s) hr) (ltn Z) ?_
    rintro u h' (⟨rfl,Y2,s2,hE6,hΦ2,rfl⟩ | ⟨rfl,Y2,t,hE6,hS,rfl⟩)
    ·refine sV (bg Z)<|sK [0,2,4,5,6,13,14,15,30,31,32,110] Z<|aG Z ?_
     refine cK<|xB<|xT<|cR<|sV (aI Z Z Za)<|sM Z<|sN<|nK [0,2,4,5,6,13,14,15,30,31,32] Z<|ax<|Cw (k:=pt b9 (cl [sv p.name,sv x.name,.int .i64 (i:Nat),sv (bN p x.name),.int .i64 kd,.slice ax2 x.seeds.length kx2,sv x.impl.cls,sv x.impl.name,.slice ua x.args.length uk,.int .i64 (cZ (ae l p.name).forms p.args x.ty).kind,sv (cZ (ae l p.name).forms p.args x.ty).name,.slice nya (cZ (ae l p.name).forms p.args x.ty).args.length nyc,.bool (cZ (ae l p.name).forms p.args x.ty).void,.bool (cZ (ae l p.name).forms p.args x.ty).sep,.slice ax11 x.clients.length kx11,.slice ax12 x.pre.length kx12,.slice ax13 x.post.length kx13,.int .i64 x.kind] 191)::pt b8 (cl [sv x.name,.int .i64 x.kind,.slice ax2 x.seeds.length kx2,sv x.impl.cls,sv x.impl.name,.slice ax5 x.args.length kx5,.int .i64 x.ty.kind,sv x.ty.name,.slice axy x.ty.args.length kxy,.bool x.ty.void,.bool x.ty.sep,.slice ax11 x.clients.length kx11,.slice ax12 x.pre.length kx12,.slice ax13 x.post.length kx13] 75)::pt b5 (cl [sv p.name,.slice aA p.args.length kA,.slice aR p.ren.length kR,.slice aU p.und.length kU,.slice aD p.red.length kD,.slice aS p.sel.length kS] 88)::pt b1 (cl [sv c.name,.bool c.dfd,ca,.slice (some ⟨pb,po,none⟩) c.pars.length ck,ce,cf,ci] 44)::pt b2 (cl [v,.map (some mb)] 114)::Y2::mps mb m::(Inv s2++hr)) (by exact List.perm_append_comm_assoc (Y2::mps mb m::Inv s2) [pt b9 (cl [sv p.name,sv x.name,.int .i64 (i:Nat),sv (bN p x.name),.int .i64 kd,.slice ax2 x.seeds.length kx2,sv x.impl.cls,sv x.impl.name,.slice ua x.args.length uk,.int .i64 (cZ (ae l p.name).forms p.args x.ty).kind,sv (cZ (ae l p.name).forms p.args x.ty).name,.slice nya (cZ (ae l p.name).forms p.args x.ty).args.length nyc,.bool (cZ (ae l p.name).forms p.args x.ty).void,.bool (cZ (ae l p.name).forms p.args x.ty).sep,.slice ax11 x.clients.length kx11,.slice ax12 x.pre.length kx12,.slice ax13 x.post.length kx13,.int .i64 x.kind] 191),pt b8 (cl [sv x.name,.int .i64 x.kind,.slice ax2 x.seeds.length kx2,sv x.impl.cls,sv x.impl.name,.slice ax5 x.args.length kx5,.int .i64 x.ty.kind,sv x.ty.name,.slice axy x.ty.args.length kxy,.bool x.ty.void,.bool x.ty.sep,.slice ax11 x.clients.length kx11,.slice ax12 x.pre.length kx12,.slice ax13 x.post.length kx13] 75),pt b5 (cl [sv p.name,.slice aA p.args.length kA,.slice aR p.ren.length kR,.slice aU p.und.length kU,.slice aD p.red.length kD,.slice aS p.sel.length kS] 88),pt b1 (cl [sv c.name,.bool c.dfd,ca,.slice (some ⟨pb,po,none⟩) c.pars.length ck,ce,cf,ci] 44),pt b2 (cl [v,.map (some mb)] 114)] hr) ?_
     refine aJ (j+1,Y2,s2) ⟨hltj,(hE2.trans hE5).trans hE6,hΦ2⟩ (by dsimp only; omega)
    ·refine sV (bg Z)<|sK [0,2,4,5,6,13,14,15,30,31,32,110] Z<|aQ Z ?_
     refine cT<|xW<|xR<|xR<|xW<|xW<|xR<|xR<|xW<|Cw (k:=pt b9 (cl [sv p.name,sv x.name,.int .i64 (i:Nat),sv (bN p x.name),.int .i64 kd,.slice ax2 x.seeds.length kx2,sv x.impl.cls,sv x.impl.name,.slice ua x.args.length uk,.int .i64 (cZ (ae l p.name).forms p.args x.ty).kind,sv (cZ (ae l p.name).forms p.args x.ty).name,.slice nya (cZ (ae l p.name).forms p.args x.ty).args.length nyc,.bool (cZ (ae l p.name).forms p.args x.ty).void,.bool (cZ (ae l p.name).forms p.args x.ty).sep,.slice ax11 x.clients.length kx11,.slice ax12 x.pre.length kx12,.slice ax13 x.post.length kx13,.int .i64 x.kind] 191)::pt b8 (cl [sv x.name,.int .i64 x.kind,.slice ax2 x.seeds.length kx2,sv x.impl.cls,sv x.impl.name,.slice ax5 x.args.length kx5,.int .i64 x.ty.kind,sv x.ty.name,.slice axy x.ty.args.length kxy,.bool x.ty.void,.bool x.ty.sep,.slice ax11 x.clients.length kx11,.slice ax12 x.pre.length kx12,.slice ax13 x.post.length kx13] 75)::pt b5 (cl [sv p.name,.slice aA p.args.length kA,.slice aR p.ren.length kR,.slice aU p.und.length kU,.slice aD p.red.length kD,.slice aS p.sel.length kS] 88)::pt b1 (cl [sv c.name,.bool c.dfd,ca,.slice (some ⟨pb,po,none⟩) c.pars.length ck,ce,cf,ci] 44)::pt b2 (cl [v,.map (some mb)] 114)::Y2::mps mb m::(t++hr)) (by exact List.perm_append_comm_assoc (Y2::mps mb m::t) [pt b9 (cl [sv p.name,sv x.name,.int .i64 (i:Nat),sv (bN p x.name),.int .i64 kd,.slice ax2 x.seeds.length kx2,sv x.impl.cls,sv x.impl.name,.slice ua x.args.length uk,.int .i64 (cZ (ae l p.name).forms p.args x.ty).kind,sv (cZ (ae l p.name).forms p.args x.ty).name,.slice nya (cZ (ae l p.name).forms p.args x.ty).args.length nyc,.bool (cZ (ae l p.name).forms p.args x.ty).void,.bool (cZ (ae l p.name).forms p.args x.ty).sep,.slice ax11 x.clients.length kx11,.slice ax12 x.pre.length kx12,.slice ax13 x.post.length kx13,.int .i64 x.kind] 191),pt b8 (cl [sv x.name,.int .i64 x.kind,.slice ax2 x.seeds.length kx2,sv x.impl.cls,sv x.impl.name,.slice ax5 x.args.length kx5,.int .i64 x.ty.kind,sv x.ty.name,.slice axy x.ty.args.length kxy,.bool x.ty.void,.bool x.ty.sep,.slice ax11 x.clients.length kx11,.slice ax12 x.pre.length kx12,.slice ax13 x.post.length kx13] 75),pt b5 (cl [sv p.name,.slice aA p.args.length kA,.slice aR p.ren.length kR,.slice aU p.und.length kU,.slice aD p.red.length kD,.slice aS p.sel.length kS] 88),pt b1 (cl [sv c.name,.bool c.dfd,ca,.slice (some ⟨pb,po,none⟩) c.pars.length ck,ce,cf,ci] 44),pt b2 (cl [v,.map (some mb)] 114)] hr) ?_
     exact aj Z ⟨Z,.inr ⟨_,Y2,t,((hE.trans hE2).trans hE5).trans hE6,hS,Z⟩⟩ sbq
  ·have hje:j=(fl p.name).mems.length:=by
    have:¬ j<(fl p.name).mems.length:=Zw
    omega
   subst hje
   rw [<- hsucc] at hΦ
   refine aB<|xE<|xE<|xY<|xB<|xT<|cR<|sV (aI Z Z Za)<|sM Z<|sN<|nK [0,2,13,14,15] Z<|ax ?_
   refine aJ (i+1,Zq,s) ⟨hlt,hE.trans hE2,hΦ⟩ (by dsimp only; omega)
 ·have hie:i=c.pars.length:=by
   have:¬ i<c.pars.length:=Zx
   omega
  subst hie
  rw [LA] at hΦ
  refine aB<|xE<|xE<|xY ?_
  exact z8 Z ⟨Z,.inl ⟨Y,s,hE,hΦ,Z⟩⟩ sbq
end
end Go.Fl
namespace Go.Fl
open Go Go.RowKit Go.Ck Go.Proofs Go.Proofs.Tryz Go.Proofs.YtknmacdbffgjgaaGreatDoor Fx Go.Hr
structure SmP (p:Pt):Prop where
 args:p.args.length≤5
 ren:p.ren.length≤12
 und:p.und.length≤12
 red:p.red.length≤12
 sel:p.sel.length≤12
structure SmF (f:Fe):Prop where
 args:f.args.length≤18
 clients:f.clients.length≤12
 req:f.req.length≤12
 ens:f.ens.length≤12
structure SmC (c:FC):Prop where
 pars:c.pars.length≤6
 feats:c.feats.length≤65
 forms:c.forms.length≤5
 inv:c.inv.length≤12
 par:∀ p∈c.pars,SmP p
 feat:∀ f∈c.feats,SmF f
structure SmL (l:FS):Prop where
 len:l.length≤30
 cls:∀ c∈l,SmC c
def Crt (X:Res) (us:List Value):Prop:=∃ (ce:Value) (ns:List Nm),us[4]? = some ce/\Ls X ce ns
def Cre (X:Res) (v:Value) (l:FS):Prop:=∀ (i:Nat) c,l[i]? = some c->∃ b o cap us,v = .slice (some ⟨b,o,none⟩) l.length cap/\Rds X b (o+i * 7) us/\Enc.rep X us c/\Crt X us
theorem Crt.up {X Y:Res} {us:List Value} (h:Crt X us) (he:Ext X Y):Crt Y us:=by
 obtain ⟨ce,ns,h1,h2⟩:=h
 exact ⟨ce,ns,h1,h2.up he⟩
theorem Cre.up {X Y:Res} {v:Value} {l:FS} (h:Cre X v l) (he:Ext X Y):Cre Y v l:=λi c hc=>by
 obtain ⟨b,o,cap,us,h1,h2,h3,h4⟩:=h i c hc
 exact ⟨b,o,cap,us,h1,λj hj=>he.rd _ _ (h2 j hj),Enc.up he.rd h3,h4.up he⟩
attribute [local irreducible] Go.Ck.Sub St Cd Xt Nx DrL LsW
section
variable {X:Res} {v:Value} {l:FS}
theorem uq:∀ (D:Nat) (t:Kt) (y:Value),t.depth≤D->Tys X y t.args->Ct prog 61 #[.agg (tyC t y).toArray] [X] λu h'=>∃ k:Int,u = .int .i64 k/\h'=[X]:=by
 intro D
 induction D with
 | zero=>intro t y hd; cases t; simp [Kt.depth] at hd
 | succ D ih =>
  intro t y hd hy
  have hml:maxLen=9223372036854775807:=rfl
  have hF:∀ a∈t.args,∀ y,Tys X y a.args->_:=λa ha y=>ih a y (by have:=jI ha; omega)
  clear ih
  obtain ⟨xa,xc,rfl,hlc,hcm,_⟩:=hy.form
  unfold tyC
  refine aL (n:=21) func61 Z Z (len Z) λhr w0=>?_
  refine cQ (aP Z Z λb1=>?_)
  refine sA Z<|sK [1,2] Z<|cQ<|sA Z<|sN<|nT<|cS<|cQ<|sA Z<|sN<|nT<|cB<|aX (σ := Int×Nat) (λq=>[(1,.pointer (some ⟨b1,0,none⟩)),(3,.int .i64 q.1),(4,.int .i64 (q.2:Nat))]) (λq=>pt b1 (cl [.int .i64 t.kind,sv t.name,.slice xa t.args.length xc,.bool t.void,.bool t.sep] 73)::X::hr) (λq=>q.2≤t.args.length) (λq=>t.args.length - q.2) (1,0) (Nat.zero_le _) ?_
  rintro ⟨k,i⟩ hi
  try simp only at hi
  try dsimp only
  refine cS<|cQ<|sM Z<|sV (vF Z iN Z)<|sV (vY Z oO) ?_
  refine sV (aF Z underlying71)<|sV (aN Z Z)<|sK [1,3,4,9] Z<|cC Z (λhd2=>?_)<|λhd2=>?_
  ·have hlt:i<t.args.length:=Zw
   have hg:=Zy hlt
   have hmem:=List.getElem_mem hlt
   obtain ⟨b2,o,cap2,us,e1,hus,hrd,hta⟩:=hy.at hg
   cases e1
   generalize t.args[i]=a at hmem hta
   obtain ⟨z,rfl,hz⟩:=eF hta
   have hca:=hF a hmem z hz
   unfold tyC at hrd hca
   refine cK<|xT<|cS<|cB<|cR<|sM Z<|sV (vF Z iN Z)<|sV (vY Z oO) ?_
   refine sM Z<|sV (vI (k:=i) Z Z yV Z hlt Z)<|sV (af Z fU Z hrd) ?_
   refine aH Z Z en61 Z (hca) ?_
   rintro u h' ⟨k2,rfl,rfl⟩
   simp only [lC,lN]
   refine sV (DD Z Z)<|sA Z<|sN<|nK [1,3,4] Z<|ax<|xB<|xT<|cR<|sM Z<|sV (aI Z Z Za)<|sA Z<|sN<|nK [1,3,4] Z<|ax ?_
   refine aJ (_,i+1) hlt (by show t.args.length - (i+1)<t.args.length - i; omega)
  ·refine aB<|xE<|xE<|xY<|xT<|cQ<|sM Z<|sA Z<|sK [2] Z<|cT ?_
   exact aj Z ⟨k,Z,Z⟩ sbq

theorem GA:∀ (D:Nat) (t:Ex) (y:Value),t.depth≤D->Ls X y t.kids->Ct prog 137 #[.agg (exC t y).toArray] [X] λu h'=>∃ k:Int,u = .int .i64 k/\h'=[X]:=by
 intro D
 induction D with
 | zero=>intro t y hd; cases t; simp [Ex.depth] at hd
 | succ D ih =>
  intro t y hd hy
  have hml:maxLen=9223372036854775807:=rfl
  have hF:∀ a∈t.kids,∀ y,Ls X y a.kids->_:=λa ha y=>ih a y (by have:=o7 ha; omega)
  clear ih
  obtain ⟨xa,xc,rfl,hlc,hcm,_⟩:=hy.form
  unfold exC
  refine aL (n:=21) func137 Z Z (len Z) λhr w0=>?_
  refine cQ (aP Z Z λb1=>?_)
  refine sA Z<|sK [1,2] Z<|cQ<|sA Z<|sN<|nT<|cS<|cQ<|sA Z<|sN<|nT<|cB<|aX (σ := Int×Nat) (λq=>[(1,.pointer (some ⟨b1,0,none⟩)),(3,.int .i64 q.1),(4,.int .i64 (q.2:Nat))]) (λq=>pt b1 (cl [.int .i64 t.kind,sv t.name,.int .i64 t.num,.slice xa t.kids.length xc] 216)::X::hr) (λq=>q.2≤t.kids.length) (λq=>t.kids.length - q.2) (1,0) (Nat.zero_le _) ?_
  rintro ⟨k,i⟩ hi
  try simp only at hi
  try dsimp only
  refine cS<|cQ<|sM Z<|sV (vF Z jq Z)<|sV (vY Z sO) ?_
  refine sV (aF Z underlying214)<|sV (aN Z Z)<|sK [1,3,4,9] Z<|cC Z (λhd2=>?_)<|λhd2=>?_
  ·have hlt:i<t.kids.length:=Zw
   have hg:=Zy hlt
   have hmem:=List.getElem_mem hlt
   obtain ⟨b2,o,cap2,us,e1,hus,hrd,hta⟩:=hy.at hg
   cases e1
   generalize t.kids[i]=a at hmem hta
   obtain ⟨z,rfl,hz⟩:=lQ hta
   have hca:=hF a hmem z hz
   unfold exC at hrd hca
   refine cK<|xT<|cS<|cB<|cR<|sM Z<|sV (vF Z jq Z)<|sV (vY Z sO) ?_
   refine sM Z<|sV (vI (k:=i) Z Z Cs Z hlt Z)<|sV (af Z jR Z hrd) ?_
   refine aH Z Z en137 Z (hca) ?_
   rintro u h' ⟨k2,rfl,rfl⟩
   simp only [lC,lN]
   refine sV (DD Z Z)<|sA Z<|sN<|nK [1,3,4] Z<|ax<|xB<|xT<|cR<|sM Z<|sV (aI Z Z Za)<|sA Z<|sN<|nK [1,3,4] Z<|ax ?_
   refine aJ (_,i+1) hlt (by show t.kids.length - (i+1)<t.kids.length - i; omega)
  ·refine aB<|xE<|xE<|xY<|xT<|cQ<|sM Z<|sA Z<|sK [2] Z<|cT ?_
   exact aj Z ⟨k,Z,Z⟩ sbq

theorem pQ {cs:List Cla} {y:Value} (hy:Ls X y cs):Ct prog 62 #[y] [X] λu h'=>∃ k:Int,u = .int .i64 k/\h'=[X]:=by
 have hml:maxLen=9223372036854775807:=rfl
 obtain ⟨xa,xc,rfl,hlc,hcm,_⟩:=hy.form
 refine aL (n:=20) func62 Z Z (len Z) λhr w0=>?_
 refine cQ<|sA Z<|sN<|nT<|cQ<|sA Z<|sN<|nT<|cS<|cQ<|sA Z<|sN<|nT<|cB ?_
 refine aX (σ := Int×Nat) (λq=>[(0,.slice xa cs.length xc),(3,.int .i64 q.1),(4,.int .i64 (q.2:Nat))]) (λq=>X::hr) (λq=>q.2≤cs.length) (λq=>cs.length - q.2) (0,0) (Nat.zero_le _) ?_
 rintro ⟨k,i⟩ hi
 try simp only at hi
 try dsimp only
 refine cS<|cQ<|sM Z<|sM Z<|sV (aF Z underlying42)<|sV (aN Z Z)<|sK [0,3,4,8] Z<|cC Z (λhd2=>?_)<|λhd2=>?_
 ·have hlt:i<cs.length:=Zw
  obtain ⟨b2,o,cap2,us,e1,hus,hrd,hta⟩:=hy.at<|Zy hlt
  cases e1
  generalize cs[i]=a at hta
  obtain ⟨es,rfl,hes⟩:=hta
  obtain ⟨z,rfl,hz⟩:=lQ hes
  have hca:=GA _ a.ex z (Nat.le_refl _) hz
  unfold exC at hrd hca
  refine cK<|xT<|cS<|cB<|cR<|sM Z<|sM Z<|sM Z<|sV (vI (k:=i) Z Z Ff Z hlt Z)<|sV (vF Z oZ Z)<|sV (af Z jR Z<|bF (k:=1) hrd (vs:=[.int .i64 a.ex.kind,sv a.ex.name,.int .i64 a.ex.num,z]) Z) ?_
  refine aH Z Z en137 Z (hca) ?_
  rintro u h' ⟨k2,rfl,rfl⟩
  simp only [lC,lN]
  refine sV (DD Z Z)<|sA Z<|sN<|nK [0,3,4] Z<|ax<|xB<|xT<|cR<|sM Z<|sV (aI Z Z Za)<|sA Z<|sN<|nK [0,3,4] Z<|ax ?_
  refine aJ (_,i+1) hlt (by show cs.length - (i+1)<cs.length - i; omega)
 ·refine aB<|xE<|xE<|xY<|xT<|cQ<|sM Z<|sA Z<|sK [2] Z<|cT ?_
  exact aj Z ⟨k,Z,Z⟩ sbq
theorem LB {us:List Value} {c:FC} (hc:Enc.rep X us c) (hcr:Crt X us):Ct prog 15 #[.agg us.toArray] [X] λu h'=>∃ ok,u = .bool ok/\h'=[X]/\(ok=true->SmC c):=by
 have hml:maxLen=9223372036854775807:=rfl
 obtain ⟨ca,cb,ce,cf,ci,rfl,hca,hcb,hce,hcf,hci⟩:=gp hc
 obtain ⟨ce2,ns,e4,hns⟩:=hcr
 obtain rfl:ce=ce2:=by simpa using e4
 obtain ⟨ca,fak,rfl,_⟩:=id hca.form
 obtain ⟨cb,ck,rfl,hcl1,hcm1,_⟩:=id hcb.form
 obtain ⟨cea,cek,rfl,_⟩:=id hns.form
 obtain ⟨cf,cfk,rfl,hfl1,hfm1,_⟩:=id hcf.form
 obtain ⟨ci,cik,rfl,_⟩:=id hci.form
 refine aL (n:=168) func15 Z Z (len Z) λhr w0=>?_
 refine cQ (aP Z Z λb1=>?_)
 refine sA Z<|sK [1,2] Z<|cQ<|sV (vF Z kv Z)<|sV (vY Z yX) ?_
 refine sV (aF Z underlying41)<|sA Z<|sK [1,2,3] Z<|cS<|cQ<|sV (vF Z eY Z)<|sV (vY Z lZ) ?_
 refine sV (aF Z underlying39)<|sV (cu Z Z)<|sM Z<|bC (k:=12) (d:=24) (v:=.bool ((decide ((6:Int)<(c.pars.length:Nat))) || ((decide ((12:Int)<(c.feats.length:Nat))) && (decide (((c.feats.length:Nat):Int)≤60))))) (λhcut=>aM (b:=(decide ((6:Int)<(c.pars.length:Nat)))) false (λhg=>?_)<|λhg=>?_) ?_
 ·refine aC Z Z hg ?_
  iterate 2 refine aC rfl rfl hg ?_
  refine bS Z Z ?_
  refine bS Z Z ?_
  refine aC Z Z hg ?_
  refine sV (vQ (bO Z hg) Z) ?_
  exact hcut _ uG
 ·refine sG Z (bG Z hg) (vM Z)<|sG Z (bG Z hg) (cu Z Z)<|sG Z (bG Z hg) (vM Z)<|bC (k:=11) (d:=23) (v:=.bool ((decide ((12:Int)<(c.feats.length:Nat))) && (decide (((c.feats.length:Nat):Int)≤60)))) (λhcut=>aM (b:=(decide ((12:Int)<(c.feats.length:Nat)))) true (λhg1=>?_)<|λhg1=>?_) ?_
  ·refine aC Z Z hg1 ?_
   refine aC Z Z hg1 ?_
   refine sG Z (bG Z hg) (vP (bO Z hg1) Z) ?_
   exact hcut _<|uH (by first | rfl | (rw [hg1]; rfl) | simp_all)<|uS Z<|uS Z<|uR
  ·refine sG Z (bG Z hg1) (vM Z)<|sG Z (bG Z hg1) (Cc Z Z)<|sG Z (bG Z hg) (vQ (bO Z hg1) Z) ?_
   exact hcut _<|uH (by first | rfl | (rw [hg1]; rfl) | simp_all)<|uS Z<|uS Z<|uR
  refine sV (vP (bO Z hg) Z) ?_
  exact hcut _<|uH (by first | rfl | (rw [hg]; rfl) | simp_all) (by repeat (first | exact uR | refine uS Z ?_))
 refine sM Z<|bC (k:=16) (d:=28) (v:=.bool (((decide ((6:Int)<(c.pars.length:Nat))) || ((decide ((12:Int)<(c.feats.length:Nat))) && (decide (((c.feats.length:Nat):Int)≤60)))) || (decide ((65:Int)<(c.feats.length:Nat))))) (λhcut=>aM (b:=((decide ((6:Int)<(c.pars.length:Nat))) || ((decide ((12:Int)<(c.feats.length:Nat))) && (decide (((c.feats.length:Nat):Int)≤60))))) false (λhg=>?_)<|λhg=>?_) ?_
 ·refine aC Z Z hg ?_
  refine aC Z Z hg ?_
  refine sV (vQ (bO Z hg) Z) ?_
  exact hcut _ uG
 ·refine sG Z (bG Z hg) (vM Z)<|sG Z (bG Z hg) (cu Z Z)<|sV (vP (bO Z hg) Z) ?_
  exact hcut _ uG
 refine sM Z<|bC (k:=22) (d:=34) (v:=.bool ((((decide ((6:Int)<(c.pars.length:Nat))) || ((decide ((12:Int)<(c.feats.length:Nat))) && (decide (((c.feats.length:Nat):Int)≤60)))) || (decide ((65:Int)<(c.feats.length:Nat)))) || (decide ((5:Int)<(c.forms.length:Nat))))) (λhcut=>aM (b:=(((decide ((6:Int)<(c.pars.length:Nat))) || ((decide ((12:Int)<(c.feats.length:Nat))) && (decide (((c.feats.length:Nat):Int)≤60)))) || (decide ((65:Int)<(c.feats.length:Nat))))) false (λhg=>?_)<|λhg=>?_) ?_
 ·refine aC Z Z hg ?_
  iterate 3 refine aC rfl rfl hg ?_
  refine sV (vQ (bO Z hg) Z) ?_
  exact hcut _ uG
 ·refine sG Z (bG Z hg) (vF Z DY Z)<|sG Z (bG Z hg) (vY Z ld38) ?_
  refine sG Z (bG Z hg) (aF Z underlying38)<|sG Z (bG Z hg) (cu Z Z)<|sV (vP (bO Z hg) Z) ?_
  exact hcut _ uG
 refine sM Z<|bC (k:=28) (d:=40) (v:=.bool (((((decide ((6:Int)<(c.pars.length:Nat))) || ((decide ((12:Int)<(c.feats.length:Nat))) && (decide (((c.feats.length:Nat):Int)≤60)))) || (decide ((65:Int)<(c.feats.length:Nat)))) || (decide ((5:Int)<(c.forms.length:Nat)))) || (decide ((12:Int)<(ns.length:Nat))))) (λhcut=>aM (b:=((((decide ((6:Int)<(c.pars.length:Nat))) || ((decide ((12:Int)<(c.feats.length:Nat))) && (decide (((c.feats.length:Nat):Int)≤60)))) || (decide ((65:Int)<(c.feats.length:Nat)))) || (decide ((5:Int)<(c.forms.length:Nat))))) false (λhg=>?_)<|λhg=>?_) ?_
 ·refine aC Z Z hg ?_
  iterate 3 refine aC rfl rfl hg ?_
  refine sV (vQ (bO Z hg) Z) ?_
  exact hcut _ uG
 ·refine sG Z (bG Z hg) (vF Z fa44_4 Z)<|sG Z (bG Z hg) (vY Z fI) ?_
  refine sG Z (bG Z hg) (aF Z underlying40)<|sG Z (bG Z hg) (cu Z Z)<|sV (vP (bO Z hg) Z) ?_
  exact hcut _ uG
 refine sM Z<|bC (k:=34) (d:=46) (v:=.bool ((((((decide ((6:Int)<(c.pars.length:Nat))) || ((decide ((12:Int)<(c.feats.length:Nat))) && (decide (((c.feats.length:Nat):Int)≤60)))) || (decide ((65:Int)<(c.feats.length:Nat)))) || (decide ((5:Int)<(c.forms.length:Nat)))) || (decide ((12:Int)<(ns.length:Nat)))) || (decide ((12:Int)<(c.inv.length:Nat))))) (λhcut=>aM (b:=(((((decide ((6:Int)<(c.pars.length:Nat))) || ((decide ((12:Int)<(c.feats.length:Nat))) && (decide (((c.feats.length:Nat):Int)≤60)))) || (decide ((65:Int)<(c.feats.length:Nat)))) || (decide ((5:Int)<(c.forms.length:Nat)))) || (decide ((12:Int)<(ns.length:Nat))))) false (λhg=>?_)<|λhg=>?_) ?_
 ·refine aC Z Z hg ?_
  iterate 3 refine aC rfl rfl hg ?_
  refine sV (vQ (bO Z hg) Z) ?_
  exact hcut _ uG
 ·refine sG Z (bG Z hg) (vF Z M9 Z)<|sG Z (bG Z hg) (vY Z tH) ?_
  refine sG Z (bG Z hg) (aF Z underlying42)<|sG Z (bG Z hg) (cu Z Z)<|sV (vP (bO Z hg) Z) ?_
  exact hcut _ uG
 refine sK [1,2,3,46] Z<|cC Z (λhq=>?_)<|λhq=>?_
 ·refine cQ<|sA Z<|sK [2] Z<|cT<|xR ?_
  exact aj rfl ⟨false,rfl,rfl,λh=>by cases h⟩ sbq
 ·have hq:((((((decide ((6:Int)<(c.pars.length:Nat))) || ((decide ((12:Int)<(c.feats.length:Nat))) && (decide (((c.feats.length:Nat):Int)≤60)))) || (decide ((65:Int)<(c.feats.length:Nat)))) || (decide ((5:Int)<(c.forms.length:Nat)))) || (decide ((12:Int)<(ns.length:Nat)))) || (decide ((12:Int)<(c.inv.length:Nat))))=false:=hq
  simp only [Bool.or_eq_false_iff,Bool.and_eq_false_iff,decide_eq_false_iff_not] at hq
  obtain ⟨⟨⟨⟨⟨q1,-⟩,q2⟩,q3⟩,-⟩,q4⟩:=hq
  refine cK<|xT<|cS<|cQ<|sA Z<|sK [1,2,3,4] Z<|cB<|aX (σ := Nat) (λi=>[(1,.pointer (some ⟨b1,0,none⟩)),(3,.int .i64 (c.feats.length:Nat)),(4,.int .i64 (i:Nat))]) (λ_=>pt b1 (cl [sv c.name,.bool c.dfd,.slice ca c.forms.length fak,.slice cb c.pars.length ck,.slice cea ns.length cek,.slice cf c.feats.length cfk,.slice ci c.inv.length cik] 44)::X::hr) (λi=>i≤c.pars.length/\∀ k (hk:k<c.pars.length),k<i->SmP c.pars[k]) (λi=>c.pars.length - i) 0 ⟨Nat.zero_le _,λk _ hk=>absurd hk<|Nat.not_lt_zero _⟩ ?_
  rintro i ⟨hi,hal⟩
  try simp only at hi hal
  try dsimp only
  refine cS<|cQ<|sM Z<|sV (vF Z eY Z)<|sV (vY Z lZ) ?_
  refine sV (aF Z underlying39)<|sV (aN Z Z)<|sK [1,3,4,51] Z<|cC Z (λhd=>?_)<|λhd=>?_
  ·have hlt:i<c.pars.length:=Zx
   obtain ⟨b2,o,cap2,us,e1,hus,hrd,hp⟩:=hcb.at<|Zy hlt
   obtain ⟨rfl,rfl⟩:cb=some ⟨b2,o,none⟩/\ck=cap2:=by cases e1; exact ⟨rfl,rfl⟩
   have hnx:SmP c.pars[i]->∀ k (hk:k<c.pars.length),k<i+1->SmP c.pars[k]:=λh0 k hk hki=>by
    by_cases h:k=i
    ·subst h; exact h0
    ·exact hal k hk<|by omega
   generalize c.pars[i]=p at hp hnx
   have hpo:=Enc.ones hp
   obtain ⟨x1,x2,x3,x4,x5,rfl,h1,h2,h3,h4,h5⟩:=hp
   obtain ⟨a1,k1,rfl,hl1,hm1,_⟩:=id h1.form
   obtain ⟨a2,k2,rfl,_⟩:=id h2.form
   obtain ⟨a3,k3,rfl,_⟩:=id h3.form
   obtain ⟨a4,k4,rfl,_⟩:=id h4.form
   obtain ⟨a5,k5,rfl,_⟩:=id h5.form
   refine cK<|xT<|cS<|cB<|cQ<|sV (vF Z eY Z)<|sV (vY Z lZ) ?_
   refine sM Z<|sV (vI (k:=i) Z Z oL Z hlt Z)<|sV (af Z qp Z hrd) ?_
   refine au vD λb5=>?_
   refine ai Z Z r9 Z hpo ?_
   refine sK [1,3,4,5] Z<|cS<|cQ<|sV (vF Z xk Z)<|sV (vY Z oO) ?_
   refine sV (aF Z underlying71)<|sV (cu Z Z)<|sM Z<|bC (k:=10) (d:=68) (v:=.bool ((decide ((5:Int)<(p.args.length:Nat))) || (decide ((12:Int)<(p.ren.length:Nat))))) (λhcut=>aM (b:=(decide ((5:Int)<(p.args.length:Nat)))) false (λhg=>?_)<|λhg=>?_) ?_
   ·refine aC Z Z hg ?_
    iterate 3 refine aC rfl rfl hg ?_
    refine sV (vQ (bO Z hg) Z) ?_
    exact hcut _ uG
   ·refine sG Z (bG Z hg) (vF Z Ai Z)<|sG Z (bG Z hg) (vY Z ld86) ?_
    refine sG Z (bG Z hg) (aF Z underlying86)<|sG Z (bG Z hg) (cu Z Z)<|sV (vP (bO Z hg) Z) ?_
    exact hcut _ uG
   refine sM Z<|bC (k:=16) (d:=74) (v:=.bool (((decide ((5:Int)<(p.args.length:Nat))) || (decide ((12:Int)<(p.ren.length:Nat)))) || (decide ((12:Int)<(p.und.length:Nat))))) (λhcut=>aM (b:=((decide ((5:Int)<(p.args.length:Nat))) || (decide ((12:Int)<(p.ren.length:Nat))))) false (λhg=>?_)<|λhg=>?_) ?_
   ·refine aC Z Z hg ?_
    iterate 3 refine aC rfl rfl hg ?_
    refine sV (vQ (bO Z hg) Z) ?_
    exact hcut _ uG
   ·refine sG Z (bG Z hg) (vF Z xn Z)<|sG Z (bG Z hg) (vY Z fI) ?_
    refine sG Z (bG Z hg) (aF Z underlying40)<|sG Z (bG Z hg) (cu Z Z)<|sV (vP (bO Z hg) Z) ?_
    exact hcut _ uG
   refine sM Z<|bC (k:=22) (d:=80) (v:=.bool ((((decide ((5:Int)<(p.args.length:Nat))) || (decide ((12:Int)<(p.ren.length:Nat)))) || (decide ((12:Int)<(p.und.length:Nat)))) || (decide ((12:Int)<(p.red.length:Nat))))) (λhcut=>aM (b:=(((decide ((5:Int)<(p.args.length:Nat))) || (decide ((12:Int)<(p.ren.length:Nat)))) || (decide ((12:Int)<(p.und.length:Nat))))) false (λhg=>?_)<|λhg=>?_) ?_
   ·refine aC Z Z hg ?_
    iterate 3 refine aC rfl rfl hg ?_
    refine sV (vQ (bO Z hg) Z) ?_
    exact hcut _ uG
   ·refine sG Z (bG Z hg) (vF Z xq Z)<|sG Z (bG Z hg) (vY Z fI) ?_
    refine sG Z (bG Z hg) (aF Z underlying40)<|sG Z (bG Z hg) (cu Z Z)<|sV (vP (bO Z hg) Z) ?_
    exact hcut _ uG
   refine sM Z<|bC (k:=28) (d:=86) (v:=.bool (((((decide ((5:Int)<(p.args.length:Nat))) || (decide ((12:Int)<(p.ren.length:Nat)))) || (decide ((12:Int)<(p.und.length:Nat)))) || (decide ((12:Int)<(p.red.length:Nat)))) || (decide ((12:Int)<(p.sel.length:Nat))))) (λhcut=>aM (b:=((((decide ((5:Int)<(p.args.length:Nat))) || (decide ((12:Int)<(p.ren.length:Nat)))) || (decide ((12:Int)<(p.und.length:Nat)))) || (decide ((12:Int)<(p.red.length:Nat))))) false (λhg=>?_)<|λhg=>?_) ?_
   ·refine aC Z Z hg ?_
    iterate 3 refine aC rfl rfl hg ?_
    refine sV (vQ (bO Z hg) Z) ?_
    exact hcut _ uG
   ·refine sG Z (bG Z hg) (vF Z Aj Z)<|sG Z (bG Z hg) (vY Z fI) ?_
    refine sG Z (bG Z hg) (aF Z underlying40)<|sG Z (bG Z hg) (cu Z Z)<|sV (vP (bO Z hg) Z) ?_
    exact hcut _ uG
   refine sK [1,3,4,5,86] Z<|cC Z (λhq2=>?_)<|λhq2=>?_
   ·refine cQ<|sA Z<|sK [2] Z<|cT<|xR<|xW<|xR<|xR<|xW<|xR ?_
    exact aj rfl ⟨false,rfl,rfl,λh=>by cases h⟩ sbq
   ·have hq2:(((((decide ((5:Int)<(p.args.length:Nat))) || (decide ((12:Int)<(p.ren.length:Nat)))) || (decide ((12:Int)<(p.und.length:Nat)))) || (decide ((12:Int)<(p.red.length:Nat)))) || (decide ((12:Int)<(p.sel.length:Nat))))=false:=hq2
    simp only [Bool.or_eq_false_iff,decide_eq_false_iff_not] at hq2
    have hsp:SmP p:=⟨by omega,by omega,by omega,by omega,by omega⟩
    refine cK<|xT<|cQ<|sA Z<|sK [1,3,4,5,6] Z<|cB<|aX (σ := Nat) (λj=>[(1,.pointer (some ⟨b1,0,none⟩)),(3,.int .i64 (c.feats.length:Nat)),(4,.int .i64 (i:Nat)),(5,.pointer (some ⟨b5,0,none⟩)),(6,.int .i64 (j:Nat))]) (λ_=>pt b5 (cl [sv p.name,.slice a1 p.args.length k1,.slice a2 p.ren.length k2,.slice a3 p.und.length k3,.slice a4 p.red.length k4,.slice a5 p.sel.length k5] 88)::pt b1 (cl [sv c.name,.bool c.dfd,.slice ca c.forms.length fak,.slice (some ⟨b2,o,none⟩) c.pars.length ck,.slice cea ns.length cek,.slice cf c.feats.length cfk,.slice ci c.inv.length cik] 44)::X::hr) (λj=>j≤p.args.length) (λj=>p.args.length - j) 0 (Nat.zero_le _) ?_
    rintro j hj
    try simp only at hj
    try dsimp only
    refine cS<|cQ<|sM Z<|sV (vF Z xk Z)<|sV (vY Z oO) ?_
    refine sV (aF Z underlying71)<|sV (aN Z Z)<|sK [1,3,4,5,6,91] Z<|cC Z (λhd3=>?_)<|λhd3=>?_
    ·have hltj:j<p.args.length:=Zr
     obtain ⟨g2,go,gcap,gus,e2,hgus,hgrd,hta⟩:=h1.at<|Zy hltj
     obtain ⟨rfl,rfl⟩:a1=some ⟨g2,go,none⟩/\k1=gcap:=by cases e2; exact ⟨rfl,rfl⟩
     generalize p.args[j]=a at hta
     obtain ⟨z,rfl,hz⟩:=eF hta
     have hca:=uq _ a z (Nat.le_refl _) hz
     unfold tyC at hgrd hca
     refine cK<|xT<|cS<|cB<|cQ<|sV (vF Z xk Z)<|sV (vY Z oO) ?_
     refine sM Z<|sV (vI (k:=j) Z Z yV Z hltj Z)<|sV (af Z fU Z hgrd) ?_
     refine aH Z Z en61 Z (hca) ?_
     rintro u h' ⟨kk,rfl,rfl⟩
     simp only [lC,lN]
     refine sV (cu Z Z)<|sK [1,3,4,5,6,100] Z<|cC Z (λhbig=>?_)<|λhbig=>?_
     ·refine cQ<|sA Z<|sK [2] Z<|cT<|xW<|xR<|xR<|xW<|xW<|xR<|xR<|xW<|xR ?_
      exact aj rfl ⟨false,rfl,rfl,λh=>by cases h⟩ sbq
     ·refine cK<|xB<|xT<|cR<|sM Z<|sV (aI Z Z Za)<|sA Z<|sN<|nK [1,3,4,5,6] Z<|ax ?_
      refine aJ (j+1) hltj (by show p.args.length - (j+1)<p.args.length - j; omega)
    ·refine aB<|xE<|xE<|xY<|xB<|xT<|cR<|sM Z<|sV (aI Z Z Za)<|sA Z<|sN<|nK [1,3,4] Z<|ax ?_
     refine aJ (i+1) ⟨hlt,hnx hsp⟩ (by show c.pars.length - (i+1)<c.pars.length - i; omega)
  ·have hie:i=c.pars.length:=Nat.le_antisymm hi<|Nat.not_lt.1 Zx
   subst hie
   have hpars:∀ p∈c.pars,SmP p:=λp hp=>by
    obtain ⟨k,hk,rfl⟩:=List.getElem_of_mem hp
    exact hal k hk hk
   refine aB<|xE<|xE<|xY<|xT<|cS<|cQ<|sA Z<|sK [1,3,7] Z<|cB<|aX (σ := Nat) (λi=>[(1,.pointer (some ⟨b1,0,none⟩)),(3,.int .i64 (c.feats.length:Nat)),(7,.int .i64 (i:Nat))]) (λ_=>pt b1 (cl [sv c.name,.bool c.dfd,.slice ca c.forms.length fak,.slice cb c.pars.length ck,.slice cea ns.length cek,.slice cf c.feats.length cfk,.slice ci c.inv.length cik] 44)::X::hr) (λi=>i≤c.feats.length/\∀ k (hk:k<c.feats.length),k<i->SmF c.feats[k]) (λi=>c.feats.length - i) 0 ⟨Nat.zero_le _,λk _ hk=>absurd hk<|Nat.not_lt_zero _⟩ ?_
   rintro i ⟨hi,hal⟩
   try simp only at hi hal
   try dsimp only
   refine cS<|cQ<|sM Z<|sM Z<|sV (aN Z Z)<|sK [1,3,7,103] Z<|cC Z (λhd=>?_)<|λhd=>?_
   ·have hlt:i<c.feats.length:=Zx
    obtain ⟨b2,o,cap2,us,e1,hus,hrd,hf⟩:=hcf.at<|Zy hlt
    obtain ⟨rfl,rfl⟩:cf=some ⟨b2,o,none⟩/\cfk=cap2:=by cases e1; exact ⟨rfl,rfl⟩
    have hnx:SmF c.feats[i]->∀ k (hk:k<c.feats.length),k<i+1->SmF c.feats[k]:=λh0 k hk hki=>by
     by_cases h:k=i
     ·subst h; exact h0
     ·exact hal k hk<|by omega
    generalize c.feats[i]=f at hf hnx
    have hfo:=Enc.ones hf
    obtain ⟨x2,x3,fy,x9,x10,x11,x12,x13,x14,rfl,h2,h3,hy,h10,h11,-⟩:=nk hf
    obtain ⟨a2,k2,rfl,_⟩:=id h2.form
    obtain ⟨a3,k3,rfl,hl3,hm3,_⟩:=id h3.form
    obtain ⟨a10,k10,rfl,_⟩:=id h10.form
    obtain ⟨a11,k11,rfl,_⟩:=id h11.form
    have hft:=uq _ f.ty fy (Nat.le_refl _) hy
    have hcq:=pQ h10
    have hce2:=pQ h11
    unfold Bf tyC at *
    refine cK<|xT<|cS<|cB<|cQ<|sV (vF Z kv Z)<|sV (vY Z yX) ?_
    refine sM Z<|sV (vI (k:=i) Z Z sl41 Z hlt Z)<|sV (af Z nR Z hrd) ?_
    refine au lH λb8=>?_
    refine ai Z Z jQ Z hfo ?_
    refine sK [1,3,7,8] Z<|cS<|cQ<|sV (vF Z rQ Z)<|sV (vY Z qJ) ?_
    refine sV (aF Z underlying70)<|sV (cu Z Z)<|sM Z<|bC (k:=10) (d:=120) (v:=.bool ((decide ((18:Int)<(f.args.length:Nat))) || (decide ((12:Int)<(f.clients.length:Nat))))) (λhcut=>aM (b:=(decide ((18:Int)<(f.args.length:Nat)))) false (λhg=>?_)<|λhg=>?_) ?_
    ·refine aC Z Z hg ?_
     iterate 3 refine aC rfl rfl hg ?_
     refine sV (vQ (bO Z hg) Z) ?_
     exact hcut _ uG
    ·refine sG Z (bG Z hg) (vF Z JS Z)<|sG Z (bG Z hg) (vY Z fI) ?_
     refine sG Z (bG Z hg) (aF Z underlying40)<|sG Z (bG Z hg) (cu Z Z)<|sV (vP (bO Z hg) Z) ?_
     exact hcut _ uG
    refine sM Z<|bC (k:=16) (d:=126) (v:=.bool (((decide ((18:Int)<(f.args.length:Nat))) || (decide ((12:Int)<(f.clients.length:Nat)))) || (decide ((12:Int)<(f.req.length:Nat))))) (λhcut=>aM (b:=((decide ((18:Int)<(f.args.length:Nat))) || (decide ((12:Int)<(f.clients.length:Nat))))) false (λhg=>?_)<|λhg=>?_) ?_
    ·refine aC Z Z hg ?_
     iterate 3 refine aC rfl rfl hg ?_
     refine sV (vQ (bO Z hg) Z) ?_
     exact hcut _ uG
    ·refine sG Z (bG Z hg) (vF Z zh Z)<|sG Z (bG Z hg) (vY Z tH) ?_
     refine sG Z (bG Z hg) (aF Z underlying42)<|sG Z (bG Z hg) (cu Z Z)<|sV (vP (bO Z hg) Z) ?_
     exact hcut _ uG
    refine sM Z<|bC (k:=22) (d:=132) (v:=.bool ((((decide ((18:Int)<(f.args.length:Nat))) || (decide ((12:Int)<(f.clients.length:Nat)))) || (decide ((12:Int)<(f.req.length:Nat)))) || (decide ((12:Int)<(f.ens.length:Nat))))) (λhcut=>aM (b:=(((decide ((18:Int)<(f.args.length:Nat))) || (decide ((12:Int)<(f.clients.length:Nat)))) || (decide ((12:Int)<(f.req.length:Nat))))) false (λhg=>?_)<|λhg=>?_) ?_
    ·refine aC Z Z hg ?_
     iterate 3 refine aC rfl rfl hg ?_
     refine sV (vQ (bO Z hg) Z) ?_
     exact hcut _ uG
    ·refine sG Z (bG Z hg) (vF Z zi Z)<|sG Z (bG Z hg) (vY Z tH) ?_
     refine sG Z (bG Z hg) (aF Z underlying42)<|sG Z (bG Z hg) (cu Z Z)<|sV (vP (bO Z hg) Z) ?_
     exact hcut _ uG
    refine sM Z ?_
    generalize hA:((((decide ((18:Int)<(f.args.length:Nat))) || (decide ((12:Int)<(f.clients.length:Nat)))) || (decide ((12:Int)<(f.req.length:Nat)))) || (decide ((12:Int)<(f.ens.length:Nat))))=A
    cases A with
    | true =>
     iterate 4 refine aC rfl rfl rfl ?_
     refine sV (vQ Z Z)<|sK [1,3,7,8,138] Z<|aQ Z ?_
     refine cQ<|sA Z<|sK [2] Z<|cT<|xR<|xW<|xR<|xR<|xW<|xR ?_
     exact aj rfl ⟨false,rfl,rfl,λh=>by cases h⟩ sbq
    | false =>
     simp only [Bool.or_eq_false_iff,decide_eq_false_iff_not] at hA
     have hsf:SmF f:=⟨by omega,by omega,by omega,by omega⟩
     refine sG Z Z (vF Z zg Z)<|sG Z Z (af Z fU Z<|bF (k:=4) ah (vs:=[.int .i64 f.ty.kind,sv f.ty.name,fy,.bool f.ty.void,.bool f.ty.sep]) Z) ?_
     refine ku Z Z<|aH Z Z en61 Z (hft) ?_
     rintro u h' ⟨kk,rfl,rfl⟩
     simp only [lC,lN]
     refine sG Z Z (cu Z Z)<|sV (vP Z Z)<|sK [1,3,7,8,138] Z<|cC Z (λhbig=>?_)<|λhbig=>?_
     ·refine cQ<|sA Z<|sK [2] Z<|cT<|xR<|xW<|xR<|xR<|xW<|xR ?_
      exact aj rfl ⟨false,rfl,rfl,λh=>by cases h⟩ sbq
     ·refine cK<|xT<|cS<|cQ<|sA Z<|sK [1,3,7,8,9] Z<|cB<|aX (σ := Nat) (λj=>[(1,.pointer (some ⟨b1,0,none⟩)),(3,.int .i64 (c.feats.length:Nat)),(7,.int .i64 (i:Nat)),(8,.pointer (some ⟨b8,0,none⟩)),(9,.int .i64 (j:Nat))]) (λ_=>pt b8 (cl [.int .i64 f.kind,sv f.name,.slice a2 f.clients.length k2,.slice a3 f.args.length k3,.int .i64 f.ty.kind,sv f.ty.name,fy,.bool f.ty.void,.bool f.ty.sep,x9,.slice a10 f.req.length k10,.slice a11 f.ens.length k11,x12,x13,x14] 130)::pt b1 (cl [sv c.name,.bool c.dfd,.slice ca c.forms.length fak,.slice cb c.pars.length ck,.slice cea ns.length cek,.slice (some ⟨b2,o,none⟩) c.feats.length cfk,.slice ci c.inv.length cik] 44)::X::hr) (λj=>j≤f.args.length) (λj=>f.args.length - j) 0 (Nat.zero_le _) ?_
      rintro j hj
      try simp only at hj
      try dsimp only
      refine cS<|cQ<|sM Z<|sV (vF Z rQ Z)<|sV (vY Z qJ) ?_
      refine sV (aF Z underlying70)<|sV (aN Z Z)<|sK [1,3,7,8,9,143] Z<|cC Z (λhd3=>?_)<|λhd3=>?_
      ·have hltj:j<f.args.length:=Zr
       obtain ⟨g2,go,gcap,gus,e2,hgus,hgrd,hta⟩:=h3.at<|Zy hltj
       obtain ⟨rfl,rfl⟩:a3=some ⟨g2,go,none⟩/\k3=gcap:=by cases e2; exact ⟨rfl,rfl⟩
       generalize f.args[j]=a at hta
       obtain ⟨ts,rfl,hts⟩:=hta
       obtain ⟨z,rfl,hz⟩:=eF hts
       have hca:=uq _ a.ty z (Nat.le_refl _) hz
       unfold tyC at hgrd hca
       refine cK<|xT<|cS<|cB<|cQ<|sV (vF Z rQ Z)<|sV (vY Z qJ) ?_
       refine sM Z<|sV (vI (k:=j) Z Z sl70 Z hltj Z)<|sV (vF Z mD Z)<|sV (af Z fU Z<|bF (k:=1) hgrd (vs:=[.int .i64 a.ty.kind,sv a.ty.name,z,.bool a.ty.void,.bool a.ty.sep]) Z) ?_
       refine aH Z Z en61 Z (hca) ?_
       rintro u h' ⟨k9,rfl,rfl⟩
       simp only [lC,lN]
       refine sV (cu Z Z)<|sK [1,3,7,8,9,153] Z<|cC Z (λhbig2=>?_)<|λhbig2=>?_
       ·refine cQ<|sA Z<|sK [2] Z<|cT<|xW<|xR<|xR<|xW<|xR<|xW<|xR<|xR<|xW ?_
        refine xR ?_
        exact aj rfl ⟨false,rfl,rfl,λh=>by cases h⟩ sbq
       ·refine cK<|xB<|xT<|cR<|sM Z<|sV (aI Z Z Za)<|sA Z<|sN<|nK [1,3,7,8,9] Z<|ax ?_
        refine aJ (j+1) hltj (by show f.args.length - (j+1)<f.args.length - j; omega)
      ·refine aB<|xE<|xE<|xY<|xT<|cQ<|sV (vF Z zh Z)<|sV (vY Z tH) ?_
       refine aH Z Z en62 Z (hcq) ?_
       rintro u h' ⟨k9,rfl,rfl⟩
       simp only [lC,lN]
       refine sV (cu Z Z)<|sM Z ?_
       generalize hB:decide ((200:Int)<k9)=B
       cases B with
       | true =>
        iterate 4 refine aC rfl rfl rfl ?_
        refine sV (vQ Z Z)<|sK [1,3,7,163] Z<|aQ Z ?_
        refine cQ<|sA Z<|sK [2] Z<|cT<|xW<|xR<|xR<|xW<|xR ?_
        exact aj rfl ⟨false,rfl,rfl,λh=>by cases h⟩ sbq
       | false =>
        refine sG Z Z (vF Z zi Z)<|sG Z Z (vY Z tH) ?_
        refine ku Z Z<|aH Z Z en62 Z (hce2) ?_
        rintro u h' ⟨k8,rfl,rfl⟩
        simp only [lC,lN]
        refine sG Z Z (cu Z Z)<|sV (vP Z Z)<|sK [1,3,7,163] Z<|cC Z (λhbig2=>?_)<|λhbig2=>?_
        ·refine cQ<|sA Z<|sK [2] Z<|cT<|xW<|xR<|xR<|xW<|xR ?_
         exact aj rfl ⟨false,rfl,rfl,λh=>by cases h⟩ sbq
        ·refine cK<|xB<|xT<|cR<|sM Z<|sV (aI Z Z Za)<|sA Z<|sN<|nK [1,3,7] Z<|ax ?_
         refine aJ (i+1) ⟨hlt,hnx hsf⟩ (by show c.feats.length - (i+1)<c.feats.length - i; omega)
   ·have hie:i=c.feats.length:=Nat.le_antisymm hi<|Nat.not_lt.1 Zx
    subst hie
    have hfeats:∀ f∈c.feats,SmF f:=λf hf=>by
     obtain ⟨k,hk,rfl⟩:=List.getElem_of_mem hf
     exact hal k hk hk
    have hcq:=pQ hci
    refine aB<|xE<|xE<|xY<|xT<|cQ<|sV (vF Z M9 Z)<|sV (vY Z tH) ?_
    refine aH Z Z en62 Z (hcq) ?_
    rintro u h' ⟨kk,rfl,rfl⟩
    simp only [lC,lN]
    refine sV (Cc Z Z)<|sA Z<|sK [2] Z<|cT ?_
    exact aj Z ⟨_,Z,Z,λ_=>⟨by omega,by omega,by omega,by omega,hpars,hfeats⟩⟩ sbq
theorem NW (hl:Cre X v l) (hls:Ls X v l):Ct prog 10 #[v] [X] λu h'=>∃ ok,u = .bool ok/\h'=[X]/\(ok=true->SmL l):=by
 have hml:maxLen=9223372036854775807:=rfl
 obtain ⟨vAq,vK,rfl,hvl,hvm,_⟩:=id hls.form
 refine aL (n:=31) func10 Z Z (len Z) λhr w0=>?_
 refine cQ<|sA Z<|sN<|nT<|cS<|cQ<|sA Z<|sN<|nT<|cB<|aX (σ := Nat) (λi=>[(0,.slice vAq l.length vK),(3,.int .i64 (i:Nat))]) (λ_=>X::hr) (λi=>i≤l.length/\∀ k (hk:k<l.length),k<i->SmC l[k]) (λi=>l.length - i) 0 ⟨Nat.zero_le _,λk _ hk=>absurd hk<|Nat.not_lt_zero _⟩ ?_
 rintro i ⟨hi,hal⟩
 try simp only at hi hal
 try dsimp only
 refine cS<|cQ<|sM Z<|sM Z<|sV (aF Z underlying22)<|sV (aN Z Z)<|sK [0,3,8] Z<|cC Z (λhd=>?_)<|λhd=>?_
 ·have hlt:i<l.length:=Zx
  obtain ⟨b2,o,cap2,us,e1,hrd,hc,hcr⟩:=hl i _<|Zy hlt
  cases e1
  have hnx:SmC l[i]->∀ k (hk:k<l.length),k<i+1->SmC l[k]:=λh0 k hk hki=>by
   by_cases h:k=i
   ·subst h; exact h0
   ·exact hal k hk<|by omega
  generalize l[i]=c at hc hnx
  have hsm:=LB hc hcr
  obtain ⟨ca,cb,ce,cf,ci,rfl,-⟩:=gp hc
  refine cK<|xT<|cS<|cB<|cQ<|sM Z<|sM Z<|sV (vI (k:=i) Z Z ve Z hlt Z)<|sV (af Z gG Z hrd) ?_
  refine aH Z Z en15 Z (hsm) ?_
  rintro u h' ⟨ok,rfl,rfl,hok⟩
  simp only [lC,lN]
  refine sA Z<|sK [0,3,4] Z<|cQ<|sM Z<|sV (bg Z)<|sK [0,3,17] Z ?_
  cases ok with
  | false =>
   refine aQ Z ?_
   refine cQ<|sA Z<|sK [2] Z<|cT<|xW<|xR<|xR<|xW<|xR ?_
   exact aj rfl ⟨false,rfl,rfl,λh=>by cases h⟩ sbq
  | true =>
   refine aG Z ?_
   refine cK<|xB<|xT<|cR<|sM Z<|sV (aI Z Z Za)<|sA Z<|sN<|nK [0,3] Z<|ax ?_
   refine aJ (i+1) ⟨hlt,hnx<|hok Z⟩ (by show l.length - (i+1)<l.length - i; omega)
 ·have hie:i=l.length:=Nat.le_antisymm hi<|Nat.not_lt.1 Zx
  subst hie
  have hcls:∀ c∈l,SmC c:=λc hc=>by
   obtain ⟨k,hk,rfl⟩:=List.getElem_of_mem hc
   exact hal k hk hk
  refine aB<|xE<|xE<|xY<|xT<|cQ<|sM Z<|sV (aF Z underlying22)<|sV (Cc Z Z)<|sM Z<|bC (k:=13) (d:=30) (v:=.bool ((decide (((l.length:Nat):Int)≤10)) || ((decide ((24:Int)<(l.length:Nat))) && (decide (((l.length:Nat):Int)≤30))))) (λhcut=>aM (b:=(decide (((l.length:Nat):Int)≤10))) false (λhg=>?_)<|λhg=>?_) ?_
  ·refine aC Z Z hg ?_
   iterate 3 refine aC rfl rfl hg ?_
   refine bS Z Z ?_
   refine bS Z Z ?_
   refine bS Z Z ?_
   refine aC Z Z hg ?_
   refine sV (vQ (bO Z hg) Z) ?_
   exact hcut _ uG
  ·refine sG Z (bG Z hg) (vM Z)<|sG Z (bG Z hg) (aF Z underlying22)<|sG Z (bG Z hg) (cu Z Z)<|sG Z (bG Z hg) (vM Z)<|bC (k:=12) (d:=29) (v:=.bool ((decide ((24:Int)<(l.length:Nat))) && (decide (((l.length:Nat):Int)≤30)))) (λhcut=>aM (b:=(decide ((24:Int)<(l.length:Nat)))) true (λhg1=>?_)<|λhg1=>?_) ?_
   ·refine aC Z Z hg1 ?_
    iterate 2 refine aC rfl rfl hg1 ?_
    refine sG Z (bG Z hg) (vP (bO Z hg1) Z) ?_
    exact hcut _<|uH (by first | rfl | (rw [hg1]; rfl) | simp_all)<|uS Z<|uS Z<|uS Z<|uR
   ·refine sG Z (bG Z hg1) (vM Z)<|sG Z (bG Z hg1) (aF Z underlying22)<|sG Z (bG Z hg1) (Cc Z Z)<|sG Z (bG Z hg) (vQ (bO Z hg1) Z) ?_
    exact hcut _<|uH (by first | rfl | (rw [hg1]; rfl) | simp_all)<|uS Z<|uS Z<|uS Z<|uR
   refine sV (vP (bO Z hg) Z) ?_
   exact hcut _<|uH (by first | rfl | (rw [hg]; rfl) | simp_all) (by repeat (first | exact uR | refine uS Z ?_))
  refine sA Z<|sK [2] Z<|cT ?_
  exact aj Z ⟨_,Z,Z,λh=>⟨by simp only [Bool.or_eq_true,Bool.and_eq_true,decide_eq_true_eq] at h; omega,hcls⟩⟩ sbq
end
end Go.Fl
namespace Go.Fl
open Go Go.RowKit Go.Ck Go.Proofs Go.Proofs.Tryz Go.Proofs.YtknmacdbffgjgaaGreatDoor Fx Go.Hr
theorem GD {α : Type} [DecidableEq α] {xs ys:List α} {i:Nat} {x y : α} (hg:xs[i]? = some x) (hg':ys[i]? = some y) (h:x≠y):decide (xs=ys)=false:=by
 apply decide_eq_false
 rintro rfl
 rw [hg] at hg'
 exact h<|Option.some.inj hg'
theorem NY {α : Type} [DecidableEq α] {xs ys:List α} (h:xs.length≠ys.length):decide (xs=ys)=false:=by
 apply decide_eq_false
 rintro rfl
 exact h Z
theorem kP {α : Type} {xs ys:List α} {i:Nat} {x y : α} (h:xs.take i=ys.take i) (hg:xs[i]? = some x) (hg':ys[i]? = some y) (e:x=y):xs.take (i+1)=ys.take (i+1):=by
 rw [List.take_add_one,List.take_add_one,h,hg,hg',e]
theorem take_eq_all {α : Type} [DecidableEq α] {xs ys:List α} (hl:xs.length=ys.length) (h:xs.take xs.length=ys.take xs.length):decide (xs=ys)=true:=by
 rw [List.take_length] at h
 apply decide_eq_true
 rw [h,hl,List.take_length]
attribute [local irreducible] Go.Ck.Sub St Cd Xt Nx DrL LsW
section
variable {X:Res} {v v':Value}
theorem eq51_ct {xs ys:List Nm} (hx:Ls X v xs) (hy:Ls X v' ys):Reads prog 51 #[v,v'] [X] (.bool (decide (xs=ys))):=by
 have hml:maxLen=9223372036854775807:=rfl
 obtain ⟨xa,xc,rfl,hlc,hcm,_⟩:=id hx.form
 obtain ⟨ya,yc,rfl,hlc',hcm',_⟩:=id hy.form
 refine aL (n:=26) func51 Z Z (len Z) λhr w0=>?_
 refine cQ<|sA Z<|sN<|nT<|cS<|cQ<|sM Z<|sV (aF Z underlying40)<|sM Z<|sV (aF Z underlying40)<|sV (bP Z Z)<|sK [0,1,4,10] Z<|cC Z (λhq=>?_)<|λhq=>?_
 ·rw [NY (show xs.length≠ys.length from λh=>by rw [h] at hq; simp at hq)]
  refine cQ<|sA Z<|sK [4] Z<|cT<|xR ?_
  exact aj Z ⟨Z,Z⟩ sbq
 ·have hl:xs.length=ys.length:=by
   have hq:((xs.length:Nat):Int)=(ys.length:Nat):=Zu
   omega
  refine cK<|xT<|cS<|cQ<|sA Z<|sK [0,1,4,5] Z<|cB<|aX (σ := Nat) (λi=>[(0,.slice xa xs.length xc),(1,.slice ya ys.length yc),(5,.int .i64 (i:Nat))]) (λ_=>X::hr) (λi=>i≤xs.length/\xs.take i=ys.take i) (λi=>xs.length - i) 0 ⟨Nat.zero_le _,Z⟩ ?_
  rintro i ⟨hi,hal⟩
  refine cS<|cQ<|sM Z<|sM Z<|sV (aF Z underlying40)<|sV (aN Z Z)<|sK [0,1,5,14] Z<|cC Z (λhd=>?_)<|λhd=>?_
  ·have hlt:i<xs.length:=Zx
   have hlt':i<ys.length:=by omega
   have hg:=Zy hlt
   have hg':=Zy hlt'
   obtain ⟨b,o,cap2,us,e1,hus,hrd,hta⟩:=hx.at hg
   cases e1
   obtain ⟨b',o',cap2',us',e1,hus',hrd',htb⟩:=hy.at hg'
   cases e1
   generalize xs[i]=x at hg hta
   generalize ys[i]=y at hg' htb
   obtain rfl:us=[sv x]:=hta
   obtain rfl:us'=[sv y]:=htb
   refine cK<|xT<|cS<|cB<|cS<|bB (ork [(0,2),(1,2),(2,2),(3,1),(4,2),(5,2),(6,2),(7,1),(8,1)] .nil) (λ_=>true) mixed Zz ?_
   refine dV Z (vM Z)<|dV Z (vM Z)<|dV Z (vI (k:=i) Z Z jm Z hlt Z)<|bu Z (vY Z ld9 (ha:=⟨X,_,slq,hrd 0<|by simp⟩)) ?_
   refine dV Z (vM Z)<|dV Z (vM Z)<|dV Z (vI (k:=i) Z Z jm Z hlt' Z)<|bu Z (vY Z ld9 (ha:=⟨X,_,slq,hrd' 0<|by simp⟩)) ?_
   refine bu Z (wV Z Z)<|bA<|nK [0,1,5,25] Z<|nT<|cC Z (λhne=>?_)<|λhne=>?_
   ·have hne:x≠y:=Zv
    rw [GD hg hg' hne]
    refine cQ<|sA Z<|sK [4] Z<|cT<|xW<|xR<|xR<|xW<|xR ?_
    exact aj Z ⟨Z,Z⟩ sbq
   ·have hne:x=y:=Zv
    refine cK<|xB<|xT<|cR<|sM Z<|sV (aI Z Z Za)<|sA Z<|sN<|nK [0,1,5] Z<|ax ?_
    refine aJ (i+1) ⟨hlt,kP hal hg hg' hne⟩ (by show xs.length - (i+1)<xs.length - i; omega)
  ·have hie:i=xs.length:=Nat.le_antisymm hi<|Nat.not_lt.1 Zx
   subst hie
   rw [take_eq_all hl hal]
   refine aB<|xE<|xE<|xY<|xT<|cQ<|sA Z<|sK [4] Z<|cT ?_
   exact aj Z ⟨Z,Z⟩ sbq
theorem Kr : ∀ (d : Nat) (s t : Kt) (us us' : List Value), s.depth ≤ d -> Ty X us s -> Ty X us' t -> Reads prog 40 #[.agg us.toArray, .agg us'.toArray] [X] (.bool (decide (s = t)))
 | 0,s,_,_,_,hd,_,_=>by cases s; simp [Kt.depth] at hd
 | d + 1, s, t, us, us', hd, hs, ht => by
  have hml:maxLen=9223372036854775807:=rfl
  obtain ⟨x,rfl,hx⟩:=eF hs
  obtain ⟨y,rfl,hy⟩:=eF ht
  have hF:∀ (a b:Kt) us us',a∈s.args->Ty X us a->Ty X us' b->Reads prog 40 #[.agg us.toArray,.agg us'.toArray] [X] (.bool<|decide (a=b)):=λa b us us' ha h1 h2=>Kr d a b us us' (by have:=jI ha; omega) h1 h2
  rw [CZ]
  obtain ⟨xa,xc,rfl,hlc,hcm,_⟩:=hx.form
  obtain ⟨ya,yc,rfl,hlc',hcm',_⟩:=hy.form
  unfold tyC
  refine aL (n:=62) func40 Z Z (len Z) λhr w0=>?_
  refine cQ (aP Z Z λb2=>?_)
  refine aP Z Z λb3=>?_
  refine sA Z<|sK [2,3,4] Z<|cS<|cQ<|sV (vF Z qP Z)<|sV (vY Z ld3) ?_
  refine sV (vF Z qP Z)<|sV (vY Z ld3) ?_
  refine sV (bP Z Z)<|sM Z<|bC (k:=12) (d:=18) (v:=.bool ((s.kind != t.kind) || !(s.name == t.name))) (λhcut=>aM (b:=(s.kind != t.kind)) false (λhg=>?_)<|λhg=>?_) ?_
  ·refine aC Z Z hg ?_
   iterate 4 refine aC rfl rfl hg ?_
   refine sV (vQ (bO Z hg) Z) ?_
   exact hcut _ uG
  ·refine sG Z (bG Z hg) (vF Z Ag Z)<|sG Z (bG Z hg) (vY Z ld9) ?_
   refine sG Z (bG Z hg) (vF Z Ag Z)<|sG Z (bG Z hg) (vY Z ld9) ?_
   refine sG Z (bG Z hg) (wV Z Z)<|sV (vP (bO Z hg) Z) ?_
   exact hcut _ uG
  refine sM Z<|bC (k:=19) (d:=25) (v:=.bool (((s.kind != t.kind) || !(s.name == t.name)) || (s.void != t.void))) (λhcut=>aM (b:=((s.kind != t.kind) || !(s.name == t.name))) false (λhg=>?_)<|λhg=>?_) ?_
  ·refine aC Z Z hg ?_
   iterate 4 refine aC rfl rfl hg ?_
   refine sV (vQ (bO Z hg) Z) ?_
   exact hcut _ uG
  ·refine sG Z (bG Z hg) (vF Z oP Z)<|sG Z (bG Z hg) (vY Z ld4) ?_
   refine sG Z (bG Z hg) (vF Z oP Z)<|sG Z (bG Z hg) (vY Z ld4) ?_
   refine sG Z (bG Z hg) (zW underlying4 Z Z)<|sV (vP (bO Z hg) Z) ?_
   exact hcut _ uG
  refine sM Z<|bC (k:=26) (d:=32) (v:=.bool ((((s.kind != t.kind) || !(s.name == t.name)) || (s.void != t.void)) || (s.sep != t.sep))) (λhcut=>aM (b:=(((s.kind != t.kind) || !(s.name == t.name)) || (s.void != t.void))) false (λhg=>?_)<|λhg=>?_) ?_
  ·refine aC Z Z hg ?_
   iterate 4 refine aC rfl rfl hg ?_
   refine sV (vQ (bO Z hg) Z) ?_
   exact hcut _ uG
  ·refine sG Z (bG Z hg) (vF Z oQ Z)<|sG Z (bG Z hg) (vY Z ld4) ?_
   refine sG Z (bG Z hg) (vF Z oQ Z)<|sG Z (bG Z hg) (vY Z ld4) ?_
   refine sG Z (bG Z hg) (zW underlying4 Z Z)<|sV (vP (bO Z hg) Z) ?_
   exact hcut _ uG
  refine sM Z<|bC (k:=35) (d:=41) (v:=.bool (((((s.kind != t.kind) || !(s.name == t.name)) || (s.void != t.void)) || (s.sep != t.sep)) || (((s.args.length:Nat):Int) != (t.args.length:Nat)))) (λhcut=>aM (b:=((((s.kind != t.kind) || !(s.name == t.name)) || (s.void != t.void)) || (s.sep != t.sep))) false (λhg=>?_)<|λhg=>?_) ?_
  ·refine aC Z Z hg ?_
   iterate 6 refine aC rfl rfl hg ?_
   refine sV (vQ (bO Z hg) Z) ?_
   exact hcut _ uG
  ·refine sG Z (bG Z hg) (vF Z iN Z)<|sG Z (bG Z hg) (vY Z oO) ?_
   refine sG Z (bG Z hg) (aF Z underlying71)<|sG Z (bG Z hg) (vF Z iN Z)<|sG Z (bG Z hg) (vY Z oO) ?_
   refine sG Z (bG Z hg) (aF Z underlying71)<|sG Z (bG Z hg) (bP Z Z)<|sV (vP (bO Z hg) Z) ?_
   exact hcut _ uG
  refine sK [2,3,4,41] Z<|cC Z (λhq=>?_)<|λhq=>?_
  ·rw [show ((((s.kind == t.kind && s.name == t.name) && s.void == t.void) && s.sep == t.sep) && decide (s.args=t.args))=false by
    cases hw:((((s.kind == t.kind && s.name == t.name) && s.void == t.void) && s.sep == t.sep) && decide (s.args=t.args)) with
    | false=>rfl
    | true =>
     simp only [Bool.and_eq_true,beq_iff_eq,decide_eq_true_eq] at hw
     obtain ⟨⟨⟨⟨w1,w2⟩,w3⟩,w4⟩,w5⟩:=hw
     rw [w5] at hq
     simp [w1,w2,w3,w4] at hq]
   refine cQ<|sA Z<|sK [4] Z<|cT<|xR ?_
   exact aj Z ⟨Z,Z⟩ sbq
  ·have hq:(((((s.kind != t.kind) || !(s.name == t.name)) || (s.void != t.void)) || (s.sep != t.sep)) || (((s.args.length:Nat):Int) != (t.args.length:Nat)))=false:=hq
   simp only [Bool.or_eq_false_iff,bne_eq_false_iff_eq,Bool.not_eq_false',beq_iff_eq] at hq
   obtain ⟨⟨⟨⟨q1,q2⟩,q3⟩,q4⟩,q5⟩:=hq
   have hl:s.args.length=t.args.length:=by omega
   rw [show ((((s.kind == t.kind && s.name == t.name) && s.void == t.void) && s.sep == t.sep) && decide (s.args=t.args))=decide (s.args=t.args) by simp [q1,q2,q3,q4]]
   refine cK<|xT<|cS<|cQ<|sA Z<|sK [2,3,4,5] Z<|cB<|aX (σ := Nat) (λi=>[(2,.pointer (some ⟨b2,0,none⟩)),(3,.pointer (some ⟨b3,0,none⟩)),(5,.int .i64 (i:Nat))]) (λ_=>pt b2 (cl [.int .i64 s.kind,sv s.name,.slice xa s.args.length xc,.bool s.void,.bool s.sep] 73)::pt b3 (cl [.int .i64 t.kind,sv t.name,.slice ya t.args.length yc,.bool t.void,.bool t.sep] 73)::X::hr) (λi=>i≤s.args.length/\s.args.take i=t.args.take i) (λi=>s.args.length - i) 0 ⟨Nat.zero_le _,Z⟩ ?_
   rintro i ⟨hi,hal⟩
   refine cS<|cQ<|sM Z<|sV (vF Z iN Z)<|sV (vY Z oO) ?_
   refine sV (aF Z underlying71)<|sV (aN Z Z)<|sK [2,3,5,46] Z<|cC Z (λhd=>?_)<|λhd=>?_
   ·have hlt:i<s.args.length:=Zx
    have hlt':i<t.args.length:=by omega
    have hg:=Zy hlt
    have hg':=Zy hlt'
    have hmem:=List.getElem_mem hlt
    obtain ⟨b,o,cap2,us,e1,hus,hrd,hta⟩:=hx.at hg
    cases e1
    obtain ⟨b',o',cap2',us',e1,hus',hrd',htb⟩:=hy.at hg'
    cases e1
    generalize s.args[i]=x at hg hmem hta
    generalize t.args[i]=y at hg' htb
    refine cK<|xT<|cS<|cB<|cS<|bB (ork [(0,2),(1,1),(2,2),(3,2),(4,1),(5,2),(6,1),(7,2),(8,2),(9,1),(10,1),(11,2)] .nil) (λ_=>true) mixed Zz ?_
    refine dV Z (vF Z iN Z)<|bu Z (vY Z oO) ?_
    refine dV Z (vM Z)<|dV Z (vI (k:=i) Z Z yV Z hlt Z)<|bu Z (af Z fU hus hrd) ?_
    refine dV Z (vF Z iN Z)<|bu Z (vY Z oO) ?_
    refine dV Z (vM Z)<|dV Z (vI (k:=i) Z Z yV Z hlt' Z)<|bu Z (af Z fU hus' hrd') ?_
    refine jG Z Z Z en40 Z ((hF x y us us' hmem hta htb)) ?_
    refine dV Z (vA Z)<|bA<|nK [2,3,5,6] Z<|nT<|cQ<|sM Z<|sV (bg Z)<|sK [2,3,5,61] Z<|cC Z (λhne=>?_)<|λhne=>?_
    ·have hne:x≠y:=Zv
     rw [GD hg hg' hne]
     refine cQ<|sA Z<|sK [4] Z<|cT<|xW<|xR<|xR<|xW<|xR ?_
     exact aj Z ⟨Z,Z⟩ sbq
    ·have hne:x=y:=Zv
     refine cK<|xB<|xT<|cR<|sM Z<|sV (aI Z Z Za)<|sA Z<|sN<|nK [2,3,5] Z<|ax ?_
     refine aJ (i+1) ⟨hlt,kP hal hg hg' hne⟩ (by show s.args.length - (i+1)<s.args.length - i; omega)
   ·have hie:i=s.args.length:=Nat.le_antisymm hi<|Nat.not_lt.1 Zx
    subst hie
    rw [take_eq_all hl hal]
    refine aB<|xE<|xE<|xY<|xT<|cQ<|sA Z<|sK [4] Z<|cT ?_
    exact aj Z ⟨Z,Z⟩ sbq
theorem eqT_ct {s t:Kt} {us us':List Value} (hs:Ty X us s) (ht:Ty X us' t):Reads prog 40 #[.agg us.toArray,.agg us'.toArray] [X] (.bool (decide (s=t))):=Kr _ s t us us' (Nat.le_refl _) hs ht
end
end Go.Fl
