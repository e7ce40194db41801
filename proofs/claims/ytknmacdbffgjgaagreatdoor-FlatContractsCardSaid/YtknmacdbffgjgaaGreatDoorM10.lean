/-
  Whole rows written and cleared. Generic. No condition.
-/
import Derived.Test.YtknmacdbffgjgaaGreatDoorM9
import Derived.Test.YtknmacdbffgjgaaGreatDoorM6
import Derived.Test.YtknmacdbffgjgaaGreatDoorM8
import Derived.Shelf.SlSortCmp.NoneTotal
set_option linter.unusedVariables false
set_option linter.unusedSimpArgs false
set_option maxRecDepth 100000
set_option maxHeartbeats 16000000
namespace Go.Fl
open Go Go.RowKit Go.Ck Go.Proofs Go.Proofs.Tryz Go.Proofs.YtknmacdbffgjgaaGreatDoor Fx Go.Hr
attribute [local irreducible] Go.Ck.Sub St Cd Xt Nx DrL LsW
section
variable {X:Res} {v v':Value} {us us':List Value}
theorem Gl {m:Mb} (h:Enc.rep X us m):CtN prog 99 #[.agg us.toArray] [X] λu T=>∃ us':List Value,u = .agg us'.toArray/\Enc.rep T us' m:=by
 obtain ⟨x2,x5,xy,x11,x12,x13,rfl,hx2,hx5,hxy,hx11,hx12,hx13⟩:=dh h
 obtain ⟨a2,k2,rfl,_⟩:=id hx2.form
 obtain ⟨a5,k5,rfl,_⟩:=id hx5.form
 obtain ⟨ay,ky,rfl,_⟩:=id hxy.form
 obtain ⟨a11,k11,rfl,_⟩:=id hx11.form
 obtain ⟨a12,k12,rfl,_⟩:=id hx12.form
 obtain ⟨a13,k13,rfl,_⟩:=id hx13.form
 have hc:=AX<|gN (t:=m.ty) rfl hxy
 unfold tyC at hc
 unfold gz
 refine aL (n:=28) func99 Z Z (len Z) λhr w0=>?_
 refine cQ (aP Z Z λb1=>?_)
 refine au ji λb2=>?_
 refine sK [1,2] Z<|cS<|bB (ork [(0,2),(1,1),(3,2),(4,1),(6,2),(7,1),(9,2),(10,1),(2,0),(12,2),(5,0),(8,0),(11,0),(13,0),(14,2),(15,0),(16,2),(17,0),(18,2),(19,0)] .nil) (λi => !(Nat.beq i 11 || Nat.beq i 13 || Nat.beq i 15 || Nat.beq i 17 || Nat.beq i 19)) mixed Zz ?_
 refine dV Z (vF Z dX Z)<|bu Z (vY Z nO) ?_
 refine dV Z (vF Z Na Z)<|bu Z (vY Z fI) ?_
 refine dV Z (vF Z jH Z)<|bu Z (vY Z qJ) ?_
 refine dV Z (vF Z qQ Z)<|bu Z (af Z fU Z<|bF (us:=[sv m.name,.int .i64 m.kind,.slice a2 m.seeds.length k2,sv m.impl.cls,sv m.impl.name,.slice a5 m.args.length k5,.int .i64 m.ty.kind,sv m.ty.name,.slice ay m.ty.args.length ky,.bool m.ty.void,.bool m.ty.sep,.slice a11 m.clients.length k11,.slice a12 m.pre.length k12,.slice a13 m.post.length k13]) (vs:=[.int .i64 m.ty.kind,sv m.ty.name,.slice ay m.ty.args.length ky,.bool m.ty.void,.bool m.ty.sep]) (k:=6) ah Z) ?_
 refine aV Z<|aH Z Z en163 Z (Gh hx2) ?_
 rintro u1 h' ⟨T1,rfl,r1,rfl,o1,w1⟩
 simp only [lC,lN]
 refine aW ?_
 refine dV Z (vF Z dX Z)<|aV Z<|aH Z Z J5 Z (mJ hx11) ?_
 rintro u2 h' ⟨T2,rfl,r2,rfl,o2,w2⟩
 simp only [lC,lN]
 refine aW ?_
 refine aV Z<|aH Z Z en175 Z (IC en176 hx5 λ_ _ _ h=>NP h) ?_
 rintro u3 h' ⟨T3,rfl,hT3⟩
 simp only [lC,lN]
 refine aW ?_
 refine aV Z<|aH Z Z J2 Z (hc) ?_
 rintro u4 h' ⟨T4,rfl,us4,rfl,hT4⟩
 simp only [lC,lN]
 obtain ⟨y,rfl,hy⟩:=eF hT4
 obtain ⟨ya,yc,rfl,_⟩:=id hy.form
 unfold tyC
 obtain ⟨a3,k3,rfl,_⟩:=id hT3.form
 refine aW ?_
 refine aV Z<|bf Z Z E9<|aW ?_
 refine dV Z (vF Z Na Z)<|aV Z<|bf Z Z yU<|aW ?_
 refine dV Z (vF Z jH Z)<|aV Z<|bf Z Z sz70<|aW ?_
 refine dV rfl (vF rfl qQ rfl)<|aV rfl<|ik rfl rfl nL rfl (λu hu=>by simp at hu; rcases hu with rfl | rfl | rfl | rfl | rfl <;> rfl) (show Sel _ (pt b1<|cl [sv m.name,.int .i64 m.kind,u1,sv m.impl.cls,sv m.impl.name,.slice a3 m.args.length k3,.int .i64 m.ty.kind,sv m.ty.name,.slice ay m.ty.args.length ky,.bool m.ty.void,.bool m.ty.sep,u2,.slice a12 m.pre.length k12,.slice a13 m.post.length k13] 75) _ from slq) (by simp)<|aW ?_
 rw [show splice [sv m.name,.int .i64 m.kind,u1,sv m.impl.cls,sv m.impl.name,.slice a3 m.args.length k3,.int .i64 m.ty.kind,sv m.ty.name,.slice ay m.ty.args.length ky,.bool m.ty.void,.bool m.ty.sep,u2,.slice a12 m.pre.length k12,.slice a13 m.post.length k13] (0+6) [.int .i64 m.ty.kind,sv m.ty.name,.slice ya m.ty.args.length yc,.bool m.ty.void,.bool m.ty.sep]=[sv m.name,.int .i64 m.kind,u1,sv m.impl.cls,sv m.impl.name,.slice a3 m.args.length k3,.int .i64 m.ty.kind,sv m.ty.name,.slice ya m.ty.args.length yc,.bool m.ty.void,.bool m.ty.sep,u2,.slice a12 m.pre.length k12,.slice a13 m.post.length k13] from rfl]
 refine bA<|nK [1,2] Z<|nT<|cS<|bB (ork [(0,2),(1,1),(3,2),(4,1),(2,0),(6,2),(5,0),(7,0),(8,2),(9,0)] .nil) (λi => !(Nat.beq i 5 || Nat.beq i 7 || Nat.beq i 9)) mixed Zz ?_
 refine dV Z (vF Z iO Z)<|bu Z (vY Z qo) ?_
 refine dV Z (vF Z iP Z)<|bu Z (vY Z qo) ?_
 refine aV Z<|aH Z Z en120 Z (uj en121 hx12 λ_ _ _ h=>AY h) ?_
 rintro u5 h' ⟨T5,rfl,hT5⟩
 simp only [lC,lN]
 obtain ⟨a6,k6,rfl,_⟩:=id hT5.form
 refine aW ?_
 refine dV Z (vF Z iO Z)<|aV Z<|aH Z Z en120 Z (uj en121 hx13 λ_ _ _ h=>AY h) ?_
 rintro u7 h' ⟨T7,rfl,hT7⟩
 simp only [lC,lN]
 obtain ⟨a8,k8,rfl,_⟩:=id hT7.form
 refine aW ?_
 refine aV Z<|bf Z Z mW<|aW ?_
 refine dV Z (vF Z iP Z)<|aV Z<|bf Z Z mW<|aW ?_
 refine bA<|nK [1,2] Z<|nT<|cQ<|sV (af Z eU Z ah) ?_
 have hone2:([sv m.name,.int .i64 m.kind,u1,sv m.impl.cls,sv m.impl.name,.slice a3 m.args.length k3,.int .i64 m.ty.kind,sv m.ty.name,.slice ya m.ty.args.length yc,.bool m.ty.void,.bool m.ty.sep,u2,.slice a6 m.pre.length k6,.slice a8 m.post.length k8]:List Value).all Value.oneCell'=true:=by simp only [List.all_cons,List.all_nil,o1,o2,Bool.and_true,Bool.true_and]; rfl
 refine ai Z Z gP Z hone2 ?_
 refine sK [2] Z<|cT (dY (r:=VR u1 69 2 r1) slq λhok1=>?_)
 refine dY (r:=VR u2 9 1 r2) slq λhok2=>?_
 refine kG (fu (L:=[VR u1 69 2 r1,VR u2 9 1 r2,T3,T4,T5,T7])) ?_
 simp only [lC,lN]
 exact bD (.cellN Z eU Z slq .nil) ⟨Res.star [VR u1 69 2 r1,VR u2 9 1 r2,T3,T4,T5,T7],Z,_,Z,qj ⟨Rws.ls (E:=69) w1 hok1 (bE slq) hx2.sizes,hT3.up' (bE slq),hy.up' (bE slq),Rws.ls (E:=9) w2 hok2 (bE slq) hx11.sizes,hT5.up' (bE slq),hT7.up'<|bE slq⟩⟩ sbr
theorem Da {f:Fl} (h:Enc.rep X us f):CtN prog 55 #[.agg us.toArray] [X] λu T=>∃ us':List Value,u = .agg us'.toArray/\Enc.rep T us' f:=by
 obtain ⟨x,y,rfl,hx,hy⟩:=h
 obtain ⟨xa,xc,rfl,_⟩:=id hx.form
 obtain ⟨ya,yc,rfl,_⟩:=id hy.form
 refine aL (n:=12) func55 Z Z (len Z) λhr w0=>?_
 refine cQ (aP Z Z λb1=>?_)
 refine au Fh λb2=>?_
 refine sK [1,2] Z<|cS<|bB (ork [(0,2),(1,1),(3,2),(4,1),(2,0),(6,2),(5,0),(7,0),(8,2),(9,0)] .nil) (λi => !(Nat.beq i 5 || Nat.beq i 7 || Nat.beq i 9)) mixed Zz ?_
 refine dV Z (vF Z qO Z)<|bu Z (vY Z tJ) ?_
 refine dV Z (vF Z xe Z)<|bu Z (vY Z qo) ?_
 refine aV Z<|aH Z Z en119 Z (II en99 hx λ_ _ _ h=>Gl h) ?_
 rintro u5 h' ⟨T5,rfl,hT5⟩
 simp only [lC,lN]
 obtain ⟨a6,k6,rfl,_⟩:=id hT5.form
 refine aW ?_
 refine dV Z (vF Z qO Z)<|aV Z<|aH Z Z en120 Z (uj en121 hy λ_ _ _ h=>AY h) ?_
 rintro u7 h' ⟨T7,rfl,hT7⟩
 simp only [lC,lN]
 obtain ⟨a8,k8,rfl,_⟩:=id hT7.form
 refine aW ?_
 refine aV Z<|bf Z Z sz52<|aW ?_
 refine dV Z (vF Z xe Z)<|aV Z<|bf Z Z mW<|aW ?_
 refine bA<|nK [1,2] Z<|nT<|cQ<|sV (af Z Fg Z ah) ?_
 refine ai Z Z Ab Z Z ?_
 refine sK [2] Z<|cT<|kG (fu (L:=[T5,T7])) ?_
 simp only [lC,lN]
 exact bD (.cellN Z Fg Z slq .nil) ⟨Res.star [T5,T7],Z,_,Z,_,_,Z,hT5.up' (bE slq),hT7.up'<|bE slq⟩ sbr
theorem AZ {x:Cm} (h:Enc.rep X us x):Reads prog 195 #[.agg us.toArray] [] (.bool x.dfd):=by
 obtain ⟨ms,rfl,hm⟩:=h
 obtain ⟨x2,x5,xy,x11,x12,x13,rfl,_⟩:=dh hm
 unfold gz
 refine aL (n:=7) func195 Z Z (len Z) λhr w0=>?_
 refine cQ (aP Z Z λb1=>?_)
 refine sA Z<|sK [1,2] Z<|cQ<|sV (vF Z dS Z)<|sV (vF Z Ah Z)<|sV (vY Z ld3) ?_
 refine sV (dP Z Z)<|sA Z<|sK [2] Z<|cT ?_
 exact aj Z ⟨Z,Z⟩ sbq
theorem lS {l:FS} {fv:Value} {n:Nm} (hv:Ls X v l) (hf:fv.oneCell'=true):Ct prog 56 #[.agg #[v,fv],sv n] [X] λu h'=>h'=[X]/\∃ us,u = .agg us.toArray/\Enc.rep X us (ae l n):=by
 obtain ⟨a,cap,rfl,_⟩:=id hv.form
 refine aL (n:=15) func56 Z Z (len Z) λhr w0=>?_
 refine cQ (aP Z Z λb2=>?_)
 refine au nS λb4=>?_
 refine sK [1,2,4] Z<|cQ<|sV (vF Z JQ Z)<|sV (vY Z Af) ?_
 refine sM Z<|aH Z Z en117 Z (uh (n:=n) hv) ?_
 rintro u h' ⟨rfl,us,rfl,hr⟩
 simp only [lC,lN]
 have hl:us.length=7:=Enc.len hr
 have ho:=Enc.ones hr
 refine sM Z<|sV (ag Z Z)<|sV (ag Z Z) (au nS λb5=>?_)
 refine ai (hl:=by rw [hl]; rfl) Z Z lY hl ho ?_
 refine sA Z<|sK [4,5] Z<|cQ<|sV (af Z gG hl ah) ?_
 refine ai (hl:=by rw [hl]; rfl) Z Z lY hl ho ?_
 refine sK [4] Z<|cT ?_
 exact bD (.cellN Z gG hl slq .nil) ⟨Z,us,Z,hr⟩ sbr
theorem ul {p:Pt} {n:Nm} (h:Enc.rep X us p):Ct prog 173 #[.agg us.toArray,sv n] [X] λu h'=>h'=[X]/\u=sv (bN p n):=by
 obtain ⟨x1,x2,x3,x4,x5,rfl,h1,h2,h3,h4,h5⟩:=h
 obtain ⟨a,cap,rfl,_⟩:=id h2.form
 refine aL (n:=18) func173 Z Z (len Z) λhr w0=>?_
 refine cQ (aP Z Z λb2=>?_)
 refine sA Z<|sK [1,2,4] Z<|cS<|cQ<|sV (vF Z Ai Z)<|sV (vY Z ld86) ?_
 refine sM Z<|aH Z Z en241 Z (Iz (n:=n) h2) ?_
 rintro u h' ⟨rfl,us,rfl,hr⟩
 simp only [lC,lN]
 have hu:us=[sv ((p.ren.find? λc=>c.fro == n).getD pn0).fro,sv ((p.ren.find? λc=>c.fro == n).getD pn0).to]:=hr
 subst hu
 unfold bN
 refine sM Z<|sV (ag Z Z)<|sV (ag Z Z) (au Fj λb5=>?_)
 refine ai Z Z Ac Z Z ?_
 cases p.ren.find? λc=>c.fro == n with
 | none =>
  refine sA Z<|sK [1,4,5,6] Z<|cQ<|sM Z<|sK [1,4,5,14] Z<|aG Z ?_
  refine cK<|xT<|cQ<|sM Z<|sA Z<|sK [4] Z<|cT ?_
  exact aj Z ⟨Z,Z⟩ sbq
 | some x =>
  refine sA Z<|sK [1,4,5,6] Z<|cQ<|sM Z<|sK [1,4,5,14] Z<|aQ Z ?_
  refine cQ<|sV (vF Z JV Z)<|sV (vY Z ld9) ?_
  refine sA Z<|sK [4] Z<|cT<|xR ?_
  exact aj Z ⟨Z,Z⟩ sbq
end
section
variable {X:Res} {v v':Value} {us us':List Value}
theorem IJ {f:Fm} {b3:Nat} {t:Kt} {x:Value} (h:Enc.rep X us f):Reads prog 186 #[.agg us.toArray,.pointer (some ⟨b3,0,none⟩)] [pt b3 (cl (tyC t x) 73)] (.bool (f.name == t.name)):=by
 have h:us=[sv f.name,sv f.bound]:=h
 subst h
 unfold tyC
 refine aL (n:=9) func186 Z Z (len Z) λhr w0=>?_
 refine cQ (aP Z Z λb2=>?_)
 refine sA Z<|sK [1,2,3] Z<|cQ<|sV (vF Z JP Z)<|sV (vY Z ld9) ?_
 refine sV (vF Z Ag Z)<|sV (vY Z ld9) ?_
 refine sV (iE Z Z)<|sA Z<|sK [3] Z<|cT ?_
 exact aj Z ⟨Z,Z⟩ sbq
theorem NS {F:List Fm} {A:List Kt} {k:Int} {n:Nm} {az:List Kt} {w p:Bool}:cZ F A (.mk k n az w p)=match (if k=4 then nX F A n else none) with
  | some t=>t.flag w p
  | none=>.mk k n (az.map (cZ F A)) w p:=by
 rw [cZ,CB]; rfl
theorem yK {F:List Fm} {A:List Kt} (hl:F.length=A.length) (n:Nm):(Eb F n=none/\nX F A n=none)∨∃ i a,Eb F n=some i/\A[i]? = some a/\nX F A n=some a/\i<A.length:=by
 cases h:Eb F n with
 | none=>left; exact ⟨rfl,by unfold nX; rw [h]; rfl⟩
 | some i =>
  right
  have hi:i<F.length:=(List.findIdx?_eq_some_iff_getElem.1 h).1
  have hi':i<A.length:=by omega
  exact ⟨i,A[i],Z,Zy hi',by unfold nX; rw [h,Option.bind_some,Zy hi'],hi'⟩
theorem ixI_ge {o:Option Nat}:decide ((0:Int)≤ixI o)=o.isSome:=by
 cases o with
 | none=>rfl
 | some i=>exact decide_eq_true (Int.natCast_nonneg i)
theorem IK {L k:SH} {T:Res} {L':SH} (s:Sel L T L') (p:Addr) (u:Value) (h:Rd (Res.star (T::k)) p u):Rd (Res.star (Res.star L::k)) p u:=λw hw=>by
 have h1:bi (hp w) (L++k):=dx.1 hw
 have h2:bi (hp w) ((T::L')++k):=(bi.perm<|s.perm.append_right k).1 h1
 have h3:bi (hp w) (L'++(T::k)):=(bi.perm (List.perm_middle (l₁ := L')).symm).1 h2
 exact h w (bi.append.1 h3).2.1
theorem Gm {F : List Fm} {A : List Kt} {fv av : Value} (hl : F.length = A.length) (hF : Ls X fv F) (hA : Ls X av A) : ∀ (d : Nat) (t : Kt) (us : List Value), t.depth ≤ d -> Ty X us t ->
  CtN prog 115 #[.agg us.toArray,fv,av] [X] λu T=>∃ us':List Value,u = .agg us'.toArray/\Ty (Res.star [T,X]) us' (cZ F A t)
 | 0,s,_,hd,_=>by cases s; simp [Kt.depth] at hd
 | d + 1, .mk k n az w p, us, hd, hs => by
  obtain ⟨x,rfl,hx⟩:=eF hs
  have hx:Tys X x az:=hx
  have hR:∀ a∈az,∀ us,Ty X us a->CtN prog 115 #[.agg us.toArray,fv,av] [X] λu T=>∃ us':List Value,u = .agg us'.toArray/\Ty (Res.star [T,X]) us' (cZ F A a):=λa ha us h=>Gm hl hF hA d a us (by have:=jI (t:=.mk k n az w p) ha; omega) h
  have hml:maxLen=9223372036854775807:=rfl
  have hrb:reachBytes=140737488351232:=rfl
  obtain ⟨xa,xc,rfl,hlc,hcm,hnone⟩:=id hx.form
  obtain ⟨fa,fc,hfv,_⟩:=id hF.form
  obtain ⟨aa,ac,hav,_⟩:=id hA.form
  have hbb:az.length * 56≤reachBytes:=hx.sizes
  have htell:∀ b3:Nat,∀ f∈F,∀ us,Enc.rep (Res.star [pt b3 (cl (tyC (.mk k n az w p)<|.slice xa az.length xc) 73),X]) us f->Reads prog 186 (#[]++([.agg us.toArray]:List Value).toArray ++ #[.pointer (some ⟨b3,0,none⟩)]) [Res.star [pt b3 (cl (tyC (.mk k n az w p)<|.slice xa az.length xc) 73),X]] (.bool (f.name == n)):=λb3 f _ us h =>
   lg (Reads.more (IJ (b3:=b3) (t:=.mk k n az w p) h)<|.cons .here .nil)
  rw [NS]
  show CtN _ _ #[.agg #[.int .i64 k,sv n,.slice xa az.length xc,.bool w,.bool p],_,_] _ _
  have htell:∀ b3:Nat,∀ f∈F,∀ us,Enc.rep (Res.star [pt b3 (cl [.int .i64 k,sv n,.slice xa az.length xc,.bool w,.bool p] 73),X]) us f->Reads prog 186 (#[]++([.agg us.toArray]:List Value).toArray ++ #[.pointer (some ⟨b3,0,none⟩)]) [Res.star [pt b3 (cl [.int .i64 k,sv n,.slice xa az.length xc,.bool w,.bool p] 73),X]] (.bool (f.name == n)):=htell
  refine aL (n:=69) func115 Z Z (len Z) λhr w0=>?_
  refine cQ (aP Z Z λb3=>?_)
  refine au Ak λb6=>?_
  refine sK [1,2,3,6] Z<|cS<|cQ<|sM Z<|sV (bQ Z Z)<|aY Z Z en185 Z ((dF<|Ld (X:=Res.star [pt b3 (cl [.int .i64 k,sv n,.slice xa az.length xc,.bool w,.bool p] 73),X]) (g:=λf:Fm=>f.name == n) (hF.up'<|bE<|.there .here) en186<|htell b3)) ?_
  rw [show List.findIdx? (λf:Fm=>f.name == n) F=Eb F n from rfl]
  refine sA Z<|sK [1,2,3,6,7] Z<|cQ<|sV (vF Z qP Z)<|sV (vY Z ld3) ?_
  refine sV (dP Z Z)<|sM Z<|bC (k:=7) (d:=21) (v:=.bool (k == 4 && decide ((0:Int)≤ixI (Eb F n)))) (λhcut=>aM (b:=(k == 4)) true (λhg=>?_)<|λhg=>?_) ?_
  ·refine aC Z Z hg ?_
   refine aC Z Z hg ?_
   refine sV (vP (bO Z hg) Z) ?_
   exact hcut _ uG
  ·refine sG Z (bG Z hg) (vM Z)<|sG Z (bG Z hg) (nE Z Z)<|sV (vQ (bO Z hg) Z) ?_
   exact hcut _ uG
  rw [ixI_ge]
  by_cases hq:k=4/\(nX F A n).isSome=true
  ·obtain ⟨hk,hac⟩:=hq
   rcases yK hl n with ⟨_,h2⟩ | ⟨j,a,hj,haj,hac2,hlt⟩
   ·rw [h2] at hac; cases hac
   rw [if_pos hk,hac2,hj]
   rw [show (k == 4 && (some j).isSome)=true by rw [hk]; rfl]
   obtain ⟨b,o,cap2,us,e1,hus,hrd,hta⟩:=hA.at haj
   rw [hav] at e1
   obtain ⟨rfl,rfl⟩:aa=some ⟨b,o,none⟩/\ac=cap2:=by cases e1; exact ⟨rfl,rfl⟩
   have hone:=Enc.ones hta
   obtain ⟨y,rfl,hya⟩:=eF hta
   obtain ⟨ya,yc,rfl,_⟩:=id hya.form
   unfold tyC at hrd hone
   refine sK [1,2,3,6,7,21] Z<|aQ Z ?_
   refine cQ<|sM Z<|sM Z<|sV (vI (k:=j) (congrArg some hav) Z yV Z hlt Z)<|sV (af Z fU Z hrd) ?_
   refine au Ak λb8=>?_
   refine ai Z Z nL Z hone ?_
   refine sK [1,2,3,6,8] Z<|cS<|jk (ork [(0,2),(6,2)]<|.two 1 (ork [(2,2),(3,2),(4,1),(5,2),(7,0),(8,2),(9,2),(10,1),(11,2),(12,2),(13,0),(14,2),(15,0)] .nil) 7<|ork [(1,0),(2,2),(3,2),(4,1),(5,2),(8,2),(9,2),(10,1),(11,2),(12,2),(13,0),(14,2),(15,0)] .nil) (λi => !(Nat.beq i 1 || Nat.beq i 15)) [pt b3 (cl [.int .i64 k,sv n,.slice xa az.length xc,.bool w,.bool p] 73)] mixed Zz ?_
   refine dV Z (vF Z oP Z)<|dV Z (vF Z oQ Z)<|mR Z Z ?_ ?_
   ·refine sV (vY Z ld4)<|aW ?_
    refine dV Z (vM Z)<|DK (k:=3) (d:=31) (v:=.bool (a.void || w)) (λhcut=>aM (b:=(a.void)) false (λhg=>?_)<|λhg=>?_) ?_
    ·refine jB Z Z Z hg ?_
     refine lD Z Z Z hg ?_
     refine dV Z (vQ (bO Z hg) Z) ?_
     exact hcut _ uG
    ·refine fG Z Z (bG Z hg) (vF Z oP Z)<|lw Z Z (bG Z hg) (vY Z ld4) ?_
     refine dV Z (vP (bO Z hg) Z) ?_
     exact hcut _ uG
    refine aV Z<|sV (vY Z ld4)<|aW ?_
    refine dV Z (vM Z)<|DK (k:=3) (d:=37) (v:=.bool (a.sep || p)) (λhcut=>aM (b:=(a.sep)) false (λhg=>?_)<|λhg=>?_) ?_
    ·refine jB Z Z Z hg ?_
     refine lD Z Z Z hg ?_
     refine dV Z (vQ (bO Z hg) Z) ?_
     exact hcut _ uG
    ·refine fG Z Z (bG Z hg) (vF Z oQ Z)<|lw Z Z (bG Z hg) (vY Z ld4) ?_
     refine dV Z (vP (bO Z hg) Z) ?_
     exact hcut _ uG
    refine dV Z (vF Z oP Z)<|aV Z<|bf Z Z sz4 ?_
    refine aW ?_
    refine dV Z (vF Z oQ Z)<|aV Z<|bf Z Z sz4<|aW ?_
    refine bA<|nK [1,2,3,6,8] Z<|nT<|cQ<|sV (af Z fU Z ah) ?_
    refine ai Z Z nL Z Z ?_
    refine sK [6] Z<|cT<|xR<|jC (eO (L:=[])) ?_
    exact bD (.cellN Z fU Z slq .nil) ⟨Res.star [],Z,_,Z,gN (t:=a.flag w p) Z<|hya.up'<|bE slq⟩ sbr
   ·refine sV (vY Z ld4)<|aW ?_
    refine aV Z<|sV (vY Z ld4)<|aW ?_
    refine dV Z (vM Z)<|DK (k:=3) (d:=31) (v:=.bool (a.void || w)) (λhcut=>aM (b:=(a.void)) false (λhg=>?_)<|λhg=>?_) ?_
    ·refine jB Z Z Z hg ?_
     refine lD Z Z Z hg ?_
     refine dV Z (vQ (bO Z hg) Z) ?_
     exact hcut _ uG
    ·refine fG Z Z (bG Z hg) (vF Z oP Z)<|lw Z Z (bG Z hg) (vY Z ld4) ?_
     refine dV Z (vP (bO Z hg) Z) ?_
     exact hcut _ uG
    refine dV Z (vM Z)<|DK (k:=3) (d:=37) (v:=.bool (a.sep || p)) (λhcut=>aM (b:=(a.sep)) false (λhg=>?_)<|λhg=>?_) ?_
    ·refine jB Z Z Z hg ?_
     refine lD Z Z Z hg ?_
     refine dV Z (vQ (bO Z hg) Z) ?_
     exact hcut _ uG
    ·refine fG Z Z (bG Z hg) (vF Z oQ Z)<|lw Z Z (bG Z hg) (vY Z ld4) ?_
     refine dV Z (vP (bO Z hg) Z) ?_
     exact hcut _ uG
    refine dV Z (vF Z oP Z)<|aV Z<|bf Z Z sz4 ?_
    refine aW ?_
    refine dV Z (vF Z oQ Z)<|aV Z<|bf Z Z sz4<|aW ?_
    refine bA<|nK [1,2,3,6,8] Z<|nT<|cQ<|sV (af Z fU Z ah) ?_
    refine ai Z Z nL Z Z ?_
    refine sK [6] Z<|cT<|xR<|jC (eO (L:=[])) ?_
    exact bD (.cellN Z fU Z slq .nil) ⟨Res.star [],Z,_,Z,gN (t:=a.flag w p) Z<|hya.up'<|bE slq⟩ sbr
  ·have hne:(k == 4 && (Eb F n).isSome)=false:=by
    rcases yK hl n with ⟨h1,h2⟩ | ⟨j,a,hj,haj,hac2,hlt⟩
    ·rw [h1]; simp
    ·rw [hac2] at hq
     have hk:k≠4:=λe=>hq ⟨e,rfl⟩
     simp [hk]
   have hm:(match (if k=4 then nX F A n else none) with
     | some t=>t.flag w p
     | none=>Kt.mk k n (az.map (cZ F A)) w p) = .mk k n (az.map (cZ F A)) w p:=by
    by_cases hk:k=4
    ·rw [if_pos hk]
     cases hac:nX F A n with
     | none=>rfl
     | some t=>rw [hac] at hq; exact absurd ⟨hk,rfl⟩ hq
    ·rw [if_neg hk]
   rw [hm,hne]
   refine sK [1,2,3,6,7,21] Z<|aG Z ?_
   refine cK<|xT<|cQ<|sV (vF Z iN Z)<|sV (vY Z oO) ?_
   refine sV (aF Z underlying71) ?_
   have hsn:∀ i (h:i<az.length),(az.take (i+1)).map (cZ F A)=(az.take i).map (cZ F A)++[cZ F A az[i]]:=λi h=>by rw [List.take_add_one,Zy h,List.map_append]; rfl
   refine Ny (n:=az.length) Z Z Z underlying71 JN Z (by decide) (by omega) (by omega) (ltn Z) λb9=>?_
   refine sA Z<|sK [1,2,3,6,9] Z<|cS<|cQ<|sV (vF Z iN Z)<|sV (vY Z oO) ?_
   refine sV (aF Z underlying71)<|sM Z<|sK [1,2,3,6,9,46,47,48] Z<|cB<|dK (eO (L:=[]))<|aX (σ := List (List Value)×Res×Nat) (λq=>[(1,fv),(2,av),(3,.pointer (some ⟨b3,0,none⟩)),(6,.pointer (some ⟨b6,0,none⟩)),(9,.slice (some ⟨b9,0,none⟩) az.length az.length),(46,.slice xa az.length xc),(47,.int .i64 az.length),(48,.int .i64 (q.2.2:Nat))]) (λq=>pt b9 (cl q.1.flatten 73)::q.2.1::X::pt b3 (cl [.int .i64 k,sv n,.slice xa az.length xc,.bool w,.bool p] 73)::pt b6 (cl [.int .i64 0,sv [],.slice none 0 0,.bool false,.bool false] 73)::hr) (λq=>q.2.2≤az.length/\q.1.length=az.length/\(∀ r∈q.1,r.length=5)/\∀ (j:Nat) us (hj:j<az.length),j<q.2.2->q.1[j]? = some us->Ty (Res.star [q.2.1,X]) us (cZ F A az[j])) (λq=>az.length - q.2.2) (List.replicate az.length [.int .i64 0,sv [],.slice none 0 0,.bool false,.bool false],Res.star [],0) ⟨Nat.zero_le _,by simp,λr hr=>by rw [List.eq_of_mem_replicate hr]; rfl,λj us _ hj=>absurd hj<|Nat.not_lt_zero _⟩ ?_
   rintro ⟨rows,T,i⟩ ⟨hi,hrl,hr5,hpc⟩
   simp only at hi hrl hr5 hpc
   dsimp only
   refine cQ<|sV (aN Z Z)<|sN<|nT<|cS<|cC Z (λhd=>?_)<|λhd=>?_
   ·have hlt:i<az.length:=Zx
    have hmem:=List.getElem_mem hlt
    obtain ⟨b,o,cap2,us,e1,hus,hrd,hta⟩:=hx.at<|Zy hlt
    cases e1
    have hus:us.length=5:=hus
    have hone:=Enc.ones hta
    have hca:=hR _ hmem us hta
    refine cK<|xT<|cS<|cB<|cQ<|sM Z<|sV (vI (k:=i) Z Z yV Z hlt Z)<|sV (af Z fU hus hrd) ?_
    refine au Ak λb11=>?_
    refine sA Z<|ai (hl:=by rw [hus]; rfl) Z Z nL hus hone ?_
    refine sK [1,2,3,6,9,10,11,46,47,48] Z<|cR<|sM Z<|sM Z<|sV (af Z fU hus ah) ?_
    refine sM Z<|sM Z<|aH Z Z J3 Z (hca) ?_
    rintro u h' ⟨T2,rfl,us2,rfl,hT2⟩
    simp only [lC,lN]
    have h5:us2.length=5:=Enc.len hT2
    have h1:=Enc.ones hT2
    refine sV (vI (k:=i) Z Z yV Z hlt Z)<|ik Z Z nL h5 (ones h1) (show Sel _ (pt b9<|cl rows.flatten 73) _ from slq) (by rw [AA hr5,hrl,h5]; omega) ?_
    rw [show 0+i * 5=i * 5 by omega,mH h5 hr5 (by omega)]
    refine sN<|nK [1,2,3,6,9,46,47,48] Z<|ax<|xB<|xT<|cR<|sV (aI Z Z Za)<|sM Z<|sN<|nK [1,2,3,6,9,46,47,48] Z<|ax<|kG (fu (L:=[T,T2])) ?_
    simp only [lC,lN]
    refine aJ (rows.set i us2,Res.star [T,T2],i+1) ⟨hlt,by simp [hrl],λr hr=>?_,λj us3 hjl hj g1=>?_⟩<|Nat.sub_lt_sub_left hlt<|Nat.lt_succ_self i
    ·rcases List.mem_or_eq_of_mem_set hr with h | h
     ·exact hr5 r h
     ·rw [h]; exact h5
    ·by_cases hji:j=i
     ·subst hji
      rw [List.getElem?_set_self (by omega)] at g1
      cases g1
      exact Enc.up (λp u h=>IK (.there .here) p u h) hT2
     ·rw [List.getElem?_set_ne (Ne.symm hji)] at g1
      have hj:j<i+1:=hj
      exact Enc.up (λp u h=>IK .here p u h)<|hpc j us3 hjl (by omega) g1
   ·have hie:i=az.length:=by
     have:¬ i<az.length:=Zx
     omega
    subst hie
    refine aB<|xE<|xE<|xY<|xT<|cQ<|sM Z<|sM Z<|sV (aF Z underlying71)<|sM Z<|sV (aF Z underlying71)<|Ar (Au (b:=b9) (n:=az.length) (sz:=5) (E:=73) rows Z hr5 hrl<|by omega) ?_
    simp only [lC,lN]
    refine nY (r:=VR (.slice (some ⟨b9,0,none⟩) az.length az.length) 73 5 rows) slq λhok=>?_
    refine Ar (fu (L:=[VR (.slice (some ⟨b9,0,none⟩) az.length az.length) 73 5 rows,T])) ?_
    simp only [lC,lN]
    have hls:Tys (Res.star [Res.star [VR (.slice (some ⟨b9,0,none⟩) az.length az.length) 73 5 rows,T],X]) (.slice (some ⟨b9,0,none⟩) az.length az.length) (az.map<|cZ F A):=Rws.ls (E:=73) (rows:=rows) ⟨by simp [hrl],λj us x h1 h2=>by
     have hjl:j<az.length:=by have:=(List.getElem?_eq_some_iff.1 h1).1; omega
     rw [List.getElem?_map,Zy hjl] at h2
     cases h2
     exact Enc.up (λp u h=>IK (.there .here) p u h) (hpc j us hjl hjl h1)⟩ hok (λp u h=>bE .here p u (bE .here p u h)) (by rw [List.length_map]; exact hbb)
    refine sV (AR (hi:=az.length) (mx:=az.length) Z Z Z yV Z Z (Nat.le_refl _)<|Nat.le_refl _)<|sV (vF Z iN Z)<|bf Z Z sz71 ?_
    refine sK [3,6] Z<|cQ<|sV (af Z fU Z ah) ?_
    refine ai Z Z nL Z Z ?_
    refine sK [6] Z<|cT ?_
    exact bD (.cellN Z fU Z slq .nil) ⟨Res.star [VR (.slice (some ⟨b9,0,none⟩) az.length az.length) 73 5 rows,T],Z,_,Z,gN (t:=.mk k n (az.map<|cZ F A) w p) Z (by rw [show (Kt.mk k n (az.map<|cZ F A) w p).args=az.map (cZ F A) from Z]; simpa using hls)⟩ sbr
theorem A7 {F:List Fm} {A:List Kt} {fv av:Value} {t:Kt} (hl:F.length=A.length) (hF:Ls X fv F) (hA:Ls X av A) (h:Ty X us t) :
  CtN prog 115 #[.agg us.toArray,fv,av] [X] λu T=>∃ us':List Value,u = .agg us'.toArray/\Ty (Res.star [T,X]) us' (cZ F A t):=Gm hl hF hA t.depth t us (Nat.le_refl _) h
theorem tpw_unf (t:Kt):tpw t=tpws 1 t.args:=by cases t; rfl
theorem Gn : ∀ (d : Nat) (X : Res) (t : Kt) (us : List Value), t.depth ≤ d -> Ty X us t -> Reads prog 134 #[.agg us.toArray] [X] (.int .i64 (tpw t))
 | 0,_,s,_,hd,_=>by cases s; simp [Kt.depth] at hd
 | d + 1, X, t, us, hd, hs => by
  obtain ⟨x,rfl,hx⟩:=eF hs
  have hR:∀ a∈t.args,∀ us,Ty X us a->Reads prog 134 #[.agg us.toArray] [X] (.int .i64<|tpw a):=λa ha us h=>Gn d X a us (by have:=jI ha; omega) h
  have hml:maxLen=9223372036854775807:=rfl
  obtain ⟨xa,xc,rfl,hlc,hcm,_⟩:=id hx.form
  rw [tpw_unf]
  unfold tyC
  refine aL (n:=19) func134 Z Z (len Z) λhr w0=>?_
  refine cQ (aP Z Z λb1=>?_)
  refine sA Z<|sK [1,2] Z<|cQ<|sA Z<|sN<|nT<|cS<|cQ<|sV (vF Z iN Z)<|sV (vY Z oO) ?_
  refine sV (aF Z underlying71)<|sM Z<|sK [2,3,7,8,9] Z<|cB<|aX (σ := Int×Nat) (λq=>[(3,.int .i64 q.1),(7,.slice xa t.args.length xc),(8,.int .i64 t.args.length),(9,.int .i64 (q.2:Nat))]) (λ_=>X::hr) (λq=>q.2≤t.args.length/\tpws q.1 (t.args.drop q.2)=tpws 1 t.args) (λq=>t.args.length - q.2) (1,0) ⟨Nat.zero_le _,Z⟩ ?_
  rintro ⟨n,i⟩ ⟨hi,hn⟩
  simp only at hi hn
  dsimp only
  refine cQ<|sV (aN Z Z)<|sN<|nT<|cS<|cC Z (λhd2=>?_)<|λhd2=>?_
  ·have hlt:i<t.args.length:=Zw
   obtain ⟨b,o,cap2,us,e1,hus,hrd,ht⟩:=hx.at<|Zy hlt
   cases e1
   have hus:us.length=5:=hus
   have hone:=Enc.ones ht
   have hca:=hR _ (List.getElem_mem hlt) us ht
   have hdr:t.args.drop i=t.args[i]::t.args.drop (i+1):=by rw [List.getElem_cons_drop]
   rw [hdr,tpws] at hn
   refine cK<|xT<|cS<|cB<|cQ<|sV (vI (k:=i) Z Z yV Z hlt Z)<|sV (af Z fU hus hrd) ?_
   refine au Ak λb5=>?_
   refine ai (hl:=by rw [hus]; rfl) Z Z nL hus hone ?_
   refine sK [3,5,7,8,9] Z<|cR<|sM Z<|sV (af Z fU hus ah) ?_
   refine aY Z Z en134 Z (hca) ?_
   refine sV (DD Z Z)<|sA Z<|sN<|nK [3,7,8,9] Z<|ax<|xB<|xT<|cR<|sV (aI Z Z (by unfold I64; omega)) ?_
   refine sM Z<|sN<|nK [3,7,8,9] Z<|ax ?_
   refine aJ (IntKind.i64.wrap (n+tpw t.args[i]),i+1) ⟨hlt,hn⟩<|Nat.sub_lt_sub_left hlt<|Nat.lt_succ_self i
  ·have hil:i=t.args.length:=by
    have:¬ i<t.args.length:=Zw
    omega
   rw [hil,List.drop_length,tpws] at hn
   rw [<- hn]
   refine aB<|xE<|xE<|xY<|xT<|cQ<|sM Z<|sA Z<|sK [2] Z<|cT ?_
   exact aj Z ⟨Z,Z⟩ sbq
theorem Gp {t:Kt} (h:Ty X us t):Reads prog 134 #[.agg us.toArray] [X] (.int .i64 (tpw t)):=Gn t.depth X t us (Nat.le_refl _) h
theorem IL {a:Vr} (h:Enc.rep X us a):Reads prog 136 #[.agg us.toArray] [X] (.bool (decide (400<tpw a.ty))):=by
 obtain ⟨x,rfl,hx⟩:=Eo h
 have hp:=Gp<|gN (t:=a.ty) rfl hx
 unfold tyC at hp
 refine aL (n:=7) func136 Z Z (len Z) λhr w0=>?_
 refine cQ (aP Z Z λb1=>?_)
 refine sA Z<|sK [1,2] Z<|cQ<|sV (vF Z mD Z)<|sV (af Z fU Z<|bF (us:=[sv a.name,.int .i64 a.ty.kind,sv a.ty.name,x,.bool a.ty.void,.bool a.ty.sep]) (vs:=[.int .i64 a.ty.kind,sv a.ty.name,x,.bool a.ty.void,.bool a.ty.sep]) (k:=1) ah Z) ?_
 refine aY Z Z en134 Z (hp) ?_
 refine sV (cu Z Z)<|sA Z<|sK [2] Z<|cT ?_
 exact aj Z ⟨Z,Z⟩ sbq
theorem IM {m:Mb} (h:Enc.rep X us m):Reads prog 133 #[.agg us.toArray] [X] (.bool (decide (400<tpw m.ty) || m.args.any λv=>decide (400<tpw v.ty))):=by
 obtain ⟨x2,x5,xy,x11,x12,x13,rfl,hx2,hx5,hxy,hx11,hx12,hx13⟩:=dh h
 have hp:=Gp<|gN (t:=m.ty) rfl hxy
 unfold tyC at hp
 unfold gz
 refine aL (n:=12) func133 Z Z (len Z) λhr w0=>?_
 refine cQ (aP Z Z λb1=>?_)
 refine sA Z<|sK [1,2] Z<|cQ<|sV (vF Z qQ Z)<|sV (af Z fU Z<|bF (us:=gz m x2 x5 xy x11 x12 x13) (vs:=[.int .i64 m.ty.kind,sv m.ty.name,xy,.bool m.ty.void,.bool m.ty.sep]) (k:=6) ah Z) ?_
 refine aY Z Z en134 Z (hp) ?_
 refine sV (cu Z Z)<|sM Z<|bC (k:=9) (d:=11) (v:=.bool (decide (400<tpw m.ty) || m.args.any λv=>decide (400<tpw v.ty))) (λhcut=>aM (b:=(decide (400<tpw m.ty))) false (λhg=>?_)<|λhg=>?_) ?_
 ·refine aC Z Z hg ?_
  iterate 2 refine aC rfl rfl hg ?_
  refine sV (vQ (bO Z hg) Z) ?_
  exact hcut _ uG
 ·refine sG Z (bG Z hg) (vF Z jH Z)<|sG Z (bG Z hg) (vY Z qJ) ?_
  refine bU Z (bG Z hg) Z Z en135 Z (Li hx5 en136<|λ_ _ _ h=>IL h) ?_
  refine sV (vP (bO Z hg) Z) ?_
  exact hcut _ uG
 refine sA Z<|sK [2] Z<|cT ?_
 exact aj Z ⟨Z,Z⟩ sbq
theorem Kl {ms:List Mb} (hv:Ls X v ms):Reads prog 59 #[v] [X] (.bool (over ms)):=by
 obtain ⟨a,cap,rfl,hlc,hcm,_⟩:=id hv.form
 have hov:over ms=(decide ((60:Int)<(ms.length:Nat)) || ms.any λm=>decide (400<tpw m.ty) || m.args.any λv=>decide (400<tpw v.ty)):=by
  unfold over
  rw [show decide (60<ms.length)=decide ((60:Int)<(ms.length:Nat)) by rw [Bool.eq_iff_iff]; simp; omega]
 rw [hov]
 refine aL (n:=10) func59 Z Z (len Z) λhr w0=>?_
 refine cQ<|sA Z<|sN<|nT<|cQ<|sM Z<|sV (aF Z underlying52)<|sV (cu Z Z)<|sM Z<|bC (k:=7) (d:=9) (v:=.bool (decide ((60:Int)<(ms.length:Nat)) || ms.any λm=>decide (400<tpw m.ty) || m.args.any λv=>decide (400<tpw v.ty))) (λhcut=>aM (b:=(decide ((60:Int)<(ms.length:Nat)))) false (λhg=>?_)<|λhg=>?_) ?_
 ·refine aC Z Z hg ?_
  refine aC Z Z hg ?_
  refine sV (vQ (bO Z hg) Z) ?_
  exact hcut _ uG
 ·refine sG Z (bG Z hg) (vM Z)<|bU Z (bG Z hg) Z Z en132 Z (Lh hv en133<|λ_ _ _ h=>IM h) ?_
  refine sV (vP (bO Z hg) Z) ?_
  exact hcut _ uG
 refine sA Z<|sK [2] Z<|cT ?_
 exact aj Z ⟨Z,Z⟩ sbq
end
instance encL {α : Type} [Enc α]:Enc (List α) where
 sz:=1
 by':=24
 rep S us xs:=∃ u,us=[u]/\Ls S u xs
 len h:=by obtain ⟨u,rfl,_⟩:=h; rfl
 ones h:=by obtain ⟨u,rfl,h2⟩:=h; simp [h2.one]
 up hr h:=by obtain ⟨u,h1,h2⟩:=h; exact ⟨u,h1,h2.up' hr⟩
theorem vw_full {a : Option Addr} {n cp : Nat} {E : TypeId} {sz : Nat} {rows : List (List Value)} {h : SH} : Vw (VR (.slice a n cp) E sz rows :: h) (VR (.slice a rows.length rows.length) E sz rows :: h) := λw ⟨h1, h2, h3⟩ => by
 refine ⟨?_,λb ⟨o,m,c,hb⟩=>?_,h3⟩
 ·refine ⟨h1.1,?_⟩
  rcases h1.2 with ⟨g1,g2⟩ | ⟨b,o,c,pre,j,g1,g2,g3,g4,g5,g6⟩
  ·cases g1; subst g2; exact .inl ⟨rfl,rfl⟩
  ·cases g1
   refine .inr ⟨b,o,rows.length,pre,j,Z,g2,g3,Nat.le_refl _,by omega,?_⟩
   exact Nat.le_trans (Nat.mul_le_mul_right _ g4) g6
 ·rcases h1.2 with ⟨g1,g2⟩ | ⟨b',o',c',pre,j,g1,g2,g3,g4,g5,g6⟩
  ·cases g1; cases hb
  ·cases g1; cases hb
   exact h2 b ⟨_,_,_,Z⟩
section
variable {X:Res} {v v':Value} {us us':List Value}
theorem Gq {xs:List Sd} {s:Sd} (hv:Ls X v xs):Reads prog 101 #[v,.agg #[sv s.cls,sv s.name]] [X] (.int .i64 (ixI (xs.findIdx? λx=>decide (x=s)))):=by
 have hml:maxLen=9223372036854775807:=rfl
 obtain ⟨a,cap,rfl,hlc,hcm,_⟩:=id hv.form
 refine aL (n:=19) func101 Z Z (len Z) λhr w0=>?_
 refine cQ (aP Z Z λb3=>?_)
 refine sA Z<|sK [0,3,4] Z<|cS<|cQ<|sM Z<|sV (aF Z underlying67)<|sM Z<|sK [0,3,4,7,8] Z<|cB<|aX (σ := Nat) (λi=>[(0,.slice a xs.length cap),(3,.pointer (some ⟨b3,0,none⟩)),(7,.int .i64 xs.length),(8,.int .i64 (i:Nat))]) (λ_=>X::pt b3 (cl [sv s.cls,sv s.name] 69)::hr) (λi=>i≤xs.length/\∀ j (hj:j<xs.length),j<i->xs[j]≠s) (λi=>xs.length - i) 0 ⟨Nat.zero_le _,λj _ hj=>absurd hj<|Nat.not_lt_zero _⟩ ?_
 rintro i ⟨hi,hal⟩
 refine cQ<|sV (aN Z Z)<|sN<|nT<|cS<|cC Z (λhd=>?_)<|λhd=>?_
 ·have hlt:i<xs.length:=Zx
  obtain ⟨b,o,cap2,us,e1,hus,hrd,hre⟩:=hv.at<|Zy hlt
  cases e1
  have hre:us=[sv (xs[i]).cls,sv (xs[i]).name]:=hre
  subst hre
  refine cK<|xT<|cS<|cB<|cQ<|sM Z<|sA Z<|sK [0,3,5,7,8] Z<|cS<|bB (ork [(0,1),(1,2),(2,2),(3,2),(4,1),(5,1)] .nil) (λ_=>true) mixed Zz ?_
  refine bu Z (af Z il Z ah) ?_
  refine dV Z (vM Z)<|dV Z (vM Z)<|dV Z (vI (k:=i) Z Z oN Z hlt Z)<|bu Z (af Z il Z hrd) ?_
  refine bu Z (jJ AV Z Z)<|bA<|nK [0,3,5,7,8,16] Z<|nT ?_
  rw [<- xz]
  refine cC Z (λhe=>?_)<|λhe=>?_
  ·have he:s=xs[i]:=of_decide_eq_true he
   rw [show xs.findIdx? (λx=>decide (x=s))=some i by
    rw [List.findIdx?_eq_some_iff_getElem]
    exact ⟨hlt,by simp [he],λj hj=>by simpa using hal j (by omega) hj⟩]
   refine cQ<|sM Z<|sA Z<|sK [4] Z<|cT<|xW<|xR<|xR<|xW<|xR ?_
   exact aj Z ⟨Z,Z⟩ sbq
  ·have he:s≠xs[i]:=of_decide_eq_false he
   refine cK<|xB<|xT<|cR<|sV (aI Z Z Za)<|sM Z<|sN<|nK [0,3,7,8] Z<|ax<|aJ (i+1) ⟨hlt,λj hj hj2=>?_⟩<|Nat.sub_lt_sub_left hlt<|Nat.lt_succ_self i
   by_cases hji:j=i
   ·subst hji; exact λe=>he e.symm
   ·exact hal j hj<|by omega
 ·have hil:i=xs.length:=by
   have:¬ i<xs.length:=Zx
   omega
  rw [show xs.findIdx? (λx=>decide (x=s))=none by
   rw [List.findIdx?_eq_none_iff]
   intro f hfm
   obtain ⟨j,hj,rfl⟩:=List.getElem_of_mem hfm
   simpa using hal j hj (by omega)]
  refine aB<|xE<|xE<|xY<|xT<|cQ<|sA Z<|sK [4] Z<|cT ?_
  exact aj Z ⟨Z,Z⟩ sbq
theorem Er {xs:List Sd} {s:Sd}:(xs.any λx=>decide (x=s))=xs.contains s:=by
 rw [Bool.eq_iff_iff]; simp
theorem rD {xs:List Sd} {s:Sd} (hv:Ls X v xs):Reads prog 33 #[v,.agg #[sv s.cls,sv s.name]] [X] (.bool (xs.contains s)):=by
 rw [<- Er,<- pM]
 obtain ⟨a,cap,rfl,hlc,hcm,_⟩:=id hv.form
 refine aL (n:=9) func33 Z Z (len Z) λhr w0=>?_
 refine cQ (aP Z Z λb3=>?_)
 refine sA Z<|sK [0,3,4] Z<|cQ<|sM Z<|sV (af Z il Z ah) ?_
 refine aY Z Z en101 Z (Gq hv) ?_
 refine sV (nE Z Z)<|sA Z<|sK [4] Z<|cT ?_
 exact aj Z ⟨Z,Z⟩ sbq
theorem lI {ms:List Mb} {s:Sd} (hv:Ls X v ms):CtN prog 102 #[v,.agg #[sv s.cls,sv s.name]] [X] λu T=>u.oneCell'=true/\T=NR u (aZ ms s):=by
 have hml:maxLen=9223372036854775807:=rfl
 have hrb:reachBytes=140737488351232:=rfl
 have hsz:ms.length * 232≤reachBytes:=hv.sizes
 obtain ⟨a,cap,rfl,hlc,hcm,_⟩:=id hv.form
 have hsn:∀ i (h:i<ms.length),aZ (ms.take (i+1)) s=aZ (ms.take i) s++(if (ms[i]).seeds.contains s then [(ms[i]).name] else []):=λi h=>by
  unfold aZ
  rw [List.take_succ_eq_append_getElem h,List.filter_append,List.map_append]
  congr 1
  rw [List.filter_cons,List.filter_nil]
  split <;> simp
 have hle:∀ i,(aZ (ms.take i) s).length≤i:=λi=>by
  unfold aZ
  rw [List.length_map]
  exact Nat.le_trans (List.length_filter_le _ _) (by rw [List.length_take]; omega)
 refine aL (n:=25) func102 Z Z (len Z) λhr w0=>?_
 refine cQ (aP Z Z λb3=>?_)
 refine sA Z<|sK [0,3,4] Z<|cQ<|sA Z<|sN<|nT<|cS<|cQ<|sM Z<|sV (aF Z underlying52)<|sM Z<|sK [3,4,5,8,9,10] Z<|cB ?_
 refine dK (cO 9 1)<|aX (σ := Value×Nat) (λq=>[(3,.pointer (some ⟨b3,0,none⟩)),(5,q.1),(8,.slice a ms.length cap),(9,.int .i64 ms.length),(10,.int .i64 (q.2:Nat))]) (λq=>NR q.1 (aZ (ms.take q.2) s)::X::pt b3 (cl [sv s.cls,sv s.name] 69)::hr) (λq=>q.2≤ms.length/\q.1.oneCell'=true) (λq=>ms.length - q.2) (.slice none 0 0,0) ⟨Nat.zero_le _,Z⟩ ?_
 rintro ⟨w,i⟩ ⟨hi,hw⟩
 simp only at hi hw
 dsimp only
 refine cQ<|sV (aN Z Z)<|sN<|nT<|cS<|cC Z (λhd=>?_)<|λhd=>?_
 ·have hlt:i<ms.length:=Zx
  obtain ⟨b,o,cap2,us,e1,hus,hrd,ht⟩:=hv.at<|Zy hlt
  cases e1
  have hsn:=hsn i hlt
  have hle:=hle i
  generalize ms[i]=m at ht hsn
  have hone:=Enc.ones ht
  obtain ⟨x2,x5,xy,x11,x12,x13,rfl,hx2,hx5,hxy,hx11,hx12,hx13⟩:=dh ht
  unfold gz at hrd hone
  refine cK<|xT<|cS<|cB<|cQ<|sV (vI (k:=i) Z Z oM Z hlt Z)<|sV (af Z eU Z hrd) ?_
  refine au ji λb7=>?_
  refine ai Z Z gP Z hone ?_
  refine sK [3,5,7,8,9,10] Z<|cQ<|sV (vF Z dX Z)<|sV (vY Z nO) ?_
  refine sV (af Z il Z ah) ?_
  refine aY Z Z en33 Z (rD hx2) ?_
  refine sK [3,5,7,8,9,10,17] Z<|cC Z (λhc=>?_)<|λhc=>?_
  ·have hc:m.seeds.contains s=true:=hc
   rw [hc,if_pos rfl] at hsn
   refine cR<|sM Z<|sV (vF Z eB Z)<|sV (vY Z ld9) ?_
   refine ak (cells:=[sv m.name]) Z underlying40 fH Z Z Zz (ltn Z) λb62=>?_
   refine dZ [[sv m.name]] Z Z underlying40 fH Z (by decide) (show Sel _ (VR w 9 1<|(aZ (ms.take i) s).map nC) _ from slq) (by simp) Z (λj u2 hu2=>bT<|bV Zt) (by simp; rfl) (by rw [List.length_map]; omega) (by rw [List.length_map]; omega) (ltn Z) λw2 hw2 _=>?_
   refine sA Z<|sN<|nK [3,5,8,9,10] Z<|ax<|xB<|xT<|cR<|sV (aI Z Z Za)<|sM Z<|sN<|nK [3,5,8,9,10] Z<|ax ?_
   rw [show (aZ (ms.take i) s).map nC++[[sv m.name]]=(aZ (ms.take (i+1)) s).map nC by rw [hsn,List.map_append]; rfl]
   refine aJ (w2,i+1) ⟨hlt,hw2⟩<|Nat.sub_lt_sub_left hlt<|Nat.lt_succ_self i
  ·have hc:m.seeds.contains s=false:=hc
   rw [hc,if_neg (by decide),List.append_nil] at hsn
   refine cK<|xB<|xT<|cR<|sV (aI Z Z Za)<|sM Z<|sN<|nK [3,5,8,9,10] Z<|ax ?_
   rw [<- hsn]
   refine aJ (w,i+1) ⟨hlt,hw⟩<|Nat.sub_lt_sub_left hlt<|Nat.lt_succ_self i
 ·have hil:i=ms.length:=by
   have:¬ i<ms.length:=Zx
   omega
  rw [hil,List.take_length]
  refine aB<|xE<|xE<|xY<|xT<|cQ<|sM Z<|sA Z<|sK [4] Z<|cT ?_
  exact aj Z ⟨_,Z,hw,Z⟩ sbq
end
section
variable {X:Res} {v v':Value} {us us':List Value}
def Gs (a b:Sd):Int:=orI [qW a.cls b.cls,qW a.name b.name]
theorem Es (a b:Sd):Reads prog 198 #[.agg #[sv a.cls,sv a.name],.agg #[sv b.cls,sv b.name]] [] (.int .i64 (Gs a b)):=by
 refine aL (n:=17) func198 Z Z (len Z) λhr w0=>?_
 refine cQ (aP Z Z λb2=>?_)
 refine aP Z Z λb3=>?_
 refine sA Z<|sK [2,3,4] Z<|cS<|bB (ork [(0,2),(1,1),(2,2),(3,1),(4,1),(5,2),(6,1),(7,2),(8,1),(9,1),(10,0),(11,0),(12,2)] .nil) (λi => !(Nat.beq i 10 || Nat.beq i 11)) mixed Zz ?_
 refine dV Z (vF Z xg Z)<|bu Z (vY Z ld9) ?_
 refine dV Z (vF Z xg Z)<|bu Z (vY Z ld9) ?_
 refine jG Z Z Z J4 Z (zw a.cls b.cls) ?_
 refine dV Z (vF Z xh Z)<|bu Z (vY Z ld9) ?_
 refine dV Z (vF Z xh Z)<|bu Z (vY Z ld9) ?_
 refine jG Z Z Z J4 Z (zw a.name b.name) ?_
 refine aV Z (ak (cells:=[.int .i64 (qW a.cls b.cls),.int .i64 (qW a.name b.name)]) Z underlying333 nN Z Z Zz (ltn Z) λb51=>aW ?_)
 refine aV Z<|aH Z Z en227 Z (Or_ct (xs:=[qW a.cls b.cls,qW a.name b.name]) Ke<|by simp) ?_
 rintro u h' ⟨rfl,rfl⟩
 simp only [lC,lN]
 refine aW ?_
 refine dV Z (vA Z)<|bA<|nK [4] Z<|nT<|cT ?_
 exact aj Z ⟨Z,Z⟩ sbq
theorem Lt {F:List Fm} {A:List Kt} {fv av:Value} {t:Kt} (hF:Ls X fv F) (hA:Ls X av A) (h:Ty X us t) :
  CtN prog 52 #[.agg us.toArray,fv,av] [X] λu T=>∃ us':List Value,u = .tuple #[.agg us'.toArray,.int .i64 (if F.length=A.length then 0 else 2)]/\Ty T us' (if F.length=A.length then cZ F A t else .mk 0 [] [] false false):=by
 obtain ⟨x,rfl,hx⟩:=eF h
 obtain ⟨xa,xc,rfl,_⟩:=id hx.form
 obtain ⟨fa,fc,hfv,_⟩:=id hF.form
 obtain ⟨aa,ac,hav,_⟩:=id hA.form
 by_cases hl:F.length=A.length
 ·have hc:=A7 hl hF hA h
  rw [if_pos hl,if_pos hl]
  unfold tyC at hc ⊢
  subst hfv hav
  refine aL (n:=19) func52 Z Z (len Z) λhr w0=>?_
  refine cQ (aP Z Z λb3=>?_)
  refine au Ak λb6=>?_
  refine sA Z<|sK [1,2,3,6,7] Z<|cS<|cQ<|sM Z<|sV (aF Z underlying38)<|sM Z<|sV (aF Z underlying71)<|sV (bP Z Z)<|sK [1,2,3,6,7,12] Z ?_
  rw [show ((F.length:Int) != A.length)=false by rw [hl]; simp]
  refine aG Z ?_
  refine cK<|xT<|cQ<|sV (af Z fU Z ah) ?_
  refine sM Z<|sM Z<|aH Z Z J3 Z (hc) ?_
  rintro u h' ⟨T,rfl,us2,rfl,hT⟩
  simp only [lC,lN]
  have hcp:=jT<|AX hT
  refine aH Z Z J2 Z (hcp) ?_
  rintro u h' ⟨T2,rfl,us3,rfl,hT2⟩
  simp only [lC,lN]
  have h5:us3.length=5:=Enc.len hT2
  have h1:=Enc.ones hT2
  refine ai (hl:=by rw [h5]; rfl) Z Z nL h5 h1 ?_
  refine sA Z<|sK [6,7] Z<|cT ?_
  exact bD (.cellN Z fU h5 slq<|.tmp Z .nil) ⟨T2,Z,us3,Z,hT2⟩ sbr
 ·rw [if_neg hl,if_neg hl]
  unfold tyC
  subst hfv hav
  refine aL (n:=19) func52 Z Z (len Z) λhr w0=>?_
  refine cQ (aP Z Z λb3=>?_)
  refine au Ak λb6=>?_
  refine sA Z<|sK [1,2,3,6,7] Z<|cS<|cQ<|sM Z<|sV (aF Z underlying38)<|sM Z<|sV (aF Z underlying71)<|sV (bP Z Z)<|sK [1,2,3,6,7,12] Z ?_
  rw [show ((F.length:Int) != A.length)=true by simp; omega]
  refine aQ Z ?_
  refine cQ<|sV (aO (cells:=[.int .i64 0,sv [],.slice none 0 0,.bool false,.bool false]) Z<|λ_=>Zz) ?_
  refine ai Z Z nL Z Z ?_
  refine sA Z<|sK [6,7] Z<|cT<|xR<|jC (eO (L:=[])) ?_
  exact bD (.cellN Z fU Z slq<|.tmp Z .nil) ⟨Res.star [],Z,_,Z,gN (t:=.mk 0 [] [] false false) Z Ls.nil⟩ sbr
theorem Gt {x g:Grp} {b7:Nat} {gs:List Value} {L L':SH} (hs:Sel L (pt b7 (cl gs 170)) L') (hgl:gs.length=2) (h:Enc.rep (Res.star L) us x) (hg:Enc.rep (Res.star L) gs g):Reads prog 248 #[.agg us.toArray,.pointer (some ⟨b7,0,none⟩)] [Res.star L] (.bool (decide (x=g))):=by
 have hsm:=NM h hg
 have hrd:Rds (Res.star L) b7 0 gs:=λi hi=>oH hs<|ah i hi
 obtain ⟨y,rfl,_⟩:=h
 refine aL (n:=7) func248 Z Z (len Z) λhr w0=>?_
 refine cQ (aP Z Z λb2=>?_)
 refine sA Z<|sK [1,2,3] Z<|cQ<|sV (af Z qM Z ah) ?_
 refine sV (af Z qM hgl hrd) ?_
 refine aY Z Z en182 Z (hsm) ?_
 refine sA Z<|sK [3] Z<|cT ?_
 exact aj Z ⟨Z,Z⟩ sbq
theorem BH {xs:List Grp} {g:Grp}:(xs.any λx=>decide (x=g))=xs.contains g:=by
 rw [Bool.eq_iff_iff]; simp
theorem Gu (xs:List Grp):∀ o,(q8 o xs).length≤o.length+xs.length:=by
 induction xs with
 | nil=>intro o; exact Nat.le_refl _
 | cons g t ih =>
  intro o
  have h1:(vH o g).length≤o.length+1:=by unfold vH; split <;> simp
  have:=ih<|vH o g
  show (q8 (vH o g) t).length≤_
  simp only [List.length_cons]; omega
theorem Lu (o xs:List Grp) (g:Grp):q8 o (xs++[g])=vH (q8 o xs) g:=by simp [q8]
theorem Gv (ls:List (List Grp)) (xs:List Grp):groups (ls++[xs])=q8 (groups ls) xs:=by simp [groups]
theorem lT (ls:List (List Grp)):(groups ls).length≤ls.flatten.length:=by
 have key:∀ (ls:List (List Grp)) (o:List Grp),(ls.foldl q8 o).length≤o.length+ls.flatten.length:=by
  intro ls
  induction ls with
  | nil=>intro o; simp
  | cons a t ih =>
   intro o
   have h1:=Gu a o
   have h2:=ih<|q8 o a
   rw [List.foldl_cons,List.flatten_cons,List.length_append]; omega
 simpa [groups] using key ls []
theorem rZ {ls:List (List Grp)} (hv:Ls X v ls) (hb:ls.flatten.length * 40≤reachBytes):CtN prog 196 #[v] [X] λu T=>u.oneCell'=true/\∃ rows,T=VR u 170 2 rows/\Rws X rows (groups ls):=by
 have hml:maxLen=9223372036854775807:=rfl
 have hrb:reachBytes=140737488351232:=rfl
 have hsz:ls.length * 24≤reachBytes:=hv.sizes
 obtain ⟨a,cap,rfl,hlc,hcm,_⟩:=id hv.form
 refine aL (n:=36) func196 Z Z (len Z) λhr w0=>?_
 refine cQ<|sA Z<|sN<|nT<|cQ<|sA Z<|sN<|nT<|cS<|cQ<|sM Z<|sV (aF Z underlying312)<|sM Z ?_
 refine sK [2,3,8,9,10] Z<|cB<|dK (cO 170 2)<|aX (σ := Value×List (List Value)×Nat) (λq=>[(3,q.1),(8,.slice a ls.length cap),(9,.int .i64 ls.length),(10,.int .i64 (q.2.2:Nat))]) (λq=>VR q.1 170 2 q.2.1::X::hr) (λq=>q.2.2≤ls.length/\q.1.oneCell'=true/\Rws X q.2.1 (groups<|ls.take q.2.2)) (λq=>ls.length - q.2.2) (.slice none 0 0,[],0) ⟨Nat.zero_le _,Z,Rws.nil⟩ ?_
 rintro ⟨w,rows,i⟩ ⟨hi,hw,hro⟩
 simp only at hi hw hro
 dsimp only
 refine fZ (v:=w) (E:=170) (sz:=2) (rows:=rows) slq λwa wc hwf hwl hwm=>?_
 subst hwf
 refine cQ<|sV (aN Z Z)<|sN<|nT<|cS<|cC Z (λhd=>?_)<|λhd=>?_
 ·have hlt:i<ls.length:=Zx
  obtain ⟨b,o,cap2,us,e1,hus,hrd,u1,rfl,hu1⟩:=hv.at<|Zy hlt
  cases e1
  have hrd1:Rd X ⟨b,o+i * 1,none⟩ u1:=hrd 0<|by simp
  have htk:ls.take (i+1)=ls.take i++[ls[i]]:=List.take_succ_eq_append_getElem hlt
  have hfl:(ls.take i).flatten.length+(ls[i]).length≤ls.flatten.length:=by
   have h1:ls=ls.take i++ls[i]::ls.drop (i+1):=by rw [List.getElem_cons_drop,List.take_append_drop]
   have h2:=congrArg (λx=>x.flatten.length) h1
   simp only [List.flatten_append,List.flatten_cons,List.length_append] at h2
   omega
  have hgl:=lT<|ls.take i
  generalize hxs:ls[i]=xs at hu1 htk hfl
  obtain ⟨a2,k2,rfl,hlc2,hcm2,_⟩:=id hu1.form
  refine cK<|xT<|cS<|cB<|cQ<|sV (vI (k:=i) Z Z sl312 Z hlt Z)<|sV (vY Z qo) ?_
  refine sA Z<|sK [3,5,8,9,10] Z<|cQ<|sM Z<|sV (aF Z underlying53)<|sM Z<|sK [3,8,9,10,14,15,16] Z<|cB<|aX (σ := Value×List (List Value)×Nat) (λq=>[(3,q.1),(8,.slice (some ⟨b,o,none⟩) ls.length cap),(9,.int .i64 ls.length),(10,.int .i64 (i:Nat)),(14,.slice a2 xs.length k2),(15,.int .i64 xs.length),(16,.int .i64 (q.2.2:Nat))]) (λq=>VR q.1 170 2 q.2.1::X::hr) (λq=>q.2.2≤xs.length/\q.1.oneCell'=true/\Rws X q.2.1 (q8 (groups<|ls.take i)<|xs.take q.2.2)) (λq=>xs.length - q.2.2) (.slice wa rows.length wc,rows,0) ⟨Nat.zero_le _,hw,hro⟩ ?_
  rintro ⟨w,rows,j⟩ ⟨hj,hw,hro⟩
  simp only at hj hw hro
  dsimp only
  refine cQ<|sV (aN Z Z)<|sN<|nT<|cS<|cC Z (λhd2=>?_)<|λhd2=>?_
  ·have hltj:j<xs.length:=Zw
   obtain ⟨b2,o2,cap3,gs,e2,hgs,hrdg,hg⟩:=hu1.at<|Zy hltj
   cases e2
   have hgs:gs.length=2:=hgs
   have htj:xs.take (j+1)=xs.take j++[xs[j]]:=List.take_succ_eq_append_getElem hltj
   have hrl:rows.length≤(ls.take i).flatten.length+j:=by
    rw [hro.1]
    have:=Gu (xs.take j)<|groups<|ls.take i
    rw [List.length_take] at this
    omega
   have hgsn:=Lu (groups<|ls.take i) (xs.take j) xs[j]
   rw [<- htj] at hgsn
   generalize xs[j]=g at hg hgsn
   generalize ho:q8 (groups<|ls.take i) (xs.take j)=out at hro hgsn
   have hone:=Enc.ones hg
   refine cK<|xT<|cS<|cB<|cQ<|sV (vI (k:=j) Z Z sl53 Z hltj Z)<|sV (af Z qM hgs hrdg) ?_
   refine au al170 λb7=>?_
   refine ai (hl:=by rw [hgs]; rfl) Z Z Fb hgs hone ?_
   refine nY (r:=VR w 170 2 rows) slq λhok=>?_
   have hlo:out.length * 40≤reachBytes:=by
    rw [<- hro.1]
    have h9:rows.length≤ls.flatten.length:=by omega
    exact Nat.le_trans (Nat.mul_le_mul_right _ h9) hb
   have hsX:∀ p u,Rd X p u->Rd (Res.star [pt b7 (cl gs 170),VR w 170 2 rows,X]) p u:=bE<|.there<|.there .here
   have hlsw:Ls (Res.star [pt b7 (cl gs 170),VR w 170 2 rows,X]) w out:=Rws.ls (E:=170) ⟨hro.1,λj us x h1 h2=>Enc.up hsX<|hro.2 j us x h1 h2⟩ hok (bE<|.there .here) hlo
   have htell:∀ x∈out,∀ us,Enc.rep (Res.star [pt b7 (cl gs 170),VR w 170 2 rows,X]) us x->Reads prog 248 (#[]++([.agg us.toArray]:List Value).toArray ++ #[.pointer (some ⟨b7,0,none⟩)]) [Res.star [pt b7 (cl gs 170),VR w 170 2 rows,X]] (.bool<|decide (x=g)):=λx _ us h=>Gt .here hgs h<|Enc.up hsX hg
   refine sK [3,7,8,9,10,14,15,16] Z<|cQ<|sM Z<|sV (bQ Z Z)<|aY Z Z en93 Z ((dF<|AU (X:=Res.star [pt b7 (cl gs 170),VR w 170 2 rows,X]) hlsw en248 htell)) ?_
   rw [BH]
   refine sV (bg Z)<|sK [3,7,8,9,10,14,15,16,23] Z<|cC Z (λhc=>?_)<|λhc=>?_
   ·have hc:out.contains g=false:=Zl
    have hga:vH out g=out++[g]:=by unfold vH; rw [hc,if_neg (by decide)]
    have hb1:(rows.length+1) * 40≤reachBytes:=Nat.le_trans (Nat.mul_le_mul_right 40 (show rows.length+1≤ls.flatten.length by omega)) hb
    obtain ⟨g0,g1,rfl⟩:=len2 hgs
    refine cR<|sM Z<|sV (af Z qM Z ah) ?_
    refine ak (cells:=[g0,g1]) Z underlying53 mX Z Z Zz (ltn Z) λb62=>?_
    refine dZ [[g0,g1]] Z Z underlying53 mX Z (by decide) (show Sel _ (VR w 170 2 rows) _ from slq) (by simp) Z (λj u2 hu2=>bT<|bV Zt) (by simpa using hone) (by omega) (by omega) (ltn Z) λw2 hw2 _=>?_
    refine sA Z<|sN<|nK [3,8,9,10,14,15,16] Z<|ax<|xB<|xT<|cR<|sV (aI Z Z Za)<|sM Z<|sN<|nK [3,8,9,10,14,15,16] Z<|ax ?_
    refine aJ (w2,rows++[[g0,g1]],j+1) ⟨hltj,hw2,by rw [hgsn,hga]; exact hro.snoc hg⟩<|Nat.sub_lt_sub_left hltj<|Nat.lt_succ_self j
   ·have hc:out.contains g=true:=Zl
    have hga:vH out g=out:=by unfold vH; rw [hc,if_pos rfl]
    refine cK<|xB<|xT<|cR<|sV (aI Z Z Za)<|sM Z<|sN<|nK [3,8,9,10,14,15,16] Z<|ax ?_
    refine aJ (w,rows,j+1) ⟨hltj,hw,by rw [hgsn,hga]; exact hro⟩<|Nat.sub_lt_sub_left hltj<|Nat.lt_succ_self j
  ·have hil:j=xs.length:=by
    have:¬ j<xs.length:=Zw
    omega
   rw [hil,List.take_length,<- Gv,<- htk] at hro
   refine aB<|xE<|xE<|xY<|xB<|xT<|cR<|sV (aI Z Z Za)<|sM Z<|sN<|nK [3,8,9,10] Z<|ax ?_
   refine aJ (w,rows,i+1) ⟨hlt,hw,hro⟩<|Nat.sub_lt_sub_left hlt<|Nat.lt_succ_self i
 ·have hil:i=ls.length:=by
   have:¬ i<ls.length:=Zx
   omega
  rw [hil,List.take_length] at hro
  refine aB<|xE<|xE<|xY<|xT<|cQ<|sM Z<|sM Z<|sV (aF Z underlying53)<|sM Z<|sV (aF Z underlying53)<|sV (AR (hi:=rows.length) (mx:=rows.length) Z Z Z sl53 Z Z (Nat.le_refl _) hwl)<|sA Z ?_
  refine sK [2] Z<|cT<|jC (Vw.sel (r:=VR (.slice wa rows.length wc) 170 2 rows) slq vw_full) ?_
  exact aj Z ⟨_,Z,Z,rows,Z,hro⟩ sbq
end
theorem Db {xs:List Nm} {i:Nat} (h:i<xs.length) (hc:(xs.take i).contains xs[i]=true):¬ xs.Nodup:=λhn=>by
 obtain ⟨j,hj,he⟩:=List.mem_take_iff_getElem.1<|List.contains_iff_mem.1 hc
 have:=(List.getElem_inj hn).1 he
 omega
theorem A8 {xs:List Nm} {i:Nat} (h:i<xs.length) (hn:(xs.take i).Nodup) (hc:(xs.take i).contains xs[i]=false):(xs.take (i+1)).Nodup:=by
 rw [List.take_succ_eq_append_getElem h]
 refine List.nodup_append.2 ⟨hn,by simp,λa ha b hb e=>?_⟩
 rw [List.mem_singleton] at hb
 subst hb; subst e
 rw [List.contains_iff_mem.2 ha] at hc; cases hc
section
variable {X:Res} {v:Value}
theorem Gw {cs:List Fm} (hv:Ls X v cs):Reads prog 143 #[v,.func (.func 144) #[] #[]] [X] (.bool (!decide (cs.map λc=>c.name).Nodup)):=by
 have hml:maxLen=9223372036854775807:=rfl
 obtain ⟨a,cap,rfl,hlc,hcm,_⟩:=id hv.form
 generalize hxs:(cs.map λc=>c.name)=xs
 have hlen:xs.length=cs.length:=by rw [<- hxs,List.length_map]
 refine aL (n:=25) func143 Z Z (len Z) λhr w0=>?_
 refine cQ<|sA Z<|sN<|nT<|cQ (eH (ltn Z) λb8=>?_)
 refine sA Z<|sK [0,1,4,5] Z<|cS<|cQ<|sM Z<|sV (aF Z underlying38)<|sM Z<|sK [1,4,5,9,10,11] Z<|cB<|aX (σ := Nat×List (Nm×Unit)) (λq=>[(1,.func (.func 144) #[] #[]),(5,.map (some b8)),(9,.slice a cs.length cap),(10,.int .i64 cs.length),(11,.int .i64 (q.1:Nat))]) (λq=>mps b8 (mvG tV q.2)::X::hr) (λq=>q.1≤cs.length/\(xs.take q.1).Nodup/\sQ (xs.take q.1) q.2) (λq=>cs.length - q.1) (0,[]) ⟨Nat.zero_le _,List.nodup_nil,λ_=>rfl⟩ ?_
 rintro ⟨i,D⟩ ⟨hi,hn,hD⟩
 simp only at hi hn hD
 dsimp only
 refine cQ<|sV (aN Z Z)<|sN<|nT<|cS<|cC Z (λhd=>?_)<|λhd=>?_
 ·have hlt:i<cs.length:=Zx
  have hlt2:i<xs.length:=by rw [hlen]; exact hlt
  obtain ⟨b,o,cap2,us,e1,hus,hrd,hre⟩:=hv.at<|Zy hlt
  cases e1
  have hus2:us=[sv cs[i].name,sv cs[i].bound]:=hre
  subst hus2
  have hnm:Reads prog 144 #[.agg [sv cs[i].name,sv cs[i].bound].toArray] [] (sv xs[i]):=by rw [show xs[i]=cs[i].name by simp [<- hxs]]; exact NG hre
  have hone:=Enc.ones hre
  refine cK<|xT<|cS<|cB<|cQ<|sV (vI (k:=i) Z Z sl38 Z hlt Z)<|sV (af Z JO Z hrd) ?_
  refine au al111 λb7=>?_
  refine ai Z Z sz111 Z hone ?_
  refine sK [1,5,7,9,10,11] Z<|cS<|cQ<|sM Z<|sM Z<|sV (af Z JO Z ah) ?_
  refine aY Z Z en144 Z (hnm) ?_
  refine sV (gq (hD.look xs[i])<|bI Z Z yC inf4 slq) ?_
  refine sK [1,5,7,9,10,11,19] Z<|cC Z (λhf=>?_)<|λhf=>?_
  ·have hno:=Db hlt2 hf
   rw [decide_eq_false hno]
   refine cQ<|sA Z<|sK [4] Z<|cT<|xR<|xW<|xR<|xR<|xW<|xR ?_
   exact aj Z ⟨Z,Z⟩ sbq
  ·refine cK<|xT<|cR<|sM Z<|sM Z<|sV (af Z JO Z ah) ?_
   refine aY Z Z en144 Z (hnm) ?_
   refine cz Z Z Z yC slq ?_
   refine sN<|nK [1,5,9,10,11] Z<|ax<|xB<|xT<|cR<|sV (aI Z Z Za)<|sM Z<|sN<|nK [1,5,9,10,11] Z<|ax ?_
   rw [show eu (mvG tV D) xs[i] (.bool true)=mvG tV (fT D xs[i] ()) from om tV _ _ ()]
   refine aJ (i+1,fT D xs[i] ()) ⟨hlt,A8 hlt2 hn hf,by rw [List.take_succ_eq_append_getElem hlt2]; exact hD.next _⟩ (by show cs.length - (i+1)<cs.length - i; omega)
 ·have hil:i=cs.length:=Nat.le_antisymm hi<|Nat.not_lt.1 Zx
  rw [hil,<- hlen,List.take_length] at hn
  rw [decide_eq_true hn]
  refine aB<|xE<|xE<|xY<|xT<|cQ<|sA Z<|sK [4] Z<|cT ?_
  exact aj Z ⟨Z,Z⟩ sbq
theorem Gx {cs:List Pn} (hv:Ls X v cs):Reads prog 148 #[v,.func (.func 149) #[] #[]] [X] (.bool (!decide (cs.map λc=>c.fro).Nodup)):=by
 have hml:maxLen=9223372036854775807:=rfl
 obtain ⟨a,cap,rfl,hlc,hcm,_⟩:=id hv.form
 generalize hxs:(cs.map λc=>c.fro)=xs
 have hlen:xs.length=cs.length:=by rw [<- hxs,List.length_map]
 refine aL (n:=25) func148 Z Z (len Z) λhr w0=>?_
 refine cQ<|sA Z<|sN<|nT<|cQ (eH (ltn Z) λb8=>?_)
 refine sA Z<|sK [0,1,4,5] Z<|cS<|cQ<|sM Z<|sV (aF Z underlying86)<|sM Z<|sK [1,4,5,9,10,11] Z<|cB<|aX (σ := Nat×List (Nm×Unit)) (λq=>[(1,.func (.func 149) #[] #[]),(5,.map (some b8)),(9,.slice a cs.length cap),(10,.int .i64 cs.length),(11,.int .i64 (q.1:Nat))]) (λq=>mps b8 (mvG tV q.2)::X::hr) (λq=>q.1≤cs.length/\(xs.take q.1).Nodup/\sQ (xs.take q.1) q.2) (λq=>cs.length - q.1) (0,[]) ⟨Nat.zero_le _,List.nodup_nil,λ_=>rfl⟩ ?_
 rintro ⟨i,D⟩ ⟨hi,hn,hD⟩
 simp only at hi hn hD
 dsimp only
 refine cQ<|sV (aN Z Z)<|sN<|nT<|cS<|cC Z (λhd=>?_)<|λhd=>?_
 ·have hlt:i<cs.length:=Zx
  have hlt2:i<xs.length:=by rw [hlen]; exact hlt
  obtain ⟨b,o,cap2,us,e1,hus,hrd,hre⟩:=hv.at<|Zy hlt
  cases e1
  have hus2:us=[sv cs[i].fro,sv cs[i].to]:=hre
  subst hus2
  have hnm:Reads prog 149 #[.agg [sv cs[i].fro,sv cs[i].to].toArray] [] (sv xs[i]):=by rw [show xs[i]=cs[i].fro by simp [<- hxs]]; exact F8 hre
  have hone:=Enc.ones hre
  refine cK<|xT<|cS<|cB<|cQ<|sV (vI (k:=i) Z Z sl86 Z hlt Z)<|sV (af Z qL Z hrd) ?_
  refine au Fj λb7=>?_
  refine ai Z Z Ac Z hone ?_
  refine sK [1,5,7,9,10,11] Z<|cS<|cQ<|sM Z<|sM Z<|sV (af Z qL Z ah) ?_
  refine aY Z Z en149 Z (hnm) ?_
  refine sV (gq (hD.look xs[i])<|bI Z Z yC inf4 slq) ?_
  refine sK [1,5,7,9,10,11,19] Z<|cC Z (λhf=>?_)<|λhf=>?_
  ·have hno:=Db hlt2 hf
   rw [decide_eq_false hno]
   refine cQ<|sA Z<|sK [4] Z<|cT<|xR<|xW<|xR<|xR<|xW<|xR ?_
   exact aj Z ⟨Z,Z⟩ sbq
  ·refine cK<|xT<|cR<|sM Z<|sM Z<|sV (af Z qL Z ah) ?_
   refine aY Z Z en149 Z (hnm) ?_
   refine cz Z Z Z yC slq ?_
   refine sN<|nK [1,5,9,10,11] Z<|ax<|xB<|xT<|cR<|sV (aI Z Z Za)<|sM Z<|sN<|nK [1,5,9,10,11] Z<|ax ?_
   rw [show eu (mvG tV D) xs[i] (.bool true)=mvG tV (fT D xs[i] ()) from om tV _ _ ()]
   refine aJ (i+1,fT D xs[i] ()) ⟨hlt,A8 hlt2 hn hf,by rw [List.take_succ_eq_append_getElem hlt2]; exact hD.next _⟩ (by show cs.length - (i+1)<cs.length - i; omega)
 ·have hil:i=cs.length:=Nat.le_antisymm hi<|Nat.not_lt.1 Zx
  rw [hil,<- hlen,List.take_length] at hn
  rw [decide_eq_true hn]
  refine aB<|xE<|xE<|xY<|xT<|cQ<|sA Z<|sK [4] Z<|cT ?_
  exact aj Z ⟨Z,Z⟩ sbq
end
end Go.Fl
namespace Go.Ck
open Go Go.RowKit Go.Proofs Go.Shelf
theorem bR {P : Program} {f : FuncId} {B : Func} (nm : String) (h1 : (nm == "runtime.NumGoroutine") = false) (h2 : P.funcs[f]? = some { B with name := nm }) : Bears P f B := ⟨nm, h1, h2⟩
theorem grow_of {P : Program} {g : FuncId} {args : Array Value} {v : Value} (h : Ct P g args [] λu h' => u = v /\ h' = []) (w : World) :
  Calls P g args w λe w'=>e = .returned v/\∃ q os',w'=Sort.grow (w.drewN q) os':=by
 refine (h [old w] w<|wY w).mono ?_
 rintro e w' ⟨u,h',rfl,⟨rfl,rfl⟩,hh,hs⟩
 refine ⟨Z,w'.drawn - w.drawn,w'.heap.extract w.heap.size w'.heap.size,?_⟩
 have ho:∀ b,b<w.heap.size->w'.heap[b]? = w.heap[b]? := hh.1
 have hd:=hs.dw
 have hz:=hs.size
 have h1 : w'.heap = w.heap ++ w'.heap.extract w.heap.size w'.heap.size := by
  apply Array.ext
  ·simp; omega
  ·intro i hi1 hi2
   by_cases hi:i<w.heap.size
   ·have:=ho i hi
    rw [Array.getElem?_eq_getElem hi1,Array.getElem?_eq_getElem hi] at this
    rw [Array.getElem_append_left hi]
    exact Option.some.inj this
   ·rw [Array.getElem_append_right (by omega),Array.getElem_extract]
    congr 1; omega
 obtain ⟨e1,e2,e3⟩:=(⟨hs.os,hs.tape,hs.output⟩:w'.os=w.os/\w'.tape=w.tape/\w'.output=w.output)
 unfold Sort.grow World.drewN
 cases w' with
 | mk hp' tp dr os ou =>
  simp only at h1 e1 e2 e3 hd ⊢
  rw [<- h1,e1,e2,e3]
  congr 1
  omega
theorem A9 {α : Type} [Inhabited α] {enc : α -> List Value} {k:Nat} (hk:∀ x,(enc x).length=k) (xs:List α):Sort.flatK enc k xs.toArray=(xs.map enc).flatten.toArray:=by
 have hl:(xs.map enc).flatten.length=xs.length * k:=by
  induction xs with
  | nil=>simp
  | cons x t ih=>rw [List.map_cons,List.flatten_cons,List.length_append,hk,ih,List.length_cons,Nat.add_mul]; omega
 refine Sort.ext_get! (by rw [Sort.size_flatK,List.size_toArray,List.size_toArray,hl]) λt ht=>?_
 have ht':t<xs.length * k:=by simpa using ht
 have k0:0<k:=Nat.pos_of_ne_zero λh=>by rw [h] at ht'; simp at ht'
 have hq:t / k<xs.length:=Nat.div_lt_of_lt_mul (by rw [Nat.mul_comm]; exact ht')
 rw [Sort.get_flatK _ _ _ t (by simpa using ht')]
 have e1:xs.toArray[t / k]! = xs[t / k]:=by rw [getElem!_pos xs.toArray _ Zu]; simp
 have hr:t % k<(enc xs[t / k]).length:=by rw [hk]; exact Nat.mod_lt _ k0
 rw [e1]
 have h3:=o6 (rows:=xs.map enc) (sz:=k) (m:=t / k) (k:=t % k) (r:=enc xs[t / k]) (x:=(enc xs[t / k])[t % k]) (by simp only [List.mem_map]; rintro r ⟨x,-,rfl⟩; exact hk x) (by rw [List.getElem?_map,Zy hq]; rfl)<|Zy hr
 rw [Nat.div_add_mod' t k] at h3
 have h4:t<(xs.map enc).flatten.length:=by rw [hl]; exact ht'
 rw [Zy h4] at h3
 rw [getElem!_pos (enc xs[t / k]) _ hr,getElem!_pos _ t (by simpa using h4)]
 simpa using (Option.some.inj h3).symm
theorem IP {F X:List Value} {pre j:List Value} (hl:F.length=X.length):Sort.putCells id pre.length F.toArray (pre++(X++j)).toArray=(pre++(F++j)).toArray:=by
 apply Array.ext
 ·simp [Sort.putCells,hl]
 ·intro k h1 h2
  simp only [Sort.putCells,Array.getElem_mapIdx,List.size_toArray,List.getElem_toArray,List.getElem_append]
  by_cases hk:k<pre.length
  ·have h3:¬ (pre.length≤k/\k<pre.length+F.length):=by omega
   simp only [hk,h3,dite_true,if_false]
  ·by_cases hk2:k - pre.length<F.length
   ·have h3:pre.length≤k/\k<pre.length+F.length:=by omega
    simp only [hk,h3,hk2,dite_true,dite_false,if_true,and_self]
    rw [getElem!_pos F.toArray _ (by simpa using hk2)]
    simp
   ·have h3:¬ (pre.length≤k/\k<pre.length+F.length):=by omega
    have h4:¬ k - pre.length<X.length:=by omega
    simp only [hk,h4,dite_false,hl]
    rw [hl] at h3
    rw [if_neg h3]
theorem Gy {P : Program} {ρ : Ren} {α : Type} [Inhabited α] (L : SlLaysF0.n6 P ρ) {k : Nat} {E : TypeId} (aE : ∀ w, (isAgg (ρ.t 24)).run P w = .ok true w) (zE : ∀ w, (Go.sizeOf (ρ.t 24)).run P w = .ok k w) {enc : α -> List Value} (hk : ∀ x, (enc x).length = k) (h1 : ∀ x, ∀ v ∈ enc x, v.oneCell' = true) {cf : α -> α -> Int} (hO : Sort.SWO (ltOf cf)) {g : FuncId} (eg : Enters P g)
  (hc:∀ x y,Ct P g #[.agg (enc x).toArray,.agg (enc y).toArray] [] λu h'=>u = .int .i64 (cf x y)/\h'=[]) {v:Value} {xs:List α} (hl:xs.length≤1099511627776) :
  Ct P (ρ.f 6) #[v,.func (.func g) #[] #[]] [VR v E k (xs.map enc)] λu h'=>u = .tuple #[]/\∃ ys:List α,ys.Perm xs/\ys.Pairwise (λa b=>cf b a<0->False)/\h'=[VR v E k (ys.map enc)]:=by
 intro hr w hh
 have hv:=hh.1
 rcases hv.2 with ⟨rfl,h0⟩ | ⟨b,o,cp,pre,j,rfl,hb,hpre,hc1,hc2,hc3⟩
 ·have hx:xs=[]:=List.map_eq_nil_iff.1 h0
  subst hx
  exact (AnyF.slices_SortFunc_none L none 0 _ w).mono λe w' ⟨h1,h2⟩=>⟨.tuple #[],_,h1,⟨Z,[],.nil,.nil,Z⟩,by rw [h2]; exact hh,by rw [h2]; exact Same.refl w⟩
 ·have hb : w.heap[b]? = some (cl (pre ++ ((xs.map enc).flatten ++ j)) E) := hb
  have hlt:b<w.heap.size:=(Array.getElem?_eq_some_iff.1 hb).1
  have hH:Sort.HoldsK enc k w b o xs.toArray:=by
   unfold Sort.HoldsK
   rw [A9 hk]
   intro i hi
   have hi:i<(xs.map enc).flatten.length:=Zi
   refine ⟨?_,by simp [World.frozen?,hb,cl]⟩
   rw [getElem!_pos _ i Zi]
   simp only [World.cell?,hb,cl,Option.isSome_none,Bool.false_eq_true,if_false,List.getElem?_toArray]
   rw [<- hpre,List.getElem?_append_right (by omega),Nat.add_sub_cancel_left,List.getElem?_append_left hi,Zy hi]
   rfl
  rw [show (xs.map enc).length=xs.toArray.size by simp]
  have hc:=AnyQ.slices_SortFunc L k aE zE enc hk h1 cf hO g #[] b o cp xs.toArray w eg (λm os dk _ x y=>grow_of (hc x y) _) hH hlt (by simp; omega)
  refine Calls.mono hc λe w' ⟨h1,d',n,os,hp,hs,h2⟩=>?_
  obtain ⟨ys,rfl⟩:∃ ys:List α,d'=ys.toArray:=⟨d'.toList,by simp⟩
  have hsz:ys.length=xs.length:=by simpa using hp.1
  have hperm:ys.Perm xs:=by
   have:=hp.2.2
   simp only [List.size_toArray,List.extract_toArray,List.extract_eq_take_drop] at this
   rw [<- hsz] at this
   simp only [List.drop_zero,Nat.sub_zero,List.take_length] at this
   rwa [hsz,List.take_length] at this
  have hpair:ys.Pairwise (λa b=>cf b a<0->False):=by
   rw [List.pairwise_iff_getElem]
   intro i j hi hj hij hlt0
   have:=hs i j (Nat.zero_le _) hij (by simp; omega)
   rw [getElem!_pos ys.toArray i Zi,getElem!_pos ys.toArray j Zg] at this
   simp only [List.getElem_toArray,ltOf,decide_eq_false_iff_not] at this
   exact this hlt0
  have hF:(ys.map enc).flatten.length=(xs.map enc).flatten.length:=by
   have e1:∀ zs:List α,(zs.map enc).flatten.length=zs.length * k:=λzs=>by
    induction zs with
    | nil=>simp
    | cons x t ih=>rw [List.map_cons,List.flatten_cons,List.length_append,hk,ih,List.length_cons,Nat.add_mul]; omega
   rw [e1,e1,hsz]
  have hheap:w'.heap=(w.heap.modify b<|Sort.onCells<|Sort.putCells id o (ys.map enc).flatten.toArray)++os:=by
   rw [h2,<- A9 hk]; rfl
  have hb':w'.heap[b]? = some (cl (pre++((ys.map enc).flatten++j)) E):=by
   rw [hheap,Array.getElem?_append_left (by simpa using hlt),Array.getElem?_modify,if_pos rfl,hb]
   simp only [Option.map_some,Sort.onCells,cl]
   rw [<- hpre,IP hF]
  have ho:∀ c,c≠b->c<w.heap.size->w'.heap[c]? = w.heap[c]? := λc hc hlt2=>by
   rw [hheap,Array.getElem?_append_left (by simpa using hlt2),Array.getElem?_modify,if_neg (λe=>hc e.symm)]
  refine ⟨.tuple #[],_,h1,⟨Z,ys,hperm,hpair,Z⟩,⟨⟨?_,.inr ⟨b,o,cp,pre,j,by simp [hsz],hb',hpre,by simpa [hsz] using hc1,hc2,by rw [List.length_append,hF,<- List.length_append]; exact hc3⟩⟩,λc ⟨o',m',cp',he⟩=>?_,bi.loc hh.2.2 λc hc=>?_⟩,⟨by rw [h2]; rfl,by rw [h2]; rfl,by rw [h2]; rfl,by rw [h2]; exact Nat.le_add_right _ _,by rw [hheap]; simp,λa ha=>?_⟩⟩
  ·simp only [List.mem_map]; rintro r ⟨x,-,rfl⟩; exact hk x
  ·cases he
   exact hh.2.1 b ⟨o,_,cp,Z⟩
  ·exact (ho c (λe=>hh.2.1 b ⟨o,_,cp,Z⟩ (e ▸ hc))<|Holds.lt (h:=hr) hh.2.2 hc).symm
  ·unfold World.frozen?
   by_cases hab:a.block=b
   ·rw [hab,hb',hb]; rfl
   ·rw [ho _ hab ha]
end Go.Ck
namespace Go.Ck
open Go Go.RowKit
theorem lU {pre R j vs:List Value} {k:Nat} (hk:k+vs.length≤R.length):splice (pre++(R++j)) (pre.length+k) vs=pre++(splice R k vs++j):=by
 unfold splice
 rw [List.take_length_add_append,List.take_append_of_le_length (by omega),show pre.length+k+vs.length=pre.length+(k+vs.length) by omega,List.drop_length_add_append,List.drop_append_of_le_length hk]
 simp only [List.append_assoc]
theorem jZ {sz:Nat} {rows:List (List Value)} (h:∀ r∈rows,r.length=sz):rows.flatten.length=rows.length * sz:=by
 induction rows with
 | nil=>simp
 | cons r t ih =>
  rw [List.flatten_cons,List.length_append,ih λq hq=>h q (by simp [hq]),h r (by simp),List.length_cons,Nat.add_mul]
  omega
section
variable {c:Cx} {ops:Array Oper} {K:Act->World->Prop} {rest:List Oper} {e:Env} {h h' hr:SH}
theorem IQ {T E : TypeId} {x y : Operand} {ty : TypeId} {pos : String} {after : Array Edge} {b o n cp m sz : Nat} {rows : List (List Value)} {vs : List Value}
  (hx:e.ev? x=some (.pointer<|some ⟨b,o+m * sz,none⟩)) (hy:e.ev? y=some (.agg vs.toArray)) (hT:Sz c.P T sz) (hn:vs.length=sz) (h1:∀ v∈vs,v.oneCell'=true) (hm:m<rows.length) (hs:Sel h (VR (.slice (some ⟨b,o,none⟩) n cp) E sz rows) h')
  (hnx:St c ops K rest e (VR (.slice (some ⟨b,o,none⟩) n cp) E sz (rows.set m vs)::h')) :
  St c ops K (⟨none,.store T x y,ty,pos,after,none⟩::rest) e h:=λa w hk hh hs'=>by
 obtain ⟨⟨g1,g2⟩,hd,ht⟩:=hh.sel hs
 rcases g2 with ⟨h3,_⟩ | ⟨b',o',cp',pre,j,h3,hb,hp,hc1,hc2,hc3⟩
 ·cases h3
 ·cases h3
  have hfl:=jZ g1
  have hle:m * sz+sz≤rows.flatten.length:=by
   rw [hfl]
   have:=Nat.mul_le_mul_right sz (show m+1≤rows.length from hm)
   rw [Nat.add_mul] at this; omega
  have hpt:Holds w (pt b (cl (pre++(rows.flatten++j)) E)::h'):=⟨hb,λc hc=>by rw [show c=b from hc]; exact hd b ⟨o,_,cp,rfl⟩,ht⟩
  refine ik (h:=pt b (cl (pre++(rows.flatten++j)) E)::h') hx hy hT hn h1 .here (by simp only [List.length_append]; omega) ?_ a w hk hpt hs'
  subst hp
  rw [lU (by omega),mH hn g1 hm]
  intro a w hk hh hw
  refine hnx a w hk ⟨⟨λq hq=>?_,.inr ⟨b,pre.length,cp,pre,j,by rw [List.length_set],hh.1,Z,by rw [List.length_set]; exact hc1,hc2,?_⟩⟩,λc hc=>?_,hh.2.2⟩ hw
  ·rcases List.mem_or_eq_of_mem_set hq with hq | rfl
   ·exact g1 q hq
   ·exact hn
  ·have:(rows.set m vs).flatten.length=rows.flatten.length:=by
    rw [jZ (sz:=sz) λq hq=>?_,hfl,List.length_set]
    rcases List.mem_or_eq_of_mem_set hq with hq | rfl
    ·exact g1 q hq
    ·exact hn
   rw [List.length_append,this,<- List.length_append]; exact hc3
  ·obtain ⟨o2,_,cp2,h4⟩:=hc
   cases h4
   exact hh.2.1 b Z
theorem Dc {z:Array Value} {sz n:Nat} (hz:z.size=sz):(Builtin.zeroCells z n).toList=(List.replicate n z.toList).flatten:=by
 have hl:(List.replicate n z.toList).flatten.length=n * sz:=by simp [hz]
 apply List.ext_getElem
 ·rw [hl]; simp [Builtin.zeroCells,hz]
 ·intro i h1 h2
  have h3:i<n * sz:=by rw [hl] at h2; exact h2
  have s0:0<sz:=Nat.pos_of_ne_zero λh=>by rw [h] at h3; simp at h3
  have hm:i / sz<n:=Nat.div_lt_of_lt_mul (by rw [Nat.mul_comm]; exact h3)
  have hk:i % sz<z.toList.length:=by simp [hz]; exact Nat.mod_lt _ s0
  have h4:=o6 (rows:=List.replicate n z.toList) (sz:=sz) (m:=i / sz) (k:=i % sz) (r:=z.toList) (x:=z.toList[i % sz]) (λr hr=>by rw [List.eq_of_mem_replicate hr]; simpa using hz) (by rw [List.getElem?_replicate,if_pos hm])<|Zy hk
  rw [Nat.div_add_mod' i sz,Zy h2] at h4
  rw [Option.some.inj h4]
  simp [Builtin.zeroCells,hz]
  exact getElem!_pos z _ _
theorem um {T E ty S : TypeId} {x : Operand} {pos : String} {after : Array Edge} {z : Value} {bytes b o n cp cp' m sz : Nat} {rows : List (List Value)} (hx : e.ev? x = some (.slice (some ⟨b, o + m * sz, none⟩) (rows.length - m) cp')) (hT : c.P.underlying T = some (.slice E)) (hE : Inf c.P E z sz bytes)
  (hz:z.cells.size=sz) (hz1:∀ v∈z.cells.toList,v.oneCell'=true) (hm:m<rows.length) (hs:Sel h (VR (.slice (some ⟨b,o,none⟩) n cp) S sz rows) h')
  (hnx:St c ops K rest e (VR (.slice (some ⟨b,o,none⟩) n cp) S sz (rows.take m++List.replicate (rows.length - m) z.cells.toList)::h')) :
  St c ops K (⟨none,.call { callee:=.builtin .clear,args := #[x],argTypes := #[T] },ty,pos,after,none⟩::rest) e h:=by
 refine ek (by simp) λa w hk hh hw=>?_
 obtain ⟨⟨g1,g2⟩,hd,ht⟩:=hh.sel hs
 rcases g2 with ⟨h3,_⟩ | ⟨b',o',cp2,pre,j,h3,hb,hp,hc1,hc2,hc3⟩
 ·cases h3
 ·cases h3
  obtain ⟨ie,h1,h2,h3,h4⟩:=hE.parts
  have hfl:=jZ g1
  have hpt:Holds w (pt b (cl (pre++(rows.flatten++j)) S)::h'):=⟨hb,λc hc=>by rw [show c=b from hc]; exact hd b ⟨o,_,cp,rfl⟩,ht⟩
  have hg:w.heap[b]? = some (.cells (pre++(rows.flatten++j)).toArray S (0,0)):=hb
  have hzero:(zeroValue E).run c.P w = .ok z w:=by simp [zeroValue,typeInfo,h1,h2]
  have hR:∀ r∈rows.take m++List.replicate (rows.length - m) z.cells.toList,r.length=sz:=by
   intro r hr
   rcases List.mem_append.1 hr with hr | hr
   ·exact g1 r<|List.mem_of_mem_take hr
   ·rw [List.eq_of_mem_replicate hr]; simpa using hz
  have hRl:(rows.take m++List.replicate (rows.length - m) z.cells.toList).length=rows.length:=by
   rw [List.length_append,List.length_take,List.length_replicate]; omega
  have hzc:=Dc (n:=rows.length - m) hz
  have hzl:(Builtin.zeroCells z.cells (rows.length - m)).toList.length=(rows.length - m) * sz:=by rw [hzc]; simp [hz]
  have hms:m * sz+(rows.length - m) * sz=rows.length * sz:=by rw [<- Nat.add_mul]; congr 1; omega
  have hsp:splice (pre++(rows.flatten++j)) (o+m * sz) (Builtin.zeroCells z.cells (rows.length - m)).toList=pre++((rows.take m++List.replicate (rows.length - m) z.cells.toList).flatten++j):=by
   rw [<- hp,lU (by rw [hzl,hfl]; omega)]
   unfold splice
   rw [hzl,hms,<- hfl,List.drop_length,List.append_nil,hzc,List.flatten_append]
   congr 3
   have h5:rows.flatten=(rows.take m).flatten++(rows.drop m).flatten:=by rw [<- List.flatten_append,List.take_append_drop]
   have h6:(rows.take m).flatten.length=m * sz:=by
    rw [jZ (sz:=sz) λr hr=>g1 r (List.mem_of_mem_take hr),List.length_take,Nat.min_eq_left (by omega)]
   rw [h5,List.take_append_of_le_length (by omega),<- h6,List.take_length]
  have hst:=run_storeCells_at c.P b (o+m * sz) S (Builtin.zeroCells z.cells (rows.length - m)).toList 0 (pre++(rows.flatten++j)).toArray w hg (by simp only [List.size_toArray,List.length_append]; omega) (λv hv=>by
   rw [hzc] at hv
   obtain ⟨r,hr,hv⟩:=List.mem_flatten.1 hv
   rw [List.eq_of_mem_replicate hr] at hv
   exact hz1 v hv)
  simp only [Nat.add_zero] at hst
  have hcl:(Builtin.clear_ #[T] ty #[.slice (some ⟨b,o+m * sz,none⟩) (rows.length - m) cp']).run c.P w = .ok (.tuple #[]) (w.setRow b (splice (pre++(rows.flatten++j)) (o+m * sz) (Builtin.zeroCells z.cells (rows.length - m)).toList).toArray):=by
   unfold Builtin.clear_
   generalize hq:rows.length - m=q at hst hzl ⊢
   cases q with
   | zero=>omega
   | succ q=>simp [run_underlying hT,hzero,hst,splice]
  simp only [execOp,resolve,invoke,builtin,hk.ev hx,Sem.run_bind,Sem.run_pure,Result.andThen_ok,List.map_toArray,List.map_cons,List.map_nil,hcl]
  have hH:=Holds.setRow hpt<|splice (pre++(rows.flatten++j)) (o+m * sz) (Builtin.zeroCells z.cells (rows.length - m)).toList
  rw [hsp] at hH ⊢
  refine hnx _ _ hk ⟨⟨hR,.inr ⟨b,o,cp,pre,j,by rw [hRl],hH.1,hp,by rw [hRl]; exact hc1,hc2,?_⟩⟩,λc hc=>?_,hH.2.2⟩<|hw.trans<|Same.setRow _ _ _ hb
  ·rw [List.length_append,jZ hR,hRl,<- hfl,<- List.length_append]; exact hc3
  ·obtain ⟨o2,_,cp2,h4⟩:=hc
   cases h4
   exact hH.2.1 b Z
end
theorem Et {L K:SH} {a X:Res} (s:Sel L a K) (p:Addr) (u:Value) (h:Rd (Res.star [a,X]) p u):Rd (Res.star (L++[X])) p u:=λw hw=>by
 have h1:bi (hp w) ((L++[X])++[]):=dx.1 ⟨hw,λb _ hb=>hb,trivial⟩
 have h2:(L++[X]).Perm ([a,X]++K):=by
  have h3:(L++[X]).Perm ((a::K)++[X]):=s.perm.append_right [X]
  refine h3.trans ?_
  show (a::(K++[X])).Perm (a::(X::K))
  exact .cons _<|List.perm_append_comm (l₁ := K) (l₂ := [X])
 rw [List.append_nil] at h1
 have h4:=(bi.perm h2).1 h1
 have h5:bi (hp w) (Res.star [a,X]::K):=dx.2 h4
 exact h w h5.1
section
variable {c:Cx} {ops:Array Oper} {K:Act->World->Prop} {rest:List Oper} {e:Env} {h h' hr:SH} {Q:Exit->Act->World->Prop} {x:Code} {ex:Exit} {X:Res}
theorem pO (L:SH) (X:Res) (hn:∀ Y,Ext X Y->(∀ r L',Sel L r L'->∀ p u,Rd r p u->Rd Y p u)->(∀ r L',Sel L r L'->∀ p u,Rd (Res.star [r,X]) p u->Rd Y p u)->Xt c ex Q e (Y::hr)) (p:Pk h (L++[X]) hr:=by repeat (first | exact Pk.nil | (apply Pk.cons; (repeat (first | exact Sel.here | apply Sel.there))))):Xt c ex Q e h :=
 jC (ug p) (hn _ (Ext.packs X L) (λ_ _ s p u h=>fP s p u h) λ_ _ s p u h=>Et s p u h)
theorem cd_abs2 (L:SH) (X:Res) (hn:∀ Y,Ext X Y->(∀ r L',Sel L r L'->∀ p u,Rd r p u->Rd Y p u)->(∀ r L',Sel L r L'->∀ p u,Rd (Res.star [r,X]) p u->Rd Y p u)->Cd c x Q e (Y::hr)) (p:Pk h (L++[X]) hr:=by repeat (first | exact Pk.nil | (apply Pk.cons; (repeat (first | exact Sel.here | apply Sel.there))))):Cd c x Q e h :=
 dK (ug p) (hn _ (Ext.packs X L) (λ_ _ s p u h=>fP s p u h) λ_ _ s p u h=>Et s p u h)
theorem Km (L:SH) (X:Res) (hn:∀ Y,Ext X Y->(∀ r L',Sel L r L'->∀ p u,Rd r p u->Rd Y p u)->(∀ r L',Sel L r L'->∀ p u,Rd (Res.star [r,X]) p u->Rd Y p u)->St c ops K rest e (Y::hr)) (p:Pk h (L++[X]) hr:=by repeat (first | exact Pk.nil | (apply Pk.cons; (repeat (first | exact Sel.here | apply Sel.there))))):St c ops K rest e h :=
 qg (ug p) (hn _ (Ext.packs X L) (λ_ _ s p u h=>fP s p u h) λ_ _ s p u h=>Et s p u h)
end
theorem mM {α : Type} {c:Cx} {x:Code} {ex:Exit} {Q:Exit->Act->World->Prop} {e:Env} {h:SH} (E : α -> Env) (H : α -> SH) (h1:(∀ q e' h',Env.sub (E q) e'->Sub (H q) h'->Xt c ex Q e' h')->Cd c x Q e h) (h2:∀ q,Xt c ex Q (E q) (H q)):Cd c x Q e h :=
 h1 λq _ _ s1 s2 a w hk hh hw=>h2 q a w (hk.weaken s1) (hh.sub s2) hw
section
variable {c:Cx} {ops:Array Oper} {K:Act->World->Prop} {rest:List Oper} {e:Env} {h h' hr:SH}
theorem st_vrS {T E : TypeId} {x y : Operand} {ty : TypeId} {pos : String} {after : Array Edge} {b o n cp m sz k k0 : Nat} {rows : List (List Value)} {r vs : List Value}
  (hx:e.ev? x=some (.pointer<|some ⟨b,o+m * sz+k,none⟩)) (hy:e.ev? y=some (.agg vs.toArray)) (hT:Sz c.P T k0) (hn:vs.length=k0) (h1:∀ v∈vs,v.oneCell'=true) (hr:rows[m]? = some r) (hk:k+k0≤sz) (hs:Sel h (VR (.slice (some ⟨b,o,none⟩) n cp) E sz rows) h')
  (hnx:St c ops K rest e (VR (.slice (some ⟨b,o,none⟩) n cp) E sz (rows.set m<|splice r k vs)::h')) :
  St c ops K (⟨none,.store T x y,ty,pos,after,none⟩::rest) e h:=λa w hk' hh hs'=>by
 obtain ⟨⟨g1,g2⟩,hd,ht⟩:=hh.sel hs
 rcases g2 with ⟨h3,_⟩ | ⟨b',o',cp',pre,j,h3,hb,hp,hc1,hc2,hc3⟩
 ·cases h3
 ·cases h3
  have hfl:=jZ g1
  obtain ⟨hm,hrm⟩:=List.getElem?_eq_some_iff.1 hr
  have hrl:r.length=sz:=g1 r<|List.mem_of_getElem? hr
  have hle:m * sz+sz≤rows.flatten.length:=by
   rw [hfl]
   have:=Nat.mul_le_mul_right sz (show m+1≤rows.length from hm)
   rw [Nat.add_mul] at this; omega
  have hpt:Holds w (pt b (cl (pre++(rows.flatten++j)) E)::h'):=⟨hb,λc hc=>by rw [show c=b from hc]; exact hd b ⟨o,_,cp,rfl⟩,ht⟩
  have hsl:(splice r k vs).length=sz:=by unfold splice; simp; omega
  have hsp:splice rows.flatten (m * sz+k) vs=(rows.set m<|splice r k vs).flatten:=by
   rw [<- mH hsl g1 hm]
   have e1:rows.flatten=(rows.take m).flatten++(r++(rows.drop (m+1)).flatten):=by
    have:rows=rows.take m++r::rows.drop (m+1):=by rw [<- hrm,List.getElem_cons_drop,List.take_append_drop]
    have h5:=congrArg List.flatten this
    rwa [List.flatten_append,List.flatten_cons] at h5
   have e2:(rows.take m).flatten.length=m * sz:=by
    rw [jZ (sz:=sz) λq hq=>g1 q (List.mem_of_mem_take hq),List.length_take,Nat.min_eq_left (by omega)]
   rw [e1,<- e2,lU (by omega)]
   have e3:splice ((rows.take m).flatten++(r++(rows.drop (m+1)).flatten)) (rows.take m).flatten.length (splice r k vs)=(rows.take m).flatten++(splice r 0 (splice r k vs)++(rows.drop (m+1)).flatten):=lU (k:=0)<|by omega
   have e4:splice r 0 (splice r k vs)=splice r k vs:=by
    have:splice r 0 (splice r k vs)=r.take 0++splice r k vs++r.drop (0+(splice r k vs).length):=rfl
    rw [this,Nat.zero_add,hsl,<- hrl,List.drop_length,List.take_zero,List.nil_append,List.append_nil]
   rw [e3,e4]
  refine ik (h:=pt b (cl (pre++(rows.flatten++j)) E)::h') hx hy hT hn h1 .here (by simp only [List.length_append]; omega) ?_ a w hk' hpt hs'
  subst hp
  rw [Nat.add_assoc,lU (by omega),hsp]
  intro a w hk hh hw
  have hG:∀ q∈rows.set m (splice r k vs),q.length=sz:=λq hq=>by
   rcases List.mem_or_eq_of_mem_set hq with hq | rfl
   ·exact g1 q hq
   ·exact hsl
  refine hnx a w hk ⟨⟨hG,.inr ⟨b,pre.length,cp,pre,j,by rw [List.length_set],hh.1,Z,by rw [List.length_set]; exact hc1,hc2,?_⟩⟩,λc hc=>?_,hh.2.2⟩ hw
  ·have:(rows.set m<|splice r k vs).flatten.length=rows.flatten.length:=by
    rw [jZ hG,hfl,List.length_set]
   rw [List.length_append,this,<- List.length_append]; exact hc3
  ·obtain ⟨o2,_,cp2,h4⟩:=hc
   cases h4
   exact hh.2.1 b Z
end
end Go.Ck
