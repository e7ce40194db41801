/-
  Package flat: comes,as an iterator. Conditions: what is read; as many actual types as formals.
-/
import Derived.Test.YtknmacdbffgjgaaGreatDoorM15
set_option linter.unusedVariables false
set_option linter.unusedSimpArgs false
set_option maxRecDepth 100000
set_option maxHeartbeats 16000000
namespace Go.Fl
open Go Go.RowKit Go.Ck Go.Proofs Go.Proofs.Tryz Go.Proofs.YtknmacdbffgjgaaGreatDoor Fx Go.Hr
attribute [local irreducible] Go.Ck.Sub St Cd Xt Nx DrL LsW
section
variable {X:Res} {v v':Value} {us us':List Value}
theorem nY {P:Program} {k:FuncId} {args:Array Value} {hf:SH} {E:TypeId} {sz:Nat} {Q:Value→List (List Value)→Prop} (h:CtN P k args hf fun u T=>∃ rows,T=VR u E sz rows∧Q u rows) :
  CtN P k args hf fun u T=>∃ rows,T=VR u E sz rows∧Q u rows∧∃ a cp,u = .slice a rows.length cp:=fun hr w hh =>
 (h hr w hh).mono fun _ _ ⟨u,h',he,⟨T,hT,rows,hR,hQ⟩,hH,hS⟩=>by
  subst hT hR
  refine ⟨u,_,he,⟨_,Z,rows,Z,hQ,?_⟩,hH,hS⟩
  rcases VR.form hH.1 with ⟨rfl,rfl⟩ | ⟨b,o,cp,rfl,_⟩
  ·exact ⟨none,0,Z⟩
  ·exact ⟨_,cp,Z⟩
theorem gq {c:FC} (h:Enc.rep X us c):∃ a b e f i,us=[sv c.name,.bool c.dfd,a,b,e,f,i]∧Ls X a c.forms∧Ls X b c.pars∧e.oneCell'=true∧Ls X f c.feats∧Ls X i c.inv:=h
def AV (f:Fe) (x2 x3 y x9 x10 x11 x12 x13 x14:Value):List Value:=[.int .i64 f.kind,sv f.name,x2,x3,.int .i64 f.ty.kind,sv f.ty.name,y,.bool f.ty.void,.bool f.ty.sep,x9,x10,x11,x12,x13,x14]
theorem mV {f:Fe} (h:Enc.rep X us f):∃ x2 x3 y x9 x10 x11 x12 x13 x14,us=AV f x2 x3 y x9 x10 x11 x12 x13 x14∧Ls X x2 f.clients∧Ls X x3 f.args∧Tys X y f.ty.args∧Ls X x10 f.req∧Ls X x11 f.ens∧[x9,x12,x13,x14].all Value.oneCell'=true:=by
 obtain ⟨x2,x3,ts,x9,x10,x11,x12,x13,x14,rfl,h2,h3,h4,h5,h6,h7⟩:=h
 obtain ⟨y,rfl,hy⟩:=ek h4
 exact ⟨x2,x3,y,x9,x10,x11,x12,x13,x14,Z,h2,h3,hy,h5,h6,h7⟩
theorem Ei {Y:Res} {b:Nat} {n:Nm} {y:Value} {cs:List Cla} (h:Ls Y y cs) (hr:∀ p u,Rd (pt b (cl [sv n,y] 170)) p u→Rd Y p u):Ls Y (.slice (some ⟨b,0,none⟩) 1 1) [(⟨n,cs⟩:Grp)]:=
 jo (ux:=[sv n,y]) ⟨y,rfl,h⟩ (fun i hi=>hr _ _ (af i hi)) (by decide)
def preL (c:FC) (f:Fe):List Grp:=[⟨c.name,f.req⟩]
def iq (c:FC) (f:Fe):List Grp:=if f.ens=[] then [] else [⟨c.name,f.ens⟩]
def p9 (c:FC) (f:Fe):List Grp:=if f.req=[] then [] else [⟨c.name,f.req⟩]

theorem own_ct {c : FC} {f : Fe} {l : List Cm} {uc uf : List Value} (hc : Enc.rep X uc c) (hf : Enc.rep X uf f) (hv : Ls X v l) (hbS : (mU l).length * 32 ≤ 1099511627776) (hbP : (l.flatMap fun x => x.mem.pre).length * 40 ≤ 1099511627776) (hbQ : (l.flatMap fun x => x.mem.post).length * 40 ≤ 1099511627776) :
  CtX prog 123 #[.agg uc.toArray,.agg uf.toArray,v] X [] fun u Y k'=>k'=[]∧∃ us',u = .agg us'.toArray∧Enc.rep Y us' (jH c f l):=by
 have hml:maxLen=9223372036854775807:=rfl
 have hrb:reachBytes=140737488351232:=rfl
 obtain ⟨a,cap,rfl,hlc,hcm,_⟩:=id hv.form
 obtain ⟨ca,cb,ce,cf,ci,rfl,hca,hcb,hce,hcf,hci⟩:=gq hc
 obtain ⟨x2,x3,y,x9,x10,x11,x12,x13,x14,rfl,h2,h3,hy,h10,h11,h9⟩:=mV hf
 unfold AV
 obtain ⟨a2,k2,rfl,_⟩:=id h2.form
 obtain ⟨a3,k3,rfl,_⟩:=id h3.form
 obtain ⟨ay,ky,rfl,_⟩:=id hy.form
 obtain ⟨a10,k10,rfl,_⟩:=id h10.form
 obtain ⟨a11,k11,rfl,_⟩:=id h11.form
 unfold CtX
 refine aL (n:=79) func123 Z Z (len Z) fun hr w0=>?_
 refine cQ (aV Z Z fun b3=>?_)
 refine aV Z Z fun b4=>?_
 refine au jQ fun b6=>?_
 refine sN (nK9 [2,3,4,6] Z (nT (cS (mE (ex:=.normal) (α := {q:Nat×(Option Addr×Nat)×(Option Addr×Nat)×Res // Ext X q.2.2.2∧Ls q.2.2.2 (.slice q.2.1.1 f.args.length q.2.1.2) f.args∧Ls q.2.2.2 (.slice q.2.2.1.1 f.clients.length q.2.2.1.2) f.clients}) (fun q=>[(2,.slice a l.length cap),(3,.pointer (some ⟨b3,0,none⟩)),(4,.pointer (some ⟨b4,0,none⟩)),(6,.pointer (some ⟨b6,0,none⟩)),(7,.pointer (some ⟨q.1.1,0,none⟩))]) (fun q=>pt b6 (cl [.string ⟨#[]⟩,.int .i64 0,.slice none 0 0,.string ⟨#[]⟩,.string ⟨#[]⟩,.slice none 0 0,.int .i64 0,.string ⟨#[]⟩,.slice none 0 0,.bool false,.bool false,.slice none 0 0,.slice none 0 0,.slice none 0 0] 75)::pt q.1.1 (cl [sv f.name,.int .i64 f.kind,.slice none 0 0,sv c.name,sv f.name,.slice q.1.2.1.1 f.args.length q.1.2.1.2,.int .i64 f.ty.kind,sv f.ty.name,.slice ay f.ty.args.length ky,.bool f.ty.void,.bool f.ty.sep,.slice q.1.2.2.1.1 f.clients.length q.1.2.2.1.2,.slice none 0 0,.slice none 0 0] 75)::pt b3 (cl [sv c.name,.bool c.dfd,ca,cb,ce,cf,ci] 44)::pt b4 (cl [.int .i64 f.kind,sv f.name,.slice a2 f.clients.length k2,.slice a3 f.args.length k3,.int .i64 f.ty.kind,sv f.ty.name,.slice ay f.ty.args.length ky,.bool f.ty.void,.bool f.ty.sep,x9,.slice a10 f.req.length k10,.slice a11 f.ens.length k11,x12,x13,x14] 130)::q.1.2.2.2::hr) (fun hcont=>?_) (fun q=>?_)))))
 ·refine bB (ork [(0,2),(1,1),(2,2),(3,1),(4,2),(5,1),(6,2),(7,1),(8,2),(9,2),(10,1),(12,2),(13,1),(14,2),(15,1)] (.two 11 (.two 16 (ork [(17,2),(18,0),(19,0)] .nil) 18 (ork [(16,0),(17,2),(19,0)] .nil)) 18 (ork [(11,0),(16,0),(17,2),(19,0)] .nil))) (fun i => !(Nat.beq i 19)) mixed (by kernel_rfl) ?_
  refine dV Z (vF Z oJ Z) (bu Z (vY Z ld9) ?_)
  refine dV Z (vF Z uU Z) (bu Z (vY Z ld3) ?_)
  refine dV Z (vF Z dH Z) (bu Z (vY Z ld9) ?_)
  refine dV Z (vF Z oJ Z) (bu Z (vY Z ld9) ?_)
  refine dV Z (aN (cells:=[sv c.name,sv f.name]) Z (fun _=>by kernel_rfl)) ?_
  refine dV Z (vF Z rz Z) (bu Z (vY Z sF) ?_)
  refine dV Z (vF Z za Z) (bu Z (ag Z fQ Z (bF (us:=[.int .i64 f.kind,sv f.name,.slice a2 f.clients.length k2,.slice a3 f.args.length k3,.int .i64 f.ty.kind,sv f.ty.name,.slice ay f.ty.args.length ky,.bool f.ty.void,.bool f.ty.sep,x9,.slice a10 f.req.length k10,.slice a11 f.ens.length k11,x12,x13,x14]) (vs:=[.int .i64 f.ty.kind,sv f.ty.name,.slice ay f.ty.args.length ky,.bool f.ty.void,.bool f.ty.sep]) (k:=4) af Z)) ?_)
  refine dV Z (vF Z Jz Z) (bu Z (vY Z fH) ?_)
  refine mH Z Z ?_ ?_
  ·refine aH Z Z en200 Z (nY (qX h3)) ?_
   rintro u h1 ⟨T1,rfl,rows1,rfl,⟨o1,w1⟩,ua,uk,hu⟩
   rw [w1.1] at hu; subst hu
   simp only [lC,lN]
   refine aW ?_
   refine mH Z Z ?_ ?_
   ·refine aH Z Z JO Z (nY (mD h2)) ?_
    rintro u h2 ⟨T2,rfl,rows2,rfl,⟨o2,w2⟩,va,vk,hu⟩
    rw [w2.1] at hu; subst hu
    simp only [lC,lN]
    refine aW ?_
    refine dV Z (aN (cells:=[sv f.name,.int .i64 f.kind,.slice none 0 0,sv c.name,sv f.name,.slice ua f.args.length uk,.int .i64 f.ty.kind,sv f.ty.name,.slice ay f.ty.args.length ky,.bool f.ty.void,.bool f.ty.sep,.slice va f.clients.length vk,.slice none 0 0,.slice none 0 0]) Z (fun _=>by kernel_rfl)) ?_
    refine aQ Z (au jQ fun b7=>aW ?_)
    refine aQ Z (ai Z Z iD Z Z (aW ?_))
    refine bA (nK9 [2,3,4,6,7] Z (ax (dS (r:=VR (.slice ua f.args.length uk) 132 6 rows1) slq fun hok1=>?_)))
    refine dS (r:=VR (.slice va f.clients.length vk) 9 1 rows2) slq fun hok2=>?_
    refine iy [VR (.slice ua f.args.length uk) 132 6 rows1,VR (.slice va f.clients.length vk) 9 1 rows2] X fun Y hE hsel=>?_
    exact hcont ⟨(b7,(ua,uk),(va,vk),Y),hE,Rws.ls (E:=132) (w1.up hE) hok1 (hsel _ _ .here) h3.sizes,Rws.ls (E:=9) (w2.up hE) hok2 (hsel _ _ (.there .here)) h2.sizes⟩ _ _ ⟨Z,Z,Z,Z,Z,trivial⟩ sbq
   ·refine au jQ fun b7=>aW ?_
    refine aQ Z (aH Z Z JO Z (nY (mD h2)) ?_)
    rintro u h2 ⟨T2,rfl,rows2,rfl,⟨o2,w2⟩,va,vk,hu⟩
    rw [w2.1] at hu; subst hu
    simp only [lC,lN]
    refine aW ?_
    refine dV Z (aN (cells:=[sv f.name,.int .i64 f.kind,.slice none 0 0,sv c.name,sv f.name,.slice ua f.args.length uk,.int .i64 f.ty.kind,sv f.ty.name,.slice ay f.ty.args.length ky,.bool f.ty.void,.bool f.ty.sep,.slice va f.clients.length vk,.slice none 0 0,.slice none 0 0]) Z (fun _=>by kernel_rfl)) ?_
    refine aQ Z (ai Z Z iD Z Z (aW ?_))
    refine bA (nK9 [2,3,4,6,7] Z (ax (dS (r:=VR (.slice ua f.args.length uk) 132 6 rows1) slq fun hok1=>?_)))
    refine dS (r:=VR (.slice va f.clients.length vk) 9 1 rows2) slq fun hok2=>?_
    refine iy [VR (.slice ua f.args.length uk) 132 6 rows1,VR (.slice va f.clients.length vk) 9 1 rows2] X fun Y hE hsel=>?_
    exact hcont ⟨(b7,(ua,uk),(va,vk),Y),hE,Rws.ls (E:=132) (w1.up hE) hok1 (hsel _ _ .here) h3.sizes,Rws.ls (E:=9) (w2.up hE) hok2 (hsel _ _ (.there .here)) h2.sizes⟩ _ _ ⟨Z,Z,Z,Z,Z,trivial⟩ sbq
  ·refine au jQ fun b7=>aW ?_
   refine aQ Z (aH Z Z en200 Z (nY (qX h3)) ?_)
   rintro u h1 ⟨T1,rfl,rows1,rfl,⟨o1,w1⟩,ua,uk,hu⟩
   rw [w1.1] at hu; subst hu
   simp only [lC,lN]
   refine aW ?_
   refine aQ Z (aH Z Z JO Z (nY (mD h2)) ?_)
   rintro u h2 ⟨T2,rfl,rows2,rfl,⟨o2,w2⟩,va,vk,hu⟩
   rw [w2.1] at hu; subst hu
   simp only [lC,lN]
   refine aW ?_
   refine dV Z (aN (cells:=[sv f.name,.int .i64 f.kind,.slice none 0 0,sv c.name,sv f.name,.slice ua f.args.length uk,.int .i64 f.ty.kind,sv f.ty.name,.slice ay f.ty.args.length ky,.bool f.ty.void,.bool f.ty.sep,.slice va f.clients.length vk,.slice none 0 0,.slice none 0 0]) Z (fun _=>by kernel_rfl)) ?_
   refine aQ Z (ai Z Z iD Z Z (aW ?_))
   refine bA (nK9 [2,3,4,6,7] Z (ax (dS (r:=VR (.slice ua f.args.length uk) 132 6 rows1) slq fun hok1=>?_)))
   refine dS (r:=VR (.slice va f.clients.length vk) 9 1 rows2) slq fun hok2=>?_
   refine iy [VR (.slice ua f.args.length uk) 132 6 rows1,VR (.slice va f.clients.length vk) 9 1 rows2] X fun Y hE hsel=>?_
   exact hcont ⟨(b7,(ua,uk),(va,vk),Y),hE,Rws.ls (E:=132) (w1.up hE) hok1 (hsel _ _ .here) h3.sizes,Rws.ls (E:=9) (w2.up hE) hok2 (hsel _ _ (.there .here)) h2.sizes⟩ _ _ ⟨Z,Z,Z,Z,Z,trivial⟩ sbq
 obtain ⟨⟨b7,⟨ua,uk⟩,⟨va,vk⟩,Y⟩,hE,hYa,hYc⟩:=q
 dsimp only at hE hYa hYc ⊢
 have hY10:=h10.up hE
 have hY11:=h11.up hE
 refine xT (cS (mE (ex:=.normal) (α := {q:Value×Value×Res // Ext Y q.2.2∧Ls q.2.2 q.1 (preL c f)∧Ls q.2.2 q.2.1 ([⟨c.name,f.ens⟩]:List Grp)}) (fun q=>[(2,.slice a l.length cap),(3,.pointer (some ⟨b3,0,none⟩)),(4,.pointer (some ⟨b4,0,none⟩)),(6,.pointer (some ⟨b6,0,none⟩)),(7,.pointer (some ⟨b7,0,none⟩)),(8,q.1.1),(9,q.1.2.1)]) (fun q=>pt b6 (cl [.string ⟨#[]⟩,.int .i64 0,.slice none 0 0,.string ⟨#[]⟩,.string ⟨#[]⟩,.slice none 0 0,.int .i64 0,.string ⟨#[]⟩,.slice none 0 0,.bool false,.bool false,.slice none 0 0,.slice none 0 0,.slice none 0 0] 75)::pt b7 (cl [sv f.name,.int .i64 f.kind,.slice none 0 0,sv c.name,sv f.name,.slice ua f.args.length uk,.int .i64 f.ty.kind,sv f.ty.name,.slice ay f.ty.args.length ky,.bool f.ty.void,.bool f.ty.sep,.slice va f.clients.length vk,.slice none 0 0,.slice none 0 0] 75)::pt b3 (cl [sv c.name,.bool c.dfd,ca,cb,ce,cf,ci] 44)::pt b4 (cl [.int .i64 f.kind,sv f.name,.slice a2 f.clients.length k2,.slice a3 f.args.length k3,.int .i64 f.ty.kind,sv f.ty.name,.slice ay f.ty.args.length ky,.bool f.ty.void,.bool f.ty.sep,x9,.slice a10 f.req.length k10,.slice a11 f.ens.length k11,x12,x13,x14] 130)::q.1.2.2::hr) (fun hcont=>?_) (fun q=>?_)))
 ·refine bB (ork [(0,2),(1,1),(2,2),(3,1),(4,2),(6,2),(7,1),(8,2),(9,1),(10,2)] (.two 5 (ork [(12,2),(11,0),(13,2)] .nil) 11 (ork [(5,0),(12,2),(13,2)] .nil))) (fun _=>true) mixed (by kernel_rfl) ?_
  refine dV Z (vF Z dH Z) (bu Z (vY Z ld9) ?_)
  refine dV Z (vF Z zb Z) (bu Z (vY Z wT) ?_)
  refine dV Z (aN (cells:=[sv c.name,.slice a10 f.req.length k10]) Z (fun _=>by kernel_rfl)) ?_
  refine dV Z (vF Z dH Z) (bu Z (vY Z ld9) ?_)
  refine dV Z (vF Z ze Z) (bu Z (vY Z wT) ?_)
  refine dV Z (aN (cells:=[sv c.name,.slice a11 f.ens.length k11]) Z (fun _=>by kernel_rfl)) ?_
  refine mH Z Z ?_ ?_
  ·refine ak (cells:=[sv c.name,.slice a10 f.req.length k10]) Z underlying53 mO Z Z (by kernel_rfl) (ltn Z) fun b34=>aW ?_
   refine dV Z (vA9 Z) (aQ Z (ak (cells:=[sv c.name,.slice a11 f.ens.length k11]) Z underlying53 mO Z Z (by kernel_rfl) (ltn Z) fun b40=>aW ?_))
   refine dV Z (vA9 Z) (bA (nK9 [2,3,4,6,7,8,9] Z (ax (iy [pt b34 (cl [sv c.name,.slice a10 f.req.length k10] 170),pt b40 (cl [sv c.name,.slice a11 f.ens.length k11] 170)] Y fun Y2 hE2 hsel=>?_))))
   exact hcont ⟨(.slice (some ⟨b34,0,none⟩) 1 1,.slice (some ⟨b40,0,none⟩) 1 1,Y2),hE2,Ei (hY10.up hE2) (hsel _ _ .here),Ei (hY11.up hE2) (hsel _ _ (.there .here))⟩ _ _ ⟨Z,Z,Z,Z,Z,Z,Z,trivial⟩ sbq
  ·refine ak (cells:=[sv c.name,.slice a11 f.ens.length k11]) Z underlying53 mO Z Z (by kernel_rfl) (ltn Z) fun b40=>aW ?_
   refine aQ Z (ak (cells:=[sv c.name,.slice a10 f.req.length k10]) Z underlying53 mO Z Z (by kernel_rfl) (ltn Z) fun b34=>aW ?_)
   refine dV Z (vA9 Z) (dV Z (vA9 Z) (bA (nK9 [2,3,4,6,7,8,9] Z (ax (iy [pt b34 (cl [sv c.name,.slice a10 f.req.length k10] 170),pt b40 (cl [sv c.name,.slice a11 f.ens.length k11] 170)] Y fun Y2 hE2 hsel=>?_)))))
   exact hcont ⟨(.slice (some ⟨b34,0,none⟩) 1 1,.slice (some ⟨b40,0,none⟩) 1 1,Y2),hE2,Ei (hY10.up hE2) (hsel _ _ .here),Ei (hY11.up hE2) (hsel _ _ (.there .here))⟩ _ _ ⟨Z,Z,Z,Z,Z,Z,Z,trivial⟩ sbq
 obtain ⟨⟨p,pq,Zq9⟩,hE2,hp,hq⟩:=q
 dsimp only at hE2 hp hq ⊢
 refine xT (cS (cQ (sV (vF Z ze Z) (sV (vY Z wT) ?_))))
 refine sV (aF Z underlying42) (sV (dB Z Z) (sN (nK9 [2,4,6,7,8,9,44] Z (nT (mE (ex:=.normal) (α := {q:Value // Ls Zq9 q (iq c f)}) (fun q=>[(2,.slice a l.length cap),(4,.pointer (some ⟨b4,0,none⟩)),(6,.pointer (some ⟨b6,0,none⟩)),(7,.pointer (some ⟨b7,0,none⟩)),(8,p),(9,q.1)]) (fun q=>pt b6 (cl [.string ⟨#[]⟩,.int .i64 0,.slice none 0 0,.string ⟨#[]⟩,.string ⟨#[]⟩,.slice none 0 0,.int .i64 0,.string ⟨#[]⟩,.slice none 0 0,.bool false,.bool false,.slice none 0 0,.slice none 0 0,.slice none 0 0] 75)::pt b7 (cl [sv f.name,.int .i64 f.kind,.slice none 0 0,sv c.name,sv f.name,.slice ua f.args.length uk,.int .i64 f.ty.kind,sv f.ty.name,.slice ay f.ty.args.length ky,.bool f.ty.void,.bool f.ty.sep,.slice va f.clients.length vk,.slice none 0 0,.slice none 0 0] 75)::pt b3 (cl [sv c.name,.bool c.dfd,ca,cb,ce,cf,ci] 44)::pt b4 (cl [.int .i64 f.kind,sv f.name,.slice a2 f.clients.length k2,.slice a3 f.args.length k3,.int .i64 f.ty.kind,sv f.ty.name,.slice ay f.ty.args.length ky,.bool f.ty.void,.bool f.ty.sep,x9,.slice a10 f.req.length k10,.slice a11 f.ens.length k11,x12,x13,x14] 130)::Zq9::hr) (fun hcont=>?_) (fun q=>?_))))))
 ·refine cC Z (fun he=>?_) (fun he=>?_)
  ·have he:f.ens=[]:=by simpa using he
   refine cR (sV (vA9 Z) (sN (nK9 [2,4,6,7,8,9] Z (ax ?_))))
   exact hcont ⟨.slice none 0 0,by unfold iq; rw [if_pos he]; exact Ls.nil⟩ _ _ ⟨Z,Z,Z,Z,Z,Z,trivial⟩ sbq
  ·have he:¬ f.ens=[]:=by simpa using he
   refine cK9 ?_
   exact hcont ⟨pq,by unfold iq; rw [if_neg he]; exact hq⟩ _ _ ⟨Z,Z,Z,Z,Z,Z,trivial⟩ sbq
 obtain ⟨pq,hq⟩:=q
 dsimp only at hq ⊢
 obtain ⟨qa,qk,rfl,_⟩:=id hq.form
 refine xT (cS (cQ (sM Z (sV (aF Z underlying187) (sV (dB Z Z) (sN (nK9 [2,4,6,7,8,9,47] Z (nT (cC Z (fun hl=>?_) (fun hl=>?_))))))))))
 ·have hl:l=[]:=by simpa using hl
  subst hl
  obtain ⟨pa,pk,rfl,_⟩:=id hp.form
  have hown:jH c f []={ name:=f.name,kind:=f.kind,seeds:=[⟨c.name,f.name⟩],impl:=⟨c.name,f.name⟩,args:=f.args,ty:=f.ty,clients:=f.clients,pre:=preL c f,post:=iq c f }:=rfl
  rw [hown]
  refine cQ (sV (vF Z DF Z) (sV (ag Z iM Z (bF (us:=[sv f.name,.int .i64 f.kind,.slice none 0 0,sv c.name,sv f.name,.slice ua f.args.length uk,.int .i64 f.ty.kind,sv f.ty.name,.slice ay f.ty.args.length ky,.bool f.ty.void,.bool f.ty.sep,.slice va f.clients.length vk,.slice none 0 0,.slice none 0 0]) (vs:=[sv c.name,sv f.name]) (k:=3) af Z)) ?_))
  refine ak (cells:=[sv c.name,sv f.name]) Z underlying67 BX Z Z (by kernel_rfl) (ltn Z) fun b50=>?_
  refine sM Z (sM Z (sV (vF Z eO Z) (aX Z Z EO ?_)))
  refine sV (vF Z jD Z) (aX Z Z mM ?_)
  refine sV (vF Z jE Z) (aX Z Z mM ?_)
  refine sN (nK9 [2,4,6,7,8,9] Z (nT (cQ (sV (ag Z fB Z af) ?_))))
  refine ai Z Z iD Z Z ?_
  refine sN (nK9 [6] Z (nT (cT (xR (iy [pt b50 (cl [sv c.name,sv f.name] 69)] Zq9 fun Y3 hE3 hsel=>?_)))))
  have hE5:=hE2.trans hE3
  exact bC (.cellN Z fB Z slq .nil) ⟨Y3,[],Z,(hE.trans hE2).trans hE3,Z,_,Z,pU (m:={ name:=f.name,kind:=f.kind,seeds:=[⟨c.name,f.name⟩],impl:=⟨c.name,f.name⟩,args:=f.args,ty:=f.ty,clients:=f.clients,pre:=preL c f,post:=iq c f }) ⟨jo (ux:=[sv c.name,sv f.name]) Z (fun i hi=>hsel _ _ .here _ _ (af i hi)) (by decide),hYa.up hE5,(hy.up (hE.trans hE5)),hYc.up hE5,hp.up hE3,hq.up hE3⟩⟩ sbr
 ·have hl:l≠[]:=by simpa using hl
  have hown:jH c f l={ name:=f.name,kind:=f.kind,seeds:=(joined l).seeds,impl:=⟨c.name,f.name⟩,args:=f.args,ty:=f.ty,clients:=f.clients,pre:=groups [(joined l).pre,p9 c f],post:=groups [(joined l).post,iq c f] }:=by unfold jH; rw [if_neg hl]; rfl
  rw [hown]
  have hjp:(joined l).pre=lV l:=by rw [xw hl]
  have hjq:(joined l).post=gY l:=by rw [xw hl]
  have hpl:=AU l
  have hql:=xx l
  rw [← hjp] at hpl
  rw [← hjq] at hql
  have hpm:(p9 c f).length≤1:=by unfold p9; split <;> simp
  have hqm:(iq c f).length≤1:=by unfold iq; split <;> simp
  have hj:=CO (hv.up (hE.trans hE2)) hl hbS hbP hbQ
  unfold CtX at hj
  refine cK9 (xT (cS (cQ (sV (vF Z zb Z) (sV (vY Z wT) ?_)))))
  refine sV (aF Z underlying42) (sV (dB Z Z) (sN (nK9 [2,6,7,8,9,60] Z (nT (mE (ex:=.normal) (α := {q:Value // Ls Zq9 q (p9 c f)}) (fun q=>[(2,.slice a l.length cap),(6,.pointer (some ⟨b6,0,none⟩)),(7,.pointer (some ⟨b7,0,none⟩)),(8,q.1),(9,.slice qa (iq c f).length qk)]) (fun q=>pt b6 (cl [.string ⟨#[]⟩,.int .i64 0,.slice none 0 0,.string ⟨#[]⟩,.string ⟨#[]⟩,.slice none 0 0,.int .i64 0,.string ⟨#[]⟩,.slice none 0 0,.bool false,.bool false,.slice none 0 0,.slice none 0 0,.slice none 0 0] 75)::pt b7 (cl [sv f.name,.int .i64 f.kind,.slice none 0 0,sv c.name,sv f.name,.slice ua f.args.length uk,.int .i64 f.ty.kind,sv f.ty.name,.slice ay f.ty.args.length ky,.bool f.ty.void,.bool f.ty.sep,.slice va f.clients.length vk,.slice none 0 0,.slice none 0 0] 75)::pt b3 (cl [sv c.name,.bool c.dfd,ca,cb,ce,cf,ci] 44)::pt b4 (cl [.int .i64 f.kind,sv f.name,.slice a2 f.clients.length k2,.slice a3 f.args.length k3,.int .i64 f.ty.kind,sv f.ty.name,.slice ay f.ty.args.length ky,.bool f.ty.void,.bool f.ty.sep,x9,.slice a10 f.req.length k10,.slice a11 f.ens.length k11,x12,x13,x14] 130)::Zq9::hr) (fun hcont=>?_) (fun q=>?_))))))
  ·refine cC Z (fun hr=>?_) (fun hr=>?_)
   ·have hr:f.req=[]:=by simpa using hr
    refine cR (sV (vA9 Z) (sN (nK9 [2,6,7,8,9] Z (ax ?_))))
    exact hcont ⟨.slice none 0 0,by unfold p9; rw [if_pos hr]; exact Ls.nil⟩ _ _ ⟨Z,Z,Z,Z,Z,trivial⟩ sbq
   ·have hr:¬ f.req=[]:=by simpa using hr
    refine cK9 ?_
    exact hcont ⟨p,by unfold p9; rw [if_neg hr]; exact hp⟩ _ _ ⟨Z,Z,Z,Z,Z,trivial⟩ sbq
  obtain ⟨p,hp⟩:=q
  dsimp only at hp ⊢
  obtain ⟨pa,pk,rfl,_⟩:=id hp.form
  refine xT (cQ (sM Z (aH Z Z en122 Z (hj) ?_)))
  rintro u h2 ⟨Z2,k2,rfl,hE3,rfl,us,rfl,hrep⟩
  simp only [lC,lN]
  have honeJ:=Enc.ones hrep
  obtain ⟨j2,j5,jy,j11,j12,j13,rfl,hj2,hj5,hjy,hj11,hj12,hj13⟩:=dJ hrep
  unfold ik at *
  obtain ⟨ja2,jk2,rfl,_⟩:=id hj2.form
  obtain ⟨jp12,jk12,rfl,_⟩:=id hj12.form
  obtain ⟨jp13,jk13,rfl,_⟩:=id hj13.form
  have hgb1:=lJ [(joined l).pre,p9 c f]
  have hgb2:=lJ [(joined l).post,iq c f]
  rw [lM] at hgb1 hgb2
  have hb1:(groups [(joined l).pre,p9 c f]).length * 40≤reachBytes:=by omega
  have hb2:(groups [(joined l).post,iq c f]).length * 40≤reachBytes:=by omega
  have hgP:∀ b68,CtN prog 196 #[.slice (some ⟨b68,0,none⟩) 2 2] [pt b68 (cl [.slice jp12 (joined l).pre.length jk12,.slice pa (p9 c f).length pk] 53),Z2] fun u T=>u.oneCell'=true∧∃ rows,T=VR u 170 2 rows∧Rws (Res.star [pt b68 (cl [.slice jp12 (joined l).pre.length jk12,.slice pa (p9 c f).length pk] 53),Z2]) rows (groups [(joined l).pre,p9 c f]):=fun b68=>jS (rJ (zn (b:=b68) hj12 (hp.up hE3)) (by rw [lM]; omega))
  have hgQ:∀ b73,CtN prog 196 #[.slice (some ⟨b73,0,none⟩) 2 2] [pt b73 (cl [.slice jp13 (joined l).post.length jk13,.slice qa (iq c f).length qk] 53),Z2] fun u T=>u.oneCell'=true∧∃ rows,T=VR u 170 2 rows∧Rws (Res.star [pt b73 (cl [.slice jp13 (joined l).post.length jk13,.slice qa (iq c f).length qk] 53),Z2]) rows (groups [(joined l).post,iq c f]):=fun b73=>jS (rJ (zn (b:=b73) hj13 (hq.up hE3)) (by rw [lM]; omega))
  refine au jQ fun b10=>?_
  refine ai Z Z iD Z honeJ ?_
  refine sN (nK9 [6,7,8,9,10] Z (nT (cS (mE (ex:=.normal) (α := {q:Value×Value×Res // Ext Z2 q.2.2∧q.1.oneCell'=true∧q.2.1.oneCell'=true∧Ls q.2.2 q.1 (groups [(joined l).pre,p9 c f])∧Ls q.2.2 q.2.1 (groups [(joined l).post,iq c f])}) (fun q=>[(6,.pointer (some ⟨b6,0,none⟩)),(7,.pointer (some ⟨b7,0,none⟩))]) (fun q=>pt b6 (cl [.string ⟨#[]⟩,.int .i64 0,.slice none 0 0,.string ⟨#[]⟩,.string ⟨#[]⟩,.slice none 0 0,.int .i64 0,.string ⟨#[]⟩,.slice none 0 0,.bool false,.bool false,.slice none 0 0,.slice none 0 0,.slice none 0 0] 75)::pt b7 (cl [sv f.name,.int .i64 f.kind,.slice ja2 (joined l).seeds.length jk2,sv c.name,sv f.name,.slice ua f.args.length uk,.int .i64 f.ty.kind,sv f.ty.name,.slice ay f.ty.args.length ky,.bool f.ty.void,.bool f.ty.sep,.slice va f.clients.length vk,q.1.1,q.1.2.1] 75)::q.1.2.2::hr) (fun hcont=>?_) (fun q=>?_)))))
  ·refine bB (ork [(0,2),(1,1),(2,2),(3,1),(4,2),(7,2),(8,1),(9,2),(12,2)] (.two 5 (.two 6 (ork [(10,0),(11,0),(13,0),(14,2),(15,0),(16,2),(17,0)] .nil) 10 (ork [(6,0),(11,0),(13,0),(14,2),(15,0),(16,2),(17,0)] .nil)) 10 (ork [(5,0),(6,0),(11,0),(13,0),(14,2),(15,0),(16,2),(17,0)] .nil))) (fun i => !(Nat.beq i 13 || Nat.beq i 15 || Nat.beq i 17)) mixed (by kernel_rfl) ?_
   refine dV Z (vF Z eO Z) (bu Z (vY Z qz) ?_)
   refine dV Z (vF Z jD Z) (bu Z (vY Z zW) ?_)
   refine dV Z (vM Z) (dV Z (vF Z jE Z) (bu Z (vY Z zW) ?_))
   refine dV Z (vM Z) (dV Z (vF Z eO Z) (mH Z Z ?_ ?_))
   ·refine ak (cells:=[.slice jp12 (joined l).pre.length jk12,.slice pa (p9 c f).length pk]) Z underlying312 rW Z Z (by kernel_rfl) (ltn Z) fun b68=>aW ?_
    refine mH Z Z ?_ ?_
    ·refine aH Z Z pO Z (hgP b68) ?_
     rintro u1 h1 ⟨T1,rfl,hu1,rows3,rfl,hr1⟩
     simp only [lC,lN]
     refine aW ?_
     refine aQ Z (ak (cells:=[.slice jp13 (joined l).post.length jk13,.slice qa (iq c f).length qk]) Z underlying312 rW Z Z (by kernel_rfl) (ltn Z) fun b73=>aW ?_)
     refine aQ Z (aH Z Z pO Z (hgQ b73) ?_)
     rintro u2 h2 ⟨T2,rfl,hu2,rows4,rfl,hr2⟩
     simp only [lC,lN]
     refine aW ?_
     refine aQ Z (aX Z Z EO (aW ?_))
     refine dV Z (vF Z jD Z) (aQ Z (aX Z Z mM (aW ?_)))
     refine dV Z (vF Z jE Z) (aQ Z (aX Z Z mM (aW ?_)))
     refine bA (nK9 [6,7] Z (ax (dS (r:=VR u1 170 2 rows3) slq fun hok1=>?_)))
     refine dS (r:=VR u2 170 2 rows4) slq fun hok2=>?_
     refine oZ [VR u1 170 2 rows3,VR u2 170 2 rows4,pt b68 (cl [.slice jp12 (joined l).pre.length jk12,.slice pa (p9 c f).length pk] 53),pt b73 (cl [.slice jp13 (joined l).post.length jk13,.slice qa (iq c f).length qk] 53)] Z2 fun Y2 hE2 hsel hpk=>?_
     exact hcont ⟨(u1,u2,Y2),hE2,hu1,hu2,Rws.ls (E:=170) (jq hr1 (hpk _ _ (.there (.there .here)))) hok1 (hsel _ _ .here) hb1,Rws.ls (E:=170) (jq hr2 (hpk _ _ (.there (.there (.there .here))))) hok2 (hsel _ _ (.there .here)) hb2⟩ _ _ ⟨Z,Z,trivial⟩ sbq
    ·refine ak (cells:=[.slice jp13 (joined l).post.length jk13,.slice qa (iq c f).length qk]) Z underlying312 rW Z Z (by kernel_rfl) (ltn Z) fun b73=>aW ?_
     refine aQ Z (aH Z Z pO Z (hgP b68) ?_)
     rintro u1 h1 ⟨T1,rfl,hu1,rows3,rfl,hr1⟩
     simp only [lC,lN]
     refine aW ?_
     refine aQ Z (aH Z Z pO Z (hgQ b73) ?_)
     rintro u2 h2 ⟨T2,rfl,hu2,rows4,rfl,hr2⟩
     simp only [lC,lN]
     refine aW ?_
     refine aQ Z (aX Z Z EO (aW ?_))
     refine dV Z (vF Z jD Z) (aQ Z (aX Z Z mM (aW ?_)))
     refine dV Z (vF Z jE Z) (aQ Z (aX Z Z mM (aW ?_)))
     refine bA (nK9 [6,7] Z (ax (dS (r:=VR u1 170 2 rows3) slq fun hok1=>?_)))
     refine dS (r:=VR u2 170 2 rows4) slq fun hok2=>?_
     refine oZ [VR u1 170 2 rows3,VR u2 170 2 rows4,pt b68 (cl [.slice jp12 (joined l).pre.length jk12,.slice pa (p9 c f).length pk] 53),pt b73 (cl [.slice jp13 (joined l).post.length jk13,.slice qa (iq c f).length qk] 53)] Z2 fun Y2 hE2 hsel hpk=>?_
     exact hcont ⟨(u1,u2,Y2),hE2,hu1,hu2,Rws.ls (E:=170) (jq hr1 (hpk _ _ (.there (.there .here)))) hok1 (hsel _ _ .here) hb1,Rws.ls (E:=170) (jq hr2 (hpk _ _ (.there (.there (.there .here))))) hok2 (hsel _ _ (.there .here)) hb2⟩ _ _ ⟨Z,Z,trivial⟩ sbq
   ·refine ak (cells:=[.slice jp13 (joined l).post.length jk13,.slice qa (iq c f).length qk]) Z underlying312 rW Z Z (by kernel_rfl) (ltn Z) fun b73=>aW ?_
    refine aQ Z (ak (cells:=[.slice jp12 (joined l).pre.length jk12,.slice pa (p9 c f).length pk]) Z underlying312 rW Z Z (by kernel_rfl) (ltn Z) fun b68=>aW ?_)
    refine aQ Z (aH Z Z pO Z (hgP b68) ?_)
    rintro u1 h1 ⟨T1,rfl,hu1,rows3,rfl,hr1⟩
    simp only [lC,lN]
    refine aW ?_
    refine aQ Z (aH Z Z pO Z (hgQ b73) ?_)
    rintro u2 h2 ⟨T2,rfl,hu2,rows4,rfl,hr2⟩
    simp only [lC,lN]
    refine aW ?_
    refine aQ Z (aX Z Z EO (aW ?_))
    refine dV Z (vF Z jD Z) (aQ Z (aX Z Z mM (aW ?_)))
    refine dV Z (vF Z jE Z) (aQ Z (aX Z Z mM (aW ?_)))
    refine bA (nK9 [6,7] Z (ax (dS (r:=VR u1 170 2 rows3) slq fun hok1=>?_)))
    refine dS (r:=VR u2 170 2 rows4) slq fun hok2=>?_
    refine oZ [VR u1 170 2 rows3,VR u2 170 2 rows4,pt b68 (cl [.slice jp12 (joined l).pre.length jk12,.slice pa (p9 c f).length pk] 53),pt b73 (cl [.slice jp13 (joined l).post.length jk13,.slice qa (iq c f).length qk] 53)] Z2 fun Y2 hE2 hsel hpk=>?_
    exact hcont ⟨(u1,u2,Y2),hE2,hu1,hu2,Rws.ls (E:=170) (jq hr1 (hpk _ _ (.there (.there .here)))) hok1 (hsel _ _ .here) hb1,Rws.ls (E:=170) (jq hr2 (hpk _ _ (.there (.there (.there .here))))) hok2 (hsel _ _ (.there .here)) hb2⟩ _ _ ⟨Z,Z,trivial⟩ sbq
  obtain ⟨⟨g1,g2,Y3⟩,hE4,hg1,hg2,hG1,hG2⟩:=q
  dsimp only at hE4 hg1 hg2 hG1 hG2 ⊢
  have hE5:=(hE2.trans hE3).trans hE4
  refine xT (cQ (sV (ag Z fB Z af) ?_))
  have hone2:([sv f.name,.int .i64 f.kind,.slice ja2 (joined l).seeds.length jk2,sv c.name,sv f.name,.slice ua f.args.length uk,.int .i64 f.ty.kind,sv f.ty.name,.slice ay f.ty.args.length ky,.bool f.ty.void,.bool f.ty.sep,.slice va f.clients.length vk,g1,g2]:List Value).all Value.oneCell'=true:=by simp only [List.all_cons,List.all_nil,hg1,hg2,Bool.and_true,Bool.true_and]; rfl
  refine ai Z Z iD Z hone2 ?_
  refine sN (nK9 [6] Z (nT (cT ?_)))
  exact bC (.cellN Z fB Z slq .nil) ⟨Y3,[],Z,hE.trans hE5,Z,_,Z,pU (m:={ name:=f.name,kind:=f.kind,seeds:=(joined l).seeds,impl:=⟨c.name,f.name⟩,args:=f.args,ty:=f.ty,clients:=f.clients,pre:=groups [(joined l).pre,p9 c f],post:=groups [(joined l).post,iq c f] }) ⟨hj2.up hE4,hYa.up hE5,hy.up (hE.trans hE5),hYc.up hE5,hG1,hG2⟩⟩ sbr
end
end Go.Fl
namespace Go.Ck
open Go Go.RowKit
theorem iF {P:Program} {e:Env} {h:SH} {ty T:TypeId} {x:Operand} {cs:List Value} {fs:Array Field} {k:Nat} {f:Field} {u:Value} (hx:e.ev? x=some (.agg cs.toArray)) (hT:P.underlying T=some (.struct fs)) (hf:fs[k]? = some f) (hA:∀ w,(isAgg f.type).run P w = .ok false w) (hu:cs[f.offset]? = some u):Vop P e h (.field T x k) ty u :=
 ⟨by simp,by simp,fun ρ w d pos after g hρ _=>by
  simp only [execOp,hρ x _ hx,Instr.field,Sem.run_bind,run_underlying hT,Result.andThen_ok,hf,part,asAgg,Sem.run_pure,hA]
  simp [hu]⟩
end Go.Ck
namespace Go.Fl
open Go Go.RowKit Go.Ck Go.Proofs Go.Proofs.Tryz Go.Proofs.YtknmacdbffgjgaaGreatDoor Fx Go.Hr
attribute [local irreducible] Go.Ck.Sub St Cd Xt Nx DrL LsW
section
variable {X Y:Res} {v v':Value} {us us':List Value}
def FlR (X:Res) (m:List (Nm×Value)) (fl:Nm→Fl):Prop:=∀ n,∃ us:List Value,(bJ m n).getD (.agg #[.string ⟨#[]⟩,.bool false,.slice none 0 0,.slice none 0 0]) = .agg us.toArray∧Enc.rep X us (fl n)
theorem FlR.up {m:List (Nm×Value)} {fl:Nm→Fl} (h:FlR X m fl) (he:Ext X Y):FlR Y m fl:=fun n=>by
 obtain ⟨us,h1,h2⟩:=h n
 exact ⟨us,h1,Enc.up he.rd h2⟩
def cq (fl:Nm→Fl) (l:FS) (q:Pt×Nat):List Cm:=(fl q.1.name).mems.map (qL (ae l q.1.name).forms q.2 q.1)
def Ej (fl:Nm→Fl) (l:FS) (c:FC) (i:Nat):Nat:=((c.pars.zipIdx.take i).flatMap (cq fl l)).length
theorem NL {c:FC} {i:Nat} (h:i<c.pars.length):c.pars.zipIdx[i]'(by simpa using h)=(c.pars[i],i):=by simp
theorem Lm {fl:Nm→Fl} {l:FS} {c:FC} {i:Nat} (h:i<c.pars.length):Ej fl l c (i+1)=Ej fl l c i+(fl c.pars[i].name).mems.length:=by
 unfold Ej
 rw [List.take_succ_eq_append_getElem (by simpa using h),List.flatMap_append,List.length_append,NL h]
 simp [cq]
theorem NM {fl:Nm→Fl} {l:FS} {c:FC} {i j:Nat} (h:i<c.pars.length) (hj:j<(fl c.pars[i].name).mems.length):(comes fl l c)[Ej fl l c i+j]? = some (qL (ae l c.pars[i].name).forms i c.pars[i] (fl c.pars[i].name).mems[j]):=by
 have hz:i<c.pars.zipIdx.length:=by simpa using h
 have h1:c.pars.zipIdx=c.pars.zipIdx.take i++c.pars.zipIdx[i]::c.pars.zipIdx.drop (i+1):=by rw [List.getElem_cons_drop,List.take_append_drop]
 have h2:comes fl l c=(c.pars.zipIdx.take i).flatMap (cq fl l)++(cq fl l c.pars.zipIdx[i]++(c.pars.zipIdx.drop (i+1)).flatMap (cq fl l)):=by
  show c.pars.zipIdx.flatMap (cq fl l)=_
  conv=>lhs; rw [h1]
  rw [List.flatMap_append,List.flatMap_cons]
 rw [h2]
 unfold Ej
 rw [List.getElem?_append_right (by omega),Nat.add_sub_cancel_left,NL h,List.getElem?_append_left (by simpa [cq] using hj)]
 simp [cq,hj]
theorem Lp (fl:Nm→Fl) (l:FS) (c:FC):Ej fl l c c.pars.length=(comes fl l c).length:=by
 unfold Ej comes
 rw [List.take_of_length_le (by simp)]
 rfl
theorem rws_set {α : Type} [Enc α] {X:Res} {rows:List (List Value)} {xs:List α} (h:Rws X rows xs) {k:Nat} {us:List Value} {a : α} (hr:Enc.rep X us a):Rws X (rows.set k us) (xs.set k a):=by
 refine ⟨by simp [h.1],fun j vs x h1 h2=>?_⟩
 by_cases hj:k=j
 ·subst hj
  have e1:k<rows.length:=by simpa using (List.getElem?_eq_some_iff.1 h1).1
  rw [List.getElem?_set_self e1] at h1
  rw [List.getElem?_set_self (by rw [← h.1]; exact e1)] at h2
  cases h1; cases h2; exact hr
 ·rw [List.getElem?_set_ne hj] at h1 h2
  exact h.2 j vs x h1 h2
theorem map_set {α : Type} {xs:List α} {g : α → α} {k:Nat} (h:k<xs.length):((xs.take k).map g++xs.drop k).set k (g xs[k])=(xs.take (k+1)).map g++xs.drop (k+1):=by
 have hl:((xs.take k).map g).length=k:=by simp; omega
 rw [List.set_append_right _ _ (by omega),hl,Nat.sub_self,List.drop_eq_getElem_cons h,List.set_cons_zero,List.take_succ_eq_append_getElem h,List.map_append]
 simp
theorem map_at {α : Type} {xs:List α} {g : α → α} {k:Nat} (h:k<xs.length):((xs.take k).map g++xs.drop k)[k]? = some xs[k]:=by
 have hl:((xs.take k).map g).length=k:=by simp; omega
 rw [List.getElem?_append_right (by omega),hl,Nat.sub_self,List.getElem?_drop,Nat.add_zero,List.getElem?_eq_getElem h]
def subV (F:List Fm) (A:List Kt) (a:Vr):Vr:={ a with ty:=cO F A a.ty }
theorem El {xs:List Nm} (h:Ls X v xs):w9 X v xs:=h.1

theorem Ga {σ : Type} {b1 b2 mb yl : Nat} {m : List (Nm × Value)} {fl : Nm → Fl} {l : FS} {c : FC} {uc : List Value} (Inv : σ → SH) (Φ : Nat → Res → σ → Prop) (Stop : Nat → Res → SH → Prop) (s0 : σ) (h0 : Φ 0 X s0) (hl : Ls X v l) (hc : Enc.rep X uc c) (hm : FlR X m fl) (hf : ∀ p ∈ c.pars, (ae l p.name).forms.length = p.args.length ∧ p.und.length ≤ 1099511627776)
  (hy:∀ (k:Nat) (Y:Res) (s : σ) (x:Cm) (us:List Value),(comes fl l c)[k]? = some x→Ext X Y→Enc.rep Y us x → Φ k Y s→Yc prog yl #[.agg us.toArray] (Y::mps mb m::Inv s) fun u h'=>(u = .bool true∧∃ Y' s',Ext Y Y' ∧ Φ (k+1) Y' s'∧h'=Y'::mps mb m::Inv s')∨(u = .bool false∧∃ Y' t,Ext Y Y'∧Stop k Y' t∧h'=Y'::mps mb m::t)) (hmon:∀ k Y Y' s,Ext Y Y' → Φ k Y s → Φ k Y' s) :
  Ct prog 237 #[.func (.yield yl) #[] #[],.pointer (some ⟨b1,0,none⟩),.pointer (some ⟨b2,0,none⟩)] (pt b1 (cl uc 44)::pt b2 (cl [v,.map (some mb)] 114)::X::mps mb m::Inv s0) fun u h'=>u = .tuple #[] ∧
   ((∃ Y s,Ext X Y ∧ Φ (comes fl l c).length Y s∧h'=pt b1 (cl uc 44)::pt b2 (cl [v,.map (some mb)] 114)::Y::mps mb m::Inv s)∨∃ k Y t,Ext X Y∧Stop k Y t∧h'=pt b1 (cl uc 44)::pt b2 (cl [v,.map (some mb)] 114)::Y::mps mb m::t):=by
 have hml:maxLen=9223372036854775807:=rfl
 obtain ⟨ca,cb,ce,cf,ci,rfl,hca,hcb,hce,hcf,hci⟩:=gq hc
 obtain ⟨cb,ck,rfl,hck,hckm,_⟩:=id hcb.form
 refine aL (n:=113) func237 Z Z (len Z) fun hr w0=>?_
 refine cQ (sV (vF Z eX Z) (sV (vY Z lT) ?_))
 refine sV (aF Z underlying39) (sM Z (sN (nK9 [0,2,13,14,15] Z (nT (cB (aZ (σ := Nat×Res × σ) (fun q=>[(0,.func (.yield yl) #[] #[]),(2,.pointer (some ⟨b2,0,none⟩)),(13,.slice cb c.pars.length ck),(14,.int .i64 c.pars.length),(15,.int .i64 (q.1:Nat))]) (fun q=>pt b1 (cl [sv c.name,.bool c.dfd,ca,.slice cb c.pars.length ck,ce,cf,ci] 44)::pt b2 (cl [v,.map (some mb)] 114)::q.2.1::mps mb m::(Inv q.2.2++hr)) (fun q=>q.1≤c.pars.length∧Ext X q.2.1 ∧ Φ (Ej fl l c q.1) q.2.1 q.2.2) (fun q=>c.pars.length - q.1) (0,X,s0) ⟨Nat.zero_le _,Ext.refl X,h0⟩ ?_))))))
 rintro ⟨i,Y,s⟩ ⟨hi,hE,hΦ⟩
 simp only at hi hE hΦ
 dsimp only
 refine cQ (sV (aO Z Z) (sN (nT (cS (cC Z (fun hd=>?_) (fun hd=>?_))))))
 ·have hlt:i<c.pars.length:=by simpa using hd
  have hsucc:=Lm (fl:=fl) (l:=l) hlt
  have hat:=fun j=>NM (fl:=fl) (l:=l) (j:=j) hlt
  have hfp:=hf c.pars[i] (List.getElem_mem hlt)
  obtain ⟨pb,po,pcap,pus,e1,hpus,hprd,hp⟩:=(hcb.up hE).at (List.getElem?_eq_getElem hlt)
  obtain ⟨rfl,rfl⟩:cb=some ⟨pb,po,none⟩∧ck=pcap:=by cases e1; exact ⟨rfl,rfl⟩
  generalize c.pars[i]=p at hsucc hat hfp hp
  have hp0:=hp
  obtain ⟨pa,pr,pu,pd,ps,rfl,hpa,hpr,hpu,hpd,hps⟩:=hp
  obtain ⟨aA,kA,rfl,_⟩:=id hpa.form
  obtain ⟨aR,kR,rfl,_⟩:=id hpr.form
  obtain ⟨aU,kU,rfl,_⟩:=id hpu.form
  obtain ⟨aD,kD,rfl,_⟩:=id hpd.form
  obtain ⟨aS,kS,rfl,_⟩:=id hps.form
  obtain ⟨fus,hfl,hfr⟩:=hm.up hE p.name
  obtain ⟨mx,my,rfl,hmx,hmy⟩:=hfr
  obtain ⟨mA,mK,rfl,_⟩:=id hmx.form
  have hcc:=lI (n:=p.name) (fv:=.map (some mb)) (hl.up hE) rfl
  refine cK9 (xT (cS (cB (cQ (sM Z (sV (vI (k:=i) Z Z oF Z hlt Z) (sV (ag Z p8 Z hprd) ?_)))))))
  refine au uW fun b5=>?_
  refine sV (vA9 Z) (ai Z Z rM Z Z ?_)
  refine sN (nK9 [0,2,4,5,13,14,15] Z (nT (cQ (sV (ag Z gT Z af) ?_))))
  refine sV (vF Z gH Z) (sV (vY Z ld9) ?_)
  refine aH Z Z en56 Z (hcc) ?_
  rintro u h' ⟨rfl,cus,rfl,hcr⟩
  simp only [lC,lN]
  obtain ⟨fa,fb,fc,fd,fe,rfl,hfa,-,-,-,-⟩:=gq hcr
  obtain ⟨fA,fK,rfl,_⟩:=id hfa.form
  refine sV (iF (k:=2) Z underlying44 Z isAgg38 Z) (sV (vA9 Z) (sN (nK9 [0,2,4,5,6,13,14,15] Z (nT (cQ (sV (vF Z iG Z) (sV (vY Z pJ) ?_)))))))
  refine sV (vF Z gH Z) (sV (vY Z ld9) ?_)
  refine sV (gB hfl (bI Z Z pG pI slq)) ?_
  refine sV (iF (k:=2) Z underlying55 Z isAgg52 Z) (sV (aF Z underlying52) (sM Z (sN (nK9 [0,2,4,5,6,13,14,15,30,31,32] Z (nT (cB (aZ (σ := Nat×Res × σ) (fun q=>[(0,.func (.yield yl) #[] #[]),(2,.pointer (some ⟨b2,0,none⟩)),(13,.slice (some ⟨pb,po,none⟩) c.pars.length ck),(14,.int .i64 c.pars.length),(15,.int .i64 (i:Nat)),(4,.int .i64 (i:Nat)),(5,.pointer (some ⟨b5,0,none⟩)),(6,.slice fA (ae l p.name).forms.length fK),(30,.slice mA (fl p.name).mems.length mK),(31,.int .i64 (fl p.name).mems.length),(32,.int .i64 (q.1:Nat))]) (fun q=>pt b5 (cl [sv p.name,.slice aA p.args.length kA,.slice aR p.ren.length kR,.slice aU p.und.length kU,.slice aD p.red.length kD,.slice aS p.sel.length kS] 88)::pt b1 (cl [sv c.name,.bool c.dfd,ca,.slice (some ⟨pb,po,none⟩) c.pars.length ck,ce,cf,ci] 44)::pt b2 (cl [v,.map (some mb)] 114)::q.2.1::mps mb m::(Inv q.2.2++hr)) (fun q=>q.1≤(fl p.name).mems.length∧Ext Y q.2.1 ∧ Φ (Ej fl l c i+q.1) q.2.1 q.2.2) (fun q=>(fl p.name).mems.length - q.1) (0,Y,s) ⟨Nat.zero_le _,Ext.refl Y,hΦ⟩ ?_)))))))
  clear hΦ
  rintro ⟨j,Zq9,s⟩ ⟨hj,hE2,hΦ⟩
  simp only at hj hE2 hΦ
  dsimp only
  refine cQ (sV (aO Z Z) (sN (nT (cS (cC Z (fun hd2=>?_) (fun hd2=>?_))))))
  ·have hltj:j<(fl p.name).mems.length:=by simpa using hd2
   have hatj:=hat j hltj
   obtain ⟨xb,xo,xcap,xus,e2,hxus,hxrd,hx⟩:=(hmx.up hE2).at (List.getElem?_eq_getElem hltj)
   obtain ⟨rfl,rfl⟩:mA=some ⟨xb,xo,none⟩∧mK=xcap:=by cases e2; exact ⟨rfl,rfl⟩
   generalize (fl p.name).mems[j]=x at hatj hx
   obtain ⟨x2,x5,xy,x11,x12,x13,rfl,hx2,hx5,hxy,hx11,hx12,hx13⟩:=dJ hx
   obtain ⟨ax2,kx2,rfl,_⟩:=id hx2.form
   obtain ⟨ax5,kx5,rfl,_⟩:=id hx5.form
   obtain ⟨axy,kxy,rfl,_⟩:=id hxy.form
   obtain ⟨ax11,kx11,rfl,_⟩:=id hx11.form
   obtain ⟨ax12,kx12,rfl,_⟩:=id hx12.form
   obtain ⟨ax13,kx13,rfl,_⟩:=id hx13.form
   unfold ik at *
   have hp1:=Enc.up hE2.rd hp0
   refine cK9 (xT (cS (cB (cQ (sV (vI (k:=j) Z Z pW Z hltj Z) (sV (ag Z fB Z hxrd) ?_))))))
   refine au jQ fun b8=>?_
   refine ai Z Z iD Z Z ?_
   refine sN (nK9 [0,2,4,5,6,8,13,14,15,30,31,32] Z (nT (cQ (sV (vF Z gH Z) (sV (vY Z ld9) ?_)))))
   refine sV (vF Z eH Z) (sV (vY Z ld9) ?_)
   refine sV (aN (cells:=[sv p.name,sv x.name]) Z (fun _=>by kernel_rfl)) ?_
   refine sM Z (sV (ag Z fB Z af) ?_)
   refine sV (vF Z zY Z) (sV (vY Z ld3) ?_)
   refine sV (aN (cells:=[sv p.name,sv x.name,.int .i64 (i:Nat),sv x.name,.int .i64 x.kind,.slice ax2 x.seeds.length kx2,sv x.impl.cls,sv x.impl.name,.slice ax5 x.args.length kx5,.int .i64 x.ty.kind,sv x.ty.name,.slice axy x.ty.args.length kxy,.bool x.ty.void,.bool x.ty.sep,.slice ax11 x.clients.length kx11,.slice ax12 x.pre.length kx12,.slice ax13 x.post.length kx13,.int .i64 x.kind]) Z (fun _=>by kernel_rfl)) ?_
   refine au qF fun b9=>?_
   refine ai Z Z l9 Z Z ?_
   refine sN (nK9 [0,2,4,5,6,8,9,13,14,15,30,31,32] Z (nT (cQ (sV (vF Z dN Z) (sV (vA9 Z) (sN (nK9 [0,2,4,5,6,8,9,10,13,14,15,30,31,32] Z (nT (cQ (sM Z (sV (ag Z p8 Z af) ?_)))))))))))
   refine sV (vF Z eH Z) (sV (vY Z ld9) ?_)
   refine aH Z Z en173 Z (tL (n:=x.name) hp1) ?_
   rintro u h' ⟨rfl,rfl⟩
   simp only [lC,lN]
   refine sV (vN Z) (sV (vF Z eH Z) (aX Z Z sz9 ?_))
   refine sN (nK9 [0,2,4,5,6,8,9,10,13,14,15,30,31,32] Z (nT (cS (cS (bB (ork [(0,2),(1,1),(2,2),(3,2),(4,2),(5,1),(6,1)] .nil) (fun _=>true) mixed (by kernel_rfl) ?_)))))
   refine dV Z (vF Z wX Z) (bu Z (vY Z fH) ?_)
   refine dV Z (vM Z) (dV Z (vN Z) (dV Z (vF Z eH Z) (bu Z (vY Z ld9) ?_)))
   refine kZ Z Z Z DN Z (fu (El (hpu.up hE2)) (bK p x.name) hfp.2) ?_
   refine bA (nK9 [0,2,4,5,6,8,9,10,13,14,15,30,31,32,60] Z (nT (mE (ex:=.normal) (α := {k:Int // k=if p.und.contains (bK p x.name) then 3 else x.kind}) (fun q=>[(0,.func (.yield yl) #[] #[]),(2,.pointer (some ⟨b2,0,none⟩)),(13,.slice (some ⟨pb,po,none⟩) c.pars.length ck),(14,.int .i64 c.pars.length),(15,.int .i64 (i:Nat)),(4,.int .i64 (i:Nat)),(5,.pointer (some ⟨b5,0,none⟩)),(6,.slice fA (ae l p.name).forms.length fK),(30,.slice (some ⟨xb,xo,none⟩) (fl p.name).mems.length mK),(31,.int .i64 (fl p.name).mems.length),(32,.int .i64 (j:Nat)),(8,.pointer (some ⟨b8,0,none⟩)),(9,.pointer (some ⟨b9,0,none⟩)),(10,.pointer (some ⟨b9,3,none⟩))]) (fun q=>pt b9 (cl [sv p.name,sv x.name,.int .i64 (i:Nat),sv (bK p x.name),.int .i64 q.1,.slice ax2 x.seeds.length kx2,sv x.impl.cls,sv x.impl.name,.slice ax5 x.args.length kx5,.int .i64 x.ty.kind,sv x.ty.name,.slice axy x.ty.args.length kxy,.bool x.ty.void,.bool x.ty.sep,.slice ax11 x.clients.length kx11,.slice ax12 x.pre.length kx12,.slice ax13 x.post.length kx13,.int .i64 x.kind] 191)::pt b8 (cl [sv x.name,.int .i64 x.kind,.slice ax2 x.seeds.length kx2,sv x.impl.cls,sv x.impl.name,.slice ax5 x.args.length kx5,.int .i64 x.ty.kind,sv x.ty.name,.slice axy x.ty.args.length kxy,.bool x.ty.void,.bool x.ty.sep,.slice ax11 x.clients.length kx11,.slice ax12 x.pre.length kx12,.slice ax13 x.post.length kx13] 75)::pt b5 (cl [sv p.name,.slice aA p.args.length kA,.slice aR p.ren.length kR,.slice aU p.und.length kU,.slice aD p.red.length kD,.slice aS p.sel.length kS] 88)::pt b1 (cl [sv c.name,.bool c.dfd,ca,.slice (some ⟨pb,po,none⟩) c.pars.length ck,ce,cf,ci] 44)::pt b2 (cl [v,.map (some mb)] 114)::Zq9::mps mb m::(Inv s++hr)) (fun hcont=>?_) (fun q=>?_))))
   ·refine cC Z (fun hu=>?_) (fun hu=>?_)
    ·refine cR (sM Z (sV (vN Z) (sV (vF Z zY Z) (aX Z Z sz3 ?_))))
     refine sN (nK9 [0,2,4,5,6,8,9,10,13,14,15,30,31,32] Z (ax ?_))
     exact hcont ⟨3,by rw [if_pos hu]⟩ _ _ ⟨Z,Z,Z,Z,Z,Z,Z,Z,Z,Z,Z,Z,Z,Z,trivial⟩ sbq
    ·refine cK9 ?_
     exact hcont ⟨x.kind,by rw [if_neg (by rw [hu]; decide)]⟩ _ _ ⟨Z,Z,Z,Z,Z,Z,Z,Z,Z,Z,Z,Z,Z,Z,trivial⟩ sbq
   obtain ⟨kd,hkd⟩:=q
   dsimp only
   refine xT (cQ (sM Z (sV (vF Z ll Z) (sV (vY Z sF) ?_))))
   refine aH Z Z en200 Z (nY (qX hx5)) ?_
   rintro u h' ⟨T1,rfl,rows1,rfl,⟨o1,w1⟩,ua,uk,hu⟩
   rw [w1.1] at hu; subst hu
   simp only [lC,lN]
   refine sV (vN Z) (sV (vF Z ll Z) (aX Z Z sz70 ?_))
   refine sN (nK9 [0,2,4,5,6,8,9,10,13,14,15,30,31,32] Z (nT (cS (cQ (sM Z (sV (vN Z) (sV (vF Z ll Z) (sV (vY Z sF) ?_))))))))
   refine sV (aF Z underlying70) (sM Z (sN (nK9 [0,2,4,5,6,8,9,10,13,14,15,30,31,32,74,75] Z (nT (cB (aZ (σ := List (List Value)×Res×Nat) (fun q=>[(0,.func (.yield yl) #[] #[]),(2,.pointer (some ⟨b2,0,none⟩)),(13,.slice (some ⟨pb,po,none⟩) c.pars.length ck),(14,.int .i64 c.pars.length),(15,.int .i64 (i:Nat)),(4,.int .i64 (i:Nat)),(5,.pointer (some ⟨b5,0,none⟩)),(6,.slice fA (ae l p.name).forms.length fK),(30,.slice (some ⟨xb,xo,none⟩) (fl p.name).mems.length mK),(31,.int .i64 (fl p.name).mems.length),(32,.int .i64 (j:Nat)),(8,.pointer (some ⟨b8,0,none⟩)),(9,.pointer (some ⟨b9,0,none⟩)),(10,.pointer (some ⟨b9,3,none⟩)),(74,.int .i64 x.args.length),(75,.int .i64 (q.2.2:Nat))]) (fun q=>pt b9 (cl [sv p.name,sv x.name,.int .i64 (i:Nat),sv (bK p x.name),.int .i64 kd,.slice ax2 x.seeds.length kx2,sv x.impl.cls,sv x.impl.name,.slice ua x.args.length uk,.int .i64 x.ty.kind,sv x.ty.name,.slice axy x.ty.args.length kxy,.bool x.ty.void,.bool x.ty.sep,.slice ax11 x.clients.length kx11,.slice ax12 x.pre.length kx12,.slice ax13 x.post.length kx13,.int .i64 x.kind] 191)::VR (.slice ua x.args.length uk) 132 6 q.1::pt b8 (cl [sv x.name,.int .i64 x.kind,.slice ax2 x.seeds.length kx2,sv x.impl.cls,sv x.impl.name,.slice ax5 x.args.length kx5,.int .i64 x.ty.kind,sv x.ty.name,.slice axy x.ty.args.length kxy,.bool x.ty.void,.bool x.ty.sep,.slice ax11 x.clients.length kx11,.slice ax12 x.pre.length kx12,.slice ax13 x.post.length kx13] 75)::pt b5 (cl [sv p.name,.slice aA p.args.length kA,.slice aR p.ren.length kR,.slice aU p.und.length kU,.slice aD p.red.length kD,.slice aS p.sel.length kS] 88)::pt b1 (cl [sv c.name,.bool c.dfd,ca,.slice (some ⟨pb,po,none⟩) c.pars.length ck,ce,cf,ci] 44)::pt b2 (cl [v,.map (some mb)] 114)::q.2.1::mps mb m::(Inv s++hr)) (fun q=>q.2.2≤x.args.length∧Ext Zq9 q.2.1∧Rws q.2.1 q.1 ((x.args.take q.2.2).map (subV (ae l p.name).forms p.args)++x.args.drop q.2.2)) (fun q=>x.args.length - q.2.2) (rows1,Zq9,0) ⟨Nat.zero_le _,Ext.refl Zq9,by simpa using w1⟩ ?_))))))
   rintro ⟨rows,W,k⟩ ⟨hk,hE3,hro⟩
   simp only at hk hE3 hro
   dsimp only
   refine cQ (sV (aO Z Z) (sN (nT (cS (cC Z (fun hd3=>?_) (fun hd3=>?_))))))
   ·have hltk:k<x.args.length:=by simpa using hd3
    have hset:=map_set (g:=subV (ae l p.name).forms p.args) hltk
    refine fI (r:=VR (.slice ua x.args.length uk) 132 6 rows) slq fun hok=>?_
    have hrl:rows.length=x.args.length:=by rw [hro.1]; simp; omega
    have hkr:k<rows.length:=by omega
    obtain ⟨ub,uo,rfl⟩:∃ ub uo,ua=some ⟨ub,uo,none⟩:=by
     obtain ⟨f0,hf0⟩:=hok
     rcases VR.form hf0 with ⟨h3,h4⟩ | ⟨b,o,cp,h3,-⟩
     ·rw [h4] at hkr; simp at hkr
     ·rw [hrl] at h3; cases h3; exact ⟨b,o,rfl⟩
    have hrow:=List.getElem?_eq_getElem hkr
    have hrepk:=hro.2 k _ x.args[k] hrow (map_at hltk)
    generalize hrk:rows[k]=r at hrow hrepk
    generalize x.args[k]=g at hset hrepk
    obtain ⟨ts,rfl,hty⟩:=hrepk
    obtain ⟨gy,rfl,hgy⟩:=ek hty
    obtain ⟨gya,gyc,rfl,_⟩:=id hgy.form
    have hrdT:=bF (k:=1) (vs:=[.int .i64 g.ty.kind,sv g.ty.name,.slice gya g.ty.args.length gyc,.bool g.ty.void,.bool g.ty.sep]) (eQ (b:=ub) (o:=uo) (n:=x.args.length) (cp:=uk) (E:=132) (sz:=6) hrow) rfl
    have hcs:=AJ hfp.1 ((hfa.up hE2).up hE3) ((hpa.up hE2).up hE3) hty
    unfold tyC at hcs
    refine cK9 (xT (cS (cB (cQ (sM Z (sV (vA9 Z) (sN (nK9 [0,2,4,5,6,8,9,10,11,13,14,15,30,31,32,74,75] Z (nT (bB (ork [(0,2),(1,2),(2,2),(3,1),(4,2),(5,2),(6,2),(7,2),(8,1),(9,2),(10,2),(11,2),(12,1),(13,2),(14,2),(15,1),(16,0),(17,2),(18,2),(19,0)] .nil) (fun i => !(Nat.beq i 19)) mixed (by kernel_rfl) ?_))))))))))
    refine dV Z (vM Z) (dV Z (vN Z) (dV Z (vF Z ll Z) (bu Z (vY Z sF) ?_)))
    refine dV Z (vM Z) (dV Z (vM Z) (dV Z (vN Z) (dV Z (vF Z ll Z) (bu Z (vY Z sF) ?_))))
    refine dV Z (vM Z) (dV Z (vI (k:=k) Z Z sl70 Z hltk Z) (dV Z (vF Z mg Z) (bu Z (ag Z fQ Z hrdT) ?_)))
    refine dV Z (vM Z) (dV Z (vF Z wW Z) (bu Z (vY Z oG) ?_))
    refine aQ Z (aH Z Z JM Z (hcs) ?_)
    rintro u h' ⟨T,rfl,us5,rfl,hT⟩
    simp only [lC,lN]
    have h5:us5.length=5:=Enc.len hT
    have hone5:=Enc.ones hT
    obtain ⟨t0,t1,t2,t3,t4,rfl⟩:=len5 h5
    refine aW ?_
    refine dV Z (vI (k:=k) Z Z sl70 Z hltk Z) (dV Z (vF Z mg Z) (aQ Z (st_vrS (m:=k) (k:=1) (rows:=rows) Z Z nD Z (fun u hu=>List.all_eq_true.1 hone5 u hu) hrow (by decide) slq (aW ?_))))
    rw [show splice (sv g.name::tyC g.ty (.slice gya g.ty.args.length gyc)) 1 [t0,t1,t2,t3,t4]=[sv g.name,t0,t1,t2,t3,t4] from rfl]
    refine bA (nK9 [0,2,4,5,6,8,9,10,13,14,15,30,31,32,74,75] Z (ax (xB (xT (cR (sV (aI Z Z (by unfold I64 at *; omega)) (sM Z (sN (nK9 [0,2,4,5,6,8,9,10,13,14,15,30,31,32,74,75] Z (ax (oZ [T] W fun W2 hE4 hsel hpk=>?_)))))))))))
    refine aJ (rows.set k [sv g.name,t0,t1,t2,t3,t4],W2,k+1) ⟨hltk,hE3.trans hE4,by rw [← hset]; exact rws_set (hro.up hE4) ⟨[t0,t1,t2,t3,t4],Z,Enc.up (hpk _ _ .here) hT⟩⟩ (by dsimp only; omega)
   ·have hke:k=x.args.length:=by
     have:¬ k<x.args.length:=by simpa using hd3
     omega
    subst hke
    rw [List.take_length,List.drop_length,List.append_nil] at hro
    have hcs:=AJ hfp.1 ((hfa.up hE2).up hE3) ((hpa.up hE2).up hE3) (gN (t:=x.ty) rfl (hxy.up hE3))
    unfold tyC at hcs
    refine aB (xE (xE (xY (xT (cQ (sM Z (sV (vF Z qE Z) (sV (ag Z fQ Z (bF (us:=[sv x.name,.int .i64 x.kind,.slice ax2 x.seeds.length kx2,sv x.impl.cls,sv x.impl.name,.slice ax5 x.args.length kx5,.int .i64 x.ty.kind,sv x.ty.name,.slice axy x.ty.args.length kxy,.bool x.ty.void,.bool x.ty.sep,.slice ax11 x.clients.length kx11,.slice ax12 x.pre.length kx12,.slice ax13 x.post.length kx13]) (vs:=[.int .i64 x.ty.kind,sv x.ty.name,.slice axy x.ty.args.length kxy,.bool x.ty.void,.bool x.ty.sep]) (k:=6) af Z)) ?_))))))))
    refine sM Z (sV (vF Z wW Z) (sV (vY Z oG) ?_))
    refine aH Z Z JM Z (hcs) ?_
    rintro u h' ⟨T,rfl,us5,rfl,hT⟩
    simp only [lC,lN]
    obtain ⟨ny,rfl,hny⟩:=ek hT
    obtain ⟨nya,nyc,rfl,_⟩:=id hny.form
    unfold tyC
    refine sV (vN rfl) (sV (vF rfl qE rfl) (ig rfl rfl nD rfl (fun u hu=>by simp at hu; rcases hu with rfl | rfl | rfl | rfl | rfl <;> rfl) (show Sel _ (pt b9 (cl [sv p.name,sv x.name,.int .i64 (i:Nat),sv (bK p x.name),.int .i64 kd,.slice ax2 x.seeds.length kx2,sv x.impl.cls,sv x.impl.name,.slice ua x.args.length uk,.int .i64 x.ty.kind,sv x.ty.name,.slice axy x.ty.args.length kxy,.bool x.ty.void,.bool x.ty.sep,.slice ax11 x.clients.length kx11,.slice ax12 x.pre.length kx12,.slice ax13 x.post.length kx13,.int .i64 x.kind] 191)) _ from slq) (by simp) ?_))
    rw [show splice [sv p.name,sv x.name,.int .i64 (i:Nat),sv (bK p x.name),.int .i64 kd,.slice ax2 x.seeds.length kx2,sv x.impl.cls,sv x.impl.name,.slice ua x.args.length uk,.int .i64 x.ty.kind,sv x.ty.name,.slice axy x.ty.args.length kxy,.bool x.ty.void,.bool x.ty.sep,.slice ax11 x.clients.length kx11,.slice ax12 x.pre.length kx12,.slice ax13 x.post.length kx13,.int .i64 x.kind] (3+6) [.int .i64 (cO (ae l p.name).forms p.args x.ty).kind,sv (cO (ae l p.name).forms p.args x.ty).name,.slice nya (cO (ae l p.name).forms p.args x.ty).args.length nyc,.bool (cO (ae l p.name).forms p.args x.ty).void,.bool (cO (ae l p.name).forms p.args x.ty).sep]=[sv p.name,sv x.name,.int .i64 (i:Nat),sv (bK p x.name),.int .i64 kd,.slice ax2 x.seeds.length kx2,sv x.impl.cls,sv x.impl.name,.slice ua x.args.length uk,.int .i64 (cO (ae l p.name).forms p.args x.ty).kind,sv (cO (ae l p.name).forms p.args x.ty).name,.slice nya (cO (ae l p.name).forms p.args x.ty).args.length nyc,.bool (cO (ae l p.name).forms p.args x.ty).void,.bool (cO (ae l p.name).forms p.args x.ty).sep,.slice ax11 x.clients.length kx11,.slice ax12 x.pre.length kx12,.slice ax13 x.post.length kx13,.int .i64 x.kind] from rfl]
    refine sN (nK9 [0,2,4,5,6,9,13,14,15,30,31,32] Z (nT (cS (fI (r:=VR (.slice ua x.args.length uk) 132 6 rows) slq fun hok=>?_))))
    refine cd_abs2 [T,VR (.slice ua x.args.length uk) 132 6 rows] W fun W2 hE4 hsel hpk=>?_
    have hE5:=hE3.trans hE4
    have hargs:Ls W2 (.slice ua x.args.length uk) (x.args.map (subV (ae l p.name).forms p.args)):=by
     have:=Rws.ls (E:=132) (hro.up hE4) hok (hsel _ _ (.there .here)) (show (x.args.map (subV (ae l p.name).forms p.args)).length * 72≤reachBytes by rw [List.length_map]; exact hx5.sizes)
     exact this
    have hrc:Enc.rep W2 [sv p.name,sv x.name,.int .i64 (i:Nat),sv (bK p x.name),.int .i64 kd,.slice ax2 x.seeds.length kx2,sv x.impl.cls,sv x.impl.name,.slice ua x.args.length uk,.int .i64 (cO (ae l p.name).forms p.args x.ty).kind,sv (cO (ae l p.name).forms p.args x.ty).name,.slice nya (cO (ae l p.name).forms p.args x.ty).args.length nyc,.bool (cO (ae l p.name).forms p.args x.ty).void,.bool (cO (ae l p.name).forms p.args x.ty).sep,.slice ax11 x.clients.length kx11,.slice ax12 x.pre.length kx12,.slice ax13 x.post.length kx13,.int .i64 x.kind] (qL (ae l p.name).forms i p x):=by
     subst hkd
     exact cm_of (x:=qL (ae l p.name).forms i p x) ⟨hx2.up hE5,hargs,hny.up' (hpk _ _ .here),hx11.up hE5,hx12.up hE5,hx13.up hE5⟩
    have hyy:=hy _ W2 s _ _ hatj ((hE.trans hE2).trans hE5) hrc (hmon _ _ _ _ hE5 hΦ)
    refine cR (sM Z (sV (ag Z gU Z af) ?_))
    refine uC (gd:=0) (.inl Z) Z Z hyy (Pk.of (hr:=pt b9 (cl [sv p.name,sv x.name,.int .i64 (i:Nat),sv (bK p x.name),.int .i64 kd,.slice ax2 x.seeds.length kx2,sv x.impl.cls,sv x.impl.name,.slice ua x.args.length uk,.int .i64 (cO (ae l p.name).forms p.args x.ty).kind,sv (cO (ae l p.name).forms p.args x.ty).name,.slice nya (cO (ae l p.name).forms p.args x.ty).args.length nyc,.bool (cO (ae l p.name).forms p.args x.ty).void,.bool (cO (ae l p.name).forms p.args x.ty).sep,.slice ax11 x.clients.length kx11,.slice ax12 x.pre.length kx12,.slice ax13 x.post.length kx13,.int .i64 x.kind] 191)::pt b8 (cl [sv x.name,.int .i64 x.kind,.slice ax2 x.seeds.length kx2,sv x.impl.cls,sv x.impl.name,.slice ax5 x.args.length kx5,.int .i64 x.ty.kind,sv x.ty.name,.slice axy x.ty.args.length kxy,.bool x.ty.void,.bool x.ty.sep,.slice ax11 x.clients.length kx11,.slice ax12 x.pre.length kx12,.slice ax13 x.post.length kx13] 75)::pt b5 (cl [sv p.name,.slice aA p.args.length kA,.slice aR p.ren.length kR,.slice aU p.und.length kU,.slice aD p.red.length kD,.slice aS p.sel.length kS] 88)::pt b1 (cl [sv c.name,.bool c.dfd,ca,.slice (some ⟨pb,po,none⟩) c.pars.length ck,ce,cf,ci] 44)::pt b2 (cl [v,.map (some mb)] 114)::hr) (by exact .cons _ (List.perm_append_comm_assoc [pt b9 (cl [sv p.name,sv x.name,.int .i64 (i:Nat),sv (bK p x.name),.int .i64 kd,.slice ax2 x.seeds.length kx2,sv x.impl.cls,sv x.impl.name,.slice ua x.args.length uk,.int .i64 (cO (ae l p.name).forms p.args x.ty).kind,sv (cO (ae l p.name).forms p.args x.ty).name,.slice nya (cO (ae l p.name).forms p.args x.ty).args.length nyc,.bool (cO (ae l p.name).forms p.args x.ty).void,.bool (cO (ae l p.name).forms p.args x.ty).sep,.slice ax11 x.clients.length kx11,.slice ax12 x.pre.length kx12,.slice ax13 x.post.length kx13,.int .i64 x.kind] 191),pt b8 (cl [sv x.name,.int .i64 x.kind,.slice ax2 x.seeds.length kx2,sv x.impl.cls,sv x.impl.name,.slice ax5 x.args.length kx5,.int .i64 x.ty.kind,sv x.ty.name,.slice axy x.ty.args.length kxy,.bool x.ty.void,.bool x.ty.sep,.slice ax11 x.clients.length kx11,.slice ax12 x.pre.length kx12,.slice ax13 x.post.length kx13] 75),pt b5 (cl [sv p.name,.slice aA p.args.length kA,.slice aR p.ren.length kR,.slice aU p.und.length kU,.slice aD p.red.length kD,.slice aS p.sel.length kS] 88),pt b1 (cl [sv c.name,.bool c.dfd,ca,.slice (some ⟨pb,po,none⟩) c.pars.length ck,ce,cf,ci] 44),pt b2 (cl [v,.map (some mb)] 114)] (mps mb m::Inv s) hr))) (ltn Z) ?_
    rintro u h' (⟨rfl,Y2,s2,hE6,hΦ2,rfl⟩ | ⟨rfl,Y2,t,hE6,hS,rfl⟩)
    ·refine sV (bi Z) (sN (nK9 [0,2,4,5,6,13,14,15,30,31,32,110] Z (nT (aG Z ?_))))
     refine cK9 (xB (xT (cR (sV (aI Z Z (by unfold I64 at *; omega)) (sM Z (sN (nK9 [0,2,4,5,6,13,14,15,30,31,32] Z (ax (Ca (k:=pt b9 (cl [sv p.name,sv x.name,.int .i64 (i:Nat),sv (bK p x.name),.int .i64 kd,.slice ax2 x.seeds.length kx2,sv x.impl.cls,sv x.impl.name,.slice ua x.args.length uk,.int .i64 (cO (ae l p.name).forms p.args x.ty).kind,sv (cO (ae l p.name).forms p.args x.ty).name,.slice nya (cO (ae l p.name).forms p.args x.ty).args.length nyc,.bool (cO (ae l p.name).forms p.args x.ty).void,.bool (cO (ae l p.name).forms p.args x.ty).sep,.slice ax11 x.clients.length kx11,.slice ax12 x.pre.length kx12,.slice ax13 x.post.length kx13,.int .i64 x.kind] 191)::pt b8 (cl [sv x.name,.int .i64 x.kind,.slice ax2 x.seeds.length kx2,sv x.impl.cls,sv x.impl.name,.slice ax5 x.args.length kx5,.int .i64 x.ty.kind,sv x.ty.name,.slice axy x.ty.args.length kxy,.bool x.ty.void,.bool x.ty.sep,.slice ax11 x.clients.length kx11,.slice ax12 x.pre.length kx12,.slice ax13 x.post.length kx13] 75)::pt b5 (cl [sv p.name,.slice aA p.args.length kA,.slice aR p.ren.length kR,.slice aU p.und.length kU,.slice aD p.red.length kD,.slice aS p.sel.length kS] 88)::pt b1 (cl [sv c.name,.bool c.dfd,ca,.slice (some ⟨pb,po,none⟩) c.pars.length ck,ce,cf,ci] 44)::pt b2 (cl [v,.map (some mb)] 114)::Y2::mps mb m::(Inv s2++hr)) (by exact List.perm_append_comm_assoc (Y2::mps mb m::Inv s2) [pt b9 (cl [sv p.name,sv x.name,.int .i64 (i:Nat),sv (bK p x.name),.int .i64 kd,.slice ax2 x.seeds.length kx2,sv x.impl.cls,sv x.impl.name,.slice ua x.args.length uk,.int .i64 (cO (ae l p.name).forms p.args x.ty).kind,sv (cO (ae l p.name).forms p.args x.ty).name,.slice nya (cO (ae l p.name).forms p.args x.ty).args.length nyc,.bool (cO (ae l p.name).forms p.args x.ty).void,.bool (cO (ae l p.name).forms p.args x.ty).sep,.slice ax11 x.clients.length kx11,.slice ax12 x.pre.length kx12,.slice ax13 x.post.length kx13,.int .i64 x.kind] 191),pt b8 (cl [sv x.name,.int .i64 x.kind,.slice ax2 x.seeds.length kx2,sv x.impl.cls,sv x.impl.name,.slice ax5 x.args.length kx5,.int .i64 x.ty.kind,sv x.ty.name,.slice axy x.ty.args.length kxy,.bool x.ty.void,.bool x.ty.sep,.slice ax11 x.clients.length kx11,.slice ax12 x.pre.length kx12,.slice ax13 x.post.length kx13] 75),pt b5 (cl [sv p.name,.slice aA p.args.length kA,.slice aR p.ren.length kR,.slice aU p.und.length kU,.slice aD p.red.length kD,.slice aS p.sel.length kS] 88),pt b1 (cl [sv c.name,.bool c.dfd,ca,.slice (some ⟨pb,po,none⟩) c.pars.length ck,ce,cf,ci] 44),pt b2 (cl [v,.map (some mb)] 114)] hr) ?_)))))))))
     refine aJ (j+1,Y2,s2) ⟨hltj,(hE2.trans hE5).trans hE6,hΦ2⟩ (by dsimp only; omega)
    ·refine sV (bi Z) (sN (nK9 [0,2,4,5,6,13,14,15,30,31,32,110] Z (nT (aT Z ?_))))
     refine cT (xW (xR (xR (xW (xW (xR (xR (xW (Ca (k:=pt b9 (cl [sv p.name,sv x.name,.int .i64 (i:Nat),sv (bK p x.name),.int .i64 kd,.slice ax2 x.seeds.length kx2,sv x.impl.cls,sv x.impl.name,.slice ua x.args.length uk,.int .i64 (cO (ae l p.name).forms p.args x.ty).kind,sv (cO (ae l p.name).forms p.args x.ty).name,.slice nya (cO (ae l p.name).forms p.args x.ty).args.length nyc,.bool (cO (ae l p.name).forms p.args x.ty).void,.bool (cO (ae l p.name).forms p.args x.ty).sep,.slice ax11 x.clients.length kx11,.slice ax12 x.pre.length kx12,.slice ax13 x.post.length kx13,.int .i64 x.kind] 191)::pt b8 (cl [sv x.name,.int .i64 x.kind,.slice ax2 x.seeds.length kx2,sv x.impl.cls,sv x.impl.name,.slice ax5 x.args.length kx5,.int .i64 x.ty.kind,sv x.ty.name,.slice axy x.ty.args.length kxy,.bool x.ty.void,.bool x.ty.sep,.slice ax11 x.clients.length kx11,.slice ax12 x.pre.length kx12,.slice ax13 x.post.length kx13] 75)::pt b5 (cl [sv p.name,.slice aA p.args.length kA,.slice aR p.ren.length kR,.slice aU p.und.length kU,.slice aD p.red.length kD,.slice aS p.sel.length kS] 88)::pt b1 (cl [sv c.name,.bool c.dfd,ca,.slice (some ⟨pb,po,none⟩) c.pars.length ck,ce,cf,ci] 44)::pt b2 (cl [v,.map (some mb)] 114)::Y2::mps mb m::(t++hr)) (by exact List.perm_append_comm_assoc (Y2::mps mb m::t) [pt b9 (cl [sv p.name,sv x.name,.int .i64 (i:Nat),sv (bK p x.name),.int .i64 kd,.slice ax2 x.seeds.length kx2,sv x.impl.cls,sv x.impl.name,.slice ua x.args.length uk,.int .i64 (cO (ae l p.name).forms p.args x.ty).kind,sv (cO (ae l p.name).forms p.args x.ty).name,.slice nya (cO (ae l p.name).forms p.args x.ty).args.length nyc,.bool (cO (ae l p.name).forms p.args x.ty).void,.bool (cO (ae l p.name).forms p.args x.ty).sep,.slice ax11 x.clients.length kx11,.slice ax12 x.pre.length kx12,.slice ax13 x.post.length kx13,.int .i64 x.kind] 191),pt b8 (cl [sv x.name,.int .i64 x.kind,.slice ax2 x.seeds.length kx2,sv x.impl.cls,sv x.impl.name,.slice ax5 x.args.length kx5,.int .i64 x.ty.kind,sv x.ty.name,.slice axy x.ty.args.length kxy,.bool x.ty.void,.bool x.ty.sep,.slice ax11 x.clients.length kx11,.slice ax12 x.pre.length kx12,.slice ax13 x.post.length kx13] 75),pt b5 (cl [sv p.name,.slice aA p.args.length kA,.slice aR p.ren.length kR,.slice aU p.und.length kU,.slice aD p.red.length kD,.slice aS p.sel.length kS] 88),pt b1 (cl [sv c.name,.bool c.dfd,ca,.slice (some ⟨pb,po,none⟩) c.pars.length ck,ce,cf,ci] 44),pt b2 (cl [v,.map (some mb)] 114)] hr) ?_)))))))))
     exact aj Z ⟨Z,.inr ⟨_,Y2,t,((hE.trans hE2).trans hE5).trans hE6,hS,Z⟩⟩ sbq
  ·have hje:j=(fl p.name).mems.length:=by
    have:¬ j<(fl p.name).mems.length:=by simpa using hd2
    omega
   subst hje
   rw [← hsucc] at hΦ
   refine aB (xE (xE (xY (xB (xT (cR (sV (aI Z Z (by unfold I64 at *; omega)) (sM Z (sN (nK9 [0,2,13,14,15] Z (ax ?_)))))))))))
   refine aJ (i+1,Zq9,s) ⟨hlt,hE.trans hE2,hΦ⟩ (by dsimp only; omega)
 ·have hie:i=c.pars.length:=by
   have:¬ i<c.pars.length:=by simpa using hd
   omega
  subst hie
  rw [Lp] at hΦ
  refine aB (xE (xE (xY ?_)))
  exact zR Z ⟨Z,.inl ⟨Y,s,hE,hΦ,Z⟩⟩ sbq
end
end Go.Fl
