/-
  Package flat: lost yields conflicts of the kinds from CnLost to CnIdle. Conditions: what is read; sizes.
-/
import Derived.Test.YtknmacdbffgjgaaGreatDoorM21
set_option linter.unusedVariables false
set_option linter.unusedSimpArgs false
set_option maxRecDepth 100000
set_option maxHeartbeats 16000000
namespace Go.Fl
open Go Go.RowKit Go.Ck Go.Proofs Go.Proofs.Tryz Go.Proofs.YtknmacdbffgjgaaGreatDoor Fx Go.Hr
structure SkR (X:Res) (S:Sk) (v:Value) (m:List (Nm×Value)) (ca cb ce cf ci mv:Value) (bmp:List (Nm×Value)):Prop where
 l:Ls X v S.l
 a:Ls X ca S.c.forms
 par:Ls X cb S.c.pars
 e:ce.oneCell'=true
 feat:Ls X cf S.c.feats
 inv:Ls X ci S.c.inv
 fl:FlR X m S.fl
 ms:Ls X mv S.ms
 by':∀ n,Ls X ((bJ bmp n).getD (.slice none 0 0)) (under S.cs n)
theorem SkR.up {X Y:Res} {S:Sk} {v:Value} {m bmp:List (Nm×Value)} {ca cb ce cf ci mv:Value} (h:SkR X S v m ca cb ce cf ci mv bmp) (he:Ext X Y):SkR Y S v m ca cb ce cf ci mv bmp :=
 ⟨h.l.up he,h.a.up he,h.par.up he,h.e,h.feat.up he,h.inv.up he,h.fl.up he,h.ms.up he,fun n=>(h.by' n).up he⟩
theorem SkR.c {X:Res} {S:Sk} {v:Value} {m bmp:List (Nm×Value)} {ca cb ce cf ci mv:Value} (h:SkR X S v m ca cb ce cf ci mv bmp):Enc.rep X [sv S.c.name,.bool S.c.dfd,ca,cb,ce,cf,ci] S.c:=⟨ca,cb,ce,cf,ci,rfl,h.a,h.par,h.e,h.feat,h.inv⟩
theorem ls_cat {Y:Res} {b:Nat} {x y z:Value} {p q s:List Nm} (h1:Ls Y x p) (h2:Ls Y y q) (h3:Ls Y z s):Ls (Res.star [pt b (cl [x,y,z] 40),Y]) (.slice (some ⟨b,0,none⟩) 3 3) [p,q,s]:=
 ⟨⟨some ⟨b,0,none⟩,3,rfl,Nat.le_refl _,by decide,(fun h=>by cases h),fun i w hi=>by
  match i,hi with
  | 0,hi=>cases hi; exact ⟨b,0,[x],rfl,rfl,fun i hi=>by match i,hi with | 0,_=>exact bH .here _ _ (bU rfl),x,rfl,h1.up' (bH (.there .here))⟩
  | 1,hi=>cases hi; exact ⟨b,0,[y],rfl,rfl,fun i hi=>by match i,hi with | 0,_=>exact bH .here _ _ (bU rfl),y,rfl,h2.up' (bH (.there .here))⟩
  | 2,hi=>cases hi; exact ⟨b,0,[z],rfl,rfl,fun i hi=>by match i,hi with | 0,_=>exact bH .here _ _ (bU rfl),z,rfl,h3.up' (bH (.there .here))⟩⟩,(by show 3 * 24≤reachBytes; decide)⟩
theorem reads_nil {P:Program} {k:FuncId} {args:Array Value} {X:Res} {v:Value} (h:Reads P k args [] v):Reads P k args [X] v:=fun hr w hh =>
 (h (X::hr) w hh).mono fun _ _ ⟨u,h',he,⟨hu,hh'⟩,hH,hS⟩=>⟨u,[X],he,⟨hu,rfl⟩,by subst hh'; exact hH,hS⟩
structure SkB (S:Sk):Prop where
 fits:Fits S.l S.fl
 cls:S.c∈S.l
 ms:(S.ms.flatMap fun m=>m.seeds).length≤432000
 mf:S.ms.length≤300
theorem SkB.under {S:Sk} (h:SkB S) (n:Nm):(under S.cs n).length≤240:=Nat.le_trans (List.length_filter_le _ _) (h.fits.few (.inl h.cls))
theorem SkB.fro {S:Sk} (h:SkB S) (i:Nat) (n:Nm):(S.fro i n).length≤240:=Nat.le_trans (List.length_filter_le _ _) (h.under n)
theorem SkB.lists {S:Sk} (h:SkB S) {p:Pt} (hp:p∈S.c.pars):p.ren.length≤12∧p.und.length≤12∧p.red.length≤12∧p.sel.length≤12:=h.fits.lists _ h.cls p hp
namespace Sk
section
variable (s:Sk)
def f1a (p:Pt×Nat) (r:Pn):List Cf:=if (dR (s.fl p.1.name).mems r.fro).isNone then [s.cf 1 r.fro ⟨p.1.name,r.fro⟩ og0] else []
def f1b (p:Pt×Nat) (n:Nm):List Cf:=if s.fro p.2 n=[] then [s.cf 1 n ⟨p.1.name,n⟩ og0] else []
def f1 (p:Pt×Nat):List Cf:=p.1.ren.flatMap (s.f1a p)++[p.1.und,p.1.red,p.1.sel].flatten.flatMap (s.f1b p)
def f2a (p:Pt) (n:Nm):List Cf:=if p.red.contains n then [s.cf 2 n ⟨p.name,n⟩ og0] else []
def f2 (p:Pt):List Cf:=p.und.flatMap (s.f2a p)
def f3a (p:Pt×Nat) (m:Mb):List Cf:=if 1<(s.fro p.2 (bK p.1 m.name)).length then s.cpairs (s.fro p.2 (bK p.1 m.name)) 3 (fun _ _=>true) else []
def f3 (p:Pt×Nat):List Cf:=(s.fl p.1.name).mems.flatMap (s.f3a p)
def f4b (n:Nm) (x:Cm):List Cf:=if x.was≠2 then [s.cf 4 n x.og og0] else []
def f4a (p:Pt×Nat) (n:Nm):List Cf:=(s.fro p.2 n).flatMap (s.f4b n)
def f4 (p:Pt×Nat):List Cf:=p.1.und.flatMap (s.f4a p)
def f5a (p:Pt) (n:Nm):List Cf:=if (feat s.c n).isNone then [s.cf 5 n ⟨p.name,n⟩ og0] else []
def f5 (p:Pt):List Cf:=p.red.flatMap (s.f5a p)
theorem lost_eq (R:List Cf):s.lost++R=s.c.pars.zipIdx.flatMap s.f1++(s.c.pars.flatMap s.f2++(s.c.pars.zipIdx.flatMap s.f3++(s.c.pars.zipIdx.flatMap s.f4++(s.c.pars.flatMap s.f5++R)))):=by
 have h1:∀ p,s.f1 p=(p.1.ren.flatMap fun r=>if (dR (s.fl p.1.name).mems r.fro).isNone then [s.cf 1 r.fro ⟨p.1.name,r.fro⟩ og0] else []) ++
   (p.1.und++p.1.red++p.1.sel).flatMap fun n=>if s.fro p.2 n=[] then [s.cf 1 n ⟨p.1.name,n⟩ og0] else []:=fun p=>by
  unfold f1
  congr 1
  simp only [List.flatten_cons,List.flatten_nil,List.append_nil,List.append_assoc]
  rfl
 have h2:s.c.pars.zipIdx.flatMap s.f1=s.pz.flatMap fun p=>(p.1.ren.flatMap fun r=>if (dR (s.fl p.1.name).mems r.fro).isNone then [s.cf 1 r.fro ⟨p.1.name,r.fro⟩ og0] else []) ++
   (p.1.und++p.1.red++p.1.sel).flatMap fun n=>if s.fro p.2 n=[] then [s.cf 1 n ⟨p.1.name,n⟩ og0] else []:=dD fun p _=>h1 p
 rw [h2]
 unfold lost
 simp only [List.append_assoc]
 rfl
end
end Sk
attribute [local irreducible] Go.Ck.Sub St Cd Xt Nx DrL LsW
section
variable {X Y:Res} {v v':Value} {us us':List Value}

theorem lost_ct {yl mb bm : Nat} {Φ : List Cf → Res → Prop} {Stop : Cf → Res → Prop} (hy : Yh yl Φ Stop) {S : Sk} {all : Bool} (hall : S.all = all) {m bmp : List (Nm × Value)} {ca cb ce cf ci mv : Value} (hK : SkR X S v m ca cb ce cf ci mv bmp) (hB : SkB S) (R : List Cf) (r0 : Res) (h0 : Φ (S.lost ++ R) r0) :
  CtX prog 128 #[.agg (eU v (.map (some mb)) S.c ca cb ce cf ci mv (.map (some bm)) all).toArray,.func (.yield yl) #[] #[]] X [mps mb m,mps bm bmp,r0] fun u Y k'=>∃ r,k'=[mps mb m,mps bm bmp,r]∧Yend Φ Stop R u r:=by
 have hml:maxLen=9223372036854775807:=rfl
 obtain ⟨cb,ck,rfl,hckl,hckm,_⟩:=id hK.par.form
 obtain ⟨cf,cfk,rfl,_⟩:=id hK.feat.form
 obtain ⟨mA,mK,rfl,_⟩:=id hK.ms.form
 have hcn:=fun b=>fM (fv:=.map (some mb)) (c:=S.c) (v:=v) (ca:=ca) (cb:=.slice cb S.c.pars.length ck) (ce:=ce) (cf:=.slice cf S.c.feats.length cfk) (ci:=ci) (mv:=.slice mA S.ms.length mK) (bv:=.map (some bm)) (all:=all) b
 rw [Sk.lost_eq] at h0
 generalize hT5:S.c.pars.flatMap S.f5++R=T4 at h0
 generalize hT4:S.c.pars.zipIdx.flatMap S.f4++T4=T3 at h0
 generalize hT3:S.c.pars.zipIdx.flatMap S.f3++T3=T2 at h0
 generalize hT2:S.c.pars.flatMap S.f2++T2=T1 at h0
 unfold CtX
 unfold eU at *
 refine aL (n:=271) func128 Z Z (len Z) fun hr w0=>?_
 refine cQ (aV Z Z fun b2=>?_)
 refine sV (vA9 Z) (sN (nK9 [1,2,4] Z (nT (cS (cQ (sV (vF Z gM Z) (sV (vF Z eX Z) (sV (vY Z lT) ?_))))))))
 refine sV (aF Z underlying39) (sM Z (sN (nK9 [1,2,4,36,37,38] Z (nT (cB (aZ (σ := Res×Res×Nat) (fun q=>[(1,.func (.yield yl) #[] #[]),(2,.pointer (some ⟨b2,0,none⟩)),(36,.slice cb S.c.pars.length ck),(37,.int .i64 S.c.pars.length),(38,.int .i64 (q.2.2:Nat))]) (fun q=>pt b2 (cl [v,.map (some mb),sv S.c.name,.bool S.c.dfd,ca,.slice cb S.c.pars.length ck,ce,.slice cf S.c.feats.length cfk,ci,.slice mA S.ms.length mK,.map (some bm),.bool all] 206)::q.1::mps mb m::mps bm bmp::q.2.1::hr) (fun q=>Ext X q.1∧q.2.2≤S.c.pars.length ∧ Φ ((S.c.pars.zipIdx.drop q.2.2).flatMap (S.f1)++T1) q.2.1) (fun q=>S.c.pars.length - q.2.2) (X,r0,0) ⟨Ext.refl X,Nat.zero_le _,h0⟩ ?_))))))
 clear h0
 rintro ⟨Y,r,i⟩ ⟨hE,hi,hΦ⟩
 simp only at hE hi hΦ
 dsimp only
 refine cQ (sV (aO Z Z) (sN (nT (cS (cC Z (fun hd=>?_) (fun hd=>?_))))))
 ·have hlt:i<S.c.pars.length:=by simpa using hd
  rw [j6 hlt,List.append_assoc] at hΦ
  have hlis:=hB.lists (List.getElem_mem hlt)
  obtain ⟨pb,po,pcap,pus,e1,hpus,hprd,hp⟩:=(hK.par.up hE).at (List.getElem?_eq_getElem hlt)
  obtain ⟨rfl,rfl⟩:cb=some ⟨pb,po,none⟩∧ck=pcap:=by cases e1; exact ⟨rfl,rfl⟩
  generalize S.c.pars[i]=p at hΦ hlis hp
  generalize hA:(S.c.pars.zipIdx.drop (i+1)).flatMap (S.f1)++T1=A at hΦ
  obtain ⟨hlR,hlU,hlD,hlS⟩:=hlis
  have hp0:=hp
  obtain ⟨pa,pr,pu,pd,pS,rfl,hpa,hpR,hpu,hpd,hpsel⟩:=hp
  obtain ⟨aA,kA,rfl,_⟩:=id hpa.form
  obtain ⟨aR,kR,rfl,_⟩:=id hpR.form
  obtain ⟨aU,kU,rfl,_⟩:=id hpu.form
  obtain ⟨aD,kD,rfl,_⟩:=id hpd.form
  obtain ⟨aS,kS,rfl,_⟩:=id hpsel.form
  refine cK9 (xT (cS (cB (cQ (sM Z (sV (vI (k:=i) Z Z oF Z hlt Z) (sV (ag Z p8 Z hprd) ?_)))))))
  refine au uW fun b6=>?_
  refine sV (vA9 Z) (ai Z Z rM Z Z ?_)
  have hΦ : Φ (p.ren.flatMap (S.f1a (p,i))++([p.und,p.red,p.sel].flatten.flatMap (S.f1b (p,i))++A)) r:=by rw [← List.append_assoc]; exact hΦ
  generalize hA2:[p.und,p.red,p.sel].flatten.flatMap (S.f1b (p,i))++A=A2 at hΦ
  refine sN (nK9 [1,2,5,6,36,37,38] Z (nT (cS (cQ (sV (vF Z zZ Z) (sV (vY Z ld86) ?_))))))
  refine sV (aF Z underlying86) (sM Z (sN (nK9 [1,2,5,6,36,37,38,44,45,46] Z (nT (cB (aZ (σ := Res×Res×Nat) (fun q=>[(1,.func (.yield yl) #[] #[]),(2,.pointer (some ⟨b2,0,none⟩)),(36,.slice (some ⟨pb,po,none⟩) S.c.pars.length ck),(37,.int .i64 S.c.pars.length),(38,.int .i64 (i:Nat)),(5,.int .i64 (i:Nat)),(6,.pointer (some ⟨b6,0,none⟩)),(44,.slice aR p.ren.length kR),(45,.int .i64 p.ren.length),(46,.int .i64 (q.2.2:Nat))]) (fun q=>pt b6 (cl [sv p.name,.slice aA p.args.length kA,.slice aR p.ren.length kR,.slice aU p.und.length kU,.slice aD p.red.length kD,.slice aS p.sel.length kS] 88)::pt b2 (cl [v,.map (some mb),sv S.c.name,.bool S.c.dfd,ca,.slice (some ⟨pb,po,none⟩) S.c.pars.length ck,ce,.slice cf S.c.feats.length cfk,ci,.slice mA S.ms.length mK,.map (some bm),.bool all] 206)::q.1::mps mb m::mps bm bmp::q.2.1::hr) (fun q=>Ext Y q.1∧q.2.2≤p.ren.length ∧ Φ ((p.ren.drop q.2.2).flatMap (S.f1a (p,i))++A2) q.2.1) (fun q=>p.ren.length - q.2.2) (Y,r,0) ⟨Ext.refl Y,Nat.zero_le _,hΦ⟩ ?_))))))
  clear hΦ
  rintro ⟨Zq9,r,j⟩ ⟨hE2,hj,hΦ⟩
  simp only at hE2 hj hΦ
  dsimp only
  refine cQ (sV (aO Z Z) (sN (nT (cS (cC Z (fun hd2=>?_) (fun hd2=>?_))))))
  ·have hltj:j<p.ren.length:=by simpa using hd2
   rw [dX hltj,List.append_assoc] at hΦ
   have hEZ:=hE.trans hE2
   obtain ⟨nb,no,ncap,nus,e2,hnus,hnrd,hn⟩:=(hpR.up hE2).at (List.getElem?_eq_getElem hltj)
   obtain ⟨rfl,rfl⟩:aR=some ⟨nb,no,none⟩∧kR=ncap:=by cases e2; exact ⟨rfl,rfl⟩
   generalize p.ren[j]=x at hΦ hn
   subst hn
   refine cK9 (xT (cS (cB (cQ (sV (vI (k:=j) Z Z sl86 Z hltj Z) (sV (ag Z qB Z hnrd) ?_))))))
   refine au ER fun b8=>?_
   refine ai Z Z zT Z Z ?_
   refine sN (nK9 [1,2,5,6,8,36,37,38,44,45,46] Z (nT (cQ (sV (vF Z DL Z) (sV (vF Z iG Z) (sV (vY Z pJ) ?_))))))
   refine sV (vF Z gH Z) (sV (vY Z ld9) ?_)
   obtain ⟨fus,hfl,hfr2⟩:=(hK.fl.up hEZ) p.name
   obtain ⟨mx,my,rfl,hmx,hmy⟩:=hfr2
   obtain ⟨qA,qK,rfl,_⟩:=id hmx.form
   refine sV (gB hfl (bI Z Z pG pI slq)) ?_
   refine sV (iF (k:=2) Z underlying55 Z isAgg52 Z) (sV (vF Z zf Z) (sV (vY Z ld9) ?_))
   refine aH Z Z en169 Z (tJ (n:=x.fro) hmx) ?_
   rintro u h' ⟨rfl,gus,rfl,hgr⟩
   simp only [lC,lN]
   have hg14:gus.length=14:=Enc.len hgr
   have hgo:=Enc.ones hgr
   refine sM Z (sV (ah Z Z) (sV (ah Z Z) (au jQ fun b9=>?_)))
   refine ai (hl:=by rw [hg14]; rfl) Z Z iD hg14 hgo ?_
   refine sV (vA9 Z) (sN (nK9 [1,2,5,6,8,10,36,37,38,44,45,46] Z (nT (cQ (sM Z (sV (bi Z) (sM Z ?_)))))))
   have hmf:((S.fl p.name).mems.find? fun c=>c.name == x.fro)=dR (S.fl p.name).mems x.fro:=rfl
   rw [hmf]
   unfold Sk.f1a at hΦ
   dsimp only at hΦ
   cases hq:dR (S.fl p.name).mems x.fro
   ·rw [hq] at hΦ
    have hΦ2 : Φ (S.cf 1 x.fro ⟨p.name,x.fro⟩ og0::((p.ren.drop (j+1)).flatMap (S.f1a (p,i))++A2)) r:=hΦ
    refine sG Z Z (vM Z) (sG Z Z (ag Z fC Z af) ?_)
    refine sG Z Z (vF Z zf Z) (sG Z Z (vY Z ld9) ?_)
    refine sG Z Z (vF Z gH Z) (sG Z Z (vY Z ld9) ?_)
    refine sG Z Z (vF Z zf Z) (sG Z Z (vY Z ld9) ?_)
    refine sG Z Z (aN (cells:=[sv p.name,sv x.fro]) Z (fun _=>by kernel_rfl)) ?_
    refine sG Z Z (aN (cells:=[sv [],sv []]) Z (fun _=>by kernel_rfl)) ?_
    refine bR Z Z Z Z jR Z (hcn 1 x.fro ⟨p.name,x.fro⟩ og0) ?_
    refine j4 (gd:=65) (.inr ⟨_,_,Z,Z,Z⟩) Z Z (hy _ _ _ hΦ2) ?_
    rintro u h' (⟨rfl,r',hΦ4,rfl⟩ | ⟨rfl,r',hst,rfl⟩)
    ·simp only [lC,lN]
     refine sG Z Z (bi Z) (sV (vQ Z Z) (sN (nK9 [1,2,5,6,36,37,38,44,45,46,79] Z (nT (aG Z ?_)))))
     refine cK9 (xB (xT (cR (sV (aI Z Z (by unfold I64 at *; omega)) (sM Z (sN (nK9 [1,2,5,6,36,37,38,44,45,46] Z (ax ?_))))))))
     refine aJ (Zq9,r',j+1) ⟨hE2,hltj,hΦ4⟩ (by dsimp only; omega)
    ·simp only [lC,lN]
     refine sG Z Z (bi Z) (sV (vQ Z Z) (sN (nK9 [1,2,5,6,36,37,38,44,45,46,79] Z (nT (aT Z ?_)))))
     refine cQ (sV (vA9 Z) (sN (nK9 [4] Z (nT (cT (xW (xR (xR (xW (xR (xW (xR (xR (xW ?_))))))))))))))
     refine xR ?_
     exact aj Z ⟨Zq9,[mps mb m,mps bm bmp,r'],Z,hEZ,r',Z,.inr ⟨Z,_,hst⟩⟩ sbq
   ·rw [hq] at hΦ
    iterate 13 refine aC rfl rfl rfl ?_
    refine sV (vP Z Z) (sN (nK9 [1,2,5,6,36,37,38,44,45,46,79] Z (nT (aG Z ?_))))
    refine cK9 (xB (xT (cR (sV (aI Z Z (by unfold I64 at *; omega)) (sM Z (sN (nK9 [1,2,5,6,36,37,38,44,45,46] Z (ax ?_))))))))
    refine aJ (Zq9,r,j+1) ⟨hE2,hltj,hΦ⟩ (by dsimp only; omega)
  ·have hje:j=p.ren.length:=Nat.le_antisymm hj (Nat.not_lt.1 (by simpa using hd2))
   subst hje
   rw [dF,List.nil_append] at hΦ
   generalize hns:[p.und,p.red,p.sel].flatten=ns at hA2
   have hnl:ns.length≤36:=by
    rw [← hns]
    simp only [List.flatten_cons,List.flatten_nil,List.append_nil,List.length_append]
    omega
   have hcat:∀ b87,CtN prog 205 #[.slice (some ⟨b87,0,none⟩) 3 3] [pt b87 (cl [.slice aU p.und.length kU,.slice aD p.red.length kD,.slice aS p.sel.length kS] 40),Zq9] fun u T=>u.oneCell'=true∧T=NR u ns:=fun b87=>by
    have h:=Ep (ls_cat (b:=b87) (hpu.up hE2) (hpd.up hE2) (hpsel.up hE2)) (by rw [hns]; omega)
    rw [hns] at h
    exact jS h
   refine aB (xE (xE (xY (xT (cQ (sV (vF Z wX Z) (sV (vY Z fH) ?_)))))))
   refine sV (vF Z wY Z) (sV (vY Z fH) ?_)
   refine sV (vF Z z8 Z) (sV (vY Z fH) ?_)
   refine ak (cells:=[.slice aU p.und.length kU,.slice aD p.red.length kD,.slice aS p.sel.length kS]) Z underlying325 inf40 Z Z (by kernel_rfl) (ltn Z) fun b87=>?_
   refine aH Z Z en205 Z (hcat b87) ?_
   rintro u h' ⟨T,rfl,hu,rfl⟩
   simp only [lC,lN]
   unfold NR
   refine jk (v:=u) (E:=9) (sz:=1) (rows:=ns.map nC) slq fun wa wc hwf hwl hwm=>?_
   rw [List.length_map] at hwf hwl
   subst hwf
   refine sV (aF Z underlying40) (sM Z (sN (nK9 [1,2,5,6,36,37,38,88,89,90] Z (nT (cB ?_)))))
   rw [← hA2] at hΦ
   refine aZ (σ := Res×Res×Nat) (fun q=>[(1,.func (.yield yl) #[] #[]),(2,.pointer (some ⟨b2,0,none⟩)),(36,.slice (some ⟨pb,po,none⟩) S.c.pars.length ck),(37,.int .i64 S.c.pars.length),(38,.int .i64 (i:Nat)),(5,.int .i64 (i:Nat)),(6,.pointer (some ⟨b6,0,none⟩)),(88,.slice wa ns.length wc),(89,.int .i64 ns.length),(90,.int .i64 (q.2.2:Nat))]) (fun q=>VR (.slice wa ns.length wc) 9 1 (ns.map nC)::pt b6 (cl [sv p.name,.slice aA p.args.length kA,.slice aR p.ren.length kR,.slice aU p.und.length kU,.slice aD p.red.length kD,.slice aS p.sel.length kS] 88)::pt b2 (cl [v,.map (some mb),sv S.c.name,.bool S.c.dfd,ca,.slice (some ⟨pb,po,none⟩) S.c.pars.length ck,ce,.slice cf S.c.feats.length cfk,ci,.slice mA S.ms.length mK,.map (some bm),.bool all] 206)::q.1::mps mb m::mps bm bmp::q.2.1::hr) (fun q=>Ext Zq9 q.1∧q.2.2≤ns.length ∧ Φ ((ns.drop q.2.2).flatMap (S.f1b (p,i))++A) q.2.1) (fun q=>ns.length - q.2.2) (Zq9,r,0) ⟨Ext.refl Zq9,Nat.zero_le _,hΦ⟩ ?_
   clear hΦ
   rintro ⟨Y2,r,k⟩ ⟨hE3,hk,hΦ⟩
   simp only at hE3 hk hΦ
   dsimp only
   refine cQ (sV (aO Z Z) (sN (nT (cS (cC Z (fun hd3=>?_) (fun hd3=>?_))))))
   ·have hltk:k<ns.length:=by simpa using hd3
    rw [dX hltk,List.append_assoc] at hΦ
    have hnx:(ns.map nC)[k]? = some [sv ns[k]]:=by rw [List.getElem?_map,List.getElem?_eq_getElem hltk]; rfl
    refine fI (r:=VR (.slice wa ns.length wc) 9 1 (ns.map nC)) slq fun hok=>?_
    obtain ⟨ab,ao,rfl⟩:∃ ab ao,wa=some ⟨ab,ao,none⟩:=by
     obtain ⟨f0,hf0⟩:=hok
     rcases VR.form hf0 with ⟨h3,h4⟩ | ⟨b,o,cp,h3,-⟩
     ·have:=List.map_eq_nil_iff.1 h4
      subst this; simp at hltk
     ·rw [List.length_map] at h3; cases h3; exact ⟨b,o,rfl⟩
    generalize ns[k]=n at hΦ hnx
    refine cK9 (xT (cS (cB (cQ (sV (vI (k:=k) Z Z jh Z hltk Z) (sV (vY Z ld9 (ha:=⟨_,_,slq,eQ hnx 0 (by simp)⟩)) ?_))))))
    refine sV (vA9 Z) (sN (nK9 [1,2,5,6,12,36,37,38,88,89,90] Z (nT (cQ ?_))))
    have hK9:=hK.up (hE.trans (hE2.trans hE3))
    refine sV (ag Z fC Z af) ?_
    refine sM Z (sM Z (aH Z Z JP Z (o8 (v:=v) (fv:=.map (some mb)) (c:=S.c) (ca:=ca) (cb:=.slice (some ⟨pb,po,none⟩) S.c.pars.length ck) (ce:=ce) (cf:=.slice cf S.c.feats.length cfk) (ci:=ci) (mv:=.slice mA S.ms.length mK) (all:=all) (bm:=bm) (i:=i) (n:=n) (hK9.by' n) (by have:=hB.under n; omega)) ?_))
    rintro u h' ⟨Y3,k9,rfl,hE4,rows,hu,hro,rfl⟩
    simp only [lC,lN]
    have hro:Rws Y3 rows (S.fro i (n)):=hro
    have hrl:=hro.1
    have hfl:=hB.fro i (n)
    refine jk (v:=u) (E:=191) (sz:=18) (rows:=rows) slq fun la lc hlf hll hlm=>?_
    rw [hrl] at hlf hll
    subst hlf
    refine sV (aF Z underlying187) (sV (dB Z Z) (sM Z ?_))
    unfold Sk.f1b at hΦ
    dsimp only at hΦ
    by_cases hq:S.fro i n=[]
    ·rw [if_pos hq] at hΦ
     have hΦ2 : Φ (S.cf 1 n ⟨p.name,n⟩ og0::((ns.drop (k+1)).flatMap (S.f1b (p,i))++A)) r:=hΦ
     have hg:(((S.fro i n).length:Int) == 0)=true:=by rw [hq]; rfl
     rw [hg]
     refine sG Z Z (vM Z) (sG Z Z (ag Z fC Z af) ?_)
     refine sG Z Z (vM Z) (sG Z Z (vF Z gH Z) (sG Z Z (vY Z ld9) ?_))
     refine sG Z Z (vM Z) (sG Z Z (aN (cells:=[sv p.name,sv n]) Z (fun _=>by kernel_rfl)) ?_)
     refine sG Z Z (aN (cells:=[sv [],sv []]) Z (fun _=>by kernel_rfl)) ?_
     refine bR Z Z Z Z jR Z (hcn 1 n ⟨p.name,n⟩ og0) ?_
     refine j4 (gd:=100) (.inr ⟨_,_,Z,Z,Z⟩) Z Z (hy _ _ _ hΦ2) ?_
     rintro u h' (⟨rfl,r',hΦ4,rfl⟩ | ⟨rfl,r',hst,rfl⟩)
     ·simp only [lC,lN]
      refine sG Z Z (bi Z) (sV (vQ Z Z) (sN (nK9 [1,2,5,6,36,37,38,88,89,90,112] Z (nT (aG Z ?_)))))
      refine cK9 (xB (xT (cR (sV (aI Z Z (by unfold I64 at *; omega)) (sM Z (sN (nK9 [1,2,5,6,36,37,38,88,89,90] Z (ax ?_))))))))
      refine aJ (Y3,r',k+1) ⟨hE3.trans hE4,hltk,hΦ4⟩ (by dsimp only; omega)
     ·simp only [lC,lN]
      refine sG Z Z (bi Z) (sV (vQ Z Z) (sN (nK9 [1,2,5,6,36,37,38,88,89,90,112] Z (nT (aT Z ?_)))))
      refine cQ (sV (vA9 Z) (sN (nK9 [4] Z (nT (cT (xW (xR (xR (xW (xW (xR (xR (xW (xR ?_))))))))))))))
      exact aj Z ⟨Y3,[mps mb m,mps bm bmp,r'],Z,hE.trans (hE2.trans (hE3.trans hE4)),r',Z,.inr ⟨Z,_,hst⟩⟩ sbq
    ·rw [if_neg hq] at hΦ
     have hg:(((S.fro i n).length:Int) == 0)=false:=by
      have:=List.length_pos_iff.2 hq
      simp only [beq_eq_false_iff_ne,ne_eq]; omega
     rw [hg]
     iterate 11 refine aC rfl rfl rfl ?_
     refine sV (vP Z Z) (sN (nK9 [1,2,5,6,36,37,38,88,89,90,112] Z (nT (aG Z ?_))))
     refine cK9 (xB (xT (cR (sV (aI Z Z (by unfold I64 at *; omega)) (sM Z (sN (nK9 [1,2,5,6,36,37,38,88,89,90] Z (ax ?_))))))))
     refine aJ (Y3,r,k+1) ⟨hE3.trans hE4,hltk,hΦ⟩ (by dsimp only; omega)
   ·have hke:k=ns.length:=Nat.le_antisymm hk (Nat.not_lt.1 (by simpa using hd3))
    subst hke
    rw [dF,List.nil_append] at hΦ
    refine aB (xE (xE (xY (xB (xT (cR (sV (aI Z Z (by unfold I64 at *; omega)) (sM Z (sN (nK9 [1,2,36,37,38] Z (ax ?_)))))))))))
    refine aJ (Y2,r,i+1) ⟨hE.trans (hE2.trans hE3),hlt,by rw [hA]; exact hΦ⟩ (by dsimp only; omega)
 ·have hie:i=S.c.pars.length:=Nat.le_antisymm hi (Nat.not_lt.1 (by simpa using hd))
  subst hie
  rw [mG,List.nil_append] at hΦ
  rw [← hT2] at hΦ
  refine aB (xE (xE (xY (xT (cS (cQ (sV (vF Z gM Z) (sV (vF Z eX Z) (sV (vY Z lT) ?_)))))))))
  refine sV (aF Z underlying39) (sM Z (sN (nK9 [1,2,117,118,119] Z (nT (cB (aZ (σ := Res×Res×Nat) (fun q=>[(1,.func (.yield yl) #[] #[]),(2,.pointer (some ⟨b2,0,none⟩)),(117,.slice cb S.c.pars.length ck),(118,.int .i64 S.c.pars.length),(119,.int .i64 (q.2.2:Nat))]) (fun q=>pt b2 (cl [v,.map (some mb),sv S.c.name,.bool S.c.dfd,ca,.slice cb S.c.pars.length ck,ce,.slice cf S.c.feats.length cfk,ci,.slice mA S.ms.length mK,.map (some bm),.bool all] 206)::q.1::mps mb m::mps bm bmp::q.2.1::hr) (fun q=>Ext X q.1∧q.2.2≤S.c.pars.length ∧ Φ ((S.c.pars.drop q.2.2).flatMap (S.f2)++T2) q.2.1) (fun q=>S.c.pars.length - q.2.2) (Y,r,0) ⟨hE,Nat.zero_le _,hΦ⟩ ?_))))))
  clear hΦ hE
  clear Y r
  rintro ⟨Y,r,i⟩ ⟨hE,hi,hΦ⟩
  simp only at hE hi hΦ
  dsimp only
  refine cQ (sV (aO Z Z) (sN (nT (cS (cC Z (fun hd=>?_) (fun hd=>?_))))))
  ·have hlt:i<S.c.pars.length:=by simpa using hd
   rw [dX hlt,List.append_assoc] at hΦ
   have hlis:=hB.lists (List.getElem_mem hlt)
   obtain ⟨pb,po,pcap,pus,e1,hpus,hprd,hp⟩:=(hK.par.up hE).at (List.getElem?_eq_getElem hlt)
   obtain ⟨rfl,rfl⟩:cb=some ⟨pb,po,none⟩∧ck=pcap:=by cases e1; exact ⟨rfl,rfl⟩
   generalize S.c.pars[i]=p at hΦ hlis hp
   generalize hA:(S.c.pars.drop (i+1)).flatMap (S.f2)++T2=A at hΦ
   obtain ⟨hlR,hlU,hlD,hlS⟩:=hlis
   have hp0:=hp
   obtain ⟨pa,pr,pu,pd,pS,rfl,hpa,hpR,hpu,hpd,hpsel⟩:=hp
   obtain ⟨aA,kA,rfl,_⟩:=id hpa.form
   obtain ⟨aR,kR,rfl,_⟩:=id hpR.form
   obtain ⟨aU,kU,rfl,_⟩:=id hpu.form
   obtain ⟨aD,kD,rfl,_⟩:=id hpd.form
   obtain ⟨aS,kS,rfl,_⟩:=id hpsel.form
   refine cK9 (xT (cS (cB (cQ (sV (vI (k:=i) Z Z oF Z hlt Z) (sV (ag Z p8 Z hprd) ?_))))))
   refine au uW fun b14=>?_
   refine ai Z Z rM Z Z ?_
   have hΦ : Φ (p.und.flatMap (S.f2a p)++A) r:=hΦ
   refine sN (nK9 [1,2,14,117,118,119] Z (nT (cQ (sV (vF Z wX Z) (sV (vY Z fH) ?_)))))
   refine sV (aF Z underlying40) (sM Z (sN (nK9 [1,2,14,117,118,119,124,125,126] Z (nT (cB (aZ (σ := Res×Res×Nat) (fun q=>[(1,.func (.yield yl) #[] #[]),(2,.pointer (some ⟨b2,0,none⟩)),(117,.slice (some ⟨pb,po,none⟩) S.c.pars.length ck),(118,.int .i64 S.c.pars.length),(119,.int .i64 (i:Nat)),(14,.pointer (some ⟨b14,0,none⟩)),(124,.slice aU p.und.length kU),(125,.int .i64 p.und.length),(126,.int .i64 (q.2.2:Nat))]) (fun q=>pt b14 (cl [sv p.name,.slice aA p.args.length kA,.slice aR p.ren.length kR,.slice aU p.und.length kU,.slice aD p.red.length kD,.slice aS p.sel.length kS] 88)::pt b2 (cl [v,.map (some mb),sv S.c.name,.bool S.c.dfd,ca,.slice (some ⟨pb,po,none⟩) S.c.pars.length ck,ce,.slice cf S.c.feats.length cfk,ci,.slice mA S.ms.length mK,.map (some bm),.bool all] 206)::q.1::mps mb m::mps bm bmp::q.2.1::hr) (fun q=>Ext Y q.1∧q.2.2≤p.und.length ∧ Φ ((p.und.drop q.2.2).flatMap (S.f2a p)++A) q.2.1) (fun q=>p.und.length - q.2.2) (Y,r,0) ⟨Ext.refl Y,Nat.zero_le _,hΦ⟩ ?_))))))
   clear hΦ
   rintro ⟨Zq9,r,j⟩ ⟨hE2,hj,hΦ⟩
   simp only at hE2 hj hΦ
   dsimp only
   refine cQ (sV (aO Z Z) (sN (nT (cS (cC Z (fun hd2=>?_) (fun hd2=>?_))))))
   ·have hltj:j<p.und.length:=by simpa using hd2
    rw [dX hltj,List.append_assoc] at hΦ
    have hEZ:=hE.trans hE2
    obtain ⟨nb,no,ncap,nus,e2,hnus,hnrd,hn⟩:=(hpu.up hE2).at (List.getElem?_eq_getElem hltj)
    obtain ⟨rfl,rfl⟩:aU=some ⟨nb,no,none⟩∧kU=ncap:=by cases e2; exact ⟨rfl,rfl⟩
    generalize p.und[j]=x at hΦ hn
    subst hn
    refine cK9 (xT (cS (cB (cQ (sV (vI (k:=j) Z Z jh Z hltj Z) (sV (vY Z ld9 (ha:=⟨_,_,slq,hnrd 0 (by simp)⟩)) ?_))))))
    refine sV (vA9 Z) (sN (nK9 [1,2,14,16,117,118,119,124,125,126] Z (nT (cQ (sV (vF Z wY Z) (sV (vY Z fH) ?_))))))
    refine sM Z (bg Z Z DN Z (fu (El (hpd.up hE2)) x (by omega)) ?_)
    refine sM Z ?_
    unfold Sk.f2a at hΦ
    cases hq:p.red.contains x
    ·rw [hq] at hΦ
     have hΦ : Φ ((p.und.drop (j+1)).flatMap (S.f2a p)++A) r:=hΦ
     iterate 11 refine aC rfl rfl rfl ?_
     refine sV (vP Z Z) (sN (nK9 [1,2,14,117,118,119,124,125,126,146] Z (nT (aG Z ?_))))
     refine cK9 (xB (xT (cR (sV (aI Z Z (by unfold I64 at *; omega)) (sM Z (sN (nK9 [1,2,14,117,118,119,124,125,126] Z (ax ?_))))))))
     refine aJ (Zq9,r,j+1) ⟨hE2,hltj,hΦ⟩ (by dsimp only; omega)
    ·rw [hq] at hΦ
     have hΦ2 : Φ (S.cf 2 x ⟨p.name,x⟩ og0::((p.und.drop (j+1)).flatMap (S.f2a p)++A)) r:=hΦ
     refine sG Z Z (vM Z) (sG Z Z (ag Z fC Z af) ?_)
     refine sG Z Z (vM Z) (sG Z Z (vF Z gH Z) (sG Z Z (vY Z ld9) ?_))
     refine sG Z Z (vM Z) (sG Z Z (aN (cells:=[sv p.name,sv x]) Z (fun _=>by kernel_rfl)) ?_)
     refine sG Z Z (aN (cells:=[sv [],sv []]) Z (fun _=>by kernel_rfl)) ?_
     refine bR Z Z Z Z jR Z (hcn 2 x ⟨p.name,x⟩ og0) ?_
     refine j4 (gd:=134) (.inr ⟨_,_,Z,Z,Z⟩) Z Z (hy _ _ _ hΦ2) ?_
     rintro u h' (⟨rfl,r',hΦ4,rfl⟩ | ⟨rfl,r',hst,rfl⟩)
     ·simp only [lC,lN]
      refine sG Z Z (bi Z) (sV (vQ Z Z) (sN (nK9 [1,2,14,117,118,119,124,125,126,146] Z (nT (aG Z ?_)))))
      refine cK9 (xB (xT (cR (sV (aI Z Z (by unfold I64 at *; omega)) (sM Z (sN (nK9 [1,2,14,117,118,119,124,125,126] Z (ax ?_))))))))
      refine aJ (Zq9,r',j+1) ⟨hE2,hltj,hΦ4⟩ (by dsimp only; omega)
     ·simp only [lC,lN]
      refine sG Z Z (bi Z) (sV (vQ Z Z) (sN (nK9 [1,2,14,117,118,119,124,125,126,146] Z (nT (aT Z ?_)))))
      refine cQ (sV (vA9 Z) (sN (nK9 [4] Z (nT (cT (xW (xR (xR (xW (xW (xR (xR (xW (xR ?_))))))))))))))
      exact aj Z ⟨Zq9,[mps mb m,mps bm bmp,r'],Z,hEZ,r',Z,.inr ⟨Z,_,hst⟩⟩ sbq
   ·have hje:j=p.und.length:=Nat.le_antisymm hj (Nat.not_lt.1 (by simpa using hd2))
    subst hje
    rw [dF,List.nil_append] at hΦ
    refine aB (xE (xE (xY (xB (xT (cR (sV (aI Z Z (by unfold I64 at *; omega)) (sM Z (sN (nK9 [1,2,117,118,119] Z (ax ?_)))))))))))
    refine aJ (Zq9,r,i+1) ⟨hE.trans hE2,hlt,by rw [hA]; exact hΦ⟩ (by dsimp only; omega)
  ·have hie:i=S.c.pars.length:=Nat.le_antisymm hi (Nat.not_lt.1 (by simpa using hd))
   subst hie
   rw [dF,List.nil_append] at hΦ
   rw [← hT3] at hΦ
   refine aB (xE (xE (xY (xT (cS (cQ (sV (vF Z gM Z) (sV (vF Z eX Z) (sV (vY Z lT) ?_)))))))))
   refine sV (aF Z underlying39) (sM Z (sN (nK9 [1,2,151,152,153] Z (nT (cB (aZ (σ := Res×Res×Nat) (fun q=>[(1,.func (.yield yl) #[] #[]),(2,.pointer (some ⟨b2,0,none⟩)),(151,.slice cb S.c.pars.length ck),(152,.int .i64 S.c.pars.length),(153,.int .i64 (q.2.2:Nat))]) (fun q=>pt b2 (cl [v,.map (some mb),sv S.c.name,.bool S.c.dfd,ca,.slice cb S.c.pars.length ck,ce,.slice cf S.c.feats.length cfk,ci,.slice mA S.ms.length mK,.map (some bm),.bool all] 206)::q.1::mps mb m::mps bm bmp::q.2.1::hr) (fun q=>Ext X q.1∧q.2.2≤S.c.pars.length ∧ Φ ((S.c.pars.zipIdx.drop q.2.2).flatMap (S.f3)++T3) q.2.1) (fun q=>S.c.pars.length - q.2.2) (Y,r,0) ⟨hE,Nat.zero_le _,hΦ⟩ ?_))))))
   clear hΦ hE
   clear Y r
   rintro ⟨Y,r,i⟩ ⟨hE,hi,hΦ⟩
   simp only at hE hi hΦ
   dsimp only
   refine cQ (sV (aO Z Z) (sN (nT (cS (cC Z (fun hd=>?_) (fun hd=>?_))))))
   ·have hlt:i<S.c.pars.length:=by simpa using hd
    rw [j6 hlt,List.append_assoc] at hΦ
    have hlis:=hB.lists (List.getElem_mem hlt)
    obtain ⟨pb,po,pcap,pus,e1,hpus,hprd,hp⟩:=(hK.par.up hE).at (List.getElem?_eq_getElem hlt)
    obtain ⟨rfl,rfl⟩:cb=some ⟨pb,po,none⟩∧ck=pcap:=by cases e1; exact ⟨rfl,rfl⟩
    generalize S.c.pars[i]=p at hΦ hlis hp
    generalize hA:(S.c.pars.zipIdx.drop (i+1)).flatMap (S.f3)++T3=A at hΦ
    obtain ⟨hlR,hlU,hlD,hlS⟩:=hlis
    have hp0:=hp
    obtain ⟨pa,pr,pu,pd,pS,rfl,hpa,hpR,hpu,hpd,hpsel⟩:=hp
    obtain ⟨aA,kA,rfl,_⟩:=id hpa.form
    obtain ⟨aR,kR,rfl,_⟩:=id hpR.form
    obtain ⟨aU,kU,rfl,_⟩:=id hpu.form
    obtain ⟨aD,kD,rfl,_⟩:=id hpd.form
    obtain ⟨aS,kS,rfl,_⟩:=id hpsel.form
    refine cK9 (xT (cS (cB (cQ (sM Z (sV (vI (k:=i) Z Z oF Z hlt Z) (sV (ag Z p8 Z hprd) ?_)))))))
    refine au uW fun b18=>?_
    refine sV (vA9 Z) (ai Z Z rM Z Z ?_)
    have hΦ : Φ ((S.fl p.name).mems.flatMap (S.f3a (p,i))++A) r:=hΦ
    refine sN (nK9 [1,2,17,18,151,152,153] Z (nT (cQ (sV (vF Z DL Z) (sV (vF Z iG Z) (sV (vY Z pJ) ?_))))))
    refine sV (vF Z gH Z) (sV (vY Z ld9) ?_)
    obtain ⟨fus,hfl,hfr2⟩:=(hK.fl.up hE) p.name
    obtain ⟨mx,my,rfl,hmx,hmy⟩:=hfr2
    obtain ⟨qA,qK,rfl,_⟩:=id hmx.form
    refine sV (gB hfl (bI Z Z pG pI slq)) ?_
    refine sV (iF (k:=2) Z underlying55 Z isAgg52 Z) (sV (aF Z underlying52) (sM Z (sN (nK9 [1,2,17,18,151,152,153,164,165,166] Z (nT (cB (aZ (σ := Res×Res×Nat) (fun q=>[(1,.func (.yield yl) #[] #[]),(2,.pointer (some ⟨b2,0,none⟩)),(151,.slice (some ⟨pb,po,none⟩) S.c.pars.length ck),(152,.int .i64 S.c.pars.length),(153,.int .i64 (i:Nat)),(18,.pointer (some ⟨b18,0,none⟩)),(17,.int .i64 (i:Nat)),(164,.slice qA (S.fl p.name).mems.length qK),(165,.int .i64 (S.fl p.name).mems.length),(166,.int .i64 (q.2.2:Nat))]) (fun q=>pt b18 (cl [sv p.name,.slice aA p.args.length kA,.slice aR p.ren.length kR,.slice aU p.und.length kU,.slice aD p.red.length kD,.slice aS p.sel.length kS] 88)::pt b2 (cl [v,.map (some mb),sv S.c.name,.bool S.c.dfd,ca,.slice (some ⟨pb,po,none⟩) S.c.pars.length ck,ce,.slice cf S.c.feats.length cfk,ci,.slice mA S.ms.length mK,.map (some bm),.bool all] 206)::q.1::mps mb m::mps bm bmp::q.2.1::hr) (fun q=>Ext Y q.1∧q.2.2≤(S.fl p.name).mems.length ∧ Φ (((S.fl p.name).mems.drop q.2.2).flatMap (S.f3a (p,i))++A) q.2.1) (fun q=>(S.fl p.name).mems.length - q.2.2) (Y,r,0) ⟨Ext.refl Y,Nat.zero_le _,hΦ⟩ ?_)))))))
    clear hΦ
    rintro ⟨Zq9,r,j⟩ ⟨hE2,hj,hΦ⟩
    simp only at hE2 hj hΦ
    dsimp only
    refine cQ (sV (aO Z Z) (sN (nT (cS (cC Z (fun hd2=>?_) (fun hd2=>?_))))))
    ·have hltj:j<(S.fl p.name).mems.length:=by simpa using hd2
     rw [dX hltj,List.append_assoc] at hΦ
     have hEZ:=hE.trans hE2
     obtain ⟨nb,no,ncap,nus,e2,hnus,hnrd,hn⟩:=(hmx.up hE2).at (List.getElem?_eq_getElem hltj)
     obtain ⟨rfl,rfl⟩:qA=some ⟨nb,no,none⟩∧qK=ncap:=by cases e2; exact ⟨rfl,rfl⟩
     generalize (S.fl p.name).mems[j]=x at hΦ hn
     have hxo:=Enc.ones hn
     obtain ⟨x2,x5,xy,x11,x12,x13,rfl,-⟩:=dJ hn
     unfold ik at *
     have hK9:=hK.up hEZ
     refine cK9 (xT (cS (cB (cQ (sV (vI (k:=j) Z Z pW Z hltj Z) (sV (ag Z fB Z hnrd) ?_))))))
     refine au jQ fun b20=>?_
     refine ai Z Z iD Z hxo ?_
     refine sN (nK9 [1,2,17,18,20,151,152,153,164,165,166] Z (nT (cS (bB (ork [(0,1),(1,2),(2,1),(3,2),(4,1),(5,0),(6,0),(7,2)] .nil) (fun i => !(Nat.beq i 6)) mixed (by kernel_rfl) ?_))))
     refine bu Z (ag Z fC Z af) ?_
     refine dV Z (vM Z) (bu Z (ag Z p8 Z af) ?_)
     refine dV Z (vF Z eH Z) (bu Z (vY Z ld9) ?_)
     refine aQ Z (aH Z Z en173 Z (tL (n:=x.name) (Enc.up hE2.rd hp0)) ?_)
     rintro u h' ⟨rfl,rfl⟩
     simp only [lC,lN]
     refine aW ?_
     refine aQ Z (aH Z Z JP Z (o8 (v:=v) (fv:=.map (some mb)) (c:=S.c) (ca:=ca) (cb:=.slice (some ⟨pb,po,none⟩) S.c.pars.length ck) (ce:=ce) (cf:=.slice cf S.c.feats.length cfk) (ci:=ci) (mv:=.slice mA S.ms.length mK) (all:=all) (bm:=bm) (i:=i) (n:=bK p x.name) (hK9.by' (bK p x.name)) (by have:=hB.under (bK p x.name); omega)) ?_)
     rintro u h' ⟨Y3,k9,rfl,hE4,rows,hu,hro,rfl⟩
     simp only [lC,lN]
     refine aW ?_
     have hro:Rws Y3 rows (S.fro i (bK p x.name)):=hro
     have hrl:=hro.1
     have hfl9:=hB.fro i (bK p x.name)
     unfold Sk.f3a at hΦ
     dsimp only at hΦ
     generalize S.fro i (bK p x.name)=l at hΦ hro hrl hfl9
     refine dV Z (vA9 Z) (bA (nK9 [1,2,17,18,21,151,152,153,164,165,166] Z (nT (cS (fV (v:=u) (E:=191) (sz:=18) (rows:=rows) slq fun la lc hlf hll hlm=>?_)))))
     rw [hrl] at hlf hll
     subst hlf
     refine fI (r:=VR (.slice la l.length lc) 191 18 rows) slq fun hok=>?_
     refine HV [VR (.slice la l.length lc) 191 18 rows] Y3 fun Y4 hE5 hsel=>?_
     have hls:Ls Y4 (.slice la l.length lc) l:=Rws.ls (E:=191) (hro.up hE5) hok (hsel _ _ .here) (by show l.length * 280≤reachBytes; have hrb:reachBytes=140737488351232:=rfl; omega)
     have hE6:=hE2.trans (hE4.trans hE5)
     have hEZ4:=hE.trans hE6
     refine cR (sM Z (sV (aF Z underlying187) (sV (bZ Z Z) (sM Z ?_))))
     by_cases hq:1<l.length
     ·rw [if_pos hq] at hΦ
      have hg:decide ((1:Int)<(l.length:Nat))=true:=by simp; omega
      rw [hg]
      refine sG Z Z (ag Z fC Z af) ?_
      refine sG Z Z (vM Z) (sG Z Z (vM Z) (jC Z Z (aH Z Z en207 Z (GA hy hall en208 (is:=fun _ _=>true) (fun a _ b _ us us' h h'=>reads_nil (IJ h h')) hls 3 _ r hΦ) ?_)))
      rintro u h' ⟨r',rfl,(⟨rfl,hΦ4⟩ | ⟨rfl,_,hst⟩)⟩
      ·simp only [lC,lN]
       refine sG Z Z (bi Z) (sV (vQ Z Z) (sN (nK9 [1,2,17,18,151,152,153,164,165,166,186] Z (nT (aG Z ?_)))))
       refine cK9 (xB (xT (cR (sV (aI Z Z (by unfold I64 at *; omega)) (sM Z (sN (nK9 [1,2,17,18,151,152,153,164,165,166] Z (ax ?_))))))))
       refine aJ (Y4,r',j+1) ⟨hE6,hltj,hΦ4⟩ (by dsimp only; omega)
      ·simp only [lC,lN]
       refine sG Z Z (bi Z) (sV (vQ Z Z) (sN (nK9 [1,2,17,18,151,152,153,164,165,166,186] Z (nT (aT Z ?_)))))
       refine cQ (sV (vA9 Z) (sN (nK9 [4] Z (nT (cT (xW (xR (xR (xW (xW (xR (xR (xW (xR ?_))))))))))))))
       exact aj Z ⟨Y4,[mps mb m,mps bm bmp,r'],Z,hEZ4,r',Z,.inr ⟨Z,_,hst⟩⟩ sbq
     ·rw [if_neg hq] at hΦ
      have hg:decide ((1:Int)<(l.length:Nat))=false:=by simp; omega
      rw [hg]
      iterate 5 refine aC rfl rfl rfl ?_
      refine sV (vP Z Z) (sN (nK9 [1,2,17,18,151,152,153,164,165,166,186] Z (nT (aG Z ?_))))
      refine cK9 (xB (xT (cR (sV (aI Z Z (by unfold I64 at *; omega)) (sM Z (sN (nK9 [1,2,17,18,151,152,153,164,165,166] Z (ax ?_))))))))
      refine aJ (Y4,r,j+1) ⟨hE6,hltj,hΦ⟩ (by dsimp only; omega)
    ·have hje:j=(S.fl p.name).mems.length:=Nat.le_antisymm hj (Nat.not_lt.1 (by simpa using hd2))
     subst hje
     rw [dF,List.nil_append] at hΦ
     refine aB (xE (xE (xY (xB (xT (cR (sV (aI Z Z (by unfold I64 at *; omega)) (sM Z (sN (nK9 [1,2,151,152,153] Z (ax ?_)))))))))))
     refine aJ (Zq9,r,i+1) ⟨hE.trans hE2,hlt,by rw [hA]; exact hΦ⟩ (by dsimp only; omega)
   ·have hie:i=S.c.pars.length:=Nat.le_antisymm hi (Nat.not_lt.1 (by simpa using hd))
    subst hie
    rw [mG,List.nil_append] at hΦ
    rw [← hT4] at hΦ
    refine aB (xE (xE (xY (xT (cS (cQ (sV (vF Z gM Z) (sV (vF Z eX Z) (sV (vY Z lT) ?_)))))))))
    refine sV (aF Z underlying39) (sM Z (sN (nK9 [1,2,191,192,193] Z (nT (cB (aZ (σ := Res×Res×Nat) (fun q=>[(1,.func (.yield yl) #[] #[]),(2,.pointer (some ⟨b2,0,none⟩)),(191,.slice cb S.c.pars.length ck),(192,.int .i64 S.c.pars.length),(193,.int .i64 (q.2.2:Nat))]) (fun q=>pt b2 (cl [v,.map (some mb),sv S.c.name,.bool S.c.dfd,ca,.slice cb S.c.pars.length ck,ce,.slice cf S.c.feats.length cfk,ci,.slice mA S.ms.length mK,.map (some bm),.bool all] 206)::q.1::mps mb m::mps bm bmp::q.2.1::hr) (fun q=>Ext X q.1∧q.2.2≤S.c.pars.length ∧ Φ ((S.c.pars.zipIdx.drop q.2.2).flatMap (S.f4)++T4) q.2.1) (fun q=>S.c.pars.length - q.2.2) (Y,r,0) ⟨hE,Nat.zero_le _,hΦ⟩ ?_))))))
    clear hΦ hE
    clear Y r
    rintro ⟨Y,r,i⟩ ⟨hE,hi,hΦ⟩
    simp only at hE hi hΦ
    dsimp only
    refine cQ (sV (aO Z Z) (sN (nT (cS (cC Z (fun hd=>?_) (fun hd=>?_))))))
    ·have hlt:i<S.c.pars.length:=by simpa using hd
     rw [j6 hlt,List.append_assoc] at hΦ
     have hlis:=hB.lists (List.getElem_mem hlt)
     obtain ⟨pb,po,pcap,pus,e1,hpus,hprd,hp⟩:=(hK.par.up hE).at (List.getElem?_eq_getElem hlt)
     obtain ⟨rfl,rfl⟩:cb=some ⟨pb,po,none⟩∧ck=pcap:=by cases e1; exact ⟨rfl,rfl⟩
     generalize S.c.pars[i]=p at hΦ hlis hp
     generalize hA:(S.c.pars.zipIdx.drop (i+1)).flatMap (S.f4)++T4=A at hΦ
     obtain ⟨hlR,hlU,hlD,hlS⟩:=hlis
     have hp0:=hp
     obtain ⟨pa,pr,pu,pd,pS,rfl,hpa,hpR,hpu,hpd,hpsel⟩:=hp
     obtain ⟨aA,kA,rfl,_⟩:=id hpa.form
     obtain ⟨aR,kR,rfl,_⟩:=id hpR.form
     obtain ⟨aU,kU,rfl,_⟩:=id hpu.form
     obtain ⟨aD,kD,rfl,_⟩:=id hpd.form
     obtain ⟨aS,kS,rfl,_⟩:=id hpsel.form
     refine cK9 (xT (cS (cB (cQ (sM Z (sV (vI (k:=i) Z Z oF Z hlt Z) (sV (ag Z p8 Z hprd) ?_)))))))
     refine au uW fun b23=>?_
     refine sV (vA9 Z) (ai Z Z rM Z Z ?_)
     have hΦ : Φ (p.und.flatMap (S.f4a (p,i))++A) r:=hΦ
     refine sN (nK9 [1,2,22,23,191,192,193] Z (nT (cQ (sV (vF Z wX Z) (sV (vY Z fH) ?_)))))
     refine sV (aF Z underlying40) (sM Z (sN (nK9 [1,2,22,191,192,193,199,200,201] Z (nT (cB (aZ (σ := Res×Res×Nat) (fun q=>[(1,.func (.yield yl) #[] #[]),(2,.pointer (some ⟨b2,0,none⟩)),(191,.slice (some ⟨pb,po,none⟩) S.c.pars.length ck),(192,.int .i64 S.c.pars.length),(193,.int .i64 (i:Nat)),(22,.int .i64 (i:Nat)),(199,.slice aU p.und.length kU),(200,.int .i64 p.und.length),(201,.int .i64 (q.2.2:Nat))]) (fun q=>pt b23 (cl [sv p.name,.slice aA p.args.length kA,.slice aR p.ren.length kR,.slice aU p.und.length kU,.slice aD p.red.length kD,.slice aS p.sel.length kS] 88)::pt b2 (cl [v,.map (some mb),sv S.c.name,.bool S.c.dfd,ca,.slice (some ⟨pb,po,none⟩) S.c.pars.length ck,ce,.slice cf S.c.feats.length cfk,ci,.slice mA S.ms.length mK,.map (some bm),.bool all] 206)::q.1::mps mb m::mps bm bmp::q.2.1::hr) (fun q=>Ext Y q.1∧q.2.2≤p.und.length ∧ Φ ((p.und.drop q.2.2).flatMap (S.f4a (p,i))++A) q.2.1) (fun q=>p.und.length - q.2.2) (Y,r,0) ⟨Ext.refl Y,Nat.zero_le _,hΦ⟩ ?_))))))
     clear hΦ
     rintro ⟨Zq9,r,j⟩ ⟨hE2,hj,hΦ⟩
     simp only at hE2 hj hΦ
     dsimp only
     refine cQ (sV (aO Z Z) (sN (nT (cS (cC Z (fun hd2=>?_) (fun hd2=>?_))))))
     ·have hltj:j<p.und.length:=by simpa using hd2
      rw [dX hltj,List.append_assoc] at hΦ
      have hEZ:=hE.trans hE2
      obtain ⟨nb,no,ncap,nus,e2,hnus,hnrd,hn⟩:=(hpu.up hE2).at (List.getElem?_eq_getElem hltj)
      obtain ⟨rfl,rfl⟩:aU=some ⟨nb,no,none⟩∧kU=ncap:=by cases e2; exact ⟨rfl,rfl⟩
      generalize p.und[j]=x at hΦ hn
      subst hn
      refine cK9 (xT (cS (cB (cQ (sV (vI (k:=j) Z Z jh Z hltj Z) (sV (vY Z ld9 (ha:=⟨_,_,slq,hnrd 0 (by simp)⟩)) ?_))))))
      refine sV (vA9 Z) (sN (nK9 [1,2,22,25,191,192,193,199,200,201] Z (nT (cQ ?_))))
      have hK9:=hK.up hEZ
      refine sV (ag Z fC Z af) ?_
      refine sM Z (sM Z (aH Z Z JP Z (o8 (v:=v) (fv:=.map (some mb)) (c:=S.c) (ca:=ca) (cb:=.slice (some ⟨pb,po,none⟩) S.c.pars.length ck) (ce:=ce) (cf:=.slice cf S.c.feats.length cfk) (ci:=ci) (mv:=.slice mA S.ms.length mK) (all:=all) (bm:=bm) (i:=i) (n:=x) (hK9.by' x) (by have:=hB.under x; omega)) ?_))
      rintro u h' ⟨Y3,k9,rfl,hE4,rows,hu,hro,rfl⟩
      simp only [lC,lN]
      have hro:Rws Y3 rows (S.fro i (x)):=hro
      have hrl:=hro.1
      have hfl:=hB.fro i (x)
      refine jk (v:=u) (E:=191) (sz:=18) (rows:=rows) slq fun la lc hlf hll hlm=>?_
      rw [hrl] at hlf hll
      subst hlf
      have hΦ : Φ ((S.fro i x).flatMap (S.f4b x)++((p.und.drop (j+1)).flatMap (S.f4a (p,i))++A)) r:=hΦ
      generalize hA3:(p.und.drop (j+1)).flatMap (S.f4a (p,i))++A=A3 at hΦ
      generalize S.fro i x=l at hΦ hro hrl hfl
      refine nM (r:=VR (.slice la l.length lc) 191 18 rows) slq fun hok=>?_
      refine oW [VR (.slice la l.length lc) 191 18 rows] Y3 fun Y4 hE5 hsel=>?_
      have hls:Ls Y4 (.slice la l.length lc) l:=Rws.ls (E:=191) (hro.up hE5) hok (hsel _ _ .here) (by show l.length * 280≤reachBytes; have hrb:reachBytes=140737488351232:=rfl; omega)
      have hE6:=hE2.trans (hE4.trans hE5)
      have hEZ4:=hE.trans hE6
      refine sV (aF Z underlying187) (sM Z (sN (nK9 [1,2,22,25,191,192,193,199,200,201,208,209,210] Z (nT (cB (aZ (σ := Res×Nat) (fun q=>[(1,.func (.yield yl) #[] #[]),(2,.pointer (some ⟨b2,0,none⟩)),(191,.slice (some ⟨pb,po,none⟩) S.c.pars.length ck),(192,.int .i64 S.c.pars.length),(193,.int .i64 (i:Nat)),(22,.int .i64 (i:Nat)),(199,.slice (some ⟨nb,no,none⟩) p.und.length kU),(200,.int .i64 p.und.length),(201,.int .i64 (j:Nat)),(25,sv x),(208,.slice la l.length lc),(209,.int .i64 l.length),(210,.int .i64 (q.2:Nat))]) (fun q=>pt b23 (cl [sv p.name,.slice aA p.args.length kA,.slice aR p.ren.length kR,.slice (some ⟨nb,no,none⟩) p.und.length kU,.slice aD p.red.length kD,.slice aS p.sel.length kS] 88)::pt b2 (cl [v,.map (some mb),sv S.c.name,.bool S.c.dfd,ca,.slice (some ⟨pb,po,none⟩) S.c.pars.length ck,ce,.slice cf S.c.feats.length cfk,ci,.slice mA S.ms.length mK,.map (some bm),.bool all] 206)::Y4::mps mb m::mps bm bmp::q.1::hr) (fun q=>q.2≤l.length ∧ Φ ((l.drop q.2).flatMap (S.f4b x)++A3) q.1) (fun q=>l.length - q.2) (r,0) ⟨Nat.zero_le _,hΦ⟩ ?_))))))
      clear hΦ
      rintro ⟨r,k⟩ ⟨hk,hΦ⟩
      simp only at hk hΦ
      dsimp only
      refine cQ (sV (aO Z Z) (sN (nT (cS (cC Z (fun hd3=>?_) (fun hd3=>?_))))))
      ·have hltk:k<l.length:=by simpa using hd3
       rw [dX hltk,List.append_assoc] at hΦ
       obtain ⟨cb',co,ccap,cus,e4,hcus,hcrd,hcr⟩:=hls.at (List.getElem?_eq_getElem hltk)
       obtain ⟨rfl,rfl⟩:la=some ⟨cb',co,none⟩∧lc=ccap:=by cases e4; exact ⟨rfl,rfl⟩
       generalize l[k]=y at hΦ hcr
       have hyo:=Enc.ones hcr
       obtain ⟨y2,y5,yy,y11,y12,y13,rfl,-⟩:=gX hcr
       have hogy:=fun b=>mW (b:=b) (x:=y) (x2:=y2) (x5:=y5) (y:=yy) (x11:=y11) (x12:=y12) (x13:=y13)
       unfold nX at *
       refine cK9 (xT (cS (cB (cQ (sV (vI (k:=k) Z Z lg Z hltk Z) (sV (ag Z gU Z hcrd) ?_))))))
       refine au qF fun b27=>?_
       refine ai Z Z l9 Z hyo ?_
       refine sN (nK9 [1,2,22,25,27,191,192,193,199,200,201,208,209,210] Z (nT (cQ (sV (vF Z fa191_3 Z) (sV (vY Z ld3) ?_)))))
       refine sV (bT Z Z) (sM Z ?_)
       unfold Sk.f4b at hΦ
       cases hq:(y.was != 2)
       ·have hw:¬ y.was≠2:=by simpa using hq
        rw [if_neg hw] at hΦ
        iterate 9 refine aC rfl rfl rfl ?_
        refine sV (vP Z Z) (sN (nK9 [1,2,22,25,191,192,193,199,200,201,208,209,210,227] Z (nT (aG Z ?_))))
        refine cK9 (xB (xT (cR (sV (aI Z Z (by unfold I64 at *; omega)) (sM Z (sN (nK9 [1,2,22,25,191,192,193,199,200,201,208,209,210] Z (ax ?_))))))))
        refine aJ (r,k+1) ⟨hltk,hΦ⟩ (by dsimp only; omega)
       ·have hw:y.was≠2:=by simpa using hq
        rw [if_pos hw] at hΦ
        have hΦ2 : Φ (S.cf 4 x y.og og0::((l.drop (k+1)).flatMap (S.f4b x)++A3)) r:=hΦ
        refine sG Z Z (vM Z) (sG Z Z (ag Z fC Z af) ?_)
        refine sG Z Z (vM Z) (sG Z Z (vF Z ji Z) (sG Z Z (ag Z pY Z (hogy b27) (s:=.here)) ?_))
        refine sG Z Z (aN (cells:=[sv [],sv []]) Z (fun _=>by kernel_rfl)) ?_
        refine bR Z Z Z Z jR Z (hcn 4 x y.og og0) ?_
        refine j4 (gd:=217) (.inr ⟨_,_,Z,Z,Z⟩) Z Z (hy _ _ _ hΦ2) ?_
        rintro u h' (⟨rfl,r',hΦ4,rfl⟩ | ⟨rfl,r',hst,rfl⟩)
        ·simp only [lC,lN]
         refine sG Z Z (bi Z) (sV (vQ Z Z) (sN (nK9 [1,2,22,25,191,192,193,199,200,201,208,209,210,227] Z (nT (aG Z ?_)))))
         refine cK9 (xB (xT (cR (sV (aI Z Z (by unfold I64 at *; omega)) (sM Z (sN (nK9 [1,2,22,25,191,192,193,199,200,201,208,209,210] Z (ax ?_))))))))
         refine aJ (r',k+1) ⟨hltk,hΦ4⟩ (by dsimp only; omega)
        ·simp only [lC,lN]
         refine sG Z Z (bi Z) (sV (vQ Z Z) (sN (nK9 [1,2,22,25,191,192,193,199,200,201,208,209,210,227] Z (nT (aT Z ?_)))))
         refine cQ (sV (vA9 Z) (sN (nK9 [4] Z (nT (cT (xW (xR (xR (xW (xW (xR (xR (xW (xW ?_))))))))))))))
         refine xR (xR (xW (xR ?_)))
         exact aj Z ⟨Y4,[mps mb m,mps bm bmp,r'],Z,hEZ4,r',Z,.inr ⟨Z,_,hst⟩⟩ sbq
      ·have hke:k=l.length:=Nat.le_antisymm hk (Nat.not_lt.1 (by simpa using hd3))
       subst hke
       rw [dF,List.nil_append] at hΦ
       refine aB (xE (xE (xY (xB (xT (cR (sV (aI Z Z (by unfold I64 at *; omega)) (sM Z (sN (nK9 [1,2,22,191,192,193,199,200,201] Z (ax ?_)))))))))))
       refine aJ (Y4,r,j+1) ⟨hE6,hltj,by rw [hA3]; exact hΦ⟩ (by dsimp only; omega)
     ·have hje:j=p.und.length:=Nat.le_antisymm hj (Nat.not_lt.1 (by simpa using hd2))
      subst hje
      rw [dF,List.nil_append] at hΦ
      refine aB (xE (xE (xY (xB (xT (cR (sV (aI Z Z (by unfold I64 at *; omega)) (sM Z (sN (nK9 [1,2,191,192,193] Z (ax ?_)))))))))))
      refine aJ (Zq9,r,i+1) ⟨hE.trans hE2,hlt,by rw [hA]; exact hΦ⟩ (by dsimp only; omega)
    ·have hie:i=S.c.pars.length:=Nat.le_antisymm hi (Nat.not_lt.1 (by simpa using hd))
     subst hie
     rw [mG,List.nil_append] at hΦ
     rw [← hT5] at hΦ
     refine aB (xE (xE (xY (xT (cS (cQ (sV (vF Z gM Z) (sV (vF Z eX Z) (sV (vY Z lT) ?_)))))))))
     refine sV (aF Z underlying39) (sM Z (sN (nK9 [1,2,233,234,235] Z (nT (cB (aZ (σ := Res×Res×Nat) (fun q=>[(1,.func (.yield yl) #[] #[]),(2,.pointer (some ⟨b2,0,none⟩)),(233,.slice cb S.c.pars.length ck),(234,.int .i64 S.c.pars.length),(235,.int .i64 (q.2.2:Nat))]) (fun q=>pt b2 (cl [v,.map (some mb),sv S.c.name,.bool S.c.dfd,ca,.slice cb S.c.pars.length ck,ce,.slice cf S.c.feats.length cfk,ci,.slice mA S.ms.length mK,.map (some bm),.bool all] 206)::q.1::mps mb m::mps bm bmp::q.2.1::hr) (fun q=>Ext X q.1∧q.2.2≤S.c.pars.length ∧ Φ ((S.c.pars.drop q.2.2).flatMap (S.f5)++R) q.2.1) (fun q=>S.c.pars.length - q.2.2) (Y,r,0) ⟨hE,Nat.zero_le _,hΦ⟩ ?_))))))
     clear hΦ hE
     clear Y r
     rintro ⟨Y,r,i⟩ ⟨hE,hi,hΦ⟩
     simp only at hE hi hΦ
     dsimp only
     refine cQ (sV (aO Z Z) (sN (nT (cS (cC Z (fun hd=>?_) (fun hd=>?_))))))
     ·have hlt:i<S.c.pars.length:=by simpa using hd
      rw [dX hlt,List.append_assoc] at hΦ
      have hlis:=hB.lists (List.getElem_mem hlt)
      obtain ⟨pb,po,pcap,pus,e1,hpus,hprd,hp⟩:=(hK.par.up hE).at (List.getElem?_eq_getElem hlt)
      obtain ⟨rfl,rfl⟩:cb=some ⟨pb,po,none⟩∧ck=pcap:=by cases e1; exact ⟨rfl,rfl⟩
      generalize S.c.pars[i]=p at hΦ hlis hp
      generalize hA:(S.c.pars.drop (i+1)).flatMap (S.f5)++R=A at hΦ
      obtain ⟨hlR,hlU,hlD,hlS⟩:=hlis
      have hp0:=hp
      obtain ⟨pa,pr,pu,pd,pS,rfl,hpa,hpR,hpu,hpd,hpsel⟩:=hp
      obtain ⟨aA,kA,rfl,_⟩:=id hpa.form
      obtain ⟨aR,kR,rfl,_⟩:=id hpR.form
      obtain ⟨aU,kU,rfl,_⟩:=id hpu.form
      obtain ⟨aD,kD,rfl,_⟩:=id hpd.form
      obtain ⟨aS,kS,rfl,_⟩:=id hpsel.form
      refine cK9 (xT (cS (cB (cQ (sV (vI (k:=i) Z Z oF Z hlt Z) (sV (ag Z p8 Z hprd) ?_))))))
      refine au uW fun b29=>?_
      refine ai Z Z rM Z Z ?_
      have hΦ : Φ (p.red.flatMap (S.f5a p)++A) r:=hΦ
      refine sN (nK9 [1,2,29,233,234,235] Z (nT (cQ (sV (vF Z wY Z) (sV (vY Z fH) ?_)))))
      refine sV (aF Z underlying40) (sM Z (sN (nK9 [1,2,29,233,234,235,240,241,242] Z (nT (cB (aZ (σ := Res×Res×Nat) (fun q=>[(1,.func (.yield yl) #[] #[]),(2,.pointer (some ⟨b2,0,none⟩)),(233,.slice (some ⟨pb,po,none⟩) S.c.pars.length ck),(234,.int .i64 S.c.pars.length),(235,.int .i64 (i:Nat)),(29,.pointer (some ⟨b29,0,none⟩)),(240,.slice aD p.red.length kD),(241,.int .i64 p.red.length),(242,.int .i64 (q.2.2:Nat))]) (fun q=>pt b29 (cl [sv p.name,.slice aA p.args.length kA,.slice aR p.ren.length kR,.slice aU p.und.length kU,.slice aD p.red.length kD,.slice aS p.sel.length kS] 88)::pt b2 (cl [v,.map (some mb),sv S.c.name,.bool S.c.dfd,ca,.slice (some ⟨pb,po,none⟩) S.c.pars.length ck,ce,.slice cf S.c.feats.length cfk,ci,.slice mA S.ms.length mK,.map (some bm),.bool all] 206)::q.1::mps mb m::mps bm bmp::q.2.1::hr) (fun q=>Ext Y q.1∧q.2.2≤p.red.length ∧ Φ ((p.red.drop q.2.2).flatMap (S.f5a p)++A) q.2.1) (fun q=>p.red.length - q.2.2) (Y,r,0) ⟨Ext.refl Y,Nat.zero_le _,hΦ⟩ ?_))))))
      clear hΦ
      rintro ⟨Zq9,r,j⟩ ⟨hE2,hj,hΦ⟩
      simp only at hE2 hj hΦ
      dsimp only
      refine cQ (sV (aO Z Z) (sN (nT (cS (cC Z (fun hd2=>?_) (fun hd2=>?_))))))
      ·have hltj:j<p.red.length:=by simpa using hd2
       rw [dX hltj,List.append_assoc] at hΦ
       have hEZ:=hE.trans hE2
       obtain ⟨nb,no,ncap,nus,e2,hnus,hnrd,hn⟩:=(hpd.up hE2).at (List.getElem?_eq_getElem hltj)
       obtain ⟨rfl,rfl⟩:aD=some ⟨nb,no,none⟩∧kD=ncap:=by cases e2; exact ⟨rfl,rfl⟩
       generalize p.red[j]=x at hΦ hn
       subst hn
       refine cK9 (xT (cS (cB (cQ (sV (vI (k:=j) Z Z jh Z hltj Z) (sV (vY Z ld9 (ha:=⟨_,_,slq,hnrd 0 (by simp)⟩)) ?_))))))
       refine sV (vA9 Z) (sN (nK9 [1,2,29,31,233,234,235,240,241,242] Z (nT (cQ (sV (vF Z gM Z) (sV (vF Z ko Z) (sV (vY Z yS) ?_)))))))
       refine sM Z (aH Z Z yx Z (iP (n:=x) (hK.feat.up hEZ)) ?_)
       rintro u h' ⟨rfl,gus,rfl,hgr⟩
       simp only [lC,lN]
       have hg15:gus.length=15:=Enc.len hgr
       have hgo:=Enc.ones hgr
       refine sM Z (sV (ah Z Z) (sV (ah Z Z) (au lm fun b32=>?_)))
       refine ai (hl:=by rw [hg15]; rfl) Z Z jP hg15 hgo ?_
       refine sV (vA9 Z) (sN (nK9 [1,2,29,31,33,233,234,235,240,241,242] Z (nT (cQ (sM Z (sV (bi Z) (sM Z ?_)))))))
       have hmf:(S.c.feats.find? fun c=>c.name == x)=feat S.c x:=rfl
       rw [hmf]
       unfold Sk.f5a at hΦ
       cases hq:feat S.c x
       ·rw [hq] at hΦ
        have hΦ2 : Φ (S.cf 5 x ⟨p.name,x⟩ og0::((p.red.drop (j+1)).flatMap (S.f5a p)++A)) r:=hΦ
        refine sG Z Z (vM Z) (sG Z Z (ag Z fC Z af) ?_)
        refine sG Z Z (vM Z) (sG Z Z (vF Z gH Z) (sG Z Z (vY Z ld9) ?_))
        refine sG Z Z (vM Z) (sG Z Z (aN (cells:=[sv p.name,sv x]) Z (fun _=>by kernel_rfl)) ?_)
        refine sG Z Z (aN (cells:=[sv [],sv []]) Z (fun _=>by kernel_rfl)) ?_
        refine bR Z Z Z Z jR Z (hcn 5 x ⟨p.name,x⟩ og0) ?_
        refine j4 (gd:=256) (.inr ⟨_,_,Z,Z,Z⟩) Z Z (hy _ _ _ hΦ2) ?_
        rintro u h' (⟨rfl,r',hΦ4,rfl⟩ | ⟨rfl,r',hst,rfl⟩)
        ·simp only [lC,lN]
         refine sG Z Z (bi Z) (sV (vQ Z Z) (sN (nK9 [1,2,29,233,234,235,240,241,242,268] Z (nT (aG Z ?_)))))
         refine cK9 (xB (xT (cR (sV (aI Z Z (by unfold I64 at *; omega)) (sM Z (sN (nK9 [1,2,29,233,234,235,240,241,242] Z (ax ?_))))))))
         refine aJ (Zq9,r',j+1) ⟨hE2,hltj,hΦ4⟩ (by dsimp only; omega)
        ·simp only [lC,lN]
         refine sG Z Z (bi Z) (sV (vQ Z Z) (sN (nK9 [1,2,29,233,234,235,240,241,242,268] Z (nT (aT Z ?_)))))
         refine cQ (sV (vA9 Z) (sN (nK9 [4] Z (nT (cT (xW (xR (xR (xW (xW (xR (xR (xW (xR ?_))))))))))))))
         exact aj Z ⟨Zq9,[mps mb m,mps bm bmp,r'],Z,hEZ,r',Z,.inr ⟨Z,_,hst⟩⟩ sbq
       ·rw [hq] at hΦ
        have hΦ : Φ ((p.red.drop (j+1)).flatMap (S.f5a p)++A) r:=hΦ
        iterate 11 refine aC rfl rfl rfl ?_
        refine sV (vP Z Z) (sN (nK9 [1,2,29,233,234,235,240,241,242,268] Z (nT (aG Z ?_))))
        refine cK9 (xB (xT (cR (sV (aI Z Z (by unfold I64 at *; omega)) (sM Z (sN (nK9 [1,2,29,233,234,235,240,241,242] Z (ax ?_))))))))
        refine aJ (Zq9,r,j+1) ⟨hE2,hltj,hΦ⟩ (by dsimp only; omega)
      ·have hje:j=p.red.length:=Nat.le_antisymm hj (Nat.not_lt.1 (by simpa using hd2))
       subst hje
       rw [dF,List.nil_append] at hΦ
       refine aB (xE (xE (xY (xB (xT (cR (sV (aI Z Z (by unfold I64 at *; omega)) (sM Z (sN (nK9 [1,2,233,234,235] Z (ax ?_)))))))))))
       refine aJ (Zq9,r,i+1) ⟨hE.trans hE2,hlt,by rw [hA]; exact hΦ⟩ (by dsimp only; omega)
     ·have hie:i=S.c.pars.length:=Nat.le_antisymm hi (Nat.not_lt.1 (by simpa using hd))
      subst hie
      rw [dF,List.nil_append] at hΦ
      refine aB (xE (xE (xY (xT (cQ (sV (vA9 Z) (sN (nK9 [4] Z (nT (cT ?_))))))))))
      exact aj Z ⟨Y,[mps mb m,mps bm bmp,r],Z,hE,r,Z,.inl ⟨Z,hΦ⟩⟩ sbq
end
end Go.Fl
