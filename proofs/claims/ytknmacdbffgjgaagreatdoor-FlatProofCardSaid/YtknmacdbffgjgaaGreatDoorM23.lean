/-
  Package flat: lost yields conflicts of the kinds from CnLost to CnIdle. Conditions: what is read; sizes.
-/
import Derived.Test.YtknmacdbffgjgaaGreatDoorM22
set_option linter.unusedVariables false
set_option linter.unusedSimpArgs false
set_option maxRecDepth 100000
set_option maxHeartbeats 16000000
namespace Go.Fl
open Go Go.RowKit Go.Ck Go.Proofs Go.Proofs.Tryz Go.Proofs.YtknmacdbffgjgaaGreatDoor Fx Go.Hr
structure SkR (X:Res) (S:Sk) (v:Value) (m:List (Nm×Value)) (ca cb ce cf ci mv:Value) (bmp:List (Nm×Value)):Prop where
 l:Ls X v S.l
 a:Ls X ca S.c.forms
 par:Ls X cb S.c.pars
 e:ce.oneCell'=true
 feat:Ls X cf S.c.feats
 inv:Ls X ci S.c.inv
 fl:FlR X m S.fl
 ms:Ls X mv S.ms
 by':∀ n,Ls X ((bL bmp n).getD<|.slice none 0 0) (under S.cs n)
theorem SkR.up {X Y:Res} {S:Sk} {v:Value} {m bmp:List (Nm×Value)} {ca cb ce cf ci mv:Value} (h:SkR X S v m ca cb ce cf ci mv bmp) (he:Ext X Y):SkR Y S v m ca cb ce cf ci mv bmp :=
 ⟨h.l.up he,h.a.up he,h.par.up he,h.e,h.feat.up he,h.inv.up he,h.fl.up he,h.ms.up he,λn=>(h.by' n).up he⟩
theorem SkR.c {X:Res} {S:Sk} {v:Value} {m bmp:List (Nm×Value)} {ca cb ce cf ci mv:Value} (h:SkR X S v m ca cb ce cf ci mv bmp):Enc.rep X [sv S.c.name,.bool S.c.dfd,ca,cb,ce,cf,ci] S.c:=⟨ca,cb,ce,cf,ci,rfl,h.a,h.par,h.e,h.feat,h.inv⟩
theorem ls_cat {Y:Res} {b:Nat} {x y z:Value} {p q s:List Nm} (h1:Ls Y x p) (h2:Ls Y y q) (h3:Ls Y z s):Ls (Res.star [pt b (cl [x,y,z] 40),Y]) (.slice (some ⟨b,0,none⟩) 3 3) [p,q,s]:=
 ⟨⟨some ⟨b,0,none⟩,3,rfl,Nat.le_refl _,by decide,(λh=>by cases h),λi w hi=>by
  match i,hi with
  | 0,hi=>cases hi; exact ⟨b,0,[x],rfl,rfl,λi hi=>by match i,hi with | 0,_=>exact bH .here _ _ (bU rfl),x,rfl,h1.up' (bH (.there .here))⟩
  | 1,hi=>cases hi; exact ⟨b,0,[y],rfl,rfl,λi hi=>by match i,hi with | 0,_=>exact bH .here _ _ (bU rfl),y,rfl,h2.up' (bH (.there .here))⟩
  | 2,hi=>cases hi; exact ⟨b,0,[z],rfl,rfl,λi hi=>by match i,hi with | 0,_=>exact bH .here _ _ (bU rfl),z,rfl,h3.up' (bH (.there .here))⟩⟩,(by show 3 * 24≤reachBytes; decide)⟩
theorem reads_nil {P:Program} {k:FuncId} {args:Array Value} {X:Res} {v:Value} (h:Reads P k args [] v):Reads P k args [X] v:=λhr w hh =>
 (h (X::hr) w hh).mono λ_ _ ⟨u,h',he,⟨hu,hh'⟩,hH,hS⟩=>⟨u,[X],he,⟨hu,rfl⟩,by subst hh'; exact hH,hS⟩
structure SkB (S:Sk):Prop where
 fits:Fits S.l S.fl
 cls:S.c∈S.l
 ms:(S.ms.flatMap λm=>m.seeds).length≤432000
 mf:S.ms.length≤300
theorem SkB.under {S:Sk} (h:SkB S) (n:Nm):(under S.cs n).length≤240:=Nat.le_trans (List.length_filter_le _ _) (h.fits.few<|.inl h.cls)
theorem SkB.fro {S:Sk} (h:SkB S) (i:Nat) (n:Nm):(S.fro i n).length≤240:=Nat.le_trans (List.length_filter_le _ _) (h.under n)
theorem SkB.lists {S:Sk} (h:SkB S) {p:Pt} (hp:p∈S.c.pars):p.ren.length≤12/\p.und.length≤12/\p.red.length≤12/\p.sel.length≤12:=h.fits.lists _ h.cls p hp
namespace Sk
section
variable (s:Sk)
def f1a (p:Pt×Nat) (r:Pn):List Cf:=if (dI (s.fl p.1.name).mems r.fro).isNone then [s.cf 1 r.fro ⟨p.1.name,r.fro⟩ og0] else []
def f1b (p:Pt×Nat) (n:Nm):List Cf:=if s.fro p.2 n=[] then [s.cf 1 n ⟨p.1.name,n⟩ og0] else []
def f1 (p:Pt×Nat):List Cf:=p.1.ren.flatMap (s.f1a p)++[p.1.und,p.1.red,p.1.sel].flatten.flatMap (s.f1b p)
def f2a (p:Pt) (n:Nm):List Cf:=if p.red.contains n then [s.cf 2 n ⟨p.name,n⟩ og0] else []
def f2 (p:Pt):List Cf:=p.und.flatMap (s.f2a p)
def f3a (p:Pt×Nat) (m:Mb):List Cf:=if 1<(s.fro p.2<|bN p.1 m.name).length then s.cpairs (s.fro p.2<|bN p.1 m.name) 3 (λ_ _=>true) else []
def f3 (p:Pt×Nat):List Cf:=(s.fl p.1.name).mems.flatMap (s.f3a p)
def f4b (n:Nm) (x:Cm):List Cf:=if x.was≠2 then [s.cf 4 n x.og og0] else []
def f4a (p:Pt×Nat) (n:Nm):List Cf:=(s.fro p.2 n).flatMap (s.f4b n)
def f4 (p:Pt×Nat):List Cf:=p.1.und.flatMap (s.f4a p)
def f5a (p:Pt) (n:Nm):List Cf:=if (feat s.c n).isNone then [s.cf 5 n ⟨p.name,n⟩ og0] else []
def f5 (p:Pt):List Cf:=p.red.flatMap (s.f5a p)
theorem lost_eq (R:List Cf):s.lost++R=s.c.pars.zipIdx.flatMap s.f1++(s.c.pars.flatMap s.f2++(s.c.pars.zipIdx.flatMap s.f3++(s.c.pars.zipIdx.flatMap s.f4++(s.c.pars.flatMap s.f5++R)))):=by
 have h1:∀ p,s.f1 p=(p.1.ren.flatMap λr=>if (dI (s.fl p.1.name).mems r.fro).isNone then [s.cf 1 r.fro ⟨p.1.name,r.fro⟩ og0] else []) ++
   (p.1.und++p.1.red++p.1.sel).flatMap λn=>if s.fro p.2 n=[] then [s.cf 1 n ⟨p.1.name,n⟩ og0] else []:=λp=>by
  unfold f1
  congr 1
  simp only [List.flatten_cons,List.flatten_nil,List.append_nil,List.append_assoc]
  rfl
 have h2:s.c.pars.zipIdx.flatMap s.f1=s.pz.flatMap λp=>(p.1.ren.flatMap λr=>if (dI (s.fl p.1.name).mems r.fro).isNone then [s.cf 1 r.fro ⟨p.1.name,r.fro⟩ og0] else []) ++
   (p.1.und++p.1.red++p.1.sel).flatMap λn=>if s.fro p.2 n=[] then [s.cf 1 n ⟨p.1.name,n⟩ og0] else []:=dG λp _=>h1 p
 rw [h2]
 unfold lost
 simp only [List.append_assoc]
 rfl
end
end Sk
attribute [local irreducible] Go.Ck.Sub St Cd Xt Nx DrL LsW
section
variable {X Y:Res} {v v':Value} {us us':List Value}

theorem lost_ct {yl mb bm : Nat} {Φ : List Cf -> Res -> Prop} {Stop : Cf -> Res -> Prop} (hy : Yh yl Φ Stop) {S : Sk} {all : Bool} (hall : S.all = all) {m bmp : List (Nm × Value)} {ca cb ce cf ci mv : Value} (hK : SkR X S v m ca cb ce cf ci mv bmp) (hB : SkB S) (R : List Cf) (r0 : Res) (h0 : Φ (S.lost ++ R) r0) :
  CtX prog 128 #[.agg (eZ v (.map<|some mb) S.c ca cb ce cf ci mv (.map<|some bm) all).toArray,.func (.yield yl) #[] #[]] X [mps mb m,mps bm bmp,r0] λu Y k'=>∃ r,k'=[mps mb m,mps bm bmp,r]/\Yend Φ Stop R u r:=by
 have hml:maxLen=9223372036854775807:=rfl
 obtain ⟨cb,ck,rfl,hckl,hckm,_⟩:=id hK.par.form
 obtain ⟨cf,cfk,rfl,_⟩:=id hK.feat.form
 obtain ⟨mA,mK,rfl,_⟩:=id hK.ms.form
 have hcn:=λb=>fU (fv:=.map<|some mb) (c:=S.c) (v:=v) (ca:=ca) (cb:=.slice cb S.c.pars.length ck) (ce:=ce) (cf:=.slice cf S.c.feats.length cfk) (ci:=ci) (mv:=.slice mA S.ms.length mK) (bv:=.map<|some bm) (all:=all) b
 rw [Sk.lost_eq] at h0
 generalize hT5:S.c.pars.flatMap S.f5++R=T4 at h0
 generalize hT4:S.c.pars.zipIdx.flatMap S.f4++T4=T3 at h0
 generalize hT3:S.c.pars.zipIdx.flatMap S.f3++T3=T2 at h0
 generalize hT2:S.c.pars.flatMap S.f2++T2=T1 at h0
 unfold CtX
 unfold eZ at *
 refine aL (n:=271) func128 Z Z (len Z) λhr w0=>?_
 refine cQ (aP Z Z λb2=>?_)
 refine sA Z<|sK [1,2,4] Z<|cS<|cQ<|sV (vF Z gU Z)<|sV (vF Z fu Z)<|sV (vY Z mr) ?_
 refine sV (aF Z underlying39)<|sM Z<|sK [1,2,4,36,37,38] Z<|cB<|aW (σ := Res×Res×Nat) (λq=>[(1,.func (.yield yl) #[] #[]),(2,.pointer (some ⟨b2,0,none⟩)),(36,.slice cb S.c.pars.length ck),(37,.int .i64 S.c.pars.length),(38,.int .i64 (q.2.2:Nat))]) (λq=>pt b2 (cl [v,.map (some mb),sv S.c.name,.bool S.c.dfd,ca,.slice cb S.c.pars.length ck,ce,.slice cf S.c.feats.length cfk,ci,.slice mA S.ms.length mK,.map (some bm),.bool all] 206)::q.1::mps mb m::mps bm bmp::q.2.1::hr) (λq=>Ext X q.1/\q.2.2≤S.c.pars.length /\ Φ ((S.c.pars.zipIdx.drop q.2.2).flatMap (S.f1)++T1) q.2.1) (λq=>S.c.pars.length - q.2.2) (X,r0,0) ⟨Ext.refl X,Nat.zero_le _,h0⟩ ?_
 clear h0
 rintro ⟨Y,r,i⟩ ⟨hE,hi,hΦ⟩
 simp only at hE hi hΦ
 dsimp only
 refine cQ<|sV (aN Z Z)<|sN<|nT<|cS<|cC Z (λhd=>?_)<|λhd=>?_
 ·have hlt:i<S.c.pars.length:=Zx
  rw [kC hlt,List.append_assoc] at hΦ
  have hlis:=hB.lists<|List.getElem_mem hlt
  obtain ⟨pb,po,pcap,pus,e1,hpus,hprd,hp⟩:=(hK.par.up hE).at<|Zy hlt
  obtain ⟨rfl,rfl⟩:cb=some ⟨pb,po,none⟩/\ck=pcap:=by cases e1; exact ⟨rfl,rfl⟩
  generalize S.c.pars[i]=p at hΦ hlis hp
  generalize hA:(S.c.pars.zipIdx.drop (i+1)).flatMap (S.f1)++T1=A at hΦ
  obtain ⟨hlR,hlU,hlD,hlS⟩:=hlis
  have hp0:=hp
  obtain ⟨pa,pr,pu,pd,pS,rfl,hpa,hpR,hpu,hpd,hpsel⟩:=hp
  obtain ⟨aA,kA,rfl,_⟩:=id hpa.form
  obtain ⟨aR,kR,rfl,_⟩:=id hpR.form
  obtain ⟨aU,kU,rfl,_⟩:=id hpu.form
  obtain ⟨aD,kD,rfl,_⟩:=id hpd.form
  obtain ⟨aS,kS,rfl,_⟩:=id hpsel.form
  refine cK<|xT<|cS<|cB<|cQ<|sM Z<|sV (vI (k:=i) Z Z oW Z hlt Z)<|sV (af Z qD Z hprd) ?_
  refine ak vG λb6=>?_
  refine sA Z<|ai Z Z sH Z Z ?_
  have hΦ : Φ (p.ren.flatMap (S.f1a (p,i))++([p.und,p.red,p.sel].flatten.flatMap (S.f1b (p,i))++A)) r:=by rw [<- List.append_assoc]; exact hΦ
  generalize hA2:[p.und,p.red,p.sel].flatten.flatMap (S.f1b (p,i))++A=A2 at hΦ
  refine sK [1,2,5,6,36,37,38] Z<|cS<|cQ<|sV (vF Z zK Z)<|sV (vY Z ld86) ?_
  refine sV (aF Z underlying86)<|sM Z<|sK [1,2,5,6,36,37,38,44,45,46] Z<|cB<|aW (σ := Res×Res×Nat) (λq=>[(1,.func (.yield yl) #[] #[]),(2,.pointer (some ⟨b2,0,none⟩)),(36,.slice (some ⟨pb,po,none⟩) S.c.pars.length ck),(37,.int .i64 S.c.pars.length),(38,.int .i64 (i:Nat)),(5,.int .i64 (i:Nat)),(6,.pointer (some ⟨b6,0,none⟩)),(44,.slice aR p.ren.length kR),(45,.int .i64 p.ren.length),(46,.int .i64 (q.2.2:Nat))]) (λq=>pt b6 (cl [sv p.name,.slice aA p.args.length kA,.slice aR p.ren.length kR,.slice aU p.und.length kU,.slice aD p.red.length kD,.slice aS p.sel.length kS] 88)::pt b2 (cl [v,.map (some mb),sv S.c.name,.bool S.c.dfd,ca,.slice (some ⟨pb,po,none⟩) S.c.pars.length ck,ce,.slice cf S.c.feats.length cfk,ci,.slice mA S.ms.length mK,.map (some bm),.bool all] 206)::q.1::mps mb m::mps bm bmp::q.2.1::hr) (λq=>Ext Y q.1/\q.2.2≤p.ren.length /\ Φ ((p.ren.drop q.2.2).flatMap (S.f1a (p,i))++A2) q.2.1) (λq=>p.ren.length - q.2.2) (Y,r,0) ⟨Ext.refl Y,Nat.zero_le _,hΦ⟩ ?_
  clear hΦ
  rintro ⟨Zq,r,j⟩ ⟨hE2,hj,hΦ⟩
  simp only at hE2 hj hΦ
  dsimp only
  refine cQ<|sV (aN Z Z)<|sN<|nT<|cS<|cC Z (λhd2=>?_)<|λhd2=>?_
  ·have hltj:j<p.ren.length:=Zw
   rw [eD hltj,List.append_assoc] at hΦ
   have hEZ:=hE.trans hE2
   obtain ⟨nb,no,ncap,nus,e2,hnus,hnrd,hn⟩:=(hpR.up hE2).at<|Zy hltj
   obtain ⟨rfl,rfl⟩:aR=some ⟨nb,no,none⟩/\kR=ncap:=by cases e2; exact ⟨rfl,rfl⟩
   generalize p.ren[j]=x at hΦ hn
   subst hn
   refine cK<|xT<|cS<|cB<|cQ<|sV (vI (k:=j) Z Z sl86 Z hltj Z)<|sV (af Z qV Z hnrd) ?_
   refine ak Fu λb8=>?_
   refine ai Z Z zD Z Z ?_
   refine sK [1,2,5,6,8,36,37,38,44,45,46] Z<|cQ<|sV (vF Z DY Z)<|sV (vF Z iX Z)<|sV (vY Z qm) ?_
   refine sV (vF Z gN Z)<|sV (vY Z ld9) ?_
   obtain ⟨fus,hfl,hfr2⟩:=(hK.fl.up hEZ) p.name
   obtain ⟨mx,my,rfl,hmx,hmy⟩:=hfr2
   obtain ⟨qA,qK,rfl,_⟩:=id hmx.form
   refine sV (gG hfl<|bI Z Z qj ql slq) ?_
   refine sV (iU (k:=2) Z underlying55 Z isAgg52 Z)<|sV (vF Z yK Z)<|sV (vY Z ld9) ?_
   refine aJ Z Z en169 Z (ut (n:=x.fro) hmx) ?_
   rintro u h' ⟨rfl,gus,rfl,hgr⟩
   simp only [lC,lN]
   have hg14:gus.length=14:=Enc.len hgr
   have hgo:=Enc.ones hgr
   refine sM Z<|sV (ah Z Z)<|sV (ah Z Z) (ak iR λb9=>?_)
   refine ai (hl:=by rw [hg14]; rfl) Z Z gF hg14 hgo ?_
   refine sA Z<|sK [1,2,5,6,8,10,36,37,38,44,45,46] Z<|cQ<|sM Z<|sV (aZ Z)<|sM Z ?_
   have hmf:((S.fl p.name).mems.find? λc=>c.name == x.fro)=dI (S.fl p.name).mems x.fro:=rfl
   rw [hmf]
   unfold Sk.f1a at hΦ
   dsimp only at hΦ
   cases hq:dI (S.fl p.name).mems x.fro
   ·rw [hq] at hΦ
    have hΦ2 : Φ (S.cf 1 x.fro ⟨p.name,x.fro⟩ og0::((p.ren.drop (j+1)).flatMap (S.f1a (p,i))++A2)) r:=hΦ
    refine sG Z Z (vM Z)<|sG Z Z (af Z fH Z ag) ?_
    refine sG Z Z (vF Z yK Z)<|sG Z Z (vY Z ld9) ?_
    refine sG Z Z (vF Z gN Z)<|sG Z Z (vY Z ld9) ?_
    refine sG Z Z (vF Z yK Z)<|sG Z Z (vY Z ld9) ?_
    refine sG Z Z (aO (cells:=[sv p.name,sv x.fro]) Z<|λ_=>Zz) ?_
    refine sG Z Z (aO (cells:=[sv [],sv []]) Z<|λ_=>Zz) ?_
    refine bJ Z Z Z Z jZ Z (hcn 1 x.fro ⟨p.name,x.fro⟩ og0) ?_
    refine kz (gd:=65) (.inr ⟨_,_,Z,Z,Z⟩) Z Z (hy _ _ _ hΦ2) ?_
    rintro u h' (⟨rfl,r',hΦ4,rfl⟩ | ⟨rfl,r',hst,rfl⟩)
    ·simp only [lC,lN]
     refine sG Z Z (aZ Z)<|sV (vQ Z Z)<|sK [1,2,5,6,36,37,38,44,45,46,79] Z<|aH Z ?_
     refine cK<|xB<|xT<|cR<|sV (aI Z Z Z0)<|sM Z<|sN<|nK [1,2,5,6,36,37,38,44,45,46] Z<|ax ?_
     refine aM (Zq,r',j+1) ⟨hE2,hltj,hΦ4⟩ (by dsimp only; omega)
    ·simp only [lC,lN]
     refine sG Z Z (aZ Z)<|sV (vQ Z Z)<|sK [1,2,5,6,36,37,38,44,45,46,79] Z<|aQ Z ?_
     refine cQ<|sA Z<|sK [4] Z<|cT<|xW<|xR<|xR<|xW<|xR<|xW<|xR<|xR<|xW ?_
     refine xR ?_
     exact aj Z ⟨Zq,[mps mb m,mps bm bmp,r'],Z,hEZ,r',Z,.inr ⟨Z,_,hst⟩⟩ sbq
   ·rw [hq] at hΦ
    iterate 13 refine aB rfl rfl rfl ?_
    refine sV (vP Z Z)<|sK [1,2,5,6,36,37,38,44,45,46,79] Z<|aH Z ?_
    refine cK<|xB<|xT<|cR<|sV (aI Z Z Z0)<|sM Z<|sN<|nK [1,2,5,6,36,37,38,44,45,46] Z<|ax ?_
    refine aM (Zq,r,j+1) ⟨hE2,hltj,hΦ⟩ (by dsimp only; omega)
  ·have hje:j=p.ren.length:=Nat.le_antisymm hj<|Nat.not_lt.1 Zw
   subst hje
   rw [dL,List.nil_append] at hΦ
   generalize hns:[p.und,p.red,p.sel].flatten=ns at hA2
   have hnl:ns.length≤36:=by
    rw [<- hns]
    simp only [List.flatten_cons,List.flatten_nil,List.append_nil,List.length_append]
    omega
   have hcat:∀ b87,CtN prog 205 #[.slice (some ⟨b87,0,none⟩) 3 3] [pt b87 (cl [.slice aU p.und.length kU,.slice aD p.red.length kD,.slice aS p.sel.length kS] 40),Zq] λu T=>u.oneCell'=true/\T=NR u ns:=λb87=>by
    have h:=Ez (ls_cat (b:=b87) (hpu.up hE2) (hpd.up hE2)<|hpsel.up hE2) (by rw [hns]; omega)
    rw [hns] at h
    exact j4 h
   refine aC<|xE<|xE<|xY<|xT<|cQ<|sV (vF Z wN Z)<|sV (vY Z fq) ?_
   refine sV (vF Z wO Z)<|sV (vY Z fq) ?_
   refine sV (vF Z zL Z)<|sV (vY Z fq) ?_
   refine au (cells:=[.slice aU p.und.length kU,.slice aD p.red.length kD,.slice aS p.sel.length kS]) Z underlying325 inf40 Z Z Zz (ltn Z) λb87=>?_
   refine aJ Z Z en205 Z (hcat b87) ?_
   rintro u h' ⟨T,rfl,hu,rfl⟩
   simp only [lC,lN]
   unfold NR
   refine jB (v:=u) (E:=9) (sz:=1) (rows:=ns.map nC) slq λwa wc hwf hwl hwm=>?_
   rw [List.length_map] at hwf hwl
   subst hwf
   refine sV (aF Z underlying40)<|sM Z<|sK [1,2,5,6,36,37,38,88,89,90] Z<|cB ?_
   rw [<- hA2] at hΦ
   refine aW (σ := Res×Res×Nat) (λq=>[(1,.func (.yield yl) #[] #[]),(2,.pointer (some ⟨b2,0,none⟩)),(36,.slice (some ⟨pb,po,none⟩) S.c.pars.length ck),(37,.int .i64 S.c.pars.length),(38,.int .i64 (i:Nat)),(5,.int .i64 (i:Nat)),(6,.pointer (some ⟨b6,0,none⟩)),(88,.slice wa ns.length wc),(89,.int .i64 ns.length),(90,.int .i64 (q.2.2:Nat))]) (λq=>VR (.slice wa ns.length wc) 9 1 (ns.map nC)::pt b6 (cl [sv p.name,.slice aA p.args.length kA,.slice aR p.ren.length kR,.slice aU p.und.length kU,.slice aD p.red.length kD,.slice aS p.sel.length kS] 88)::pt b2 (cl [v,.map (some mb),sv S.c.name,.bool S.c.dfd,ca,.slice (some ⟨pb,po,none⟩) S.c.pars.length ck,ce,.slice cf S.c.feats.length cfk,ci,.slice mA S.ms.length mK,.map (some bm),.bool all] 206)::q.1::mps mb m::mps bm bmp::q.2.1::hr) (λq=>Ext Zq q.1/\q.2.2≤ns.length /\ Φ ((ns.drop q.2.2).flatMap (S.f1b (p,i))++A) q.2.1) (λq=>ns.length - q.2.2) (Zq,r,0) ⟨Ext.refl Zq,Nat.zero_le _,hΦ⟩ ?_
   clear hΦ
   rintro ⟨Y2,r,k⟩ ⟨hE3,hk,hΦ⟩
   simp only at hE3 hk hΦ
   dsimp only
   refine cQ<|sV (aN Z Z)<|sN<|nT<|cS<|cC Z (λhd3=>?_)<|λhd3=>?_
   ·have hltk:k<ns.length:=Zp
    rw [eD hltk,List.append_assoc] at hΦ
    have hnx:(ns.map nC)[k]? = some [sv ns[k]]:=by rw [List.getElem?_map,Zy hltk]; rfl
    refine fQ (r:=VR (.slice wa ns.length wc) 9 1<|ns.map nC) slq λhok=>?_
    obtain ⟨ab,ao,rfl⟩:∃ ab ao,wa=some ⟨ab,ao,none⟩:=by
     obtain ⟨f0,hf0⟩:=hok
     rcases VR.form hf0 with ⟨h3,h4⟩ | ⟨b,o,cp,h3,-⟩
     ·have:=List.map_eq_nil_iff.1 h4
      subst this; simp at hltk
     ·rw [List.length_map] at h3; cases h3; exact ⟨b,o,rfl⟩
    generalize ns[k]=n at hΦ hnx
    refine cK<|xT<|cS<|cB<|cQ<|sV (vI (k:=k) Z Z iZ Z hltk Z)<|sV (vY Z ld9 (ha:=⟨_,_,slq,eX hnx 0<|by simp⟩)) ?_
    refine sA Z<|sK [1,2,5,6,12,36,37,38,88,89,90] Z<|cQ ?_
    have hK9:=hK.up<|hE.trans<|hE2.trans hE3
    refine sV (af Z fH Z ag) ?_
    refine sM Z<|sM Z<|aJ Z Z Kh Z (p9 (v:=v) (fv:=.map<|some mb) (c:=S.c) (ca:=ca) (cb:=.slice (some ⟨pb,po,none⟩) S.c.pars.length ck) (ce:=ce) (cf:=.slice cf S.c.feats.length cfk) (ci:=ci) (mv:=.slice mA S.ms.length mK) (all:=all) (bm:=bm) (i:=i) (n:=n) (hK9.by' n) (by have:=hB.under n; omega)) ?_
    rintro u h' ⟨Y3,k9,rfl,hE4,rows,hu,hro,rfl⟩
    simp only [lC,lN]
    have hro:Rws Y3 rows (S.fro i<|n):=hro
    have hrl:=hro.1
    have hfl:=hB.fro i<|n
    refine jB (v:=u) (E:=191) (sz:=18) (rows:=rows) slq λla lc hlf hll hlm=>?_
    rw [hrl] at hlf hll
    subst hlf
    refine sV (aF Z underlying187)<|sV (dE Z Z)<|sM Z ?_
    unfold Sk.f1b at hΦ
    dsimp only at hΦ
    by_cases hq:S.fro i n=[]
    ·rw [if_pos hq] at hΦ
     have hΦ2 : Φ (S.cf 1 n ⟨p.name,n⟩ og0::((ns.drop (k+1)).flatMap (S.f1b (p,i))++A)) r:=hΦ
     have hg:(((S.fro i n).length:Int) == 0)=true:=by rw [hq]; rfl
     rw [hg]
     refine sG Z Z (vM Z)<|sG Z Z (af Z fH Z ag) ?_
     refine sG Z Z (vM Z)<|sG Z Z (vF Z gN Z)<|sG Z Z (vY Z ld9) ?_
     refine sG Z Z (vM Z)<|sG Z Z (aO (cells:=[sv p.name,sv n]) Z<|λ_=>Zz) ?_
     refine sG Z Z (aO (cells:=[sv [],sv []]) Z<|λ_=>Zz) ?_
     refine bJ Z Z Z Z jZ Z (hcn 1 n ⟨p.name,n⟩ og0) ?_
     refine kz (gd:=100) (.inr ⟨_,_,Z,Z,Z⟩) Z Z (hy _ _ _ hΦ2) ?_
     rintro u h' (⟨rfl,r',hΦ4,rfl⟩ | ⟨rfl,r',hst,rfl⟩)
     ·simp only [lC,lN]
      refine sG Z Z (aZ Z)<|sV (vQ Z Z)<|sK [1,2,5,6,36,37,38,88,89,90,112] Z<|aH Z ?_
      refine cK<|xB<|xT<|cR<|sV (aI Z Z Z0)<|sM Z<|sN<|nK [1,2,5,6,36,37,38,88,89,90] Z<|ax ?_
      refine aM (Y3,r',k+1) ⟨hE3.trans hE4,hltk,hΦ4⟩ (by dsimp only; omega)
     ·simp only [lC,lN]
      refine sG Z Z (aZ Z)<|sV (vQ Z Z)<|sK [1,2,5,6,36,37,38,88,89,90,112] Z<|aQ Z ?_
      refine cQ<|sA Z<|sK [4] Z<|cT<|xW<|xR<|xR<|xW<|xW<|xR<|xR<|xW<|xR ?_
      exact aj Z ⟨Y3,[mps mb m,mps bm bmp,r'],Z,hE.trans (hE2.trans<|hE3.trans hE4),r',Z,.inr ⟨Z,_,hst⟩⟩ sbq
    ·rw [if_neg hq] at hΦ
     have hg:(((S.fro i n).length:Int) == 0)=false:=by
      have:=List.length_pos_iff.2 hq
      simp only [beq_eq_false_iff_ne,ne_eq]; omega
     rw [hg]
     iterate 11 refine aB rfl rfl rfl ?_
     refine sV (vP Z Z)<|sK [1,2,5,6,36,37,38,88,89,90,112] Z<|aH Z ?_
     refine cK<|xB<|xT<|cR<|sV (aI Z Z Z0)<|sM Z<|sN<|nK [1,2,5,6,36,37,38,88,89,90] Z<|ax ?_
     refine aM (Y3,r,k+1) ⟨hE3.trans hE4,hltk,hΦ⟩ (by dsimp only; omega)
   ·have hke:k=ns.length:=Nat.le_antisymm hk<|Nat.not_lt.1 Zp
    subst hke
    rw [dL,List.nil_append] at hΦ
    refine aC<|xE<|xE<|xY<|xB<|xT<|cR<|sV (aI Z Z Z0)<|sM Z<|sN<|nK [1,2,36,37,38] Z<|ax ?_
    refine aM (Y2,r,i+1) ⟨hE.trans (hE2.trans hE3),hlt,by rw [hA]; exact hΦ⟩ (by dsimp only; omega)
 ·have hie:i=S.c.pars.length:=Nat.le_antisymm hi<|Nat.not_lt.1 Zx
  subst hie
  rw [mY,List.nil_append] at hΦ
  rw [<- hT2] at hΦ
  refine aC<|xE<|xE<|xY<|xT<|cS<|cQ<|sV (vF Z gU Z)<|sV (vF Z fu Z)<|sV (vY Z mr) ?_
  refine sV (aF Z underlying39)<|sM Z<|sK [1,2,117,118,119] Z<|cB<|aW (σ := Res×Res×Nat) (λq=>[(1,.func (.yield yl) #[] #[]),(2,.pointer (some ⟨b2,0,none⟩)),(117,.slice cb S.c.pars.length ck),(118,.int .i64 S.c.pars.length),(119,.int .i64 (q.2.2:Nat))]) (λq=>pt b2 (cl [v,.map (some mb),sv S.c.name,.bool S.c.dfd,ca,.slice cb S.c.pars.length ck,ce,.slice cf S.c.feats.length cfk,ci,.slice mA S.ms.length mK,.map (some bm),.bool all] 206)::q.1::mps mb m::mps bm bmp::q.2.1::hr) (λq=>Ext X q.1/\q.2.2≤S.c.pars.length /\ Φ ((S.c.pars.drop q.2.2).flatMap (S.f2)++T2) q.2.1) (λq=>S.c.pars.length - q.2.2) (Y,r,0) ⟨hE,Nat.zero_le _,hΦ⟩ ?_
  clear hΦ hE
  clear Y r
  rintro ⟨Y,r,i⟩ ⟨hE,hi,hΦ⟩
  simp only at hE hi hΦ
  dsimp only
  refine cQ<|sV (aN Z Z)<|sN<|nT<|cS<|cC Z (λhd=>?_)<|λhd=>?_
  ·have hlt:i<S.c.pars.length:=Zx
   rw [eD hlt,List.append_assoc] at hΦ
   have hlis:=hB.lists<|List.getElem_mem hlt
   obtain ⟨pb,po,pcap,pus,e1,hpus,hprd,hp⟩:=(hK.par.up hE).at<|Zy hlt
   obtain ⟨rfl,rfl⟩:cb=some ⟨pb,po,none⟩/\ck=pcap:=by cases e1; exact ⟨rfl,rfl⟩
   generalize S.c.pars[i]=p at hΦ hlis hp
   generalize hA:(S.c.pars.drop (i+1)).flatMap (S.f2)++T2=A at hΦ
   obtain ⟨hlR,hlU,hlD,hlS⟩:=hlis
   have hp0:=hp
   obtain ⟨pa,pr,pu,pd,pS,rfl,hpa,hpR,hpu,hpd,hpsel⟩:=hp
   obtain ⟨aA,kA,rfl,_⟩:=id hpa.form
   obtain ⟨aR,kR,rfl,_⟩:=id hpR.form
   obtain ⟨aU,kU,rfl,_⟩:=id hpu.form
   obtain ⟨aD,kD,rfl,_⟩:=id hpd.form
   obtain ⟨aS,kS,rfl,_⟩:=id hpsel.form
   refine cK<|xT<|cS<|cB<|cQ<|sV (vI (k:=i) Z Z oW Z hlt Z)<|sV (af Z qD Z hprd) ?_
   refine ak vG λb14=>?_
   refine ai Z Z sH Z Z ?_
   have hΦ : Φ (p.und.flatMap (S.f2a p)++A) r:=hΦ
   refine sK [1,2,14,117,118,119] Z<|cQ<|sV (vF Z wN Z)<|sV (vY Z fq) ?_
   refine sV (aF Z underlying40)<|sM Z<|sK [1,2,14,117,118,119,124,125,126] Z<|cB<|aW (σ := Res×Res×Nat) (λq=>[(1,.func (.yield yl) #[] #[]),(2,.pointer (some ⟨b2,0,none⟩)),(117,.slice (some ⟨pb,po,none⟩) S.c.pars.length ck),(118,.int .i64 S.c.pars.length),(119,.int .i64 (i:Nat)),(14,.pointer (some ⟨b14,0,none⟩)),(124,.slice aU p.und.length kU),(125,.int .i64 p.und.length),(126,.int .i64 (q.2.2:Nat))]) (λq=>pt b14 (cl [sv p.name,.slice aA p.args.length kA,.slice aR p.ren.length kR,.slice aU p.und.length kU,.slice aD p.red.length kD,.slice aS p.sel.length kS] 88)::pt b2 (cl [v,.map (some mb),sv S.c.name,.bool S.c.dfd,ca,.slice (some ⟨pb,po,none⟩) S.c.pars.length ck,ce,.slice cf S.c.feats.length cfk,ci,.slice mA S.ms.length mK,.map (some bm),.bool all] 206)::q.1::mps mb m::mps bm bmp::q.2.1::hr) (λq=>Ext Y q.1/\q.2.2≤p.und.length /\ Φ ((p.und.drop q.2.2).flatMap (S.f2a p)++A) q.2.1) (λq=>p.und.length - q.2.2) (Y,r,0) ⟨Ext.refl Y,Nat.zero_le _,hΦ⟩ ?_
   clear hΦ
   rintro ⟨Zq,r,j⟩ ⟨hE2,hj,hΦ⟩
   simp only at hE2 hj hΦ
   dsimp only
   refine cQ<|sV (aN Z Z)<|sN<|nT<|cS<|cC Z (λhd2=>?_)<|λhd2=>?_
   ·have hltj:j<p.und.length:=Zw
    rw [eD hltj,List.append_assoc] at hΦ
    have hEZ:=hE.trans hE2
    obtain ⟨nb,no,ncap,nus,e2,hnus,hnrd,hn⟩:=(hpu.up hE2).at<|Zy hltj
    obtain ⟨rfl,rfl⟩:aU=some ⟨nb,no,none⟩/\kU=ncap:=by cases e2; exact ⟨rfl,rfl⟩
    generalize p.und[j]=x at hΦ hn
    subst hn
    refine cK<|xT<|cS<|cB<|cQ<|sV (vI (k:=j) Z Z iZ Z hltj Z)<|sV (vY Z ld9 (ha:=⟨_,_,slq,hnrd 0<|by simp⟩)) ?_
    refine sA Z<|sK [1,2,14,16,117,118,119,124,125,126] Z<|cQ<|sV (vF Z wO Z)<|sV (vY Z fq) ?_
    refine sM Z<|aX Z Z D5 Z (fF (Eu<|hpd.up hE2) x<|by omega) ?_
    refine sM Z ?_
    unfold Sk.f2a at hΦ
    cases hq:p.red.contains x
    ·rw [hq] at hΦ
     have hΦ : Φ ((p.und.drop (j+1)).flatMap (S.f2a p)++A) r:=hΦ
     iterate 11 refine aB rfl rfl rfl ?_
     refine sV (vP Z Z)<|sK [1,2,14,117,118,119,124,125,126,146] Z<|aH Z ?_
     refine cK<|xB<|xT<|cR<|sV (aI Z Z Z0)<|sM Z<|sN<|nK [1,2,14,117,118,119,124,125,126] Z<|ax ?_
     refine aM (Zq,r,j+1) ⟨hE2,hltj,hΦ⟩ (by dsimp only; omega)
    ·rw [hq] at hΦ
     have hΦ2 : Φ (S.cf 2 x ⟨p.name,x⟩ og0::((p.und.drop (j+1)).flatMap (S.f2a p)++A)) r:=hΦ
     refine sG Z Z (vM Z)<|sG Z Z (af Z fH Z ag) ?_
     refine sG Z Z (vM Z)<|sG Z Z (vF Z gN Z)<|sG Z Z (vY Z ld9) ?_
     refine sG Z Z (vM Z)<|sG Z Z (aO (cells:=[sv p.name,sv x]) Z<|λ_=>Zz) ?_
     refine sG Z Z (aO (cells:=[sv [],sv []]) Z<|λ_=>Zz) ?_
     refine bJ Z Z Z Z jZ Z (hcn 2 x ⟨p.name,x⟩ og0) ?_
     refine kz (gd:=134) (.inr ⟨_,_,Z,Z,Z⟩) Z Z (hy _ _ _ hΦ2) ?_
     rintro u h' (⟨rfl,r',hΦ4,rfl⟩ | ⟨rfl,r',hst,rfl⟩)
     ·simp only [lC,lN]
      refine sG Z Z (aZ Z)<|sV (vQ Z Z)<|sK [1,2,14,117,118,119,124,125,126,146] Z<|aH Z ?_
      refine cK<|xB<|xT<|cR<|sV (aI Z Z Z0)<|sM Z<|sN<|nK [1,2,14,117,118,119,124,125,126] Z<|ax ?_
      refine aM (Zq,r',j+1) ⟨hE2,hltj,hΦ4⟩ (by dsimp only; omega)
     ·simp only [lC,lN]
      refine sG Z Z (aZ Z)<|sV (vQ Z Z)<|sK [1,2,14,117,118,119,124,125,126,146] Z<|aQ Z ?_
      refine cQ<|sA Z<|sK [4] Z<|cT<|xW<|xR<|xR<|xW<|xW<|xR<|xR<|xW<|xR ?_
      exact aj Z ⟨Zq,[mps mb m,mps bm bmp,r'],Z,hEZ,r',Z,.inr ⟨Z,_,hst⟩⟩ sbq
   ·have hje:j=p.und.length:=Nat.le_antisymm hj<|Nat.not_lt.1 Zw
    subst hje
    rw [dL,List.nil_append] at hΦ
    refine aC<|xE<|xE<|xY<|xB<|xT<|cR<|sV (aI Z Z Z0)<|sM Z<|sN<|nK [1,2,117,118,119] Z<|ax ?_
    refine aM (Zq,r,i+1) ⟨hE.trans hE2,hlt,by rw [hA]; exact hΦ⟩ (by dsimp only; omega)
  ·have hie:i=S.c.pars.length:=Nat.le_antisymm hi<|Nat.not_lt.1 Zx
   subst hie
   rw [dL,List.nil_append] at hΦ
   rw [<- hT3] at hΦ
   refine aC<|xE<|xE<|xY<|xT<|cS<|cQ<|sV (vF Z gU Z)<|sV (vF Z fu Z)<|sV (vY Z mr) ?_
   refine sV (aF Z underlying39)<|sM Z<|sK [1,2,151,152,153] Z<|cB<|aW (σ := Res×Res×Nat) (λq=>[(1,.func (.yield yl) #[] #[]),(2,.pointer (some ⟨b2,0,none⟩)),(151,.slice cb S.c.pars.length ck),(152,.int .i64 S.c.pars.length),(153,.int .i64 (q.2.2:Nat))]) (λq=>pt b2 (cl [v,.map (some mb),sv S.c.name,.bool S.c.dfd,ca,.slice cb S.c.pars.length ck,ce,.slice cf S.c.feats.length cfk,ci,.slice mA S.ms.length mK,.map (some bm),.bool all] 206)::q.1::mps mb m::mps bm bmp::q.2.1::hr) (λq=>Ext X q.1/\q.2.2≤S.c.pars.length /\ Φ ((S.c.pars.zipIdx.drop q.2.2).flatMap (S.f3)++T3) q.2.1) (λq=>S.c.pars.length - q.2.2) (Y,r,0) ⟨hE,Nat.zero_le _,hΦ⟩ ?_
   clear hΦ hE
   clear Y r
   rintro ⟨Y,r,i⟩ ⟨hE,hi,hΦ⟩
   simp only at hE hi hΦ
   dsimp only
   refine cQ<|sV (aN Z Z)<|sN<|nT<|cS<|cC Z (λhd=>?_)<|λhd=>?_
   ·have hlt:i<S.c.pars.length:=Zx
    rw [kC hlt,List.append_assoc] at hΦ
    have hlis:=hB.lists<|List.getElem_mem hlt
    obtain ⟨pb,po,pcap,pus,e1,hpus,hprd,hp⟩:=(hK.par.up hE).at<|Zy hlt
    obtain ⟨rfl,rfl⟩:cb=some ⟨pb,po,none⟩/\ck=pcap:=by cases e1; exact ⟨rfl,rfl⟩
    generalize S.c.pars[i]=p at hΦ hlis hp
    generalize hA:(S.c.pars.zipIdx.drop (i+1)).flatMap (S.f3)++T3=A at hΦ
    obtain ⟨hlR,hlU,hlD,hlS⟩:=hlis
    have hp0:=hp
    obtain ⟨pa,pr,pu,pd,pS,rfl,hpa,hpR,hpu,hpd,hpsel⟩:=hp
    obtain ⟨aA,kA,rfl,_⟩:=id hpa.form
    obtain ⟨aR,kR,rfl,_⟩:=id hpR.form
    obtain ⟨aU,kU,rfl,_⟩:=id hpu.form
    obtain ⟨aD,kD,rfl,_⟩:=id hpd.form
    obtain ⟨aS,kS,rfl,_⟩:=id hpsel.form
    refine cK<|xT<|cS<|cB<|cQ<|sM Z<|sV (vI (k:=i) Z Z oW Z hlt Z)<|sV (af Z qD Z hprd) ?_
    refine ak vG λb18=>?_
    refine sA Z<|ai Z Z sH Z Z ?_
    have hΦ : Φ ((S.fl p.name).mems.flatMap (S.f3a (p,i))++A) r:=hΦ
    refine sK [1,2,17,18,151,152,153] Z<|cQ<|sV (vF Z DY Z)<|sV (vF Z iX Z)<|sV (vY Z qm) ?_
    refine sV (vF Z gN Z)<|sV (vY Z ld9) ?_
    obtain ⟨fus,hfl,hfr2⟩:=(hK.fl.up hE) p.name
    obtain ⟨mx,my,rfl,hmx,hmy⟩:=hfr2
    obtain ⟨qA,qK,rfl,_⟩:=id hmx.form
    refine sV (gG hfl<|bI Z Z qj ql slq) ?_
    refine sV (iU (k:=2) Z underlying55 Z isAgg52 Z)<|sV (aF Z underlying52)<|sM Z<|sK [1,2,17,18,151,152,153,164,165,166] Z<|cB<|aW (σ := Res×Res×Nat) (λq=>[(1,.func (.yield yl) #[] #[]),(2,.pointer (some ⟨b2,0,none⟩)),(151,.slice (some ⟨pb,po,none⟩) S.c.pars.length ck),(152,.int .i64 S.c.pars.length),(153,.int .i64 (i:Nat)),(18,.pointer (some ⟨b18,0,none⟩)),(17,.int .i64 (i:Nat)),(164,.slice qA (S.fl p.name).mems.length qK),(165,.int .i64 (S.fl p.name).mems.length),(166,.int .i64 (q.2.2:Nat))]) (λq=>pt b18 (cl [sv p.name,.slice aA p.args.length kA,.slice aR p.ren.length kR,.slice aU p.und.length kU,.slice aD p.red.length kD,.slice aS p.sel.length kS] 88)::pt b2 (cl [v,.map (some mb),sv S.c.name,.bool S.c.dfd,ca,.slice (some ⟨pb,po,none⟩) S.c.pars.length ck,ce,.slice cf S.c.feats.length cfk,ci,.slice mA S.ms.length mK,.map (some bm),.bool all] 206)::q.1::mps mb m::mps bm bmp::q.2.1::hr) (λq=>Ext Y q.1/\q.2.2≤(S.fl p.name).mems.length /\ Φ (((S.fl p.name).mems.drop q.2.2).flatMap (S.f3a (p,i))++A) q.2.1) (λq=>(S.fl p.name).mems.length - q.2.2) (Y,r,0) ⟨Ext.refl Y,Nat.zero_le _,hΦ⟩ ?_
    clear hΦ
    rintro ⟨Zq,r,j⟩ ⟨hE2,hj,hΦ⟩
    simp only at hE2 hj hΦ
    dsimp only
    refine cQ<|sV (aN Z Z)<|sN<|nT<|cS<|cC Z (λhd2=>?_)<|λhd2=>?_
    ·have hltj:j<(S.fl p.name).mems.length:=Zw
     rw [eD hltj,List.append_assoc] at hΦ
     have hEZ:=hE.trans hE2
     obtain ⟨nb,no,ncap,nus,e2,hnus,hnrd,hn⟩:=(hmx.up hE2).at<|Zy hltj
     obtain ⟨rfl,rfl⟩:qA=some ⟨nb,no,none⟩/\qK=ncap:=by cases e2; exact ⟨rfl,rfl⟩
     generalize (S.fl p.name).mems[j]=x at hΦ hn
     have hxo:=Enc.ones hn
     obtain ⟨x2,x5,xy,x11,x12,x13,rfl,-⟩:=bZ hn
     unfold fI at *
     have hK9:=hK.up hEZ
     refine cK<|xT<|cS<|cB<|cQ<|sV (vI (k:=j) Z Z kQ Z hltj Z)<|sV (af Z dJ Z hnrd) ?_
     refine ak iR λb20=>?_
     refine ai Z Z gF Z hxo ?_
     refine sK [1,2,17,18,20,151,152,153,164,165,166] Z<|cS<|bB (ork [(0,1),(1,2),(2,1),(3,2),(4,1),(5,0),(6,0),(7,2)] .nil) (λi => !(Nat.beq i 6)) mixed Zz ?_
     refine bi Z (af Z fH Z ag) ?_
     refine dV Z (vM Z)<|bi Z (af Z qD Z ag) ?_
     refine dV Z (vF Z dC Z)<|bi Z (vY Z ld9) ?_
     refine aV Z<|aJ Z Z en173 Z (uw (n:=x.name)<|Enc.up hE2.rd hp0) ?_
     rintro u h' ⟨rfl,rfl⟩
     simp only [lC,lN]
     refine aY ?_
     refine aV Z<|aJ Z Z Kh Z (p9 (v:=v) (fv:=.map<|some mb) (c:=S.c) (ca:=ca) (cb:=.slice (some ⟨pb,po,none⟩) S.c.pars.length ck) (ce:=ce) (cf:=.slice cf S.c.feats.length cfk) (ci:=ci) (mv:=.slice mA S.ms.length mK) (all:=all) (bm:=bm) (i:=i) (n:=bN p x.name) (hK9.by'<|bN p x.name) (by have:=hB.under (bN p x.name); omega)) ?_
     rintro u h' ⟨Y3,k9,rfl,hE4,rows,hu,hro,rfl⟩
     simp only [lC,lN]
     refine aY ?_
     have hro:Rws Y3 rows (S.fro i<|bN p x.name):=hro
     have hrl:=hro.1
     have hfl9:=hB.fro i<|bN p x.name
     unfold Sk.f3a at hΦ
     dsimp only at hΦ
     generalize S.fro i (bN p x.name)=l at hΦ hro hrl hfl9
     refine dV Z (vA Z)<|bA<|nK [1,2,17,18,21,151,152,153,164,165,166] Z<|nT<|cS (gz (v:=u) (E:=191) (sz:=18) (rows:=rows) slq λla lc hlf hll hlm=>?_)
     rw [hrl] at hlf hll
     subst hlf
     refine fQ (r:=VR (.slice la l.length lc) 191 18 rows) slq λhok=>?_
     refine Iw [VR (.slice la l.length lc) 191 18 rows] Y3 λY4 hE5 hsel=>?_
     have hls:Ls Y4 (.slice la l.length lc) l:=Rws.ls (E:=191) (hro.up hE5) hok (hsel _ _ .here) (by show l.length * 280≤reachBytes; have hrb:reachBytes=140737488351232:=rfl; omega)
     have hE6:=hE2.trans<|hE4.trans hE5
     have hEZ4:=hE.trans hE6
     refine cR<|sM Z<|sV (aF Z underlying187)<|sV (bW Z Z)<|sM Z ?_
     by_cases hq:1<l.length
     ·rw [if_pos hq] at hΦ
      have hg:decide ((1:Int)<(l.length:Nat))=true:=by simp; omega
      rw [hg]
      refine sG Z Z (af Z fH Z ag) ?_
      refine sG Z Z (vM Z)<|sG Z Z (vM Z)<|lI Z Z<|aJ Z Z en207 Z (Hl hy hall en208 (is:=λ_ _=>true) (λa _ b _ us us' h h'=>reads_nil<|Jg h h') hls 3 _ r hΦ) ?_
      rintro u h' ⟨r',rfl,(⟨rfl,hΦ4⟩ | ⟨rfl,_,hst⟩)⟩
      ·simp only [lC,lN]
       refine sG Z Z (aZ Z)<|sV (vQ Z Z)<|sK [1,2,17,18,151,152,153,164,165,166,186] Z<|aH Z ?_
       refine cK<|xB<|xT<|cR<|sV (aI Z Z Z0)<|sM Z<|sN<|nK [1,2,17,18,151,152,153,164,165,166] Z<|ax ?_
       refine aM (Y4,r',j+1) ⟨hE6,hltj,hΦ4⟩ (by dsimp only; omega)
      ·simp only [lC,lN]
       refine sG Z Z (aZ Z)<|sV (vQ Z Z)<|sK [1,2,17,18,151,152,153,164,165,166,186] Z<|aQ Z ?_
       refine cQ<|sA Z<|sK [4] Z<|cT<|xW<|xR<|xR<|xW<|xW<|xR<|xR<|xW<|xR ?_
       exact aj Z ⟨Y4,[mps mb m,mps bm bmp,r'],Z,hEZ4,r',Z,.inr ⟨Z,_,hst⟩⟩ sbq
     ·rw [if_neg hq] at hΦ
      have hg:decide ((1:Int)<(l.length:Nat))=false:=by simp; omega
      rw [hg]
      iterate 5 refine aB rfl rfl rfl ?_
      refine sV (vP Z Z)<|sK [1,2,17,18,151,152,153,164,165,166,186] Z<|aH Z ?_
      refine cK<|xB<|xT<|cR<|sV (aI Z Z Z0)<|sM Z<|sN<|nK [1,2,17,18,151,152,153,164,165,166] Z<|ax ?_
      refine aM (Y4,r,j+1) ⟨hE6,hltj,hΦ⟩ (by dsimp only; omega)
    ·have hje:j=(S.fl p.name).mems.length:=Nat.le_antisymm hj<|Nat.not_lt.1 Zw
     subst hje
     rw [dL,List.nil_append] at hΦ
     refine aC<|xE<|xE<|xY<|xB<|xT<|cR<|sV (aI Z Z Z0)<|sM Z<|sN<|nK [1,2,151,152,153] Z<|ax ?_
     refine aM (Zq,r,i+1) ⟨hE.trans hE2,hlt,by rw [hA]; exact hΦ⟩ (by dsimp only; omega)
   ·have hie:i=S.c.pars.length:=Nat.le_antisymm hi<|Nat.not_lt.1 Zx
    subst hie
    rw [mY,List.nil_append] at hΦ
    rw [<- hT4] at hΦ
    refine aC<|xE<|xE<|xY<|xT<|cS<|cQ<|sV (vF Z gU Z)<|sV (vF Z fu Z)<|sV (vY Z mr) ?_
    refine sV (aF Z underlying39)<|sM Z<|sK [1,2,191,192,193] Z<|cB<|aW (σ := Res×Res×Nat) (λq=>[(1,.func (.yield yl) #[] #[]),(2,.pointer (some ⟨b2,0,none⟩)),(191,.slice cb S.c.pars.length ck),(192,.int .i64 S.c.pars.length),(193,.int .i64 (q.2.2:Nat))]) (λq=>pt b2 (cl [v,.map (some mb),sv S.c.name,.bool S.c.dfd,ca,.slice cb S.c.pars.length ck,ce,.slice cf S.c.feats.length cfk,ci,.slice mA S.ms.length mK,.map (some bm),.bool all] 206)::q.1::mps mb m::mps bm bmp::q.2.1::hr) (λq=>Ext X q.1/\q.2.2≤S.c.pars.length /\ Φ ((S.c.pars.zipIdx.drop q.2.2).flatMap (S.f4)++T4) q.2.1) (λq=>S.c.pars.length - q.2.2) (Y,r,0) ⟨hE,Nat.zero_le _,hΦ⟩ ?_
    clear hΦ hE
    clear Y r
    rintro ⟨Y,r,i⟩ ⟨hE,hi,hΦ⟩
    simp only at hE hi hΦ
    dsimp only
    refine cQ<|sV (aN Z Z)<|sN<|nT<|cS<|cC Z (λhd=>?_)<|λhd=>?_
    ·have hlt:i<S.c.pars.length:=Zx
     rw [kC hlt,List.append_assoc] at hΦ
     have hlis:=hB.lists<|List.getElem_mem hlt
     obtain ⟨pb,po,pcap,pus,e1,hpus,hprd,hp⟩:=(hK.par.up hE).at<|Zy hlt
     obtain ⟨rfl,rfl⟩:cb=some ⟨pb,po,none⟩/\ck=pcap:=by cases e1; exact ⟨rfl,rfl⟩
     generalize S.c.pars[i]=p at hΦ hlis hp
     generalize hA:(S.c.pars.zipIdx.drop (i+1)).flatMap (S.f4)++T4=A at hΦ
     obtain ⟨hlR,hlU,hlD,hlS⟩:=hlis
     have hp0:=hp
     obtain ⟨pa,pr,pu,pd,pS,rfl,hpa,hpR,hpu,hpd,hpsel⟩:=hp
     obtain ⟨aA,kA,rfl,_⟩:=id hpa.form
     obtain ⟨aR,kR,rfl,_⟩:=id hpR.form
     obtain ⟨aU,kU,rfl,_⟩:=id hpu.form
     obtain ⟨aD,kD,rfl,_⟩:=id hpd.form
     obtain ⟨aS,kS,rfl,_⟩:=id hpsel.form
     refine cK<|xT<|cS<|cB<|cQ<|sM Z<|sV (vI (k:=i) Z Z oW Z hlt Z)<|sV (af Z qD Z hprd) ?_
     refine ak vG λb23=>?_
     refine sA Z<|ai Z Z sH Z Z ?_
     have hΦ : Φ (p.und.flatMap (S.f4a (p,i))++A) r:=hΦ
     refine sK [1,2,22,23,191,192,193] Z<|cQ<|sV (vF Z wN Z)<|sV (vY Z fq) ?_
     refine sV (aF Z underlying40)<|sM Z<|sK [1,2,22,191,192,193,199,200,201] Z<|cB<|aW (σ := Res×Res×Nat) (λq=>[(1,.func (.yield yl) #[] #[]),(2,.pointer (some ⟨b2,0,none⟩)),(191,.slice (some ⟨pb,po,none⟩) S.c.pars.length ck),(192,.int .i64 S.c.pars.length),(193,.int .i64 (i:Nat)),(22,.int .i64 (i:Nat)),(199,.slice aU p.und.length kU),(200,.int .i64 p.und.length),(201,.int .i64 (q.2.2:Nat))]) (λq=>pt b23 (cl [sv p.name,.slice aA p.args.length kA,.slice aR p.ren.length kR,.slice aU p.und.length kU,.slice aD p.red.length kD,.slice aS p.sel.length kS] 88)::pt b2 (cl [v,.map (some mb),sv S.c.name,.bool S.c.dfd,ca,.slice (some ⟨pb,po,none⟩) S.c.pars.length ck,ce,.slice cf S.c.feats.length cfk,ci,.slice mA S.ms.length mK,.map (some bm),.bool all] 206)::q.1::mps mb m::mps bm bmp::q.2.1::hr) (λq=>Ext Y q.1/\q.2.2≤p.und.length /\ Φ ((p.und.drop q.2.2).flatMap (S.f4a (p,i))++A) q.2.1) (λq=>p.und.length - q.2.2) (Y,r,0) ⟨Ext.refl Y,Nat.zero_le _,hΦ⟩ ?_
     clear hΦ
     rintro ⟨Zq,r,j⟩ ⟨hE2,hj,hΦ⟩
     simp only at hE2 hj hΦ
     dsimp only
     refine cQ<|sV (aN Z Z)<|sN<|nT<|cS<|cC Z (λhd2=>?_)<|λhd2=>?_
     ·have hltj:j<p.und.length:=Zw
      rw [eD hltj,List.append_assoc] at hΦ
      have hEZ:=hE.trans hE2
      obtain ⟨nb,no,ncap,nus,e2,hnus,hnrd,hn⟩:=(hpu.up hE2).at<|Zy hltj
      obtain ⟨rfl,rfl⟩:aU=some ⟨nb,no,none⟩/\kU=ncap:=by cases e2; exact ⟨rfl,rfl⟩
      generalize p.und[j]=x at hΦ hn
      subst hn
      refine cK<|xT<|cS<|cB<|cQ<|sV (vI (k:=j) Z Z iZ Z hltj Z)<|sV (vY Z ld9 (ha:=⟨_,_,slq,hnrd 0<|by simp⟩)) ?_
      refine sA Z<|sK [1,2,22,25,191,192,193,199,200,201] Z<|cQ ?_
      have hK9:=hK.up hEZ
      refine sV (af Z fH Z ag) ?_
      refine sM Z<|sM Z<|aJ Z Z Kh Z (p9 (v:=v) (fv:=.map<|some mb) (c:=S.c) (ca:=ca) (cb:=.slice (some ⟨pb,po,none⟩) S.c.pars.length ck) (ce:=ce) (cf:=.slice cf S.c.feats.length cfk) (ci:=ci) (mv:=.slice mA S.ms.length mK) (all:=all) (bm:=bm) (i:=i) (n:=x) (hK9.by' x) (by have:=hB.under x; omega)) ?_
      rintro u h' ⟨Y3,k9,rfl,hE4,rows,hu,hro,rfl⟩
      simp only [lC,lN]
      have hro:Rws Y3 rows (S.fro i<|x):=hro
      have hrl:=hro.1
      have hfl:=hB.fro i<|x
      refine jB (v:=u) (E:=191) (sz:=18) (rows:=rows) slq λla lc hlf hll hlm=>?_
      rw [hrl] at hlf hll
      subst hlf
      have hΦ : Φ ((S.fro i x).flatMap (S.f4b x)++((p.und.drop (j+1)).flatMap (S.f4a (p,i))++A)) r:=hΦ
      generalize hA3:(p.und.drop (j+1)).flatMap (S.f4a (p,i))++A=A3 at hΦ
      generalize S.fro i x=l at hΦ hro hrl hfl
      refine oF (r:=VR (.slice la l.length lc) 191 18 rows) slq λhok=>?_
      refine pV [VR (.slice la l.length lc) 191 18 rows] Y3 λY4 hE5 hsel=>?_
      have hls:Ls Y4 (.slice la l.length lc) l:=Rws.ls (E:=191) (hro.up hE5) hok (hsel _ _ .here) (by show l.length * 280≤reachBytes; have hrb:reachBytes=140737488351232:=rfl; omega)
      have hE6:=hE2.trans<|hE4.trans hE5
      have hEZ4:=hE.trans hE6
      refine sV (aF Z underlying187)<|sM Z<|sK [1,2,22,25,191,192,193,199,200,201,208,209,210] Z<|cB<|aW (σ := Res×Nat) (λq=>[(1,.func (.yield yl) #[] #[]),(2,.pointer (some ⟨b2,0,none⟩)),(191,.slice (some ⟨pb,po,none⟩) S.c.pars.length ck),(192,.int .i64 S.c.pars.length),(193,.int .i64 (i:Nat)),(22,.int .i64 (i:Nat)),(199,.slice (some ⟨nb,no,none⟩) p.und.length kU),(200,.int .i64 p.und.length),(201,.int .i64 (j:Nat)),(25,sv x),(208,.slice la l.length lc),(209,.int .i64 l.length),(210,.int .i64 (q.2:Nat))]) (λq=>pt b23 (cl [sv p.name,.slice aA p.args.length kA,.slice aR p.ren.length kR,.slice (some ⟨nb,no,none⟩) p.und.length kU,.slice aD p.red.length kD,.slice aS p.sel.length kS] 88)::pt b2 (cl [v,.map (some mb),sv S.c.name,.bool S.c.dfd,ca,.slice (some ⟨pb,po,none⟩) S.c.pars.length ck,ce,.slice cf S.c.feats.length cfk,ci,.slice mA S.ms.length mK,.map (some bm),.bool all] 206)::Y4::mps mb m::mps bm bmp::q.1::hr) (λq=>q.2≤l.length /\ Φ ((l.drop q.2).flatMap (S.f4b x)++A3) q.1) (λq=>l.length - q.2) (r,0) ⟨Nat.zero_le _,hΦ⟩ ?_
      clear hΦ
      rintro ⟨r,k⟩ ⟨hk,hΦ⟩
      simp only at hk hΦ
      dsimp only
      refine cQ<|sV (aN Z Z)<|sN<|nT<|cS<|cC Z (λhd3=>?_)<|λhd3=>?_
      ·have hltk:k<l.length:=Zp
       rw [eD hltk,List.append_assoc] at hΦ
       obtain ⟨cb',co,ccap,cus,e4,hcus,hcrd,hcr⟩:=hls.at<|Zy hltk
       obtain ⟨rfl,rfl⟩:la=some ⟨cb',co,none⟩/\lc=ccap:=by cases e4; exact ⟨rfl,rfl⟩
       generalize l[k]=y at hΦ hcr
       have hyo:=Enc.ones hcr
       obtain ⟨y2,y5,yy,y11,y12,y13,rfl,-⟩:=iB hcr
       have hogy:=λb=>nL (b:=b) (x:=y) (x2:=y2) (x5:=y5) (y:=yy) (x11:=y11) (x12:=y12) (x13:=y13)
       unfold oL at *
       refine cK<|xT<|cS<|cB<|cQ<|sV (vI (k:=k) Z Z lJ Z hltk Z)<|sV (af Z ic Z hcrd) ?_
       refine ak q8 λb27=>?_
       refine ai Z Z mM Z hyo ?_
       refine sK [1,2,22,25,27,191,192,193,199,200,201,208,209,210] Z<|cQ<|sV (vF Z fa191_3 Z)<|sV (vY Z ld3) ?_
       refine sV (bK Z Z)<|sM Z ?_
       unfold Sk.f4b at hΦ
       cases hq:(y.was != 2)
       ·have hw:¬ y.was≠2:=Zu
        rw [if_neg hw] at hΦ
        iterate 9 refine aB rfl rfl rfl ?_
        refine sV (vP Z Z)<|sK [1,2,22,25,191,192,193,199,200,201,208,209,210,227] Z<|aH Z ?_
        refine cK<|xB<|xT<|cR<|sV (aI Z Z Z0)<|sM Z<|sN<|nK [1,2,22,25,191,192,193,199,200,201,208,209,210] Z<|ax ?_
        refine aM (r,k+1) ⟨hltk,hΦ⟩ (by dsimp only; omega)
       ·have hw:y.was≠2:=Zu
        rw [if_pos hw] at hΦ
        have hΦ2 : Φ (S.cf 4 x y.og og0::((l.drop (k+1)).flatMap (S.f4b x)++A3)) r:=hΦ
        refine sG Z Z (vM Z)<|sG Z Z (af Z fH Z ag) ?_
        refine sG Z Z (vM Z)<|sG Z Z (vF Z jw Z)<|sG Z Z (af Z qC Z (hogy b27) (s:=.here)) ?_
        refine sG Z Z (aO (cells:=[sv [],sv []]) Z<|λ_=>Zz) ?_
        refine bJ Z Z Z Z jZ Z (hcn 4 x y.og og0) ?_
        refine kz (gd:=217) (.inr ⟨_,_,Z,Z,Z⟩) Z Z (hy _ _ _ hΦ2) ?_
        rintro u h' (⟨rfl,r',hΦ4,rfl⟩ | ⟨rfl,r',hst,rfl⟩)
        ·simp only [lC,lN]
         refine sG Z Z (aZ Z)<|sV (vQ Z Z)<|sK [1,2,22,25,191,192,193,199,200,201,208,209,210,227] Z<|aH Z ?_
         refine cK<|xB<|xT<|cR<|sV (aI Z Z Z0)<|sM Z<|sN<|nK [1,2,22,25,191,192,193,199,200,201,208,209,210] Z<|ax ?_
         refine aM (r',k+1) ⟨hltk,hΦ4⟩ (by dsimp only; omega)
        ·simp only [lC,lN]
         refine sG Z Z (aZ Z)<|sV (vQ Z Z)<|sK [1,2,22,25,191,192,193,199,200,201,208,209,210,227] Z<|aQ Z ?_
         refine cQ<|sA Z<|sK [4] Z<|cT<|xW<|xR<|xR<|xW<|xW<|xR<|xR<|xW<|xW ?_
         refine xR<|xR<|xW<|xR ?_
         exact aj Z ⟨Y4,[mps mb m,mps bm bmp,r'],Z,hEZ4,r',Z,.inr ⟨Z,_,hst⟩⟩ sbq
      ·have hke:k=l.length:=Nat.le_antisymm hk<|Nat.not_lt.1 Zp
       subst hke
       rw [dL,List.nil_append] at hΦ
       refine aC<|xE<|xE<|xY<|xB<|xT<|cR<|sV (aI Z Z Z0)<|sM Z<|sN<|nK [1,2,22,191,192,193,199,200,201] Z<|ax ?_
       refine aM (Y4,r,j+1) ⟨hE6,hltj,by rw [hA3]; exact hΦ⟩ (by dsimp only; omega)
     ·have hje:j=p.und.length:=Nat.le_antisymm hj<|Nat.not_lt.1 Zw
      subst hje
      rw [dL,List.nil_append] at hΦ
      refine aC<|xE<|xE<|xY<|xB<|xT<|cR<|sV (aI Z Z Z0)<|sM Z<|sN<|nK [1,2,191,192,193] Z<|ax ?_
      refine aM (Zq,r,i+1) ⟨hE.trans hE2,hlt,by rw [hA]; exact hΦ⟩ (by dsimp only; omega)
    ·have hie:i=S.c.pars.length:=Nat.le_antisymm hi<|Nat.not_lt.1 Zx
     subst hie
     rw [mY,List.nil_append] at hΦ
     rw [<- hT5] at hΦ
     refine aC<|xE<|xE<|xY<|xT<|cS<|cQ<|sV (vF Z gU Z)<|sV (vF Z fu Z)<|sV (vY Z mr) ?_
     refine sV (aF Z underlying39)<|sM Z<|sK [1,2,233,234,235] Z<|cB<|aW (σ := Res×Res×Nat) (λq=>[(1,.func (.yield yl) #[] #[]),(2,.pointer (some ⟨b2,0,none⟩)),(233,.slice cb S.c.pars.length ck),(234,.int .i64 S.c.pars.length),(235,.int .i64 (q.2.2:Nat))]) (λq=>pt b2 (cl [v,.map (some mb),sv S.c.name,.bool S.c.dfd,ca,.slice cb S.c.pars.length ck,ce,.slice cf S.c.feats.length cfk,ci,.slice mA S.ms.length mK,.map (some bm),.bool all] 206)::q.1::mps mb m::mps bm bmp::q.2.1::hr) (λq=>Ext X q.1/\q.2.2≤S.c.pars.length /\ Φ ((S.c.pars.drop q.2.2).flatMap (S.f5)++R) q.2.1) (λq=>S.c.pars.length - q.2.2) (Y,r,0) ⟨hE,Nat.zero_le _,hΦ⟩ ?_
     clear hΦ hE
     clear Y r
     rintro ⟨Y,r,i⟩ ⟨hE,hi,hΦ⟩
     simp only at hE hi hΦ
     dsimp only
     refine cQ<|sV (aN Z Z)<|sN<|nT<|cS<|cC Z (λhd=>?_)<|λhd=>?_
     ·have hlt:i<S.c.pars.length:=Zx
      rw [eD hlt,List.append_assoc] at hΦ
      have hlis:=hB.lists<|List.getElem_mem hlt
      obtain ⟨pb,po,pcap,pus,e1,hpus,hprd,hp⟩:=(hK.par.up hE).at<|Zy hlt
      obtain ⟨rfl,rfl⟩:cb=some ⟨pb,po,none⟩/\ck=pcap:=by cases e1; exact ⟨rfl,rfl⟩
      generalize S.c.pars[i]=p at hΦ hlis hp
      generalize hA:(S.c.pars.drop (i+1)).flatMap (S.f5)++R=A at hΦ
      obtain ⟨hlR,hlU,hlD,hlS⟩:=hlis
      have hp0:=hp
      obtain ⟨pa,pr,pu,pd,pS,rfl,hpa,hpR,hpu,hpd,hpsel⟩:=hp
      obtain ⟨aA,kA,rfl,_⟩:=id hpa.form
      obtain ⟨aR,kR,rfl,_⟩:=id hpR.form
      obtain ⟨aU,kU,rfl,_⟩:=id hpu.form
      obtain ⟨aD,kD,rfl,_⟩:=id hpd.form
      obtain ⟨aS,kS,rfl,_⟩:=id hpsel.form
      refine cK<|xT<|cS<|cB<|cQ<|sV (vI (k:=i) Z Z oW Z hlt Z)<|sV (af Z qD Z hprd) ?_
      refine ak vG λb29=>?_
      refine ai Z Z sH Z Z ?_
      have hΦ : Φ (p.red.flatMap (S.f5a p)++A) r:=hΦ
      refine sK [1,2,29,233,234,235] Z<|cQ<|sV (vF Z wO Z)<|sV (vY Z fq) ?_
      refine sV (aF Z underlying40)<|sM Z<|sK [1,2,29,233,234,235,240,241,242] Z<|cB<|aW (σ := Res×Res×Nat) (λq=>[(1,.func (.yield yl) #[] #[]),(2,.pointer (some ⟨b2,0,none⟩)),(233,.slice (some ⟨pb,po,none⟩) S.c.pars.length ck),(234,.int .i64 S.c.pars.length),(235,.int .i64 (i:Nat)),(29,.pointer (some ⟨b29,0,none⟩)),(240,.slice aD p.red.length kD),(241,.int .i64 p.red.length),(242,.int .i64 (q.2.2:Nat))]) (λq=>pt b29 (cl [sv p.name,.slice aA p.args.length kA,.slice aR p.ren.length kR,.slice aU p.und.length kU,.slice aD p.red.length kD,.slice aS p.sel.length kS] 88)::pt b2 (cl [v,.map (some mb),sv S.c.name,.bool S.c.dfd,ca,.slice (some ⟨pb,po,none⟩) S.c.pars.length ck,ce,.slice cf S.c.feats.length cfk,ci,.slice mA S.ms.length mK,.map (some bm),.bool all] 206)::q.1::mps mb m::mps bm bmp::q.2.1::hr) (λq=>Ext Y q.1/\q.2.2≤p.red.length /\ Φ ((p.red.drop q.2.2).flatMap (S.f5a p)++A) q.2.1) (λq=>p.red.length - q.2.2) (Y,r,0) ⟨Ext.refl Y,Nat.zero_le _,hΦ⟩ ?_
      clear hΦ
      rintro ⟨Zq,r,j⟩ ⟨hE2,hj,hΦ⟩
      simp only at hE2 hj hΦ
      dsimp only
      refine cQ<|sV (aN Z Z)<|sN<|nT<|cS<|cC Z (λhd2=>?_)<|λhd2=>?_
      ·have hltj:j<p.red.length:=Zw
       rw [eD hltj,List.append_assoc] at hΦ
       have hEZ:=hE.trans hE2
       obtain ⟨nb,no,ncap,nus,e2,hnus,hnrd,hn⟩:=(hpd.up hE2).at<|Zy hltj
       obtain ⟨rfl,rfl⟩:aD=some ⟨nb,no,none⟩/\kD=ncap:=by cases e2; exact ⟨rfl,rfl⟩
       generalize p.red[j]=x at hΦ hn
       subst hn
       refine cK<|xT<|cS<|cB<|cQ<|sV (vI (k:=j) Z Z iZ Z hltj Z)<|sV (vY Z ld9 (ha:=⟨_,_,slq,hnrd 0<|by simp⟩)) ?_
       refine sA Z<|sK [1,2,29,31,233,234,235,240,241,242] Z<|cQ<|sV (vF Z gU Z)<|sV (vF Z kF Z)<|sV (vY Z yu) ?_
       refine sM Z<|aJ Z Z xM Z (jc (n:=x)<|hK.feat.up hEZ) ?_
       rintro u h' ⟨rfl,gus,rfl,hgr⟩
       simp only [lC,lN]
       have hg15:gus.length=15:=Enc.len hgr
       have hgo:=Enc.ones hgr
       refine sM Z<|sV (ah Z Z)<|sV (ah Z Z) (ak lS λb32=>?_)
       refine ai (hl:=by rw [hg15]; rfl) Z Z jX hg15 hgo ?_
       refine sA Z<|sK [1,2,29,31,33,233,234,235,240,241,242] Z<|cQ<|sM Z<|sV (aZ Z)<|sM Z ?_
       have hmf:(S.c.feats.find? λc=>c.name == x)=feat S.c x:=rfl
       rw [hmf]
       unfold Sk.f5a at hΦ
       cases hq:feat S.c x
       ·rw [hq] at hΦ
        have hΦ2 : Φ (S.cf 5 x ⟨p.name,x⟩ og0::((p.red.drop (j+1)).flatMap (S.f5a p)++A)) r:=hΦ
        refine sG Z Z (vM Z)<|sG Z Z (af Z fH Z ag) ?_
        refine sG Z Z (vM Z)<|sG Z Z (vF Z gN Z)<|sG Z Z (vY Z ld9) ?_
        refine sG Z Z (vM Z)<|sG Z Z (aO (cells:=[sv p.name,sv x]) Z<|λ_=>Zz) ?_
        refine sG Z Z (aO (cells:=[sv [],sv []]) Z<|λ_=>Zz) ?_
        refine bJ Z Z Z Z jZ Z (hcn 5 x ⟨p.name,x⟩ og0) ?_
        refine kz (gd:=256) (.inr ⟨_,_,Z,Z,Z⟩) Z Z (hy _ _ _ hΦ2) ?_
        rintro u h' (⟨rfl,r',hΦ4,rfl⟩ | ⟨rfl,r',hst,rfl⟩)
        ·simp only [lC,lN]
         refine sG Z Z (aZ Z)<|sV (vQ Z Z)<|sK [1,2,29,233,234,235,240,241,242,268] Z<|aH Z ?_
         refine cK<|xB<|xT<|cR<|sV (aI Z Z Z0)<|sM Z<|sN<|nK [1,2,29,233,234,235,240,241,242] Z<|ax ?_
         refine aM (Zq,r',j+1) ⟨hE2,hltj,hΦ4⟩ (by dsimp only; omega)
        ·simp only [lC,lN]
         refine sG Z Z (aZ Z)<|sV (vQ Z Z)<|sK [1,2,29,233,234,235,240,241,242,268] Z<|aQ Z ?_
         refine cQ<|sA Z<|sK [4] Z<|cT<|xW<|xR<|xR<|xW<|xW<|xR<|xR<|xW<|xR ?_
         exact aj Z ⟨Zq,[mps mb m,mps bm bmp,r'],Z,hEZ,r',Z,.inr ⟨Z,_,hst⟩⟩ sbq
       ·rw [hq] at hΦ
        have hΦ : Φ ((p.red.drop (j+1)).flatMap (S.f5a p)++A) r:=hΦ
        iterate 11 refine aB rfl rfl rfl ?_
        refine sV (vP Z Z)<|sK [1,2,29,233,234,235,240,241,242,268] Z<|aH Z ?_
        refine cK<|xB<|xT<|cR<|sV (aI Z Z Z0)<|sM Z<|sN<|nK [1,2,29,233,234,235,240,241,242] Z<|ax ?_
        refine aM (Zq,r,j+1) ⟨hE2,hltj,hΦ⟩ (by dsimp only; omega)
      ·have hje:j=p.red.length:=Nat.le_antisymm hj<|Nat.not_lt.1 Zw
       subst hje
       rw [dL,List.nil_append] at hΦ
       refine aC<|xE<|xE<|xY<|xB<|xT<|cR<|sV (aI Z Z Z0)<|sM Z<|sN<|nK [1,2,233,234,235] Z<|ax ?_
       refine aM (Zq,r,i+1) ⟨hE.trans hE2,hlt,by rw [hA]; exact hΦ⟩ (by dsimp only; omega)
     ·have hie:i=S.c.pars.length:=Nat.le_antisymm hi<|Nat.not_lt.1 Zx
      subst hie
      rw [dL,List.nil_append] at hΦ
      refine aC<|xE<|xE<|xY<|xT<|cQ<|sA Z<|sK [4] Z<|cT ?_
      exact aj Z ⟨Y,[mps mb m,mps bm bmp,r],Z,hE,r,Z,.inl ⟨Z,hΦ⟩⟩ sbq
end
end Go.Fl
