/-
  Package flat: typed yields conflicts of the kinds CnTypes and CnMany. Conditions: what is read; sizes.
-/
import Derived.Test.YtknmacdbffgjgaaGreatDoorM15
set_option linter.unusedVariables false
set_option linter.unusedSimpArgs false
set_option maxRecDepth 100000
set_option maxHeartbeats 16000000
namespace Go.Fl
open Go Go.RowKit Go.Ck Go.Proofs Go.Proofs.Tryz Go.Proofs.YtknmacdbffgjgaaGreatDoor Fx Go.Hr
structure SkR (X:Res) (S:Sk) (v:Value) (m:List (Nm×Value)) (ca cb ce cf ci mv:Value) (bmp:List (Nm×Value)):Prop where
 l:Ls X v S.l
 a:Ls X ca S.c.forms
 par:Ls X cb S.c.pars
 e:ce.oneCell'=true
 feat:Ls X cf S.c.feats
 inv:Ls X ci S.c.inv
 fl:FlR X m S.fl
 ms:Ls X mv S.ms
 by':∀ n,Ls X ((bK bmp n).getD<|.slice none 0 0) (under S.cs n)
theorem SkR.up {X Y:Res} {S:Sk} {v:Value} {m bmp:List (Nm×Value)} {ca cb ce cf ci mv:Value} (h:SkR X S v m ca cb ce cf ci mv bmp) (he:Ext X Y):SkR Y S v m ca cb ce cf ci mv bmp :=
 ⟨h.l.up he,h.a.up he,h.par.up he,h.e,h.feat.up he,h.inv.up he,h.fl.up he,h.ms.up he,λn=>(h.by' n).up he⟩
theorem SkR.c {X:Res} {S:Sk} {v:Value} {m bmp:List (Nm×Value)} {ca cb ce cf ci mv:Value} (h:SkR X S v m ca cb ce cf ci mv bmp):Enc.rep X [sv S.c.name,.bool S.c.dfd,ca,cb,ce,cf,ci] S.c:=⟨ca,cb,ce,cf,ci,rfl,h.a,h.par,h.e,h.feat,h.inv⟩
theorem ls_cat {Y:Res} {b:Nat} {x y z:Value} {p q s:List Nm} (h1:Ls Y x p) (h2:Ls Y y q) (h3:Ls Y z s):Ls (Res.star [pt b (cl [x,y,z] 40),Y]) (.slice (some ⟨b,0,none⟩) 3 3) [p,q,s]:=
 ⟨⟨some ⟨b,0,none⟩,3,rfl,Nat.le_refl _,by decide,(λh=>by cases h),λi w hi=>by
  match i,hi with
  | 0,hi=>cases hi; exact ⟨b,0,[x],rfl,rfl,λi hi=>by match i,hi with | 0,_=>exact bH .here _ _ (bU rfl),x,rfl,h1.up' (bH (.there .here))⟩
  | 1,hi=>cases hi; exact ⟨b,0,[y],rfl,rfl,λi hi=>by match i,hi with | 0,_=>exact bH .here _ _ (bU rfl),y,rfl,h2.up' (bH (.there .here))⟩
  | 2,hi=>cases hi; exact ⟨b,0,[z],rfl,rfl,λi hi=>by match i,hi with | 0,_=>exact bH .here _ _ (bU rfl),z,rfl,h3.up' (bH (.there .here))⟩⟩,(by show 3 * 24≤reachBytes; decide)⟩
theorem reads_nil {P:Program} {k:FuncId} {args:Array Value} {X:Res} {v:Value} (h:Reads P k args [] v):Reads P k args [X] v:=λhr w hh =>
 (h (X::hr) w hh).mono λ_ _ ⟨u,h',he,⟨hu,hh'⟩,hH,hS⟩=>⟨u,[X],he,⟨hu,rfl⟩,by subst hh'; exact hH,hS⟩
structure SkB (S:Sk):Prop where
 fits:Fits S.l S.fl
 cls:S.c∈S.l
 ms:(S.ms.flatMap λm=>m.seeds).length≤432000
 mf:S.ms.length≤300
theorem SkB.under {S:Sk} (h:SkB S) (n:Nm):(under S.cs n).length≤240:=Nat.le_trans (List.length_filter_le _ _) (h.fits.few<|.inl h.cls)
theorem SkB.fro {S:Sk} (h:SkB S) (i:Nat) (n:Nm):(S.fro i n).length≤240:=Nat.le_trans (List.length_filter_le _ _) (h.under n)
theorem SkB.lists {S:Sk} (h:SkB S) {p:Pt} (hp:p∈S.c.pars):p.ren.length≤12/\p.und.length≤12/\p.red.length≤12/\p.sel.length≤12:=h.fits.lists _ h.cls p hp
namespace Sk
section
variable (s:Sk)
def f1a (p:Pt×Nat) (r:Pn):List Cf:=if (dZ (s.fl p.1.name).mems r.fro).isNone then [s.cf 1 r.fro ⟨p.1.name,r.fro⟩ og0] else []
def f1b (p:Pt×Nat) (n:Nm):List Cf:=if s.fro p.2 n=[] then [s.cf 1 n ⟨p.1.name,n⟩ og0] else []
def f1 (p:Pt×Nat):List Cf:=p.1.ren.flatMap (s.f1a p)++[p.1.und,p.1.red,p.1.sel].flatten.flatMap (s.f1b p)
def f2a (p:Pt) (n:Nm):List Cf:=if p.red.contains n then [s.cf 2 n ⟨p.name,n⟩ og0] else []
def f2 (p:Pt):List Cf:=p.und.flatMap (s.f2a p)
def f3a (p:Pt×Nat) (m:Mb):List Cf:=if 1<(s.fro p.2<|bN p.1 m.name).length then s.cpairs (s.fro p.2<|bN p.1 m.name) 3 (λ_ _=>true) else []
def f3 (p:Pt×Nat):List Cf:=(s.fl p.1.name).mems.flatMap (s.f3a p)
def f4b (n:Nm) (x:Cm):List Cf:=if x.was≠2 then [s.cf 4 n x.og og0] else []
def f4a (p:Pt×Nat) (n:Nm):List Cf:=(s.fro p.2 n).flatMap (s.f4b n)
def f4 (p:Pt×Nat):List Cf:=p.1.und.flatMap (s.f4a p)
def f5a (p:Pt) (n:Nm):List Cf:=if (feat s.c n).isNone then [s.cf 5 n ⟨p.name,n⟩ og0] else []
def f5 (p:Pt):List Cf:=p.red.flatMap (s.f5a p)
theorem lost_eq (R:List Cf):s.lost++R=s.c.pars.zipIdx.flatMap s.f1++(s.c.pars.flatMap s.f2++(s.c.pars.zipIdx.flatMap s.f3++(s.c.pars.zipIdx.flatMap s.f4++(s.c.pars.flatMap s.f5++R)))):=by
 have h1:∀ p,s.f1 p=(p.1.ren.flatMap λr=>if (dZ (s.fl p.1.name).mems r.fro).isNone then [s.cf 1 r.fro ⟨p.1.name,r.fro⟩ og0] else []) ++
   (p.1.und++p.1.red++p.1.sel).flatMap λn=>if s.fro p.2 n=[] then [s.cf 1 n ⟨p.1.name,n⟩ og0] else []:=λp=>by
  unfold f1
  congr 1
  simp only [List.flatten_cons,List.flatten_nil,List.append_nil,List.append_assoc]
  rfl
 have h2:s.c.pars.zipIdx.flatMap s.f1=s.pz.flatMap λp=>(p.1.ren.flatMap λr=>if (dZ (s.fl p.1.name).mems r.fro).isNone then [s.cf 1 r.fro ⟨p.1.name,r.fro⟩ og0] else []) ++
   (p.1.und++p.1.red++p.1.sel).flatMap λn=>if s.fro p.2 n=[] then [s.cf 1 n ⟨p.1.name,n⟩ og0] else []:=dH λp _=>h1 p
 rw [h2]
 unfold lost
 simp only [List.append_assoc]
 rfl
end
end Sk
attribute [local irreducible] Go.Ck.Sub St Cd Xt Nx DrL LsW
section
variable {X Y:Res} {v v':Value} {us us':List Value}

theorem lost_ct {yl mb bm : Nat} {Φ : List Cf -> Res -> Prop} {Stop : Cf -> Res -> Prop} (hy : Yh yl Φ Stop) {S : Sk} {all : Bool} (hall : S.all = all) {m bmp : List (Nm × Value)} {ca cb ce cf ci mv : Value} (hK : SkR X S v m ca cb ce cf ci mv bmp) (hB : SkB S) (R : List Cf) (r0 : Res) (h0 : Φ (S.lost ++ R) r0) :
  CtX prog 128 #[.agg (fu v (.map<|some mb) S.c ca cb ce cf ci mv (.map<|some bm) all).toArray,.func (.yield yl) #[] #[]] X [mps mb m,mps bm bmp,r0] λu Y k'=>∃ r,k'=[mps mb m,mps bm bmp,r]/\Yend Φ Stop R u r:=by
 have hml:maxLen=9223372036854775807:=rfl
 obtain ⟨cb,ck,rfl,hckl,hckm,_⟩:=id hK.par.form
 obtain ⟨cf,cfk,rfl,_⟩:=id hK.feat.form
 obtain ⟨mA,mK,rfl,_⟩:=id hK.ms.form
 have hcn:=λb=>gD (fv:=.map<|some mb) (c:=S.c) (v:=v) (ca:=ca) (cb:=.slice cb S.c.pars.length ck) (ce:=ce) (cf:=.slice cf S.c.feats.length cfk) (ci:=ci) (mv:=.slice mA S.ms.length mK) (bv:=.map<|some bm) (all:=all) b
 rw [Sk.lost_eq] at h0
 generalize hT5:S.c.pars.flatMap S.f5++R=T4 at h0
 generalize hT4:S.c.pars.zipIdx.flatMap S.f4++T4=T3 at h0
 generalize hT3:S.c.pars.zipIdx.flatMap S.f3++T3=T2 at h0
 generalize hT2:S.c.pars.flatMap S.f2++T2=T1 at h0
 unfold CtX
 unfold fu at *
 refine aL (n:=271) func128 Z Z (len Z) λhr w0=>?_
 refine cQ (aV Z Z λb2=>?_)
 refine sA Z<|sK [1,2,4] Z<|cS<|cQ<|sV (vF Z gV Z)<|sV (vF Z fC Z)<|sV (vY Z mi) ?_
 refine sV (aF Z underlying39)<|sM Z<|sK [1,2,4,36,37,38] Z<|cB<|aZ (σ := Res×Res×Nat) (λq=>[(1,.func (.yield yl) #[] #[]),(2,.pointer (some ⟨b2,0,none⟩)),(36,.slice cb S.c.pars.length ck),(37,.int .i64 S.c.pars.length),(38,.int .i64 (q.2.2:Nat))]) (λq=>pt b2 (cl [v,.map (some mb),sv S.c.name,.bool S.c.dfd,ca,.slice cb S.c.pars.length ck,ce,.slice cf S.c.feats.length cfk,ci,.slice mA S.ms.length mK,.map (some bm),.bool all] 206)::q.1::mps mb m::mps bm bmp::q.2.1::hr) (λq=>Ext X q.1/\q.2.2≤S.c.pars.length /\ Φ ((S.c.pars.zipIdx.drop q.2.2).flatMap (S.f1)++T1) q.2.1) (λq=>S.c.pars.length - q.2.2) (X,r0,0) ⟨Ext.refl X,Nat.zero_le _,h0⟩ ?_
 clear h0
 rintro ⟨Y,r,i⟩ ⟨hE,hi,hΦ⟩
 simp only at hE hi hΦ
 dsimp only
 refine cQ<|sV (aN Z Z)<|sN<|nT<|cS<|cC Z (λhd=>?_)<|λhd=>?_
 ·have hlt:i<S.c.pars.length:=Zx
  rw [kC hlt,List.append_assoc] at hΦ
  have hlis:=hB.lists<|List.getElem_mem hlt
  obtain ⟨pb,po,pcap,pus,e1,hpus,hprd,hp⟩:=(hK.par.up hE).at<|Zy hlt
  obtain ⟨rfl,rfl⟩:cb=some ⟨pb,po,none⟩/\ck=pcap:=by cases e1; exact ⟨rfl,rfl⟩
  generalize S.c.pars[i]=p at hΦ hlis hp
  generalize hA:(S.c.pars.zipIdx.drop (i+1)).flatMap (S.f1)++T1=A at hΦ
  obtain ⟨hlR,hlU,hlD,hlS⟩:=hlis
  have hp0:=hp
  obtain ⟨pa,pr,pu,pd,pS,rfl,hpa,hpR,hpu,hpd,hpsel⟩:=hp
  obtain ⟨aA,kA,rfl,_⟩:=id hpa.form
  obtain ⟨aR,kR,rfl,_⟩:=id hpR.form
  obtain ⟨aU,kU,rfl,_⟩:=id hpu.form
  obtain ⟨aD,kD,rfl,_⟩:=id hpd.form
  obtain ⟨aS,kS,rfl,_⟩:=id hpsel.form
  refine cK<|xT<|cS<|cB<|cQ<|sM Z<|sV (vI (k:=i) Z Z oV Z hlt Z)<|sV (af Z qB Z hprd) ?_
  refine ax vC λb6=>?_
  refine sA Z<|ai Z Z sF Z Z ?_
  have hΦ : Φ (p.ren.flatMap (S.f1a (p,i))++([p.und,p.red,p.sel].flatten.flatMap (S.f1b (p,i))++A)) r:=by rw [<- List.append_assoc]; exact hΦ
  generalize hA2:[p.und,p.red,p.sel].flatten.flatMap (S.f1b (p,i))++A=A2 at hΦ
  refine sK [1,2,5,6,36,37,38] Z<|cS<|cQ<|sV (vF Z zO Z)<|sV (vY Z ld86) ?_
  refine sV (aF Z underlying86)<|sM Z<|sK [1,2,5,6,36,37,38,44,45,46] Z<|cB<|aZ (σ := Res×Res×Nat) (λq=>[(1,.func (.yield yl) #[] #[]),(2,.pointer (some ⟨b2,0,none⟩)),(36,.slice (some ⟨pb,po,none⟩) S.c.pars.length ck),(37,.int .i64 S.c.pars.length),(38,.int .i64 (i:Nat)),(5,.int .i64 (i:Nat)),(6,.pointer (some ⟨b6,0,none⟩)),(44,.slice aR p.ren.length kR),(45,.int .i64 p.ren.length),(46,.int .i64 (q.2.2:Nat))]) (λq=>pt b6 (cl [sv p.name,.slice aA p.args.length kA,.slice aR p.ren.length kR,.slice aU p.und.length kU,.slice aD p.red.length kD,.slice aS p.sel.length kS] 88)::pt b2 (cl [v,.map (some mb),sv S.c.name,.bool S.c.dfd,ca,.slice (some ⟨pb,po,none⟩) S.c.pars.length ck,ce,.slice cf S.c.feats.length cfk,ci,.slice mA S.ms.length mK,.map (some bm),.bool all] 206)::q.1::mps mb m::mps bm bmp::q.2.1::hr) (λq=>Ext Y q.1/\q.2.2≤p.ren.length /\ Φ ((p.ren.drop q.2.2).flatMap (S.f1a (p,i))++A2) q.2.1) (λq=>p.ren.length - q.2.2) (Y,r,0) ⟨Ext.refl Y,Nat.zero_le _,hΦ⟩ ?_
  clear hΦ
  rintro ⟨Zq,r,j⟩ ⟨hE2,hj,hΦ⟩
  simp only at hE2 hj hΦ
  dsimp only
  refine cQ<|sV (aN Z Z)<|sN<|nT<|cS<|cC Z (λhd2=>?_)<|λhd2=>?_
  ·have hltj:j<p.ren.length:=Zw
   rw [eu hltj,List.append_assoc] at hΦ
   have hEZ:=hE.trans hE2
   obtain ⟨nb,no,ncap,nus,e2,hnus,hnrd,hn⟩:=(hpR.up hE2).at<|Zy hltj
   obtain ⟨rfl,rfl⟩:aR=some ⟨nb,no,none⟩/\kR=ncap:=by cases e2; exact ⟨rfl,rfl⟩
   generalize p.ren[j]=x at hΦ hn
   subst hn
   refine cK<|xT<|cS<|cB<|cQ<|sV (vI (k:=j) Z Z sl86 Z hltj Z)<|sV (af Z qU Z hnrd) ?_
   refine ax FJ λb8=>?_
   refine ai Z Z zI Z Z ?_
   refine sK [1,2,5,6,8,36,37,38,44,45,46] Z<|cQ<|sV (vF Z Ec Z)<|sV (vF Z iG Z)<|sV (vY Z oh) ?_
   refine sV (vF Z gT Z)<|sV (vY Z ld9) ?_
   obtain ⟨fus,hfl,hfr2⟩:=(hK.fl.up hEZ) p.name
   obtain ⟨mx,my,rfl,hmx,hmy⟩:=hfr2
   obtain ⟨qA,qK,rfl,_⟩:=id hmx.form
   refine sV (gG hfl<|bI Z Z nY kL slq) ?_
   refine sV (iP (k:=2) Z underlying55 Z isAgg52 Z)<|sV (vF Z yO Z)<|sV (vY Z ld9) ?_
   refine aH Z Z en169 Z (ut (n:=x.fro) hmx) ?_
   rintro u h' ⟨rfl,gus,rfl,hgr⟩
   simp only [lC,lN]
   have hg14:gus.length=14:=Enc.len hgr
   have hgo:=Enc.ones hgr
   refine sM Z<|sV (ag Z Z)<|sV (ag Z Z) (ax jY λb9=>?_)
   refine ai (hl:=by rw [hg14]; rfl) Z Z iO hg14 hgo ?_
   refine sA Z<|sK [1,2,5,6,8,10,36,37,38,44,45,46] Z<|cQ<|sM Z<|sV (bi Z)<|sM Z ?_
   have hmf:((S.fl p.name).mems.find? λc=>c.name == x.fro)=dZ (S.fl p.name).mems x.fro:=rfl
   rw [hmf]
   unfold Sk.f1a at hΦ
   dsimp only at hΦ
   cases hq:dZ (S.fl p.name).mems x.fro
   ·rw [hq] at hΦ
    have hΦ2 : Φ (S.cf 1 x.fro ⟨p.name,x.fro⟩ og0::((p.ren.drop (j+1)).flatMap (S.f1a (p,i))++A2)) r:=hΦ
    refine sG Z Z (vM Z)<|sG Z Z (af Z fT Z ah) ?_
    refine sG Z Z (vF Z yO Z)<|sG Z Z (vY Z ld9) ?_
    refine sG Z Z (vF Z gT Z)<|sG Z Z (vY Z ld9) ?_
    refine sG Z Z (vF Z yO Z)<|sG Z Z (vY Z ld9) ?_
    refine sG Z Z (aQ (cells:=[sv p.name,sv x.fro]) Z<|λ_=>Zz) ?_
    refine sG Z Z (aQ (cells:=[sv [],sv []]) Z<|λ_=>Zz) ?_
    refine bR Z Z Z Z jZ Z (hcn 1 x.fro ⟨p.name,x.fro⟩ og0) ?_
    refine kw (gd:=65) (.inr ⟨_,_,Z,Z,Z⟩) Z Z (hy _ _ _ hΦ2) ?_
    rintro u h' (⟨rfl,r',hΦ4,rfl⟩ | ⟨rfl,r',hst,rfl⟩)
    ·simp only [lC,lN]
     refine sG Z Z (bi Z)<|sV (vQ Z Z)<|sK [1,2,5,6,36,37,38,44,45,46,79] Z<|aG Z ?_
     refine cK<|xB<|xT<|cR<|sV (aI Z Z Z6)<|sM Z<|sN<|nK [1,2,5,6,36,37,38,44,45,46] Z<|au ?_
     refine aM (Zq,r',j+1) ⟨hE2,hltj,hΦ4⟩ (by dsimp only; omega)
    ·simp only [lC,lN]
     refine sG Z Z (bi Z)<|sV (vQ Z Z)<|sK [1,2,5,6,36,37,38,44,45,46,79] Z<|aT Z ?_
     refine cQ<|sA Z<|sK [4] Z<|cT<|xW<|xR<|xR<|xW<|xR<|xW<|xR<|xR<|xW ?_
     refine xR ?_
     exact aj Z ⟨Zq,[mps mb m,mps bm bmp,r'],Z,hEZ,r',Z,.inr ⟨Z,_,hst⟩⟩ sbq
   ·rw [hq] at hΦ
    iterate 13 refine aC rfl rfl rfl ?_
    refine sV (vP Z Z)<|sK [1,2,5,6,36,37,38,44,45,46,79] Z<|aG Z ?_
    refine cK<|xB<|xT<|cR<|sV (aI Z Z Z6)<|sM Z<|sN<|nK [1,2,5,6,36,37,38,44,45,46] Z<|au ?_
    refine aM (Zq,r,j+1) ⟨hE2,hltj,hΦ⟩ (by dsimp only; omega)
  ·have hje:j=p.ren.length:=Nat.le_antisymm hj<|Nat.not_lt.1 Zw
   subst hje
   rw [dL,List.nil_append] at hΦ
   generalize hns:[p.und,p.red,p.sel].flatten=ns at hA2
   have hnl:ns.length≤36:=by
    rw [<- hns]
    simp only [List.flatten_cons,List.flatten_nil,List.append_nil,List.length_append]
    omega
   have hcat:∀ b87,CtN prog 205 #[.slice (some ⟨b87,0,none⟩) 3 3] [pt b87 (cl [.slice aU p.und.length kU,.slice aD p.red.length kD,.slice aS p.sel.length kS] 40),Zq] λu T=>u.oneCell'=true/\T=NR u ns:=λb87=>by
    have h:=EI (ls_cat (b:=b87) (hpu.up hE2) (hpd.up hE2)<|hpsel.up hE2) (by rw [hns]; omega)
    rw [hns] at h
    exact j4 h
   refine aB<|xE<|xE<|xY<|xT<|cQ<|sV (vF Z wJ Z)<|sV (vY Z fG) ?_
   refine sV (vF Z wL Z)<|sV (vY Z fG) ?_
   refine sV (vF Z zP Z)<|sV (vY Z fG) ?_
   refine ak (cells:=[.slice aU p.und.length kU,.slice aD p.red.length kD,.slice aS p.sel.length kS]) Z underlying325 inf40 Z Z Zz (ltn Z) λb87=>?_
   refine aH Z Z en205 Z (hcat b87) ?_
   rintro u h' ⟨T,rfl,hu,rfl⟩
   simp only [lC,lN]
   unfold NR
   refine jD (v:=u) (E:=9) (sz:=1) (rows:=ns.map nC) slq λwa wc hwf hwl hwm=>?_
   rw [List.length_map] at hwf hwl
   subst hwf
   refine sV (aF Z underlying40)<|sM Z<|sK [1,2,5,6,36,37,38,88,89,90] Z<|cB ?_
   rw [<- hA2] at hΦ
   refine aZ (σ := Res×Res×Nat) (λq=>[(1,.func (.yield yl) #[] #[]),(2,.pointer (some ⟨b2,0,none⟩)),(36,.slice (some ⟨pb,po,none⟩) S.c.pars.length ck),(37,.int .i64 S.c.pars.length),(38,.int .i64 (i:Nat)),(5,.int .i64 (i:Nat)),(6,.pointer (some ⟨b6,0,none⟩)),(88,.slice wa ns.length wc),(89,.int .i64 ns.length),(90,.int .i64 (q.2.2:Nat))]) (λq=>VR (.slice wa ns.length wc) 9 1 (ns.map nC)::pt b6 (cl [sv p.name,.slice aA p.args.length kA,.slice aR p.ren.length kR,.slice aU p.und.length kU,.slice aD p.red.length kD,.slice aS p.sel.length kS] 88)::pt b2 (cl [v,.map (some mb),sv S.c.name,.bool S.c.dfd,ca,.slice (some ⟨pb,po,none⟩) S.c.pars.length ck,ce,.slice cf S.c.feats.length cfk,ci,.slice mA S.ms.length mK,.map (some bm),.bool all] 206)::q.1::mps mb m::mps bm bmp::q.2.1::hr) (λq=>Ext Zq q.1/\q.2.2≤ns.length /\ Φ ((ns.drop q.2.2).flatMap (S.f1b (p,i))++A) q.2.1) (λq=>ns.length - q.2.2) (Zq,r,0) ⟨Ext.refl Zq,Nat.zero_le _,hΦ⟩ ?_
   clear hΦ
   rintro ⟨Y2,r,k⟩ ⟨hE3,hk,hΦ⟩
   simp only at hE3 hk hΦ
   dsimp only
   refine cQ<|sV (aN Z Z)<|sN<|nT<|cS<|cC Z (λhd3=>?_)<|λhd3=>?_
   ·have hltk:k<ns.length:=Zr
    rw [eu hltk,List.append_assoc] at hΦ
    have hnx:(ns.map nC)[k]? = some [sv ns[k]]:=by rw [List.getElem?_map,Zy hltk]; rfl
    refine fw (r:=VR (.slice wa ns.length wc) 9 1<|ns.map nC) slq λhok=>?_
    obtain ⟨ab,ao,rfl⟩:∃ ab ao,wa=some ⟨ab,ao,none⟩:=by
     obtain ⟨f0,hf0⟩:=hok
     rcases VR.form hf0 with ⟨h3,h4⟩ | ⟨b,o,cp,h3,-⟩
     ·have:=List.map_eq_nil_iff.1 h4
      subst this; simp at hltk
     ·rw [List.length_map] at h3; cases h3; exact ⟨b,o,rfl⟩
    generalize ns[k]=n at hΦ hnx
    refine cK<|xT<|cS<|cB<|cQ<|sV (vI (k:=k) Z Z jv Z hltk Z)<|sV (vY Z ld9 (ha:=⟨_,_,slq,dN hnx 0<|by simp⟩)) ?_
    refine sA Z<|sK [1,2,5,6,12,36,37,38,88,89,90] Z<|cQ ?_
    have hK9:=hK.up<|hE.trans<|hE2.trans hE3
    refine sV (af Z fT Z ah) ?_
    refine sM Z<|sM Z<|aH Z Z Ko Z (qf (v:=v) (fv:=.map<|some mb) (c:=S.c) (ca:=ca) (cb:=.slice (some ⟨pb,po,none⟩) S.c.pars.length ck) (ce:=ce) (cf:=.slice cf S.c.feats.length cfk) (ci:=ci) (mv:=.slice mA S.ms.length mK) (all:=all) (bm:=bm) (i:=i) (n:=n) (hK9.by' n) (by have:=hB.under n; omega)) ?_
    rintro u h' ⟨Y3,k9,rfl,hE4,rows,hu,hro,rfl⟩
    simp only [lC,lN]
    have hro:Rws Y3 rows (S.fro i<|n):=hro
    have hrl:=hro.1
    have hfl:=hB.fro i<|n
    refine jD (v:=u) (E:=191) (sz:=18) (rows:=rows) slq λla lc hlf hll hlm=>?_
    rw [hrl] at hlf hll
    subst hlf
    refine sV (aF Z underlying187)<|sV (dD Z Z)<|sM Z ?_
    unfold Sk.f1b at hΦ
    dsimp only at hΦ
    by_cases hq:S.fro i n=[]
    ·rw [if_pos hq] at hΦ
     have hΦ2 : Φ (S.cf 1 n ⟨p.name,n⟩ og0::((ns.drop (k+1)).flatMap (S.f1b (p,i))++A)) r:=hΦ
     have hg:(((S.fro i n).length:Int) == 0)=true:=by rw [hq]; rfl
     rw [hg]
     refine sG Z Z (vM Z)<|sG Z Z (af Z fT Z ah) ?_
     refine sG Z Z (vM Z)<|sG Z Z (vF Z gT Z)<|sG Z Z (vY Z ld9) ?_
     refine sG Z Z (vM Z)<|sG Z Z (aQ (cells:=[sv p.name,sv n]) Z<|λ_=>Zz) ?_
     refine sG Z Z (aQ (cells:=[sv [],sv []]) Z<|λ_=>Zz) ?_
     refine bR Z Z Z Z jZ Z (hcn 1 n ⟨p.name,n⟩ og0) ?_
     refine kw (gd:=100) (.inr ⟨_,_,Z,Z,Z⟩) Z Z (hy _ _ _ hΦ2) ?_
     rintro u h' (⟨rfl,r',hΦ4,rfl⟩ | ⟨rfl,r',hst,rfl⟩)
     ·simp only [lC,lN]
      refine sG Z Z (bi Z)<|sV (vQ Z Z)<|sK [1,2,5,6,36,37,38,88,89,90,112] Z<|aG Z ?_
      refine cK<|xB<|xT<|cR<|sV (aI Z Z Z6)<|sM Z<|sN<|nK [1,2,5,6,36,37,38,88,89,90] Z<|au ?_
      refine aM (Y3,r',k+1) ⟨hE3.trans hE4,hltk,hΦ4⟩ (by dsimp only; omega)
     ·simp only [lC,lN]
      refine sG Z Z (bi Z)<|sV (vQ Z Z)<|sK [1,2,5,6,36,37,38,88,89,90,112] Z<|aT Z ?_
      refine cQ<|sA Z<|sK [4] Z<|cT<|xW<|xR<|xR<|xW<|xW<|xR<|xR<|xW<|xR ?_
      exact aj Z ⟨Y3,[mps mb m,mps bm bmp,r'],Z,hE.trans (hE2.trans<|hE3.trans hE4),r',Z,.inr ⟨Z,_,hst⟩⟩ sbq
    ·rw [if_neg hq] at hΦ
     have hg:(((S.fro i n).length:Int) == 0)=false:=by
      have:=List.length_pos_iff.2 hq
      simp only [beq_eq_false_iff_ne,ne_eq]; omega
     rw [hg]
     iterate 11 refine aC rfl rfl rfl ?_
     refine sV (vP Z Z)<|sK [1,2,5,6,36,37,38,88,89,90,112] Z<|aG Z ?_
     refine cK<|xB<|xT<|cR<|sV (aI Z Z Z6)<|sM Z<|sN<|nK [1,2,5,6,36,37,38,88,89,90] Z<|au ?_
     refine aM (Y3,r,k+1) ⟨hE3.trans hE4,hltk,hΦ⟩ (by dsimp only; omega)
   ·have hke:k=ns.length:=Nat.le_antisymm hk<|Nat.not_lt.1 Zr
    subst hke
    rw [dL,List.nil_append] at hΦ
    refine aB<|xE<|xE<|xY<|xB<|xT<|cR<|sV (aI Z Z Z6)<|sM Z<|sN<|nK [1,2,36,37,38] Z<|au ?_
    refine aM (Y2,r,i+1) ⟨hE.trans (hE2.trans hE3),hlt,by rw [hA]; exact hΦ⟩ (by dsimp only; omega)
 ·have hie:i=S.c.pars.length:=Nat.le_antisymm hi<|Nat.not_lt.1 Zx
  subst hie
  rw [mR,List.nil_append] at hΦ
  rw [<- hT2] at hΦ
  refine aB<|xE<|xE<|xY<|xT<|cS<|cQ<|sV (vF Z gV Z)<|sV (vF Z fC Z)<|sV (vY Z mi) ?_
  refine sV (aF Z underlying39)<|sM Z<|sK [1,2,117,118,119] Z<|cB<|aZ (σ := Res×Res×Nat) (λq=>[(1,.func (.yield yl) #[] #[]),(2,.pointer (some ⟨b2,0,none⟩)),(117,.slice cb S.c.pars.length ck),(118,.int .i64 S.c.pars.length),(119,.int .i64 (q.2.2:Nat))]) (λq=>pt b2 (cl [v,.map (some mb),sv S.c.name,.bool S.c.dfd,ca,.slice cb S.c.pars.length ck,ce,.slice cf S.c.feats.length cfk,ci,.slice mA S.ms.length mK,.map (some bm),.bool all] 206)::q.1::mps mb m::mps bm bmp::q.2.1::hr) (λq=>Ext X q.1/\q.2.2≤S.c.pars.length /\ Φ ((S.c.pars.drop q.2.2).flatMap (S.f2)++T2) q.2.1) (λq=>S.c.pars.length - q.2.2) (Y,r,0) ⟨hE,Nat.zero_le _,hΦ⟩ ?_
  clear hΦ hE
  clear Y r
  rintro ⟨Y,r,i⟩ ⟨hE,hi,hΦ⟩
  simp only at hE hi hΦ
  dsimp only
  refine cQ<|sV (aN Z Z)<|sN<|nT<|cS<|cC Z (λhd=>?_)<|λhd=>?_
  ·have hlt:i<S.c.pars.length:=Zx
   rw [eu hlt,List.append_assoc] at hΦ
   have hlis:=hB.lists<|List.getElem_mem hlt
   obtain ⟨pb,po,pcap,pus,e1,hpus,hprd,hp⟩:=(hK.par.up hE).at<|Zy hlt
   obtain ⟨rfl,rfl⟩:cb=some ⟨pb,po,none⟩/\ck=pcap:=by cases e1; exact ⟨rfl,rfl⟩
   generalize S.c.pars[i]=p at hΦ hlis hp
   generalize hA:(S.c.pars.drop (i+1)).flatMap (S.f2)++T2=A at hΦ
   obtain ⟨hlR,hlU,hlD,hlS⟩:=hlis
   have hp0:=hp
   obtain ⟨pa,pr,pu,pd,pS,rfl,hpa,hpR,hpu,hpd,hpsel⟩:=hp
   obtain ⟨aA,kA,rfl,_⟩:=id hpa.form
   obtain ⟨aR,kR,rfl,_⟩:=id hpR.form
   obtain ⟨aU,kU,rfl,_⟩:=id hpu.form
   obtain ⟨aD,kD,rfl,_⟩:=id hpd.form
   obtain ⟨aS,kS,rfl,_⟩:=id hpsel.form
   refine cK<|xT<|cS<|cB<|cQ<|sV (vI (k:=i) Z Z oV Z hlt Z)<|sV (af Z qB Z hprd) ?_
   refine ax vC λb14=>?_
   refine ai Z Z sF Z Z ?_
   have hΦ : Φ (p.und.flatMap (S.f2a p)++A) r:=hΦ
   refine sK [1,2,14,117,118,119] Z<|cQ<|sV (vF Z wJ Z)<|sV (vY Z fG) ?_
   refine sV (aF Z underlying40)<|sM Z<|sK [1,2,14,117,118,119,124,125,126] Z<|cB<|aZ (σ := Res×Res×Nat) (λq=>[(1,.func (.yield yl) #[] #[]),(2,.pointer (some ⟨b2,0,none⟩)),(117,.slice (some ⟨pb,po,none⟩) S.c.pars.length ck),(118,.int .i64 S.c.pars.length),(119,.int .i64 (i:Nat)),(14,.pointer (some ⟨b14,0,none⟩)),(124,.slice aU p.und.length kU),(125,.int .i64 p.und.length),(126,.int .i64 (q.2.2:Nat))]) (λq=>pt b14 (cl [sv p.name,.slice aA p.args.length kA,.slice aR p.ren.length kR,.slice aU p.und.length kU,.slice aD p.red.length kD,.slice aS p.sel.length kS] 88)::pt b2 (cl [v,.map (some mb),sv S.c.name,.bool S.c.dfd,ca,.slice (some ⟨pb,po,none⟩) S.c.pars.length ck,ce,.slice cf S.c.feats.length cfk,ci,.slice mA S.ms.length mK,.map (some bm),.bool all] 206)::q.1::mps mb m::mps bm bmp::q.2.1::hr) (λq=>Ext Y q.1/\q.2.2≤p.und.length /\ Φ ((p.und.drop q.2.2).flatMap (S.f2a p)++A) q.2.1) (λq=>p.und.length - q.2.2) (Y,r,0) ⟨Ext.refl Y,Nat.zero_le _,hΦ⟩ ?_
   clear hΦ
   rintro ⟨Zq,r,j⟩ ⟨hE2,hj,hΦ⟩
   simp only at hE2 hj hΦ
   dsimp only
   refine cQ<|sV (aN Z Z)<|sN<|nT<|cS<|cC Z (λhd2=>?_)<|λhd2=>?_
   ·have hltj:j<p.und.length:=Zw
    rw [eu hltj,List.append_assoc] at hΦ
    have hEZ:=hE.trans hE2
    obtain ⟨nb,no,ncap,nus,e2,hnus,hnrd,hn⟩:=(hpu.up hE2).at<|Zy hltj
    obtain ⟨rfl,rfl⟩:aU=some ⟨nb,no,none⟩/\kU=ncap:=by cases e2; exact ⟨rfl,rfl⟩
    generalize p.und[j]=x at hΦ hn
    subst hn
    refine cK<|xT<|cS<|cB<|cQ<|sV (vI (k:=j) Z Z jv Z hltj Z)<|sV (vY Z ld9 (ha:=⟨_,_,slq,hnrd 0<|by simp⟩)) ?_
    refine sA Z<|sK [1,2,14,16,117,118,119,124,125,126] Z<|cQ<|sV (vF Z wL Z)<|sV (vY Z fG) ?_
    refine sM Z<|aY Z Z Ed Z (fJ (ED<|hpd.up hE2) x<|by omega) ?_
    refine sM Z ?_
    unfold Sk.f2a at hΦ
    cases hq:p.red.contains x
    ·rw [hq] at hΦ
     have hΦ : Φ ((p.und.drop (j+1)).flatMap (S.f2a p)++A) r:=hΦ
     iterate 11 refine aC rfl rfl rfl ?_
     refine sV (vP Z Z)<|sK [1,2,14,117,118,119,124,125,126,146] Z<|aG Z ?_
     refine cK<|xB<|xT<|cR<|sV (aI Z Z Z6)<|sM Z<|sN<|nK [1,2,14,117,118,119,124,125,126] Z<|au ?_
     refine aM (Zq,r,j+1) ⟨hE2,hltj,hΦ⟩ (by dsimp only; omega)
    ·rw [hq] at hΦ
     have hΦ2 : Φ (S.cf 2 x ⟨p.name,x⟩ og0::((p.und.drop (j+1)).flatMap (S.f2a p)++A)) r:=hΦ
     refine sG Z Z (vM Z)<|sG Z Z (af Z fT Z ah) ?_
     refine sG Z Z (vM Z)<|sG Z Z (vF Z gT Z)<|sG Z Z (vY Z ld9) ?_
     refine sG Z Z (vM Z)<|sG Z Z (aQ (cells:=[sv p.name,sv x]) Z<|λ_=>Zz) ?_
     refine sG Z Z (aQ (cells:=[sv [],sv []]) Z<|λ_=>Zz) ?_
     refine bR Z Z Z Z jZ Z (hcn 2 x ⟨p.name,x⟩ og0) ?_
     refine kw (gd:=134) (.inr ⟨_,_,Z,Z,Z⟩) Z Z (hy _ _ _ hΦ2) ?_
     rintro u h' (⟨rfl,r',hΦ4,rfl⟩ | ⟨rfl,r',hst,rfl⟩)
     ·simp only [lC,lN]
      refine sG Z Z (bi Z)<|sV (vQ Z Z)<|sK [1,2,14,117,118,119,124,125,126,146] Z<|aG Z ?_
      refine cK<|xB<|xT<|cR<|sV (aI Z Z Z6)<|sM Z<|sN<|nK [1,2,14,117,118,119,124,125,126] Z<|au ?_
      refine aM (Zq,r',j+1) ⟨hE2,hltj,hΦ4⟩ (by dsimp only; omega)
     ·simp only [lC,lN]
      refine sG Z Z (bi Z)<|sV (vQ Z Z)<|sK [1,2,14,117,118,119,124,125,126,146] Z<|aT Z ?_
      refine cQ<|sA Z<|sK [4] Z<|cT<|xW<|xR<|xR<|xW<|xW<|xR<|xR<|xW<|xR ?_
      exact aj Z ⟨Zq,[mps mb m,mps bm bmp,r'],Z,hEZ,r',Z,.inr ⟨Z,_,hst⟩⟩ sbq
   ·have hje:j=p.und.length:=Nat.le_antisymm hj<|Nat.not_lt.1 Zw
    subst hje
    rw [dL,List.nil_append] at hΦ
    refine aB<|xE<|xE<|xY<|xB<|xT<|cR<|sV (aI Z Z Z6)<|sM Z<|sN<|nK [1,2,117,118,119] Z<|au ?_
    refine aM (Zq,r,i+1) ⟨hE.trans hE2,hlt,by rw [hA]; exact hΦ⟩ (by dsimp only; omega)
  ·have hie:i=S.c.pars.length:=Nat.le_antisymm hi<|Nat.not_lt.1 Zx
   subst hie
   rw [dL,List.nil_append] at hΦ
   rw [<- hT3] at hΦ
   refine aB<|xE<|xE<|xY<|xT<|cS<|cQ<|sV (vF Z gV Z)<|sV (vF Z fC Z)<|sV (vY Z mi) ?_
   refine sV (aF Z underlying39)<|sM Z<|sK [1,2,151,152,153] Z<|cB<|aZ (σ := Res×Res×Nat) (λq=>[(1,.func (.yield yl) #[] #[]),(2,.pointer (some ⟨b2,0,none⟩)),(151,.slice cb S.c.pars.length ck),(152,.int .i64 S.c.pars.length),(153,.int .i64 (q.2.2:Nat))]) (λq=>pt b2 (cl [v,.map (some mb),sv S.c.name,.bool S.c.dfd,ca,.slice cb S.c.pars.length ck,ce,.slice cf S.c.feats.length cfk,ci,.slice mA S.ms.length mK,.map (some bm),.bool all] 206)::q.1::mps mb m::mps bm bmp::q.2.1::hr) (λq=>Ext X q.1/\q.2.2≤S.c.pars.length /\ Φ ((S.c.pars.zipIdx.drop q.2.2).flatMap (S.f3)++T3) q.2.1) (λq=>S.c.pars.length - q.2.2) (Y,r,0) ⟨hE,Nat.zero_le _,hΦ⟩ ?_
   clear hΦ hE
   clear Y r
   rintro ⟨Y,r,i⟩ ⟨hE,hi,hΦ⟩
   simp only at hE hi hΦ
   dsimp only
   refine cQ<|sV (aN Z Z)<|sN<|nT<|cS<|cC Z (λhd=>?_)<|λhd=>?_
   ·have hlt:i<S.c.pars.length:=Zx
    rw [kC hlt,List.append_assoc] at hΦ
    have hlis:=hB.lists<|List.getElem_mem hlt
    obtain ⟨pb,po,pcap,pus,e1,hpus,hprd,hp⟩:=(hK.par.up hE).at<|Zy hlt
    obtain ⟨rfl,rfl⟩:cb=some ⟨pb,po,none⟩/\ck=pcap:=by cases e1; exact ⟨rfl,rfl⟩
    generalize S.c.pars[i]=p at hΦ hlis hp
    generalize hA:(S.c.pars.zipIdx.drop (i+1)).flatMap (S.f3)++T3=A at hΦ
    obtain ⟨hlR,hlU,hlD,hlS⟩:=hlis
    have hp0:=hp
    obtain ⟨pa,pr,pu,pd,pS,rfl,hpa,hpR,hpu,hpd,hpsel⟩:=hp
    obtain ⟨aA,kA,rfl,_⟩:=id hpa.form
    obtain ⟨aR,kR,rfl,_⟩:=id hpR.form
    obtain ⟨aU,kU,rfl,_⟩:=id hpu.form
    obtain ⟨aD,kD,rfl,_⟩:=id hpd.form
    obtain ⟨aS,kS,rfl,_⟩:=id hpsel.form
    refine cK<|xT<|cS<|cB<|cQ<|sM Z<|sV (vI (k:=i) Z Z oV Z hlt Z)<|sV (af Z qB Z hprd) ?_
    refine ax vC λb18=>?_
    refine sA Z<|ai Z Z sF Z Z ?_
    have hΦ : Φ ((S.fl p.name).mems.flatMap (S.f3a (p,i))++A) r:=hΦ
    refine sK [1,2,17,18,151,152,153] Z<|cQ<|sV (vF Z Ec Z)<|sV (vF Z iG Z)<|sV (vY Z oh) ?_
    refine sV (vF Z gT Z)<|sV (vY Z ld9) ?_
    obtain ⟨fus,hfl,hfr2⟩:=(hK.fl.up hE) p.name
    obtain ⟨mx,my,rfl,hmx,hmy⟩:=hfr2
    obtain ⟨qA,qK,rfl,_⟩:=id hmx.form
    refine sV (gG hfl<|bI Z Z nY kL slq) ?_
    refine sV (iP (k:=2) Z underlying55 Z isAgg52 Z)<|sV (aF Z underlying52)<|sM Z<|sK [1,2,17,18,151,152,153,164,165,166] Z<|cB<|aZ (σ := Res×Res×Nat) (λq=>[(1,.func (.yield yl) #[] #[]),(2,.pointer (some ⟨b2,0,none⟩)),(151,.slice (some ⟨pb,po,none⟩) S.c.pars.length ck),(152,.int .i64 S.c.pars.length),(153,.int .i64 (i:Nat)),(18,.pointer (some ⟨b18,0,none⟩)),(17,.int .i64 (i:Nat)),(164,.slice qA (S.fl p.name).mems.length qK),(165,.int .i64 (S.fl p.name).mems.length),(166,.int .i64 (q.2.2:Nat))]) (λq=>pt b18 (cl [sv p.name,.slice aA p.args.length kA,.slice aR p.ren.length kR,.slice aU p.und.length kU,.slice aD p.red.length kD,.slice aS p.sel.length kS] 88)::pt b2 (cl [v,.map (some mb),sv S.c.name,.bool S.c.dfd,ca,.slice (some ⟨pb,po,none⟩) S.c.pars.length ck,ce,.slice cf S.c.feats.length cfk,ci,.slice mA S.ms.length mK,.map (some bm),.bool all] 206)::q.1::mps mb m::mps bm bmp::q.2.1::hr) (λq=>Ext Y q.1/\q.2.2≤(S.fl p.name).mems.length /\ Φ (((S.fl p.name).mems.drop q.2.2).flatMap (S.f3a (p,i))++A) q.2.1) (λq=>(S.fl p.name).mems.length - q.2.2) (Y,r,0) ⟨Ext.refl Y,Nat.zero_le _,hΦ⟩ ?_
    clear hΦ
    rintro ⟨Zq,r,j⟩ ⟨hE2,hj,hΦ⟩
    simp only at hE2 hj hΦ
    dsimp only
    refine cQ<|sV (aN Z Z)<|sN<|nT<|cS<|cC Z (λhd2=>?_)<|λhd2=>?_
    ·have hltj:j<(S.fl p.name).mems.length:=Zw
     rw [eu hltj,List.append_assoc] at hΦ
     have hEZ:=hE.trans hE2
     obtain ⟨nb,no,ncap,nus,e2,hnus,hnrd,hn⟩:=(hmx.up hE2).at<|Zy hltj
     obtain ⟨rfl,rfl⟩:qA=some ⟨nb,no,none⟩/\qK=ncap:=by cases e2; exact ⟨rfl,rfl⟩
     generalize (S.fl p.name).mems[j]=x at hΦ hn
     have hxo:=Enc.ones hn
     obtain ⟨x2,x5,xy,x11,x12,x13,rfl,-⟩:=dI hn
     unfold iB at *
     have hK9:=hK.up hEZ
     refine cK<|xT<|cS<|cB<|cQ<|sV (vI (k:=j) Z Z nU Z hltj Z)<|sV (af Z fB Z hnrd) ?_
     refine ax jY λb20=>?_
     refine ai Z Z iO Z hxo ?_
     refine sK [1,2,17,18,20,151,152,153,164,165,166] Z<|cS<|bB (ork [(0,1),(1,2),(2,1),(3,2),(4,1),(5,0),(6,0),(7,2)] .nil) (λi => !(Nat.beq i 6)) mixed Zz ?_
     refine bg Z (af Z fT Z ah) ?_
     refine dV Z (vM Z)<|bg Z (af Z qB Z ah) ?_
     refine dV Z (vF Z eD Z)<|bg Z (vY Z ld9) ?_
     refine aP Z<|aH Z Z en173 Z (uw (n:=x.name)<|Enc.up hE2.rd hp0) ?_
     rintro u h' ⟨rfl,rfl⟩
     simp only [lC,lN]
     refine aX ?_
     refine aP Z<|aH Z Z Ko Z (qf (v:=v) (fv:=.map<|some mb) (c:=S.c) (ca:=ca) (cb:=.slice (some ⟨pb,po,none⟩) S.c.pars.length ck) (ce:=ce) (cf:=.slice cf S.c.feats.length cfk) (ci:=ci) (mv:=.slice mA S.ms.length mK) (all:=all) (bm:=bm) (i:=i) (n:=bN p x.name) (hK9.by'<|bN p x.name) (by have:=hB.under (bN p x.name); omega)) ?_
     rintro u h' ⟨Y3,k9,rfl,hE4,rows,hu,hro,rfl⟩
     simp only [lC,lN]
     refine aX ?_
     have hro:Rws Y3 rows (S.fro i<|bN p x.name):=hro
     have hrl:=hro.1
     have hfl9:=hB.fro i<|bN p x.name
     unfold Sk.f3a at hΦ
     dsimp only at hΦ
     generalize S.fro i (bN p x.name)=l at hΦ hro hrl hfl9
     refine dV Z (vA Z)<|bA<|nK [1,2,17,18,21,151,152,153,164,165,166] Z<|nT<|cS (fq (v:=u) (E:=191) (sz:=18) (rows:=rows) slq λla lc hlf hll hlm=>?_)
     rw [hrl] at hlf hll
     subst hlf
     refine fw (r:=VR (.slice la l.length lc) 191 18 rows) slq λhok=>?_
     refine IP [VR (.slice la l.length lc) 191 18 rows] Y3 λY4 hE5 hsel=>?_
     have hls:Ls Y4 (.slice la l.length lc) l:=Rws.ls (E:=191) (hro.up hE5) hok (hsel _ _ .here) (by show l.length * 280≤reachBytes; have hrb:reachBytes=140737488351232:=rfl; omega)
     have hE6:=hE2.trans<|hE4.trans hE5
     have hEZ4:=hE.trans hE6
     refine cR<|sM Z<|sV (aF Z underlying187)<|sV (bZ Z Z)<|sM Z ?_
     by_cases hq:1<l.length
     ·rw [if_pos hq] at hΦ
      have hg:decide ((1:Int)<(l.length:Nat))=true:=by simp; omega
      rw [hg]
      refine sG Z Z (af Z fT Z ah) ?_
      refine sG Z Z (vM Z)<|sG Z Z (vM Z)<|kF Z Z<|aH Z Z en207 Z (Hw hy hall en208 (is:=λ_ _=>true) (λa _ b _ us us' h h'=>reads_nil<|Jt h h') hls 3 _ r hΦ) ?_
      rintro u h' ⟨r',rfl,(⟨rfl,hΦ4⟩ | ⟨rfl,_,hst⟩)⟩
      ·simp only [lC,lN]
       refine sG Z Z (bi Z)<|sV (vQ Z Z)<|sK [1,2,17,18,151,152,153,164,165,166,186] Z<|aG Z ?_
       refine cK<|xB<|xT<|cR<|sV (aI Z Z Z6)<|sM Z<|sN<|nK [1,2,17,18,151,152,153,164,165,166] Z<|au ?_
       refine aM (Y4,r',j+1) ⟨hE6,hltj,hΦ4⟩ (by dsimp only; omega)
      ·simp only [lC,lN]
       refine sG Z Z (bi Z)<|sV (vQ Z Z)<|sK [1,2,17,18,151,152,153,164,165,166,186] Z<|aT Z ?_
       refine cQ<|sA Z<|sK [4] Z<|cT<|xW<|xR<|xR<|xW<|xW<|xR<|xR<|xW<|xR ?_
       exact aj Z ⟨Y4,[mps mb m,mps bm bmp,r'],Z,hEZ4,r',Z,.inr ⟨Z,_,hst⟩⟩ sbq
     ·rw [if_neg hq] at hΦ
      have hg:decide ((1:Int)<(l.length:Nat))=false:=by simp; omega
      rw [hg]
      iterate 5 refine aC rfl rfl rfl ?_
      refine sV (vP Z Z)<|sK [1,2,17,18,151,152,153,164,165,166,186] Z<|aG Z ?_
      refine cK<|xB<|xT<|cR<|sV (aI Z Z Z6)<|sM Z<|sN<|nK [1,2,17,18,151,152,153,164,165,166] Z<|au ?_
      refine aM (Y4,r,j+1) ⟨hE6,hltj,hΦ⟩ (by dsimp only; omega)
    ·have hje:j=(S.fl p.name).mems.length:=Nat.le_antisymm hj<|Nat.not_lt.1 Zw
     subst hje
     rw [dL,List.nil_append] at hΦ
     refine aB<|xE<|xE<|xY<|xB<|xT<|cR<|sV (aI Z Z Z6)<|sM Z<|sN<|nK [1,2,151,152,153] Z<|au ?_
     refine aM (Zq,r,i+1) ⟨hE.trans hE2,hlt,by rw [hA]; exact hΦ⟩ (by dsimp only; omega)
   ·have hie:i=S.c.pars.length:=Nat.le_antisymm hi<|Nat.not_lt.1 Zx
    subst hie
    rw [mR,List.nil_append] at hΦ
    rw [<- hT4] at hΦ
    refine aB<|xE<|xE<|xY<|xT<|cS<|cQ<|sV (vF Z gV Z)<|sV (vF Z fC Z)<|sV (vY Z mi) ?_
    refine sV (aF Z underlying39)<|sM Z<|sK [1,2,191,192,193] Z<|cB<|aZ (σ := Res×Res×Nat) (λq=>[(1,.func (.yield yl) #[] #[]),(2,.pointer (some ⟨b2,0,none⟩)),(191,.slice cb S.c.pars.length ck),(192,.int .i64 S.c.pars.length),(193,.int .i64 (q.2.2:Nat))]) (λq=>pt b2 (cl [v,.map (some mb),sv S.c.name,.bool S.c.dfd,ca,.slice cb S.c.pars.length ck,ce,.slice cf S.c.feats.length cfk,ci,.slice mA S.ms.length mK,.map (some bm),.bool all] 206)::q.1::mps mb m::mps bm bmp::q.2.1::hr) (λq=>Ext X q.1/\q.2.2≤S.c.pars.length /\ Φ ((S.c.pars.zipIdx.drop q.2.2).flatMap (S.f4)++T4) q.2.1) (λq=>S.c.pars.length - q.2.2) (Y,r,0) ⟨hE,Nat.zero_le _,hΦ⟩ ?_
    clear hΦ hE
    clear Y r
    rintro ⟨Y,r,i⟩ ⟨hE,hi,hΦ⟩
    simp only at hE hi hΦ
    dsimp only
    refine cQ<|sV (aN Z Z)<|sN<|nT<|cS<|cC Z (λhd=>?_)<|λhd=>?_
    ·have hlt:i<S.c.pars.length:=Zx
     rw [kC hlt,List.append_assoc] at hΦ
     have hlis:=hB.lists<|List.getElem_mem hlt
     obtain ⟨pb,po,pcap,pus,e1,hpus,hprd,hp⟩:=(hK.par.up hE).at<|Zy hlt
     obtain ⟨rfl,rfl⟩:cb=some ⟨pb,po,none⟩/\ck=pcap:=by cases e1; exact ⟨rfl,rfl⟩
     generalize S.c.pars[i]=p at hΦ hlis hp
     generalize hA:(S.c.pars.zipIdx.drop (i+1)).flatMap (S.f4)++T4=A at hΦ
     obtain ⟨hlR,hlU,hlD,hlS⟩:=hlis
     have hp0:=hp
     obtain ⟨pa,pr,pu,pd,pS,rfl,hpa,hpR,hpu,hpd,hpsel⟩:=hp
     obtain ⟨aA,kA,rfl,_⟩:=id hpa.form
     obtain ⟨aR,kR,rfl,_⟩:=id hpR.form
     obtain ⟨aU,kU,rfl,_⟩:=id hpu.form
     obtain ⟨aD,kD,rfl,_⟩:=id hpd.form
     obtain ⟨aS,kS,rfl,_⟩:=id hpsel.form
     refine cK<|xT<|cS<|cB<|cQ<|sM Z<|sV (vI (k:=i) Z Z oV Z hlt Z)<|sV (af Z qB Z hprd) ?_
     refine ax vC λb23=>?_
     refine sA Z<|ai Z Z sF Z Z ?_
     have hΦ : Φ (p.und.flatMap (S.f4a (p,i))++A) r:=hΦ
     refine sK [1,2,22,23,191,192,193] Z<|cQ<|sV (vF Z wJ Z)<|sV (vY Z fG) ?_
     refine sV (aF Z underlying40)<|sM Z<|sK [1,2,22,191,192,193,199,200,201] Z<|cB<|aZ (σ := Res×Res×Nat) (λq=>[(1,.func (.yield yl) #[] #[]),(2,.pointer (some ⟨b2,0,none⟩)),(191,.slice (some ⟨pb,po,none⟩) S.c.pars.length ck),(192,.int .i64 S.c.pars.length),(193,.int .i64 (i:Nat)),(22,.int .i64 (i:Nat)),(199,.slice aU p.und.length kU),(200,.int .i64 p.und.length),(201,.int .i64 (q.2.2:Nat))]) (λq=>pt b23 (cl [sv p.name,.slice aA p.args.length kA,.slice aR p.ren.length kR,.slice aU p.und.length kU,.slice aD p.red.length kD,.slice aS p.sel.length kS] 88)::pt b2 (cl [v,.map (some mb),sv S.c.name,.bool S.c.dfd,ca,.slice (some ⟨pb,po,none⟩) S.c.pars.length ck,ce,.slice cf S.c.feats.length cfk,ci,.slice mA S.ms.length mK,.map (some bm),.bool all] 206)::q.1::mps mb m::mps bm bmp::q.2.1::hr) (λq=>Ext Y q.1/\q.2.2≤p.und.length /\ Φ ((p.und.drop q.2.2).flatMap (S.f4a (p,i))++A) q.2.1) (λq=>p.und.length - q.2.2) (Y,r,0) ⟨Ext.refl Y,Nat.zero_le _,hΦ⟩ ?_
     clear hΦ
     rintro ⟨Zq,r,j⟩ ⟨hE2,hj,hΦ⟩
     simp only at hE2 hj hΦ
     dsimp only
     refine cQ<|sV (aN Z Z)<|sN<|nT<|cS<|cC Z (λhd2=>?_)<|λhd2=>?_
     ·have hltj:j<p.und.length:=Zw
      rw [eu hltj,List.append_assoc] at hΦ
      have hEZ:=hE.trans hE2
      obtain ⟨nb,no,ncap,nus,e2,hnus,hnrd,hn⟩:=(hpu.up hE2).at<|Zy hltj
      obtain ⟨rfl,rfl⟩:aU=some ⟨nb,no,none⟩/\kU=ncap:=by cases e2; exact ⟨rfl,rfl⟩
      generalize p.und[j]=x at hΦ hn
      subst hn
      refine cK<|xT<|cS<|cB<|cQ<|sV (vI (k:=j) Z Z jv Z hltj Z)<|sV (vY Z ld9 (ha:=⟨_,_,slq,hnrd 0<|by simp⟩)) ?_
      refine sA Z<|sK [1,2,22,25,191,192,193,199,200,201] Z<|cQ ?_
      have hK9:=hK.up hEZ
      refine sV (af Z fT Z ah) ?_
      refine sM Z<|sM Z<|aH Z Z Ko Z (qf (v:=v) (fv:=.map<|some mb) (c:=S.c) (ca:=ca) (cb:=.slice (some ⟨pb,po,none⟩) S.c.pars.length ck) (ce:=ce) (cf:=.slice cf S.c.feats.length cfk) (ci:=ci) (mv:=.slice mA S.ms.length mK) (all:=all) (bm:=bm) (i:=i) (n:=x) (hK9.by' x) (by have:=hB.under x; omega)) ?_
      rintro u h' ⟨Y3,k9,rfl,hE4,rows,hu,hro,rfl⟩
      simp only [lC,lN]
      have hro:Rws Y3 rows (S.fro i<|x):=hro
      have hrl:=hro.1
      have hfl:=hB.fro i<|x
      refine jD (v:=u) (E:=191) (sz:=18) (rows:=rows) slq λla lc hlf hll hlm=>?_
      rw [hrl] at hlf hll
      subst hlf
      have hΦ : Φ ((S.fro i x).flatMap (S.f4b x)++((p.und.drop (j+1)).flatMap (S.f4a (p,i))++A)) r:=hΦ
      generalize hA3:(p.und.drop (j+1)).flatMap (S.f4a (p,i))++A=A3 at hΦ
      generalize S.fro i x=l at hΦ hro hrl hfl
      refine lM (r:=VR (.slice la l.length lc) 191 18 rows) slq λhok=>?_
      refine kI [VR (.slice la l.length lc) 191 18 rows] Y3 λY4 hE5 hsel=>?_
      have hls:Ls Y4 (.slice la l.length lc) l:=Rws.ls (E:=191) (hro.up hE5) hok (hsel _ _ .here) (by show l.length * 280≤reachBytes; have hrb:reachBytes=140737488351232:=rfl; omega)
      have hE6:=hE2.trans<|hE4.trans hE5
      have hEZ4:=hE.trans hE6
      refine sV (aF Z underlying187)<|sM Z<|sK [1,2,22,25,191,192,193,199,200,201,208,209,210] Z<|cB<|aZ (σ := Res×Nat) (λq=>[(1,.func (.yield yl) #[] #[]),(2,.pointer (some ⟨b2,0,none⟩)),(191,.slice (some ⟨pb,po,none⟩) S.c.pars.length ck),(192,.int .i64 S.c.pars.length),(193,.int .i64 (i:Nat)),(22,.int .i64 (i:Nat)),(199,.slice (some ⟨nb,no,none⟩) p.und.length kU),(200,.int .i64 p.und.length),(201,.int .i64 (j:Nat)),(25,sv x),(208,.slice la l.length lc),(209,.int .i64 l.length),(210,.int .i64 (q.2:Nat))]) (λq=>pt b23 (cl [sv p.name,.slice aA p.args.length kA,.slice aR p.ren.length kR,.slice (some ⟨nb,no,none⟩) p.und.length kU,.slice aD p.red.length kD,.slice aS p.sel.length kS] 88)::pt b2 (cl [v,.map (some mb),sv S.c.name,.bool S.c.dfd,ca,.slice (some ⟨pb,po,none⟩) S.c.pars.length ck,ce,.slice cf S.c.feats.length cfk,ci,.slice mA S.ms.length mK,.map (some bm),.bool all] 206)::Y4::mps mb m::mps bm bmp::q.1::hr) (λq=>q.2≤l.length /\ Φ ((l.drop q.2).flatMap (S.f4b x)++A3) q.1) (λq=>l.length - q.2) (r,0) ⟨Nat.zero_le _,hΦ⟩ ?_
      clear hΦ
      rintro ⟨r,k⟩ ⟨hk,hΦ⟩
      simp only at hk hΦ
      dsimp only
      refine cQ<|sV (aN Z Z)<|sN<|nT<|cS<|cC Z (λhd3=>?_)<|λhd3=>?_
      ·have hltk:k<l.length:=Zr
       rw [eu hltk,List.append_assoc] at hΦ
       obtain ⟨cb',co,ccap,cus,e4,hcus,hcrd,hcr⟩:=hls.at<|Zy hltk
       obtain ⟨rfl,rfl⟩:la=some ⟨cb',co,none⟩/\lc=ccap:=by cases e4; exact ⟨rfl,rfl⟩
       generalize l[k]=y at hΦ hcr
       have hyo:=Enc.ones hcr
       obtain ⟨y2,y5,yy,y11,y12,y13,rfl,-⟩:=iC hcr
       have hogy:=λb=>nD (b:=b) (x:=y) (x2:=y2) (x5:=y5) (y:=yy) (x11:=y11) (x12:=y12) (x13:=y13)
       unfold oJ at *
       refine cK<|xT<|cS<|cB<|cQ<|sV (vI (k:=k) Z Z lJ Z hltk Z)<|sV (af Z ik Z hcrd) ?_
       refine ax qY λb27=>?_
       refine ai Z Z mH Z hyo ?_
       refine sK [1,2,22,25,27,191,192,193,199,200,201,208,209,210] Z<|cQ<|sV (vF Z fa191_3 Z)<|sV (vY Z ld3) ?_
       refine sV (bM Z Z)<|sM Z ?_
       unfold Sk.f4b at hΦ
       cases hq:(y.was != 2)
       ·have hw:¬ y.was≠2:=Zu
        rw [if_neg hw] at hΦ
        iterate 9 refine aC rfl rfl rfl ?_
        refine sV (vP Z Z)<|sK [1,2,22,25,191,192,193,199,200,201,208,209,210,227] Z<|aG Z ?_
        refine cK<|xB<|xT<|cR<|sV (aI Z Z Z6)<|sM Z<|sN<|nK [1,2,22,25,191,192,193,199,200,201,208,209,210] Z<|au ?_
        refine aM (r,k+1) ⟨hltk,hΦ⟩ (by dsimp only; omega)
       ·have hw:y.was≠2:=Zu
        rw [if_pos hw] at hΦ
        have hΦ2 : Φ (S.cf 4 x y.og og0::((l.drop (k+1)).flatMap (S.f4b x)++A3)) r:=hΦ
        refine sG Z Z (vM Z)<|sG Z Z (af Z fT Z ah) ?_
        refine sG Z Z (vM Z)<|sG Z Z (vF Z jA Z)<|sG Z Z (af Z qz Z (hogy b27) (s:=.here)) ?_
        refine sG Z Z (aQ (cells:=[sv [],sv []]) Z<|λ_=>Zz) ?_
        refine bR Z Z Z Z jZ Z (hcn 4 x y.og og0) ?_
        refine kw (gd:=217) (.inr ⟨_,_,Z,Z,Z⟩) Z Z (hy _ _ _ hΦ2) ?_
        rintro u h' (⟨rfl,r',hΦ4,rfl⟩ | ⟨rfl,r',hst,rfl⟩)
        ·simp only [lC,lN]
         refine sG Z Z (bi Z)<|sV (vQ Z Z)<|sK [1,2,22,25,191,192,193,199,200,201,208,209,210,227] Z<|aG Z ?_
         refine cK<|xB<|xT<|cR<|sV (aI Z Z Z6)<|sM Z<|sN<|nK [1,2,22,25,191,192,193,199,200,201,208,209,210] Z<|au ?_
         refine aM (r',k+1) ⟨hltk,hΦ4⟩ (by dsimp only; omega)
        ·simp only [lC,lN]
         refine sG Z Z (bi Z)<|sV (vQ Z Z)<|sK [1,2,22,25,191,192,193,199,200,201,208,209,210,227] Z<|aT Z ?_
         refine cQ<|sA Z<|sK [4] Z<|cT<|xW<|xR<|xR<|xW<|xW<|xR<|xR<|xW<|xW ?_
         refine xR<|xR<|xW<|xR ?_
         exact aj Z ⟨Y4,[mps mb m,mps bm bmp,r'],Z,hEZ4,r',Z,.inr ⟨Z,_,hst⟩⟩ sbq
      ·have hke:k=l.length:=Nat.le_antisymm hk<|Nat.not_lt.1 Zr
       subst hke
       rw [dL,List.nil_append] at hΦ
       refine aB<|xE<|xE<|xY<|xB<|xT<|cR<|sV (aI Z Z Z6)<|sM Z<|sN<|nK [1,2,22,191,192,193,199,200,201] Z<|au ?_
       refine aM (Y4,r,j+1) ⟨hE6,hltj,by rw [hA3]; exact hΦ⟩ (by dsimp only; omega)
     ·have hje:j=p.und.length:=Nat.le_antisymm hj<|Nat.not_lt.1 Zw
      subst hje
      rw [dL,List.nil_append] at hΦ
      refine aB<|xE<|xE<|xY<|xB<|xT<|cR<|sV (aI Z Z Z6)<|sM Z<|sN<|nK [1,2,191,192,193] Z<|au ?_
      refine aM (Zq,r,i+1) ⟨hE.trans hE2,hlt,by rw [hA]; exact hΦ⟩ (by dsimp only; omega)
    ·have hie:i=S.c.pars.length:=Nat.le_antisymm hi<|Nat.not_lt.1 Zx
     subst hie
     rw [mR,List.nil_append] at hΦ
     rw [<- hT5] at hΦ
     refine aB<|xE<|xE<|xY<|xT<|cS<|cQ<|sV (vF Z gV Z)<|sV (vF Z fC Z)<|sV (vY Z mi) ?_
     refine sV (aF Z underlying39)<|sM Z<|sK [1,2,233,234,235] Z<|cB<|aZ (σ := Res×Res×Nat) (λq=>[(1,.func (.yield yl) #[] #[]),(2,.pointer (some ⟨b2,0,none⟩)),(233,.slice cb S.c.pars.length ck),(234,.int .i64 S.c.pars.length),(235,.int .i64 (q.2.2:Nat))]) (λq=>pt b2 (cl [v,.map (some mb),sv S.c.name,.bool S.c.dfd,ca,.slice cb S.c.pars.length ck,ce,.slice cf S.c.feats.length cfk,ci,.slice mA S.ms.length mK,.map (some bm),.bool all] 206)::q.1::mps mb m::mps bm bmp::q.2.1::hr) (λq=>Ext X q.1/\q.2.2≤S.c.pars.length /\ Φ ((S.c.pars.drop q.2.2).flatMap (S.f5)++R) q.2.1) (λq=>S.c.pars.length - q.2.2) (Y,r,0) ⟨hE,Nat.zero_le _,hΦ⟩ ?_
     clear hΦ hE
     clear Y r
     rintro ⟨Y,r,i⟩ ⟨hE,hi,hΦ⟩
     simp only at hE hi hΦ
     dsimp only
     refine cQ<|sV (aN Z Z)<|sN<|nT<|cS<|cC Z (λhd=>?_)<|λhd=>?_
     ·have hlt:i<S.c.pars.length:=Zx
      rw [eu hlt,List.append_assoc] at hΦ
      have hlis:=hB.lists<|List.getElem_mem hlt
      obtain ⟨pb,po,pcap,pus,e1,hpus,hprd,hp⟩:=(hK.par.up hE).at<|Zy hlt
      obtain ⟨rfl,rfl⟩:cb=some ⟨pb,po,none⟩/\ck=pcap:=by cases e1; exact ⟨rfl,rfl⟩
      generalize S.c.pars[i]=p at hΦ hlis hp
      generalize hA:(S.c.pars.drop (i+1)).flatMap (S.f5)++R=A at hΦ
      obtain ⟨hlR,hlU,hlD,hlS⟩:=hlis
      have hp0:=hp
      obtain ⟨pa,pr,pu,pd,pS,rfl,hpa,hpR,hpu,hpd,hpsel⟩:=hp
      obtain ⟨aA,kA,rfl,_⟩:=id hpa.form
      obtain ⟨aR,kR,rfl,_⟩:=id hpR.form
      obtain ⟨aU,kU,rfl,_⟩:=id hpu.form
      obtain ⟨aD,kD,rfl,_⟩:=id hpd.form
      obtain ⟨aS,kS,rfl,_⟩:=id hpsel.form
      refine cK<|xT<|cS<|cB<|cQ<|sV (vI (k:=i) Z Z oV Z hlt Z)<|sV (af Z qB Z hprd) ?_
      refine ax vC λb29=>?_
      refine ai Z Z sF Z Z ?_
      have hΦ : Φ (p.red.flatMap (S.f5a p)++A) r:=hΦ
      refine sK [1,2,29,233,234,235] Z<|cQ<|sV (vF Z wL Z)<|sV (vY Z fG) ?_
      refine sV (aF Z underlying40)<|sM Z<|sK [1,2,29,233,234,235,240,241,242] Z<|cB<|aZ (σ := Res×Res×Nat) (λq=>[(1,.func (.yield yl) #[] #[]),(2,.pointer (some ⟨b2,0,none⟩)),(233,.slice (some ⟨pb,po,none⟩) S.c.pars.length ck),(234,.int .i64 S.c.pars.length),(235,.int .i64 (i:Nat)),(29,.pointer (some ⟨b29,0,none⟩)),(240,.slice aD p.red.length kD),(241,.int .i64 p.red.length),(242,.int .i64 (q.2.2:Nat))]) (λq=>pt b29 (cl [sv p.name,.slice aA p.args.length kA,.slice aR p.ren.length kR,.slice aU p.und.length kU,.slice aD p.red.length kD,.slice aS p.sel.length kS] 88)::pt b2 (cl [v,.map (some mb),sv S.c.name,.bool S.c.dfd,ca,.slice (some ⟨pb,po,none⟩) S.c.pars.length ck,ce,.slice cf S.c.feats.length cfk,ci,.slice mA S.ms.length mK,.map (some bm),.bool all] 206)::q.1::mps mb m::mps bm bmp::q.2.1::hr) (λq=>Ext Y q.1/\q.2.2≤p.red.length /\ Φ ((p.red.drop q.2.2).flatMap (S.f5a p)++A) q.2.1) (λq=>p.red.length - q.2.2) (Y,r,0) ⟨Ext.refl Y,Nat.zero_le _,hΦ⟩ ?_
      clear hΦ
      rintro ⟨Zq,r,j⟩ ⟨hE2,hj,hΦ⟩
      simp only at hE2 hj hΦ
      dsimp only
      refine cQ<|sV (aN Z Z)<|sN<|nT<|cS<|cC Z (λhd2=>?_)<|λhd2=>?_
      ·have hltj:j<p.red.length:=Zw
       rw [eu hltj,List.append_assoc] at hΦ
       have hEZ:=hE.trans hE2
       obtain ⟨nb,no,ncap,nus,e2,hnus,hnrd,hn⟩:=(hpd.up hE2).at<|Zy hltj
       obtain ⟨rfl,rfl⟩:aD=some ⟨nb,no,none⟩/\kD=ncap:=by cases e2; exact ⟨rfl,rfl⟩
       generalize p.red[j]=x at hΦ hn
       subst hn
       refine cK<|xT<|cS<|cB<|cQ<|sV (vI (k:=j) Z Z jv Z hltj Z)<|sV (vY Z ld9 (ha:=⟨_,_,slq,hnrd 0<|by simp⟩)) ?_
       refine sA Z<|sK [1,2,29,31,233,234,235,240,241,242] Z<|cQ<|sV (vF Z gV Z)<|sV (vF Z kG Z)<|sV (vY Z yu) ?_
       refine sM Z<|aH Z Z xL Z (ja (n:=x)<|hK.feat.up hEZ) ?_
       rintro u h' ⟨rfl,gus,rfl,hgr⟩
       simp only [lC,lN]
       have hg15:gus.length=15:=Enc.len hgr
       have hgo:=Enc.ones hgr
       refine sM Z<|sV (ag Z Z)<|sV (ag Z Z) (ax lL λb32=>?_)
       refine ai (hl:=by rw [hg15]; rfl) Z Z jW hg15 hgo ?_
       refine sA Z<|sK [1,2,29,31,33,233,234,235,240,241,242] Z<|cQ<|sM Z<|sV (bi Z)<|sM Z ?_
       have hmf:(S.c.feats.find? λc=>c.name == x)=feat S.c x:=rfl
       rw [hmf]
       unfold Sk.f5a at hΦ
       cases hq:feat S.c x
       ·rw [hq] at hΦ
        have hΦ2 : Φ (S.cf 5 x ⟨p.name,x⟩ og0::((p.red.drop (j+1)).flatMap (S.f5a p)++A)) r:=hΦ
        refine sG Z Z (vM Z)<|sG Z Z (af Z fT Z ah) ?_
        refine sG Z Z (vM Z)<|sG Z Z (vF Z gT Z)<|sG Z Z (vY Z ld9) ?_
        refine sG Z Z (vM Z)<|sG Z Z (aQ (cells:=[sv p.name,sv x]) Z<|λ_=>Zz) ?_
        refine sG Z Z (aQ (cells:=[sv [],sv []]) Z<|λ_=>Zz) ?_
        refine bR Z Z Z Z jZ Z (hcn 5 x ⟨p.name,x⟩ og0) ?_
        refine kw (gd:=256) (.inr ⟨_,_,Z,Z,Z⟩) Z Z (hy _ _ _ hΦ2) ?_
        rintro u h' (⟨rfl,r',hΦ4,rfl⟩ | ⟨rfl,r',hst,rfl⟩)
        ·simp only [lC,lN]
         refine sG Z Z (bi Z)<|sV (vQ Z Z)<|sK [1,2,29,233,234,235,240,241,242,268] Z<|aG Z ?_
         refine cK<|xB<|xT<|cR<|sV (aI Z Z Z6)<|sM Z<|sN<|nK [1,2,29,233,234,235,240,241,242] Z<|au ?_
         refine aM (Zq,r',j+1) ⟨hE2,hltj,hΦ4⟩ (by dsimp only; omega)
        ·simp only [lC,lN]
         refine sG Z Z (bi Z)<|sV (vQ Z Z)<|sK [1,2,29,233,234,235,240,241,242,268] Z<|aT Z ?_
         refine cQ<|sA Z<|sK [4] Z<|cT<|xW<|xR<|xR<|xW<|xW<|xR<|xR<|xW<|xR ?_
         exact aj Z ⟨Zq,[mps mb m,mps bm bmp,r'],Z,hEZ,r',Z,.inr ⟨Z,_,hst⟩⟩ sbq
       ·rw [hq] at hΦ
        have hΦ : Φ ((p.red.drop (j+1)).flatMap (S.f5a p)++A) r:=hΦ
        iterate 11 refine aC rfl rfl rfl ?_
        refine sV (vP Z Z)<|sK [1,2,29,233,234,235,240,241,242,268] Z<|aG Z ?_
        refine cK<|xB<|xT<|cR<|sV (aI Z Z Z6)<|sM Z<|sN<|nK [1,2,29,233,234,235,240,241,242] Z<|au ?_
        refine aM (Zq,r,j+1) ⟨hE2,hltj,hΦ⟩ (by dsimp only; omega)
      ·have hje:j=p.red.length:=Nat.le_antisymm hj<|Nat.not_lt.1 Zw
       subst hje
       rw [dL,List.nil_append] at hΦ
       refine aB<|xE<|xE<|xY<|xB<|xT<|cR<|sV (aI Z Z Z6)<|sM Z<|sN<|nK [1,2,233,234,235] Z<|au ?_
       refine aM (Zq,r,i+1) ⟨hE.trans hE2,hlt,by rw [hA]; exact hΦ⟩ (by dsimp only; omega)
     ·have hie:i=S.c.pars.length:=Nat.le_antisymm hi<|Nat.not_lt.1 Zx
      subst hie
      rw [dL,List.nil_append] at hΦ
      refine aB<|xE<|xE<|xY<|xT<|cQ<|sA Z<|sK [4] Z<|cT ?_
      exact aj Z ⟨Y,[mps mb m,mps bm bmp,r],Z,hE,r,Z,.inl ⟨Z,hΦ⟩⟩ sbq
end
end Go.Fl
namespace Go.Fl
open Go Go.RowKit Go.Ck Go.Proofs Go.Proofs.Tryz Go.Proofs.YtknmacdbffgjgaaGreatDoor Fx Go.Hr
namespace Sk
section
variable (s:Sk)
def rx (k:Nat) (n:Nm) (x:Cm):List Cf:=match feat s.c n with
 | none=>[]
 | some f=>if s.redK f x k then [s.cf (6+k) n x.og og0] else []
def rn (k:Nat) (n:Nm):List Cf:=(under s.cs n).flatMap (s.rx k n)
def rk (k:Nat):List Cf:=s.skeys.flatMap (s.rn k)
theorem redeclared_eq:s.redeclared=[0,1,2].flatMap s.rk:=by
 unfold redeclared
 refine dH λk _=>dH λn _=>?_
 unfold rn rx
 cases feat s.c n with
 | none=>simp
 | some f=>rfl
theorem keys_few {s:Sk} (hB:SkB s):(keys s.cs).length≤240:=Nat.le_trans (AL s.cs) (hB.fits.few<|.inl hB.cls)
theorem skeys_len (s:Sk):s.skeys.length=(keys s.cs).length:=Nat.le_antisymm
 (aW (iN _).1.nodup λx hx=>((iN _).2 x).1 hx) (aW (iq _) λx hx=>((iN _).2 x).2 hx)
end
end Sk
def kcap (b:Nat) (k:Nat):Array Value:=if k=1 then #[.pointer (some ⟨b,0,none⟩)] else #[]
def kfun (b k:Nat):Value:=.func (.func (209+k)) #[] (kcap b k)
theorem kfun_at {b k:Nat} (h:k<3):([Value.func (.func 209) #[] #[],.func (.func 210) #[] #[.pointer (some ⟨b,0,none⟩)],.func (.func 211) #[] #[]]:List Value)[k]? = some (kfun b k):=by
 match k,h with
 | 0,_=>rfl
 | 1,_=>rfl
 | 2,_=>rfl
theorem en209k {k:Nat} (h:k<3):Ck.Enters prog (209+k):=by
 match k,h with
 | 0,_=>exact en209
 | 1,_=>exact en210
 | 2,_=>exact en211
attribute [local irreducible] Go.Ck.Sub St Cd Xt Nx DrL LsW
section
variable {X Y:Res} {v v':Value} {us us':List Value}
theorem redK_ct {S:Sk} {f:Fe} {x:Cm} {p:Pt} {b2 k:Nat} {pv:Value} (hk:k<3) (h:Enc.rep X us f) (h':Enc.rep X us' x) (hrd:Rd X ⟨b2,5,none⟩ pv) (hpv:Ls X pv S.c.pars) (hp:S.c.pars[x.par]? = some p) (hl:p.red.length≤1099511627776) :
  Reads prog (209+k) (#[]++([.agg us.toArray,.agg us'.toArray]:List Value).toArray++kcap b2 k) [X] (.bool<|S.redK f x k):=by
 have hpx:dG S.c x.par=p:=by unfold dG; rw [hp]; rfl
 match k,hk with
 | 0,_=>exact reads_nil (Ju h h')
 | 1,_ =>
  have:=JA h h' hrd hpv hp hl
  unfold Sk.redK
  rw [hpx]
  exact this
 | 2,_=>exact Jv h h'

theorem Bo {yl mb bm : Nat} {Φ : List Cf -> Res -> Prop} {Stop : Cf -> Res -> Prop} (hy : Yh yl Φ Stop) {S : Sk} {all : Bool} (hall : S.all = all) {m bmp : List (Nm × Value)} {ca cb ce cf ci mv : Value} (hK : SkR X S v m ca cb ce cf ci mv bmp) (hB : SkB S) (hk0 : bmp.map (λp => p.1) = keys S.cs) (R : List Cf) (r0 : Res) (h0 : Φ (S.redeclared ++ R) r0) :
  CtX prog 129 #[.agg (fu v (.map<|some mb) S.c ca cb ce cf ci mv (.map<|some bm) all).toArray,.func (.yield yl) #[] #[]] X [mps mb m,mps bm bmp,r0] λu Y k'=>∃ r,k'=[mps mb m,mps bm bmp,r]/\Yend Φ Stop R u r:=by
 have hml:maxLen=9223372036854775807:=rfl
 obtain ⟨cb,ck,rfl,hckl,hckm,_⟩:=id hK.par.form
 obtain ⟨cf,cfk,rfl,_⟩:=id hK.feat.form
 obtain ⟨mA,mK,rfl,_⟩:=id hK.ms.form
 have hcn:=λb=>gD (fv:=.map<|some mb) (c:=S.c) (v:=v) (ca:=ca) (cb:=.slice cb S.c.pars.length ck) (ce:=ce) (cf:=.slice cf S.c.feats.length cfk) (ci:=ci) (mv:=.slice mA S.ms.length mK) (bv:=.map<|some bm) (all:=all) b
 have hfew:=Sk.keys_few hB
 have hsl:=Sk.skeys_len S
 have hbl:bmp.length=(keys S.cs).length:=by rw [<- hk0,List.length_map]
 have hnd:(bmp.map λp=>p.1).Nodup:=by rw [hk0]; exact iq _
 have hsk:srt (bmp.map λp=>p.1)=S.skeys:=by rw [hk0]; rfl
 rw [Sk.redeclared_eq] at h0
 unfold CtX
 unfold fu at *
 refine aL (n:=72) func129 Z Z (len Z) λhr w0=>?_
 refine cQ (aV Z Z λb2=>?_)
 refine sA Z<|sK [1,2,4] Z<|cQ<|sV (bW Z Z) (ak (cells:=[.func (.func 209) #[] #[],.func (.func 210) #[] #[.pointer (some ⟨b2,0,none⟩)],.func (.func 211) #[] #[]]) Z underlying282 inf281 Z Z Zz (ltn Z) λb15=>?_)
 refine sA Z<|sK [1,2,4,5] Z<|cS<|cQ<|sM Z<|sV (aF Z underlying282)<|sM Z<|sK [1,2,4,16,17,18] Z<|cB<|aZ (σ := Res×Nat) (λq=>[(1,.func (.yield yl) #[] #[]),(2,.pointer (some ⟨b2,0,none⟩)),(16,.slice (some ⟨b15,0,none⟩) 3 3),(17,.int .i64 ((3:Nat):Int)),(18,.int .i64 (q.2:Nat))]) (λq=>pt b15 (cl [.func (.func 209) #[] #[],.func (.func 210) #[] #[.pointer (some ⟨b2,0,none⟩)],.func (.func 211) #[] #[]] 281)::pt b2 (cl [v,.map (some mb),sv S.c.name,.bool S.c.dfd,ca,.slice cb S.c.pars.length ck,ce,.slice cf S.c.feats.length cfk,ci,.slice mA S.ms.length mK,.map (some bm),.bool all] 206)::X::mps mb m::mps bm bmp::q.1::hr) (λq=>q.2≤3 /\ Φ (([0,1,2].drop q.2).flatMap S.rk++R) q.1) (λq=>3 - q.2) (r0,0) ⟨Nat.zero_le _,h0⟩ ?_
 rintro ⟨r,k⟩ ⟨hk,hΦ⟩
 simp only at hk hΦ
 dsimp only
 refine cQ<|sV (aN Z Z)<|sN<|nT<|cS<|cC Z (λhd=>?_)<|λhd=>?_
 ·have hlt:k<3:=by have:=of_decide_eq_true hd; omega
  rw [eu (xs:=[0,1,2]) hlt,List.append_assoc] at hΦ
  have hk3:([0,1,2]:List Nat)[k]=k:=by
   match k,hlt with
   | 0,_=>rfl
   | 1,_=>rfl
   | 2,_=>rfl
  rw [hk3] at hΦ
  generalize hA:([0,1,2].drop (k+1)).flatMap S.rk++R=A at hΦ
  have hΦ : Φ (S.skeys.flatMap (S.rn k)++A) r:=hΦ
  have hsk':=kfun_at (b:=b2) hlt
  refine cK<|xT<|cS<|cB<|cQ<|sM Z<|sV (vI (k:=k) Z Z sl282 Z hlt Z)<|sV (vY Z ld281 (ha:=⟨_,_,slq,bU<|by simpa using hsk'⟩)) ?_
  refine sA Z<|sA Z<|sK [1,2,6,7,16,17,18] Z<|cQ<|sV (vF Z o9 Z)<|sV (vY Z qW) ?_
  refine aH Z Z en213 Z (uC) ?_
  rintro u h' ⟨b1,rfl,rfl⟩
  simp only [lC,lN]
  refine aH Z Z en212 Z (p9 (by omega) hnd) ?_
  rintro u h' ⟨hu,rfl⟩
  simp only [lC,lN]
  rw [hsk]
  unfold NR
  refine jD (v:=u) (E:=9) (sz:=1) (rows:=S.skeys.map nC) slq λwa wc hwf hwl hwm=>?_
  rw [List.length_map] at hwf hwl
  subst hwf
  unfold kfun
  refine sV (aF Z underlying40)<|sM Z<|sK [1,2,6,7,16,17,18,26,27,28] Z<|cB<|aZ (σ := Res×Nat) (λq=>[(1,.func (.yield yl) #[] #[]),(2,.pointer (some ⟨b2,0,none⟩)),(16,.slice (some ⟨b15,0,none⟩) 3 3),(17,.int .i64 ((3:Nat):Int)),(18,.int .i64 (k:Nat)),(6,.int .i64 (k:Nat)),(7,.func (.func (209+k)) #[] (kcap b2 k)),(26,.slice wa S.skeys.length wc),(27,.int .i64 S.skeys.length),(28,.int .i64 (q.2:Nat))]) (λq=>VR (.slice wa S.skeys.length wc) 9 1 (S.skeys.map nC)::pt b15 (cl [.func (.func 209) #[] #[],.func (.func 210) #[] #[.pointer (some ⟨b2,0,none⟩)],.func (.func 211) #[] #[]] 281)::pt b2 (cl [v,.map (some mb),sv S.c.name,.bool S.c.dfd,ca,.slice cb S.c.pars.length ck,ce,.slice cf S.c.feats.length cfk,ci,.slice mA S.ms.length mK,.map (some bm),.bool all] 206)::X::mps mb m::mps bm bmp::q.1::hr) (λq=>q.2≤S.skeys.length /\ Φ ((S.skeys.drop q.2).flatMap (S.rn k)++A) q.1) (λq=>S.skeys.length - q.2) (r,0) ⟨Nat.zero_le _,hΦ⟩ ?_
  clear hΦ
  rintro ⟨r,j⟩ ⟨hj,hΦ⟩
  simp only at hj hΦ
  dsimp only
  refine cQ<|sV (aN Z Z)<|sN<|nT<|cS<|cC Z (λhd2=>?_)<|λhd2=>?_
  ·have hltj:j<S.skeys.length:=Zw
   rw [eu hltj,List.append_assoc] at hΦ
   have hnx:(S.skeys.map nC)[j]? = some [sv S.skeys[j]]:=by rw [List.getElem?_map,Zy hltj]; rfl
   refine fw (r:=VR (.slice wa S.skeys.length wc) 9 1<|S.skeys.map nC) slq λhok=>?_
   obtain ⟨ab,ao,rfl⟩:∃ ab ao,wa=some ⟨ab,ao,none⟩:=by
    obtain ⟨f0,hf0⟩:=hok
    rcases VR.form hf0 with ⟨h3,h4⟩ | ⟨b,o,cp,h3,-⟩
    ·have:=List.map_eq_nil_iff.1 h4
     rw [this] at hltj; simp at hltj
    ·rw [List.length_map] at h3; cases h3; exact ⟨b,o,rfl⟩
   generalize S.skeys[j]=n at hΦ hnx
   generalize hA2:(S.skeys.drop (j+1)).flatMap (S.rn k)++A=A2 at hΦ
   have hΦ : Φ ((under S.cs n).flatMap (S.rx k n)++A2) r:=hΦ
   have hul:=hB.under n
   have hun:=hK.by' n
   have hpar:∀ x∈under S.cs n,∃ p,S.c.pars[x.par]? = some p/\p.red.length≤1099511627776:=λx hx=>by
    obtain ⟨p,hp,-⟩:=jq (List.mem_filter.1 hx).1
    exact ⟨p,hp,by have:=(hB.lists<|List.mem_of_getElem? hp).2.2.1; omega⟩
   obtain ⟨la,lc,hlv,hlc,-,-⟩:=id hun.form
   refine cK<|xT<|cS<|cB<|cQ<|sV (vI (k:=j) Z Z jv Z hltj Z)<|sV (vY Z ld9 (ha:=⟨_,_,slq,dN hnx 0<|by simp⟩)) ?_
   refine sA Z<|sK [1,2,6,7,9,16,17,18,26,27,28] Z<|cQ<|sV (vF Z gV Z)<|sV (vF Z kG Z)<|sV (vY Z yu) ?_
   refine sM Z<|aH Z Z xL Z (ja (n:=n) hK.feat) ?_
   rintro u h' ⟨rfl,gus,rfl,hgr⟩
   simp only [lC,lN]
   have hg15:gus.length=15:=Enc.len hgr
   have hgo:=Enc.ones hgr
   refine sM Z<|sV (ag Z Z)<|sV (ag Z Z) (ax lL λb10=>?_)
   refine ai (hl:=by rw [hg15]; rfl) Z Z jW hg15 hgo ?_
   have hmf:(S.c.feats.find? λc=>c.name == n)=feat S.c n:=rfl
   rw [hmf]
   rw [hmf] at hgr
   refine sA Z<|sK [1,2,6,7,9,10,11,16,17,18,26,27,28] Z<|cQ<|sV (vF Z o9 Z)<|sV (vY Z qW) ?_
   refine sM Z ?_
   rw [hlv] at hun
   refine sV (gG hlv<|bI Z Z sQ tL slq) ?_
   refine sV (aF Z underlying187)<|sM Z<|sK [1,2,6,7,9,10,11,16,17,18,26,27,28,43,44,45] Z<|cB<|aZ (σ := Res×Nat) (λq=>[(1,.func (.yield yl) #[] #[]),(2,.pointer (some ⟨b2,0,none⟩)),(16,.slice (some ⟨b15,0,none⟩) 3 3),(17,.int .i64 ((3:Nat):Int)),(18,.int .i64 (k:Nat)),(6,.int .i64 (k:Nat)),(7,.func (.func (209+k)) #[] (kcap b2 k)),(26,.slice (some ⟨ab,ao,none⟩) S.skeys.length wc),(27,.int .i64 S.skeys.length),(28,.int .i64 (j:Nat)),(9,sv n),(10,.pointer (some ⟨b10,0,none⟩)),(11,.bool (feat S.c n).isSome),(43,.slice la (under S.cs n).length lc),(44,.int .i64 (under S.cs n).length),(45,.int .i64 (q.2:Nat))]) (λq=>pt b10 (cl gus 130)::VR (.slice (some ⟨ab,ao,none⟩) S.skeys.length wc) 9 1 (S.skeys.map nC)::pt b15 (cl [.func (.func 209) #[] #[],.func (.func 210) #[] #[.pointer (some ⟨b2,0,none⟩)],.func (.func 211) #[] #[]] 281)::pt b2 (cl [v,.map (some mb),sv S.c.name,.bool S.c.dfd,ca,.slice cb S.c.pars.length ck,ce,.slice cf S.c.feats.length cfk,ci,.slice mA S.ms.length mK,.map (some bm),.bool all] 206)::X::mps mb m::mps bm bmp::q.1::hr) (λq=>q.2≤(under S.cs n).length /\ Φ (((under S.cs n).drop q.2).flatMap (S.rx k n)++A2) q.1) (λq=>(under S.cs n).length - q.2) (r,0) ⟨Nat.zero_le _,hΦ⟩ ?_
   clear hΦ
   generalize hL:under S.cs n=L at hun hpar hul
   rintro ⟨r,i⟩ ⟨hi,hΦ⟩
   simp only at hi hΦ
   dsimp only
   refine cQ<|sV (aN Z Z)<|sN<|nT<|cS<|cC Z (λhd3=>?_)<|λhd3=>?_
   ·have hlti:i<L.length:=Zr
    rw [eu hlti,List.append_assoc] at hΦ
    have hpx:=hpar _<|List.getElem_mem hlti
    obtain ⟨cb',co,ccap,cus,e4,hcus,hcrd,hcr⟩:=hun.at<|Zy hlti
    obtain ⟨rfl,rfl⟩:la=some ⟨cb',co,none⟩/\lc=ccap:=by cases e4; exact ⟨rfl,rfl⟩
    generalize L[i]=y at hΦ hcr hpx
    obtain ⟨p,hpp,hprl⟩:=hpx
    have hcr0:=hcr
    have hyo:=Enc.ones hcr
    obtain ⟨y2,y5,yy,y11,y12,y13,rfl,-⟩:=iC hcr
    have hogy:=λb=>nD (b:=b) (x:=y) (x2:=y2) (x5:=y5) (y:=yy) (x11:=y11) (x12:=y12) (x13:=y13)
    unfold oJ at *
    refine cK<|xT<|cS<|cB<|cQ<|sV (vI (k:=i) Z Z lJ Z hlti Z)<|sV (af Z ik Z hcrd) ?_
    refine ax qY λb13=>?_
    refine ai Z Z mH Z hyo ?_
    refine sK [1,2,6,7,9,10,11,13,16,17,18,26,27,28,43,44,45] Z<|cQ<|sM Z<|sM Z ?_
    cases hq:feat S.c n
    ·have hrx:S.rx k n y=[]:=by unfold Sk.rx; rw [hq]
     rw [hrx,List.nil_append] at hΦ
     iterate 4 refine aC rfl rfl rfl ?_
     refine sV (vP Z Z)<|sM Z<|aC Z Z Z ?_
     iterate 10 refine aC rfl rfl rfl ?_
     refine sV (vP Z Z)<|sK [1,2,6,7,9,10,11,16,17,18,26,27,28,43,44,45,68] Z<|aG Z ?_
     refine cK<|xB<|xT<|cR<|sV (aI Z Z Z6)<|sM Z<|sN<|nK [1,2,6,7,9,10,11,16,17,18,26,27,28,43,44,45] Z<|au ?_
     refine aM (r,i+1) ⟨hlti,hΦ⟩ (by dsimp only; omega)
    ·rename_i f
     have hrx:S.rx k n y=if S.redK f y k then [S.cf (6+k) n y.og og0] else []:=by unfold Sk.rx; rw [hq]
     rw [hrx] at hΦ
     have hgr:Enc.rep X gus f:=by rw [hq] at hgr; exact hgr
     have hrk:=redK_ct (b2:=b2) hlt (Enc.up (bH<|.there .here) hgr) (Enc.up (bH<|.there .here) hcr0) (X:=Res.star [pt b2 (cl [v,.map (some mb),sv S.c.name,.bool S.c.dfd,ca,.slice cb S.c.pars.length ck,ce,.slice cf S.c.feats.length cfk,ci,.slice mA S.ms.length mK,.map (some bm),.bool all] 206),X]) (bH .here _ _<|bU rfl) (hK.par.up'<|bH<|.there .here) hpp hprl
     have hrk:=eG hrk
     unfold oJ at hrk
     refine sG Z Z (vM Z)<|sG Z Z (af Z om hg15 ah) ?_
     refine sG Z Z (af Z ik Z ah) ?_
     refine bR Z Z Z Z (en209k hlt) Z (hrk) ?_
     refine sV (vQ Z Z)<|sM Z ?_
     generalize S.redK f y k=bq at hΦ
     cases bq
     ·have hΦ : Φ ((L.drop (i+1)).flatMap (S.rx k n)++A2) r:=hΦ
      iterate 11 refine aC rfl rfl rfl ?_
      refine sV (vP Z Z)<|sK [1,2,6,7,9,10,11,16,17,18,26,27,28,43,44,45,68] Z<|aG Z ?_
      refine cK<|xB<|xT<|cR<|sV (aI Z Z Z6)<|sM Z<|sN<|nK [1,2,6,7,9,10,11,16,17,18,26,27,28,43,44,45] Z<|au ?_
      refine aM (r,i+1) ⟨hlti,hΦ⟩ (by dsimp only; omega)
     ·have hΦ2 : Φ (S.cf (6+k) n y.og og0::((L.drop (i+1)).flatMap (S.rx k n)++A2)) r:=hΦ
      refine sG Z Z (vM Z)<|sG Z Z (af Z fT Z ah) ?_
      refine sG Z Z (vM Z)<|sG Z Z (aI Z Z Z6)<|sG Z Z (vM Z)<|sG Z Z (vF Z jA Z)<|sG Z Z (af Z qz Z (hogy b13) (s:=.here)) ?_
      refine sG Z Z (aQ (cells:=[sv [],sv []]) Z<|λ_=>Zz) ?_
      refine bR Z Z Z Z jZ Z (hcn (6+(k:Nat)) n y.og og0) ?_
      refine kw (gd:=56) (.inr ⟨_,_,Z,Z,Z⟩) Z Z (hy _ _ _ hΦ2) ?_
      rintro u h' (⟨rfl,r',hΦ4,rfl⟩ | ⟨rfl,r',hst,rfl⟩)
      ·simp only [lC,lN]
       refine sG Z Z (bi Z)<|sV (vQ Z Z)<|sK [1,2,6,7,9,10,11,16,17,18,26,27,28,43,44,45,68] Z<|aG Z ?_
       refine cK<|xB<|xT<|cR<|sV (aI Z Z Z6)<|sM Z<|sN<|nK [1,2,6,7,9,10,11,16,17,18,26,27,28,43,44,45] Z<|au ?_
       refine aM (r',i+1) ⟨hlti,hΦ4⟩ (by dsimp only; omega)
      ·simp only [lC,lN]
       refine sG Z Z (bi Z)<|sV (vQ Z Z)<|sK [1,2,6,7,9,10,11,16,17,18,26,27,28,43,44,45,68] Z<|aT Z ?_
       refine cQ<|sA Z<|sK [4] Z<|cT<|xW<|xR<|xR<|xW<|xW<|xR<|xR<|xW<|xW ?_
       refine xR<|xR<|xW<|xR ?_
       exact aj Z ⟨X,[mps mb m,mps bm bmp,r'],Z,Ext.refl X,r',Z,.inr ⟨Z,_,hst⟩⟩ sbq
   ·have hend:i=L.length:=Nat.le_antisymm hi<|Nat.not_lt.1 Zr
    subst hend
    rw [dL,List.nil_append] at hΦ
    refine aB<|xE<|xE<|xY<|xB<|xT<|cR<|sV (aI Z Z Z6)<|sM Z<|sN<|nK [1,2,6,7,16,17,18,26,27,28] Z<|au ?_
    refine aM (r,j+1) ⟨hltj,by rw [hA2]; exact hΦ⟩ (by dsimp only; omega)
  ·have hend:j=S.skeys.length:=Nat.le_antisymm hj<|Nat.not_lt.1 Zw
   subst hend
   rw [dL,List.nil_append] at hΦ
   refine aB<|xE<|xE<|xY<|xB<|xT<|cR<|sV (aI Z Z Z6)<|sM Z<|sN<|nK [1,2,16,17,18] Z<|au ?_
   refine aM (r,k+1) ⟨hlt,by rw [hA]; exact hΦ⟩ (by dsimp only; omega)
 ·have hend:k=3:=by have:=of_decide_eq_false hd; omega
  subst hend
  have hΦ : Φ R r:=hΦ
  refine aB<|xE<|xE<|xY<|xT<|cQ<|sA Z<|sK [4] Z<|cT ?_
  exact aj Z ⟨X,[mps mb m,mps bm bmp,r],Z,Ext.refl X,r,Z,.inl ⟨Z,hΦ⟩⟩ sbq
end
end Go.Fl
namespace Go.Ck
open Go Go.RowKit
theorem v_bneq {P:Program} {e:Env} {h:SH} {ty t t':TypeId} {x y:Operand} {a b:Bool} (hT:P.underlying t=some .bool) (hx:e.ev? x=some (.bool a)) (hy:e.ev? y=some (.bool b)):Vop P e h (.binOp .neq t x y t') ty (.bool (a != b)):=
 ⟨by simp,by simp,λρ w d pos after g hρ _=>by simp [execOp,hρ x _ hx,hρ y _ hy,eqGuard,binOp,bne,run_equal_bool w t a b hT]⟩
end Go.Ck
namespace Go.Fl
open Go Go.RowKit Go.Ck Go.Proofs Go.Proofs.Tryz Go.Proofs.YtknmacdbffgjgaaGreatDoor Fx Go.Hr
namespace Sk
section
variable (s:Sk)
def t1x (n:Nm) (x:Cm):List Cf:=match feat s.c n with
 | none=>let y:=((under s.cs n).head?).getD x
  if sameTy y.mem x.mem then [] else [s.cf 9 n y.og x.og]
 | some f=>if decide (f.args=x.mem.args) && ((f.ty.kind == 0) == (x.mem.ty.kind == 0)) then [] else [s.cf 9 n ⟨[],n⟩ x.og]
def t1 (n:Nm):List Cf:=(under s.cs n).flatMap (s.t1x n)
def t2 (n:Nm):List Cf:=if (feat s.c n).isSome then [] else s.cpairs (under s.cs n) 10 λa b=>(!a.dfd && !b.dfd) && !same a.mem b.mem
theorem typed_eq:s.typed=s.skeys.flatMap s.t1++s.skeys.flatMap s.t2:=rfl
end
end Sk
attribute [local irreducible] Go.Ck.Sub St Cd Xt Nx DrL LsW
section
variable {X Y:Res} {v v':Value} {us us':List Value}

theorem OT {yl mb bm : Nat} {Φ : List Cf -> Res -> Prop} {Stop : Cf -> Res -> Prop} (hy : Yh yl Φ Stop) {S : Sk} {all : Bool} (hall : S.all = all) {m bmp : List (Nm × Value)} {ca cb ce cf ci mv : Value} (hK : SkR X S v m ca cb ce cf ci mv bmp) (hB : SkB S) (hk0 : bmp.map (λp => p.1) = keys S.cs) (R : List Cf) (r0 : Res) (h0 : Φ (S.typed ++ R) r0) :
  CtX prog 130 #[.agg (fu v (.map<|some mb) S.c ca cb ce cf ci mv (.map<|some bm) all).toArray,.func (.yield yl) #[] #[]] X [mps mb m,mps bm bmp,r0] λu Y k'=>∃ r,k'=[mps mb m,mps bm bmp,r]/\Yend Φ Stop R u r:=by
 have hml:maxLen=9223372036854775807:=rfl
 obtain ⟨cb,ck,rfl,hckl,hckm,_⟩:=id hK.par.form
 obtain ⟨cf,cfk,rfl,_⟩:=id hK.feat.form
 obtain ⟨mA,mK,rfl,_⟩:=id hK.ms.form
 have hcn:=λb=>gD (fv:=.map<|some mb) (c:=S.c) (v:=v) (ca:=ca) (cb:=.slice cb S.c.pars.length ck) (ce:=ce) (cf:=.slice cf S.c.feats.length cfk) (ci:=ci) (mv:=.slice mA S.ms.length mK) (bv:=.map<|some bm) (all:=all) b
 have hfew:=Sk.keys_few hB
 have hsl:=Sk.skeys_len S
 have hbl:bmp.length=(keys S.cs).length:=by rw [<- hk0,List.length_map]
 have hnd:(bmp.map λp=>p.1).Nodup:=by rw [hk0]; exact iq _
 have hsk:srt (bmp.map λp=>p.1)=S.skeys:=by rw [hk0]; rfl
 rw [Sk.typed_eq,List.append_assoc] at h0
 generalize hT:S.skeys.flatMap S.t2++R=T at h0
 unfold CtX
 unfold fu at *
 refine aL (n:=120) func130 Z Z (len Z) λhr w0=>?_
 refine cQ (aV Z Z λb2=>?_)
 refine sA Z<|sK [1,2,4] Z<|cS<|cQ<|sV (vF Z o9 Z)<|sV (vY Z qW) ?_
 refine aH Z Z en213 Z (uC) ?_
 rintro u h' ⟨b1,rfl,rfl⟩
 simp only [lC,lN]
 refine aH Z Z en212 Z (p9 (by omega) hnd) ?_
 rintro u h' ⟨hu,rfl⟩
 simp only [lC,lN]
 rw [hsk]
 unfold NR
 refine jD (v:=u) (E:=9) (sz:=1) (rows:=S.skeys.map nC) slq λwa wc hwf hwl hwm=>?_
 rw [List.length_map] at hwf hwl
 subst hwf
 refine sV (aF Z underlying40)<|sM Z<|sK [1,2,4,21,22,23] Z<|cB<|aZ (σ := Res×Nat) (λq=>[(1,.func (.yield yl) #[] #[]),(2,.pointer (some ⟨b2,0,none⟩)),(21,.slice wa S.skeys.length wc),(22,.int .i64 S.skeys.length),(23,.int .i64 (q.2:Nat))]) (λq=>VR (.slice wa S.skeys.length wc) 9 1 (S.skeys.map nC)::pt b2 (cl [v,.map (some mb),sv S.c.name,.bool S.c.dfd,ca,.slice cb S.c.pars.length ck,ce,.slice cf S.c.feats.length cfk,ci,.slice mA S.ms.length mK,.map (some bm),.bool all] 206)::X::mps mb m::mps bm bmp::q.1::hr) (λq=>q.2≤S.skeys.length /\ Φ ((S.skeys.drop q.2).flatMap (S.t1)++T) q.1) (λq=>S.skeys.length - q.2) (r0,0) ⟨Nat.zero_le _,h0⟩ ?_
 rintro ⟨r,j⟩ ⟨hj,hΦ⟩
 simp only at hj hΦ
 dsimp only
 refine cQ<|sV (aN Z Z)<|sN<|nT<|cS<|cC Z (λhd2=>?_)<|λhd2=>?_
 ·have hltj:j<S.skeys.length:=Zw
  rw [eu hltj,List.append_assoc] at hΦ
  have hnx:(S.skeys.map nC)[j]? = some [sv S.skeys[j]]:=by rw [List.getElem?_map,Zy hltj]; rfl
  refine fw (r:=VR (.slice wa S.skeys.length wc) 9 1<|S.skeys.map nC) slq λhok=>?_
  obtain ⟨ab,ao,rfl⟩:∃ ab ao,wa=some ⟨ab,ao,none⟩:=by
   obtain ⟨f0,hf0⟩:=hok
   rcases VR.form hf0 with ⟨h3,h4⟩ | ⟨b,o,cp,h3,-⟩
   ·have:=List.map_eq_nil_iff.1 h4
    rw [this] at hltj; simp at hltj
   ·rw [List.length_map] at h3; cases h3; exact ⟨b,o,rfl⟩
  generalize S.skeys[j]=n at hΦ hnx
  generalize hA2:(S.skeys.drop (j+1)).flatMap (S.t1)++T=A2 at hΦ
  have hul:=hB.under n
  have hun:=hK.by' n
  obtain ⟨la,lc,hlv,hlc,-,-⟩:=id hun.form
  rw [hlv] at hun
  have hΦ : Φ ((under S.cs n).flatMap (S.t1x n)++A2) r:=hΦ
  refine cK<|xT<|cS<|cB<|cQ<|sV (vI (k:=j) Z Z jv Z hltj Z)<|sV (vY Z ld9 (ha:=⟨_,_,slq,dN hnx 0<|by simp⟩)) ?_
  refine sA Z<|sK [1,2,6,21,22,23] Z<|cQ<|sV (vF Z o9 Z)<|sV (vY Z qW) ?_
  refine sM Z<|sV (gG hlv<|bI Z Z sQ tL slq) ?_
  refine sA Z<|sK [1,2,6,7,21,22,23] Z<|cQ<|sV (vF Z gV Z)<|sV (vF Z kG Z)<|sV (vY Z yu) ?_
  refine sM Z<|aH Z Z xL Z (ja (n:=n) hK.feat) ?_
  rintro u h' ⟨rfl,gus,rfl,hgr⟩
  simp only [lC,lN]
  have hg15:gus.length=15:=Enc.len hgr
  have hgo:=Enc.ones hgr
  have hmf:(S.c.feats.find? λc=>c.name == n)=feat S.c n:=rfl
  rw [hmf]
  rw [hmf] at hgr
  generalize hf0:(feat S.c n).getD fe0=f0 at hgr
  obtain ⟨g2,g3,gy,g9,g10,g11,g12,g13,g14,rfl,hg2,hg3,-⟩:=nz hgr
  obtain ⟨ga3,gk3,rfl,_⟩:=id hg3.form
  unfold Az at *
  refine sM Z<|sV (ag Z Z)<|sV (ag Z Z) (ax lL λb8=>?_)
  refine ai Z Z jW Z hgo ?_
  refine sA Z<|sK [1,2,6,7,8,9,21,22,23] Z<|cQ<|sM Z<|sV (aF Z underlying187)<|sM Z<|sN<|nT<|cB<|aZ (σ := Res×Nat) (λq=>[(1,.func (.yield yl) #[] #[]),(2,.pointer (some ⟨b2,0,none⟩)),(21,.slice (some ⟨ab,ao,none⟩) S.skeys.length wc),(22,.int .i64 S.skeys.length),(23,.int .i64 (j:Nat)),(6,sv n),(7,.slice la (under S.cs n).length lc),(8,.pointer (some ⟨b8,0,none⟩)),(9,.bool (feat S.c n).isSome),(39,.slice la (under S.cs n).length lc),(40,.int .i64 (under S.cs n).length),(41,.int .i64 (q.2:Nat))]) (λq=>pt b8 (cl [.int .i64 f0.kind,sv f0.name,g2,.slice ga3 f0.args.length gk3,.int .i64 f0.ty.kind,sv f0.ty.name,gy,.bool f0.ty.void,.bool f0.ty.sep,g9,g10,g11,g12,g13,g14] 130)::VR (.slice (some ⟨ab,ao,none⟩) S.skeys.length wc) 9 1 (S.skeys.map nC)::pt b2 (cl [v,.map (some mb),sv S.c.name,.bool S.c.dfd,ca,.slice cb S.c.pars.length ck,ce,.slice cf S.c.feats.length cfk,ci,.slice mA S.ms.length mK,.map (some bm),.bool all] 206)::X::mps mb m::mps bm bmp::q.1::hr) (λq=>q.2≤(under S.cs n).length /\ Φ (((under S.cs n).drop q.2).flatMap (S.t1x n)++A2) q.1) (λq=>(under S.cs n).length - q.2) (r,0) ⟨Nat.zero_le _,hΦ⟩ ?_
  clear hΦ
  have ht1:∀ x,S.t1x n x=match feat S.c n with
    | none=>if Sk.sameTy (((under S.cs n).head?).getD x).mem x.mem then [] else [S.cf 9 n (((under S.cs n).head?).getD x).og x.og]
    | some f=>if decide (f.args=x.mem.args) && ((f.ty.kind == 0) == (x.mem.ty.kind == 0)) then [] else [S.cf 9 n ⟨[],n⟩ x.og]:=λx=>rfl
  generalize hL:under S.cs n=L at hun hul ht1
  rintro ⟨r,i⟩ ⟨hi,hΦ⟩
  simp only at hi hΦ
  dsimp only
  refine cQ<|sV (aN Z Z)<|sN<|nT<|cS<|cC Z (λhd3=>?_)<|λhd3=>?_
  ·have hlti:i<L.length:=Zr
   rw [eu hlti,List.append_assoc] at hΦ
   have h00:0<L.length:=by omega
   obtain ⟨cb',co,ccap,cus,e4,hcus,hcrd,hcr⟩:=hun.at<|Zy hlti
   obtain ⟨rfl,rfl⟩:la=some ⟨cb',co,none⟩/\lc=ccap:=by cases e4; exact ⟨rfl,rfl⟩
   obtain ⟨db',dO,dcap,dus,e5,hdus,hdrd,hdr⟩:=hun.at<|Zy h00
   obtain ⟨rfl,rfl⟩:cb'=db'/\co=dO:=by cases e5; exact ⟨rfl,rfl⟩
   have hhead:∀ x,(L.head?).getD x=L[0]:=λx=>by
    cases L with
    | nil=>simp at h00
    | cons a t=>rfl
   simp only [hhead] at ht1
   generalize L[0]=z at ht1 hdr
   generalize L[i]=y at hΦ hcr
   rw [ht1 y] at hΦ
   have hyo:=Enc.ones hcr
   obtain ⟨y2,y5,yy,y11,y12,y13,rfl,hym⟩:=iC hcr
   obtain ⟨z2,z5,zy,z11,z12,z13,rfl,hzm⟩:=iC hdr
   have hst:=wU (qp hzm)<|qp hym
   have hogz:Rds X cb' (co+0 * 18+0) [sv z.og.par,sv z.og.name]:=bD (k:=0) hdrd rfl
   have hmz:Rds X cb' (co+0 * 18+3) (iB z.mem z2 z5 zy z11 z12 z13):=bD (k:=3) hdrd rfl
   have hmy:=λb=>Js (b:=b) (x:=y) (x2:=y2) (x5:=y5) (y:=yy) (x11:=y11) (x12:=y12) (x13:=y13)
   have hogy:=λb=>nD (b:=b) (x:=y) (x2:=y2) (x5:=y5) (y:=yy) (x11:=y11) (x12:=y12) (x13:=y13)
   obtain ⟨hy2,hy5,-⟩:=id hym
   obtain ⟨ya5,yk5,rfl,_⟩:=id hy5.form
   unfold oJ iB at *
   refine cK<|xT<|cS<|cB<|cQ<|sV (vI (k:=i) Z Z lJ Z hlti Z)<|sV (af Z ik Z hcrd) ?_
   refine ax qY λb11=>?_
   refine ai Z Z mH Z hyo ?_
   refine sK [1,2,6,7,8,9,11,21,22,23,39,40,41] Z<|cS<|bB (ork [(0,2),(1,2),(2,2),(3,1),(4,2),(5,2),(6,2),(7,1),(8,2),(9,1),(10,1),(11,2),(12,0),(13,0),(14,2)] .nil) (λi => !(Nat.beq i 13)) mixed Zz ?_
   refine dV Z (vM Z)<|dV Z (vI (k:=0) Z Z lJ Z h00 Z)<|dV Z (vF Z jA Z)<|bg Z (af Z qz Z hogz) ?_
   refine dV Z (vM Z)<|dV Z (vI (k:=0) Z Z lJ Z h00 Z)<|dV Z (vF Z dW Z)<|bg Z (af Z fB Z hmz) ?_
   refine dV Z (vF Z dW Z)<|bg Z (af Z fB Z<|hmy b11) ?_
   refine gZ Z Z Z Kq Z (hst) ?_
   refine dV Z (bi Z)<|aP Z (ax al24 λb12=>aX ?_)
   refine aP Z<|ai Z Z sz24 Z Z<|aX ?_
   refine dV Z (vA Z)<|bA<|nK [1,2,6,7,8,9,11,12,13,21,22,23,39,40,41] Z<|nT<|cS<|cQ<|sM Z<|sN<|nT ?_
   cases hq:feat S.c n
   ·simp only [hq] at hΦ
    generalize Sk.sameTy z.mem y.mem=bq at hΦ ⊢
    refine aG Z ?_
    refine cK<|xT<|cQ<|sM Z<|sM Z ?_
    cases bq
    ·have hΦ2 : Φ (S.cf 9 n z.og y.og::((L.drop (i+1)).flatMap (S.t1x n)++A2)) r:=hΦ
     refine sG Z Z (vM Z)<|sG Z Z (af Z fT Z ah) ?_
     refine sG Z Z (vM Z)<|sG Z Z (af Z qz Z ah) ?_
     refine sG Z Z (vF Z jA Z)<|sG Z Z (af Z qz Z<|hogy b11) ?_
     refine bR Z Z Z Z jZ Z (hcn 9 n z.og y.og) ?_
     refine kw (gd:=80) (.inr ⟨_,_,Z,Z,Z⟩) Z Z (hy _ _ _ hΦ2) ?_
     rintro u h' (⟨rfl,r',hΦ4,rfl⟩ | ⟨rfl,r',hst,rfl⟩)
     ·simp only [lC,lN]
      refine sG Z Z (bi Z)<|sV (vQ Z Z)<|sK [1,2,6,7,8,9,21,22,23,39,40,41,90] Z<|aG Z ?_
      refine cK<|xB<|xT<|cR<|sV (aI Z Z Z6)<|sM Z<|sN<|nK [1,2,6,7,8,9,21,22,23,39,40,41] Z<|au ?_
      refine aM (r',i+1) ⟨hlti,hΦ4⟩ (by dsimp only; omega)
     ·simp only [lC,lN]
      refine sG Z Z (bi Z)<|sV (vQ Z Z)<|sK [1,2,6,7,8,9,21,22,23,39,40,41,90] Z<|aT Z ?_
      refine cQ<|sA Z<|sK [4] Z<|cT<|xW<|xR<|xR<|xW<|xW<|xR<|xR<|xW<|xR ?_
      exact aj Z ⟨X,[mps mb m,mps bm bmp,r'],Z,Ext.refl X,r',Z,.inr ⟨Z,_,hst⟩⟩ sbq
    ·have hΦ : Φ ((L.drop (i+1)).flatMap (S.t1x n)++A2) r:=hΦ
     iterate 9 refine aC rfl rfl rfl ?_
     refine sV (vP Z Z)<|sK [1,2,6,7,8,9,21,22,23,39,40,41,90] Z<|aG Z ?_
     refine cK<|xB<|xT<|cR<|sV (aI Z Z Z6)<|sM Z<|sN<|nK [1,2,6,7,8,9,21,22,23,39,40,41] Z<|au ?_
     refine aM (r,i+1) ⟨hlti,hΦ⟩ (by dsimp only; omega)
   ·rename_i f
    obtain rfl:f=f0:=by rw [hq] at hf0; exact hf0
    simp only [hq] at hΦ
    refine aT Z ?_
    refine cQ<|sM Z<|sV (aQ (cells:=[sv [],sv n]) Z<|λ_=>Zz) ?_
    refine ai Z Z sz24 Z Z ?_
    refine sK [1,2,6,7,8,9,11,12,13,21,22,23,39,40,41] Z<|cR<|sV (vF Z rW Z)<|sV (vY Z qR) ?_
    refine sV (vF Z dW Z)<|sV (vF Z jL Z)<|sV (vY Z qR) ?_
    refine aY Z Z en215 Z (C8 en216 hg3 hy5<|λa b us us' _ h h'=>Gs h h') ?_
    refine sV (bi Z)<|sM Z ?_
    generalize decide (f.args=y.mem.args)=b1q at hΦ ⊢
    cases b1q
    ·have hΦ2 : Φ (S.cf 9 n ⟨[],n⟩ y.og::((L.drop (i+1)).flatMap (S.t1x n)++A2)) r:=hΦ
     iterate 10 refine aC rfl rfl rfl ?_
     refine sV (vQ Z Z)<|sA Z<|sK [1,2,6,7,8,9,11,12,13,21,22,23,39,40,41] Z<|cQ<|sM Z<|sM Z<|sG Z Z (vM Z)<|sG Z Z (af Z fT Z ah) ?_
     refine sG Z Z (vM Z)<|sG Z Z (af Z qz Z ah) ?_
     refine sG Z Z (vF Z jA Z)<|sG Z Z (af Z qz Z<|hogy b11) ?_
     refine bR Z Z Z Z jZ Z (hcn 9 n ⟨[],n⟩ y.og) ?_
     refine kw (gd:=80) (.inr ⟨_,_,Z,Z,Z⟩) Z Z (hy _ _ _ hΦ2) ?_
     rintro u h' (⟨rfl,r',hΦ4,rfl⟩ | ⟨rfl,r',hst,rfl⟩)
     ·simp only [lC,lN]
      refine sG Z Z (bi Z)<|sV (vQ Z Z)<|sK [1,2,6,7,8,9,21,22,23,39,40,41,90] Z<|aG Z ?_
      refine cK<|xB<|xT<|cR<|sV (aI Z Z Z6)<|sM Z<|sN<|nK [1,2,6,7,8,9,21,22,23,39,40,41] Z<|au ?_
      refine aM (r',i+1) ⟨hlti,hΦ4⟩ (by dsimp only; omega)
     ·simp only [lC,lN]
      refine sG Z Z (bi Z)<|sV (vQ Z Z)<|sK [1,2,6,7,8,9,21,22,23,39,40,41,90] Z<|aT Z ?_
      refine cQ<|sA Z<|sK [4] Z<|cT<|xW<|xR<|xR<|xW<|xW<|xR<|xR<|xW<|xR ?_
      exact aj Z ⟨X,[mps mb m,mps bm bmp,r'],Z,Ext.refl X,r',Z,.inr ⟨Z,_,hst⟩⟩ sbq
    ·refine sG Z Z (vF Z yK Z)<|sG Z Z (vF Z qX Z)<|sG Z Z (vY Z ld3) ?_
     refine sG Z Z (dD Z Z)<|sG Z Z (vF Z dW Z)<|sG Z Z (vF Z mY Z)<|sG Z Z (vF Z qX Z)<|sG Z Z (vY Z ld3) ?_
     refine sG Z Z (dD Z Z)<|sG Z Z (v_bneq underlying4 Z Z)<|sV (vP Z Z)<|sA Z<|sK [1,2,6,7,8,9,11,12,13,21,22,23,39,40,41] Z<|cQ<|sM Z<|sM Z ?_
     rw [Bool.true_and] at hΦ
     rw [show ((f.ty.kind == 0) != (y.mem.ty.kind == 0)) = !((f.ty.kind == 0) == (y.mem.ty.kind == 0)) from rfl]
     generalize ((f.ty.kind == 0) == (y.mem.ty.kind == 0))=bq at hΦ ⊢
     cases bq
     ·have hΦ2 : Φ (S.cf 9 n ⟨[],n⟩ y.og::((L.drop (i+1)).flatMap (S.t1x n)++A2)) r:=hΦ
      refine sG Z Z (vM Z)<|sG Z Z (af Z fT Z ah) ?_
      refine sG Z Z (vM Z)<|sG Z Z (af Z qz Z ah) ?_
      refine sG Z Z (vF Z jA Z)<|sG Z Z (af Z qz Z<|hogy b11) ?_
      refine bR Z Z Z Z jZ Z (hcn 9 n ⟨[],n⟩ y.og) ?_
      refine kw (gd:=80) (.inr ⟨_,_,Z,Z,Z⟩) Z Z (hy _ _ _ hΦ2) ?_
      rintro u h' (⟨rfl,r',hΦ4,rfl⟩ | ⟨rfl,r',hst,rfl⟩)
      ·simp only [lC,lN]
       refine sG Z Z (bi Z)<|sV (vQ Z Z)<|sK [1,2,6,7,8,9,21,22,23,39,40,41,90] Z<|aG Z ?_
       refine cK<|xB<|xT<|cR<|sV (aI Z Z Z6)<|sM Z<|sN<|nK [1,2,6,7,8,9,21,22,23,39,40,41] Z<|au ?_
       refine aM (r',i+1) ⟨hlti,hΦ4⟩ (by dsimp only; omega)
      ·simp only [lC,lN]
       refine sG Z Z (bi Z)<|sV (vQ Z Z)<|sK [1,2,6,7,8,9,21,22,23,39,40,41,90] Z<|aT Z ?_
       refine cQ<|sA Z<|sK [4] Z<|cT<|xW<|xR<|xR<|xW<|xW<|xR<|xR<|xW<|xR ?_
       exact aj Z ⟨X,[mps mb m,mps bm bmp,r'],Z,Ext.refl X,r',Z,.inr ⟨Z,_,hst⟩⟩ sbq
     ·have hΦ : Φ ((L.drop (i+1)).flatMap (S.t1x n)++A2) r:=hΦ
      iterate 9 refine aC rfl rfl rfl ?_
      refine sV (vP Z Z)<|sK [1,2,6,7,8,9,21,22,23,39,40,41,90] Z<|aG Z ?_
      refine cK<|xB<|xT<|cR<|sV (aI Z Z Z6)<|sM Z<|sN<|nK [1,2,6,7,8,9,21,22,23,39,40,41] Z<|au ?_
      refine aM (r,i+1) ⟨hlti,hΦ⟩ (by dsimp only; omega)
  ·have hend:i=L.length:=Nat.le_antisymm hi<|Nat.not_lt.1 Zr
   subst hend
   rw [dL,List.nil_append] at hΦ
   refine aB<|xE<|xE<|xY<|xB<|xT<|cR<|sV (aI Z Z Z6)<|sM Z<|sN<|nK [1,2,21,22,23] Z<|au ?_
   refine aM (r,j+1) ⟨hltj,by rw [hA2]; exact hΦ⟩ (by dsimp only; omega)
 ·have hend:j=S.skeys.length:=Nat.le_antisymm hj<|Nat.not_lt.1 Zw
  subst hend
  rw [dL,List.nil_append,<- hT] at hΦ
  refine aB<|xE<|xE<|xY<|xT<|cS<|cQ<|sV (vF Z o9 Z)<|sV (vY Z qW) ?_
  refine aH Z Z en213 Z (uC) ?_
  rintro u h' ⟨b1,rfl,rfl⟩
  simp only [lC,lN]
  refine aH Z Z en212 Z (p9 (by omega) hnd) ?_
  rintro u h' ⟨hu,rfl⟩
  simp only [lC,lN]
  rw [hsk]
  unfold NR
  refine jD (v:=u) (E:=9) (sz:=1) (rows:=S.skeys.map nC) slq λwa wc hwf hwl hwm=>?_
  rw [List.length_map] at hwf hwl
  subst hwf
  refine sV (aF Z underlying40)<|sM Z<|sK [1,2,96,97,98] Z<|cB<|aZ (σ := Res×Nat) (λq=>[(1,.func (.yield yl) #[] #[]),(2,.pointer (some ⟨b2,0,none⟩)),(96,.slice wa S.skeys.length wc),(97,.int .i64 S.skeys.length),(98,.int .i64 (q.2:Nat))]) (λq=>VR (.slice wa S.skeys.length wc) 9 1 (S.skeys.map nC)::pt b2 (cl [v,.map (some mb),sv S.c.name,.bool S.c.dfd,ca,.slice cb S.c.pars.length ck,ce,.slice cf S.c.feats.length cfk,ci,.slice mA S.ms.length mK,.map (some bm),.bool all] 206)::X::mps mb m::mps bm bmp::q.1::hr) (λq=>q.2≤S.skeys.length /\ Φ ((S.skeys.drop q.2).flatMap (S.t2)++R) q.1) (λq=>S.skeys.length - q.2) (r,0) ⟨Nat.zero_le _,hΦ⟩ ?_
  rintro ⟨r,j⟩ ⟨hj,hΦ⟩
  simp only at hj hΦ
  dsimp only
  refine cQ<|sV (aN Z Z)<|sN<|nT<|cS<|cC Z (λhd2=>?_)<|λhd2=>?_
  ·have hltj:j<S.skeys.length:=Zw
   rw [eu hltj,List.append_assoc] at hΦ
   have hnx:(S.skeys.map nC)[j]? = some [sv S.skeys[j]]:=by rw [List.getElem?_map,Zy hltj]; rfl
   refine fw (r:=VR (.slice wa S.skeys.length wc) 9 1<|S.skeys.map nC) slq λhok=>?_
   obtain ⟨ab,ao,rfl⟩:∃ ab ao,wa=some ⟨ab,ao,none⟩:=by
    obtain ⟨f0,hf0⟩:=hok
    rcases VR.form hf0 with ⟨h3,h4⟩ | ⟨b,o,cp,h3,-⟩
    ·have:=List.map_eq_nil_iff.1 h4
     rw [this] at hltj; simp at hltj
    ·rw [List.length_map] at h3; cases h3; exact ⟨b,o,rfl⟩
   generalize S.skeys[j]=n at hΦ hnx
   generalize hA2:(S.skeys.drop (j+1)).flatMap (S.t2)++R=A2 at hΦ
   have hul:=hB.under n
   have hun:=hK.by' n
   obtain ⟨la,lc,hlv,hlc,-,-⟩:=id hun.form
   rw [hlv] at hun
   unfold Sk.t2 at hΦ
   refine cK<|xT<|cS<|cB<|cQ<|sV (vI (k:=j) Z Z jv Z hltj Z)<|sV (vY Z ld9 (ha:=⟨_,_,slq,dN hnx 0<|by simp⟩)) ?_
   refine sA Z<|sK [1,2,15,96,97,98] Z<|cS<|cQ<|sV (vF Z gV Z)<|sV (vF Z kG Z)<|sV (vY Z yu) ?_
   refine sM Z<|aH Z Z xL Z (ja (n:=n) hK.feat) ?_
   rintro u h' ⟨rfl,gus,rfl,hgr⟩
   simp only [lC,lN]
   have hg15:gus.length=15:=Enc.len hgr
   have hgo:=Enc.ones hgr
   have hmf:(S.c.feats.find? λc=>c.name == n)=feat S.c n:=rfl
   rw [hmf]
   refine sM Z<|sV (ag Z Z)<|sV (ag Z Z) (ax lL λb16=>?_)
   refine ai (hl:=by rw [hg15]; rfl) Z Z jW hg15 hgo ?_
   refine sA Z<|sK [1,2,15,17,96,97,98] Z<|cQ<|sM Z<|sK [1,2,15,96,97,98,110] Z ?_
   cases hq:feat S.c n
   ·rw [hq] at hΦ
    have hΦ : Φ (S.cpairs (under S.cs n) 10 (λa b=>(!a.dfd && !b.dfd) && !Sk.same a.mem b.mem)++A2) r:=hΦ
    refine aG Z ?_
    refine cK<|xT<|cQ<|sV (af Z fT Z ah) ?_
    refine sV (vF Z o9 Z)<|sV (vY Z qW) ?_
    refine sM Z<|sV (gG hlv<|bI Z Z sQ tL slq) ?_
    refine sM Z<|aH Z Z en207 Z (Hw hy hall en217 (is:=λa b=>(!a.dfd && !b.dfd) && !Sk.same a.mem b.mem) (λa _ b _ us us' h h'=>Jw h h') hun 10 _ r hΦ) ?_
    rintro u h' ⟨r',rfl,(⟨rfl,hΦ4⟩ | ⟨rfl,_,hst⟩)⟩
    ·simp only [lC,lN]
     refine sV (bi Z)<|sK [1,2,96,97,98,118] Z<|aG Z ?_
     refine cK<|xB<|xT<|cR<|sV (aI Z Z Z6)<|sM Z<|sN<|nK [1,2,96,97,98] Z<|au ?_
     refine aM (r',j+1) ⟨hltj,by rw [hA2]; exact hΦ4⟩ (by dsimp only; omega)
    ·simp only [lC,lN]
     refine sV (bi Z)<|sK [1,2,96,97,98,118] Z<|aT Z ?_
     refine cQ<|sA Z<|sK [4] Z<|cT<|xW<|xR<|xR<|xW<|xR ?_
     exact aj Z ⟨X,[mps mb m,mps bm bmp,r'],Z,Ext.refl X,r',Z,.inr ⟨Z,_,hst⟩⟩ sbq
   ·rw [hq] at hΦ
    have hΦ : Φ A2 r:=hΦ
    refine aT Z ?_
    refine aB<|xE<|xY<|xT<|cR<|sV (aI Z Z Z6)<|sM Z<|sN<|nK [1,2,96,97,98] Z<|au ?_
    refine aM (r,j+1) ⟨hltj,by rw [hA2]; exact hΦ⟩ (by dsimp only; omega)
  ·have hend:j=S.skeys.length:=Nat.le_antisymm hj<|Nat.not_lt.1 Zw
   subst hend
   rw [dL,List.nil_append] at hΦ
   refine aB<|xE<|xE<|xY<|xT<|cQ<|sA Z<|sK [4] Z<|cT ?_
   exact aj Z ⟨X,[mps mb m,mps bm bmp,r],Z,Ext.refl X,r,Z,.inl ⟨Z,hΦ⟩⟩ sbq
end
end Go.Fl
