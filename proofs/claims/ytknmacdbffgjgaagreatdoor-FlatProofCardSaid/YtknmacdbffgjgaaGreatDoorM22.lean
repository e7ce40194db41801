/-
  Package flat: what the searches for conflicts ask; pairs yields conflicts. Conditions: what is read.
-/
import Derived.Test.YtknmacdbffgjgaaGreatDoorM21
set_option linter.unusedVariables false
set_option linter.unusedSimpArgs false
set_option maxRecDepth 100000
set_option maxHeartbeats 16000000
namespace Go.Fl
open Go Go.RowKit Go.Ck Go.Proofs Go.Proofs.Tryz Go.Proofs.YtknmacdbffgjgaaGreatDoor Fx Go.Hr
theorem Jf {b:Nat} {x:Cm} {x2 x5 y x11 x12 x13:Value}:Rds (pt b (cl (oL x x2 x5 y x11 x12 x13) 191)) b (0+3) (fI x.mem x2 x5 y x11 x12 x13):=bD (k:=3) ag rfl
theorem nL {b:Nat} {x:Cm} {x2 x5 y x11 x12 x13:Value}:Rds (pt b (cl (oL x x2 x5 y x11 x12 x13) 191)) b (0+0) [sv x.og.par,sv x.og.name]:=bD (k:=0) ag rfl
attribute [local irreducible] Go.Ck.Sub St Cd Xt Nx DrL LsW
section
variable {X Y:Res} {v v':Value} {us us':List Value}
theorem Jg {a b:Cm} (h:Enc.rep X us a) (h':Enc.rep X us' b):Reads prog 208 #[.agg us.toArray,.agg us'.toArray] [] (.bool true):=by
 refine aL (n:=5) func208 Z Z (len Z) λhr w0=>?_
 refine cQ (aP Z Z λb2=>?_)
 refine aP Z Z λb3=>?_
 refine sA Z<|sK [4] Z<|cQ<|sA Z<|sN<|nT<|cT ?_
 exact aj Z ⟨Z,Z⟩ sbq
theorem Jh {f:Fe} {x:Cm} (h:Enc.rep X us f) (h':Enc.rep X us' x):Reads prog 209 #[.agg us.toArray,.agg us'.toArray] [] (.bool (x.mem.kind == 1)):=by
 obtain ⟨x2,x5,xy,x11,x12,x13,rfl,_⟩:=iB h'
 unfold oL
 refine aL (n:=9) func209 Z Z (len Z) λhr w0=>?_
 refine cQ (aP Z Z λb2=>?_)
 refine aP Z Z λb3=>?_
 refine sA Z<|sK [3,4] Z<|cQ<|sV (vF Z dW Z)<|sV (vF Z o7 Z)<|sV (vY Z ld3) ?_
 refine sV (dE Z Z)<|sA Z<|sK [4] Z<|cT ?_
 exact aj Z ⟨Z,Z⟩ sbq
theorem Ji {f:Fe} {x:Cm} (h:Enc.rep X us f) (h':Enc.rep X us' x):Reads prog 211 #[.agg us.toArray,.agg us'.toArray] [X] (.bool (f.kind == 3 && !x.dfd)):=by
 have hd:=Ai h'
 have hl:=Enc.len h'
 obtain ⟨x2,x3,fy,x9,x10,x11,x12,x13,x14,rfl,-⟩:=nJ h
 unfold Au
 refine aL (n:=13) func211 Z Z (len Z) λhr w0=>?_
 refine cQ (aP Z Z λb2=>?_)
 refine aP Z Z λb3=>?_
 refine sA Z<|sK [2,3,4] Z<|cQ<|sV (vF Z vE Z)<|sV (vY Z ld3) ?_
 refine sV (dE Z Z)<|sM Z ?_
 cases hk:f.kind == 3
 ·rw [Bool.false_and]
  iterate 3 refine aB rfl rfl rfl ?_
  refine sV (vP Z Z)<|sA Z<|sK [4] Z<|cT ?_
  exact aj Z ⟨Z,Z⟩ sbq
 ·rw [Bool.true_and]
  refine sG Z Z (af Z ic hl ag) ?_
  refine bJ Z Z Z Z FB Z (hd) ?_
  refine sG Z Z (aZ Z)<|sV (vQ Z Z)<|sA Z<|sK [4] Z<|cT ?_
  exact aj Z ⟨Z,Z⟩ sbq
theorem Jj {a b:Cm} (h:Enc.rep X us a) (h':Enc.rep X us' b):Reads prog 217 #[.agg us.toArray,.agg us'.toArray] [X] (.bool ((!a.dfd && !b.dfd) && !Sk.same a.mem b.mem)):=by
 have hd:=Ai h
 have hd':=Ai h'
 have hl:=Enc.len h
 have hl':=Enc.len h'
 obtain ⟨x2,x5,xy,x11,x12,x13,rfl,hx⟩:=iB h
 obtain ⟨y2,y5,yy,y11,y12,y13,rfl,hy⟩:=iB h'
 have hs:=same_ct (mV hx)<|mV hy
 unfold oL fI at *
 refine aL (n:=21) func217 Z Z (len Z) λhr w0=>?_
 refine cQ (aP Z Z λb2=>?_)
 refine aP Z Z λb3=>?_
 refine sA Z<|sK [2,3,4] Z<|cQ<|sV (af Z ic hl ag) ?_
 refine aX Z Z FB Z (hd) ?_
 refine sV (aZ Z)<|sM Z ?_
 cases hk:a.dfd
 ·rw [Bool.not_false,Bool.true_and]
  refine sG Z Z (af Z ic hl' ag) ?_
  refine bJ Z Z Z Z FB Z (hd') ?_
  refine sG Z Z (aZ Z)<|sV (vQ Z Z)<|sM Z ?_
  cases hk2:b.dfd
  ·rw [Bool.not_false,Bool.true_and]
   refine sG Z Z (vF Z dW Z)<|sG Z Z (af Z dJ Z<|Jf (x:=a)) ?_
   refine sG Z Z (vF Z dW Z)<|sG Z Z (af Z dJ Z<|Jf (x:=b)) ?_
   refine bJ Z Z Z Z en218 Z (hs) ?_
   refine sG Z Z (aZ Z)<|sV (vQ Z Z)<|sA Z<|sK [4] Z<|cT ?_
   exact aj Z ⟨Z,Z⟩ sbq
  ·rw [Bool.not_true,Bool.false_and]
   iterate 6 refine aB rfl rfl rfl ?_
   refine sV (vP Z Z)<|sA Z<|sK [4] Z<|cT ?_
   exact aj Z ⟨Z,Z⟩ sbq
 ·rw [Bool.not_true,Bool.false_and,Bool.false_and]
  iterate 3 refine aB rfl rfl rfl ?_
  refine sV (vP Z Z)<|sM Z<|aB Z Z Z ?_
  iterate 5 refine aB rfl rfl rfl ?_
  refine sV (vP Z Z)<|sA Z<|sK [4] Z<|cT ?_
  exact aj Z ⟨Z,Z⟩ sbq
theorem Jk {m:Mb} {d:Sd} {b1:Nat} (h:Enc.rep X us m) (hrd:Rds X b1 0 [sv d.cls,sv d.name]):Reads prog 269 #[.agg us.toArray,.pointer (some ⟨b1,0,none⟩)] [X] (.bool (!m.seeds.contains d)):=by
 obtain ⟨x2,x5,xy,x11,x12,x13,rfl,hx2,_⟩:=bZ h
 obtain ⟨ax2,kx2,rfl,_⟩:=id hx2.form
 unfold fI
 refine aL (n:=9) func269 Z Z (len Z) λhr w0=>?_
 refine cQ (aP Z Z λb2=>?_)
 refine sA Z<|sK [1,2,3] Z<|cQ<|sV (vF Z dP Z)<|sV (vY Z nz) ?_
 refine sV (af Z gM Z hrd) ?_
 refine aX Z Z en33 Z (vW hx2) ?_
 refine sV (aZ Z)<|sA Z<|sK [3] Z<|cT ?_
 exact aj Z ⟨Z,Z⟩ sbq
theorem Jl {ms:List Mb} {d:Sd} {b1:Nat} {mv:Value} (h:Enc.rep X us d) (hrd:Rd X ⟨b1,9,none⟩ mv) (hm:Ls X mv ms):Reads prog 220 #[.agg us.toArray,.pointer (some ⟨b1,0,none⟩)] [X] (.bool (decide (1<(bn ms d).length))):=by
 have hus:us=[sv d.cls,sv d.name]:=h
 subst hus
 refine aL (n:=10) func220 Z Z (len Z) λhr w0=>?_
 refine cQ (aP Z Z λb2=>?_)
 refine sA Z<|sK [1,2,3] Z<|cQ<|sV (vF Z mO Z)<|sV (vY Z lK (ha:=⟨_,_,slq,hrd⟩)) ?_
 refine sV (af Z gM Z ag) ?_
 refine aJ Z Z Fy Z (lU (s:=d) hm) ?_
 rintro u h' ⟨T,rfl,hu,rfl⟩
 simp only [lC,lN]
 unfold NR
 refine jB (v:=u) (E:=9) (sz:=1) (rows:=(bn ms d).map nC) slq λwa wc hwf hwl hwm=>?_
 rw [List.length_map] at hwf hwl
 subst hwf
 refine sV (aF Z underlying40)<|sV (bW Z Z)<|sA Z<|sK [3] Z<|cT ?_
 rw [show decide ((1:Int)<((bn ms d).length:Nat))=decide (1<(bn ms d).length) by rw [Bool.eq_iff_iff]; simp; omega]
 exact aj Z ⟨Z,Z⟩ sbq
theorem Jm {f:Fe} {x:Cm} {p:Pt} {c:FC} {b2:Nat} {pv:Value} (h:Enc.rep X us f) (h':Enc.rep X us' x) (hrd:Rd X ⟨b2,5,none⟩ pv) (hpv:Ls X pv c.pars) (hp:c.pars[x.par]? = some p) (hl:p.red.length≤1099511627776):Reads prog 210 #[.agg us.toArray,.agg us'.toArray,.pointer (some ⟨b2,0,none⟩)] [X] (.bool (!x.dfd && !p.red.contains f.name)):=by
 have hd:=Ai h'
 have hlx:=Enc.len h'
 have hplt:=(List.getElem?_eq_some_iff.1 hp).1
 obtain ⟨x2,x5,xy,x11,x12,x13,rfl,_⟩:=iB h'
 obtain ⟨y2,y3,fy,y9,y10,y11,y12,y13,y14,rfl,-⟩:=nJ h
 obtain ⟨pb,po,pcap,pus,rfl,hpus,hprd,hpr⟩:=hpv.at hp
 obtain ⟨pa,pr,pu,pd,pS,rfl,hpa,hpr,hpu,hpd,hpsel⟩:=hpr
 unfold oL Au at *
 have hct:=fF (Eu hpd) f.name hl
 refine aL (n:=23) func210 Z Z (len Z) λhr w0=>?_
 refine cQ (aP Z Z λb3=>?_)
 refine aP Z Z λb4=>?_
 refine sA Z<|sK [2,3,4,5] Z<|cS<|bB (ork [(0,1),(1,1),(2,2),(3,2),(4,2),(5,2),(6,1),(7,2),(8,1),(9,2),(10,2),(11,1),(12,2),(13,1),(14,1),(15,2),(16,2),(17,2)] .nil) (λ_=>true) mixed Zz ?_
 refine bi Z (af Z ic hlx ag) ?_
 refine gY Z Z Z FB Z (hd) ?_
 refine dV Z (aZ Z)<|dV Z (vM Z) ?_
 cases hk:x.dfd
 ·rw [Bool.not_false,Bool.true_and]
  refine cu Z Z Z (vF Z gU Z)<|cu Z Z Z (vF Z fu Z)<|gX Z Z Z (vY Z mr (ha:=⟨_,_,slq,hrd⟩)) ?_
  refine cu Z Z Z (vF Z yM Z)<|gX Z Z Z (vY Z ld3) ?_
  refine cu Z Z Z (vI (k:=x.par) Z Z oW Z hplt Z)<|cu Z Z Z (vF Z wO Z)<|gX Z Z Z (vY Z fq (ha:=⟨_,_,slq,hprd 4<|by simp⟩)) ?_
  refine cu Z Z Z (vF Z o8 Z)<|gX Z Z Z (vY Z ld9) ?_
  refine vg Z Z Z Z Z D5 Z (hct) ?_
  refine cu Z Z Z (aZ Z)<|dV Z (vQ Z Z)<|dV Z (vA Z)<|bA<|nK [5] Z<|nT<|cT ?_
  exact aj Z ⟨Z,Z⟩ sbq
 ·rw [Bool.not_true,Bool.false_and]
  iterate 2 refine gP rfl rfl rfl rfl ?_
  refine jh Z Z Z Z ?_
  refine gP Z Z Z Z ?_
  refine jh Z Z Z Z ?_
  iterate 2 refine gP rfl rfl rfl rfl ?_
  refine jh Z Z Z Z ?_
  refine gP Z Z Z Z ?_
  iterate 2 refine jh rfl rfl rfl rfl ?_
  refine gP Z Z Z Z ?_
  refine dV Z (vP Z Z)<|dV Z (vA Z)<|bA<|nK [5] Z<|nT<|cT ?_
  exact aj Z ⟨Z,Z⟩ sbq
def kY {α : Type} (S:Sk) (l:List α) (is : α -> α -> Bool) (f : α -> α -> Cf) (a : α × Nat) (k:Nat):List Cf:=(l.zipIdx.drop k).flatMap λb=>if a.2=b.2∨(S.all=false/\b.2<a.2)∨is a.1 b.1=false then [] else [f a.1 b.1]
theorem wh (S:Sk) (x:Cf) (t:List Cf):S.cut (x::t)=x::(if S.all then t else []):=by
 unfold Sk.cut
 cases S.all <;> rfl
theorem EA {α : Type} {S:Sk} {l:List α} {is : α -> α -> Bool} {f : α -> α -> Cf} {a : α × Nat} {k:Nat} (h:k<l.length):kY S l is f a k=(if a.2=k∨(S.all=false/\k<a.2)∨is a.1 l[k]=false then [] else [f a.1 l[k]])++kY S l is f a (k+1):=by
 unfold kY
 rw [kC h]
theorem AO {α : Type} {S:Sk} {l:List α} {is : α -> α -> Bool} {f : α -> α -> Cf} {a : α × Nat}:kY S l is f a l.length=[]:=by
 unfold kY
 rw [mY]
theorem Hl {yl : Nat} {Φ : List Cf -> Res -> Prop} {Stop : Cf -> Res -> Prop} (hy : Yh yl Φ Stop) {S : Sk} {all : Bool} (hall : S.all = all) {l : List Cm} {kf : FuncId} {is : Cm -> Cm -> Bool} (hE : Ck.Enters prog kf) (his : ∀ a ∈ l, ∀ b ∈ l, ∀ us us' : List Value, Enc.rep X us a -> Enc.rep X us' b -> Reads prog kf #[.agg us.toArray, .agg us'.toArray] [X] (.bool (is a b)))
  (hv:Ls X v l) {vv fv ca cb ce cf ci mv bv:Value} (kk:Int) (R:List Cf) (r0:Res) (h0 : Φ (S.cpairs l kk is++R) r0) :
  Ct prog 207 #[.agg (eZ vv fv S.c ca cb ce cf ci mv bv all).toArray,v,.int .i64 kk,.func (.func kf) #[] #[],.func (.yield yl) #[] #[]] [X,r0] λu h'=>∃ r,h'=[X,r]/\Yend Φ Stop R u r:=by
 obtain ⟨a,cap,rfl,hlc,hcm,_⟩:=id hv.form
 have hml:maxLen=9223372036854775807:=rfl
 have hcn:=λb=>fU (fv:=fv) (c:=S.c) (v:=vv) (ca:=ca) (cb:=cb) (ce:=ce) (cf:=cf) (ci:=ci) (mv:=mv) (bv:=bv) (all:=all) b
 unfold eZ at *
 refine aL (n:=67) func207 Z Z (len Z) λhr w0=>?_
 refine cQ (aP Z Z λb5=>?_)
 refine sA Z<|sK [1,2,3,4,5,10] Z<|cS<|cQ<|sM Z<|sV (aF Z underlying187)<|sM Z<|sN<|nT<|cB<|aW (σ := Res×Nat) (λq=>[(1,.slice a l.length cap),(2,.int .i64 kk),(3,.func (.func kf) #[] #[]),(4,.func (.yield yl) #[] #[]),(5,.pointer (some ⟨b5,0,none⟩)),(15,.slice a l.length cap),(16,.int .i64 l.length),(17,.int .i64 (q.2:Nat))]) (λq=>pt b5 (cl [vv,fv,sv S.c.name,.bool S.c.dfd,ca,cb,ce,cf,ci,mv,bv,.bool all] 206)::X::q.1::hr) (λq=>q.2≤l.length /\ Φ (S.cut ((l.zipIdx.drop q.2).flatMap λa=>kY S l is (λa b=>S.cf kk a.mem.name a.og b.og) a 0)++R) q.1) (λq=>l.length - q.2) (r0,0) ⟨Nat.zero_le _,h0⟩ ?_
 rintro ⟨r,i⟩ ⟨hi,hΦ⟩
 simp only at hi hΦ
 dsimp only
 refine cQ<|sV (aN Z Z)<|sN<|nT<|cS<|cC Z (λhd=>?_)<|λhd=>?_
 ·have hlt:i<l.length:=Zx
  rw [kC hlt] at hΦ
  have hai:=List.getElem_mem hlt
  obtain ⟨ab,ao,acap,aus,e1,haus,hard,hare⟩:=hv.at<|Zy hlt
  obtain ⟨rfl,rfl⟩:a=some ⟨ab,ao,none⟩/\cap=acap:=by cases e1; exact ⟨rfl,rfl⟩
  have hisa:=his _ hai
  generalize hxa:l[i]=x at hΦ hare hisa
  have hone:=Enc.ones hare
  have hre:=hare
  obtain ⟨x2,x5,xy,x11,x12,x13,rfl,hxm⟩:=iB hare
  have hogx:=λb=>nL (b:=b) (x:=x) (x2:=x2) (x5:=x5) (y:=xy) (x11:=x11) (x12:=x12) (x13:=x13)
  unfold oL at *
  refine cK<|xT<|cS<|cB<|cQ<|sM Z<|sV (vI (k:=i) Z Z lJ Z hlt Z)<|sV (af Z ic Z hard) ?_
  refine ak q8 λb12=>?_
  refine sA Z<|ai Z Z mM Z hone ?_
  refine sK [1,2,3,4,5,11,12,15,16,17] Z<|cQ<|sM Z<|sV (aF Z underlying187)<|sM Z<|sN<|nT<|cB<|aW (σ := Res×Nat) (λq=>[(1,.slice (some ⟨ab,ao,none⟩) l.length cap),(2,.int .i64 kk),(3,.func (.func kf) #[] #[]),(4,.func (.yield yl) #[] #[]),(5,.pointer (some ⟨b5,0,none⟩)),(15,.slice (some ⟨ab,ao,none⟩) l.length cap),(16,.int .i64 l.length),(17,.int .i64 (i:Nat)),(11,.int .i64 (i:Nat)),(12,.pointer (some ⟨b12,0,none⟩)),(22,.slice (some ⟨ab,ao,none⟩) l.length cap),(23,.int .i64 l.length),(24,.int .i64 (q.2:Nat))]) (λq=>pt b12 (cl [sv x.og.par,sv x.og.name,.int .i64 x.par,sv x.mem.name,.int .i64 x.mem.kind,x2,sv x.mem.impl.cls,sv x.mem.impl.name,x5,.int .i64 x.mem.ty.kind,sv x.mem.ty.name,xy,.bool x.mem.ty.void,.bool x.mem.ty.sep,x11,x12,x13,.int .i64 x.was] 191)::pt b5 (cl [vv,fv,sv S.c.name,.bool S.c.dfd,ca,cb,ce,cf,ci,mv,bv,.bool all] 206)::X::q.1::hr) (λq=>q.2≤l.length /\ Φ (S.cut (kY S l is (λa b=>S.cf kk a.mem.name a.og b.og) (x,i) q.2++(l.zipIdx.drop (i+1)).flatMap λa=>kY S l is (λa b=>S.cf kk a.mem.name a.og b.og) a 0)++R) q.1) (λq=>l.length - q.2) (r,0) ⟨Nat.zero_le _,hΦ⟩ ?_
  clear hΦ
  rintro ⟨r,k⟩ ⟨hk,hΦ⟩
  simp only at hk hΦ
  dsimp only
  refine cQ<|sV (aN Z Z)<|sN<|nT<|cS<|cC Z (λhd2=>?_)<|λhd2=>?_
  ·have hltk:k<l.length:=Zw
   rw [EA hltk] at hΦ
   have hbi:=List.getElem_mem hltk
   obtain ⟨bb,bo,bcap,bus,e2,hbus,hbrd,hbre⟩:=hv.at<|Zy hltk
   obtain ⟨rfl,rfl⟩:ab=bb/\ao=bo:=by cases e2; exact ⟨rfl,rfl⟩
   have hisb:=λus'=>hisa _ hbi _ us' hre
   generalize l[k]=y at hΦ hbre hisb
   have honeb:=Enc.ones hbre
   have hisy:=hisb _ hbre
   obtain ⟨y2,y5,yy,y11,y12,y13,rfl,hym⟩:=iB hbre
   have hogy:=λb=>nL (b:=b) (x:=y) (x2:=y2) (x5:=y5) (y:=yy) (x11:=y11) (x12:=y12) (x13:=y13)
   unfold oL at *
   refine cK<|xT<|cS<|cB<|cQ<|sM Z<|sV (vI (k:=k) Z Z lJ Z hltk Z)<|sV (af Z ic Z hbrd) ?_
   refine ak q8 λb14=>?_
   refine sA Z<|ai Z Z mM Z honeb ?_
   refine sK [1,2,3,4,5,11,12,13,14,15,16,17,22,23,24] Z<|cS<|cQ<|sM Z<|sM Z<|sV (dE Z Z)<|sM Z ?_
   by_cases hik:i=k
   ·have hq:(((i:Nat):Int) == ((k:Nat):Int))=true:=by rw [hik]; simp
    rw [hq]
    iterate 4 refine aB rfl rfl rfl ?_
    refine bY Z Z ?_
    refine bY Z Z ?_
    refine bY Z Z ?_
    refine aB Z Z Z ?_
    refine sV (vQ Z Z)<|sM Z<|aB Z Z Z ?_
    iterate 4 refine aB rfl rfl rfl ?_
    refine sV (vQ Z Z)<|sK [1,2,3,4,5,11,12,14,15,16,17,22,23,24,48] Z<|aQ Z ?_
    refine aC<|xE<|xY<|xT<|cR<|sV (aI Z Z Z0)<|sM Z<|sN<|nK [1,2,3,4,5,11,12,15,16,17,22,23,24] Z<|ax ?_
    refine aM (r,k+1) ⟨hltk,by rw [if_pos (.inl hik)] at hΦ; exact hΦ⟩ (by dsimp only; omega)
   ·have hq:(((i:Nat):Int) == ((k:Nat):Int))=false:=by simp; omega
    rw [hq]
    refine sG Z Z (vF Z pg Z)<|sG Z Z (vY Z ld4) ?_
    refine sG Z Z (aZ Z)<|sG Z Z (vM Z) ?_
    cases all
    ·refine sG Z Z (vM Z)<|sG Z Z (vM Z)<|sG Z Z (aN Z Z)<|sG Z Z (vQ Z Z)<|sV (vP Z Z)<|sM Z ?_
     by_cases hki:k<i
     ·have hq2:decide (((k:Nat):Int)<((i:Nat):Int))=true:=by simp; omega
      rw [hq2]
      iterate 5 refine aB rfl rfl rfl ?_
      refine sV (vQ Z Z)<|sK [1,2,3,4,5,11,12,14,15,16,17,22,23,24,48] Z<|aQ Z ?_
      refine aC<|xE<|xY<|xT<|cR<|sV (aI Z Z Z0)<|sM Z<|sN<|nK [1,2,3,4,5,11,12,15,16,17,22,23,24] Z<|ax ?_
      refine aM (r,k+1) ⟨hltk,by rw [if_pos (.inr<|.inl ⟨hall,hki⟩)] at hΦ; exact hΦ⟩ (by dsimp only; omega)
     ·have hq2:decide (((k:Nat):Int)<((i:Nat):Int))=false:=by simp; omega
      rw [hq2]
      refine sG Z Z (vM Z)<|sG Z Z (af Z ic Z ag) ?_
      refine sG Z Z (af Z ic Z ag) ?_
      refine bJ Z Z Z Z hE Z (hisy) ?_
      refine sG Z Z (aZ Z)<|sV (vP Z Z)<|sK [1,2,3,4,5,11,12,14,15,16,17,22,23,24,48] Z<|cC Z (λhn=>?_)<|λhn=>?_
      ·have hn:is x y=false:=Zk
       refine aC<|xE<|xY<|xT<|cR<|sV (aI Z Z Z0)<|sM Z<|sN<|nK [1,2,3,4,5,11,12,15,16,17,22,23,24] Z<|ax ?_
       refine aM (r,k+1) ⟨hltk,by rw [if_pos (.inr<|.inr hn)] at hΦ; exact hΦ⟩ (by dsimp only; omega)
      ·have hn:¬ is x y=false:=Zk
       have hΦ3 : Φ (S.cf kk x.mem.name x.og y.og::((if S.all then kY S l is (λa b=>S.cf kk a.mem.name a.og b.og) (x,i) (k+1)++(l.zipIdx.drop (i+1)).flatMap (λa=>kY S l is (λa b=>S.cf kk a.mem.name a.og b.og) a 0) else [])++R)) r:=by
        rw [if_neg (λh=>h.elim hik λh=>h.elim (λh=>hki h.2) hn)] at hΦ
        rw [lC,lN,List.cons_append,wh] at hΦ
        exact hΦ
       refine cK<|xT<|cS<|cQ<|sM Z<|sV (af Z fH Z ag) ?_
       refine sM Z<|sV (vF Z dW Z)<|sV (vF Z dC Z)<|sV (vY Z ld9) ?_
       refine sV (vF Z jw Z)<|sV (af Z qC Z<|nL (x:=x)) ?_
       refine sV (vF Z jw Z)<|sV (af Z qC Z<|nL (x:=y)) ?_
       refine aX Z Z jZ Z (hcn kk x.mem.name x.og y.og) ?_
       refine kz (gd:=0) (.inl Z) Z Z (hy _ _ _ hΦ3) ?_
       rintro u h' (⟨rfl,r',hΦ4,rfl⟩ | ⟨rfl,r',hst,rfl⟩)
       ·simp only [lC,lN]
        refine sV (aZ Z)<|sK [1,2,3,4,5,11,12,15,16,17,22,23,24,61] Z<|aH Z ?_
        refine cK<|xT<|cQ<|sV (vF Z pg Z)<|sV (vY Z ld4) ?_
        refine sV (aZ Z)<|sK [1,2,3,4,5,11,12,15,16,17,22,23,24,64] Z<|aQ Z ?_
        refine cQ<|sA Z<|sK [10] Z<|cT<|xW<|xR<|xR<|xW<|xW<|xR<|xR<|xW<|xR ?_
        rw [hall] at hΦ4
        exact aj Z ⟨r',Z,.inl ⟨Z,hΦ4⟩⟩ sbq
       ·simp only [lC,lN]
        refine sV (aZ Z)<|sK [1,2,3,4,5,11,12,15,16,17,22,23,24,61] Z<|aQ Z ?_
        refine cQ<|sA Z<|sK [10] Z<|cT<|xR<|xW<|xR<|xR<|xW<|xW<|xR<|xR<|xW ?_
        refine xR ?_
        exact aj Z ⟨r',Z,.inr ⟨Z,_,hst⟩⟩ sbq
    ·iterate 3 refine aB rfl rfl rfl ?_
     refine sG Z Z (vP Z Z)<|sV (vP Z Z)<|sM Z<|sG Z Z (vM Z)<|sG Z Z (af Z ic Z ag) ?_
     refine sG Z Z (af Z ic Z ag) ?_
     refine bJ Z Z Z Z hE Z (hisy) ?_
     refine sG Z Z (aZ Z)<|sV (vP Z Z)<|sK [1,2,3,4,5,11,12,14,15,16,17,22,23,24,48] Z<|cC Z (λhn=>?_)<|λhn=>?_
     ·have hn:is x y=false:=Zk
      refine aC<|xE<|xY<|xT<|cR<|sV (aI Z Z Z0)<|sM Z<|sN<|nK [1,2,3,4,5,11,12,15,16,17,22,23,24] Z<|ax ?_
      refine aM (r,k+1) ⟨hltk,by rw [if_pos (.inr<|.inr hn)] at hΦ; exact hΦ⟩ (by dsimp only; omega)
     ·have hn:¬ is x y=false:=Zk
      have hΦ3 : Φ (S.cf kk x.mem.name x.og y.og::((if S.all then kY S l is (λa b=>S.cf kk a.mem.name a.og b.og) (x,i) (k+1)++(l.zipIdx.drop (i+1)).flatMap (λa=>kY S l is (λa b=>S.cf kk a.mem.name a.og b.og) a 0) else [])++R)) r:=by
       rw [if_neg (λh=>h.elim hik λh=>h.elim (λh=>by rw [hall] at h; cases h.1) hn)] at hΦ
       rw [lC,lN,List.cons_append,wh] at hΦ
       exact hΦ
      refine cK<|xT<|cS<|cQ<|sM Z<|sV (af Z fH Z ag) ?_
      refine sM Z<|sV (vF Z dW Z)<|sV (vF Z dC Z)<|sV (vY Z ld9) ?_
      refine sV (vF Z jw Z)<|sV (af Z qC Z<|nL (x:=x)) ?_
      refine sV (vF Z jw Z)<|sV (af Z qC Z<|nL (x:=y)) ?_
      refine aX Z Z jZ Z (hcn kk x.mem.name x.og y.og) ?_
      refine kz (gd:=0) (.inl Z) Z Z (hy _ _ _ hΦ3) ?_
      rintro u h' (⟨rfl,r',hΦ4,rfl⟩ | ⟨rfl,r',hst,rfl⟩)
      ·simp only [lC,lN]
       refine sV (aZ Z)<|sK [1,2,3,4,5,11,12,15,16,17,22,23,24,61] Z<|aH Z ?_
       refine cK<|xT<|cQ<|sV (vF Z pg Z)<|sV (vY Z ld4) ?_
       refine sV (aZ Z)<|sK [1,2,3,4,5,11,12,15,16,17,22,23,24,64] Z<|aH Z ?_
       refine cK<|xB<|xT<|cR<|sV (aI Z Z Z0)<|sM Z<|sN<|nK [1,2,3,4,5,11,12,15,16,17,22,23,24] Z<|ax ?_
       rw [hall] at hΦ4
       refine aM (r',k+1) ⟨hltk,by unfold Sk.cut; rw [hall]; exact hΦ4⟩ (by dsimp only; omega)
      ·simp only [lC,lN]
       refine sV (aZ Z)<|sK [1,2,3,4,5,11,12,15,16,17,22,23,24,61] Z<|aQ Z ?_
       refine cQ<|sA Z<|sK [10] Z<|cT<|xR<|xW<|xR<|xR<|xW<|xW<|xR<|xR<|xW ?_
       refine xR ?_
       exact aj Z ⟨r',Z,.inr ⟨Z,_,hst⟩⟩ sbq
  ·have hie:k=l.length:=by
    have:¬ k<l.length:=Zw
    omega
   subst hie
   rw [AO,List.nil_append] at hΦ
   refine aC<|xE<|xE<|xY<|xB<|xT<|cR<|sV (aI Z Z Z0)<|sM Z<|sN<|nK [1,2,3,4,5,15,16,17] Z<|ax ?_
   refine aM (r,i+1) ⟨hlt,hΦ⟩ (by dsimp only; omega)
 ·have hie:i=l.length:=by
   have:¬ i<l.length:=Zx
   omega
  subst hie
  rw [mY] at hΦ
  have hΦ : Φ R r:=by
   have:S.cut []=[]:=by unfold Sk.cut; split <;> rfl
   rw [this] at hΦ; exact hΦ
  refine aC<|xE<|xE<|xY<|xT<|cQ<|sA Z<|sK [10] Z<|cT ?_
  exact aj Z ⟨r,Z,.inl ⟨Z,hΦ⟩⟩ sbq
end
end Go.Fl
