/-
  Package flat: what the searches for conflicts ask; pairs yields conflicts. Conditions: what is read.
-/
import Derived.Test.YtknmacdbffgjgaaGreatDoorM20
set_option linter.unusedVariables false
set_option linter.unusedSimpArgs false
set_option maxRecDepth 100000
set_option maxHeartbeats 16000000
namespace Go.Fl
open Go Go.RowKit Go.Ck Go.Proofs Go.Proofs.Tryz Go.Proofs.YtknmacdbffgjgaaGreatDoor Fx Go.Hr
theorem II {b:Nat} {x:Cm} {x2 x5 y x11 x12 x13:Value}:Rds (pt b (cl (nX x x2 x5 y x11 x12 x13) 191)) b (0+3) (ik x.mem x2 x5 y x11 x12 x13):=bF (k:=3) af rfl
theorem mW {b:Nat} {x:Cm} {x2 x5 y x11 x12 x13:Value}:Rds (pt b (cl (nX x x2 x5 y x11 x12 x13) 191)) b (0+0) [sv x.og.par,sv x.og.name]:=bF (k:=0) af rfl
attribute [local irreducible] Go.Ck.Sub St Cd Xt Nx DrL LsW
section
variable {X Y:Res} {v v':Value} {us us':List Value}
theorem IJ {a b:Cm} (h:Enc.rep X us a) (h':Enc.rep X us' b):Reads prog 208 #[.agg us.toArray,.agg us'.toArray] [] (.bool true):=by
 refine aL (n:=5) func208 Z Z (len Z) fun hr w0=>?_
 refine cQ (aV Z Z fun b2=>?_)
 refine aV Z Z fun b3=>?_
 refine sV (vA9 Z) (sN (nK9 [4] Z (nT (cQ (sV (vA9 Z) (sN (nT (cT ?_))))))))
 exact aj Z ⟨Z,Z⟩ sbq
theorem IK {f:Fe} {x:Cm} (h:Enc.rep X us f) (h':Enc.rep X us' x):Reads prog 209 #[.agg us.toArray,.agg us'.toArray] [] (.bool (x.mem.kind == 1)):=by
 obtain ⟨x2,x5,xy,x11,x12,x13,rfl,_⟩:=gX h'
 unfold nX
 refine aL (n:=9) func209 Z Z (len Z) fun hr w0=>?_
 refine cQ (aV Z Z fun b2=>?_)
 refine aV Z Z fun b3=>?_
 refine sV (vA9 Z) (sN (nK9 [3,4] Z (nT (cQ (sV (vF Z dN Z) (sV (vF Z zY Z) (sV (vY Z ld3) ?_)))))))
 refine sV (dB Z Z) (sV (vA9 Z) (sN (nK9 [4] Z (nT (cT ?_)))))
 exact aj Z ⟨Z,Z⟩ sbq
theorem IL {f:Fe} {x:Cm} (h:Enc.rep X us f) (h':Enc.rep X us' x):Reads prog 211 #[.agg us.toArray,.agg us'.toArray] [X] (.bool (f.kind == 3 && !x.dfd)):=by
 have hd:=AC h'
 have hl:=Enc.len h'
 obtain ⟨x2,x3,fy,x9,x10,x11,x12,x13,x14,rfl,-⟩:=mV h
 unfold AV
 refine aL (n:=13) func211 Z Z (len Z) fun hr w0=>?_
 refine cQ (aV Z Z fun b2=>?_)
 refine aV Z Z fun b3=>?_
 refine sV (vA9 Z) (sN (nK9 [2,3,4] Z (nT (cQ (sV (vF Z uU Z) (sV (vY Z ld3) ?_))))))
 refine sV (dB Z Z) (sM Z ?_)
 cases hk:f.kind == 3
 ·rw [Bool.false_and]
  iterate 3 refine aC rfl rfl rfl ?_
  refine sV (vP Z Z) (sV (vA9 Z) (sN (nK9 [4] Z (nT (cT ?_)))))
  exact aj Z ⟨Z,Z⟩ sbq
 ·rw [Bool.true_and]
  refine sG Z Z (ag Z gU hl af) ?_
  refine bR Z Z Z Z EU Z (hd) ?_
  refine sG Z Z (bi Z) (sV (vQ Z Z) (sV (vA9 Z) (sN (nK9 [4] Z (nT (cT ?_))))))
  exact aj Z ⟨Z,Z⟩ sbq
theorem IM {a b:Cm} (h:Enc.rep X us a) (h':Enc.rep X us' b):Reads prog 217 #[.agg us.toArray,.agg us'.toArray] [X] (.bool ((!a.dfd && !b.dfd) && !Sk.same a.mem b.mem)):=by
 have hd:=AC h
 have hd':=AC h'
 have hl:=Enc.len h
 have hl':=Enc.len h'
 obtain ⟨x2,x5,xy,x11,x12,x13,rfl,hx⟩:=gX h
 obtain ⟨y2,y5,yy,y11,y12,y13,rfl,hy⟩:=gX h'
 have hs:=same_ct (pU hx) (pU hy)
 unfold nX ik at *
 refine aL (n:=21) func217 Z Z (len Z) fun hr w0=>?_
 refine cQ (aV Z Z fun b2=>?_)
 refine aV Z Z fun b3=>?_
 refine sV (vA9 Z) (sN (nK9 [2,3,4] Z (nT (cQ (sV (ag Z gU hl af) ?_)))))
 refine bg Z Z EU Z (hd) ?_
 refine sV (bi Z) (sM Z ?_)
 cases hk:a.dfd
 ·rw [Bool.not_false,Bool.true_and]
  refine sG Z Z (ag Z gU hl' af) ?_
  refine bR Z Z Z Z EU Z (hd') ?_
  refine sG Z Z (bi Z) (sV (vQ Z Z) (sM Z ?_))
  cases hk2:b.dfd
  ·rw [Bool.not_false,Bool.true_and]
   refine sG Z Z (vF Z dN Z) (sG Z Z (ag Z fB Z (II (x:=a))) ?_)
   refine sG Z Z (vF Z dN Z) (sG Z Z (ag Z fB Z (II (x:=b))) ?_)
   refine bR Z Z Z Z en218 Z (hs) ?_
   refine sG Z Z (bi Z) (sV (vQ Z Z) (sV (vA9 Z) (sN (nK9 [4] Z (nT (cT ?_))))))
   exact aj Z ⟨Z,Z⟩ sbq
  ·rw [Bool.not_true,Bool.false_and]
   iterate 6 refine aC rfl rfl rfl ?_
   refine sV (vP Z Z) (sV (vA9 Z) (sN (nK9 [4] Z (nT (cT ?_)))))
   exact aj Z ⟨Z,Z⟩ sbq
 ·rw [Bool.not_true,Bool.false_and,Bool.false_and]
  iterate 3 refine aC rfl rfl rfl ?_
  refine sV (vP Z Z) (sM Z (aC Z Z Z ?_))
  iterate 5 refine aC rfl rfl rfl ?_
  refine sV (vP Z Z) (sV (vA9 Z) (sN (nK9 [4] Z (nT (cT ?_)))))
  exact aj Z ⟨Z,Z⟩ sbq
theorem IP {m:Mb} {d:Sd} {b1:Nat} (h:Enc.rep X us m) (hrd:Rds X b1 0 [sv d.cls,sv d.name]):Reads prog 269 #[.agg us.toArray,.pointer (some ⟨b1,0,none⟩)] [X] (.bool (!m.seeds.contains d)):=by
 obtain ⟨x2,x5,xy,x11,x12,x13,rfl,hx2,_⟩:=dJ h
 obtain ⟨ax2,kx2,rfl,_⟩:=id hx2.form
 unfold ik
 refine aL (n:=9) func269 Z Z (len Z) fun hr w0=>?_
 refine cQ (aV Z Z fun b2=>?_)
 refine sV (vA9 Z) (sN (nK9 [1,2,3] Z (nT (cQ (sV (vF Z eO Z) (sV (vY Z qz) ?_))))))
 refine sV (ag Z iM Z hrd) ?_
 refine bg Z Z en33 Z (vG hx2) ?_
 refine sV (bi Z) (sV (vA9 Z) (sN (nK9 [3] Z (nT (cT ?_)))))
 exact aj Z ⟨Z,Z⟩ sbq
theorem IQ {ms:List Mb} {d:Sd} {b1:Nat} {mv:Value} (h:Enc.rep X us d) (hrd:Rd X ⟨b1,9,none⟩ mv) (hm:Ls X mv ms):Reads prog 220 #[.agg us.toArray,.pointer (some ⟨b1,0,none⟩)] [X] (.bool (decide (1<(aY ms d).length))):=by
 have hus:us=[sv d.cls,sv d.name]:=h
 subst hus
 refine aL (n:=10) func220 Z Z (len Z) fun hr w0=>?_
 refine cQ (aV Z Z fun b2=>?_)
 refine sV (vA9 Z) (sN (nK9 [1,2,3] Z (nT (cQ (sV (vF Z mh Z) (sV (vY Z uO (ha:=⟨_,_,slq,hrd⟩)) ?_))))))
 refine sV (ag Z iM Z af) ?_
 refine aH Z Z ES Z (lq (s:=d) hm) ?_
 rintro u h' ⟨T,rfl,hu,rfl⟩
 simp only [lC,lN]
 unfold NR
 refine jk (v:=u) (E:=9) (sz:=1) (rows:=(aY ms d).map nC) slq fun wa wc hwf hwl hwm=>?_
 rw [List.length_map] at hwf hwl
 subst hwf
 refine sV (aF Z underlying40) (sV (bZ Z Z) (sV (vA9 Z) (sN (nK9 [3] Z (nT (cT ?_))))))
 rw [show decide ((1:Int)<((aY ms d).length:Nat))=decide (1<(aY ms d).length) by rw [Bool.eq_iff_iff]; simp; omega]
 exact aj Z ⟨Z,Z⟩ sbq
theorem IR {f:Fe} {x:Cm} {p:Pt} {c:FC} {b2:Nat} {pv:Value} (h:Enc.rep X us f) (h':Enc.rep X us' x) (hrd:Rd X ⟨b2,5,none⟩ pv) (hpv:Ls X pv c.pars) (hp:c.pars[x.par]? = some p) (hl:p.red.length≤1099511627776):Reads prog 210 #[.agg us.toArray,.agg us'.toArray,.pointer (some ⟨b2,0,none⟩)] [X] (.bool (!x.dfd && !p.red.contains f.name)):=by
 have hd:=AC h'
 have hlx:=Enc.len h'
 have hplt:=(List.getElem?_eq_some_iff.1 hp).1
 obtain ⟨x2,x5,xy,x11,x12,x13,rfl,_⟩:=gX h'
 obtain ⟨y2,y3,fy,y9,y10,y11,y12,y13,y14,rfl,-⟩:=mV h
 obtain ⟨pb,po,pcap,pus,rfl,hpus,hprd,hpr⟩:=hpv.at hp
 obtain ⟨pa,pr,pu,pd,pS,rfl,hpa,hpr,hpu,hpd,hpsel⟩:=hpr
 unfold nX AV at *
 have hct:=fu (El hpd) f.name hl
 refine aL (n:=23) func210 Z Z (len Z) fun hr w0=>?_
 refine cQ (aV Z Z fun b3=>?_)
 refine aV Z Z fun b4=>?_
 refine sV (vA9 Z) (sN (nK9 [2,3,4,5] Z (nT (cS (bB (ork [(0,1),(1,1),(2,2),(3,2),(4,2),(5,2),(6,1),(7,2),(8,1),(9,2),(10,2),(11,1),(12,2),(13,1),(14,1),(15,2),(16,2),(17,2)] .nil) (fun _=>true) mixed (by kernel_rfl) ?_)))))
 refine bu Z (ag Z gU hlx af) ?_
 refine kZ Z Z Z EU Z (hd) ?_
 refine dV Z (bi Z) (dV Z (vM Z) ?_)
 cases hk:x.dfd
 ·rw [Bool.not_false,Bool.true_and]
  refine jf Z Z Z (vF Z gM Z) (jf Z Z Z (vF Z eX Z) (pF Z Z Z (vY Z lT (ha:=⟨_,_,slq,hrd⟩)) ?_))
  refine jf Z Z Z (vF Z zh Z) (pF Z Z Z (vY Z ld3) ?_)
  refine jf Z Z Z (vI (k:=x.par) Z Z oF Z hplt Z) (jf Z Z Z (vF Z wY Z) (pF Z Z Z (vY Z fH (ha:=⟨_,_,slq,hprd 4 (by simp)⟩)) ?_))
  refine jf Z Z Z (vF Z oJ Z) (pF Z Z Z (vY Z ld9) ?_)
  refine y8 Z Z Z Z Z DN Z (hct) ?_
  refine jf Z Z Z (bi Z) (dV Z (vQ Z Z) (dV Z (vA9 Z) (bA (nK9 [5] Z (nT (cT ?_))))))
  exact aj Z ⟨Z,Z⟩ sbq
 ·rw [Bool.not_true,Bool.false_and]
  iterate 2 refine ku rfl rfl rfl rfl ?_
  refine nz Z Z Z Z ?_
  refine ku Z Z Z Z ?_
  refine nz Z Z Z Z ?_
  iterate 2 refine ku rfl rfl rfl rfl ?_
  refine nz Z Z Z Z ?_
  refine ku Z Z Z Z ?_
  iterate 2 refine nz rfl rfl rfl rfl ?_
  refine ku Z Z Z Z ?_
  refine dV Z (vP Z Z) (dV Z (vA9 Z) (bA (nK9 [5] Z (nT (cT ?_)))))
  exact aj Z ⟨Z,Z⟩ sbq
def kJ {α : Type} (S:Sk) (l:List α) (is : α → α → Bool) (f : α → α → Cf) (a : α × Nat) (k:Nat):List Cf:=(l.zipIdx.drop k).flatMap fun b=>if a.2=b.2∨(S.all=false∧b.2<a.2)∨is a.1 b.1=false then [] else [f a.1 b.1]
theorem vO (S:Sk) (x:Cf) (t:List Cf):S.cut (x::t)=x::(if S.all then t else []):=by
 unfold Sk.cut
 cases S.all <;> rfl
theorem Er {α : Type} {S:Sk} {l:List α} {is : α → α → Bool} {f : α → α → Cf} {a : α × Nat} {k:Nat} (h:k<l.length):kJ S l is f a k=(if a.2=k∨(S.all=false∧k<a.2)∨is a.1 l[k]=false then [] else [f a.1 l[k]])++kJ S l is f a (k+1):=by
 unfold kJ
 rw [j6 h]
theorem Bc {α : Type} {S:Sk} {l:List α} {is : α → α → Bool} {f : α → α → Cf} {a : α × Nat}:kJ S l is f a l.length=[]:=by
 unfold kJ
 rw [mG]
theorem GA {yl : Nat} {Φ : List Cf → Res → Prop} {Stop : Cf → Res → Prop} (hy : Yh yl Φ Stop) {S : Sk} {all : Bool} (hall : S.all = all) {l : List Cm} {kf : FuncId} {is : Cm → Cm → Bool} (hE : Ck.Enters prog kf) (his : ∀ a ∈ l, ∀ b ∈ l, ∀ us us' : List Value, Enc.rep X us a → Enc.rep X us' b → Reads prog kf #[.agg us.toArray, .agg us'.toArray] [X] (.bool (is a b)))
  (hv:Ls X v l) {vv fv ca cb ce cf ci mv bv:Value} (kk:Int) (R:List Cf) (r0:Res) (h0 : Φ (S.cpairs l kk is++R) r0) :
  Ct prog 207 #[.agg (eU vv fv S.c ca cb ce cf ci mv bv all).toArray,v,.int .i64 kk,.func (.func kf) #[] #[],.func (.yield yl) #[] #[]] [X,r0] fun u h'=>∃ r,h'=[X,r]∧Yend Φ Stop R u r:=by
 obtain ⟨a,cap,rfl,hlc,hcm,_⟩:=id hv.form
 have hml:maxLen=9223372036854775807:=rfl
 have hcn:=fun b=>fM (fv:=fv) (c:=S.c) (v:=vv) (ca:=ca) (cb:=cb) (ce:=ce) (cf:=cf) (ci:=ci) (mv:=mv) (bv:=bv) (all:=all) b
 unfold eU at *
 refine aL (n:=67) func207 Z Z (len Z) fun hr w0=>?_
 refine cQ (aV Z Z fun b5=>?_)
 refine sV (vA9 Z) (sN (nK9 [1,2,3,4,5,10] Z (nT (cS (cQ (sM Z (sV (aF Z underlying187) (sM Z (sN (nT (cB (aZ (σ := Res×Nat) (fun q=>[(1,.slice a l.length cap),(2,.int .i64 kk),(3,.func (.func kf) #[] #[]),(4,.func (.yield yl) #[] #[]),(5,.pointer (some ⟨b5,0,none⟩)),(15,.slice a l.length cap),(16,.int .i64 l.length),(17,.int .i64 (q.2:Nat))]) (fun q=>pt b5 (cl [vv,fv,sv S.c.name,.bool S.c.dfd,ca,cb,ce,cf,ci,mv,bv,.bool all] 206)::X::q.1::hr) (fun q=>q.2≤l.length ∧ Φ (S.cut ((l.zipIdx.drop q.2).flatMap fun a=>kJ S l is (fun a b=>S.cf kk a.mem.name a.og b.og) a 0)++R) q.1) (fun q=>l.length - q.2) (r0,0) ⟨Nat.zero_le _,h0⟩ ?_))))))))))))
 rintro ⟨r,i⟩ ⟨hi,hΦ⟩
 simp only at hi hΦ
 dsimp only
 refine cQ (sV (aO Z Z) (sN (nT (cS (cC Z (fun hd=>?_) (fun hd=>?_))))))
 ·have hlt:i<l.length:=by simpa using hd
  rw [j6 hlt] at hΦ
  have hai:=List.getElem_mem hlt
  obtain ⟨ab,ao,acap,aus,e1,haus,hard,hare⟩:=hv.at (List.getElem?_eq_getElem hlt)
  obtain ⟨rfl,rfl⟩:a=some ⟨ab,ao,none⟩∧cap=acap:=by cases e1; exact ⟨rfl,rfl⟩
  have hisa:=his _ hai
  generalize hxa:l[i]=x at hΦ hare hisa
  have hone:=Enc.ones hare
  have hre:=hare
  obtain ⟨x2,x5,xy,x11,x12,x13,rfl,hxm⟩:=gX hare
  have hogx:=fun b=>mW (b:=b) (x:=x) (x2:=x2) (x5:=x5) (y:=xy) (x11:=x11) (x12:=x12) (x13:=x13)
  unfold nX at *
  refine cK9 (xT (cS (cB (cQ (sM Z (sV (vI (k:=i) Z Z lg Z hlt Z) (sV (ag Z gU Z hard) ?_)))))))
  refine au qF fun b12=>?_
  refine sV (vA9 Z) (ai Z Z l9 Z hone ?_)
  refine sN (nK9 [1,2,3,4,5,11,12,15,16,17] Z (nT (cQ (sM Z (sV (aF Z underlying187) (sM Z (sN (nT (cB (aZ (σ := Res×Nat) (fun q=>[(1,.slice (some ⟨ab,ao,none⟩) l.length cap),(2,.int .i64 kk),(3,.func (.func kf) #[] #[]),(4,.func (.yield yl) #[] #[]),(5,.pointer (some ⟨b5,0,none⟩)),(15,.slice (some ⟨ab,ao,none⟩) l.length cap),(16,.int .i64 l.length),(17,.int .i64 (i:Nat)),(11,.int .i64 (i:Nat)),(12,.pointer (some ⟨b12,0,none⟩)),(22,.slice (some ⟨ab,ao,none⟩) l.length cap),(23,.int .i64 l.length),(24,.int .i64 (q.2:Nat))]) (fun q=>pt b12 (cl [sv x.og.par,sv x.og.name,.int .i64 x.par,sv x.mem.name,.int .i64 x.mem.kind,x2,sv x.mem.impl.cls,sv x.mem.impl.name,x5,.int .i64 x.mem.ty.kind,sv x.mem.ty.name,xy,.bool x.mem.ty.void,.bool x.mem.ty.sep,x11,x12,x13,.int .i64 x.was] 191)::pt b5 (cl [vv,fv,sv S.c.name,.bool S.c.dfd,ca,cb,ce,cf,ci,mv,bv,.bool all] 206)::X::q.1::hr) (fun q=>q.2≤l.length ∧ Φ (S.cut (kJ S l is (fun a b=>S.cf kk a.mem.name a.og b.og) (x,i) q.2++(l.zipIdx.drop (i+1)).flatMap fun a=>kJ S l is (fun a b=>S.cf kk a.mem.name a.og b.og) a 0)++R) q.1) (fun q=>l.length - q.2) (r,0) ⟨Nat.zero_le _,hΦ⟩ ?_))))))))))
  clear hΦ
  rintro ⟨r,k⟩ ⟨hk,hΦ⟩
  simp only at hk hΦ
  dsimp only
  refine cQ (sV (aO Z Z) (sN (nT (cS (cC Z (fun hd2=>?_) (fun hd2=>?_))))))
  ·have hltk:k<l.length:=by simpa using hd2
   rw [Er hltk] at hΦ
   have hbi:=List.getElem_mem hltk
   obtain ⟨bb,bo,bcap,bus,e2,hbus,hbrd,hbre⟩:=hv.at (List.getElem?_eq_getElem hltk)
   obtain ⟨rfl,rfl⟩:ab=bb∧ao=bo:=by cases e2; exact ⟨rfl,rfl⟩
   have hisb:=fun us'=>hisa _ hbi _ us' hre
   generalize l[k]=y at hΦ hbre hisb
   have honeb:=Enc.ones hbre
   have hisy:=hisb _ hbre
   obtain ⟨y2,y5,yy,y11,y12,y13,rfl,hym⟩:=gX hbre
   have hogy:=fun b=>mW (b:=b) (x:=y) (x2:=y2) (x5:=y5) (y:=yy) (x11:=y11) (x12:=y12) (x13:=y13)
   unfold nX at *
   refine cK9 (xT (cS (cB (cQ (sM Z (sV (vI (k:=k) Z Z lg Z hltk Z) (sV (ag Z gU Z hbrd) ?_)))))))
   refine au qF fun b14=>?_
   refine sV (vA9 Z) (ai Z Z l9 Z honeb ?_)
   refine sN (nK9 [1,2,3,4,5,11,12,13,14,15,16,17,22,23,24] Z (nT (cS (cQ (sM Z (sM Z (sV (dB Z Z) (sM Z ?_))))))))
   by_cases hik:i=k
   ·have hq:(((i:Nat):Int) == ((k:Nat):Int))=true:=by rw [hik]; simp
    rw [hq]
    iterate 4 refine aC rfl rfl rfl ?_
    refine bX Z Z ?_
    refine bX Z Z ?_
    refine bX Z Z ?_
    refine aC Z Z Z ?_
    refine sV (vQ Z Z) (sM Z (aC Z Z Z ?_))
    iterate 4 refine aC rfl rfl rfl ?_
    refine sV (vQ Z Z) (sN (nK9 [1,2,3,4,5,11,12,14,15,16,17,22,23,24,48] Z (nT (aT Z ?_))))
    refine aB (xE (xY (xT (cR (sV (aI Z Z (by unfold I64 at *; omega)) (sM Z (sN (nK9 [1,2,3,4,5,11,12,15,16,17,22,23,24] Z (ax ?_)))))))))
    refine aJ (r,k+1) ⟨hltk,by rw [if_pos (.inl hik)] at hΦ; exact hΦ⟩ (by dsimp only; omega)
   ·have hq:(((i:Nat):Int) == ((k:Nat):Int))=false:=by simp; omega
    rw [hq]
    refine sG Z Z (vF Z oL Z) (sG Z Z (vY Z ld4) ?_)
    refine sG Z Z (bi Z) (sG Z Z (vM Z) ?_)
    cases all
    ·refine sG Z Z (vM Z) (sG Z Z (vM Z) (sG Z Z (aO Z Z) (sG Z Z (vQ Z Z) (sV (vP Z Z) (sM Z ?_)))))
     by_cases hki:k<i
     ·have hq2:decide (((k:Nat):Int)<((i:Nat):Int))=true:=by simp; omega
      rw [hq2]
      iterate 5 refine aC rfl rfl rfl ?_
      refine sV (vQ Z Z) (sN (nK9 [1,2,3,4,5,11,12,14,15,16,17,22,23,24,48] Z (nT (aT Z ?_))))
      refine aB (xE (xY (xT (cR (sV (aI Z Z (by unfold I64 at *; omega)) (sM Z (sN (nK9 [1,2,3,4,5,11,12,15,16,17,22,23,24] Z (ax ?_)))))))))
      refine aJ (r,k+1) ⟨hltk,by rw [if_pos (.inr (.inl ⟨hall,hki⟩))] at hΦ; exact hΦ⟩ (by dsimp only; omega)
     ·have hq2:decide (((k:Nat):Int)<((i:Nat):Int))=false:=by simp; omega
      rw [hq2]
      refine sG Z Z (vM Z) (sG Z Z (ag Z gU Z af) ?_)
      refine sG Z Z (ag Z gU Z af) ?_
      refine bR Z Z Z Z hE Z (hisy) ?_
      refine sG Z Z (bi Z) (sV (vP Z Z) (sN (nK9 [1,2,3,4,5,11,12,14,15,16,17,22,23,24,48] Z (nT (cC Z (fun hn=>?_) (fun hn=>?_))))))
      ·have hn:is x y=false:=by simpa using hn
       refine aB (xE (xY (xT (cR (sV (aI Z Z (by unfold I64 at *; omega)) (sM Z (sN (nK9 [1,2,3,4,5,11,12,15,16,17,22,23,24] Z (ax ?_)))))))))
       refine aJ (r,k+1) ⟨hltk,by rw [if_pos (.inr (.inr hn))] at hΦ; exact hΦ⟩ (by dsimp only; omega)
      ·have hn:¬ is x y=false:=by simpa using hn
       have hΦ3 : Φ (S.cf kk x.mem.name x.og y.og::((if S.all then kJ S l is (fun a b=>S.cf kk a.mem.name a.og b.og) (x,i) (k+1)++(l.zipIdx.drop (i+1)).flatMap (fun a=>kJ S l is (fun a b=>S.cf kk a.mem.name a.og b.og) a 0) else [])++R)) r:=by
        rw [if_neg (fun h=>h.elim hik fun h=>h.elim (fun h=>hki h.2) hn)] at hΦ
        rw [lC,lN,List.cons_append,vO] at hΦ
        exact hΦ
       refine cK9 (xT (cS (cQ (sM Z (sV (ag Z fC Z af) ?_)))))
       refine sM Z (sV (vF Z dN Z) (sV (vF Z eH Z) (sV (vY Z ld9) ?_)))
       refine sV (vF Z ji Z) (sV (ag Z pY Z (mW (x:=x))) ?_)
       refine sV (vF Z ji Z) (sV (ag Z pY Z (mW (x:=y))) ?_)
       refine bg Z Z jR Z (hcn kk x.mem.name x.og y.og) ?_
       refine j4 (gd:=0) (.inl Z) Z Z (hy _ _ _ hΦ3) ?_
       rintro u h' (⟨rfl,r',hΦ4,rfl⟩ | ⟨rfl,r',hst,rfl⟩)
       ·simp only [lC,lN]
        refine sV (bi Z) (sN (nK9 [1,2,3,4,5,11,12,15,16,17,22,23,24,61] Z (nT (aG Z ?_))))
        refine cK9 (xT (cQ (sV (vF Z oL Z) (sV (vY Z ld4) ?_))))
        refine sV (bi Z) (sN (nK9 [1,2,3,4,5,11,12,15,16,17,22,23,24,64] Z (nT (aT Z ?_))))
        refine cQ (sV (vA9 Z) (sN (nK9 [10] Z (nT (cT (xW (xR (xR (xW (xW (xR (xR (xW (xR ?_))))))))))))))
        rw [hall] at hΦ4
        exact aj Z ⟨r',Z,.inl ⟨Z,hΦ4⟩⟩ sbq
       ·simp only [lC,lN]
        refine sV (bi Z) (sN (nK9 [1,2,3,4,5,11,12,15,16,17,22,23,24,61] Z (nT (aT Z ?_))))
        refine cQ (sV (vA9 Z) (sN (nK9 [10] Z (nT (cT (xR (xW (xR (xR (xW (xW (xR (xR (xW ?_))))))))))))))
        refine xR ?_
        exact aj Z ⟨r',Z,.inr ⟨Z,_,hst⟩⟩ sbq
    ·iterate 3 refine aC rfl rfl rfl ?_
     refine sG Z Z (vP Z Z) (sV (vP Z Z) (sM Z (sG Z Z (vM Z) (sG Z Z (ag Z gU Z af) ?_))))
     refine sG Z Z (ag Z gU Z af) ?_
     refine bR Z Z Z Z hE Z (hisy) ?_
     refine sG Z Z (bi Z) (sV (vP Z Z) (sN (nK9 [1,2,3,4,5,11,12,14,15,16,17,22,23,24,48] Z (nT (cC Z (fun hn=>?_) (fun hn=>?_))))))
     ·have hn:is x y=false:=by simpa using hn
      refine aB (xE (xY (xT (cR (sV (aI Z Z (by unfold I64 at *; omega)) (sM Z (sN (nK9 [1,2,3,4,5,11,12,15,16,17,22,23,24] Z (ax ?_)))))))))
      refine aJ (r,k+1) ⟨hltk,by rw [if_pos (.inr (.inr hn))] at hΦ; exact hΦ⟩ (by dsimp only; omega)
     ·have hn:¬ is x y=false:=by simpa using hn
      have hΦ3 : Φ (S.cf kk x.mem.name x.og y.og::((if S.all then kJ S l is (fun a b=>S.cf kk a.mem.name a.og b.og) (x,i) (k+1)++(l.zipIdx.drop (i+1)).flatMap (fun a=>kJ S l is (fun a b=>S.cf kk a.mem.name a.og b.og) a 0) else [])++R)) r:=by
       rw [if_neg (fun h=>h.elim hik fun h=>h.elim (fun h=>by rw [hall] at h; cases h.1) hn)] at hΦ
       rw [lC,lN,List.cons_append,vO] at hΦ
       exact hΦ
      refine cK9 (xT (cS (cQ (sM Z (sV (ag Z fC Z af) ?_)))))
      refine sM Z (sV (vF Z dN Z) (sV (vF Z eH Z) (sV (vY Z ld9) ?_)))
      refine sV (vF Z ji Z) (sV (ag Z pY Z (mW (x:=x))) ?_)
      refine sV (vF Z ji Z) (sV (ag Z pY Z (mW (x:=y))) ?_)
      refine bg Z Z jR Z (hcn kk x.mem.name x.og y.og) ?_
      refine j4 (gd:=0) (.inl Z) Z Z (hy _ _ _ hΦ3) ?_
      rintro u h' (⟨rfl,r',hΦ4,rfl⟩ | ⟨rfl,r',hst,rfl⟩)
      ·simp only [lC,lN]
       refine sV (bi Z) (sN (nK9 [1,2,3,4,5,11,12,15,16,17,22,23,24,61] Z (nT (aG Z ?_))))
       refine cK9 (xT (cQ (sV (vF Z oL Z) (sV (vY Z ld4) ?_))))
       refine sV (bi Z) (sN (nK9 [1,2,3,4,5,11,12,15,16,17,22,23,24,64] Z (nT (aG Z ?_))))
       refine cK9 (xB (xT (cR (sV (aI Z Z (by unfold I64 at *; omega)) (sM Z (sN (nK9 [1,2,3,4,5,11,12,15,16,17,22,23,24] Z (ax ?_))))))))
       rw [hall] at hΦ4
       refine aJ (r',k+1) ⟨hltk,by unfold Sk.cut; rw [hall]; exact hΦ4⟩ (by dsimp only; omega)
      ·simp only [lC,lN]
       refine sV (bi Z) (sN (nK9 [1,2,3,4,5,11,12,15,16,17,22,23,24,61] Z (nT (aT Z ?_))))
       refine cQ (sV (vA9 Z) (sN (nK9 [10] Z (nT (cT (xR (xW (xR (xR (xW (xW (xR (xR (xW ?_))))))))))))))
       refine xR ?_
       exact aj Z ⟨r',Z,.inr ⟨Z,_,hst⟩⟩ sbq
  ·have hie:k=l.length:=by
    have:¬ k<l.length:=by simpa using hd2
    omega
   subst hie
   rw [Bc,List.nil_append] at hΦ
   refine aB (xE (xE (xY (xB (xT (cR (sV (aI Z Z (by unfold I64 at *; omega)) (sM Z (sN (nK9 [1,2,3,4,5,15,16,17] Z (ax ?_)))))))))))
   refine aJ (r,i+1) ⟨hlt,hΦ⟩ (by dsimp only; omega)
 ·have hie:i=l.length:=by
   have:¬ i<l.length:=by simpa using hd
   omega
  subst hie
  rw [mG] at hΦ
  have hΦ : Φ R r:=by
   have:S.cut []=[]:=by unfold Sk.cut; split <;> rfl
   rw [this] at hΦ; exact hΦ
  refine aB (xE (xE (xY (xT (cQ (sV (vA9 Z) (sN (nK9 [10] Z (nT (cT ?_))))))))))
  exact aj Z ⟨r,Z,.inl ⟨Z,hΦ⟩⟩ sbq
end
end Go.Fl
