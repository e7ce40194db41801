/-
  Package flat: apart yields conflicts of the kind CnApart. Conditions: what is read; sizes.
-/
import Derived.Test.YtknmacdbffgjgaaGreatDoorM23
set_option linter.unusedVariables false
set_option linter.unusedSimpArgs false
set_option maxRecDepth 100000
set_option maxHeartbeats 16000000
namespace Go.Fl
open Go Go.RowKit Go.Ck Go.Proofs Go.Proofs.Tryz Go.Proofs.YtknmacdbffgjgaaGreatDoor Fx Go.Hr
namespace Sk
section
variable (s:Sk)
def rx (k:Nat) (n:Nm) (x:Cm):List Cf:=match feat s.c n with
 | none=>[]
 | some f=>if s.redK f x k then [s.cf (6+k) n x.og og0] else []
def rn (k:Nat) (n:Nm):List Cf:=(under s.cs n).flatMap (s.rx k n)
def rk (k:Nat):List Cf:=s.skeys.flatMap (s.rn k)
theorem redeclared_eq:s.redeclared=[0,1,2].flatMap s.rk:=by
 unfold redeclared
 refine dG λk _=>dG λn _=>?_
 unfold rn rx
 cases feat s.c n with
 | none=>simp
 | some f=>rfl
theorem keys_few {s:Sk} (hB:SkB s):(keys s.cs).length≤240:=Nat.le_trans (AA s.cs) (hB.fits.few<|.inl hB.cls)
theorem skeys_len (s:Sk):s.skeys.length=(keys s.cs).length:=Nat.le_antisymm
 (aT (iQ _).1.nodup λx hx=>((iQ _).2 x).1 hx) (aT (iq _) λx hx=>((iQ _).2 x).2 hx)
end
end Sk
def kcap (b:Nat) (k:Nat):Array Value:=if k=1 then #[.pointer (some ⟨b,0,none⟩)] else #[]
def kfun (b k:Nat):Value:=.func (.func (209+k)) #[] (kcap b k)
theorem kfun_at {b k:Nat} (h:k<3):([Value.func (.func 209) #[] #[],.func (.func 210) #[] #[.pointer (some ⟨b,0,none⟩)],.func (.func 211) #[] #[]]:List Value)[k]? = some (kfun b k):=by
 match k,h with
 | 0,_=>rfl
 | 1,_=>rfl
 | 2,_=>rfl
theorem en209k {k:Nat} (h:k<3):Ck.Enters prog (209+k):=by
 match k,h with
 | 0,_=>exact en209
 | 1,_=>exact en210
 | 2,_=>exact en211
attribute [local irreducible] Go.Ck.Sub St Cd Xt Nx DrL LsW
section
variable {X Y:Res} {v v':Value} {us us':List Value}
theorem redK_ct {S:Sk} {f:Fe} {x:Cm} {p:Pt} {b2 k:Nat} {pv:Value} (hk:k<3) (h:Enc.rep X us f) (h':Enc.rep X us' x) (hrd:Rd X ⟨b2,5,none⟩ pv) (hpv:Ls X pv S.c.pars) (hp:S.c.pars[x.par]? = some p) (hl:p.red.length≤1099511627776) :
  Reads prog (209+k) (#[]++([.agg us.toArray,.agg us'.toArray]:List Value).toArray++kcap b2 k) [X] (.bool<|S.redK f x k):=by
 have hpx:dF S.c x.par=p:=by unfold dF; rw [hp]; rfl
 match k,hk with
 | 0,_=>exact reads_nil (Jh h h')
 | 1,_ =>
  have:=Jm h h' hrd hpv hp hl
  unfold Sk.redK
  rw [hpx]
  exact this
 | 2,_=>exact Ji h h'

theorem Bg {yl mb bm : Nat} {Φ : List Cf -> Res -> Prop} {Stop : Cf -> Res -> Prop} (hy : Yh yl Φ Stop) {S : Sk} {all : Bool} (hall : S.all = all) {m bmp : List (Nm × Value)} {ca cb ce cf ci mv : Value} (hK : SkR X S v m ca cb ce cf ci mv bmp) (hB : SkB S) (hk0 : bmp.map (λp => p.1) = keys S.cs) (R : List Cf) (r0 : Res) (h0 : Φ (S.redeclared ++ R) r0) :
  CtX prog 129 #[.agg (eZ v (.map<|some mb) S.c ca cb ce cf ci mv (.map<|some bm) all).toArray,.func (.yield yl) #[] #[]] X [mps mb m,mps bm bmp,r0] λu Y k'=>∃ r,k'=[mps mb m,mps bm bmp,r]/\Yend Φ Stop R u r:=by
 have hml:maxLen=9223372036854775807:=rfl
 obtain ⟨cb,ck,rfl,hckl,hckm,_⟩:=id hK.par.form
 obtain ⟨cf,cfk,rfl,_⟩:=id hK.feat.form
 obtain ⟨mA,mK,rfl,_⟩:=id hK.ms.form
 have hcn:=λb=>fU (fv:=.map<|some mb) (c:=S.c) (v:=v) (ca:=ca) (cb:=.slice cb S.c.pars.length ck) (ce:=ce) (cf:=.slice cf S.c.feats.length cfk) (ci:=ci) (mv:=.slice mA S.ms.length mK) (bv:=.map<|some bm) (all:=all) b
 have hfew:=Sk.keys_few hB
 have hsl:=Sk.skeys_len S
 have hbl:bmp.length=(keys S.cs).length:=by rw [<- hk0,List.length_map]
 have hnd:(bmp.map λp=>p.1).Nodup:=by rw [hk0]; exact iq _
 have hsk:srt (bmp.map λp=>p.1)=S.skeys:=by rw [hk0]; rfl
 rw [Sk.redeclared_eq] at h0
 unfold CtX
 unfold eZ at *
 refine aL (n:=72) func129 Z Z (len Z) λhr w0=>?_
 refine cQ (aP Z Z λb2=>?_)
 refine sA Z<|sK [1,2,4] Z<|cQ<|sV (cz Z Z) (au (cells:=[.func (.func 209) #[] #[],.func (.func 210) #[] #[.pointer (some ⟨b2,0,none⟩)],.func (.func 211) #[] #[]]) Z underlying282 inf281 Z Z Zz (ltn Z) λb15=>?_)
 refine sA Z<|sK [1,2,4,5] Z<|cS<|cQ<|sM Z<|sV (aF Z underlying282)<|sM Z<|sK [1,2,4,16,17,18] Z<|cB<|aW (σ := Res×Nat) (λq=>[(1,.func (.yield yl) #[] #[]),(2,.pointer (some ⟨b2,0,none⟩)),(16,.slice (some ⟨b15,0,none⟩) 3 3),(17,.int .i64 ((3:Nat):Int)),(18,.int .i64 (q.2:Nat))]) (λq=>pt b15 (cl [.func (.func 209) #[] #[],.func (.func 210) #[] #[.pointer (some ⟨b2,0,none⟩)],.func (.func 211) #[] #[]] 281)::pt b2 (cl [v,.map (some mb),sv S.c.name,.bool S.c.dfd,ca,.slice cb S.c.pars.length ck,ce,.slice cf S.c.feats.length cfk,ci,.slice mA S.ms.length mK,.map (some bm),.bool all] 206)::X::mps mb m::mps bm bmp::q.1::hr) (λq=>q.2≤3 /\ Φ (([0,1,2].drop q.2).flatMap S.rk++R) q.1) (λq=>3 - q.2) (r0,0) ⟨Nat.zero_le _,h0⟩ ?_
 rintro ⟨r,k⟩ ⟨hk,hΦ⟩
 simp only at hk hΦ
 dsimp only
 refine cQ<|sV (aN Z Z)<|sN<|nT<|cS<|cC Z (λhd=>?_)<|λhd=>?_
 ·have hlt:k<3:=by have:=of_decide_eq_true hd; omega
  rw [eD (xs:=[0,1,2]) hlt,List.append_assoc] at hΦ
  have hk3:([0,1,2]:List Nat)[k]=k:=by
   match k,hlt with
   | 0,_=>rfl
   | 1,_=>rfl
   | 2,_=>rfl
  rw [hk3] at hΦ
  generalize hA:([0,1,2].drop (k+1)).flatMap S.rk++R=A at hΦ
  have hΦ : Φ (S.skeys.flatMap (S.rn k)++A) r:=hΦ
  have hsk':=kfun_at (b:=b2) hlt
  refine cK<|xT<|cS<|cB<|cQ<|sM Z<|sV (vI (k:=k) Z Z sl282 Z hlt Z)<|sV (vY Z ld281 (ha:=⟨_,_,slq,bU<|by simpa using hsk'⟩)) ?_
  refine sA Z<|sA Z<|sK [1,2,6,7,16,17,18] Z<|cQ<|sV (vF Z o9 Z)<|sV (vY Z qW) ?_
  refine aJ Z Z en213 Z (uC) ?_
  rintro u h' ⟨b1,rfl,rfl⟩
  simp only [lC,lN]
  refine aJ Z Z en212 Z (p8 (by omega) hnd) ?_
  rintro u h' ⟨hu,rfl⟩
  simp only [lC,lN]
  rw [hsk]
  unfold NR
  refine jB (v:=u) (E:=9) (sz:=1) (rows:=S.skeys.map nC) slq λwa wc hwf hwl hwm=>?_
  rw [List.length_map] at hwf hwl
  subst hwf
  unfold kfun
  refine sV (aF Z underlying40)<|sM Z<|sK [1,2,6,7,16,17,18,26,27,28] Z<|cB<|aW (σ := Res×Nat) (λq=>[(1,.func (.yield yl) #[] #[]),(2,.pointer (some ⟨b2,0,none⟩)),(16,.slice (some ⟨b15,0,none⟩) 3 3),(17,.int .i64 ((3:Nat):Int)),(18,.int .i64 (k:Nat)),(6,.int .i64 (k:Nat)),(7,.func (.func (209+k)) #[] (kcap b2 k)),(26,.slice wa S.skeys.length wc),(27,.int .i64 S.skeys.length),(28,.int .i64 (q.2:Nat))]) (λq=>VR (.slice wa S.skeys.length wc) 9 1 (S.skeys.map nC)::pt b15 (cl [.func (.func 209) #[] #[],.func (.func 210) #[] #[.pointer (some ⟨b2,0,none⟩)],.func (.func 211) #[] #[]] 281)::pt b2 (cl [v,.map (some mb),sv S.c.name,.bool S.c.dfd,ca,.slice cb S.c.pars.length ck,ce,.slice cf S.c.feats.length cfk,ci,.slice mA S.ms.length mK,.map (some bm),.bool all] 206)::X::mps mb m::mps bm bmp::q.1::hr) (λq=>q.2≤S.skeys.length /\ Φ ((S.skeys.drop q.2).flatMap (S.rn k)++A) q.1) (λq=>S.skeys.length - q.2) (r,0) ⟨Nat.zero_le _,hΦ⟩ ?_
  clear hΦ
  rintro ⟨r,j⟩ ⟨hj,hΦ⟩
  simp only at hj hΦ
  dsimp only
  refine cQ<|sV (aN Z Z)<|sN<|nT<|cS<|cC Z (λhd2=>?_)<|λhd2=>?_
  ·have hltj:j<S.skeys.length:=Zw
   rw [eD hltj,List.append_assoc] at hΦ
   have hnx:(S.skeys.map nC)[j]? = some [sv S.skeys[j]]:=by rw [List.getElem?_map,Zy hltj]; rfl
   refine fQ (r:=VR (.slice wa S.skeys.length wc) 9 1<|S.skeys.map nC) slq λhok=>?_
   obtain ⟨ab,ao,rfl⟩:∃ ab ao,wa=some ⟨ab,ao,none⟩:=by
    obtain ⟨f0,hf0⟩:=hok
    rcases VR.form hf0 with ⟨h3,h4⟩ | ⟨b,o,cp,h3,-⟩
    ·have:=List.map_eq_nil_iff.1 h4
     rw [this] at hltj; simp at hltj
    ·rw [List.length_map] at h3; cases h3; exact ⟨b,o,rfl⟩
   generalize S.skeys[j]=n at hΦ hnx
   generalize hA2:(S.skeys.drop (j+1)).flatMap (S.rn k)++A=A2 at hΦ
   have hΦ : Φ ((under S.cs n).flatMap (S.rx k n)++A2) r:=hΦ
   have hul:=hB.under n
   have hun:=hK.by' n
   have hpar:∀ x∈under S.cs n,∃ p,S.c.pars[x.par]? = some p/\p.red.length≤1099511627776:=λx hx=>by
    obtain ⟨p,hp,-⟩:=jl (List.mem_filter.1 hx).1
    exact ⟨p,hp,by have:=(hB.lists<|List.mem_of_getElem? hp).2.2.1; omega⟩
   obtain ⟨la,lc,hlv,hlc,-,-⟩:=id hun.form
   refine cK<|xT<|cS<|cB<|cQ<|sV (vI (k:=j) Z Z iZ Z hltj Z)<|sV (vY Z ld9 (ha:=⟨_,_,slq,eX hnx 0<|by simp⟩)) ?_
   refine sA Z<|sK [1,2,6,7,9,16,17,18,26,27,28] Z<|cQ<|sV (vF Z gU Z)<|sV (vF Z kF Z)<|sV (vY Z yu) ?_
   refine sM Z<|aJ Z Z xM Z (jc (n:=n) hK.feat) ?_
   rintro u h' ⟨rfl,gus,rfl,hgr⟩
   simp only [lC,lN]
   have hg15:gus.length=15:=Enc.len hgr
   have hgo:=Enc.ones hgr
   refine sM Z<|sV (ah Z Z)<|sV (ah Z Z) (ak lS λb10=>?_)
   refine ai (hl:=by rw [hg15]; rfl) Z Z jX hg15 hgo ?_
   have hmf:(S.c.feats.find? λc=>c.name == n)=feat S.c n:=rfl
   rw [hmf]
   rw [hmf] at hgr
   refine sA Z<|sK [1,2,6,7,9,10,11,16,17,18,26,27,28] Z<|cQ<|sV (vF Z o9 Z)<|sV (vY Z qW) ?_
   refine sM Z ?_
   rw [hlv] at hun
   refine sV (gG hlv<|bI Z Z sQ tN slq) ?_
   refine sV (aF Z underlying187)<|sM Z<|sK [1,2,6,7,9,10,11,16,17,18,26,27,28,43,44,45] Z<|cB<|aW (σ := Res×Nat) (λq=>[(1,.func (.yield yl) #[] #[]),(2,.pointer (some ⟨b2,0,none⟩)),(16,.slice (some ⟨b15,0,none⟩) 3 3),(17,.int .i64 ((3:Nat):Int)),(18,.int .i64 (k:Nat)),(6,.int .i64 (k:Nat)),(7,.func (.func (209+k)) #[] (kcap b2 k)),(26,.slice (some ⟨ab,ao,none⟩) S.skeys.length wc),(27,.int .i64 S.skeys.length),(28,.int .i64 (j:Nat)),(9,sv n),(10,.pointer (some ⟨b10,0,none⟩)),(11,.bool (feat S.c n).isSome),(43,.slice la (under S.cs n).length lc),(44,.int .i64 (under S.cs n).length),(45,.int .i64 (q.2:Nat))]) (λq=>pt b10 (cl gus 130)::VR (.slice (some ⟨ab,ao,none⟩) S.skeys.length wc) 9 1 (S.skeys.map nC)::pt b15 (cl [.func (.func 209) #[] #[],.func (.func 210) #[] #[.pointer (some ⟨b2,0,none⟩)],.func (.func 211) #[] #[]] 281)::pt b2 (cl [v,.map (some mb),sv S.c.name,.bool S.c.dfd,ca,.slice cb S.c.pars.length ck,ce,.slice cf S.c.feats.length cfk,ci,.slice mA S.ms.length mK,.map (some bm),.bool all] 206)::X::mps mb m::mps bm bmp::q.1::hr) (λq=>q.2≤(under S.cs n).length /\ Φ (((under S.cs n).drop q.2).flatMap (S.rx k n)++A2) q.1) (λq=>(under S.cs n).length - q.2) (r,0) ⟨Nat.zero_le _,hΦ⟩ ?_
   clear hΦ
   generalize hL:under S.cs n=L at hun hpar hul
   rintro ⟨r,i⟩ ⟨hi,hΦ⟩
   simp only at hi hΦ
   dsimp only
   refine cQ<|sV (aN Z Z)<|sN<|nT<|cS<|cC Z (λhd3=>?_)<|λhd3=>?_
   ·have hlti:i<L.length:=Zp
    rw [eD hlti,List.append_assoc] at hΦ
    have hpx:=hpar _<|List.getElem_mem hlti
    obtain ⟨cb',co,ccap,cus,e4,hcus,hcrd,hcr⟩:=hun.at<|Zy hlti
    obtain ⟨rfl,rfl⟩:la=some ⟨cb',co,none⟩/\lc=ccap:=by cases e4; exact ⟨rfl,rfl⟩
    generalize L[i]=y at hΦ hcr hpx
    obtain ⟨p,hpp,hprl⟩:=hpx
    have hcr0:=hcr
    have hyo:=Enc.ones hcr
    obtain ⟨y2,y5,yy,y11,y12,y13,rfl,-⟩:=iB hcr
    have hogy:=λb=>nL (b:=b) (x:=y) (x2:=y2) (x5:=y5) (y:=yy) (x11:=y11) (x12:=y12) (x13:=y13)
    unfold oL at *
    refine cK<|xT<|cS<|cB<|cQ<|sV (vI (k:=i) Z Z lJ Z hlti Z)<|sV (af Z ic Z hcrd) ?_
    refine ak q8 λb13=>?_
    refine ai Z Z mM Z hyo ?_
    refine sK [1,2,6,7,9,10,11,13,16,17,18,26,27,28,43,44,45] Z<|cQ<|sM Z<|sM Z ?_
    cases hq:feat S.c n
    ·have hrx:S.rx k n y=[]:=by unfold Sk.rx; rw [hq]
     rw [hrx,List.nil_append] at hΦ
     iterate 4 refine aB rfl rfl rfl ?_
     refine sV (vP Z Z)<|sM Z<|aB Z Z Z ?_
     iterate 10 refine aB rfl rfl rfl ?_
     refine sV (vP Z Z)<|sK [1,2,6,7,9,10,11,16,17,18,26,27,28,43,44,45,68] Z<|aH Z ?_
     refine cK<|xB<|xT<|cR<|sV (aI Z Z Z0)<|sM Z<|sN<|nK [1,2,6,7,9,10,11,16,17,18,26,27,28,43,44,45] Z<|ax ?_
     refine aM (r,i+1) ⟨hlti,hΦ⟩ (by dsimp only; omega)
    ·rename_i f
     have hrx:S.rx k n y=if S.redK f y k then [S.cf (6+k) n y.og og0] else []:=by unfold Sk.rx; rw [hq]
     rw [hrx] at hΦ
     have hgr:Enc.rep X gus f:=by rw [hq] at hgr; exact hgr
     have hrk:=redK_ct (b2:=b2) hlt (Enc.up (bH<|.there .here) hgr) (Enc.up (bH<|.there .here) hcr0) (X:=Res.star [pt b2 (cl [v,.map (some mb),sv S.c.name,.bool S.c.dfd,ca,.slice cb S.c.pars.length ck,ce,.slice cf S.c.feats.length cfk,ci,.slice mA S.ms.length mK,.map (some bm),.bool all] 206),X]) (bH .here _ _<|bU rfl) (hK.par.up'<|bH<|.there .here) hpp hprl
     have hrk:=eU hrk
     unfold oL at hrk
     refine sG Z Z (vM Z)<|sG Z Z (af Z oq hg15 ag) ?_
     refine sG Z Z (af Z ic Z ag) ?_
     refine bJ Z Z Z Z (en209k hlt) Z (hrk) ?_
     refine sV (vQ Z Z)<|sM Z ?_
     generalize S.redK f y k=bq at hΦ
     cases bq
     ·have hΦ : Φ ((L.drop (i+1)).flatMap (S.rx k n)++A2) r:=hΦ
      iterate 11 refine aB rfl rfl rfl ?_
      refine sV (vP Z Z)<|sK [1,2,6,7,9,10,11,16,17,18,26,27,28,43,44,45,68] Z<|aH Z ?_
      refine cK<|xB<|xT<|cR<|sV (aI Z Z Z0)<|sM Z<|sN<|nK [1,2,6,7,9,10,11,16,17,18,26,27,28,43,44,45] Z<|ax ?_
      refine aM (r,i+1) ⟨hlti,hΦ⟩ (by dsimp only; omega)
     ·have hΦ2 : Φ (S.cf (6+k) n y.og og0::((L.drop (i+1)).flatMap (S.rx k n)++A2)) r:=hΦ
      refine sG Z Z (vM Z)<|sG Z Z (af Z fH Z ag) ?_
      refine sG Z Z (vM Z)<|sG Z Z (aI Z Z Z0)<|sG Z Z (vM Z)<|sG Z Z (vF Z jw Z)<|sG Z Z (af Z qC Z (hogy b13) (s:=.here)) ?_
      refine sG Z Z (aO (cells:=[sv [],sv []]) Z<|λ_=>Zz) ?_
      refine bJ Z Z Z Z jZ Z (hcn (6+(k:Nat)) n y.og og0) ?_
      refine kz (gd:=56) (.inr ⟨_,_,Z,Z,Z⟩) Z Z (hy _ _ _ hΦ2) ?_
      rintro u h' (⟨rfl,r',hΦ4,rfl⟩ | ⟨rfl,r',hst,rfl⟩)
      ·simp only [lC,lN]
       refine sG Z Z (aZ Z)<|sV (vQ Z Z)<|sK [1,2,6,7,9,10,11,16,17,18,26,27,28,43,44,45,68] Z<|aH Z ?_
       refine cK<|xB<|xT<|cR<|sV (aI Z Z Z0)<|sM Z<|sN<|nK [1,2,6,7,9,10,11,16,17,18,26,27,28,43,44,45] Z<|ax ?_
       refine aM (r',i+1) ⟨hlti,hΦ4⟩ (by dsimp only; omega)
      ·simp only [lC,lN]
       refine sG Z Z (aZ Z)<|sV (vQ Z Z)<|sK [1,2,6,7,9,10,11,16,17,18,26,27,28,43,44,45,68] Z<|aQ Z ?_
       refine cQ<|sA Z<|sK [4] Z<|cT<|xW<|xR<|xR<|xW<|xW<|xR<|xR<|xW<|xW ?_
       refine xR<|xR<|xW<|xR ?_
       exact aj Z ⟨X,[mps mb m,mps bm bmp,r'],Z,Ext.refl X,r',Z,.inr ⟨Z,_,hst⟩⟩ sbq
   ·have hend:i=L.length:=Nat.le_antisymm hi<|Nat.not_lt.1 Zp
    subst hend
    rw [dL,List.nil_append] at hΦ
    refine aC<|xE<|xE<|xY<|xB<|xT<|cR<|sV (aI Z Z Z0)<|sM Z<|sN<|nK [1,2,6,7,16,17,18,26,27,28] Z<|ax ?_
    refine aM (r,j+1) ⟨hltj,by rw [hA2]; exact hΦ⟩ (by dsimp only; omega)
  ·have hend:j=S.skeys.length:=Nat.le_antisymm hj<|Nat.not_lt.1 Zw
   subst hend
   rw [dL,List.nil_append] at hΦ
   refine aC<|xE<|xE<|xY<|xB<|xT<|cR<|sV (aI Z Z Z0)<|sM Z<|sN<|nK [1,2,16,17,18] Z<|ax ?_
   refine aM (r,k+1) ⟨hlt,by rw [hA]; exact hΦ⟩ (by dsimp only; omega)
 ·have hend:k=3:=by have:=of_decide_eq_false hd; omega
  subst hend
  have hΦ : Φ R r:=hΦ
  refine aC<|xE<|xE<|xY<|xT<|cQ<|sA Z<|sK [4] Z<|cT ?_
  exact aj Z ⟨X,[mps mb m,mps bm bmp,r],Z,Ext.refl X,r,Z,.inl ⟨Z,hΦ⟩⟩ sbq
end
end Go.Fl
namespace Go.Ck
open Go Go.RowKit
theorem v_bneq {P:Program} {e:Env} {h:SH} {ty t t':TypeId} {x y:Operand} {a b:Bool} (hT:P.underlying t=some .bool) (hx:e.ev? x=some (.bool a)) (hy:e.ev? y=some (.bool b)):Vop P e h (.binOp .neq t x y t') ty (.bool (a != b)):=
 ⟨by simp,by simp,λρ w d pos after g hρ _=>by simp [execOp,hρ x _ hx,hρ y _ hy,eqGuard,binOp,bne,run_equal_bool w t a b hT]⟩
end Go.Ck
namespace Go.Fl
open Go Go.RowKit Go.Ck Go.Proofs Go.Proofs.Tryz Go.Proofs.YtknmacdbffgjgaaGreatDoor Fx Go.Hr
namespace Sk
section
variable (s:Sk)
def t1x (n:Nm) (x:Cm):List Cf:=match feat s.c n with
 | none=>let y:=((under s.cs n).head?).getD x
  if sameTy y.mem x.mem then [] else [s.cf 9 n y.og x.og]
 | some f=>if decide (f.args=x.mem.args) && ((f.ty.kind == 0) == (x.mem.ty.kind == 0)) then [] else [s.cf 9 n ⟨[],n⟩ x.og]
def t1 (n:Nm):List Cf:=(under s.cs n).flatMap (s.t1x n)
def t2 (n:Nm):List Cf:=if (feat s.c n).isSome then [] else s.cpairs (under s.cs n) 10 λa b=>(!a.dfd && !b.dfd) && !same a.mem b.mem
theorem typed_eq:s.typed=s.skeys.flatMap s.t1++s.skeys.flatMap s.t2:=rfl
end
end Sk
attribute [local irreducible] Go.Ck.Sub St Cd Xt Nx DrL LsW
section
variable {X Y:Res} {v v':Value} {us us':List Value}

theorem OL {yl mb bm : Nat} {Φ : List Cf -> Res -> Prop} {Stop : Cf -> Res -> Prop} (hy : Yh yl Φ Stop) {S : Sk} {all : Bool} (hall : S.all = all) {m bmp : List (Nm × Value)} {ca cb ce cf ci mv : Value} (hK : SkR X S v m ca cb ce cf ci mv bmp) (hB : SkB S) (hk0 : bmp.map (λp => p.1) = keys S.cs) (R : List Cf) (r0 : Res) (h0 : Φ (S.typed ++ R) r0) :
  CtX prog 130 #[.agg (eZ v (.map<|some mb) S.c ca cb ce cf ci mv (.map<|some bm) all).toArray,.func (.yield yl) #[] #[]] X [mps mb m,mps bm bmp,r0] λu Y k'=>∃ r,k'=[mps mb m,mps bm bmp,r]/\Yend Φ Stop R u r:=by
 have hml:maxLen=9223372036854775807:=rfl
 obtain ⟨cb,ck,rfl,hckl,hckm,_⟩:=id hK.par.form
 obtain ⟨cf,cfk,rfl,_⟩:=id hK.feat.form
 obtain ⟨mA,mK,rfl,_⟩:=id hK.ms.form
 have hcn:=λb=>fU (fv:=.map<|some mb) (c:=S.c) (v:=v) (ca:=ca) (cb:=.slice cb S.c.pars.length ck) (ce:=ce) (cf:=.slice cf S.c.feats.length cfk) (ci:=ci) (mv:=.slice mA S.ms.length mK) (bv:=.map<|some bm) (all:=all) b
 have hfew:=Sk.keys_few hB
 have hsl:=Sk.skeys_len S
 have hbl:bmp.length=(keys S.cs).length:=by rw [<- hk0,List.length_map]
 have hnd:(bmp.map λp=>p.1).Nodup:=by rw [hk0]; exact iq _
 have hsk:srt (bmp.map λp=>p.1)=S.skeys:=by rw [hk0]; rfl
 rw [Sk.typed_eq,List.append_assoc] at h0
 generalize hT:S.skeys.flatMap S.t2++R=T at h0
 unfold CtX
 unfold eZ at *
 refine aL (n:=120) func130 Z Z (len Z) λhr w0=>?_
 refine cQ (aP Z Z λb2=>?_)
 refine sA Z<|sK [1,2,4] Z<|cS<|cQ<|sV (vF Z o9 Z)<|sV (vY Z qW) ?_
 refine aJ Z Z en213 Z (uC) ?_
 rintro u h' ⟨b1,rfl,rfl⟩
 simp only [lC,lN]
 refine aJ Z Z en212 Z (p8 (by omega) hnd) ?_
 rintro u h' ⟨hu,rfl⟩
 simp only [lC,lN]
 rw [hsk]
 unfold NR
 refine jB (v:=u) (E:=9) (sz:=1) (rows:=S.skeys.map nC) slq λwa wc hwf hwl hwm=>?_
 rw [List.length_map] at hwf hwl
 subst hwf
 refine sV (aF Z underlying40)<|sM Z<|sK [1,2,4,21,22,23] Z<|cB<|aW (σ := Res×Nat) (λq=>[(1,.func (.yield yl) #[] #[]),(2,.pointer (some ⟨b2,0,none⟩)),(21,.slice wa S.skeys.length wc),(22,.int .i64 S.skeys.length),(23,.int .i64 (q.2:Nat))]) (λq=>VR (.slice wa S.skeys.length wc) 9 1 (S.skeys.map nC)::pt b2 (cl [v,.map (some mb),sv S.c.name,.bool S.c.dfd,ca,.slice cb S.c.pars.length ck,ce,.slice cf S.c.feats.length cfk,ci,.slice mA S.ms.length mK,.map (some bm),.bool all] 206)::X::mps mb m::mps bm bmp::q.1::hr) (λq=>q.2≤S.skeys.length /\ Φ ((S.skeys.drop q.2).flatMap (S.t1)++T) q.1) (λq=>S.skeys.length - q.2) (r0,0) ⟨Nat.zero_le _,h0⟩ ?_
 rintro ⟨r,j⟩ ⟨hj,hΦ⟩
 simp only at hj hΦ
 dsimp only
 refine cQ<|sV (aN Z Z)<|sN<|nT<|cS<|cC Z (λhd2=>?_)<|λhd2=>?_
 ·have hltj:j<S.skeys.length:=Zw
  rw [eD hltj,List.append_assoc] at hΦ
  have hnx:(S.skeys.map nC)[j]? = some [sv S.skeys[j]]:=by rw [List.getElem?_map,Zy hltj]; rfl
  refine fQ (r:=VR (.slice wa S.skeys.length wc) 9 1<|S.skeys.map nC) slq λhok=>?_
  obtain ⟨ab,ao,rfl⟩:∃ ab ao,wa=some ⟨ab,ao,none⟩:=by
   obtain ⟨f0,hf0⟩:=hok
   rcases VR.form hf0 with ⟨h3,h4⟩ | ⟨b,o,cp,h3,-⟩
   ·have:=List.map_eq_nil_iff.1 h4
    rw [this] at hltj; simp at hltj
   ·rw [List.length_map] at h3; cases h3; exact ⟨b,o,rfl⟩
  generalize S.skeys[j]=n at hΦ hnx
  generalize hA2:(S.skeys.drop (j+1)).flatMap (S.t1)++T=A2 at hΦ
  have hul:=hB.under n
  have hun:=hK.by' n
  obtain ⟨la,lc,hlv,hlc,-,-⟩:=id hun.form
  rw [hlv] at hun
  have hΦ : Φ ((under S.cs n).flatMap (S.t1x n)++A2) r:=hΦ
  refine cK<|xT<|cS<|cB<|cQ<|sV (vI (k:=j) Z Z iZ Z hltj Z)<|sV (vY Z ld9 (ha:=⟨_,_,slq,eX hnx 0<|by simp⟩)) ?_
  refine sA Z<|sK [1,2,6,21,22,23] Z<|cQ<|sV (vF Z o9 Z)<|sV (vY Z qW) ?_
  refine sM Z<|sV (gG hlv<|bI Z Z sQ tN slq) ?_
  refine sA Z<|sK [1,2,6,7,21,22,23] Z<|cQ<|sV (vF Z gU Z)<|sV (vF Z kF Z)<|sV (vY Z yu) ?_
  refine sM Z<|aJ Z Z xM Z (jc (n:=n) hK.feat) ?_
  rintro u h' ⟨rfl,gus,rfl,hgr⟩
  simp only [lC,lN]
  have hg15:gus.length=15:=Enc.len hgr
  have hgo:=Enc.ones hgr
  have hmf:(S.c.feats.find? λc=>c.name == n)=feat S.c n:=rfl
  rw [hmf]
  rw [hmf] at hgr
  generalize hf0:(feat S.c n).getD fe0=f0 at hgr
  obtain ⟨g2,g3,gy,g9,g10,g11,g12,g13,g14,rfl,hg2,hg3,-⟩:=nJ hgr
  obtain ⟨ga3,gk3,rfl,_⟩:=id hg3.form
  unfold Au at *
  refine sM Z<|sV (ah Z Z)<|sV (ah Z Z) (ak lS λb8=>?_)
  refine ai Z Z jX Z hgo ?_
  refine sA Z<|sK [1,2,6,7,8,9,21,22,23] Z<|cQ<|sM Z<|sV (aF Z underlying187)<|sM Z<|sN<|nT<|cB<|aW (σ := Res×Nat) (λq=>[(1,.func (.yield yl) #[] #[]),(2,.pointer (some ⟨b2,0,none⟩)),(21,.slice (some ⟨ab,ao,none⟩) S.skeys.length wc),(22,.int .i64 S.skeys.length),(23,.int .i64 (j:Nat)),(6,sv n),(7,.slice la (under S.cs n).length lc),(8,.pointer (some ⟨b8,0,none⟩)),(9,.bool (feat S.c n).isSome),(39,.slice la (under S.cs n).length lc),(40,.int .i64 (under S.cs n).length),(41,.int .i64 (q.2:Nat))]) (λq=>pt b8 (cl [.int .i64 f0.kind,sv f0.name,g2,.slice ga3 f0.args.length gk3,.int .i64 f0.ty.kind,sv f0.ty.name,gy,.bool f0.ty.void,.bool f0.ty.sep,g9,g10,g11,g12,g13,g14] 130)::VR (.slice (some ⟨ab,ao,none⟩) S.skeys.length wc) 9 1 (S.skeys.map nC)::pt b2 (cl [v,.map (some mb),sv S.c.name,.bool S.c.dfd,ca,.slice cb S.c.pars.length ck,ce,.slice cf S.c.feats.length cfk,ci,.slice mA S.ms.length mK,.map (some bm),.bool all] 206)::X::mps mb m::mps bm bmp::q.1::hr) (λq=>q.2≤(under S.cs n).length /\ Φ (((under S.cs n).drop q.2).flatMap (S.t1x n)++A2) q.1) (λq=>(under S.cs n).length - q.2) (r,0) ⟨Nat.zero_le _,hΦ⟩ ?_
  clear hΦ
  have ht1:∀ x,S.t1x n x=match feat S.c n with
    | none=>if Sk.sameTy (((under S.cs n).head?).getD x).mem x.mem then [] else [S.cf 9 n (((under S.cs n).head?).getD x).og x.og]
    | some f=>if decide (f.args=x.mem.args) && ((f.ty.kind == 0) == (x.mem.ty.kind == 0)) then [] else [S.cf 9 n ⟨[],n⟩ x.og]:=λx=>rfl
  generalize hL:under S.cs n=L at hun hul ht1
  rintro ⟨r,i⟩ ⟨hi,hΦ⟩
  simp only at hi hΦ
  dsimp only
  refine cQ<|sV (aN Z Z)<|sN<|nT<|cS<|cC Z (λhd3=>?_)<|λhd3=>?_
  ·have hlti:i<L.length:=Zp
   rw [eD hlti,List.append_assoc] at hΦ
   have h00:0<L.length:=by omega
   obtain ⟨cb',co,ccap,cus,e4,hcus,hcrd,hcr⟩:=hun.at<|Zy hlti
   obtain ⟨rfl,rfl⟩:la=some ⟨cb',co,none⟩/\lc=ccap:=by cases e4; exact ⟨rfl,rfl⟩
   obtain ⟨db',dO,dcap,dus,e5,hdus,hdrd,hdr⟩:=hun.at<|Zy h00
   obtain ⟨rfl,rfl⟩:cb'=db'/\co=dO:=by cases e5; exact ⟨rfl,rfl⟩
   have hhead:∀ x,(L.head?).getD x=L[0]:=λx=>by
    cases L with
    | nil=>simp at h00
    | cons a t=>rfl
   simp only [hhead] at ht1
   generalize L[0]=z at ht1 hdr
   generalize L[i]=y at hΦ hcr
   rw [ht1 y] at hΦ
   have hyo:=Enc.ones hcr
   obtain ⟨y2,y5,yy,y11,y12,y13,rfl,hym⟩:=iB hcr
   obtain ⟨z2,z5,zy,z11,z12,z13,rfl,hzm⟩:=iB hdr
   have hst:=sw (mV hzm)<|mV hym
   have hogz:Rds X cb' (co+0 * 18+0) [sv z.og.par,sv z.og.name]:=bD (k:=0) hdrd rfl
   have hmz:Rds X cb' (co+0 * 18+3) (fI z.mem z2 z5 zy z11 z12 z13):=bD (k:=3) hdrd rfl
   have hmy:=λb=>Jf (b:=b) (x:=y) (x2:=y2) (x5:=y5) (y:=yy) (x11:=y11) (x12:=y12) (x13:=y13)
   have hogy:=λb=>nL (b:=b) (x:=y) (x2:=y2) (x5:=y5) (y:=yy) (x11:=y11) (x12:=y12) (x13:=y13)
   obtain ⟨hy2,hy5,-⟩:=id hym
   obtain ⟨ya5,yk5,rfl,_⟩:=id hy5.form
   unfold oL fI at *
   refine cK<|xT<|cS<|cB<|cQ<|sV (vI (k:=i) Z Z lJ Z hlti Z)<|sV (af Z ic Z hcrd) ?_
   refine ak q8 λb11=>?_
   refine ai Z Z mM Z hyo ?_
   refine sK [1,2,6,7,8,9,11,21,22,23,39,40,41] Z<|cS<|bB (ork [(0,2),(1,2),(2,2),(3,1),(4,2),(5,2),(6,2),(7,1),(8,2),(9,1),(10,1),(11,2),(12,0),(13,0),(14,2)] .nil) (λi => !(Nat.beq i 13)) mixed Zz ?_
   refine dV Z (vM Z)<|dV Z (vI (k:=0) Z Z lJ Z h00 Z)<|dV Z (vF Z jw Z)<|bi Z (af Z qC Z hogz) ?_
   refine dV Z (vM Z)<|dV Z (vI (k:=0) Z Z lJ Z h00 Z)<|dV Z (vF Z dW Z)<|bi Z (af Z dJ Z hmz) ?_
   refine dV Z (vF Z dW Z)<|bi Z (af Z dJ Z<|hmy b11) ?_
   refine gY Z Z Z FD Z (hst) ?_
   refine dV Z (aZ Z)<|aV Z (ak al24 λb12=>aY ?_)
   refine aV Z<|ai Z Z sz24 Z Z<|aY ?_
   refine dV Z (vA Z)<|bA<|nK [1,2,6,7,8,9,11,12,13,21,22,23,39,40,41] Z<|nT<|cS<|cQ<|sM Z<|sN<|nT ?_
   cases hq:feat S.c n
   ·simp only [hq] at hΦ
    generalize Sk.sameTy z.mem y.mem=bq at hΦ ⊢
    refine aH Z ?_
    refine cK<|xT<|cQ<|sM Z<|sM Z ?_
    cases bq
    ·have hΦ2 : Φ (S.cf 9 n z.og y.og::((L.drop (i+1)).flatMap (S.t1x n)++A2)) r:=hΦ
     refine sG Z Z (vM Z)<|sG Z Z (af Z fH Z ag) ?_
     refine sG Z Z (vM Z)<|sG Z Z (af Z qC Z ag) ?_
     refine sG Z Z (vF Z jw Z)<|sG Z Z (af Z qC Z<|hogy b11) ?_
     refine bJ Z Z Z Z jZ Z (hcn 9 n z.og y.og) ?_
     refine kz (gd:=80) (.inr ⟨_,_,Z,Z,Z⟩) Z Z (hy _ _ _ hΦ2) ?_
     rintro u h' (⟨rfl,r',hΦ4,rfl⟩ | ⟨rfl,r',hst,rfl⟩)
     ·simp only [lC,lN]
      refine sG Z Z (aZ Z)<|sV (vQ Z Z)<|sK [1,2,6,7,8,9,21,22,23,39,40,41,90] Z<|aH Z ?_
      refine cK<|xB<|xT<|cR<|sV (aI Z Z Z0)<|sM Z<|sN<|nK [1,2,6,7,8,9,21,22,23,39,40,41] Z<|ax ?_
      refine aM (r',i+1) ⟨hlti,hΦ4⟩ (by dsimp only; omega)
     ·simp only [lC,lN]
      refine sG Z Z (aZ Z)<|sV (vQ Z Z)<|sK [1,2,6,7,8,9,21,22,23,39,40,41,90] Z<|aQ Z ?_
      refine cQ<|sA Z<|sK [4] Z<|cT<|xW<|xR<|xR<|xW<|xW<|xR<|xR<|xW<|xR ?_
      exact aj Z ⟨X,[mps mb m,mps bm bmp,r'],Z,Ext.refl X,r',Z,.inr ⟨Z,_,hst⟩⟩ sbq
    ·have hΦ : Φ ((L.drop (i+1)).flatMap (S.t1x n)++A2) r:=hΦ
     iterate 9 refine aB rfl rfl rfl ?_
     refine sV (vP Z Z)<|sK [1,2,6,7,8,9,21,22,23,39,40,41,90] Z<|aH Z ?_
     refine cK<|xB<|xT<|cR<|sV (aI Z Z Z0)<|sM Z<|sN<|nK [1,2,6,7,8,9,21,22,23,39,40,41] Z<|ax ?_
     refine aM (r,i+1) ⟨hlti,hΦ⟩ (by dsimp only; omega)
   ·rename_i f
    obtain rfl:f=f0:=by rw [hq] at hf0; exact hf0
    simp only [hq] at hΦ
    refine aQ Z ?_
    refine cQ<|sM Z<|sV (aO (cells:=[sv [],sv n]) Z<|λ_=>Zz) ?_
    refine ai Z Z sz24 Z Z ?_
    refine sK [1,2,6,7,8,9,11,12,13,21,22,23,39,40,41] Z<|cR<|sV (vF Z rV Z)<|sV (vY Z qU) ?_
    refine sV (vF Z dW Z)<|sV (vF Z jL Z)<|sV (vY Z qU) ?_
    refine aX Z Z en215 Z (CS en216 hg3 hy5<|λa b us us' _ h h'=>Gi h h') ?_
    refine sV (aZ Z)<|sM Z ?_
    generalize decide (f.args=y.mem.args)=b1q at hΦ ⊢
    cases b1q
    ·have hΦ2 : Φ (S.cf 9 n ⟨[],n⟩ y.og::((L.drop (i+1)).flatMap (S.t1x n)++A2)) r:=hΦ
     iterate 10 refine aB rfl rfl rfl ?_
     refine sV (vQ Z Z)<|sA Z<|sK [1,2,6,7,8,9,11,12,13,21,22,23,39,40,41] Z<|cQ<|sM Z<|sM Z<|sG Z Z (vM Z)<|sG Z Z (af Z fH Z ag) ?_
     refine sG Z Z (vM Z)<|sG Z Z (af Z qC Z ag) ?_
     refine sG Z Z (vF Z jw Z)<|sG Z Z (af Z qC Z<|hogy b11) ?_
     refine bJ Z Z Z Z jZ Z (hcn 9 n ⟨[],n⟩ y.og) ?_
     refine kz (gd:=80) (.inr ⟨_,_,Z,Z,Z⟩) Z Z (hy _ _ _ hΦ2) ?_
     rintro u h' (⟨rfl,r',hΦ4,rfl⟩ | ⟨rfl,r',hst,rfl⟩)
     ·simp only [lC,lN]
      refine sG Z Z (aZ Z)<|sV (vQ Z Z)<|sK [1,2,6,7,8,9,21,22,23,39,40,41,90] Z<|aH Z ?_
      refine cK<|xB<|xT<|cR<|sV (aI Z Z Z0)<|sM Z<|sN<|nK [1,2,6,7,8,9,21,22,23,39,40,41] Z<|ax ?_
      refine aM (r',i+1) ⟨hlti,hΦ4⟩ (by dsimp only; omega)
     ·simp only [lC,lN]
      refine sG Z Z (aZ Z)<|sV (vQ Z Z)<|sK [1,2,6,7,8,9,21,22,23,39,40,41,90] Z<|aQ Z ?_
      refine cQ<|sA Z<|sK [4] Z<|cT<|xW<|xR<|xR<|xW<|xW<|xR<|xR<|xW<|xR ?_
      exact aj Z ⟨X,[mps mb m,mps bm bmp,r'],Z,Ext.refl X,r',Z,.inr ⟨Z,_,hst⟩⟩ sbq
    ·refine sG Z Z (vF Z yG Z)<|sG Z Z (vF Z qY Z)<|sG Z Z (vY Z ld3) ?_
     refine sG Z Z (dE Z Z)<|sG Z Z (vF Z dW Z)<|sG Z Z (vF Z nD Z)<|sG Z Z (vF Z qY Z)<|sG Z Z (vY Z ld3) ?_
     refine sG Z Z (dE Z Z)<|sG Z Z (v_bneq underlying4 Z Z)<|sV (vP Z Z)<|sA Z<|sK [1,2,6,7,8,9,11,12,13,21,22,23,39,40,41] Z<|cQ<|sM Z<|sM Z ?_
     rw [Bool.true_and] at hΦ
     rw [show ((f.ty.kind == 0) != (y.mem.ty.kind == 0)) = !((f.ty.kind == 0) == (y.mem.ty.kind == 0)) from rfl]
     generalize ((f.ty.kind == 0) == (y.mem.ty.kind == 0))=bq at hΦ ⊢
     cases bq
     ·have hΦ2 : Φ (S.cf 9 n ⟨[],n⟩ y.og::((L.drop (i+1)).flatMap (S.t1x n)++A2)) r:=hΦ
      refine sG Z Z (vM Z)<|sG Z Z (af Z fH Z ag) ?_
      refine sG Z Z (vM Z)<|sG Z Z (af Z qC Z ag) ?_
      refine sG Z Z (vF Z jw Z)<|sG Z Z (af Z qC Z<|hogy b11) ?_
      refine bJ Z Z Z Z jZ Z (hcn 9 n ⟨[],n⟩ y.og) ?_
      refine kz (gd:=80) (.inr ⟨_,_,Z,Z,Z⟩) Z Z (hy _ _ _ hΦ2) ?_
      rintro u h' (⟨rfl,r',hΦ4,rfl⟩ | ⟨rfl,r',hst,rfl⟩)
      ·simp only [lC,lN]
       refine sG Z Z (aZ Z)<|sV (vQ Z Z)<|sK [1,2,6,7,8,9,21,22,23,39,40,41,90] Z<|aH Z ?_
       refine cK<|xB<|xT<|cR<|sV (aI Z Z Z0)<|sM Z<|sN<|nK [1,2,6,7,8,9,21,22,23,39,40,41] Z<|ax ?_
       refine aM (r',i+1) ⟨hlti,hΦ4⟩ (by dsimp only; omega)
      ·simp only [lC,lN]
       refine sG Z Z (aZ Z)<|sV (vQ Z Z)<|sK [1,2,6,7,8,9,21,22,23,39,40,41,90] Z<|aQ Z ?_
       refine cQ<|sA Z<|sK [4] Z<|cT<|xW<|xR<|xR<|xW<|xW<|xR<|xR<|xW<|xR ?_
       exact aj Z ⟨X,[mps mb m,mps bm bmp,r'],Z,Ext.refl X,r',Z,.inr ⟨Z,_,hst⟩⟩ sbq
     ·have hΦ : Φ ((L.drop (i+1)).flatMap (S.t1x n)++A2) r:=hΦ
      iterate 9 refine aB rfl rfl rfl ?_
      refine sV (vP Z Z)<|sK [1,2,6,7,8,9,21,22,23,39,40,41,90] Z<|aH Z ?_
      refine cK<|xB<|xT<|cR<|sV (aI Z Z Z0)<|sM Z<|sN<|nK [1,2,6,7,8,9,21,22,23,39,40,41] Z<|ax ?_
      refine aM (r,i+1) ⟨hlti,hΦ⟩ (by dsimp only; omega)
  ·have hend:i=L.length:=Nat.le_antisymm hi<|Nat.not_lt.1 Zp
   subst hend
   rw [dL,List.nil_append] at hΦ
   refine aC<|xE<|xE<|xY<|xB<|xT<|cR<|sV (aI Z Z Z0)<|sM Z<|sN<|nK [1,2,21,22,23] Z<|ax ?_
   refine aM (r,j+1) ⟨hltj,by rw [hA2]; exact hΦ⟩ (by dsimp only; omega)
 ·have hend:j=S.skeys.length:=Nat.le_antisymm hj<|Nat.not_lt.1 Zw
  subst hend
  rw [dL,List.nil_append,<- hT] at hΦ
  refine aC<|xE<|xE<|xY<|xT<|cS<|cQ<|sV (vF Z o9 Z)<|sV (vY Z qW) ?_
  refine aJ Z Z en213 Z (uC) ?_
  rintro u h' ⟨b1,rfl,rfl⟩
  simp only [lC,lN]
  refine aJ Z Z en212 Z (p8 (by omega) hnd) ?_
  rintro u h' ⟨hu,rfl⟩
  simp only [lC,lN]
  rw [hsk]
  unfold NR
  refine jB (v:=u) (E:=9) (sz:=1) (rows:=S.skeys.map nC) slq λwa wc hwf hwl hwm=>?_
  rw [List.length_map] at hwf hwl
  subst hwf
  refine sV (aF Z underlying40)<|sM Z<|sK [1,2,96,97,98] Z<|cB<|aW (σ := Res×Nat) (λq=>[(1,.func (.yield yl) #[] #[]),(2,.pointer (some ⟨b2,0,none⟩)),(96,.slice wa S.skeys.length wc),(97,.int .i64 S.skeys.length),(98,.int .i64 (q.2:Nat))]) (λq=>VR (.slice wa S.skeys.length wc) 9 1 (S.skeys.map nC)::pt b2 (cl [v,.map (some mb),sv S.c.name,.bool S.c.dfd,ca,.slice cb S.c.pars.length ck,ce,.slice cf S.c.feats.length cfk,ci,.slice mA S.ms.length mK,.map (some bm),.bool all] 206)::X::mps mb m::mps bm bmp::q.1::hr) (λq=>q.2≤S.skeys.length /\ Φ ((S.skeys.drop q.2).flatMap (S.t2)++R) q.1) (λq=>S.skeys.length - q.2) (r,0) ⟨Nat.zero_le _,hΦ⟩ ?_
  rintro ⟨r,j⟩ ⟨hj,hΦ⟩
  simp only at hj hΦ
  dsimp only
  refine cQ<|sV (aN Z Z)<|sN<|nT<|cS<|cC Z (λhd2=>?_)<|λhd2=>?_
  ·have hltj:j<S.skeys.length:=Zw
   rw [eD hltj,List.append_assoc] at hΦ
   have hnx:(S.skeys.map nC)[j]? = some [sv S.skeys[j]]:=by rw [List.getElem?_map,Zy hltj]; rfl
   refine fQ (r:=VR (.slice wa S.skeys.length wc) 9 1<|S.skeys.map nC) slq λhok=>?_
   obtain ⟨ab,ao,rfl⟩:∃ ab ao,wa=some ⟨ab,ao,none⟩:=by
    obtain ⟨f0,hf0⟩:=hok
    rcases VR.form hf0 with ⟨h3,h4⟩ | ⟨b,o,cp,h3,-⟩
    ·have:=List.map_eq_nil_iff.1 h4
     rw [this] at hltj; simp at hltj
    ·rw [List.length_map] at h3; cases h3; exact ⟨b,o,rfl⟩
   generalize S.skeys[j]=n at hΦ hnx
   generalize hA2:(S.skeys.drop (j+1)).flatMap (S.t2)++R=A2 at hΦ
   have hul:=hB.under n
   have hun:=hK.by' n
   obtain ⟨la,lc,hlv,hlc,-,-⟩:=id hun.form
   rw [hlv] at hun
   unfold Sk.t2 at hΦ
   refine cK<|xT<|cS<|cB<|cQ<|sV (vI (k:=j) Z Z iZ Z hltj Z)<|sV (vY Z ld9 (ha:=⟨_,_,slq,eX hnx 0<|by simp⟩)) ?_
   refine sA Z<|sK [1,2,15,96,97,98] Z<|cS<|cQ<|sV (vF Z gU Z)<|sV (vF Z kF Z)<|sV (vY Z yu) ?_
   refine sM Z<|aJ Z Z xM Z (jc (n:=n) hK.feat) ?_
   rintro u h' ⟨rfl,gus,rfl,hgr⟩
   simp only [lC,lN]
   have hg15:gus.length=15:=Enc.len hgr
   have hgo:=Enc.ones hgr
   have hmf:(S.c.feats.find? λc=>c.name == n)=feat S.c n:=rfl
   rw [hmf]
   refine sM Z<|sV (ah Z Z)<|sV (ah Z Z) (ak lS λb16=>?_)
   refine ai (hl:=by rw [hg15]; rfl) Z Z jX hg15 hgo ?_
   refine sA Z<|sK [1,2,15,17,96,97,98] Z<|cQ<|sM Z<|sK [1,2,15,96,97,98,110] Z ?_
   cases hq:feat S.c n
   ·rw [hq] at hΦ
    have hΦ : Φ (S.cpairs (under S.cs n) 10 (λa b=>(!a.dfd && !b.dfd) && !Sk.same a.mem b.mem)++A2) r:=hΦ
    refine aH Z ?_
    refine cK<|xT<|cQ<|sV (af Z fH Z ag) ?_
    refine sV (vF Z o9 Z)<|sV (vY Z qW) ?_
    refine sM Z<|sV (gG hlv<|bI Z Z sQ tN slq) ?_
    refine sM Z<|aJ Z Z en207 Z (Hl hy hall en217 (is:=λa b=>(!a.dfd && !b.dfd) && !Sk.same a.mem b.mem) (λa _ b _ us us' h h'=>Jj h h') hun 10 _ r hΦ) ?_
    rintro u h' ⟨r',rfl,(⟨rfl,hΦ4⟩ | ⟨rfl,_,hst⟩)⟩
    ·simp only [lC,lN]
     refine sV (aZ Z)<|sK [1,2,96,97,98,118] Z<|aH Z ?_
     refine cK<|xB<|xT<|cR<|sV (aI Z Z Z0)<|sM Z<|sN<|nK [1,2,96,97,98] Z<|ax ?_
     refine aM (r',j+1) ⟨hltj,by rw [hA2]; exact hΦ4⟩ (by dsimp only; omega)
    ·simp only [lC,lN]
     refine sV (aZ Z)<|sK [1,2,96,97,98,118] Z<|aQ Z ?_
     refine cQ<|sA Z<|sK [4] Z<|cT<|xW<|xR<|xR<|xW<|xR ?_
     exact aj Z ⟨X,[mps mb m,mps bm bmp,r'],Z,Ext.refl X,r',Z,.inr ⟨Z,_,hst⟩⟩ sbq
   ·rw [hq] at hΦ
    have hΦ : Φ A2 r:=hΦ
    refine aQ Z ?_
    refine aC<|xE<|xY<|xT<|cR<|sV (aI Z Z Z0)<|sM Z<|sN<|nK [1,2,96,97,98] Z<|ax ?_
    refine aM (r,j+1) ⟨hltj,by rw [hA2]; exact hΦ⟩ (by dsimp only; omega)
  ·have hend:j=S.skeys.length:=Nat.le_antisymm hj<|Nat.not_lt.1 Zw
   subst hend
   rw [dL,List.nil_append] at hΦ
   refine aC<|xE<|xE<|xY<|xT<|cQ<|sA Z<|sK [4] Z<|cT ?_
   exact aj Z ⟨X,[mps mb m,mps bm bmp,r],Z,Ext.refl X,r,Z,.inl ⟨Z,hΦ⟩⟩ sbq
end
end Go.Fl
namespace Go.Fl
open Go Go.RowKit Go.Ck Go.Proofs Go.Proofs.Tryz Go.Proofs.YtknmacdbffgjgaaGreatDoor Fx Go.Hr
namespace Sk
section
variable (s:Sk)
def ap (d:Sd):List Cf:=s.pairs (s.ms.filter λm=>m.seeds.contains d) (λa b => !sameTy a b) λa b=>⟨14,s.c.name,a.name,b.name,⟨d.cls,d.name⟩,og0⟩
theorem apart_eq:s.apart=s.seeds.flatMap s.ap:=rfl
theorem seeds_len {s:Sk} (hB:SkB s):s.seeds.length≤432000:=by
 have h1:s.seeds.length≤(s.ms.flatMap λm=>m.seeds).length:=aT (jO _).1.nodup λx hx=>((jO _).2 x).1 hx
 exact Nat.le_trans h1 hB.ms
end
end Sk
attribute [local irreducible] Go.Ck.Sub St Cd Xt Nx DrL LsW
section
variable {X Y:Res} {v v':Value} {us us':List Value}

theorem OM {yl mb bm : Nat} {Φ : List Cf -> Res -> Prop} {Stop : Cf -> Res -> Prop} (hy : Yh yl Φ Stop) {S : Sk} {all : Bool} (hall : S.all = all) {m bmp : List (Nm × Value)} {ca cb ce cf ci mv : Value} (hK : SkR X S v m ca cb ce cf ci mv bmp) (hB : SkB S) (R : List Cf) (r0 : Res) (h0 : Φ (S.apart ++ R) r0) :
  CtX prog 221 #[.agg (eZ v (.map<|some mb) S.c ca cb ce cf ci mv (.map<|some bm) all).toArray,.func (.yield yl) #[] #[]] X [mps mb m,mps bm bmp,r0] λu Y k'=>∃ r,k'=[mps mb m,mps bm bmp,r]/\Yend Φ Stop R u r:=by
 have hml:maxLen=9223372036854775807:=rfl
 obtain ⟨cb,ck,rfl,hckl,hckm,_⟩:=id hK.par.form
 obtain ⟨cf,cfk,rfl,_⟩:=id hK.feat.form
 obtain ⟨mA,mK,rfl,_⟩:=id hK.ms.form
 have hcn:=λb=>fU (fv:=.map<|some mb) (c:=S.c) (v:=v) (ca:=ca) (cb:=.slice cb S.c.pars.length ck) (ce:=ce) (cf:=.slice cf S.c.feats.length cfk) (ci:=ci) (mv:=.slice mA S.ms.length mK) (bv:=.map<|some bm) (all:=all) b
 have hsel:=Sk.seeds_len hB
 rw [Sk.apart_eq] at h0
 unfold CtX
 unfold eZ at *
 refine aL (n:=78) func221 Z Z (len Z) λhr w0=>?_
 refine cQ (aP Z Z λb2=>?_)
 refine sA Z<|sK [1,2,4] Z<|cS<|cQ<|sV (vF Z mO Z)<|sV (vY Z lK) ?_
 refine aJ Z Z en219 Z (xV hK.ms (by have:=hB.ms; omega)) ?_
 rintro u h' ⟨hu,rfl⟩
 simp only [lC,lN]
 have hsd:ry (S.ms.flatMap λm=>m.seeds)=S.seeds:=rfl
 rw [hsd]
 refine jB (v:=u) (E:=69) (sz:=2) (rows:=S.seeds.map sdC) slq λwa wc hwf hwl hwm=>?_
 rw [List.length_map] at hwf hwl
 subst hwf
 refine sV (aF Z underlying67)<|sM Z<|sK [1,2,4,15,16,17] Z<|cB<|aW (σ := Res×Res×Nat) (λq=>[(1,.func (.yield yl) #[] #[]),(2,.pointer (some ⟨b2,0,none⟩)),(15,.slice wa S.seeds.length wc),(16,.int .i64 S.seeds.length),(17,.int .i64 (q.2.2:Nat))]) (λq=>VR (.slice wa S.seeds.length wc) 69 2 (S.seeds.map sdC)::pt b2 (cl [v,.map (some mb),sv S.c.name,.bool S.c.dfd,ca,.slice cb S.c.pars.length ck,ce,.slice cf S.c.feats.length cfk,ci,.slice mA S.ms.length mK,.map (some bm),.bool all] 206)::q.1::mps mb m::mps bm bmp::q.2.1::hr) (λq=>Ext X q.1/\q.2.2≤S.seeds.length /\ Φ ((S.seeds.drop q.2.2).flatMap (S.ap)++R) q.2.1) (λq=>S.seeds.length - q.2.2) (X,r0,0) ⟨Ext.refl X,Nat.zero_le _,h0⟩ ?_
 rintro ⟨Y,r,j⟩ ⟨hE,hj,hΦ⟩
 simp only at hE hj hΦ
 dsimp only
 refine cQ<|sV (aN Z Z)<|sN<|nT<|cS<|cC Z (λhd=>?_)<|λhd=>?_
 ·have hltj:j<S.seeds.length:=Zx
  rw [eD hltj,List.append_assoc] at hΦ
  have hnx:(S.seeds.map sdC)[j]? = some (sdC S.seeds[j]):=by rw [List.getElem?_map,Zy hltj]; rfl
  refine fQ (r:=VR (.slice wa S.seeds.length wc) 69 2<|S.seeds.map sdC) slq λhok=>?_
  obtain ⟨ab,ao,rfl⟩:∃ ab ao,wa=some ⟨ab,ao,none⟩:=by
   obtain ⟨f0,hf0⟩:=hok
   rcases VR.form hf0 with ⟨h3,h4⟩ | ⟨b,o,cp,h3,-⟩
   ·have:=List.map_eq_nil_iff.1 h4
    rw [this] at hltj; simp at hltj
   ·rw [List.length_map] at h3; cases h3; exact ⟨b,o,rfl⟩
  generalize S.seeds[j]=d at hΦ hnx
  generalize hA:(S.seeds.drop (j+1)).flatMap (S.ap)++R=A at hΦ
  unfold sdC at hnx
  have hK2:=hK.up hE
  refine cK<|xT<|cS<|cB<|cQ<|sV (vI (k:=j) Z Z oh Z hltj Z)<|sV (af Z gM Z<|eX hnx) ?_
  refine ak al69 λb6=>?_
  refine ai Z Z sz69 Z Z ?_
  refine sK [1,2,6,15,16,17] Z<|cQ<|sV (vF Z mO Z)<|sV (vY Z lK) ?_
  have hmf:=hB.mf
  have hrb:reachBytes=140737488351232:=rfl
  refine aJ Z Z en160 Z (Gq hK2.ms) ?_
  rintro u h' ⟨T,rfl,rows,rfl,ho,hro⟩
  simp only [lC,lN]
  refine sV (cz Z Z) (Kz [pt b6 (cl [sv d.cls,sv d.name] 69)] Y λY2 hE2 hsel2 hpk=>?_)
  have hb6:Rds Y2 b6 0 [sv d.cls,sv d.name]:=λi hi=>hsel2 _ _ .here _ _<|ag i hi
  refine aJ Z Z en268 Z (Me (g:=λm:Mb => !m.seeds.contains d) (cp := #[.pointer (some ⟨b6,0,none⟩)]) (hro.up hE2) (by omega) en269 λQ hQ a _ us h=>Jk h<|λi hi=>hQ _ _<|hb6 i hi) ?_
  rintro u h' ⟨rows',hu2,hro',rfl⟩
  simp only [lC,lN]
  have hfi:(S.ms.filter λx => !(!x.seeds.contains d))=S.ms.filter λm=>m.seeds.contains d:=by simp
  rw [hfi] at hro'
  have hΦ : Φ (S.pairs (S.ms.filter λm=>m.seeds.contains d) (λa b => !Sk.sameTy a b) (λa b=>⟨14,S.c.name,a.name,b.name,⟨d.cls,d.name⟩,og0⟩)++A) r:=hΦ
  have hLl:(S.ms.filter λm=>m.seeds.contains d).length≤300:=Nat.le_trans (List.length_filter_le _ _) hmf
  generalize (S.ms.filter λm=>m.seeds.contains d)=L at hro' hΦ hLl
  refine sA Z<|sK [1,2,6,7,15,16,17] Z<|cS ?_
  have hrl:=hro'.1
  refine gz (v:=u) (E:=75) (sz:=14) (rows:=rows') slq λla lc hlf hll hlm=>?_
  rw [hrl] at hlf hll
  subst hlf
  refine fQ (r:=VR (.slice la L.length lc) 75 14 rows') slq λhok2=>?_
  refine Iw [VR (.slice la L.length lc) 75 14 rows'] Y2 λY3 hE3 hsel3=>?_
  have hls:Ls Y3 (.slice la L.length lc) L:=Rws.ls (E:=75) (hro'.up hE3) hok2 (hsel3 _ _ .here) (by show L.length * 232≤reachBytes; omega)
  have hb63:∀ i (hi:i<[sv d.cls,sv d.name].length),Rd Y3 ⟨b6,0+i,none⟩ [sv d.cls,sv d.name][i]:=λi hi=>hE3.rd _ _<|hb6 i hi
  have hE4:=hE.trans<|hE2.trans hE3
  refine cR<|sM Z<|sV (aF Z underlying52)<|sM Z<|sN<|nT<|cB<|aW (σ := Res×Nat) (λq=>[(1,.func (.yield yl) #[] #[]),(2,.pointer (some ⟨b2,0,none⟩)),(15,.slice (some ⟨ab,ao,none⟩) S.seeds.length wc),(16,.int .i64 S.seeds.length),(17,.int .i64 (j:Nat)),(6,.pointer (some ⟨b6,0,none⟩)),(7,.slice la L.length lc),(26,.slice la L.length lc),(27,.int .i64 L.length),(28,.int .i64 (q.2:Nat))]) (λq=>VR (.slice (some ⟨ab,ao,none⟩) S.seeds.length wc) 69 2 (S.seeds.map sdC)::pt b2 (cl [v,.map (some mb),sv S.c.name,.bool S.c.dfd,ca,.slice cb S.c.pars.length ck,ce,.slice cf S.c.feats.length cfk,ci,.slice mA S.ms.length mK,.map (some bm),.bool all] 206)::Y3::mps mb m::mps bm bmp::q.1::hr) (λq=>q.2≤L.length /\ Φ ((L.zipIdx.drop q.2).flatMap (λa=>kY S L (λa b => !Sk.sameTy a b) (λa b=>⟨14,S.c.name,a.name,b.name,⟨d.cls,d.name⟩,og0⟩) a 0)++A) q.1) (λq=>L.length - q.2) (r,0) ⟨Nat.zero_le _,hΦ⟩ ?_
  clear hΦ
  rintro ⟨r,i⟩ ⟨hi,hΦ⟩
  simp only at hi hΦ
  dsimp only
  refine cQ<|sV (aN Z Z)<|sN<|nT<|cS<|cC Z (λhd2=>?_)<|λhd2=>?_
  ·have hlti:i<L.length:=Zw
   rw [kC hlti,List.append_assoc] at hΦ
   obtain ⟨cb',co,ccap,cus,e4,hcus,hcrd,hcr⟩:=hls.at<|Zy hlti
   obtain ⟨rfl,rfl⟩:la=some ⟨cb',co,none⟩/\lc=ccap:=by cases e4; exact ⟨rfl,rfl⟩
   generalize L[i]=x at hΦ hcr
   generalize hA2:(L.zipIdx.drop (i+1)).flatMap (λa=>kY S L (λa b => !Sk.sameTy a b) (λa b=>⟨14,S.c.name,a.name,b.name,⟨d.cls,d.name⟩,og0⟩) a 0)++A=A2 at hΦ
   have hxr:=hcr
   have hxo:=Enc.ones hcr
   obtain ⟨x2,x5,xy,x11,x12,x13,rfl,-⟩:=bZ hcr
   unfold fI at *
   refine cK<|xT<|cS<|cB<|cQ<|sM Z<|sV (vI (k:=i) Z Z kQ Z hlti Z)<|sV (af Z dJ Z hcrd) ?_
   refine ak iR λb9=>?_
   refine sA Z<|ai Z Z gF Z hxo ?_
   refine sK [1,2,6,7,8,9,15,16,17,26,27,28] Z<|cQ<|sM Z<|sV (aF Z underlying52)<|sM Z<|sN<|nT<|cB<|aW (σ := Res×Nat) (λq=>[(1,.func (.yield yl) #[] #[]),(2,.pointer (some ⟨b2,0,none⟩)),(15,.slice (some ⟨ab,ao,none⟩) S.seeds.length wc),(16,.int .i64 S.seeds.length),(17,.int .i64 (j:Nat)),(6,.pointer (some ⟨b6,0,none⟩)),(7,.slice (some ⟨cb',co,none⟩) L.length lc),(26,.slice (some ⟨cb',co,none⟩) L.length lc),(27,.int .i64 L.length),(28,.int .i64 (i:Nat)),(8,.int .i64 (i:Nat)),(9,.pointer (some ⟨b9,0,none⟩)),(33,.slice (some ⟨cb',co,none⟩) L.length lc),(34,.int .i64 L.length),(35,.int .i64 (q.2:Nat))]) (λq=>pt b9 (cl [sv x.name,.int .i64 x.kind,x2,sv x.impl.cls,sv x.impl.name,x5,.int .i64 x.ty.kind,sv x.ty.name,xy,.bool x.ty.void,.bool x.ty.sep,x11,x12,x13] 75)::VR (.slice (some ⟨ab,ao,none⟩) S.seeds.length wc) 69 2 (S.seeds.map sdC)::pt b2 (cl [v,.map (some mb),sv S.c.name,.bool S.c.dfd,ca,.slice cb S.c.pars.length ck,ce,.slice cf S.c.feats.length cfk,ci,.slice mA S.ms.length mK,.map (some bm),.bool all] 206)::Y3::mps mb m::mps bm bmp::q.1::hr) (λq=>q.2≤L.length /\ Φ (kY S L (λa b => !Sk.sameTy a b) (λa b=>⟨14,S.c.name,a.name,b.name,⟨d.cls,d.name⟩,og0⟩) (x,i) q.2++A2) q.1) (λq=>L.length - q.2) (r,0) ⟨Nat.zero_le _,hΦ⟩ ?_
   clear hΦ
   rintro ⟨r,k⟩ ⟨hk,hΦ⟩
   simp only at hk hΦ
   dsimp only
   refine cQ<|sV (aN Z Z)<|sN<|nT<|cS<|cC Z (λhd3=>?_)<|λhd3=>?_
   ·have hltk:k<L.length:=Zp
    rw [EA hltk,List.append_assoc] at hΦ
    obtain ⟨eb,eo,ecap,eus,e6,heus,herd,her⟩:=hls.at<|Zy hltk
    obtain ⟨rfl,rfl⟩:cb'=eb/\co=eo:=by cases e6; exact ⟨rfl,rfl⟩
    generalize L[k]=y at hΦ her
    have hst:=sw hxr her
    have hyo:=Enc.ones her
    obtain ⟨y2,y5,yy,y11,y12,y13,rfl,-⟩:=bZ her
    unfold fI at *
    refine cK<|xT<|cS<|cB<|cQ<|sM Z<|sV (vI (k:=k) Z Z kQ Z hltk Z)<|sV (af Z dJ Z herd) ?_
    refine ak iR λb11=>?_
    refine sA Z<|ai Z Z gF Z hyo ?_
    refine sK [1,2,6,7,8,9,10,11,15,16,17,26,27,28,33,34,35] Z<|cS<|cQ<|sM Z<|sM Z<|sV (dE Z Z)<|sM Z ?_
    by_cases hik:i=k
    ·have hq:(((i:Nat):Int) == ((k:Nat):Int))=true:=by rw [hik]; simp
     rw [hq]
     iterate 4 refine aB rfl rfl rfl ?_
     refine bY Z Z ?_
     refine bY Z Z ?_
     refine bY Z Z ?_
     refine aB Z Z Z ?_
     refine sV (vQ Z Z)<|sM Z<|aB Z Z Z ?_
     iterate 2 refine aB rfl rfl rfl ?_
     refine sV (vQ Z Z)<|sK [1,2,6,7,8,9,11,15,16,17,26,27,28,33,34,35,57] Z<|aQ Z ?_
     refine aC<|xE<|xY<|xT<|cR<|sV (aI Z Z Z0)<|sM Z<|sN<|nK [1,2,6,7,8,9,15,16,17,26,27,28,33,34,35] Z<|ax ?_
     refine aM (r,k+1) ⟨hltk,by rw [if_pos (.inl hik)] at hΦ; exact hΦ⟩ (by dsimp only; omega)
    ·have hq:(((i:Nat):Int) == ((k:Nat):Int))=false:=by simp; omega
     rw [hq]
     refine sG Z Z (vF Z pg Z)<|sG Z Z (vY Z ld4) ?_
     refine sG Z Z (aZ Z)<|sG Z Z (vM Z) ?_
     cases all
     ·refine sG Z Z (vM Z)<|sG Z Z (vM Z)<|sG Z Z (aN Z Z)<|sG Z Z (vQ Z Z)<|sV (vP Z Z)<|sM Z ?_
      by_cases hki:k<i
      ·have hq2:decide (((k:Nat):Int)<((i:Nat):Int))=true:=by simp; omega
       rw [hq2]
       iterate 3 refine aB rfl rfl rfl ?_
       refine sV (vQ Z Z)<|sK [1,2,6,7,8,9,11,15,16,17,26,27,28,33,34,35,57] Z<|aQ Z ?_
       refine aC<|xE<|xY<|xT<|cR<|sV (aI Z Z Z0)<|sM Z<|sN<|nK [1,2,6,7,8,9,15,16,17,26,27,28,33,34,35] Z<|ax ?_
       refine aM (r,k+1) ⟨hltk,by rw [if_pos (.inr<|.inl ⟨hall,hki⟩)] at hΦ; exact hΦ⟩ (by dsimp only; omega)
      ·have hq2:decide (((k:Nat):Int)<((i:Nat):Int))=false:=by simp; omega
       rw [hq2]
       refine sG Z Z (af Z dJ Z ag) ?_
       refine sG Z Z (af Z dJ Z ag) ?_
       refine bJ Z Z Z Z FD Z (hst) ?_
       refine sV (vP Z Z)<|sK [1,2,6,7,8,9,11,15,16,17,26,27,28,33,34,35,57] Z ?_
       generalize hsb:Sk.sameTy x y=bq at hΦ ⊢
       cases bq
       ·have hΦ2 : Φ (⟨14,S.c.name,x.name,y.name,⟨d.cls,d.name⟩,og0⟩::(kY S L (λa b => !Sk.sameTy a b) (λa b=>⟨14,S.c.name,a.name,b.name,⟨d.cls,d.name⟩,og0⟩) (x,i) (k+1)++A2)) r:=by
         rw [if_neg (λh=>h.elim hik λh=>h.elim (λh=>hki h.2)<|λh=>by cases h)] at hΦ
         exact hΦ
        refine aH Z ?_
        refine cK<|xT<|cQ<|sV (af Z fH Z ag) ?_
        refine sV (vF Z dC Z)<|sV (vY Z ld9) ?_
        refine sV (vF Z wI Z)<|sV (vY Z ld9 (ha:=⟨_,_,slq,hb63 0<|by simp⟩)) ?_
        refine sV (vF Z wJ Z)<|sV (vY Z ld9 (ha:=⟨_,_,slq,hb63 1<|by simp⟩)) ?_
        refine sV (aO (cells:=[sv d.cls,sv d.name]) Z<|λ_=>Zz) ?_
        refine sV (aO (cells:=[sv [],sv []]) Z<|λ_=>Zz) ?_
        refine aX Z Z jZ Z (hcn 14 x.name ⟨d.cls,d.name⟩ og0) ?_
        unfold cfV cfC
        refine ak DZ λb12=>?_
        refine ai Z Z wF Z Z ?_
        refine sK [1,2,6,7,8,9,11,12,15,16,17,26,27,28,33,34,35] Z<|cQ<|sV (vF Z dC Z)<|sV (vY Z ld9) ?_
        refine sV (vF Z DR Z)<|bg Z Z sz9 ?_
        refine sK [1,2,6,7,8,9,12,15,16,17,26,27,28,33,34,35] Z<|cQ<|sM Z<|sV (af Z tO Z ag) ?_
        refine kz (gd:=0) (.inl Z) Z Z (hy _ _ _ hΦ2) ?_
        rintro u h' (⟨rfl,r',hΦ4,rfl⟩ | ⟨rfl,r',hst,rfl⟩)
        ·simp only [lC,lN]
         refine sV (aZ Z)<|sK [1,2,6,7,8,9,15,16,17,26,27,28,33,34,35,74] Z<|aH Z ?_
         refine cK<|xB<|xT<|cR<|sV (aI Z Z Z0)<|sM Z<|sN<|nK [1,2,6,7,8,9,15,16,17,26,27,28,33,34,35] Z<|ax ?_
         refine aM (r',k+1) ⟨hltk,hΦ4⟩ (by dsimp only; omega)
        ·simp only [lC,lN]
         refine sV (aZ Z)<|sK [1,2,6,7,8,9,15,16,17,26,27,28,33,34,35,74] Z<|aQ Z ?_
         refine cQ<|sA Z<|sK [4] Z<|cT<|xW<|xR<|xR<|xW<|xW<|xR<|xR<|xW<|xW ?_
         refine xR<|xR<|xW<|xR ?_
         exact aj Z ⟨Y3,[mps mb m,mps bm bmp,r'],Z,hE4,r',Z,.inr ⟨Z,_,hst⟩⟩ sbq
       ·refine aQ Z ?_
        refine aC<|xE<|xY<|xT<|cR<|sV (aI Z Z Z0)<|sM Z<|sN<|nK [1,2,6,7,8,9,15,16,17,26,27,28,33,34,35] Z<|ax ?_
        refine aM (r,k+1) ⟨hltk,by rw [if_pos (.inr<|.inr Z)] at hΦ; exact hΦ⟩ (by dsimp only; omega)
     ·iterate 3 refine aB rfl rfl rfl ?_
      refine sG Z Z (vP Z Z)<|sV (vP Z Z)<|sM Z<|sG Z Z (af Z dJ Z ag) ?_
      refine sG Z Z (af Z dJ Z ag) ?_
      refine bJ Z Z Z Z FD Z (hst) ?_
      refine sV (vP Z Z)<|sK [1,2,6,7,8,9,11,15,16,17,26,27,28,33,34,35,57] Z ?_
      generalize hsb:Sk.sameTy x y=bq at hΦ ⊢
      cases bq
      ·have hΦ2 : Φ (⟨14,S.c.name,x.name,y.name,⟨d.cls,d.name⟩,og0⟩::(kY S L (λa b => !Sk.sameTy a b) (λa b=>⟨14,S.c.name,a.name,b.name,⟨d.cls,d.name⟩,og0⟩) (x,i) (k+1)++A2)) r:=by
        rw [if_neg (λh=>h.elim hik λh=>h.elim (λh=>by rw [hall] at h; cases h.1)<|λh=>by cases h)] at hΦ
        exact hΦ
       refine aH Z ?_
       refine cK<|xT<|cQ<|sV (af Z fH Z ag) ?_
       refine sV (vF Z dC Z)<|sV (vY Z ld9) ?_
       refine sV (vF Z wI Z)<|sV (vY Z ld9 (ha:=⟨_,_,slq,hb63 0<|by simp⟩)) ?_
       refine sV (vF Z wJ Z)<|sV (vY Z ld9 (ha:=⟨_,_,slq,hb63 1<|by simp⟩)) ?_
       refine sV (aO (cells:=[sv d.cls,sv d.name]) Z<|λ_=>Zz) ?_
       refine sV (aO (cells:=[sv [],sv []]) Z<|λ_=>Zz) ?_
       refine aX Z Z jZ Z (hcn 14 x.name ⟨d.cls,d.name⟩ og0) ?_
       unfold cfV cfC
       refine ak DZ λb12=>?_
       refine ai Z Z wF Z Z ?_
       refine sK [1,2,6,7,8,9,11,12,15,16,17,26,27,28,33,34,35] Z<|cQ<|sV (vF Z dC Z)<|sV (vY Z ld9) ?_
       refine sV (vF Z DR Z)<|bg Z Z sz9 ?_
       refine sK [1,2,6,7,8,9,12,15,16,17,26,27,28,33,34,35] Z<|cQ<|sM Z<|sV (af Z tO Z ag) ?_
       refine kz (gd:=0) (.inl Z) Z Z (hy _ _ _ hΦ2) ?_
       rintro u h' (⟨rfl,r',hΦ4,rfl⟩ | ⟨rfl,r',hst,rfl⟩)
       ·simp only [lC,lN]
        refine sV (aZ Z)<|sK [1,2,6,7,8,9,15,16,17,26,27,28,33,34,35,74] Z<|aH Z ?_
        refine cK<|xB<|xT<|cR<|sV (aI Z Z Z0)<|sM Z<|sN<|nK [1,2,6,7,8,9,15,16,17,26,27,28,33,34,35] Z<|ax ?_
        refine aM (r',k+1) ⟨hltk,hΦ4⟩ (by dsimp only; omega)
       ·simp only [lC,lN]
        refine sV (aZ Z)<|sK [1,2,6,7,8,9,15,16,17,26,27,28,33,34,35,74] Z<|aQ Z ?_
        refine cQ<|sA Z<|sK [4] Z<|cT<|xW<|xR<|xR<|xW<|xW<|xR<|xR<|xW<|xW ?_
        refine xR<|xR<|xW<|xR ?_
        exact aj Z ⟨Y3,[mps mb m,mps bm bmp,r'],Z,hE4,r',Z,.inr ⟨Z,_,hst⟩⟩ sbq
      ·refine aQ Z ?_
       refine aC<|xE<|xY<|xT<|cR<|sV (aI Z Z Z0)<|sM Z<|sN<|nK [1,2,6,7,8,9,15,16,17,26,27,28,33,34,35] Z<|ax ?_
       refine aM (r,k+1) ⟨hltk,by rw [if_pos (.inr<|.inr Z)] at hΦ; exact hΦ⟩ (by dsimp only; omega)
   ·have hend:k=L.length:=Nat.le_antisymm hk<|Nat.not_lt.1 Zp
    subst hend
    rw [AO,List.nil_append] at hΦ
    refine aC<|xE<|xE<|xY<|xB<|xT<|cR<|sV (aI Z Z Z0)<|sM Z<|sN<|nK [1,2,6,7,15,16,17,26,27,28] Z<|ax ?_
    refine aM (r,i+1) ⟨hlti,by rw [hA2]; exact hΦ⟩ (by dsimp only; omega)
  ·have hend:i=L.length:=Nat.le_antisymm hi<|Nat.not_lt.1 Zw
   subst hend
   rw [mY,List.nil_append] at hΦ
   refine aC<|xE<|xE<|xY<|xB<|xT<|cR<|sV (aI Z Z Z0)<|sM Z<|sN<|nK [1,2,15,16,17] Z<|ax ?_
   refine aM (Y3,r,j+1) ⟨hE4,hltj,by rw [hA]; exact hΦ⟩ (by dsimp only; omega)
 ·have hend:j=S.seeds.length:=Nat.le_antisymm hj<|Nat.not_lt.1 Zx
  subst hend
  rw [dL,List.nil_append] at hΦ
  refine aC<|xE<|xE<|xY<|xT<|cQ<|sA Z<|sK [4] Z<|cT ?_
  exact aj Z ⟨Y,[mps mb m,mps bm bmp,r],Z,hE,r,Z,.inl ⟨Z,hΦ⟩⟩ sbq
end
end Go.Fl
