/-
  Package flat: chosen yields conflicts of the kinds from CnSeed on. Conditions: what is read; sizes.
-/
import Derived.Test.YtknmacdbffgjgaaGreatDoorM15
set_option linter.unusedVariables false
set_option linter.unusedSimpArgs false
set_option maxRecDepth 100000
set_option maxHeartbeats 16000000
namespace Go.Fl
open Go Go.RowKit Go.Ck Go.Proofs Go.Proofs.Tryz Go.Proofs.YtknmacdbffgjgaaGreatDoor Fx Go.Hr
namespace Sk
section
variable (s:Sk)
def rx (k:Nat) (n:Nm) (x:Cm):List Cf:=match feat s.c n with
 | none=>[]
 | some f=>if s.redK f x k then [s.cf (6+k) n x.og og0] else []
def rn (k:Nat) (n:Nm):List Cf:=(under s.cs n).flatMap (s.rx k n)
def rk (k:Nat):List Cf:=s.skeys.flatMap (s.rn k)
theorem redeclared_eq:s.redeclared=[0,1,2].flatMap s.rk:=by
 unfold redeclared
 refine dH λk _=>dH λn _=>?_
 unfold rn rx
 cases feat s.c n with
 | none=>simp
 | some f=>rfl
theorem keys_few {s:Sk} (hB:SkB s):(keys s.cs).length≤240:=Nat.le_trans (Bj s.cs) (hB.fits.few<|.inl hB.cls)
theorem skeys_len (s:Sk):s.skeys.length=(keys s.cs).length:=Nat.le_antisymm
 (aT (iG _).1.nodup λx hx=>((iG _).2 x).1 hx) (aT (gX _) λx hx=>((iG _).2 x).2 hx)
end
end Sk
def kcap (b:Nat) (k:Nat):Array Value:=if k=1 then #[.pointer (some ⟨b,0,none⟩)] else #[]
def kfun (b k:Nat):Value:=.func (.func (209+k)) #[] (kcap b k)
theorem kfun_at {b k:Nat} (h:k<3):([Value.func (.func 209) #[] #[],.func (.func 210) #[] #[.pointer (some ⟨b,0,none⟩)],.func (.func 211) #[] #[]]:List Value)[k]? = some (kfun b k):=by
 match k,h with
 | 0,_=>rfl
 | 1,_=>rfl
 | 2,_=>rfl
theorem en209k {k:Nat} (h:k<3):Ck.Enters prog (209+k):=by
 match k,h with
 | 0,_=>exact en209
 | 1,_=>exact en210
 | 2,_=>exact en211
attribute [local irreducible] Go.Ck.Sub St Cd Xt Nx DrL LsW
section
variable {X Y:Res} {v v':Value} {us us':List Value}
theorem redK_ct {S:Sk} {f:Fe} {x:Cm} {p:Pt} {b2 k:Nat} {pv:Value} (hk:k<3) (h:Enc.rep X us f) (h':Enc.rep X us' x) (hrd:Rd X ⟨b2,5,none⟩ pv) (hpv:Ls X pv S.c.pars) (hp:S.c.pars[x.par]? = some p) (hl:p.red.length≤1099511627776) :
  Reads prog (209+k) (#[]++([.agg us.toArray,.agg us'.toArray]:List Value).toArray++kcap b2 k) [X] (.bool<|S.redK f x k):=by
 have hpx:dG S.c x.par=p:=by unfold dG; rw [hp]; rfl
 match k,hk with
 | 0,_=>exact reads_nil (Jc h h')
 | 1,_ =>
  have:=Jh h h' hrd hpv hp hl
  unfold Sk.redK
  rw [hpx]
  exact this
 | 2,_=>exact Jd h h'

theorem BK {yl mb bm : Nat} {Φ : List Cf -> Res -> Prop} {Stop : Cf -> Res -> Prop} (hy : Yh yl Φ Stop) {S : Sk} {all : Bool} (hall : S.all = all) {m bmp : List (Nm × Value)} {ca cb ce cf ci mv : Value} (hK : SkR X S v m ca cb ce cf ci mv bmp) (hB : SkB S) (hk0 : bmp.map (λp => p.1) = keys S.cs) (R : List Cf) (r0 : Res) (h0 : Φ (S.redeclared ++ R) r0) :
  CtX prog 129 #[.agg (eX v (.map<|some mb) S.c ca cb ce cf ci mv (.map<|some bm) all).toArray,.func (.yield yl) #[] #[]] X [mps mb m,mps bm bmp,r0] λu Y k'=>∃ r,k'=[mps mb m,mps bm bmp,r]/\Yend Φ Stop R u r:=by
 have hml:maxLen=9223372036854775807:=rfl
 obtain ⟨cb,ck,rfl,hckl,hckm,_⟩:=id hK.par.form
 obtain ⟨cf,cfk,rfl,_⟩:=id hK.feat.form
 obtain ⟨mA,mK,rfl,_⟩:=id hK.ms.form
 have hcn:=λb=>fQ (fv:=.map<|some mb) (c:=S.c) (v:=v) (ca:=ca) (cb:=.slice cb S.c.pars.length ck) (ce:=ce) (cf:=.slice cf S.c.feats.length cfk) (ci:=ci) (mv:=.slice mA S.ms.length mK) (bv:=.map<|some bm) (all:=all) b
 have hfew:=Sk.keys_few hB
 have hsl:=Sk.skeys_len S
 have hbl:bmp.length=(keys S.cs).length:=by rw [<- hk0,List.length_map]
 have hnd:(bmp.map λp=>p.1).Nodup:=by rw [hk0]; exact gX _
 have hsk:srt (bmp.map λp=>p.1)=S.skeys:=by rw [hk0]; rfl
 rw [Sk.redeclared_eq] at h0
 unfold CtX
 unfold eX at *
 refine aL (n:=72) func129 Z Z (len Z) λhr w0=>?_
 refine cQ (aP Z Z λb2=>?_)
 refine sA Z<|sK [1,2,4] Z<|cQ<|sV (bQ Z Z) (ak (cells:=[.func (.func 209) #[] #[],.func (.func 210) #[] #[.pointer (some ⟨b2,0,none⟩)],.func (.func 211) #[] #[]]) Z underlying282 inf281 Z Z Zz (ltn Z) λb15=>?_)
 refine sA Z<|sK [1,2,4,5] Z<|cS<|cQ<|sM Z<|sV (aF Z underlying282)<|sM Z<|sK [1,2,4,16,17,18] Z<|cB<|aX (σ := Res×Nat) (λq=>[(1,.func (.yield yl) #[] #[]),(2,.pointer (some ⟨b2,0,none⟩)),(16,.slice (some ⟨b15,0,none⟩) 3 3),(17,.int .i64 ((3:Nat):Int)),(18,.int .i64 (q.2:Nat))]) (λq=>pt b15 (cl [.func (.func 209) #[] #[],.func (.func 210) #[] #[.pointer (some ⟨b2,0,none⟩)],.func (.func 211) #[] #[]] 281)::pt b2 (cl [v,.map (some mb),sv S.c.name,.bool S.c.dfd,ca,.slice cb S.c.pars.length ck,ce,.slice cf S.c.feats.length cfk,ci,.slice mA S.ms.length mK,.map (some bm),.bool all] 206)::X::mps mb m::mps bm bmp::q.1::hr) (λq=>q.2≤3 /\ Φ (([0,1,2].drop q.2).flatMap S.rk++R) q.1) (λq=>3 - q.2) (r0,0) ⟨Nat.zero_le _,h0⟩ ?_
 rintro ⟨r,k⟩ ⟨hk,hΦ⟩
 simp only at hk hΦ
 dsimp only
 refine cQ<|sV (aN Z Z)<|sN<|nT<|cS<|cC Z (λhd=>?_)<|λhd=>?_
 ·have hlt:k<3:=by have:=of_decide_eq_true hd; omega
  rw [ed (xs:=[0,1,2]) hlt,List.append_assoc] at hΦ
  have hk3:([0,1,2]:List Nat)[k]=k:=by
   match k,hlt with
   | 0,_=>rfl
   | 1,_=>rfl
   | 2,_=>rfl
  rw [hk3] at hΦ
  generalize hA:([0,1,2].drop (k+1)).flatMap S.rk++R=A at hΦ
  have hΦ : Φ (S.skeys.flatMap (S.rn k)++A) r:=hΦ
  have hsk':=kfun_at (b:=b2) hlt
  refine cK<|xT<|cS<|cB<|cQ<|sM Z<|sV (vI (k:=k) Z Z sl282 Z hlt Z)<|sV (vY Z ld281 (ha:=⟨_,_,slq,bV<|by simpa using hsk'⟩)) ?_
  refine sA Z<|sA Z<|sK [1,2,6,7,16,17,18] Z<|cQ<|sV (vF Z oV Z)<|sV (vY Z qN) ?_
  refine aH Z Z en213 Z (ut) ?_
  rintro u h' ⟨b1,rfl,rfl⟩
  simp only [lC,lN]
  refine aH Z Z en212 Z (pU (by omega) hnd) ?_
  rintro u h' ⟨hu,rfl⟩
  simp only [lC,lN]
  rw [hsk]
  unfold NR
  refine jr (v:=u) (E:=9) (sz:=1) (rows:=S.skeys.map nC) slq λwa wc hwf hwl hwm=>?_
  rw [List.length_map] at hwf hwl
  subst hwf
  unfold kfun
  refine sV (aF Z underlying40)<|sM Z<|sK [1,2,6,7,16,17,18,26,27,28] Z<|cB<|aX (σ := Res×Nat) (λq=>[(1,.func (.yield yl) #[] #[]),(2,.pointer (some ⟨b2,0,none⟩)),(16,.slice (some ⟨b15,0,none⟩) 3 3),(17,.int .i64 ((3:Nat):Int)),(18,.int .i64 (k:Nat)),(6,.int .i64 (k:Nat)),(7,.func (.func (209+k)) #[] (kcap b2 k)),(26,.slice wa S.skeys.length wc),(27,.int .i64 S.skeys.length),(28,.int .i64 (q.2:Nat))]) (λq=>VR (.slice wa S.skeys.length wc) 9 1 (S.skeys.map nC)::pt b15 (cl [.func (.func 209) #[] #[],.func (.func 210) #[] #[.pointer (some ⟨b2,0,none⟩)],.func (.func 211) #[] #[]] 281)::pt b2 (cl [v,.map (some mb),sv S.c.name,.bool S.c.dfd,ca,.slice cb S.c.pars.length ck,ce,.slice cf S.c.feats.length cfk,ci,.slice mA S.ms.length mK,.map (some bm),.bool all] 206)::X::mps mb m::mps bm bmp::q.1::hr) (λq=>q.2≤S.skeys.length /\ Φ ((S.skeys.drop q.2).flatMap (S.rn k)++A) q.1) (λq=>S.skeys.length - q.2) (r,0) ⟨Nat.zero_le _,hΦ⟩ ?_
  clear hΦ
  rintro ⟨r,j⟩ ⟨hj,hΦ⟩
  simp only at hj hΦ
  dsimp only
  refine cQ<|sV (aN Z Z)<|sN<|nT<|cS<|cC Z (λhd2=>?_)<|λhd2=>?_
  ·have hltj:j<S.skeys.length:=Zw
   rw [ed hltj,List.append_assoc] at hΦ
   have hnx:(S.skeys.map nC)[j]? = some [sv S.skeys[j]]:=by rw [List.getElem?_map,Zy hltj]; rfl
   refine fJ (r:=VR (.slice wa S.skeys.length wc) 9 1<|S.skeys.map nC) slq λhok=>?_
   obtain ⟨ab,ao,rfl⟩:∃ ab ao,wa=some ⟨ab,ao,none⟩:=by
    obtain ⟨f0,hf0⟩:=hok
    rcases VR.form hf0 with ⟨h3,h4⟩ | ⟨b,o,cp,h3,-⟩
    ·have:=List.map_eq_nil_iff.1 h4
     rw [this] at hltj; simp at hltj
    ·rw [List.length_map] at h3; cases h3; exact ⟨b,o,rfl⟩
   generalize S.skeys[j]=n at hΦ hnx
   generalize hA2:(S.skeys.drop (j+1)).flatMap (S.rn k)++A=A2 at hΦ
   have hΦ : Φ ((under S.cs n).flatMap (S.rx k n)++A2) r:=hΦ
   have hul:=hB.under n
   have hun:=hK.by' n
   have hpar:∀ x∈under S.cs n,∃ p,S.c.pars[x.par]? = some p/\p.red.length≤1099511627776:=λx hx=>by
    obtain ⟨p,hp,-⟩:=jc (List.mem_filter.1 hx).1
    exact ⟨p,hp,by have:=(hB.lists<|List.mem_of_getElem? hp).2.2.1; omega⟩
   obtain ⟨la,lc,hlv,hlc,-,-⟩:=id hun.form
   refine cK<|xT<|cS<|cB<|cQ<|sV (vI (k:=j) Z Z jm Z hltj Z)<|sV (vY Z ld9 (ha:=⟨_,_,slq,eQ hnx 0<|by simp⟩)) ?_
   refine sA Z<|sK [1,2,6,7,9,16,17,18,26,27,28] Z<|cQ<|sV (vF Z gM Z)<|sV (vF Z kv Z)<|sV (vY Z yX) ?_
   refine sM Z<|aH Z Z yE Z (iT (n:=n) hK.feat) ?_
   rintro u h' ⟨rfl,gus,rfl,hgr⟩
   simp only [lC,lN]
   have hg15:gus.length=15:=Enc.len hgr
   have hgo:=Enc.ones hgr
   refine sM Z<|sV (ag Z Z)<|sV (ag Z Z) (au lH λb10=>?_)
   refine ai (hl:=by rw [hg15]; rfl) Z Z jQ hg15 hgo ?_
   have hmf:(S.c.feats.find? λc=>c.name == n)=feat S.c n:=rfl
   rw [hmf]
   rw [hmf] at hgr
   refine sA Z<|sK [1,2,6,7,9,10,11,16,17,18,26,27,28] Z<|cQ<|sV (vF Z oV Z)<|sV (vY Z qN) ?_
   refine sM Z ?_
   rw [hlv] at hun
   refine sV (gq hlv<|bI Z Z sI tC slq) ?_
   refine sV (aF Z underlying187)<|sM Z<|sK [1,2,6,7,9,10,11,16,17,18,26,27,28,43,44,45] Z<|cB<|aX (σ := Res×Nat) (λq=>[(1,.func (.yield yl) #[] #[]),(2,.pointer (some ⟨b2,0,none⟩)),(16,.slice (some ⟨b15,0,none⟩) 3 3),(17,.int .i64 ((3:Nat):Int)),(18,.int .i64 (k:Nat)),(6,.int .i64 (k:Nat)),(7,.func (.func (209+k)) #[] (kcap b2 k)),(26,.slice (some ⟨ab,ao,none⟩) S.skeys.length wc),(27,.int .i64 S.skeys.length),(28,.int .i64 (j:Nat)),(9,sv n),(10,.pointer (some ⟨b10,0,none⟩)),(11,.bool (feat S.c n).isSome),(43,.slice la (under S.cs n).length lc),(44,.int .i64 (under S.cs n).length),(45,.int .i64 (q.2:Nat))]) (λq=>pt b10 (cl gus 130)::VR (.slice (some ⟨ab,ao,none⟩) S.skeys.length wc) 9 1 (S.skeys.map nC)::pt b15 (cl [.func (.func 209) #[] #[],.func (.func 210) #[] #[.pointer (some ⟨b2,0,none⟩)],.func (.func 211) #[] #[]] 281)::pt b2 (cl [v,.map (some mb),sv S.c.name,.bool S.c.dfd,ca,.slice cb S.c.pars.length ck,ce,.slice cf S.c.feats.length cfk,ci,.slice mA S.ms.length mK,.map (some bm),.bool all] 206)::X::mps mb m::mps bm bmp::q.1::hr) (λq=>q.2≤(under S.cs n).length /\ Φ (((under S.cs n).drop q.2).flatMap (S.rx k n)++A2) q.1) (λq=>(under S.cs n).length - q.2) (r,0) ⟨Nat.zero_le _,hΦ⟩ ?_
   clear hΦ
   generalize hL:under S.cs n=L at hun hpar hul
   rintro ⟨r,i⟩ ⟨hi,hΦ⟩
   simp only at hi hΦ
   dsimp only
   refine cQ<|sV (aN Z Z)<|sN<|nT<|cS<|cC Z (λhd3=>?_)<|λhd3=>?_
   ·have hlti:i<L.length:=Zr
    rw [ed hlti,List.append_assoc] at hΦ
    have hpx:=hpar _<|List.getElem_mem hlti
    obtain ⟨cb',co,ccap,cus,e4,hcus,hcrd,hcr⟩:=hun.at<|Zy hlti
    obtain ⟨rfl,rfl⟩:la=some ⟨cb',co,none⟩/\lc=ccap:=by cases e4; exact ⟨rfl,rfl⟩
    generalize L[i]=y at hΦ hcr hpx
    obtain ⟨p,hpp,hprl⟩:=hpx
    have hcr0:=hcr
    have hyo:=Enc.ones hcr
    obtain ⟨y2,y5,yy,y11,y12,y13,rfl,-⟩:=gZ hcr
    have hogy:=λb=>nu (b:=b) (x:=y) (x2:=y2) (x5:=y5) (y:=yy) (x11:=y11) (x12:=y12) (x13:=y13)
    unfold oC at *
    refine cK<|xT<|cS<|cB<|cQ<|sV (vI (k:=i) Z Z lF Z hlti Z)<|sV (af Z gV Z hcrd) ?_
    refine au qR λb13=>?_
    refine ai Z Z mr Z hyo ?_
    refine sK [1,2,6,7,9,10,11,13,16,17,18,26,27,28,43,44,45] Z<|cQ<|sM Z<|sM Z ?_
    cases hq:feat S.c n
    ·have hrx:S.rx k n y=[]:=by unfold Sk.rx; rw [hq]
     rw [hrx,List.nil_append] at hΦ
     iterate 4 refine aC rfl rfl rfl ?_
     refine sV (vP Z Z)<|sM Z<|aC Z Z Z ?_
     iterate 10 refine aC rfl rfl rfl ?_
     refine sV (vP Z Z)<|sK [1,2,6,7,9,10,11,16,17,18,26,27,28,43,44,45,68] Z<|aG Z ?_
     refine cK<|xB<|xT<|cR<|sV (aI Z Z Za)<|sM Z<|sN<|nK [1,2,6,7,9,10,11,16,17,18,26,27,28,43,44,45] Z<|ax ?_
     refine aJ (r,i+1) ⟨hlti,hΦ⟩ (by dsimp only; omega)
    ·rename_i f
     have hrx:S.rx k n y=if S.redK f y k then [S.cf (6+k) n y.og og0] else []:=by unfold Sk.rx; rw [hq]
     rw [hrx] at hΦ
     have hgr:Enc.rep X gus f:=by rw [hq] at hgr; exact hgr
     have hrk:=redK_ct (b2:=b2) hlt (Enc.up (bE<|.there .here) hgr) (Enc.up (bE<|.there .here) hcr0) (X:=Res.star [pt b2 (cl [v,.map (some mb),sv S.c.name,.bool S.c.dfd,ca,.slice cb S.c.pars.length ck,ce,.slice cf S.c.feats.length cfk,ci,.slice mA S.ms.length mK,.map (some bm),.bool all] 206),X]) (bE .here _ _<|bV rfl) (hK.par.up'<|bE<|.there .here) hpp hprl
     have hrk:=dF hrk
     unfold oC at hrk
     refine sG Z Z (vM Z)<|sG Z Z (af Z nR hg15 ah) ?_
     refine sG Z Z (af Z gV Z ah) ?_
     refine bU Z Z Z Z (en209k hlt) Z (hrk) ?_
     refine sV (vQ Z Z)<|sM Z ?_
     generalize S.redK f y k=bq at hΦ
     cases bq
     ·have hΦ : Φ ((L.drop (i+1)).flatMap (S.rx k n)++A2) r:=hΦ
      iterate 11 refine aC rfl rfl rfl ?_
      refine sV (vP Z Z)<|sK [1,2,6,7,9,10,11,16,17,18,26,27,28,43,44,45,68] Z<|aG Z ?_
      refine cK<|xB<|xT<|cR<|sV (aI Z Z Za)<|sM Z<|sN<|nK [1,2,6,7,9,10,11,16,17,18,26,27,28,43,44,45] Z<|ax ?_
      refine aJ (r,i+1) ⟨hlti,hΦ⟩ (by dsimp only; omega)
     ·have hΦ2 : Φ (S.cf (6+k) n y.og og0::((L.drop (i+1)).flatMap (S.rx k n)++A2)) r:=hΦ
      refine sG Z Z (vM Z)<|sG Z Z (af Z fC Z ah) ?_
      refine sG Z Z (vM Z)<|sG Z Z (aI Z Z Za)<|sG Z Z (vM Z)<|sG Z Z (vF Z jo Z)<|sG Z Z (af Z qm Z (hogy b13) (s:=.here)) ?_
      refine sG Z Z (aO (cells:=[sv [],sv []]) Z<|λ_=>Zz) ?_
      refine bU Z Z Z Z jS Z (hcn (6+(k:Nat)) n y.og og0) ?_
      refine kg (gd:=56) (.inr ⟨_,_,Z,Z,Z⟩) Z Z (hy _ _ _ hΦ2) ?_
      rintro u h' (⟨rfl,r',hΦ4,rfl⟩ | ⟨rfl,r',hst,rfl⟩)
      ·simp only [lC,lN]
       refine sG Z Z (bg Z)<|sV (vQ Z Z)<|sK [1,2,6,7,9,10,11,16,17,18,26,27,28,43,44,45,68] Z<|aG Z ?_
       refine cK<|xB<|xT<|cR<|sV (aI Z Z Za)<|sM Z<|sN<|nK [1,2,6,7,9,10,11,16,17,18,26,27,28,43,44,45] Z<|ax ?_
       refine aJ (r',i+1) ⟨hlti,hΦ4⟩ (by dsimp only; omega)
      ·simp only [lC,lN]
       refine sG Z Z (bg Z)<|sV (vQ Z Z)<|sK [1,2,6,7,9,10,11,16,17,18,26,27,28,43,44,45,68] Z<|aQ Z ?_
       refine cQ<|sA Z<|sK [4] Z<|cT<|xW<|xR<|xR<|xW<|xW<|xR<|xR<|xW<|xW ?_
       refine xR<|xR<|xW<|xR ?_
       exact aj Z ⟨X,[mps mb m,mps bm bmp,r'],Z,Ext.refl X,r',Z,.inr ⟨Z,_,hst⟩⟩ sbq
   ·have hend:i=L.length:=Nat.le_antisymm hi<|Nat.not_lt.1 Zr
    subst hend
    rw [dL,List.nil_append] at hΦ
    refine aB<|xE<|xE<|xY<|xB<|xT<|cR<|sV (aI Z Z Za)<|sM Z<|sN<|nK [1,2,6,7,16,17,18,26,27,28] Z<|ax ?_
    refine aJ (r,j+1) ⟨hltj,by rw [hA2]; exact hΦ⟩ (by dsimp only; omega)
  ·have hend:j=S.skeys.length:=Nat.le_antisymm hj<|Nat.not_lt.1 Zw
   subst hend
   rw [dL,List.nil_append] at hΦ
   refine aB<|xE<|xE<|xY<|xB<|xT<|cR<|sV (aI Z Z Za)<|sM Z<|sN<|nK [1,2,16,17,18] Z<|ax ?_
   refine aJ (r,k+1) ⟨hlt,by rw [hA]; exact hΦ⟩ (by dsimp only; omega)
 ·have hend:k=3:=by have:=of_decide_eq_false hd; omega
  subst hend
  have hΦ : Φ R r:=hΦ
  refine aB<|xE<|xE<|xY<|xT<|cQ<|sA Z<|sK [4] Z<|cT ?_
  exact aj Z ⟨X,[mps mb m,mps bm bmp,r],Z,Ext.refl X,r,Z,.inl ⟨Z,hΦ⟩⟩ sbq
end
end Go.Fl
namespace Go.Ck
open Go Go.RowKit
theorem v_bneq {P:Program} {e:Env} {h:SH} {ty t t':TypeId} {x y:Operand} {a b:Bool} (hT:P.underlying t=some .bool) (hx:e.ev? x=some (.bool a)) (hy:e.ev? y=some (.bool b)):Vop P e h (.binOp .neq t x y t') ty (.bool (a != b)):=
 ⟨by simp,by simp,λρ w d pos after g hρ _=>by simp [execOp,hρ x _ hx,hρ y _ hy,eqGuard,binOp,bne,run_equal_bool w t a b hT]⟩
end Go.Ck
namespace Go.Fl
open Go Go.RowKit Go.Ck Go.Proofs Go.Proofs.Tryz Go.Proofs.YtknmacdbffgjgaaGreatDoor Fx Go.Hr
namespace Sk
section
variable (s:Sk)
def t1x (n:Nm) (x:Cm):List Cf:=match feat s.c n with
 | none=>let y:=((under s.cs n).head?).getD x
  if sameTy y.mem x.mem then [] else [s.cf 9 n y.og x.og]
 | some f=>if decide (f.args=x.mem.args) && ((f.ty.kind == 0) == (x.mem.ty.kind == 0)) then [] else [s.cf 9 n ⟨[],n⟩ x.og]
def t1 (n:Nm):List Cf:=(under s.cs n).flatMap (s.t1x n)
def t2 (n:Nm):List Cf:=if (feat s.c n).isSome then [] else s.cpairs (under s.cs n) 10 λa b=>(!a.dfd && !b.dfd) && !same a.mem b.mem
theorem typed_eq:s.typed=s.skeys.flatMap s.t1++s.skeys.flatMap s.t2:=rfl
end
end Sk
attribute [local irreducible] Go.Ck.Sub St Cd Xt Nx DrL LsW
section
variable {X Y:Res} {v v':Value} {us us':List Value}

theorem Ot {yl mb bm : Nat} {Φ : List Cf -> Res -> Prop} {Stop : Cf -> Res -> Prop} (hy : Yh yl Φ Stop) {S : Sk} {all : Bool} (hall : S.all = all) {m bmp : List (Nm × Value)} {ca cb ce cf ci mv : Value} (hK : SkR X S v m ca cb ce cf ci mv bmp) (hB : SkB S) (hk0 : bmp.map (λp => p.1) = keys S.cs) (R : List Cf) (r0 : Res) (h0 : Φ (S.typed ++ R) r0) :
  CtX prog 130 #[.agg (eX v (.map<|some mb) S.c ca cb ce cf ci mv (.map<|some bm) all).toArray,.func (.yield yl) #[] #[]] X [mps mb m,mps bm bmp,r0] λu Y k'=>∃ r,k'=[mps mb m,mps bm bmp,r]/\Yend Φ Stop R u r:=by
 have hml:maxLen=9223372036854775807:=rfl
 obtain ⟨cb,ck,rfl,hckl,hckm,_⟩:=id hK.par.form
 obtain ⟨cf,cfk,rfl,_⟩:=id hK.feat.form
 obtain ⟨mA,mK,rfl,_⟩:=id hK.ms.form
 have hcn:=λb=>fQ (fv:=.map<|some mb) (c:=S.c) (v:=v) (ca:=ca) (cb:=.slice cb S.c.pars.length ck) (ce:=ce) (cf:=.slice cf S.c.feats.length cfk) (ci:=ci) (mv:=.slice mA S.ms.length mK) (bv:=.map<|some bm) (all:=all) b
 have hfew:=Sk.keys_few hB
 have hsl:=Sk.skeys_len S
 have hbl:bmp.length=(keys S.cs).length:=by rw [<- hk0,List.length_map]
 have hnd:(bmp.map λp=>p.1).Nodup:=by rw [hk0]; exact gX _
 have hsk:srt (bmp.map λp=>p.1)=S.skeys:=by rw [hk0]; rfl
 rw [Sk.typed_eq,List.append_assoc] at h0
 generalize hT:S.skeys.flatMap S.t2++R=T at h0
 unfold CtX
 unfold eX at *
 refine aL (n:=120) func130 Z Z (len Z) λhr w0=>?_
 refine cQ (aP Z Z λb2=>?_)
 refine sA Z<|sK [1,2,4] Z<|cS<|cQ<|sV (vF Z oV Z)<|sV (vY Z qN) ?_
 refine aH Z Z en213 Z (ut) ?_
 rintro u h' ⟨b1,rfl,rfl⟩
 simp only [lC,lN]
 refine aH Z Z en212 Z (pU (by omega) hnd) ?_
 rintro u h' ⟨hu,rfl⟩
 simp only [lC,lN]
 rw [hsk]
 unfold NR
 refine jr (v:=u) (E:=9) (sz:=1) (rows:=S.skeys.map nC) slq λwa wc hwf hwl hwm=>?_
 rw [List.length_map] at hwf hwl
 subst hwf
 refine sV (aF Z underlying40)<|sM Z<|sK [1,2,4,21,22,23] Z<|cB<|aX (σ := Res×Nat) (λq=>[(1,.func (.yield yl) #[] #[]),(2,.pointer (some ⟨b2,0,none⟩)),(21,.slice wa S.skeys.length wc),(22,.int .i64 S.skeys.length),(23,.int .i64 (q.2:Nat))]) (λq=>VR (.slice wa S.skeys.length wc) 9 1 (S.skeys.map nC)::pt b2 (cl [v,.map (some mb),sv S.c.name,.bool S.c.dfd,ca,.slice cb S.c.pars.length ck,ce,.slice cf S.c.feats.length cfk,ci,.slice mA S.ms.length mK,.map (some bm),.bool all] 206)::X::mps mb m::mps bm bmp::q.1::hr) (λq=>q.2≤S.skeys.length /\ Φ ((S.skeys.drop q.2).flatMap (S.t1)++T) q.1) (λq=>S.skeys.length - q.2) (r0,0) ⟨Nat.zero_le _,h0⟩ ?_
 rintro ⟨r,j⟩ ⟨hj,hΦ⟩
 simp only at hj hΦ
 dsimp only
 refine cQ<|sV (aN Z Z)<|sN<|nT<|cS<|cC Z (λhd2=>?_)<|λhd2=>?_
 ·have hltj:j<S.skeys.length:=Zw
  rw [ed hltj,List.append_assoc] at hΦ
  have hnx:(S.skeys.map nC)[j]? = some [sv S.skeys[j]]:=by rw [List.getElem?_map,Zy hltj]; rfl
  refine fJ (r:=VR (.slice wa S.skeys.length wc) 9 1<|S.skeys.map nC) slq λhok=>?_
  obtain ⟨ab,ao,rfl⟩:∃ ab ao,wa=some ⟨ab,ao,none⟩:=by
   obtain ⟨f0,hf0⟩:=hok
   rcases VR.form hf0 with ⟨h3,h4⟩ | ⟨b,o,cp,h3,-⟩
   ·have:=List.map_eq_nil_iff.1 h4
    rw [this] at hltj; simp at hltj
   ·rw [List.length_map] at h3; cases h3; exact ⟨b,o,rfl⟩
  generalize S.skeys[j]=n at hΦ hnx
  generalize hA2:(S.skeys.drop (j+1)).flatMap (S.t1)++T=A2 at hΦ
  have hul:=hB.under n
  have hun:=hK.by' n
  obtain ⟨la,lc,hlv,hlc,-,-⟩:=id hun.form
  rw [hlv] at hun
  have hΦ : Φ ((under S.cs n).flatMap (S.t1x n)++A2) r:=hΦ
  refine cK<|xT<|cS<|cB<|cQ<|sV (vI (k:=j) Z Z jm Z hltj Z)<|sV (vY Z ld9 (ha:=⟨_,_,slq,eQ hnx 0<|by simp⟩)) ?_
  refine sA Z<|sK [1,2,6,21,22,23] Z<|cQ<|sV (vF Z oV Z)<|sV (vY Z qN) ?_
  refine sM Z<|sV (gq hlv<|bI Z Z sI tC slq) ?_
  refine sA Z<|sK [1,2,6,7,21,22,23] Z<|cQ<|sV (vF Z gM Z)<|sV (vF Z kv Z)<|sV (vY Z yX) ?_
  refine sM Z<|aH Z Z yE Z (iT (n:=n) hK.feat) ?_
  rintro u h' ⟨rfl,gus,rfl,hgr⟩
  simp only [lC,lN]
  have hg15:gus.length=15:=Enc.len hgr
  have hgo:=Enc.ones hgr
  have hmf:(S.c.feats.find? λc=>c.name == n)=feat S.c n:=rfl
  rw [hmf]
  rw [hmf] at hgr
  generalize hf0:(feat S.c n).getD fe0=f0 at hgr
  obtain ⟨g2,g3,gy,g9,g10,g11,g12,g13,g14,rfl,hg2,hg3,-⟩:=nk hgr
  obtain ⟨ga3,gk3,rfl,_⟩:=id hg3.form
  unfold Bf at *
  refine sM Z<|sV (ag Z Z)<|sV (ag Z Z) (au lH λb8=>?_)
  refine ai Z Z jQ Z hgo ?_
  refine sA Z<|sK [1,2,6,7,8,9,21,22,23] Z<|cQ<|sM Z<|sV (aF Z underlying187)<|sM Z<|sN<|nT<|cB<|aX (σ := Res×Nat) (λq=>[(1,.func (.yield yl) #[] #[]),(2,.pointer (some ⟨b2,0,none⟩)),(21,.slice (some ⟨ab,ao,none⟩) S.skeys.length wc),(22,.int .i64 S.skeys.length),(23,.int .i64 (j:Nat)),(6,sv n),(7,.slice la (under S.cs n).length lc),(8,.pointer (some ⟨b8,0,none⟩)),(9,.bool (feat S.c n).isSome),(39,.slice la (under S.cs n).length lc),(40,.int .i64 (under S.cs n).length),(41,.int .i64 (q.2:Nat))]) (λq=>pt b8 (cl [.int .i64 f0.kind,sv f0.name,g2,.slice ga3 f0.args.length gk3,.int .i64 f0.ty.kind,sv f0.ty.name,gy,.bool f0.ty.void,.bool f0.ty.sep,g9,g10,g11,g12,g13,g14] 130)::VR (.slice (some ⟨ab,ao,none⟩) S.skeys.length wc) 9 1 (S.skeys.map nC)::pt b2 (cl [v,.map (some mb),sv S.c.name,.bool S.c.dfd,ca,.slice cb S.c.pars.length ck,ce,.slice cf S.c.feats.length cfk,ci,.slice mA S.ms.length mK,.map (some bm),.bool all] 206)::X::mps mb m::mps bm bmp::q.1::hr) (λq=>q.2≤(under S.cs n).length /\ Φ (((under S.cs n).drop q.2).flatMap (S.t1x n)++A2) q.1) (λq=>(under S.cs n).length - q.2) (r,0) ⟨Nat.zero_le _,hΦ⟩ ?_
  clear hΦ
  have ht1:∀ x,S.t1x n x=match feat S.c n with
    | none=>if Sk.sameTy (((under S.cs n).head?).getD x).mem x.mem then [] else [S.cf 9 n (((under S.cs n).head?).getD x).og x.og]
    | some f=>if decide (f.args=x.mem.args) && ((f.ty.kind == 0) == (x.mem.ty.kind == 0)) then [] else [S.cf 9 n ⟨[],n⟩ x.og]:=λx=>rfl
  generalize hL:under S.cs n=L at hun hul ht1
  rintro ⟨r,i⟩ ⟨hi,hΦ⟩
  simp only at hi hΦ
  dsimp only
  refine cQ<|sV (aN Z Z)<|sN<|nT<|cS<|cC Z (λhd3=>?_)<|λhd3=>?_
  ·have hlti:i<L.length:=Zr
   rw [ed hlti,List.append_assoc] at hΦ
   have h00:0<L.length:=by omega
   obtain ⟨cb',co,ccap,cus,e4,hcus,hcrd,hcr⟩:=hun.at<|Zy hlti
   obtain ⟨rfl,rfl⟩:la=some ⟨cb',co,none⟩/\lc=ccap:=by cases e4; exact ⟨rfl,rfl⟩
   obtain ⟨db',dO,dcap,dus,e5,hdus,hdrd,hdr⟩:=hun.at<|Zy h00
   obtain ⟨rfl,rfl⟩:cb'=db'/\co=dO:=by cases e5; exact ⟨rfl,rfl⟩
   have hhead:∀ x,(L.head?).getD x=L[0]:=λx=>by
    cases L with
    | nil=>simp at h00
    | cons a t=>rfl
   simp only [hhead] at ht1
   generalize L[0]=z at ht1 hdr
   generalize L[i]=y at hΦ hcr
   rw [ht1 y] at hΦ
   have hyo:=Enc.ones hcr
   obtain ⟨y2,y5,yy,y11,y12,y13,rfl,hym⟩:=gZ hcr
   obtain ⟨z2,z5,zy,z11,z12,z13,rfl,hzm⟩:=gZ hdr
   have hst:=xA (qj hzm)<|qj hym
   have hogz:Rds X cb' (co+0 * 18+0) [sv z.og.par,sv z.og.name]:=bF (k:=0) hdrd rfl
   have hmz:Rds X cb' (co+0 * 18+3) (gz z.mem z2 z5 zy z11 z12 z13):=bF (k:=3) hdrd rfl
   have hmy:=λb=>Ja (b:=b) (x:=y) (x2:=y2) (x5:=y5) (y:=yy) (x11:=y11) (x12:=y12) (x13:=y13)
   have hogy:=λb=>nu (b:=b) (x:=y) (x2:=y2) (x5:=y5) (y:=yy) (x11:=y11) (x12:=y12) (x13:=y13)
   obtain ⟨hy2,hy5,-⟩:=id hym
   obtain ⟨ya5,yk5,rfl,_⟩:=id hy5.form
   unfold oC gz at *
   refine cK<|xT<|cS<|cB<|cQ<|sV (vI (k:=i) Z Z lF Z hlti Z)<|sV (af Z gV Z hcrd) ?_
   refine au qR λb11=>?_
   refine ai Z Z mr Z hyo ?_
   refine sK [1,2,6,7,8,9,11,21,22,23,39,40,41] Z<|cS<|bB (ork [(0,2),(1,2),(2,2),(3,1),(4,2),(5,2),(6,2),(7,1),(8,2),(9,1),(10,1),(11,2),(12,0),(13,0),(14,2)] .nil) (λi => !(Nat.beq i 13)) mixed Zz ?_
   refine dV Z (vM Z)<|dV Z (vI (k:=0) Z Z lF Z h00 Z)<|dV Z (vF Z jo Z)<|bu Z (af Z qm Z hogz) ?_
   refine dV Z (vM Z)<|dV Z (vI (k:=0) Z Z lF Z h00 Z)<|dV Z (vF Z dS Z)<|bu Z (af Z eU Z hmz) ?_
   refine dV Z (vF Z dS Z)<|bu Z (af Z eU Z<|hmy b11) ?_
   refine jG Z Z Z J7 Z (hst) ?_
   refine dV Z (bg Z)<|aV Z (au al24 λb12=>aW ?_)
   refine aV Z<|ai Z Z sz24 Z Z<|aW ?_
   refine dV Z (vA Z)<|bA<|nK [1,2,6,7,8,9,11,12,13,21,22,23,39,40,41] Z<|nT<|cS<|cQ<|sM Z<|sN<|nT ?_
   cases hq:feat S.c n
   ·simp only [hq] at hΦ
    generalize Sk.sameTy z.mem y.mem=bq at hΦ ⊢
    refine aG Z ?_
    refine cK<|xT<|cQ<|sM Z<|sM Z ?_
    cases bq
    ·have hΦ2 : Φ (S.cf 9 n z.og y.og::((L.drop (i+1)).flatMap (S.t1x n)++A2)) r:=hΦ
     refine sG Z Z (vM Z)<|sG Z Z (af Z fC Z ah) ?_
     refine sG Z Z (vM Z)<|sG Z Z (af Z qm Z ah) ?_
     refine sG Z Z (vF Z jo Z)<|sG Z Z (af Z qm Z<|hogy b11) ?_
     refine bU Z Z Z Z jS Z (hcn 9 n z.og y.og) ?_
     refine kg (gd:=80) (.inr ⟨_,_,Z,Z,Z⟩) Z Z (hy _ _ _ hΦ2) ?_
     rintro u h' (⟨rfl,r',hΦ4,rfl⟩ | ⟨rfl,r',hst,rfl⟩)
     ·simp only [lC,lN]
      refine sG Z Z (bg Z)<|sV (vQ Z Z)<|sK [1,2,6,7,8,9,21,22,23,39,40,41,90] Z<|aG Z ?_
      refine cK<|xB<|xT<|cR<|sV (aI Z Z Za)<|sM Z<|sN<|nK [1,2,6,7,8,9,21,22,23,39,40,41] Z<|ax ?_
      refine aJ (r',i+1) ⟨hlti,hΦ4⟩ (by dsimp only; omega)
     ·simp only [lC,lN]
      refine sG Z Z (bg Z)<|sV (vQ Z Z)<|sK [1,2,6,7,8,9,21,22,23,39,40,41,90] Z<|aQ Z ?_
      refine cQ<|sA Z<|sK [4] Z<|cT<|xW<|xR<|xR<|xW<|xW<|xR<|xR<|xW<|xR ?_
      exact aj Z ⟨X,[mps mb m,mps bm bmp,r'],Z,Ext.refl X,r',Z,.inr ⟨Z,_,hst⟩⟩ sbq
    ·have hΦ : Φ ((L.drop (i+1)).flatMap (S.t1x n)++A2) r:=hΦ
     iterate 9 refine aC rfl rfl rfl ?_
     refine sV (vP Z Z)<|sK [1,2,6,7,8,9,21,22,23,39,40,41,90] Z<|aG Z ?_
     refine cK<|xB<|xT<|cR<|sV (aI Z Z Za)<|sM Z<|sN<|nK [1,2,6,7,8,9,21,22,23,39,40,41] Z<|ax ?_
     refine aJ (r,i+1) ⟨hlti,hΦ⟩ (by dsimp only; omega)
   ·rename_i f
    obtain rfl:f=f0:=by rw [hq] at hf0; exact hf0
    simp only [hq] at hΦ
    refine aQ Z ?_
    refine cQ<|sM Z<|sV (aO (cells:=[sv [],sv n]) Z<|λ_=>Zz) ?_
    refine ai Z Z sz24 Z Z ?_
    refine sK [1,2,6,7,8,9,11,12,13,21,22,23,39,40,41] Z<|cR<|sV (vF Z rQ Z)<|sV (vY Z qJ) ?_
    refine sV (vF Z dS Z)<|sV (vF Z jH Z)<|sV (vY Z qJ) ?_
    refine aY Z Z en215 Z (CY en216 hg3 hy5<|λa b us us' _ h h'=>Gb h h') ?_
    refine sV (bg Z)<|sM Z ?_
    generalize decide (f.args=y.mem.args)=b1q at hΦ ⊢
    cases b1q
    ·have hΦ2 : Φ (S.cf 9 n ⟨[],n⟩ y.og::((L.drop (i+1)).flatMap (S.t1x n)++A2)) r:=hΦ
     iterate 10 refine aC rfl rfl rfl ?_
     refine sV (vQ Z Z)<|sA Z<|sK [1,2,6,7,8,9,11,12,13,21,22,23,39,40,41] Z<|cQ<|sM Z<|sM Z<|sG Z Z (vM Z)<|sG Z Z (af Z fC Z ah) ?_
     refine sG Z Z (vM Z)<|sG Z Z (af Z qm Z ah) ?_
     refine sG Z Z (vF Z jo Z)<|sG Z Z (af Z qm Z<|hogy b11) ?_
     refine bU Z Z Z Z jS Z (hcn 9 n ⟨[],n⟩ y.og) ?_
     refine kg (gd:=80) (.inr ⟨_,_,Z,Z,Z⟩) Z Z (hy _ _ _ hΦ2) ?_
     rintro u h' (⟨rfl,r',hΦ4,rfl⟩ | ⟨rfl,r',hst,rfl⟩)
     ·simp only [lC,lN]
      refine sG Z Z (bg Z)<|sV (vQ Z Z)<|sK [1,2,6,7,8,9,21,22,23,39,40,41,90] Z<|aG Z ?_
      refine cK<|xB<|xT<|cR<|sV (aI Z Z Za)<|sM Z<|sN<|nK [1,2,6,7,8,9,21,22,23,39,40,41] Z<|ax ?_
      refine aJ (r',i+1) ⟨hlti,hΦ4⟩ (by dsimp only; omega)
     ·simp only [lC,lN]
      refine sG Z Z (bg Z)<|sV (vQ Z Z)<|sK [1,2,6,7,8,9,21,22,23,39,40,41,90] Z<|aQ Z ?_
      refine cQ<|sA Z<|sK [4] Z<|cT<|xW<|xR<|xR<|xW<|xW<|xR<|xR<|xW<|xR ?_
      exact aj Z ⟨X,[mps mb m,mps bm bmp,r'],Z,Ext.refl X,r',Z,.inr ⟨Z,_,hst⟩⟩ sbq
    ·refine sG Z Z (vF Z zg Z)<|sG Z Z (vF Z qP Z)<|sG Z Z (vY Z ld3) ?_
     refine sG Z Z (dP Z Z)<|sG Z Z (vF Z dS Z)<|sG Z Z (vF Z qQ Z)<|sG Z Z (vF Z qP Z)<|sG Z Z (vY Z ld3) ?_
     refine sG Z Z (dP Z Z)<|sG Z Z (v_bneq underlying4 Z Z)<|sV (vP Z Z)<|sA Z<|sK [1,2,6,7,8,9,11,12,13,21,22,23,39,40,41] Z<|cQ<|sM Z<|sM Z ?_
     rw [Bool.true_and] at hΦ
     rw [show ((f.ty.kind == 0) != (y.mem.ty.kind == 0)) = !((f.ty.kind == 0) == (y.mem.ty.kind == 0)) from rfl]
     generalize ((f.ty.kind == 0) == (y.mem.ty.kind == 0))=bq at hΦ ⊢
     cases bq
     ·have hΦ2 : Φ (S.cf 9 n ⟨[],n⟩ y.og::((L.drop (i+1)).flatMap (S.t1x n)++A2)) r:=hΦ
      refine sG Z Z (vM Z)<|sG Z Z (af Z fC Z ah) ?_
      refine sG Z Z (vM Z)<|sG Z Z (af Z qm Z ah) ?_
      refine sG Z Z (vF Z jo Z)<|sG Z Z (af Z qm Z<|hogy b11) ?_
      refine bU Z Z Z Z jS Z (hcn 9 n ⟨[],n⟩ y.og) ?_
      refine kg (gd:=80) (.inr ⟨_,_,Z,Z,Z⟩) Z Z (hy _ _ _ hΦ2) ?_
      rintro u h' (⟨rfl,r',hΦ4,rfl⟩ | ⟨rfl,r',hst,rfl⟩)
      ·simp only [lC,lN]
       refine sG Z Z (bg Z)<|sV (vQ Z Z)<|sK [1,2,6,7,8,9,21,22,23,39,40,41,90] Z<|aG Z ?_
       refine cK<|xB<|xT<|cR<|sV (aI Z Z Za)<|sM Z<|sN<|nK [1,2,6,7,8,9,21,22,23,39,40,41] Z<|ax ?_
       refine aJ (r',i+1) ⟨hlti,hΦ4⟩ (by dsimp only; omega)
      ·simp only [lC,lN]
       refine sG Z Z (bg Z)<|sV (vQ Z Z)<|sK [1,2,6,7,8,9,21,22,23,39,40,41,90] Z<|aQ Z ?_
       refine cQ<|sA Z<|sK [4] Z<|cT<|xW<|xR<|xR<|xW<|xW<|xR<|xR<|xW<|xR ?_
       exact aj Z ⟨X,[mps mb m,mps bm bmp,r'],Z,Ext.refl X,r',Z,.inr ⟨Z,_,hst⟩⟩ sbq
     ·have hΦ : Φ ((L.drop (i+1)).flatMap (S.t1x n)++A2) r:=hΦ
      iterate 9 refine aC rfl rfl rfl ?_
      refine sV (vP Z Z)<|sK [1,2,6,7,8,9,21,22,23,39,40,41,90] Z<|aG Z ?_
      refine cK<|xB<|xT<|cR<|sV (aI Z Z Za)<|sM Z<|sN<|nK [1,2,6,7,8,9,21,22,23,39,40,41] Z<|ax ?_
      refine aJ (r,i+1) ⟨hlti,hΦ⟩ (by dsimp only; omega)
  ·have hend:i=L.length:=Nat.le_antisymm hi<|Nat.not_lt.1 Zr
   subst hend
   rw [dL,List.nil_append] at hΦ
   refine aB<|xE<|xE<|xY<|xB<|xT<|cR<|sV (aI Z Z Za)<|sM Z<|sN<|nK [1,2,21,22,23] Z<|ax ?_
   refine aJ (r,j+1) ⟨hltj,by rw [hA2]; exact hΦ⟩ (by dsimp only; omega)
 ·have hend:j=S.skeys.length:=Nat.le_antisymm hj<|Nat.not_lt.1 Zw
  subst hend
  rw [dL,List.nil_append,<- hT] at hΦ
  refine aB<|xE<|xE<|xY<|xT<|cS<|cQ<|sV (vF Z oV Z)<|sV (vY Z qN) ?_
  refine aH Z Z en213 Z (ut) ?_
  rintro u h' ⟨b1,rfl,rfl⟩
  simp only [lC,lN]
  refine aH Z Z en212 Z (pU (by omega) hnd) ?_
  rintro u h' ⟨hu,rfl⟩
  simp only [lC,lN]
  rw [hsk]
  unfold NR
  refine jr (v:=u) (E:=9) (sz:=1) (rows:=S.skeys.map nC) slq λwa wc hwf hwl hwm=>?_
  rw [List.length_map] at hwf hwl
  subst hwf
  refine sV (aF Z underlying40)<|sM Z<|sK [1,2,96,97,98] Z<|cB<|aX (σ := Res×Nat) (λq=>[(1,.func (.yield yl) #[] #[]),(2,.pointer (some ⟨b2,0,none⟩)),(96,.slice wa S.skeys.length wc),(97,.int .i64 S.skeys.length),(98,.int .i64 (q.2:Nat))]) (λq=>VR (.slice wa S.skeys.length wc) 9 1 (S.skeys.map nC)::pt b2 (cl [v,.map (some mb),sv S.c.name,.bool S.c.dfd,ca,.slice cb S.c.pars.length ck,ce,.slice cf S.c.feats.length cfk,ci,.slice mA S.ms.length mK,.map (some bm),.bool all] 206)::X::mps mb m::mps bm bmp::q.1::hr) (λq=>q.2≤S.skeys.length /\ Φ ((S.skeys.drop q.2).flatMap (S.t2)++R) q.1) (λq=>S.skeys.length - q.2) (r,0) ⟨Nat.zero_le _,hΦ⟩ ?_
  rintro ⟨r,j⟩ ⟨hj,hΦ⟩
  simp only at hj hΦ
  dsimp only
  refine cQ<|sV (aN Z Z)<|sN<|nT<|cS<|cC Z (λhd2=>?_)<|λhd2=>?_
  ·have hltj:j<S.skeys.length:=Zw
   rw [ed hltj,List.append_assoc] at hΦ
   have hnx:(S.skeys.map nC)[j]? = some [sv S.skeys[j]]:=by rw [List.getElem?_map,Zy hltj]; rfl
   refine fJ (r:=VR (.slice wa S.skeys.length wc) 9 1<|S.skeys.map nC) slq λhok=>?_
   obtain ⟨ab,ao,rfl⟩:∃ ab ao,wa=some ⟨ab,ao,none⟩:=by
    obtain ⟨f0,hf0⟩:=hok
    rcases VR.form hf0 with ⟨h3,h4⟩ | ⟨b,o,cp,h3,-⟩
    ·have:=List.map_eq_nil_iff.1 h4
     rw [this] at hltj; simp at hltj
    ·rw [List.length_map] at h3; cases h3; exact ⟨b,o,rfl⟩
   generalize S.skeys[j]=n at hΦ hnx
   generalize hA2:(S.skeys.drop (j+1)).flatMap (S.t2)++R=A2 at hΦ
   have hul:=hB.under n
   have hun:=hK.by' n
   obtain ⟨la,lc,hlv,hlc,-,-⟩:=id hun.form
   rw [hlv] at hun
   unfold Sk.t2 at hΦ
   refine cK<|xT<|cS<|cB<|cQ<|sV (vI (k:=j) Z Z jm Z hltj Z)<|sV (vY Z ld9 (ha:=⟨_,_,slq,eQ hnx 0<|by simp⟩)) ?_
   refine sA Z<|sK [1,2,15,96,97,98] Z<|cS<|cQ<|sV (vF Z gM Z)<|sV (vF Z kv Z)<|sV (vY Z yX) ?_
   refine sM Z<|aH Z Z yE Z (iT (n:=n) hK.feat) ?_
   rintro u h' ⟨rfl,gus,rfl,hgr⟩
   simp only [lC,lN]
   have hg15:gus.length=15:=Enc.len hgr
   have hgo:=Enc.ones hgr
   have hmf:(S.c.feats.find? λc=>c.name == n)=feat S.c n:=rfl
   rw [hmf]
   refine sM Z<|sV (ag Z Z)<|sV (ag Z Z) (au lH λb16=>?_)
   refine ai (hl:=by rw [hg15]; rfl) Z Z jQ hg15 hgo ?_
   refine sA Z<|sK [1,2,15,17,96,97,98] Z<|cQ<|sM Z<|sK [1,2,15,96,97,98,110] Z ?_
   cases hq:feat S.c n
   ·rw [hq] at hΦ
    have hΦ : Φ (S.cpairs (under S.cs n) 10 (λa b=>(!a.dfd && !b.dfd) && !Sk.same a.mem b.mem)++A2) r:=hΦ
    refine aG Z ?_
    refine cK<|xT<|cQ<|sV (af Z fC Z ah) ?_
    refine sV (vF Z oV Z)<|sV (vY Z qN) ?_
    refine sM Z<|sV (gq hlv<|bI Z Z sI tC slq) ?_
    refine sM Z<|aH Z Z en207 Z (Hd hy hall en217 (is:=λa b=>(!a.dfd && !b.dfd) && !Sk.same a.mem b.mem) (λa _ b _ us us' h h'=>Je h h') hun 10 _ r hΦ) ?_
    rintro u h' ⟨r',rfl,(⟨rfl,hΦ4⟩ | ⟨rfl,_,hst⟩)⟩
    ·simp only [lC,lN]
     refine sV (bg Z)<|sK [1,2,96,97,98,118] Z<|aG Z ?_
     refine cK<|xB<|xT<|cR<|sV (aI Z Z Za)<|sM Z<|sN<|nK [1,2,96,97,98] Z<|ax ?_
     refine aJ (r',j+1) ⟨hltj,by rw [hA2]; exact hΦ4⟩ (by dsimp only; omega)
    ·simp only [lC,lN]
     refine sV (bg Z)<|sK [1,2,96,97,98,118] Z<|aQ Z ?_
     refine cQ<|sA Z<|sK [4] Z<|cT<|xW<|xR<|xR<|xW<|xR ?_
     exact aj Z ⟨X,[mps mb m,mps bm bmp,r'],Z,Ext.refl X,r',Z,.inr ⟨Z,_,hst⟩⟩ sbq
   ·rw [hq] at hΦ
    have hΦ : Φ A2 r:=hΦ
    refine aQ Z ?_
    refine aB<|xE<|xY<|xT<|cR<|sV (aI Z Z Za)<|sM Z<|sN<|nK [1,2,96,97,98] Z<|ax ?_
    refine aJ (r,j+1) ⟨hltj,by rw [hA2]; exact hΦ⟩ (by dsimp only; omega)
  ·have hend:j=S.skeys.length:=Nat.le_antisymm hj<|Nat.not_lt.1 Zw
   subst hend
   rw [dL,List.nil_append] at hΦ
   refine aB<|xE<|xE<|xY<|xT<|cQ<|sA Z<|sK [4] Z<|cT ?_
   exact aj Z ⟨X,[mps mb m,mps bm bmp,r],Z,Ext.refl X,r,Z,.inl ⟨Z,hΦ⟩⟩ sbq
end
end Go.Fl
namespace Go.Fl
open Go Go.RowKit Go.Ck Go.Proofs Go.Proofs.Tryz Go.Proofs.YtknmacdbffgjgaaGreatDoor Fx Go.Hr
namespace Sk
section
variable (s:Sk)
def ap (d:Sd):List Cf:=s.pairs (s.ms.filter λm=>m.seeds.contains d) (λa b => !sameTy a b) λa b=>⟨14,s.c.name,a.name,b.name,⟨d.cls,d.name⟩,og0⟩
theorem apart_eq:s.apart=s.seeds.flatMap s.ap:=rfl
theorem seeds_len {s:Sk} (hB:SkB s):s.seeds.length≤432000:=by
 have h1:s.seeds.length≤(s.ms.flatMap λm=>m.seeds).length:=aT (jf _).1.nodup λx hx=>((jf _).2 x).1 hx
 exact Nat.le_trans h1 hB.ms
end
end Sk
attribute [local irreducible] Go.Ck.Sub St Cd Xt Nx DrL LsW
section
variable {X Y:Res} {v v':Value} {us us':List Value}

theorem Ou {yl mb bm : Nat} {Φ : List Cf -> Res -> Prop} {Stop : Cf -> Res -> Prop} (hy : Yh yl Φ Stop) {S : Sk} {all : Bool} (hall : S.all = all) {m bmp : List (Nm × Value)} {ca cb ce cf ci mv : Value} (hK : SkR X S v m ca cb ce cf ci mv bmp) (hB : SkB S) (R : List Cf) (r0 : Res) (h0 : Φ (S.apart ++ R) r0) :
  CtX prog 221 #[.agg (eX v (.map<|some mb) S.c ca cb ce cf ci mv (.map<|some bm) all).toArray,.func (.yield yl) #[] #[]] X [mps mb m,mps bm bmp,r0] λu Y k'=>∃ r,k'=[mps mb m,mps bm bmp,r]/\Yend Φ Stop R u r:=by
 have hml:maxLen=9223372036854775807:=rfl
 obtain ⟨cb,ck,rfl,hckl,hckm,_⟩:=id hK.par.form
 obtain ⟨cf,cfk,rfl,_⟩:=id hK.feat.form
 obtain ⟨mA,mK,rfl,_⟩:=id hK.ms.form
 have hcn:=λb=>fQ (fv:=.map<|some mb) (c:=S.c) (v:=v) (ca:=ca) (cb:=.slice cb S.c.pars.length ck) (ce:=ce) (cf:=.slice cf S.c.feats.length cfk) (ci:=ci) (mv:=.slice mA S.ms.length mK) (bv:=.map<|some bm) (all:=all) b
 have hsel:=Sk.seeds_len hB
 rw [Sk.apart_eq] at h0
 unfold CtX
 unfold eX at *
 refine aL (n:=78) func221 Z Z (len Z) λhr w0=>?_
 refine cQ (aP Z Z λb2=>?_)
 refine sA Z<|sK [1,2,4] Z<|cS<|cQ<|sV (vF Z mE Z)<|sV (vY Z tJ) ?_
 refine aH Z Z en219 Z (yL hK.ms (by have:=hB.ms; omega)) ?_
 rintro u h' ⟨hu,rfl⟩
 simp only [lC,lN]
 have hsd:qZ (S.ms.flatMap λm=>m.seeds)=S.seeds:=rfl
 rw [hsd]
 refine jr (v:=u) (E:=69) (sz:=2) (rows:=S.seeds.map sdC) slq λwa wc hwf hwl hwm=>?_
 rw [List.length_map] at hwf hwl
 subst hwf
 refine sV (aF Z underlying67)<|sM Z<|sK [1,2,4,15,16,17] Z<|cB<|aX (σ := Res×Res×Nat) (λq=>[(1,.func (.yield yl) #[] #[]),(2,.pointer (some ⟨b2,0,none⟩)),(15,.slice wa S.seeds.length wc),(16,.int .i64 S.seeds.length),(17,.int .i64 (q.2.2:Nat))]) (λq=>VR (.slice wa S.seeds.length wc) 69 2 (S.seeds.map sdC)::pt b2 (cl [v,.map (some mb),sv S.c.name,.bool S.c.dfd,ca,.slice cb S.c.pars.length ck,ce,.slice cf S.c.feats.length cfk,ci,.slice mA S.ms.length mK,.map (some bm),.bool all] 206)::q.1::mps mb m::mps bm bmp::q.2.1::hr) (λq=>Ext X q.1/\q.2.2≤S.seeds.length /\ Φ ((S.seeds.drop q.2.2).flatMap (S.ap)++R) q.2.1) (λq=>S.seeds.length - q.2.2) (X,r0,0) ⟨Ext.refl X,Nat.zero_le _,h0⟩ ?_
 rintro ⟨Y,r,j⟩ ⟨hE,hj,hΦ⟩
 simp only at hE hj hΦ
 dsimp only
 refine cQ<|sV (aN Z Z)<|sN<|nT<|cS<|cC Z (λhd=>?_)<|λhd=>?_
 ·have hltj:j<S.seeds.length:=Zx
  rw [ed hltj,List.append_assoc] at hΦ
  have hnx:(S.seeds.map sdC)[j]? = some (sdC S.seeds[j]):=by rw [List.getElem?_map,Zy hltj]; rfl
  refine fJ (r:=VR (.slice wa S.seeds.length wc) 69 2<|S.seeds.map sdC) slq λhok=>?_
  obtain ⟨ab,ao,rfl⟩:∃ ab ao,wa=some ⟨ab,ao,none⟩:=by
   obtain ⟨f0,hf0⟩:=hok
   rcases VR.form hf0 with ⟨h3,h4⟩ | ⟨b,o,cp,h3,-⟩
   ·have:=List.map_eq_nil_iff.1 h4
    rw [this] at hltj; simp at hltj
   ·rw [List.length_map] at h3; cases h3; exact ⟨b,o,rfl⟩
  generalize S.seeds[j]=d at hΦ hnx
  generalize hA:(S.seeds.drop (j+1)).flatMap (S.ap)++R=A at hΦ
  unfold sdC at hnx
  have hK2:=hK.up hE
  refine cK<|xT<|cS<|cB<|cQ<|sV (vI (k:=j) Z Z oN Z hltj Z)<|sV (af Z il Z<|eQ hnx) ?_
  refine au al69 λb6=>?_
  refine ai Z Z sz69 Z Z ?_
  refine sK [1,2,6,15,16,17] Z<|cQ<|sV (vF Z mE Z)<|sV (vY Z tJ) ?_
  have hmf:=hB.mf
  have hrb:reachBytes=140737488351232:=rfl
  refine aH Z Z en160 Z (Gj hK2.ms) ?_
  rintro u h' ⟨T,rfl,rows,rfl,ho,hro⟩
  simp only [lC,lN]
  refine sV (bQ Z Z) (Km [pt b6 (cl [sv d.cls,sv d.name] 69)] Y λY2 hE2 hsel2 hpk=>?_)
  have hb6:Rds Y2 b6 0 [sv d.cls,sv d.name]:=λi hi=>hsel2 _ _ .here _ _<|ah i hi
  refine aH Z Z en268 Z (LJ (g:=λm:Mb => !m.seeds.contains d) (cp := #[.pointer (some ⟨b6,0,none⟩)]) (hro.up hE2) (by omega) en269 λQ hQ a _ us h=>Jf h<|λi hi=>hQ _ _<|hb6 i hi) ?_
  rintro u h' ⟨rows',hu2,hro',rfl⟩
  simp only [lC,lN]
  have hfi:(S.ms.filter λx => !(!x.seeds.contains d))=S.ms.filter λm=>m.seeds.contains d:=by simp
  rw [hfi] at hro'
  have hΦ : Φ (S.pairs (S.ms.filter λm=>m.seeds.contains d) (λa b => !Sk.sameTy a b) (λa b=>⟨14,S.c.name,a.name,b.name,⟨d.cls,d.name⟩,og0⟩)++A) r:=hΦ
  have hLl:(S.ms.filter λm=>m.seeds.contains d).length≤300:=Nat.le_trans (List.length_filter_le _ _) hmf
  generalize (S.ms.filter λm=>m.seeds.contains d)=L at hro' hΦ hLl
  refine sA Z<|sK [1,2,6,7,15,16,17] Z<|cS ?_
  have hrl:=hro'.1
  refine fZ (v:=u) (E:=75) (sz:=14) (rows:=rows') slq λla lc hlf hll hlm=>?_
  rw [hrl] at hlf hll
  subst hlf
  refine fJ (r:=VR (.slice la L.length lc) 75 14 rows') slq λhok2=>?_
  refine Iq [VR (.slice la L.length lc) 75 14 rows'] Y2 λY3 hE3 hsel3=>?_
  have hls:Ls Y3 (.slice la L.length lc) L:=Rws.ls (E:=75) (hro'.up hE3) hok2 (hsel3 _ _ .here) (by show L.length * 232≤reachBytes; omega)
  have hb63:∀ i (hi:i<[sv d.cls,sv d.name].length),Rd Y3 ⟨b6,0+i,none⟩ [sv d.cls,sv d.name][i]:=λi hi=>hE3.rd _ _<|hb6 i hi
  have hE4:=hE.trans<|hE2.trans hE3
  refine cR<|sM Z<|sV (aF Z underlying52)<|sM Z<|sN<|nT<|cB<|aX (σ := Res×Nat) (λq=>[(1,.func (.yield yl) #[] #[]),(2,.pointer (some ⟨b2,0,none⟩)),(15,.slice (some ⟨ab,ao,none⟩) S.seeds.length wc),(16,.int .i64 S.seeds.length),(17,.int .i64 (j:Nat)),(6,.pointer (some ⟨b6,0,none⟩)),(7,.slice la L.length lc),(26,.slice la L.length lc),(27,.int .i64 L.length),(28,.int .i64 (q.2:Nat))]) (λq=>VR (.slice (some ⟨ab,ao,none⟩) S.seeds.length wc) 69 2 (S.seeds.map sdC)::pt b2 (cl [v,.map (some mb),sv S.c.name,.bool S.c.dfd,ca,.slice cb S.c.pars.length ck,ce,.slice cf S.c.feats.length cfk,ci,.slice mA S.ms.length mK,.map (some bm),.bool all] 206)::Y3::mps mb m::mps bm bmp::q.1::hr) (λq=>q.2≤L.length /\ Φ ((L.zipIdx.drop q.2).flatMap (λa=>kQ S L (λa b => !Sk.sameTy a b) (λa b=>⟨14,S.c.name,a.name,b.name,⟨d.cls,d.name⟩,og0⟩) a 0)++A) q.1) (λq=>L.length - q.2) (r,0) ⟨Nat.zero_le _,hΦ⟩ ?_
  clear hΦ
  rintro ⟨r,i⟩ ⟨hi,hΦ⟩
  simp only at hi hΦ
  dsimp only
  refine cQ<|sV (aN Z Z)<|sN<|nT<|cS<|cC Z (λhd2=>?_)<|λhd2=>?_
  ·have hlti:i<L.length:=Zw
   rw [ko hlti,List.append_assoc] at hΦ
   obtain ⟨cb',co,ccap,cus,e4,hcus,hcrd,hcr⟩:=hls.at<|Zy hlti
   obtain ⟨rfl,rfl⟩:la=some ⟨cb',co,none⟩/\lc=ccap:=by cases e4; exact ⟨rfl,rfl⟩
   generalize L[i]=x at hΦ hcr
   generalize hA2:(L.zipIdx.drop (i+1)).flatMap (λa=>kQ S L (λa b => !Sk.sameTy a b) (λa b=>⟨14,S.c.name,a.name,b.name,⟨d.cls,d.name⟩,og0⟩) a 0)++A=A2 at hΦ
   have hxr:=hcr
   have hxo:=Enc.ones hcr
   obtain ⟨x2,x5,xy,x11,x12,x13,rfl,-⟩:=dh hcr
   unfold gz at *
   refine cK<|xT<|cS<|cB<|cQ<|sM Z<|sV (vI (k:=i) Z Z oM Z hlti Z)<|sV (af Z eU Z hcrd) ?_
   refine au ji λb9=>?_
   refine sA Z<|ai Z Z gP Z hxo ?_
   refine sK [1,2,6,7,8,9,15,16,17,26,27,28] Z<|cQ<|sM Z<|sV (aF Z underlying52)<|sM Z<|sN<|nT<|cB<|aX (σ := Res×Nat) (λq=>[(1,.func (.yield yl) #[] #[]),(2,.pointer (some ⟨b2,0,none⟩)),(15,.slice (some ⟨ab,ao,none⟩) S.seeds.length wc),(16,.int .i64 S.seeds.length),(17,.int .i64 (j:Nat)),(6,.pointer (some ⟨b6,0,none⟩)),(7,.slice (some ⟨cb',co,none⟩) L.length lc),(26,.slice (some ⟨cb',co,none⟩) L.length lc),(27,.int .i64 L.length),(28,.int .i64 (i:Nat)),(8,.int .i64 (i:Nat)),(9,.pointer (some ⟨b9,0,none⟩)),(33,.slice (some ⟨cb',co,none⟩) L.length lc),(34,.int .i64 L.length),(35,.int .i64 (q.2:Nat))]) (λq=>pt b9 (cl [sv x.name,.int .i64 x.kind,x2,sv x.impl.cls,sv x.impl.name,x5,.int .i64 x.ty.kind,sv x.ty.name,xy,.bool x.ty.void,.bool x.ty.sep,x11,x12,x13] 75)::VR (.slice (some ⟨ab,ao,none⟩) S.seeds.length wc) 69 2 (S.seeds.map sdC)::pt b2 (cl [v,.map (some mb),sv S.c.name,.bool S.c.dfd,ca,.slice cb S.c.pars.length ck,ce,.slice cf S.c.feats.length cfk,ci,.slice mA S.ms.length mK,.map (some bm),.bool all] 206)::Y3::mps mb m::mps bm bmp::q.1::hr) (λq=>q.2≤L.length /\ Φ (kQ S L (λa b => !Sk.sameTy a b) (λa b=>⟨14,S.c.name,a.name,b.name,⟨d.cls,d.name⟩,og0⟩) (x,i) q.2++A2) q.1) (λq=>L.length - q.2) (r,0) ⟨Nat.zero_le _,hΦ⟩ ?_
   clear hΦ
   rintro ⟨r,k⟩ ⟨hk,hΦ⟩
   simp only at hk hΦ
   dsimp only
   refine cQ<|sV (aN Z Z)<|sN<|nT<|cS<|cC Z (λhd3=>?_)<|λhd3=>?_
   ·have hltk:k<L.length:=Zr
    rw [EF hltk,List.append_assoc] at hΦ
    obtain ⟨eb,eo,ecap,eus,e6,heus,herd,her⟩:=hls.at<|Zy hltk
    obtain ⟨rfl,rfl⟩:cb'=eb/\co=eo:=by cases e6; exact ⟨rfl,rfl⟩
    generalize L[k]=y at hΦ her
    have hst:=xA hxr her
    have hyo:=Enc.ones her
    obtain ⟨y2,y5,yy,y11,y12,y13,rfl,-⟩:=dh her
    unfold gz at *
    refine cK<|xT<|cS<|cB<|cQ<|sM Z<|sV (vI (k:=k) Z Z oM Z hltk Z)<|sV (af Z eU Z herd) ?_
    refine au ji λb11=>?_
    refine sA Z<|ai Z Z gP Z hyo ?_
    refine sK [1,2,6,7,8,9,10,11,15,16,17,26,27,28,33,34,35] Z<|cS<|cQ<|sM Z<|sM Z<|sV (dP Z Z)<|sM Z ?_
    by_cases hik:i=k
    ·have hq:(((i:Nat):Int) == ((k:Nat):Int))=true:=by rw [hik]; simp
     rw [hq]
     iterate 4 refine aC rfl rfl rfl ?_
     refine bS Z Z ?_
     refine bS Z Z ?_
     refine bS Z Z ?_
     refine aC Z Z Z ?_
     refine sV (vQ Z Z)<|sM Z<|aC Z Z Z ?_
     iterate 2 refine aC rfl rfl rfl ?_
     refine sV (vQ Z Z)<|sK [1,2,6,7,8,9,11,15,16,17,26,27,28,33,34,35,57] Z<|aQ Z ?_
     refine aB<|xE<|xY<|xT<|cR<|sV (aI Z Z Za)<|sM Z<|sN<|nK [1,2,6,7,8,9,15,16,17,26,27,28,33,34,35] Z<|ax ?_
     refine aJ (r,k+1) ⟨hltk,by rw [if_pos (.inl hik)] at hΦ; exact hΦ⟩ (by dsimp only; omega)
    ·have hq:(((i:Nat):Int) == ((k:Nat):Int))=false:=by simp; omega
     rw [hq]
     refine sG Z Z (vF Z oW Z)<|sG Z Z (vY Z ld4) ?_
     refine sG Z Z (bg Z)<|sG Z Z (vM Z) ?_
     cases all
     ·refine sG Z Z (vM Z)<|sG Z Z (vM Z)<|sG Z Z (aN Z Z)<|sG Z Z (vQ Z Z)<|sV (vP Z Z)<|sM Z ?_
      by_cases hki:k<i
      ·have hq2:decide (((k:Nat):Int)<((i:Nat):Int))=true:=by simp; omega
       rw [hq2]
       iterate 3 refine aC rfl rfl rfl ?_
       refine sV (vQ Z Z)<|sK [1,2,6,7,8,9,11,15,16,17,26,27,28,33,34,35,57] Z<|aQ Z ?_
       refine aB<|xE<|xY<|xT<|cR<|sV (aI Z Z Za)<|sM Z<|sN<|nK [1,2,6,7,8,9,15,16,17,26,27,28,33,34,35] Z<|ax ?_
       refine aJ (r,k+1) ⟨hltk,by rw [if_pos (.inr<|.inl ⟨hall,hki⟩)] at hΦ; exact hΦ⟩ (by dsimp only; omega)
      ·have hq2:decide (((k:Nat):Int)<((i:Nat):Int))=false:=by simp; omega
       rw [hq2]
       refine sG Z Z (af Z eU Z ah) ?_
       refine sG Z Z (af Z eU Z ah) ?_
       refine bU Z Z Z Z J7 Z (hst) ?_
       refine sV (vP Z Z)<|sK [1,2,6,7,8,9,11,15,16,17,26,27,28,33,34,35,57] Z ?_
       generalize hsb:Sk.sameTy x y=bq at hΦ ⊢
       cases bq
       ·have hΦ2 : Φ (⟨14,S.c.name,x.name,y.name,⟨d.cls,d.name⟩,og0⟩::(kQ S L (λa b => !Sk.sameTy a b) (λa b=>⟨14,S.c.name,a.name,b.name,⟨d.cls,d.name⟩,og0⟩) (x,i) (k+1)++A2)) r:=by
         rw [if_neg (λh=>h.elim hik λh=>h.elim (λh=>hki h.2)<|λh=>by cases h)] at hΦ
         exact hΦ
        refine aG Z ?_
        refine cK<|xT<|cQ<|sV (af Z fC Z ah) ?_
        refine sV (vF Z eB Z)<|sV (vY Z ld9) ?_
        refine sV (vF Z xg Z)<|sV (vY Z ld9 (ha:=⟨_,_,slq,hb63 0<|by simp⟩)) ?_
        refine sV (vF Z xh Z)<|sV (vY Z ld9 (ha:=⟨_,_,slq,hb63 1<|by simp⟩)) ?_
        refine sV (aO (cells:=[sv d.cls,sv d.name]) Z<|λ_=>Zz) ?_
        refine sV (aO (cells:=[sv [],sv []]) Z<|λ_=>Zz) ?_
        refine aY Z Z jS Z (hcn 14 x.name ⟨d.cls,d.name⟩ og0) ?_
        unfold cfV cfC
        refine au D9 λb12=>?_
        refine ai Z Z wZ Z Z ?_
        refine sK [1,2,6,7,8,9,11,12,15,16,17,26,27,28,33,34,35] Z<|cQ<|sV (vF Z eB Z)<|sV (vY Z ld9) ?_
        refine sV (vF Z DX Z)<|bf Z Z sz9 ?_
        refine sK [1,2,6,7,8,9,12,15,16,17,26,27,28,33,34,35] Z<|cQ<|sM Z<|sV (af Z tF Z ah) ?_
        refine kg (gd:=0) (.inl Z) Z Z (hy _ _ _ hΦ2) ?_
        rintro u h' (⟨rfl,r',hΦ4,rfl⟩ | ⟨rfl,r',hst,rfl⟩)
        ·simp only [lC,lN]
         refine sV (bg Z)<|sK [1,2,6,7,8,9,15,16,17,26,27,28,33,34,35,74] Z<|aG Z ?_
         refine cK<|xB<|xT<|cR<|sV (aI Z Z Za)<|sM Z<|sN<|nK [1,2,6,7,8,9,15,16,17,26,27,28,33,34,35] Z<|ax ?_
         refine aJ (r',k+1) ⟨hltk,hΦ4⟩ (by dsimp only; omega)
        ·simp only [lC,lN]
         refine sV (bg Z)<|sK [1,2,6,7,8,9,15,16,17,26,27,28,33,34,35,74] Z<|aQ Z ?_
         refine cQ<|sA Z<|sK [4] Z<|cT<|xW<|xR<|xR<|xW<|xW<|xR<|xR<|xW<|xW ?_
         refine xR<|xR<|xW<|xR ?_
         exact aj Z ⟨Y3,[mps mb m,mps bm bmp,r'],Z,hE4,r',Z,.inr ⟨Z,_,hst⟩⟩ sbq
       ·refine aQ Z ?_
        refine aB<|xE<|xY<|xT<|cR<|sV (aI Z Z Za)<|sM Z<|sN<|nK [1,2,6,7,8,9,15,16,17,26,27,28,33,34,35] Z<|ax ?_
        refine aJ (r,k+1) ⟨hltk,by rw [if_pos (.inr<|.inr Z)] at hΦ; exact hΦ⟩ (by dsimp only; omega)
     ·iterate 3 refine aC rfl rfl rfl ?_
      refine sG Z Z (vP Z Z)<|sV (vP Z Z)<|sM Z<|sG Z Z (af Z eU Z ah) ?_
      refine sG Z Z (af Z eU Z ah) ?_
      refine bU Z Z Z Z J7 Z (hst) ?_
      refine sV (vP Z Z)<|sK [1,2,6,7,8,9,11,15,16,17,26,27,28,33,34,35,57] Z ?_
      generalize hsb:Sk.sameTy x y=bq at hΦ ⊢
      cases bq
      ·have hΦ2 : Φ (⟨14,S.c.name,x.name,y.name,⟨d.cls,d.name⟩,og0⟩::(kQ S L (λa b => !Sk.sameTy a b) (λa b=>⟨14,S.c.name,a.name,b.name,⟨d.cls,d.name⟩,og0⟩) (x,i) (k+1)++A2)) r:=by
        rw [if_neg (λh=>h.elim hik λh=>h.elim (λh=>by rw [hall] at h; cases h.1)<|λh=>by cases h)] at hΦ
        exact hΦ
       refine aG Z ?_
       refine cK<|xT<|cQ<|sV (af Z fC Z ah) ?_
       refine sV (vF Z eB Z)<|sV (vY Z ld9) ?_
       refine sV (vF Z xg Z)<|sV (vY Z ld9 (ha:=⟨_,_,slq,hb63 0<|by simp⟩)) ?_
       refine sV (vF Z xh Z)<|sV (vY Z ld9 (ha:=⟨_,_,slq,hb63 1<|by simp⟩)) ?_
       refine sV (aO (cells:=[sv d.cls,sv d.name]) Z<|λ_=>Zz) ?_
       refine sV (aO (cells:=[sv [],sv []]) Z<|λ_=>Zz) ?_
       refine aY Z Z jS Z (hcn 14 x.name ⟨d.cls,d.name⟩ og0) ?_
       unfold cfV cfC
       refine au D9 λb12=>?_
       refine ai Z Z wZ Z Z ?_
       refine sK [1,2,6,7,8,9,11,12,15,16,17,26,27,28,33,34,35] Z<|cQ<|sV (vF Z eB Z)<|sV (vY Z ld9) ?_
       refine sV (vF Z DX Z)<|bf Z Z sz9 ?_
       refine sK [1,2,6,7,8,9,12,15,16,17,26,27,28,33,34,35] Z<|cQ<|sM Z<|sV (af Z tF Z ah) ?_
       refine kg (gd:=0) (.inl Z) Z Z (hy _ _ _ hΦ2) ?_
       rintro u h' (⟨rfl,r',hΦ4,rfl⟩ | ⟨rfl,r',hst,rfl⟩)
       ·simp only [lC,lN]
        refine sV (bg Z)<|sK [1,2,6,7,8,9,15,16,17,26,27,28,33,34,35,74] Z<|aG Z ?_
        refine cK<|xB<|xT<|cR<|sV (aI Z Z Za)<|sM Z<|sN<|nK [1,2,6,7,8,9,15,16,17,26,27,28,33,34,35] Z<|ax ?_
        refine aJ (r',k+1) ⟨hltk,hΦ4⟩ (by dsimp only; omega)
       ·simp only [lC,lN]
        refine sV (bg Z)<|sK [1,2,6,7,8,9,15,16,17,26,27,28,33,34,35,74] Z<|aQ Z ?_
        refine cQ<|sA Z<|sK [4] Z<|cT<|xW<|xR<|xR<|xW<|xW<|xR<|xR<|xW<|xW ?_
        refine xR<|xR<|xW<|xR ?_
        exact aj Z ⟨Y3,[mps mb m,mps bm bmp,r'],Z,hE4,r',Z,.inr ⟨Z,_,hst⟩⟩ sbq
      ·refine aQ Z ?_
       refine aB<|xE<|xY<|xT<|cR<|sV (aI Z Z Za)<|sM Z<|sN<|nK [1,2,6,7,8,9,15,16,17,26,27,28,33,34,35] Z<|ax ?_
       refine aJ (r,k+1) ⟨hltk,by rw [if_pos (.inr<|.inr Z)] at hΦ; exact hΦ⟩ (by dsimp only; omega)
   ·have hend:k=L.length:=Nat.le_antisymm hk<|Nat.not_lt.1 Zr
    subst hend
    rw [Bq,List.nil_append] at hΦ
    refine aB<|xE<|xE<|xY<|xB<|xT<|cR<|sV (aI Z Z Za)<|sM Z<|sN<|nK [1,2,6,7,15,16,17,26,27,28] Z<|ax ?_
    refine aJ (r,i+1) ⟨hlti,by rw [hA2]; exact hΦ⟩ (by dsimp only; omega)
  ·have hend:i=L.length:=Nat.le_antisymm hi<|Nat.not_lt.1 Zw
   subst hend
   rw [mP,List.nil_append] at hΦ
   refine aB<|xE<|xE<|xY<|xB<|xT<|cR<|sV (aI Z Z Za)<|sM Z<|sN<|nK [1,2,15,16,17] Z<|ax ?_
   refine aJ (Y3,r,j+1) ⟨hE4,hltj,by rw [hA]; exact hΦ⟩ (by dsimp only; omega)
 ·have hend:j=S.seeds.length:=Nat.le_antisymm hj<|Nat.not_lt.1 Zx
  subst hend
  rw [dL,List.nil_append] at hΦ
  refine aB<|xE<|xE<|xY<|xT<|cQ<|sA Z<|sK [4] Z<|cT ?_
  exact aj Z ⟨Y,[mps mb m,mps bm bmp,r],Z,hE,r,Z,.inl ⟨Z,hΦ⟩⟩ sbq
end
end Go.Fl
namespace Go.Fl
open Go Go.RowKit Go.Ck Go.Proofs Go.Proofs.Tryz Go.Proofs.YtknmacdbffgjgaaGreatDoor Fx Go.Hr
namespace Sk
section
variable (s:Sk)
def c1 (d:Sd):List Cf:=if (s.sel d).2 then [] else s.cut (s.pairs (aZ s.ms d) (λ_ _=>true) λa b=>⟨11,s.c.name,a,b,⟨d.cls,d.name⟩,og0⟩)
def c2a (p:Pt×Nat) (n:Nm):List Cf:=if s.fro p.2 n≠[]/\(((dA s.ms n).getD mb0).seeds.any λd=>decide (1<(aZ s.ms d).length))=false then [s.cf 12 n ⟨p.1.name,n⟩ og0] else []
def c2 (p:Pt×Nat):List Cf:=p.1.sel.flatMap (s.c2a p)
def c3 (m:Mb):List Cf:=if s.c.dfd=false/\m.kind=3 then [s.cf 13 m.name og0 og0] else []
theorem chosen_eq (R:List Cf):s.chosen++R=s.seeds.flatMap s.c1++(s.c.pars.zipIdx.flatMap s.c2++(s.ms.flatMap s.c3++R)):=by
 unfold chosen
 simp only [List.append_assoc]
 rfl
end
end Sk
attribute [local irreducible] Go.Ck.Sub St Cd Xt Nx DrL LsW
section
variable {X Y:Res} {v v':Value} {us us':List Value}

theorem LM {yl mb bm : Nat} {Φ : List Cf -> Res -> Prop} {Stop : Cf -> Res -> Prop} (hy : Yh yl Φ Stop) {S : Sk} {all : Bool} (hall : S.all = all) {m bmp : List (Nm × Value)} {ca cb ce cf ci mv : Value} (hK : SkR X S v m ca cb ce cf ci mv bmp) (hB : SkB S) (cn : Nm) (hcn0 : S.c = ae S.l cn) (R : List Cf) (r0 : Res) (h0 : Φ (S.chosen ++ (S.apart ++ R)) r0) :
  dE prog 131 #[.agg (eX v (.map<|some mb) S.c ca cb ce cf ci mv (.map<|some bm) all).toArray,.func (.yield yl) #[] #[]] X [mps mb m,mps bm bmp,r0] λu Y k'=>∃ r,k'=[mps mb m,mps bm bmp,r]/\Yend Φ Stop R u r:=by
 have hml:maxLen=9223372036854775807:=rfl
 obtain ⟨cb,ck,rfl,hckl,hckm,_⟩:=id hK.par.form
 obtain ⟨cf,cfk,rfl,_⟩:=id hK.feat.form
 obtain ⟨mA,mK,rfl,_⟩:=id hK.ms.form
 have hcn:=λb=>fQ (fv:=.map<|some mb) (c:=S.c) (v:=v) (ca:=ca) (cb:=.slice cb S.c.pars.length ck) (ce:=ce) (cf:=.slice cf S.c.feats.length cfk) (ci:=ci) (mv:=.slice mA S.ms.length mK) (bv:=.map<|some bm) (all:=all) b
 have hsel:=Sk.seeds_len hB
 rw [Sk.chosen_eq] at h0
 generalize hT3:S.ms.flatMap S.c3++(S.apart++R)=T3 at h0
 generalize hT2:S.c.pars.zipIdx.flatMap S.c2++T3=T2 at h0
 have hrk:rk (bn S.l) cn≤S.l.length:=by
  have:=qz (bn S.l) cn
  rwa [jX] at this
 have hb0:∀ b,Rds (pt b<|cl [v,.map (some mb),sv S.c.name,.bool S.c.dfd,ca,.slice cb S.c.pars.length ck,ce,.slice cf S.c.feats.length cfk,ci,.slice mA S.ms.length mK,.map (some bm),.bool all] 206) b (0+0) [v,.map (some mb)]:=λb=>bF (k:=0) ah rfl
 have hb2:∀ b,Rds (pt b<|cl [v,.map (some mb),sv S.c.name,.bool S.c.dfd,ca,.slice cb S.c.pars.length ck,ce,.slice cf S.c.feats.length cfk,ci,.slice mA S.ms.length mK,.map (some bm),.bool all] 206) b (0+2) [sv S.c.name,.bool S.c.dfd,ca,.slice cb S.c.pars.length ck,ce,.slice cf S.c.feats.length cfk,ci]:=λb=>bF (k:=2) ah rfl
 unfold dE
 unfold eX at *
 refine eG (n:=179) func131 Z Z (len Z) λhr w0 hw0=>?_
 refine cQ (aP Z Z λb2=>?_)
 refine sA Z<|sK [1,2,4] Z<|cS<|cQ<|sV (vF Z mE Z)<|sV (vY Z tJ) ?_
 refine aH Z Z en219 Z (yL hK.ms (by have:=hB.ms; omega)) ?_
 rintro u h' ⟨hu,rfl⟩
 simp only [lC,lN]
 have hsd:qZ (S.ms.flatMap λm=>m.seeds)=S.seeds:=rfl
 rw [hsd]
 refine jr (v:=u) (E:=69) (sz:=2) (rows:=S.seeds.map sdC) slq λwa wc hwf hwl hwm=>?_
 rw [List.length_map] at hwf hwl
 subst hwf
 refine sV (aF Z underlying67)<|sM Z<|sK [1,2,4,26,27,28] Z<|cB<|aX (σ := Res×Res×Nat) (λq=>[(1,.func (.yield yl) #[] #[]),(2,.pointer (some ⟨b2,0,none⟩)),(26,.slice wa S.seeds.length wc),(27,.int .i64 S.seeds.length),(28,.int .i64 (q.2.2:Nat))]) (λq=>VR (.slice wa S.seeds.length wc) 69 2 (S.seeds.map sdC)::pt b2 (cl [v,.map (some mb),sv S.c.name,.bool S.c.dfd,ca,.slice cb S.c.pars.length ck,ce,.slice cf S.c.feats.length cfk,ci,.slice mA S.ms.length mK,.map (some bm),.bool all] 206)::q.1::mps mb m::mps bm bmp::q.2.1::hr) (λq=>Ext X q.1/\q.2.2≤S.seeds.length /\ Φ ((S.seeds.drop q.2.2).flatMap (S.c1)++T2) q.2.1) (λq=>S.seeds.length - q.2.2) (X,r0,0) ⟨Ext.refl X,Nat.zero_le _,h0⟩ ?_
 rintro ⟨Y,r,j⟩ ⟨hE,hj,hΦ⟩
 simp only at hE hj hΦ
 dsimp only
 refine cQ<|sV (aN Z Z)<|sN<|nT<|cS<|cC Z (λhd=>?_)<|λhd=>?_
 ·have hltj:j<S.seeds.length:=Zx
  rw [ed hltj,List.append_assoc] at hΦ
  have hnx:(S.seeds.map sdC)[j]? = some (sdC S.seeds[j]):=by rw [List.getElem?_map,Zy hltj]; rfl
  refine fJ (r:=VR (.slice wa S.seeds.length wc) 69 2<|S.seeds.map sdC) slq λhok=>?_
  obtain ⟨ab,ao,rfl⟩:∃ ab ao,wa=some ⟨ab,ao,none⟩:=by
   obtain ⟨f0,hf0⟩:=hok
   rcases VR.form hf0 with ⟨h3,h4⟩ | ⟨b,o,cp,h3,-⟩
   ·have:=List.map_eq_nil_iff.1 h4
    rw [this] at hltj; simp at hltj
   ·rw [List.length_map] at h3; cases h3; exact ⟨b,o,rfl⟩
  generalize S.seeds[j]=d at hΦ hnx
  generalize hA:(S.seeds.drop (j+1)).flatMap (S.c1)++T2=A at hΦ
  unfold sdC at hnx
  have hK2:=hK.up hE
  refine cK<|xT<|cS<|cB<|cQ<|sV (vI (k:=j) Z Z oN Z hltj Z)<|sV (af Z il Z<|eQ hnx) ?_
  refine au al69 λb6=>?_
  refine ai Z Z sz69 Z Z ?_
  refine sK [1,2,6,26,27,28] Z<|E5<|cQ<|sV (vF Z mE Z)<|sV (vY Z tJ) ?_
  refine sV (af Z il Z ah) ?_
  refine aH Z Z Fp Z (lI (s:=d) hK2.ms) ?_
  rintro u h' ⟨T,rfl,hu,rfl⟩
  simp only [lC,lN]
  unfold NR
  refine sA Z<|sK [1,2,6,7,26,27,28] Z<|cS<|cS ?_
  have hnl:=Dn S.ms d
  have hmf:=hB.mf
  refine fZ (v:=u) (E:=9) (sz:=1) (rows:=(aZ S.ms d).map nC) slq λla lc hlf hll hlm=>?_
  rw [List.length_map] at hlf hll
  subst hlf
  refine cR<|sV (vF Z D8 Z)<|sV (af Z gU Z<|hb0 b2) ?_
  refine sV (vF Z gM Z)<|sV (af Z gG Z<|hb2 b2) ?_
  refine sV (vF Z mE Z)<|sV (vY Z tJ) ?_
  refine sV (af Z il Z ah) ?_
  refine bM hw0 Z Z en98 Z (yO hB.fits S.l.length Y S.c cn _ _ S.ms d hcn0 hrk hK2.l hK2.c hK2.fl hK2.ms) ?_
  rintro u h' ⟨Y2,k9,rfl,hE2,rfl,rfl⟩
  simp only [lC,lN]
  have hsl:eP S.fl S.l S.l.length S.c S.ms d=S.sel d:=rfl
  rw [hsl]
  unfold Sk.c1 at hΦ
  have hE3:=hE.trans hE2
  refine sM Z<|sV (ag Z Z)<|sV (ag Z Z)<|sA Z<|sA Z<|sK [1,2,6,7,9,26,27,28] Z<|cQ<|sM Z<|sK [1,2,6,7,26,27,28,47] Z ?_
  cases hq:(S.sel d).2
  ·rw [hq] at hΦ
   have hΦ : Φ (S.cut (S.pairs (aZ S.ms d) (λ_ _=>true)<|λa b=>⟨11,S.c.name,a,b,⟨d.cls,d.name⟩,og0⟩)++A) r:=hΦ
   generalize aZ S.ms d=L at hΦ hnl hll
   refine aG Z ?_
   refine cK<|xT<|cS<|EX<|xT<|cQ<|sM Z<|sV (aF Z underlying40)<|sM Z<|sK [1,2,6,7,26,27,28,48,49,50] Z<|cB<|aX (σ := Res×Nat) (λq=>[(1,.func (.yield yl) #[] #[]),(2,.pointer (some ⟨b2,0,none⟩)),(26,.slice (some ⟨ab,ao,none⟩) S.seeds.length wc),(27,.int .i64 S.seeds.length),(28,.int .i64 (j:Nat)),(6,.pointer (some ⟨b6,0,none⟩)),(7,.slice la L.length lc),(48,.slice la L.length lc),(49,.int .i64 L.length),(50,.int .i64 (q.2:Nat))]) (λq=>VR (.slice la L.length lc) 9 1 (L.map nC)::pt b6 (cl [sv d.cls,sv d.name] 69)::VR (.slice (some ⟨ab,ao,none⟩) S.seeds.length wc) 69 2 (S.seeds.map sdC)::pt b2 (cl [v,.map (some mb),sv S.c.name,.bool S.c.dfd,ca,.slice cb S.c.pars.length ck,ce,.slice cf S.c.feats.length cfk,ci,.slice mA S.ms.length mK,.map (some bm),.bool all] 206)::Y2::mps mb m::mps bm bmp::q.1::hr) (λq=>q.2≤L.length /\ Φ (S.cut ((L.zipIdx.drop q.2).flatMap<|λa=>kQ S L (λ_ _=>true) (λa b=>⟨11,S.c.name,a,b,⟨d.cls,d.name⟩,og0⟩) a 0)++A) q.1) (λq=>L.length - q.2) (r,0) ⟨Nat.zero_le _,hΦ⟩ ?_
   clear hΦ
   rintro ⟨r,i⟩ ⟨hi,hΦ⟩
   simp only at hi hΦ
   dsimp only
   refine cQ<|sV (aN Z Z)<|sN<|nT<|cS<|cC Z (λhd2=>?_)<|λhd2=>?_
   ·have hlti:i<L.length:=Zw
    rw [ko hlti] at hΦ
    have hnxi:(L.map nC)[i]? = some [sv L[i]]:=by rw [List.getElem?_map,Zy hlti]; rfl
    refine fJ (r:=VR (.slice la L.length lc) 9 1<|L.map nC) slq λhok2=>?_
    obtain ⟨nb,no,rfl⟩:∃ nb no,la=some ⟨nb,no,none⟩:=by
     obtain ⟨f0,hf0⟩:=hok2
     rcases VR.form hf0 with ⟨h3,h4⟩ | ⟨b,o,cp,h3,-⟩
     ·have:=List.map_eq_nil_iff.1 h4
      rw [this] at hlti; simp at hlti
     ·rw [List.length_map] at h3; cases h3; exact ⟨b,o,rfl⟩
    generalize L[i]=x at hΦ hnxi
    refine cK<|xT<|cS<|cB<|cQ<|sM Z<|sV (vI (k:=i) Z Z jm Z hlti Z)<|sV (vY Z ld9 (ha:=⟨_,_,slq,eQ hnxi 0<|by simp⟩)) ?_
    refine sA Z<|sA Z<|sK [1,2,6,7,10,11,26,27,28,48,49,50] Z<|cQ<|sM Z<|sV (aF Z underlying40)<|sM Z<|sN<|nT<|cB<|aX (σ := Res×Nat) (λq=>[(1,.func (.yield yl) #[] #[]),(2,.pointer (some ⟨b2,0,none⟩)),(26,.slice (some ⟨ab,ao,none⟩) S.seeds.length wc),(27,.int .i64 S.seeds.length),(28,.int .i64 (j:Nat)),(6,.pointer (some ⟨b6,0,none⟩)),(7,.slice (some ⟨nb,no,none⟩) L.length lc),(48,.slice (some ⟨nb,no,none⟩) L.length lc),(49,.int .i64 L.length),(50,.int .i64 (i:Nat)),(10,.int .i64 (i:Nat)),(11,sv x),(55,.slice (some ⟨nb,no,none⟩) L.length lc),(56,.int .i64 L.length),(57,.int .i64 (q.2:Nat))]) (λq=>VR (.slice (some ⟨nb,no,none⟩) L.length lc) 9 1 (L.map nC)::pt b6 (cl [sv d.cls,sv d.name] 69)::VR (.slice (some ⟨ab,ao,none⟩) S.seeds.length wc) 69 2 (S.seeds.map sdC)::pt b2 (cl [v,.map (some mb),sv S.c.name,.bool S.c.dfd,ca,.slice cb S.c.pars.length ck,ce,.slice cf S.c.feats.length cfk,ci,.slice mA S.ms.length mK,.map (some bm),.bool all] 206)::Y2::mps mb m::mps bm bmp::q.1::hr) (λq=>q.2≤L.length /\ Φ (S.cut (kQ S L (λ_ _=>true) (λa b=>⟨11,S.c.name,a,b,⟨d.cls,d.name⟩,og0⟩) (x,i) q.2++(L.zipIdx.drop (i+1)).flatMap (λa=>kQ S L (λ_ _=>true) (λa b=>⟨11,S.c.name,a,b,⟨d.cls,d.name⟩,og0⟩) a 0))++A) q.1) (λq=>L.length - q.2) (r,0) ⟨Nat.zero_le _,hΦ⟩ ?_
    clear hΦ
    rintro ⟨r,k⟩ ⟨hk,hΦ⟩
    simp only at hk hΦ
    dsimp only
    refine cQ<|sV (aN Z Z)<|sN<|nT<|cS<|cC Z (λhd3=>?_)<|λhd3=>?_
    ·have hltk:k<L.length:=Zr
     rw [EF hltk] at hΦ
     have hnxk:(L.map nC)[k]? = some [sv L[k]]:=by rw [List.getElem?_map,Zy hltk]; rfl
     generalize L[k]=y at hΦ hnxk
     refine cK<|xT<|cS<|cB<|cQ<|sM Z<|sV (vI (k:=k) Z Z jm Z hltk Z)<|sV (vY Z ld9 (ha:=⟨_,_,slq,eQ hnxk 0<|by simp⟩)) ?_
     refine sA Z<|sA Z<|sK [1,2,6,7,10,11,12,13,26,27,28,48,49,50,55,56,57] Z<|cS<|cQ<|sM Z<|sM Z<|sV (dP Z Z)<|sM Z ?_
     by_cases hik:i=k
     ·have hq:(((i:Nat):Int) == ((k:Nat):Int))=true:=by rw [hik]; simp
      rw [hq]
      iterate 4 refine aC rfl rfl rfl ?_
      refine bS Z Z ?_
      refine bS Z Z ?_
      refine bS Z Z ?_
      refine aC Z Z Z ?_
      refine sV (vQ Z Z)<|sK [1,2,6,7,10,11,13,26,27,28,48,49,50,55,56,57,74] Z<|aQ Z ?_
      refine aB<|xE<|xY<|xT<|cR<|sV (aI Z Z Za)<|sM Z<|sN<|nK [1,2,6,7,10,11,26,27,28,48,49,50,55,56,57] Z<|ax ?_
      refine aJ (r,k+1) ⟨hltk,by rw [if_pos (.inl hik)] at hΦ; exact hΦ⟩ (by dsimp only; omega)
     ·have hq:(((i:Nat):Int) == ((k:Nat):Int))=false:=by simp; omega
      rw [hq]
      refine sG Z Z (vF Z oW Z)<|sG Z Z (vY Z ld4) ?_
      refine sG Z Z (bg Z)<|sG Z Z (vM Z) ?_
      cases all
      ·refine sG Z Z (vM Z)<|sG Z Z (vM Z)<|sG Z Z (aN Z Z)<|sG Z Z (vQ Z Z)<|sV (vP Z Z)<|sK [1,2,6,7,10,11,13,26,27,28,48,49,50,55,56,57,74] Z ?_
       by_cases hki:k<i
       ·have hq2:decide (((k:Nat):Int)<((i:Nat):Int))=true:=by simp; omega
        rw [hq2]
        refine aQ Z ?_
        refine aB<|xE<|xY<|xT<|cR<|sV (aI Z Z Za)<|sM Z<|sN<|nK [1,2,6,7,10,11,26,27,28,48,49,50,55,56,57] Z<|ax ?_
        refine aJ (r,k+1) ⟨hltk,by rw [if_pos (.inr<|.inl ⟨hall,hki⟩)] at hΦ; exact hΦ⟩ (by dsimp only; omega)
       ·have hq2:decide (((k:Nat):Int)<((i:Nat):Int))=false:=by simp; omega
        rw [hq2]
        have hΦ2 : Φ (⟨11,S.c.name,x,y,⟨d.cls,d.name⟩,og0⟩::((if S.all then kQ S L (λ_ _=>true) (λa b=>⟨11,S.c.name,a,b,⟨d.cls,d.name⟩,og0⟩) (x,i) (k+1)++(L.zipIdx.drop (i+1)).flatMap (λa=>kQ S L (λ_ _=>true) (λa b=>⟨11,S.c.name,a,b,⟨d.cls,d.name⟩,og0⟩) a 0) else [])++A)) r:=by
         rw [if_neg (λh=>h.elim hik λh=>h.elim (λh=>hki h.2)<|λh=>by cases h)] at hΦ
         rw [lC,lN,List.cons_append,vX] at hΦ
         exact hΦ
        refine aG Z ?_
        refine cK<|xT<|cQ<|sV (af Z fC Z ah) ?_
        refine sM Z<|sV (vF Z xg Z)<|sV (vY Z ld9) ?_
        refine sV (vF Z xh Z)<|sV (vY Z ld9) ?_
        refine sV (aO (cells:=[sv d.cls,sv d.name]) Z<|λ_=>Zz) ?_
        refine sV (aO (cells:=[sv [],sv []]) Z<|λ_=>Zz) ?_
        refine aY Z Z jS Z (hcn 11 x ⟨d.cls,d.name⟩ og0) ?_
        unfold cfV cfC
        refine au D9 λb14=>?_
        refine ai Z Z wZ Z Z ?_
        refine sK [1,2,6,7,10,11,13,14,26,27,28,48,49,50,55,56,57] Z<|cQ<|sM Z<|sV (vF Z DX Z)<|bf Z Z sz9 ?_
        refine sK [1,2,6,7,10,11,14,26,27,28,48,49,50,55,56,57] Z<|cS<|cQ<|sM Z<|sV (af Z tF Z ah) ?_
        refine kg (gd:=0) (.inl Z) Z Z (hy _ _ _ hΦ2) ?_
        rintro u h' (⟨rfl,r',hΦ4,rfl⟩ | ⟨rfl,r',hst,rfl⟩)
        ·simp only [lC,lN]
         refine sV (bg Z)<|sK [1,2,6,7,10,11,26,27,28,48,49,50,55,56,57,89] Z<|aG Z ?_
         refine cK<|xT<|cQ<|sV (vF Z oW Z)<|sV (vY Z ld4) ?_
         refine sV (bg Z)<|sK [1,2,6,7,10,11,26,27,28,48,49,50,55,56,57,92] Z<|aQ Z ?_
         refine aB<|fF (by decide) ?_
         refine xE<|xE<|fF (by decide) ?_
         refine fF (by decide) ?_
         refine xE<|xE<|xY<|pX<|xB<|xT<|cR<|sV (aI Z Z Za)<|sM Z<|sN<|nK [1,2,26,27,28] Z<|ax ?_
         rw [hall] at hΦ4
         refine aJ (Y2,r',j+1) ⟨hE3,hltj,by rw [hA]; exact hΦ4⟩ (by dsimp only; omega)
        ·simp only [lC,lN]
         refine sV (bg Z)<|sK [1,2,6,7,10,11,26,27,28,48,49,50,55,56,57,89] Z<|aQ Z ?_
         refine cQ<|sA Z<|sK [4] Z<|cT<|xR<|xW<|xR<|xR<|xW<|xW<|xR<|xR<|xW ?_
         refine fq<|xW<|xR<|xR<|xW<|xR ?_
         exact aj Z ⟨Y2,[mps mb m,mps bm bmp,r'],Z,hE3,r',Z,.inr ⟨Z,_,hst⟩⟩ sbq
      ·iterate 3 refine aC rfl rfl rfl ?_
       refine sG Z Z (vP Z Z)<|sV (vP Z Z)<|sK [1,2,6,7,10,11,13,26,27,28,48,49,50,55,56,57,74] Z ?_
       have hΦ2 : Φ (⟨11,S.c.name,x,y,⟨d.cls,d.name⟩,og0⟩::((if S.all then kQ S L (λ_ _=>true) (λa b=>⟨11,S.c.name,a,b,⟨d.cls,d.name⟩,og0⟩) (x,i) (k+1)++(L.zipIdx.drop (i+1)).flatMap (λa=>kQ S L (λ_ _=>true) (λa b=>⟨11,S.c.name,a,b,⟨d.cls,d.name⟩,og0⟩) a 0) else [])++A)) r:=by
        rw [if_neg (λh=>h.elim hik λh=>h.elim (λh=>by rw [hall] at h; cases h.1)<|λh=>by cases h)] at hΦ
        rw [lC,lN,List.cons_append,vX] at hΦ
        exact hΦ
       refine aG Z ?_
       refine cK<|xT<|cQ<|sV (af Z fC Z ah) ?_
       refine sM Z<|sV (vF Z xg Z)<|sV (vY Z ld9) ?_
       refine sV (vF Z xh Z)<|sV (vY Z ld9) ?_
       refine sV (aO (cells:=[sv d.cls,sv d.name]) Z<|λ_=>Zz) ?_
       refine sV (aO (cells:=[sv [],sv []]) Z<|λ_=>Zz) ?_
       refine aY Z Z jS Z (hcn 11 x ⟨d.cls,d.name⟩ og0) ?_
       unfold cfV cfC
       refine au D9 λb14=>?_
       refine ai Z Z wZ Z Z ?_
       refine sK [1,2,6,7,10,11,13,14,26,27,28,48,49,50,55,56,57] Z<|cQ<|sM Z<|sV (vF Z DX Z)<|bf Z Z sz9 ?_
       refine sK [1,2,6,7,10,11,14,26,27,28,48,49,50,55,56,57] Z<|cS<|cQ<|sM Z<|sV (af Z tF Z ah) ?_
       refine kg (gd:=0) (.inl Z) Z Z (hy _ _ _ hΦ2) ?_
       rintro u h' (⟨rfl,r',hΦ4,rfl⟩ | ⟨rfl,r',hst,rfl⟩)
       ·simp only [lC,lN]
        refine sV (bg Z)<|sK [1,2,6,7,10,11,26,27,28,48,49,50,55,56,57,89] Z<|aG Z ?_
        refine cK<|xT<|cQ<|sV (vF Z oW Z)<|sV (vY Z ld4) ?_
        refine sV (bg Z)<|sK [1,2,6,7,10,11,26,27,28,48,49,50,55,56,57,92] Z<|aG Z ?_
        refine cK<|xB<|xT<|cR<|sV (aI Z Z Za)<|sM Z<|sN<|nK [1,2,6,7,10,11,26,27,28,48,49,50,55,56,57] Z<|ax ?_
        rw [hall] at hΦ4
        refine aJ (r',k+1) ⟨hltk,by unfold Sk.cut; rw [hall]; exact hΦ4⟩ (by dsimp only; omega)
       ·simp only [lC,lN]
        refine sV (bg Z)<|sK [1,2,6,7,10,11,26,27,28,48,49,50,55,56,57,89] Z<|aQ Z ?_
        refine cQ<|sA Z<|sK [4] Z<|cT<|xR<|xW<|xR<|xR<|xW<|xW<|xR<|xR<|xW ?_
        refine fq<|xW<|xR<|xR<|xW<|xR ?_
        exact aj Z ⟨Y2,[mps mb m,mps bm bmp,r'],Z,hE3,r',Z,.inr ⟨Z,_,hst⟩⟩ sbq
    ·have hend:k=L.length:=Nat.le_antisymm hk<|Nat.not_lt.1 Zr
     subst hend
     rw [Bq,List.nil_append] at hΦ
     refine aB<|xE<|xE<|xY<|xB<|xT<|cR<|sV (aI Z Z Za)<|sM Z<|sN<|nK [1,2,6,7,26,27,28,48,49,50] Z<|ax ?_
     refine aJ (r,i+1) ⟨hlti,hΦ⟩ (by dsimp only; omega)
   ·have hend:i=L.length:=Nat.le_antisymm hi<|Nat.not_lt.1 Zw
    subst hend
    rw [mP] at hΦ
    have hΦ : Φ A r:=by
     have:S.cut []=[]:=by unfold Sk.cut; split <;> rfl
     rw [this] at hΦ; exact hΦ
    refine aB<|xE<|xE<|xY<|pX<|xB<|xT<|cR<|sV (aI Z Z Za)<|sM Z<|sN<|nK [1,2,26,27,28] Z<|ax ?_
    refine aJ (Y2,r,j+1) ⟨hE3,hltj,by rw [hA]; exact hΦ⟩ (by dsimp only; omega)
  ·rw [hq] at hΦ
   have hΦ : Φ A r:=hΦ
   refine aQ Z ?_
   refine aB<|xE<|BA<|xY<|xT<|cR<|sV (aI Z Z Za)<|sM Z<|sN<|nK [1,2,26,27,28] Z<|ax ?_
   refine aJ (Y2,r,j+1) ⟨hE3,hltj,by rw [hA]; exact hΦ⟩ (by dsimp only; omega)
 ·have hend:j=S.seeds.length:=Nat.le_antisymm hj<|Nat.not_lt.1 Zx
  subst hend
  rw [dL,List.nil_append,<- hT2] at hΦ
  refine aB<|xE<|xE<|xY<|xT<|cS<|cQ<|sV (vF Z gM Z)<|sV (vF Z eY Z)<|sV (vY Z lZ) ?_
  refine sV (aF Z underlying39)<|sM Z<|sK [1,2,98,99,100] Z<|cB<|aX (σ := Res×Res×Nat) (λq=>[(1,.func (.yield yl) #[] #[]),(2,.pointer (some ⟨b2,0,none⟩)),(98,.slice cb S.c.pars.length ck),(99,.int .i64 S.c.pars.length),(100,.int .i64 (q.2.2:Nat))]) (λq=>pt b2 (cl [v,.map (some mb),sv S.c.name,.bool S.c.dfd,ca,.slice cb S.c.pars.length ck,ce,.slice cf S.c.feats.length cfk,ci,.slice mA S.ms.length mK,.map (some bm),.bool all] 206)::q.1::mps mb m::mps bm bmp::q.2.1::hr) (λq=>Ext X q.1/\q.2.2≤S.c.pars.length /\ Φ ((S.c.pars.zipIdx.drop q.2.2).flatMap S.c2++T3) q.2.1) (λq=>S.c.pars.length - q.2.2) (Y,r,0) ⟨hE,Nat.zero_le _,hΦ⟩ ?_
  clear hΦ hE
  clear Y r
  rintro ⟨Y,r,i⟩ ⟨hE,hi,hΦ⟩
  simp only at hE hi hΦ
  dsimp only
  refine cQ<|sV (aN Z Z)<|sN<|nT<|cS<|cC Z (λhd=>?_)<|λhd=>?_
  ·have hlt:i<S.c.pars.length:=Zx
   rw [ko hlt,List.append_assoc] at hΦ
   have hlis:=hB.lists<|List.getElem_mem hlt
   obtain ⟨pb,po,pcap,pus,e1,hpus,hprd,hp⟩:=(hK.par.up hE).at<|Zy hlt
   obtain ⟨rfl,rfl⟩:cb=some ⟨pb,po,none⟩/\ck=pcap:=by cases e1; exact ⟨rfl,rfl⟩
   generalize S.c.pars[i]=p at hΦ hlis hp
   generalize hA:(S.c.pars.zipIdx.drop (i+1)).flatMap S.c2++T3=A at hΦ
   obtain ⟨hlR,hlU,hlD,hlS⟩:=hlis
   obtain ⟨pa,pr,pu,pd,pS,rfl,hpa,hpR,hpu,hpd,hpsel⟩:=hp
   obtain ⟨aA,kA,rfl,_⟩:=id hpa.form
   obtain ⟨aR,kR,rfl,_⟩:=id hpR.form
   obtain ⟨aU,kU,rfl,_⟩:=id hpu.form
   obtain ⟨aD,kD,rfl,_⟩:=id hpd.form
   obtain ⟨aS,kS,rfl,_⟩:=id hpsel.form
   refine cK<|xT<|cS<|cB<|cQ<|sM Z<|sV (vI (k:=i) Z Z oL Z hlt Z)<|sV (af Z qp Z hprd) ?_
   refine au vD λb16=>?_
   refine sA Z<|ai Z Z r9 Z Z ?_
   have hΦ : Φ (p.sel.flatMap (S.c2a (p,i))++A) r:=hΦ
   refine sK [1,2,15,16,98,99,100] Z<|cQ<|sV (vF Z Aj Z)<|sV (vY Z fI) ?_
   refine sV (aF Z underlying40)<|sM Z<|sK [1,2,15,16,98,99,100,106,107,108] Z<|cB<|aX (σ := Res×Res×Nat) (λq=>[(1,.func (.yield yl) #[] #[]),(2,.pointer (some ⟨b2,0,none⟩)),(98,.slice (some ⟨pb,po,none⟩) S.c.pars.length ck),(99,.int .i64 S.c.pars.length),(100,.int .i64 (i:Nat)),(15,.int .i64 (i:Nat)),(16,.pointer (some ⟨b16,0,none⟩)),(106,.slice aS p.sel.length kS),(107,.int .i64 p.sel.length),(108,.int .i64 (q.2.2:Nat))]) (λq=>pt b16 (cl [sv p.name,.slice aA p.args.length kA,.slice aR p.ren.length kR,.slice aU p.und.length kU,.slice aD p.red.length kD,.slice aS p.sel.length kS] 88)::pt b2 (cl [v,.map (some mb),sv S.c.name,.bool S.c.dfd,ca,.slice (some ⟨pb,po,none⟩) S.c.pars.length ck,ce,.slice cf S.c.feats.length cfk,ci,.slice mA S.ms.length mK,.map (some bm),.bool all] 206)::q.1::mps mb m::mps bm bmp::q.2.1::hr) (λq=>Ext Y q.1/\q.2.2≤p.sel.length /\ Φ ((p.sel.drop q.2.2).flatMap (S.c2a (p,i))++A) q.2.1) (λq=>p.sel.length - q.2.2) (Y,r,0) ⟨Ext.refl Y,Nat.zero_le _,hΦ⟩ ?_
   clear hΦ
   rintro ⟨Zq,r,j⟩ ⟨hE2,hj,hΦ⟩
   simp only at hE2 hj hΦ
   dsimp only
   refine cQ<|sV (aN Z Z)<|sN<|nT<|cS<|cC Z (λhd2=>?_)<|λhd2=>?_
   ·have hltj:j<p.sel.length:=Zw
    rw [ed hltj,List.append_assoc] at hΦ
    have hEZ:=hE.trans hE2
    have hK9:=hK.up hEZ
    obtain ⟨nb,no,ncap,nus,e2,hnus,hnrd,hn⟩:=(hpsel.up hE2).at<|Zy hltj
    obtain ⟨rfl,rfl⟩:aS=some ⟨nb,no,none⟩/\kS=ncap:=by cases e2; exact ⟨rfl,rfl⟩
    generalize p.sel[j]=x at hΦ hn
    subst hn
    refine cK<|xT<|cS<|cB<|cQ<|sV (vI (k:=j) Z Z jm Z hltj Z)<|sV (vY Z ld9 (ha:=⟨_,_,slq,hnrd 0<|by simp⟩)) ?_
    refine sA Z<|sK [1,2,15,16,18,98,99,100,106,107,108] Z<|cQ<|sV (vF Z mE Z)<|sV (vY Z tJ) ?_
    refine sM Z<|aH Z Z en169 Z (ui (n:=x) hK9.ms) ?_
    rintro u h' ⟨rfl,gus,rfl,hgr⟩
    simp only [lC,lN]
    have hmf:(S.ms.find? λc=>c.name == x)=dA S.ms x:=rfl
    rw [hmf]
    rw [hmf] at hgr
    unfold Sk.c2a at hΦ
    dsimp only at hΦ
    generalize (dA S.ms x).getD mb0=m0 at hgr hΦ
    have hgo:=Enc.ones hgr
    obtain ⟨g2,g5,gy,g11,g12,g13,rfl,hg2,-⟩:=dh hgr
    obtain ⟨ga2,gk2,rfl,_⟩:=id hg2.form
    unfold gz at *
    refine sM Z<|sV (ag Z Z)<|sV (ag Z Z) (au ji λb19=>?_)
    refine ai Z Z gP Z hgo ?_
    refine sA Z<|sK [1,2,15,16,18,19,98,99,100,106,107,108] Z<|cQ<|sV (vF Z dX Z)<|sV (vY Z nO) ?_
    refine sV (bQ Z Z) ?_
    have hany:=dF<|F7 (X:=Res.star [pt b2 (cl [v,.map (some mb),sv S.c.name,.bool S.c.dfd,ca,.slice (some ⟨pb,po,none⟩) S.c.pars.length ck,ce,.slice cf S.c.feats.length cfk,ci,.slice mA S.ms.length mK,.map (some bm),.bool all] 206),Zq]) (xs:=m0.seeds) (g:=λd=>decide (1<(aZ S.ms d).length)) (cp := #[.pointer (some ⟨b2,0,none⟩)]) (hg2.up'<|bE<|.there .here) en220<|λa _ us h=>Jg h (bE .here _ _<|bV rfl)<|hK9.ms.up'<|bE<|.there .here
    refine aY Z Z en31 Z (hany) ?_
    refine sA Z<|sK [1,2,15,16,18,21,98,99,100,106,107,108] Z<|cQ<|sV (af Z fC Z ah) ?_
    refine sM Z<|sM Z<|aH Z Z J6 Z (pV (v:=v) (fv:=.map<|some mb) (c:=S.c) (ca:=ca) (cb:=.slice (some ⟨pb,po,none⟩) S.c.pars.length ck) (ce:=ce) (cf:=.slice cf S.c.feats.length cfk) (ci:=ci) (mv:=.slice mA S.ms.length mK) (all:=all) (bm:=bm) (i:=i) (n:=x) (hK9.by' x) (by have:=hB.under x; omega)) ?_
    rintro u h' ⟨Y3,k9,rfl,hE4,rows,hu,hro,rfl⟩
    simp only [lC,lN]
    have hro:Rws Y3 rows (S.fro i x):=hro
    have hrl:=hro.1
    have hfl:=hB.fro i x
    refine jr (v:=u) (E:=191) (sz:=18) (rows:=rows) slq λla lc hlf hll hlm=>?_
    rw [hrl] at hlf hll
    subst hlf
    have hE6:=hE2.trans hE4
    have hEZ4:=hE.trans hE6
    generalize (m0.seeds.any λd=>decide (1<(aZ S.ms d).length))=many at hΦ ⊢
    generalize S.fro i x=l at hΦ hro hrl hfl ⊢
    refine sV (aF Z underlying187)<|sV (cu Z Z)<|sM Z ?_
    by_cases hq:l=[]
    ·rw [if_neg (λh=>h.1 hq)] at hΦ
     have hg:decide ((0:Int)<(l.length:Nat))=false:=by rw [hq]; rfl
     rw [hg]
     iterate 2 refine aC rfl rfl rfl ?_
     refine sV (vP Z Z)<|sM Z<|aC Z Z Z ?_
     iterate 10 refine aC rfl rfl rfl ?_
     refine sV (vP Z Z)<|sK [1,2,15,16,98,99,100,106,107,108,145] Z<|aG Z ?_
     refine cK<|xB<|xT<|cR<|sV (aI Z Z Za)<|sM Z<|sN<|nK [1,2,15,16,98,99,100,106,107,108] Z<|ax ?_
     refine aJ (Y3,r,j+1) ⟨hE6,hltj,hΦ⟩ (by dsimp only; omega)
    ·have hg:decide ((0:Int)<(l.length:Nat))=true:=by
      have:=List.length_pos_iff.2 hq
      simp; omega
     rw [hg]
     refine sG Z Z (vM Z)<|sG Z Z (bg Z)<|sV (vQ Z Z)<|sM Z ?_
     cases many
     ·rw [if_pos ⟨hq,rfl⟩] at hΦ
      have hΦ2 : Φ (S.cf 12 x ⟨p.name,x⟩ og0::((p.sel.drop (j+1)).flatMap (S.c2a (p,i))++A)) r:=hΦ
      refine sG Z Z (vM Z)<|sG Z Z (af Z fC Z ah) ?_
      refine sG Z Z (vM Z)<|sG Z Z (vF Z gH Z)<|sG Z Z (vY Z ld9) ?_
      refine sG Z Z (vM Z)<|sG Z Z (aO (cells:=[sv p.name,sv x]) Z<|λ_=>Zz) ?_
      refine sG Z Z (aO (cells:=[sv [],sv []]) Z<|λ_=>Zz) ?_
      refine bU Z Z Z Z jS Z (hcn 12 x ⟨p.name,x⟩ og0) ?_
      refine kg (gd:=133) (.inr ⟨_,_,Z,Z,Z⟩) Z Z (hy _ _ _ hΦ2) ?_
      rintro u h' (⟨rfl,r',hΦ4,rfl⟩ | ⟨rfl,r',hst,rfl⟩)
      ·simp only [lC,lN]
       refine sG Z Z (bg Z)<|sV (vQ Z Z)<|sK [1,2,15,16,98,99,100,106,107,108,145] Z<|aG Z ?_
       refine cK<|xB<|xT<|cR<|sV (aI Z Z Za)<|sM Z<|sN<|nK [1,2,15,16,98,99,100,106,107,108] Z<|ax ?_
       refine aJ (Y3,r',j+1) ⟨hE6,hltj,hΦ4⟩ (by dsimp only; omega)
      ·simp only [lC,lN]
       refine sG Z Z (bg Z)<|sV (vQ Z Z)<|sK [1,2,15,16,98,99,100,106,107,108,145] Z<|aQ Z ?_
       refine cQ<|sA Z<|sK [4] Z<|cT<|xW<|xR<|xR<|xW<|xW<|xR<|xR<|xW<|xR ?_
       exact aj Z ⟨Y3,[mps mb m,mps bm bmp,r'],Z,hEZ4,r',Z,.inr ⟨Z,_,hst⟩⟩ sbq
     ·rw [if_neg (λh=>by cases h.2)] at hΦ
      iterate 11 refine aC rfl rfl rfl ?_
      refine sV (vP Z Z)<|sK [1,2,15,16,98,99,100,106,107,108,145] Z<|aG Z ?_
      refine cK<|xB<|xT<|cR<|sV (aI Z Z Za)<|sM Z<|sN<|nK [1,2,15,16,98,99,100,106,107,108] Z<|ax ?_
      refine aJ (Y3,r,j+1) ⟨hE6,hltj,hΦ⟩ (by dsimp only; omega)
   ·have hend:j=p.sel.length:=Nat.le_antisymm hj<|Nat.not_lt.1 Zw
    subst hend
    rw [dL,List.nil_append] at hΦ
    refine aB<|xE<|xE<|xY<|xB<|xT<|cR<|sV (aI Z Z Za)<|sM Z<|sN<|nK [1,2,98,99,100] Z<|ax ?_
    refine aJ (Zq,r,i+1) ⟨hE.trans hE2,hlt,by rw [hA]; exact hΦ⟩ (by dsimp only; omega)
  ·have hend:i=S.c.pars.length:=Nat.le_antisymm hi<|Nat.not_lt.1 Zx
   subst hend
   rw [mP,List.nil_append,<- hT3] at hΦ
   have hms:=hK.ms.up hE
   refine aB<|xE<|xE<|xY<|xT<|cS<|cQ<|sV (vF Z mE Z)<|sV (vY Z tJ) ?_
   refine sV (aF Z underlying52)<|sM Z<|sK [1,2,149,150,151] Z<|cB<|aX (σ := Res×Nat) (λq=>[(1,.func (.yield yl) #[] #[]),(2,.pointer (some ⟨b2,0,none⟩)),(149,.slice mA S.ms.length mK),(150,.int .i64 S.ms.length),(151,.int .i64 (q.2:Nat))]) (λq=>pt b2 (cl [v,.map (some mb),sv S.c.name,.bool S.c.dfd,ca,.slice cb S.c.pars.length ck,ce,.slice cf S.c.feats.length cfk,ci,.slice mA S.ms.length mK,.map (some bm),.bool all] 206)::Y::mps mb m::mps bm bmp::q.1::hr) (λq=>q.2≤S.ms.length /\ Φ ((S.ms.drop q.2).flatMap S.c3++(S.apart++R)) q.1) (λq=>S.ms.length - q.2) (r,0) ⟨Nat.zero_le _,hΦ⟩ ?_
   clear hΦ
   rintro ⟨r,i⟩ ⟨hi,hΦ⟩
   simp only at hi hΦ
   dsimp only
   refine cQ<|sV (aN Z Z)<|sN<|nT<|cS<|cC Z (λhd=>?_)<|λhd=>?_
   ·have hlt:i<S.ms.length:=Zx
    rw [ed hlt,List.append_assoc] at hΦ
    obtain ⟨nb,no,ncap,nus,e2,hnus,hnrd,hn⟩:=hms.at<|Zy hlt
    obtain ⟨rfl,rfl⟩:mA=some ⟨nb,no,none⟩/\mK=ncap:=by cases e2; exact ⟨rfl,rfl⟩
    generalize S.ms[i]=x at hΦ hn
    generalize hA:(S.ms.drop (i+1)).flatMap S.c3++(S.apart++R)=A at hΦ
    have hxo:=Enc.ones hn
    obtain ⟨x2,x5,xy,x11,x12,x13,rfl,-⟩:=dh hn
    unfold gz at *
    unfold Sk.c3 at hΦ
    refine cK<|xT<|cS<|cB<|cQ<|sV (vI (k:=i) Z Z oM Z hlt Z)<|sV (af Z eU Z hnrd) ?_
    refine au ji λb23=>?_
    refine ai Z Z gP Z hxo ?_
    refine sK [1,2,23,149,150,151] Z<|cQ<|sV (vF Z gM Z)<|sV (vF Z M8 Z)<|sV (vY Z ld4) ?_
    refine sV (bg Z)<|sM Z ?_
    by_cases hdf:S.c.dfd=false
    ·have hg:(!S.c.dfd)=true:=by rw [hdf]; rfl
     rw [hg]
     refine sG Z Z (vF Z Ah Z)<|sG Z Z (vY Z ld3) ?_
     refine sG Z Z (dP Z Z)<|sV (vQ Z Z)<|sM Z ?_
     by_cases hk3:x.kind=3
     ·rw [if_pos ⟨hdf,hk3⟩] at hΦ
      have hΦ2 : Φ (S.cf 13 x.name og0 og0::A) r:=hΦ
      have hg2:(x.kind == 3)=true:=by rw [hk3]; rfl
      rw [hg2]
      refine sG Z Z (vM Z)<|sG Z Z (af Z fC Z ah) ?_
      refine sG Z Z (vF Z eB Z)<|sG Z Z (vY Z ld9) ?_
      refine sG Z Z (aO (cells:=[sv [],sv []]) Z<|λ_=>Zz) ?_
      refine sG Z Z (aO (cells:=[sv [],sv []]) Z<|λ_=>Zz) ?_
      refine bU Z Z Z Z jS Z (hcn 13 x.name og0 og0) ?_
      refine kg (gd:=164) (.inr ⟨_,_,Z,Z,Z⟩) Z Z (hy _ _ _ hΦ2) ?_
      rintro u h' (⟨rfl,r',hΦ4,rfl⟩ | ⟨rfl,r',hst,rfl⟩)
      ·simp only [lC,lN]
       refine sG Z Z (bg Z)<|sV (vQ Z Z)<|sK [1,2,149,150,151,174] Z<|aG Z ?_
       refine cK<|xB<|xT<|cR<|sV (aI Z Z Za)<|sM Z<|sN<|nK [1,2,149,150,151] Z<|ax ?_
       refine aJ (r',i+1) ⟨hlt,by rw [hA]; exact hΦ4⟩ (by dsimp only; omega)
      ·simp only [lC,lN]
       refine sG Z Z (bg Z)<|sV (vQ Z Z)<|sK [1,2,149,150,151,174] Z<|aQ Z ?_
       refine cQ<|sA Z<|sK [4] Z<|cT<|xW<|xR<|xR<|xW<|xR ?_
       exact aj Z ⟨Y,[mps mb m,mps bm bmp,r'],Z,hE,r',Z,.inr ⟨Z,_,hst⟩⟩ sbq
     ·rw [if_neg (λh=>hk3 h.2)] at hΦ
      have hg2:(x.kind == 3)=false:=by simpa using hk3
      rw [hg2]
      iterate 9 refine aC rfl rfl rfl ?_
      refine sV (vP Z Z)<|sK [1,2,149,150,151,174] Z<|aG Z ?_
      refine cK<|xB<|xT<|cR<|sV (aI Z Z Za)<|sM Z<|sN<|nK [1,2,149,150,151] Z<|ax ?_
      refine aJ (r,i+1) ⟨hlt,by rw [hA]; exact hΦ⟩ (by dsimp only; omega)
    ·rw [if_neg (λh=>hdf h.1)] at hΦ
     have hg:(!S.c.dfd)=false:=by simpa using hdf
     rw [hg]
     iterate 3 refine aC rfl rfl rfl ?_
     refine sV (vP Z Z)<|sM Z<|aC Z Z Z ?_
     iterate 8 refine aC rfl rfl rfl ?_
     refine sV (vP Z Z)<|sK [1,2,149,150,151,174] Z<|aG Z ?_
     refine cK<|xB<|xT<|cR<|sV (aI Z Z Za)<|sM Z<|sN<|nK [1,2,149,150,151] Z<|ax ?_
     refine aJ (r,i+1) ⟨hlt,by rw [hA]; exact hΦ⟩ (by dsimp only; omega)
   ·have hend:i=S.ms.length:=Nat.le_antisymm hi<|Nat.not_lt.1 Zx
    subst hend
    rw [dL,List.nil_append] at hΦ
    have hap:=Ou (v:=v) (mb:=mb) (bm:=bm) hy hall (hK.up hE) hB R r hΦ
    unfold CtX eX at hap
    refine aB<|xE<|xE<|xY<|xT<|cQ<|sV (af Z fC Z ah) ?_
    refine sM Z<|aH Z Z en221 Z (hap) ?_
    rintro u h' ⟨Y2,k9,rfl,hE2,r',rfl,hend⟩
    simp only [lC,lN]
    refine sA Z<|sK [4] Z<|cT ?_
    exact aj Z ⟨Y2,[mps mb m,mps bm bmp,r'],Z,hE.trans hE2,r',Z,hend⟩ sbq
end
end Go.Fl
