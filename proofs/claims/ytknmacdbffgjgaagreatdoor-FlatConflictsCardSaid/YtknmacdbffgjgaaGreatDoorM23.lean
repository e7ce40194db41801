/-
  Package flat: apart yields conflicts of the kind CnApart. Conditions: what is read; sizes.
-/
import Derived.Test.YtknmacdbffgjgaaGreatDoorM22
set_option linter.unusedVariables false
set_option linter.unusedSimpArgs false
set_option maxRecDepth 100000
set_option maxHeartbeats 16000000
namespace Go.Fl
open Go Go.RowKit Go.Ck Go.Proofs Go.Proofs.Tryz Go.Proofs.YtknmacdbffgjgaaGreatDoor Fx Go.Hr
namespace Sk
section
variable (s:Sk)
def rx (k:Nat) (n:Nm) (x:Cm):List Cf:=match feat s.c n with
 | none=>[]
 | some f=>if s.redK f x k then [s.cf (6+k) n x.og og0] else []
def rn (k:Nat) (n:Nm):List Cf:=(under s.cs n).flatMap (s.rx k n)
def rk (k:Nat):List Cf:=s.skeys.flatMap (s.rn k)
theorem redeclared_eq:s.redeclared=[0,1,2].flatMap s.rk:=by
 unfold redeclared
 refine dD fun k _=>dD fun n _=>?_
 unfold rn rx
 cases feat s.c n with
 | none=>simp
 | some f=>rfl
theorem keys_few {s:Sk} (hB:SkB s):(keys s.cs).length≤240:=Nat.le_trans (A7 s.cs) (hB.fits.few (.inl hB.cls))
theorem skeys_len (s:Sk):s.skeys.length=(keys s.cs).length:=Nat.le_antisymm
 (aP (iC _).1.nodup fun x hx=>((iC _).2 x).1 hx) (aP (gW _) fun x hx=>((iC _).2 x).2 hx)
end
end Sk
def kcap (b:Nat) (k:Nat):Array Value:=if k=1 then #[.pointer (some ⟨b,0,none⟩)] else #[]
def kfun (b k:Nat):Value:=.func (.func (209+k)) #[] (kcap b k)
theorem kfun_at {b k:Nat} (h:k<3):([Value.func (.func 209) #[] #[],.func (.func 210) #[] #[.pointer (some ⟨b,0,none⟩)],.func (.func 211) #[] #[]]:List Value)[k]? = some (kfun b k):=by
 match k,h with
 | 0,_=>rfl
 | 1,_=>rfl
 | 2,_=>rfl
theorem en209k {k:Nat} (h:k<3):Ck.Enters prog (209+k):=by
 match k,h with
 | 0,_=>exact en209
 | 1,_=>exact en210
 | 2,_=>exact en211
attribute [local irreducible] Go.Ck.Sub St Cd Xt Nx DrL LsW
section
variable {X Y:Res} {v v':Value} {us us':List Value}
theorem redK_ct {S:Sk} {f:Fe} {x:Cm} {p:Pt} {b2 k:Nat} {pv:Value} (hk:k<3) (h:Enc.rep X us f) (h':Enc.rep X us' x) (hrd:Rd X ⟨b2,5,none⟩ pv) (hpv:Ls X pv S.c.pars) (hp:S.c.pars[x.par]? = some p) (hl:p.red.length≤1099511627776) :
  Reads prog (209+k) (#[]++([.agg us.toArray,.agg us'.toArray]:List Value).toArray++kcap b2 k) [X] (.bool (S.redK f x k)):=by
 have hpx:dC S.c x.par=p:=by unfold dC; rw [hp]; rfl
 match k,hk with
 | 0,_=>exact reads_nil (IK h h')
 | 1,_ =>
  have:=IR h h' hrd hpv hp hl
  unfold Sk.redK
  rw [hpx]
  exact this
 | 2,_=>exact IL h h'

theorem Bw {yl mb bm : Nat} {Φ : List Cf → Res → Prop} {Stop : Cf → Res → Prop} (hy : Yh yl Φ Stop) {S : Sk} {all : Bool} (hall : S.all = all) {m bmp : List (Nm × Value)} {ca cb ce cf ci mv : Value} (hK : SkR X S v m ca cb ce cf ci mv bmp) (hB : SkB S) (hk0 : bmp.map (fun p => p.1) = keys S.cs) (R : List Cf) (r0 : Res) (h0 : Φ (S.redeclared ++ R) r0) :
  CtX prog 129 #[.agg (eU v (.map (some mb)) S.c ca cb ce cf ci mv (.map (some bm)) all).toArray,.func (.yield yl) #[] #[]] X [mps mb m,mps bm bmp,r0] fun u Y k'=>∃ r,k'=[mps mb m,mps bm bmp,r]∧Yend Φ Stop R u r:=by
 have hml:maxLen=9223372036854775807:=rfl
 obtain ⟨cb,ck,rfl,hckl,hckm,_⟩:=id hK.par.form
 obtain ⟨cf,cfk,rfl,_⟩:=id hK.feat.form
 obtain ⟨mA,mK,rfl,_⟩:=id hK.ms.form
 have hcn:=fun b=>fM (fv:=.map (some mb)) (c:=S.c) (v:=v) (ca:=ca) (cb:=.slice cb S.c.pars.length ck) (ce:=ce) (cf:=.slice cf S.c.feats.length cfk) (ci:=ci) (mv:=.slice mA S.ms.length mK) (bv:=.map (some bm)) (all:=all) b
 have hfew:=Sk.keys_few hB
 have hsl:=Sk.skeys_len S
 have hbl:bmp.length=(keys S.cs).length:=by rw [← hk0,List.length_map]
 have hnd:(bmp.map fun p=>p.1).Nodup:=by rw [hk0]; exact gW _
 have hsk:srt (bmp.map fun p=>p.1)=S.skeys:=by rw [hk0]; rfl
 rw [Sk.redeclared_eq] at h0
 unfold CtX
 unfold eU at *
 refine aL (n:=72) func129 Z Z (len Z) fun hr w0=>?_
 refine cQ (aV Z Z fun b2=>?_)
 refine sV (vA9 Z) (sN (nK9 [1,2,4] Z (nT (cQ (sV (bY Z Z) (ak (cells:=[.func (.func 209) #[] #[],.func (.func 210) #[] #[.pointer (some ⟨b2,0,none⟩)],.func (.func 211) #[] #[]]) Z underlying282 inf281 Z Z (by kernel_rfl) (ltn Z) fun b15=>?_))))))
 refine sV (vA9 Z) (sN (nK9 [1,2,4,5] Z (nT (cS (cQ (sM Z (sV (aF Z underlying282) (sM Z (sN (nK9 [1,2,4,16,17,18] Z (nT (cB (aZ (σ := Res×Nat) (fun q=>[(1,.func (.yield yl) #[] #[]),(2,.pointer (some ⟨b2,0,none⟩)),(16,.slice (some ⟨b15,0,none⟩) 3 3),(17,.int .i64 ((3:Nat):Int)),(18,.int .i64 (q.2:Nat))]) (fun q=>pt b15 (cl [.func (.func 209) #[] #[],.func (.func 210) #[] #[.pointer (some ⟨b2,0,none⟩)],.func (.func 211) #[] #[]] 281)::pt b2 (cl [v,.map (some mb),sv S.c.name,.bool S.c.dfd,ca,.slice cb S.c.pars.length ck,ce,.slice cf S.c.feats.length cfk,ci,.slice mA S.ms.length mK,.map (some bm),.bool all] 206)::X::mps mb m::mps bm bmp::q.1::hr) (fun q=>q.2≤3 ∧ Φ (([0,1,2].drop q.2).flatMap S.rk++R) q.1) (fun q=>3 - q.2) (r0,0) ⟨Nat.zero_le _,h0⟩ ?_)))))))))))))
 rintro ⟨r,k⟩ ⟨hk,hΦ⟩
 simp only at hk hΦ
 dsimp only
 refine cQ (sV (aO Z Z) (sN (nT (cS (cC Z (fun hd=>?_) (fun hd=>?_))))))
 ·have hlt:k<3:=by have:=of_decide_eq_true hd; omega
  rw [dX (xs:=[0,1,2]) hlt,List.append_assoc] at hΦ
  have hk3:([0,1,2]:List Nat)[k]=k:=by
   match k,hlt with
   | 0,_=>rfl
   | 1,_=>rfl
   | 2,_=>rfl
  rw [hk3] at hΦ
  generalize hA:([0,1,2].drop (k+1)).flatMap S.rk++R=A at hΦ
  have hΦ : Φ (S.skeys.flatMap (S.rn k)++A) r:=hΦ
  have hsk':=kfun_at (b:=b2) hlt
  refine cK9 (xT (cS (cB (cQ (sM Z (sV (vI (k:=k) Z Z sl282 Z hlt Z) (sV (vY Z ld281 (ha:=⟨_,_,slq,bU (by simpa using hsk')⟩)) ?_)))))))
  refine sV (vA9 Z) (sV (vA9 Z) (sN (nK9 [1,2,6,7,16,17,18] Z (nT (cQ (sV (vF Z oK Z) (sV (vY Z qC) ?_)))))))
  refine aH Z Z en213 Z (tQ) ?_
  rintro u h' ⟨b1,rfl,rfl⟩
  simp only [lC,lN]
  refine aH Z Z en212 Z (o7 (by omega) hnd) ?_
  rintro u h' ⟨hu,rfl⟩
  simp only [lC,lN]
  rw [hsk]
  unfold NR
  refine jk (v:=u) (E:=9) (sz:=1) (rows:=S.skeys.map nC) slq fun wa wc hwf hwl hwm=>?_
  rw [List.length_map] at hwf hwl
  subst hwf
  unfold kfun
  refine sV (aF Z underlying40) (sM Z (sN (nK9 [1,2,6,7,16,17,18,26,27,28] Z (nT (cB (aZ (σ := Res×Nat) (fun q=>[(1,.func (.yield yl) #[] #[]),(2,.pointer (some ⟨b2,0,none⟩)),(16,.slice (some ⟨b15,0,none⟩) 3 3),(17,.int .i64 ((3:Nat):Int)),(18,.int .i64 (k:Nat)),(6,.int .i64 (k:Nat)),(7,.func (.func (209+k)) #[] (kcap b2 k)),(26,.slice wa S.skeys.length wc),(27,.int .i64 S.skeys.length),(28,.int .i64 (q.2:Nat))]) (fun q=>VR (.slice wa S.skeys.length wc) 9 1 (S.skeys.map nC)::pt b15 (cl [.func (.func 209) #[] #[],.func (.func 210) #[] #[.pointer (some ⟨b2,0,none⟩)],.func (.func 211) #[] #[]] 281)::pt b2 (cl [v,.map (some mb),sv S.c.name,.bool S.c.dfd,ca,.slice cb S.c.pars.length ck,ce,.slice cf S.c.feats.length cfk,ci,.slice mA S.ms.length mK,.map (some bm),.bool all] 206)::X::mps mb m::mps bm bmp::q.1::hr) (fun q=>q.2≤S.skeys.length ∧ Φ ((S.skeys.drop q.2).flatMap (S.rn k)++A) q.1) (fun q=>S.skeys.length - q.2) (r,0) ⟨Nat.zero_le _,hΦ⟩ ?_))))))
  clear hΦ
  rintro ⟨r,j⟩ ⟨hj,hΦ⟩
  simp only at hj hΦ
  dsimp only
  refine cQ (sV (aO Z Z) (sN (nT (cS (cC Z (fun hd2=>?_) (fun hd2=>?_))))))
  ·have hltj:j<S.skeys.length:=by simpa using hd2
   rw [dX hltj,List.append_assoc] at hΦ
   have hnx:(S.skeys.map nC)[j]? = some [sv S.skeys[j]]:=by rw [List.getElem?_map,List.getElem?_eq_getElem hltj]; rfl
   refine fI (r:=VR (.slice wa S.skeys.length wc) 9 1 (S.skeys.map nC)) slq fun hok=>?_
   obtain ⟨ab,ao,rfl⟩:∃ ab ao,wa=some ⟨ab,ao,none⟩:=by
    obtain ⟨f0,hf0⟩:=hok
    rcases VR.form hf0 with ⟨h3,h4⟩ | ⟨b,o,cp,h3,-⟩
    ·have:=List.map_eq_nil_iff.1 h4
     rw [this] at hltj; simp at hltj
    ·rw [List.length_map] at h3; cases h3; exact ⟨b,o,rfl⟩
   generalize S.skeys[j]=n at hΦ hnx
   generalize hA2:(S.skeys.drop (j+1)).flatMap (S.rn k)++A=A2 at hΦ
   have hΦ : Φ ((under S.cs n).flatMap (S.rx k n)++A2) r:=hΦ
   have hul:=hB.under n
   have hun:=hK.by' n
   have hpar:∀ x∈under S.cs n,∃ p,S.c.pars[x.par]? = some p∧p.red.length≤1099511627776:=fun x hx=>by
    obtain ⟨p,hp,-⟩:=iZ (List.mem_filter.1 hx).1
    exact ⟨p,hp,by have:=(hB.lists (List.mem_of_getElem? hp)).2.2.1; omega⟩
   obtain ⟨la,lc,hlv,hlc,-,-⟩:=id hun.form
   refine cK9 (xT (cS (cB (cQ (sV (vI (k:=j) Z Z jh Z hltj Z) (sV (vY Z ld9 (ha:=⟨_,_,slq,eQ hnx 0 (by simp)⟩)) ?_))))))
   refine sV (vA9 Z) (sN (nK9 [1,2,6,7,9,16,17,18,26,27,28] Z (nT (cQ (sV (vF Z gM Z) (sV (vF Z ko Z) (sV (vY Z yS) ?_)))))))
   refine sM Z (aH Z Z yx Z (iP (n:=n) hK.feat) ?_)
   rintro u h' ⟨rfl,gus,rfl,hgr⟩
   simp only [lC,lN]
   have hg15:gus.length=15:=Enc.len hgr
   have hgo:=Enc.ones hgr
   refine sM Z (sV (ah Z Z) (sV (ah Z Z) (au lm fun b10=>?_)))
   refine ai (hl:=by rw [hg15]; rfl) Z Z jP hg15 hgo ?_
   have hmf:(S.c.feats.find? fun c=>c.name == n)=feat S.c n:=rfl
   rw [hmf]
   rw [hmf] at hgr
   refine sV (vA9 Z) (sN (nK9 [1,2,6,7,9,10,11,16,17,18,26,27,28] Z (nT (cQ (sV (vF Z oK Z) (sV (vY Z qC) ?_))))))
   refine sM Z ?_
   rw [hlv] at hun
   refine sV (gB hlv (bI Z Z rV sD slq)) ?_
   refine sV (aF Z underlying187) (sM Z (sN (nK9 [1,2,6,7,9,10,11,16,17,18,26,27,28,43,44,45] Z (nT (cB (aZ (σ := Res×Nat) (fun q=>[(1,.func (.yield yl) #[] #[]),(2,.pointer (some ⟨b2,0,none⟩)),(16,.slice (some ⟨b15,0,none⟩) 3 3),(17,.int .i64 ((3:Nat):Int)),(18,.int .i64 (k:Nat)),(6,.int .i64 (k:Nat)),(7,.func (.func (209+k)) #[] (kcap b2 k)),(26,.slice (some ⟨ab,ao,none⟩) S.skeys.length wc),(27,.int .i64 S.skeys.length),(28,.int .i64 (j:Nat)),(9,sv n),(10,.pointer (some ⟨b10,0,none⟩)),(11,.bool (feat S.c n).isSome),(43,.slice la (under S.cs n).length lc),(44,.int .i64 (under S.cs n).length),(45,.int .i64 (q.2:Nat))]) (fun q=>pt b10 (cl gus 130)::VR (.slice (some ⟨ab,ao,none⟩) S.skeys.length wc) 9 1 (S.skeys.map nC)::pt b15 (cl [.func (.func 209) #[] #[],.func (.func 210) #[] #[.pointer (some ⟨b2,0,none⟩)],.func (.func 211) #[] #[]] 281)::pt b2 (cl [v,.map (some mb),sv S.c.name,.bool S.c.dfd,ca,.slice cb S.c.pars.length ck,ce,.slice cf S.c.feats.length cfk,ci,.slice mA S.ms.length mK,.map (some bm),.bool all] 206)::X::mps mb m::mps bm bmp::q.1::hr) (fun q=>q.2≤(under S.cs n).length ∧ Φ (((under S.cs n).drop q.2).flatMap (S.rx k n)++A2) q.1) (fun q=>(under S.cs n).length - q.2) (r,0) ⟨Nat.zero_le _,hΦ⟩ ?_))))))
   clear hΦ
   generalize hL:under S.cs n=L at hun hpar hul
   rintro ⟨r,i⟩ ⟨hi,hΦ⟩
   simp only at hi hΦ
   dsimp only
   refine cQ (sV (aO Z Z) (sN (nT (cS (cC Z (fun hd3=>?_) (fun hd3=>?_))))))
   ·have hlti:i<L.length:=by simpa using hd3
    rw [dX hlti,List.append_assoc] at hΦ
    have hpx:=hpar _ (List.getElem_mem hlti)
    obtain ⟨cb',co,ccap,cus,e4,hcus,hcrd,hcr⟩:=hun.at (List.getElem?_eq_getElem hlti)
    obtain ⟨rfl,rfl⟩:la=some ⟨cb',co,none⟩∧lc=ccap:=by cases e4; exact ⟨rfl,rfl⟩
    generalize L[i]=y at hΦ hcr hpx
    obtain ⟨p,hpp,hprl⟩:=hpx
    have hcr0:=hcr
    have hyo:=Enc.ones hcr
    obtain ⟨y2,y5,yy,y11,y12,y13,rfl,-⟩:=gX hcr
    have hogy:=fun b=>mW (b:=b) (x:=y) (x2:=y2) (x5:=y5) (y:=yy) (x11:=y11) (x12:=y12) (x13:=y13)
    unfold nX at *
    refine cK9 (xT (cS (cB (cQ (sV (vI (k:=i) Z Z lg Z hlti Z) (sV (ag Z gU Z hcrd) ?_))))))
    refine au qF fun b13=>?_
    refine ai Z Z l9 Z hyo ?_
    refine sN (nK9 [1,2,6,7,9,10,11,13,16,17,18,26,27,28,43,44,45] Z (nT (cQ (sM Z (sM Z ?_)))))
    cases hq:feat S.c n
    ·have hrx:S.rx k n y=[]:=by unfold Sk.rx; rw [hq]
     rw [hrx,List.nil_append] at hΦ
     iterate 4 refine aC rfl rfl rfl ?_
     refine sV (vP Z Z) (sM Z (aC Z Z Z ?_))
     iterate 10 refine aC rfl rfl rfl ?_
     refine sV (vP Z Z) (sN (nK9 [1,2,6,7,9,10,11,16,17,18,26,27,28,43,44,45,68] Z (nT (aG Z ?_))))
     refine cK9 (xB (xT (cR (sV (aI Z Z (by unfold I64 at *; omega)) (sM Z (sN (nK9 [1,2,6,7,9,10,11,16,17,18,26,27,28,43,44,45] Z (ax ?_))))))))
     refine aJ (r,i+1) ⟨hlti,hΦ⟩ (by dsimp only; omega)
    ·rename_i f
     have hrx:S.rx k n y=if S.redK f y k then [S.cf (6+k) n y.og og0] else []:=by unfold Sk.rx; rw [hq]
     rw [hrx] at hΦ
     have hgr:Enc.rep X gus f:=by rw [hq] at hgr; exact hgr
     have hrk:=redK_ct (b2:=b2) hlt (Enc.up (bH (.there .here)) hgr) (Enc.up (bH (.there .here)) hcr0) (X:=Res.star [pt b2 (cl [v,.map (some mb),sv S.c.name,.bool S.c.dfd,ca,.slice cb S.c.pars.length ck,ce,.slice cf S.c.feats.length cfk,ci,.slice mA S.ms.length mK,.map (some bm),.bool all] 206),X]) (bH .here _ _ (bU rfl)) (hK.par.up' (bH (.there .here))) hpp hprl
     have hrk:=eP hrk
     unfold nX at hrk
     refine sG Z Z (vM Z) (sG Z Z (ag Z nH hg15 af) ?_)
     refine sG Z Z (ag Z gU Z af) ?_
     refine bR Z Z Z Z (en209k hlt) Z (hrk) ?_
     refine sV (vQ Z Z) (sM Z ?_)
     generalize S.redK f y k=bq at hΦ
     cases bq
     ·have hΦ : Φ ((L.drop (i+1)).flatMap (S.rx k n)++A2) r:=hΦ
      iterate 11 refine aC rfl rfl rfl ?_
      refine sV (vP Z Z) (sN (nK9 [1,2,6,7,9,10,11,16,17,18,26,27,28,43,44,45,68] Z (nT (aG Z ?_))))
      refine cK9 (xB (xT (cR (sV (aI Z Z (by unfold I64 at *; omega)) (sM Z (sN (nK9 [1,2,6,7,9,10,11,16,17,18,26,27,28,43,44,45] Z (ax ?_))))))))
      refine aJ (r,i+1) ⟨hlti,hΦ⟩ (by dsimp only; omega)
     ·have hΦ2 : Φ (S.cf (6+k) n y.og og0::((L.drop (i+1)).flatMap (S.rx k n)++A2)) r:=hΦ
      refine sG Z Z (vM Z) (sG Z Z (ag Z fC Z af) ?_)
      refine sG Z Z (vM Z) (sG Z Z (aI Z Z (by unfold I64 at *; omega)) (sG Z Z (vM Z) (sG Z Z (vF Z ji Z) (sG Z Z (ag Z pY Z (hogy b13) (s:=.here)) ?_))))
      refine sG Z Z (aN (cells:=[sv [],sv []]) Z (fun _=>by kernel_rfl)) ?_
      refine bR Z Z Z Z jR Z (hcn (6+(k:Nat)) n y.og og0) ?_
      refine j4 (gd:=56) (.inr ⟨_,_,Z,Z,Z⟩) Z Z (hy _ _ _ hΦ2) ?_
      rintro u h' (⟨rfl,r',hΦ4,rfl⟩ | ⟨rfl,r',hst,rfl⟩)
      ·simp only [lC,lN]
       refine sG Z Z (bi Z) (sV (vQ Z Z) (sN (nK9 [1,2,6,7,9,10,11,16,17,18,26,27,28,43,44,45,68] Z (nT (aG Z ?_)))))
       refine cK9 (xB (xT (cR (sV (aI Z Z (by unfold I64 at *; omega)) (sM Z (sN (nK9 [1,2,6,7,9,10,11,16,17,18,26,27,28,43,44,45] Z (ax ?_))))))))
       refine aJ (r',i+1) ⟨hlti,hΦ4⟩ (by dsimp only; omega)
      ·simp only [lC,lN]
       refine sG Z Z (bi Z) (sV (vQ Z Z) (sN (nK9 [1,2,6,7,9,10,11,16,17,18,26,27,28,43,44,45,68] Z (nT (aT Z ?_)))))
       refine cQ (sV (vA9 Z) (sN (nK9 [4] Z (nT (cT (xW (xR (xR (xW (xW (xR (xR (xW (xW ?_))))))))))))))
       refine xR (xR (xW (xR ?_)))
       exact aj Z ⟨X,[mps mb m,mps bm bmp,r'],Z,Ext.refl X,r',Z,.inr ⟨Z,_,hst⟩⟩ sbq
   ·have hend:i=L.length:=Nat.le_antisymm hi (Nat.not_lt.1 (by simpa using hd3))
    subst hend
    rw [dF,List.nil_append] at hΦ
    refine aB (xE (xE (xY (xB (xT (cR (sV (aI Z Z (by unfold I64 at *; omega)) (sM Z (sN (nK9 [1,2,6,7,16,17,18,26,27,28] Z (ax ?_)))))))))))
    refine aJ (r,j+1) ⟨hltj,by rw [hA2]; exact hΦ⟩ (by dsimp only; omega)
  ·have hend:j=S.skeys.length:=Nat.le_antisymm hj (Nat.not_lt.1 (by simpa using hd2))
   subst hend
   rw [dF,List.nil_append] at hΦ
   refine aB (xE (xE (xY (xB (xT (cR (sV (aI Z Z (by unfold I64 at *; omega)) (sM Z (sN (nK9 [1,2,16,17,18] Z (ax ?_)))))))))))
   refine aJ (r,k+1) ⟨hlt,by rw [hA]; exact hΦ⟩ (by dsimp only; omega)
 ·have hend:k=3:=by have:=of_decide_eq_false hd; omega
  subst hend
  have hΦ : Φ R r:=hΦ
  refine aB (xE (xE (xY (xT (cQ (sV (vA9 Z) (sN (nK9 [4] Z (nT (cT ?_))))))))))
  exact aj Z ⟨X,[mps mb m,mps bm bmp,r],Z,Ext.refl X,r,Z,.inl ⟨Z,hΦ⟩⟩ sbq
end
end Go.Fl
namespace Go.Ck
open Go Go.RowKit
theorem v_bneq {P:Program} {e:Env} {h:SH} {ty t t':TypeId} {x y:Operand} {a b:Bool} (hT:P.underlying t=some .bool) (hx:e.ev? x=some (.bool a)) (hy:e.ev? y=some (.bool b)):Vop P e h (.binOp .neq t x y t') ty (.bool (a != b)):=
 ⟨by simp,by simp,fun ρ w d pos after g hρ _=>by simp [execOp,hρ x _ hx,hρ y _ hy,eqGuard,binOp,bne,run_equal_bool w t a b hT]⟩
end Go.Ck
namespace Go.Fl
open Go Go.RowKit Go.Ck Go.Proofs Go.Proofs.Tryz Go.Proofs.YtknmacdbffgjgaaGreatDoor Fx Go.Hr
namespace Sk
section
variable (s:Sk)
def t1x (n:Nm) (x:Cm):List Cf:=match feat s.c n with
 | none=>let y:=((under s.cs n).head?).getD x
  if sameTy y.mem x.mem then [] else [s.cf 9 n y.og x.og]
 | some f=>if decide (f.args=x.mem.args) && ((f.ty.kind == 0) == (x.mem.ty.kind == 0)) then [] else [s.cf 9 n ⟨[],n⟩ x.og]
def t1 (n:Nm):List Cf:=(under s.cs n).flatMap (s.t1x n)
def t2 (n:Nm):List Cf:=if (feat s.c n).isSome then [] else s.cpairs (under s.cs n) 10 fun a b=>(!a.dfd && !b.dfd) && !same a.mem b.mem
theorem typed_eq:s.typed=s.skeys.flatMap s.t1++s.skeys.flatMap s.t2:=rfl
end
end Sk
attribute [local irreducible] Go.Ck.Sub St Cd Xt Nx DrL LsW
section
variable {X Y:Res} {v v':Value} {us us':List Value}

theorem Od {yl mb bm : Nat} {Φ : List Cf → Res → Prop} {Stop : Cf → Res → Prop} (hy : Yh yl Φ Stop) {S : Sk} {all : Bool} (hall : S.all = all) {m bmp : List (Nm × Value)} {ca cb ce cf ci mv : Value} (hK : SkR X S v m ca cb ce cf ci mv bmp) (hB : SkB S) (hk0 : bmp.map (fun p => p.1) = keys S.cs) (R : List Cf) (r0 : Res) (h0 : Φ (S.typed ++ R) r0) :
  CtX prog 130 #[.agg (eU v (.map (some mb)) S.c ca cb ce cf ci mv (.map (some bm)) all).toArray,.func (.yield yl) #[] #[]] X [mps mb m,mps bm bmp,r0] fun u Y k'=>∃ r,k'=[mps mb m,mps bm bmp,r]∧Yend Φ Stop R u r:=by
 have hml:maxLen=9223372036854775807:=rfl
 obtain ⟨cb,ck,rfl,hckl,hckm,_⟩:=id hK.par.form
 obtain ⟨cf,cfk,rfl,_⟩:=id hK.feat.form
 obtain ⟨mA,mK,rfl,_⟩:=id hK.ms.form
 have hcn:=fun b=>fM (fv:=.map (some mb)) (c:=S.c) (v:=v) (ca:=ca) (cb:=.slice cb S.c.pars.length ck) (ce:=ce) (cf:=.slice cf S.c.feats.length cfk) (ci:=ci) (mv:=.slice mA S.ms.length mK) (bv:=.map (some bm)) (all:=all) b
 have hfew:=Sk.keys_few hB
 have hsl:=Sk.skeys_len S
 have hbl:bmp.length=(keys S.cs).length:=by rw [← hk0,List.length_map]
 have hnd:(bmp.map fun p=>p.1).Nodup:=by rw [hk0]; exact gW _
 have hsk:srt (bmp.map fun p=>p.1)=S.skeys:=by rw [hk0]; rfl
 rw [Sk.typed_eq,List.append_assoc] at h0
 generalize hT:S.skeys.flatMap S.t2++R=T at h0
 unfold CtX
 unfold eU at *
 refine aL (n:=120) func130 Z Z (len Z) fun hr w0=>?_
 refine cQ (aV Z Z fun b2=>?_)
 refine sV (vA9 Z) (sN (nK9 [1,2,4] Z (nT (cS (cQ (sV (vF Z oK Z) (sV (vY Z qC) ?_)))))))
 refine aH Z Z en213 Z (tQ) ?_
 rintro u h' ⟨b1,rfl,rfl⟩
 simp only [lC,lN]
 refine aH Z Z en212 Z (o7 (by omega) hnd) ?_
 rintro u h' ⟨hu,rfl⟩
 simp only [lC,lN]
 rw [hsk]
 unfold NR
 refine jk (v:=u) (E:=9) (sz:=1) (rows:=S.skeys.map nC) slq fun wa wc hwf hwl hwm=>?_
 rw [List.length_map] at hwf hwl
 subst hwf
 refine sV (aF Z underlying40) (sM Z (sN (nK9 [1,2,4,21,22,23] Z (nT (cB (aZ (σ := Res×Nat) (fun q=>[(1,.func (.yield yl) #[] #[]),(2,.pointer (some ⟨b2,0,none⟩)),(21,.slice wa S.skeys.length wc),(22,.int .i64 S.skeys.length),(23,.int .i64 (q.2:Nat))]) (fun q=>VR (.slice wa S.skeys.length wc) 9 1 (S.skeys.map nC)::pt b2 (cl [v,.map (some mb),sv S.c.name,.bool S.c.dfd,ca,.slice cb S.c.pars.length ck,ce,.slice cf S.c.feats.length cfk,ci,.slice mA S.ms.length mK,.map (some bm),.bool all] 206)::X::mps mb m::mps bm bmp::q.1::hr) (fun q=>q.2≤S.skeys.length ∧ Φ ((S.skeys.drop q.2).flatMap (S.t1)++T) q.1) (fun q=>S.skeys.length - q.2) (r0,0) ⟨Nat.zero_le _,h0⟩ ?_))))))
 rintro ⟨r,j⟩ ⟨hj,hΦ⟩
 simp only at hj hΦ
 dsimp only
 refine cQ (sV (aO Z Z) (sN (nT (cS (cC Z (fun hd2=>?_) (fun hd2=>?_))))))
 ·have hltj:j<S.skeys.length:=by simpa using hd2
  rw [dX hltj,List.append_assoc] at hΦ
  have hnx:(S.skeys.map nC)[j]? = some [sv S.skeys[j]]:=by rw [List.getElem?_map,List.getElem?_eq_getElem hltj]; rfl
  refine fI (r:=VR (.slice wa S.skeys.length wc) 9 1 (S.skeys.map nC)) slq fun hok=>?_
  obtain ⟨ab,ao,rfl⟩:∃ ab ao,wa=some ⟨ab,ao,none⟩:=by
   obtain ⟨f0,hf0⟩:=hok
   rcases VR.form hf0 with ⟨h3,h4⟩ | ⟨b,o,cp,h3,-⟩
   ·have:=List.map_eq_nil_iff.1 h4
    rw [this] at hltj; simp at hltj
   ·rw [List.length_map] at h3; cases h3; exact ⟨b,o,rfl⟩
  generalize S.skeys[j]=n at hΦ hnx
  generalize hA2:(S.skeys.drop (j+1)).flatMap (S.t1)++T=A2 at hΦ
  have hul:=hB.under n
  have hun:=hK.by' n
  obtain ⟨la,lc,hlv,hlc,-,-⟩:=id hun.form
  rw [hlv] at hun
  have hΦ : Φ ((under S.cs n).flatMap (S.t1x n)++A2) r:=hΦ
  refine cK9 (xT (cS (cB (cQ (sV (vI (k:=j) Z Z jh Z hltj Z) (sV (vY Z ld9 (ha:=⟨_,_,slq,eQ hnx 0 (by simp)⟩)) ?_))))))
  refine sV (vA9 Z) (sN (nK9 [1,2,6,21,22,23] Z (nT (cQ (sV (vF Z oK Z) (sV (vY Z qC) ?_))))))
  refine sM Z (sV (gB hlv (bI Z Z rV sD slq)) ?_)
  refine sV (vA9 Z) (sN (nK9 [1,2,6,7,21,22,23] Z (nT (cQ (sV (vF Z gM Z) (sV (vF Z ko Z) (sV (vY Z yS) ?_)))))))
  refine sM Z (aH Z Z yx Z (iP (n:=n) hK.feat) ?_)
  rintro u h' ⟨rfl,gus,rfl,hgr⟩
  simp only [lC,lN]
  have hg15:gus.length=15:=Enc.len hgr
  have hgo:=Enc.ones hgr
  have hmf:(S.c.feats.find? fun c=>c.name == n)=feat S.c n:=rfl
  rw [hmf]
  rw [hmf] at hgr
  generalize hf0:(feat S.c n).getD fe0=f0 at hgr
  obtain ⟨g2,g3,gy,g9,g10,g11,g12,g13,g14,rfl,hg2,hg3,-⟩:=mV hgr
  obtain ⟨ga3,gk3,rfl,_⟩:=id hg3.form
  unfold AV at *
  refine sM Z (sV (ah Z Z) (sV (ah Z Z) (au lm fun b8=>?_)))
  refine ai Z Z jP Z hgo ?_
  refine sV (vA9 Z) (sN (nK9 [1,2,6,7,8,9,21,22,23] Z (nT (cQ (sM Z (sV (aF Z underlying187) (sM Z (sN (nT (cB (aZ (σ := Res×Nat) (fun q=>[(1,.func (.yield yl) #[] #[]),(2,.pointer (some ⟨b2,0,none⟩)),(21,.slice (some ⟨ab,ao,none⟩) S.skeys.length wc),(22,.int .i64 S.skeys.length),(23,.int .i64 (j:Nat)),(6,sv n),(7,.slice la (under S.cs n).length lc),(8,.pointer (some ⟨b8,0,none⟩)),(9,.bool (feat S.c n).isSome),(39,.slice la (under S.cs n).length lc),(40,.int .i64 (under S.cs n).length),(41,.int .i64 (q.2:Nat))]) (fun q=>pt b8 (cl [.int .i64 f0.kind,sv f0.name,g2,.slice ga3 f0.args.length gk3,.int .i64 f0.ty.kind,sv f0.ty.name,gy,.bool f0.ty.void,.bool f0.ty.sep,g9,g10,g11,g12,g13,g14] 130)::VR (.slice (some ⟨ab,ao,none⟩) S.skeys.length wc) 9 1 (S.skeys.map nC)::pt b2 (cl [v,.map (some mb),sv S.c.name,.bool S.c.dfd,ca,.slice cb S.c.pars.length ck,ce,.slice cf S.c.feats.length cfk,ci,.slice mA S.ms.length mK,.map (some bm),.bool all] 206)::X::mps mb m::mps bm bmp::q.1::hr) (fun q=>q.2≤(under S.cs n).length ∧ Φ (((under S.cs n).drop q.2).flatMap (S.t1x n)++A2) q.1) (fun q=>(under S.cs n).length - q.2) (r,0) ⟨Nat.zero_le _,hΦ⟩ ?_)))))))))))
  clear hΦ
  have ht1:∀ x,S.t1x n x=match feat S.c n with
    | none=>if Sk.sameTy (((under S.cs n).head?).getD x).mem x.mem then [] else [S.cf 9 n (((under S.cs n).head?).getD x).og x.og]
    | some f=>if decide (f.args=x.mem.args) && ((f.ty.kind == 0) == (x.mem.ty.kind == 0)) then [] else [S.cf 9 n ⟨[],n⟩ x.og]:=fun x=>rfl
  generalize hL:under S.cs n=L at hun hul ht1
  rintro ⟨r,i⟩ ⟨hi,hΦ⟩
  simp only at hi hΦ
  dsimp only
  refine cQ (sV (aO Z Z) (sN (nT (cS (cC Z (fun hd3=>?_) (fun hd3=>?_))))))
  ·have hlti:i<L.length:=by simpa using hd3
   rw [dX hlti,List.append_assoc] at hΦ
   have h00:0<L.length:=by omega
   obtain ⟨cb',co,ccap,cus,e4,hcus,hcrd,hcr⟩:=hun.at (List.getElem?_eq_getElem hlti)
   obtain ⟨rfl,rfl⟩:la=some ⟨cb',co,none⟩∧lc=ccap:=by cases e4; exact ⟨rfl,rfl⟩
   obtain ⟨db',dO,dcap,dus,e5,hdus,hdrd,hdr⟩:=hun.at (List.getElem?_eq_getElem h00)
   obtain ⟨rfl,rfl⟩:cb'=db'∧co=dO:=by cases e5; exact ⟨rfl,rfl⟩
   have hhead:∀ x,(L.head?).getD x=L[0]:=fun x=>by
    cases L with
    | nil=>simp at h00
    | cons a t=>rfl
   simp only [hhead] at ht1
   generalize L[0]=z at ht1 hdr
   generalize L[i]=y at hΦ hcr
   rw [ht1 y] at hΦ
   have hyo:=Enc.ones hcr
   obtain ⟨y2,y5,yy,y11,y12,y13,rfl,hym⟩:=gX hcr
   obtain ⟨z2,z5,zy,z11,z12,z13,rfl,hzm⟩:=gX hdr
   have hst:=xq (pU hzm) (pU hym)
   have hogz:Rds X cb' (co+0 * 18+0) [sv z.og.par,sv z.og.name]:=bF (k:=0) hdrd rfl
   have hmz:Rds X cb' (co+0 * 18+3) (ik z.mem z2 z5 zy z11 z12 z13):=bF (k:=3) hdrd rfl
   have hmy:=fun b=>II (b:=b) (x:=y) (x2:=y2) (x5:=y5) (y:=yy) (x11:=y11) (x12:=y12) (x13:=y13)
   have hogy:=fun b=>mW (b:=b) (x:=y) (x2:=y2) (x5:=y5) (y:=yy) (x11:=y11) (x12:=y12) (x13:=y13)
   obtain ⟨hy2,hy5,-⟩:=id hym
   obtain ⟨ya5,yk5,rfl,_⟩:=id hy5.form
   unfold nX ik at *
   refine cK9 (xT (cS (cB (cQ (sV (vI (k:=i) Z Z lg Z hlti Z) (sV (ag Z gU Z hcrd) ?_))))))
   refine au qF fun b11=>?_
   refine ai Z Z l9 Z hyo ?_
   refine sN (nK9 [1,2,6,7,8,9,11,21,22,23,39,40,41] Z (nT (cS (bB (ork [(0,2),(1,2),(2,2),(3,1),(4,2),(5,2),(6,2),(7,1),(8,2),(9,1),(10,1),(11,2),(12,0),(13,0),(14,2)] .nil) (fun i => !(Nat.beq i 13)) mixed (by kernel_rfl) ?_))))
   refine dV Z (vM Z) (dV Z (vI (k:=0) Z Z lg Z h00 Z) (dV Z (vF Z ji Z) (bu Z (ag Z pY Z hogz) ?_)))
   refine dV Z (vM Z) (dV Z (vI (k:=0) Z Z lg Z h00 Z) (dV Z (vF Z dN Z) (bu Z (ag Z fB Z hmz) ?_)))
   refine dV Z (vF Z dN Z) (bu Z (ag Z fB Z (hmy b11)) ?_)
   refine kZ Z Z Z JQ Z (hst) ?_
   refine dV Z (bi Z) (aQ Z (au al24 fun b12=>aW ?_))
   refine aQ Z (ai Z Z sz24 Z Z (aW ?_))
   refine dV Z (vA9 Z) (bA (nK9 [1,2,6,7,8,9,11,12,13,21,22,23,39,40,41] Z (nT (cS (cQ (sM Z (sN (nT ?_))))))))
   cases hq:feat S.c n
   ·simp only [hq] at hΦ
    generalize Sk.sameTy z.mem y.mem=bq at hΦ ⊢
    refine aG Z ?_
    refine cK9 (xT (cQ (sM Z (sM Z ?_))))
    cases bq
    ·have hΦ2 : Φ (S.cf 9 n z.og y.og::((L.drop (i+1)).flatMap (S.t1x n)++A2)) r:=hΦ
     refine sG Z Z (vM Z) (sG Z Z (ag Z fC Z af) ?_)
     refine sG Z Z (vM Z) (sG Z Z (ag Z pY Z af) ?_)
     refine sG Z Z (vF Z ji Z) (sG Z Z (ag Z pY Z (hogy b11)) ?_)
     refine bR Z Z Z Z jR Z (hcn 9 n z.og y.og) ?_
     refine j4 (gd:=80) (.inr ⟨_,_,Z,Z,Z⟩) Z Z (hy _ _ _ hΦ2) ?_
     rintro u h' (⟨rfl,r',hΦ4,rfl⟩ | ⟨rfl,r',hst,rfl⟩)
     ·simp only [lC,lN]
      refine sG Z Z (bi Z) (sV (vQ Z Z) (sN (nK9 [1,2,6,7,8,9,21,22,23,39,40,41,90] Z (nT (aG Z ?_)))))
      refine cK9 (xB (xT (cR (sV (aI Z Z (by unfold I64 at *; omega)) (sM Z (sN (nK9 [1,2,6,7,8,9,21,22,23,39,40,41] Z (ax ?_))))))))
      refine aJ (r',i+1) ⟨hlti,hΦ4⟩ (by dsimp only; omega)
     ·simp only [lC,lN]
      refine sG Z Z (bi Z) (sV (vQ Z Z) (sN (nK9 [1,2,6,7,8,9,21,22,23,39,40,41,90] Z (nT (aT Z ?_)))))
      refine cQ (sV (vA9 Z) (sN (nK9 [4] Z (nT (cT (xW (xR (xR (xW (xW (xR (xR (xW (xR ?_))))))))))))))
      exact aj Z ⟨X,[mps mb m,mps bm bmp,r'],Z,Ext.refl X,r',Z,.inr ⟨Z,_,hst⟩⟩ sbq
    ·have hΦ : Φ ((L.drop (i+1)).flatMap (S.t1x n)++A2) r:=hΦ
     iterate 9 refine aC rfl rfl rfl ?_
     refine sV (vP Z Z) (sN (nK9 [1,2,6,7,8,9,21,22,23,39,40,41,90] Z (nT (aG Z ?_))))
     refine cK9 (xB (xT (cR (sV (aI Z Z (by unfold I64 at *; omega)) (sM Z (sN (nK9 [1,2,6,7,8,9,21,22,23,39,40,41] Z (ax ?_))))))))
     refine aJ (r,i+1) ⟨hlti,hΦ⟩ (by dsimp only; omega)
   ·rename_i f
    obtain rfl:f=f0:=by rw [hq] at hf0; exact hf0
    simp only [hq] at hΦ
    refine aT Z ?_
    refine cQ (sM Z (sV (aN (cells:=[sv [],sv n]) Z (fun _=>by kernel_rfl)) ?_))
    refine ai Z Z sz24 Z Z ?_
    refine sN (nK9 [1,2,6,7,8,9,11,12,13,21,22,23,39,40,41] Z (nT (cR (sV (vF Z rz Z) (sV (vY Z sF) ?_)))))
    refine sV (vF Z dN Z) (sV (vF Z ll Z) (sV (vY Z sF) ?_))
    refine bg Z Z en215 Z (CB en216 hg3 hy5 (fun a b us us' _ h h'=>FO h h')) ?_
    refine sV (bi Z) (sM Z ?_)
    generalize decide (f.args=y.mem.args)=b1q at hΦ ⊢
    cases b1q
    ·have hΦ2 : Φ (S.cf 9 n ⟨[],n⟩ y.og::((L.drop (i+1)).flatMap (S.t1x n)++A2)) r:=hΦ
     iterate 10 refine aC rfl rfl rfl ?_
     refine sV (vQ Z Z) (sV (vA9 Z) (sN (nK9 [1,2,6,7,8,9,11,12,13,21,22,23,39,40,41] Z (nT (cQ (sM Z (sM Z (sG Z Z (vM Z) (sG Z Z (ag Z fC Z af) ?_)))))))))
     refine sG Z Z (vM Z) (sG Z Z (ag Z pY Z af) ?_)
     refine sG Z Z (vF Z ji Z) (sG Z Z (ag Z pY Z (hogy b11)) ?_)
     refine bR Z Z Z Z jR Z (hcn 9 n ⟨[],n⟩ y.og) ?_
     refine j4 (gd:=80) (.inr ⟨_,_,Z,Z,Z⟩) Z Z (hy _ _ _ hΦ2) ?_
     rintro u h' (⟨rfl,r',hΦ4,rfl⟩ | ⟨rfl,r',hst,rfl⟩)
     ·simp only [lC,lN]
      refine sG Z Z (bi Z) (sV (vQ Z Z) (sN (nK9 [1,2,6,7,8,9,21,22,23,39,40,41,90] Z (nT (aG Z ?_)))))
      refine cK9 (xB (xT (cR (sV (aI Z Z (by unfold I64 at *; omega)) (sM Z (sN (nK9 [1,2,6,7,8,9,21,22,23,39,40,41] Z (ax ?_))))))))
      refine aJ (r',i+1) ⟨hlti,hΦ4⟩ (by dsimp only; omega)
     ·simp only [lC,lN]
      refine sG Z Z (bi Z) (sV (vQ Z Z) (sN (nK9 [1,2,6,7,8,9,21,22,23,39,40,41,90] Z (nT (aT Z ?_)))))
      refine cQ (sV (vA9 Z) (sN (nK9 [4] Z (nT (cT (xW (xR (xR (xW (xW (xR (xR (xW (xR ?_))))))))))))))
      exact aj Z ⟨X,[mps mb m,mps bm bmp,r'],Z,Ext.refl X,r',Z,.inr ⟨Z,_,hst⟩⟩ sbq
    ·refine sG Z Z (vF Z za Z) (sG Z Z (vF Z qD Z) (sG Z Z (vY Z ld3) ?_))
     refine sG Z Z (dB Z Z) (sG Z Z (vF Z dN Z) (sG Z Z (vF Z qE Z) (sG Z Z (vF Z qD Z) (sG Z Z (vY Z ld3) ?_))))
     refine sG Z Z (dB Z Z) (sG Z Z (v_bneq underlying4 Z Z) (sV (vP Z Z) (sV (vA9 Z) (sN (nK9 [1,2,6,7,8,9,11,12,13,21,22,23,39,40,41] Z (nT (cQ (sM Z (sM Z ?_)))))))))
     rw [Bool.true_and] at hΦ
     rw [show ((f.ty.kind == 0) != (y.mem.ty.kind == 0)) = !((f.ty.kind == 0) == (y.mem.ty.kind == 0)) from rfl]
     generalize ((f.ty.kind == 0) == (y.mem.ty.kind == 0))=bq at hΦ ⊢
     cases bq
     ·have hΦ2 : Φ (S.cf 9 n ⟨[],n⟩ y.og::((L.drop (i+1)).flatMap (S.t1x n)++A2)) r:=hΦ
      refine sG Z Z (vM Z) (sG Z Z (ag Z fC Z af) ?_)
      refine sG Z Z (vM Z) (sG Z Z (ag Z pY Z af) ?_)
      refine sG Z Z (vF Z ji Z) (sG Z Z (ag Z pY Z (hogy b11)) ?_)
      refine bR Z Z Z Z jR Z (hcn 9 n ⟨[],n⟩ y.og) ?_
      refine j4 (gd:=80) (.inr ⟨_,_,Z,Z,Z⟩) Z Z (hy _ _ _ hΦ2) ?_
      rintro u h' (⟨rfl,r',hΦ4,rfl⟩ | ⟨rfl,r',hst,rfl⟩)
      ·simp only [lC,lN]
       refine sG Z Z (bi Z) (sV (vQ Z Z) (sN (nK9 [1,2,6,7,8,9,21,22,23,39,40,41,90] Z (nT (aG Z ?_)))))
       refine cK9 (xB (xT (cR (sV (aI Z Z (by unfold I64 at *; omega)) (sM Z (sN (nK9 [1,2,6,7,8,9,21,22,23,39,40,41] Z (ax ?_))))))))
       refine aJ (r',i+1) ⟨hlti,hΦ4⟩ (by dsimp only; omega)
      ·simp only [lC,lN]
       refine sG Z Z (bi Z) (sV (vQ Z Z) (sN (nK9 [1,2,6,7,8,9,21,22,23,39,40,41,90] Z (nT (aT Z ?_)))))
       refine cQ (sV (vA9 Z) (sN (nK9 [4] Z (nT (cT (xW (xR (xR (xW (xW (xR (xR (xW (xR ?_))))))))))))))
       exact aj Z ⟨X,[mps mb m,mps bm bmp,r'],Z,Ext.refl X,r',Z,.inr ⟨Z,_,hst⟩⟩ sbq
     ·have hΦ : Φ ((L.drop (i+1)).flatMap (S.t1x n)++A2) r:=hΦ
      iterate 9 refine aC rfl rfl rfl ?_
      refine sV (vP Z Z) (sN (nK9 [1,2,6,7,8,9,21,22,23,39,40,41,90] Z (nT (aG Z ?_))))
      refine cK9 (xB (xT (cR (sV (aI Z Z (by unfold I64 at *; omega)) (sM Z (sN (nK9 [1,2,6,7,8,9,21,22,23,39,40,41] Z (ax ?_))))))))
      refine aJ (r,i+1) ⟨hlti,hΦ⟩ (by dsimp only; omega)
  ·have hend:i=L.length:=Nat.le_antisymm hi (Nat.not_lt.1 (by simpa using hd3))
   subst hend
   rw [dF,List.nil_append] at hΦ
   refine aB (xE (xE (xY (xB (xT (cR (sV (aI Z Z (by unfold I64 at *; omega)) (sM Z (sN (nK9 [1,2,21,22,23] Z (ax ?_)))))))))))
   refine aJ (r,j+1) ⟨hltj,by rw [hA2]; exact hΦ⟩ (by dsimp only; omega)
 ·have hend:j=S.skeys.length:=Nat.le_antisymm hj (Nat.not_lt.1 (by simpa using hd2))
  subst hend
  rw [dF,List.nil_append,← hT] at hΦ
  refine aB (xE (xE (xY (xT (cS (cQ (sV (vF Z oK Z) (sV (vY Z qC) ?_))))))))
  refine aH Z Z en213 Z (tQ) ?_
  rintro u h' ⟨b1,rfl,rfl⟩
  simp only [lC,lN]
  refine aH Z Z en212 Z (o7 (by omega) hnd) ?_
  rintro u h' ⟨hu,rfl⟩
  simp only [lC,lN]
  rw [hsk]
  unfold NR
  refine jk (v:=u) (E:=9) (sz:=1) (rows:=S.skeys.map nC) slq fun wa wc hwf hwl hwm=>?_
  rw [List.length_map] at hwf hwl
  subst hwf
  refine sV (aF Z underlying40) (sM Z (sN (nK9 [1,2,96,97,98] Z (nT (cB (aZ (σ := Res×Nat) (fun q=>[(1,.func (.yield yl) #[] #[]),(2,.pointer (some ⟨b2,0,none⟩)),(96,.slice wa S.skeys.length wc),(97,.int .i64 S.skeys.length),(98,.int .i64 (q.2:Nat))]) (fun q=>VR (.slice wa S.skeys.length wc) 9 1 (S.skeys.map nC)::pt b2 (cl [v,.map (some mb),sv S.c.name,.bool S.c.dfd,ca,.slice cb S.c.pars.length ck,ce,.slice cf S.c.feats.length cfk,ci,.slice mA S.ms.length mK,.map (some bm),.bool all] 206)::X::mps mb m::mps bm bmp::q.1::hr) (fun q=>q.2≤S.skeys.length ∧ Φ ((S.skeys.drop q.2).flatMap (S.t2)++R) q.1) (fun q=>S.skeys.length - q.2) (r,0) ⟨Nat.zero_le _,hΦ⟩ ?_))))))
  rintro ⟨r,j⟩ ⟨hj,hΦ⟩
  simp only at hj hΦ
  dsimp only
  refine cQ (sV (aO Z Z) (sN (nT (cS (cC Z (fun hd2=>?_) (fun hd2=>?_))))))
  ·have hltj:j<S.skeys.length:=by simpa using hd2
   rw [dX hltj,List.append_assoc] at hΦ
   have hnx:(S.skeys.map nC)[j]? = some [sv S.skeys[j]]:=by rw [List.getElem?_map,List.getElem?_eq_getElem hltj]; rfl
   refine fI (r:=VR (.slice wa S.skeys.length wc) 9 1 (S.skeys.map nC)) slq fun hok=>?_
   obtain ⟨ab,ao,rfl⟩:∃ ab ao,wa=some ⟨ab,ao,none⟩:=by
    obtain ⟨f0,hf0⟩:=hok
    rcases VR.form hf0 with ⟨h3,h4⟩ | ⟨b,o,cp,h3,-⟩
    ·have:=List.map_eq_nil_iff.1 h4
     rw [this] at hltj; simp at hltj
    ·rw [List.length_map] at h3; cases h3; exact ⟨b,o,rfl⟩
   generalize S.skeys[j]=n at hΦ hnx
   generalize hA2:(S.skeys.drop (j+1)).flatMap (S.t2)++R=A2 at hΦ
   have hul:=hB.under n
   have hun:=hK.by' n
   obtain ⟨la,lc,hlv,hlc,-,-⟩:=id hun.form
   rw [hlv] at hun
   unfold Sk.t2 at hΦ
   refine cK9 (xT (cS (cB (cQ (sV (vI (k:=j) Z Z jh Z hltj Z) (sV (vY Z ld9 (ha:=⟨_,_,slq,eQ hnx 0 (by simp)⟩)) ?_))))))
   refine sV (vA9 Z) (sN (nK9 [1,2,15,96,97,98] Z (nT (cS (cQ (sV (vF Z gM Z) (sV (vF Z ko Z) (sV (vY Z yS) ?_))))))))
   refine sM Z (aH Z Z yx Z (iP (n:=n) hK.feat) ?_)
   rintro u h' ⟨rfl,gus,rfl,hgr⟩
   simp only [lC,lN]
   have hg15:gus.length=15:=Enc.len hgr
   have hgo:=Enc.ones hgr
   have hmf:(S.c.feats.find? fun c=>c.name == n)=feat S.c n:=rfl
   rw [hmf]
   refine sM Z (sV (ah Z Z) (sV (ah Z Z) (au lm fun b16=>?_)))
   refine ai (hl:=by rw [hg15]; rfl) Z Z jP hg15 hgo ?_
   refine sV (vA9 Z) (sN (nK9 [1,2,15,17,96,97,98] Z (nT (cQ (sM Z (sN (nK9 [1,2,15,96,97,98,110] Z (nT ?_))))))))
   cases hq:feat S.c n
   ·rw [hq] at hΦ
    have hΦ : Φ (S.cpairs (under S.cs n) 10 (fun a b=>(!a.dfd && !b.dfd) && !Sk.same a.mem b.mem)++A2) r:=hΦ
    refine aG Z ?_
    refine cK9 (xT (cQ (sV (ag Z fC Z af) ?_)))
    refine sV (vF Z oK Z) (sV (vY Z qC) ?_)
    refine sM Z (sV (gB hlv (bI Z Z rV sD slq)) ?_)
    refine sM Z (aH Z Z en207 Z (GA hy hall en217 (is:=fun a b=>(!a.dfd && !b.dfd) && !Sk.same a.mem b.mem) (fun a _ b _ us us' h h'=>IM h h') hun 10 _ r hΦ) ?_)
    rintro u h' ⟨r',rfl,(⟨rfl,hΦ4⟩ | ⟨rfl,_,hst⟩)⟩
    ·simp only [lC,lN]
     refine sV (bi Z) (sN (nK9 [1,2,96,97,98,118] Z (nT (aG Z ?_))))
     refine cK9 (xB (xT (cR (sV (aI Z Z (by unfold I64 at *; omega)) (sM Z (sN (nK9 [1,2,96,97,98] Z (ax ?_))))))))
     refine aJ (r',j+1) ⟨hltj,by rw [hA2]; exact hΦ4⟩ (by dsimp only; omega)
    ·simp only [lC,lN]
     refine sV (bi Z) (sN (nK9 [1,2,96,97,98,118] Z (nT (aT Z ?_))))
     refine cQ (sV (vA9 Z) (sN (nK9 [4] Z (nT (cT (xW (xR (xR (xW (xR ?_))))))))))
     exact aj Z ⟨X,[mps mb m,mps bm bmp,r'],Z,Ext.refl X,r',Z,.inr ⟨Z,_,hst⟩⟩ sbq
   ·rw [hq] at hΦ
    have hΦ : Φ A2 r:=hΦ
    refine aT Z ?_
    refine aB (xE (xY (xT (cR (sV (aI Z Z (by unfold I64 at *; omega)) (sM Z (sN (nK9 [1,2,96,97,98] Z (ax ?_)))))))))
    refine aJ (r,j+1) ⟨hltj,by rw [hA2]; exact hΦ⟩ (by dsimp only; omega)
  ·have hend:j=S.skeys.length:=Nat.le_antisymm hj (Nat.not_lt.1 (by simpa using hd2))
   subst hend
   rw [dF,List.nil_append] at hΦ
   refine aB (xE (xE (xY (xT (cQ (sV (vA9 Z) (sN (nK9 [4] Z (nT (cT ?_))))))))))
   exact aj Z ⟨X,[mps mb m,mps bm bmp,r],Z,Ext.refl X,r,Z,.inl ⟨Z,hΦ⟩⟩ sbq
end
end Go.Fl
namespace Go.Fl
open Go Go.RowKit Go.Ck Go.Proofs Go.Proofs.Tryz Go.Proofs.YtknmacdbffgjgaaGreatDoor Fx Go.Hr
namespace Sk
section
variable (s:Sk)
def ap (d:Sd):List Cf:=s.pairs (s.ms.filter fun m=>m.seeds.contains d) (fun a b => !sameTy a b) fun a b=>⟨14,s.c.name,a.name,b.name,⟨d.cls,d.name⟩,og0⟩
theorem apart_eq:s.apart=s.seeds.flatMap s.ap:=rfl
theorem seeds_len {s:Sk} (hB:SkB s):s.seeds.length≤432000:=by
 have h1:s.seeds.length≤(s.ms.flatMap fun m=>m.seeds).length:=aP (jI _).1.nodup fun x hx=>((jI _).2 x).1 hx
 exact Nat.le_trans h1 hB.ms
end
end Sk
attribute [local irreducible] Go.Ck.Sub St Cd Xt Nx DrL LsW
section
variable {X Y:Res} {v v':Value} {us us':List Value}

theorem Oe {yl mb bm : Nat} {Φ : List Cf → Res → Prop} {Stop : Cf → Res → Prop} (hy : Yh yl Φ Stop) {S : Sk} {all : Bool} (hall : S.all = all) {m bmp : List (Nm × Value)} {ca cb ce cf ci mv : Value} (hK : SkR X S v m ca cb ce cf ci mv bmp) (hB : SkB S) (R : List Cf) (r0 : Res) (h0 : Φ (S.apart ++ R) r0) :
  CtX prog 221 #[.agg (eU v (.map (some mb)) S.c ca cb ce cf ci mv (.map (some bm)) all).toArray,.func (.yield yl) #[] #[]] X [mps mb m,mps bm bmp,r0] fun u Y k'=>∃ r,k'=[mps mb m,mps bm bmp,r]∧Yend Φ Stop R u r:=by
 have hml:maxLen=9223372036854775807:=rfl
 obtain ⟨cb,ck,rfl,hckl,hckm,_⟩:=id hK.par.form
 obtain ⟨cf,cfk,rfl,_⟩:=id hK.feat.form
 obtain ⟨mA,mK,rfl,_⟩:=id hK.ms.form
 have hcn:=fun b=>fM (fv:=.map (some mb)) (c:=S.c) (v:=v) (ca:=ca) (cb:=.slice cb S.c.pars.length ck) (ce:=ce) (cf:=.slice cf S.c.feats.length cfk) (ci:=ci) (mv:=.slice mA S.ms.length mK) (bv:=.map (some bm)) (all:=all) b
 have hsel:=Sk.seeds_len hB
 rw [Sk.apart_eq] at h0
 unfold CtX
 unfold eU at *
 refine aL (n:=78) func221 Z Z (len Z) fun hr w0=>?_
 refine cQ (aV Z Z fun b2=>?_)
 refine sV (vA9 Z) (sN (nK9 [1,2,4] Z (nT (cS (cQ (sV (vF Z mh Z) (sV (vY Z uO) ?_)))))))
 refine aH Z Z en219 Z (yH hK.ms (by have:=hB.ms; omega)) ?_
 rintro u h' ⟨hu,rfl⟩
 simp only [lC,lN]
 have hsd:qM (S.ms.flatMap fun m=>m.seeds)=S.seeds:=rfl
 rw [hsd]
 refine jk (v:=u) (E:=69) (sz:=2) (rows:=S.seeds.map sdC) slq fun wa wc hwf hwl hwm=>?_
 rw [List.length_map] at hwf hwl
 subst hwf
 refine sV (aF Z underlying67) (sM Z (sN (nK9 [1,2,4,15,16,17] Z (nT (cB (aZ (σ := Res×Res×Nat) (fun q=>[(1,.func (.yield yl) #[] #[]),(2,.pointer (some ⟨b2,0,none⟩)),(15,.slice wa S.seeds.length wc),(16,.int .i64 S.seeds.length),(17,.int .i64 (q.2.2:Nat))]) (fun q=>VR (.slice wa S.seeds.length wc) 69 2 (S.seeds.map sdC)::pt b2 (cl [v,.map (some mb),sv S.c.name,.bool S.c.dfd,ca,.slice cb S.c.pars.length ck,ce,.slice cf S.c.feats.length cfk,ci,.slice mA S.ms.length mK,.map (some bm),.bool all] 206)::q.1::mps mb m::mps bm bmp::q.2.1::hr) (fun q=>Ext X q.1∧q.2.2≤S.seeds.length ∧ Φ ((S.seeds.drop q.2.2).flatMap (S.ap)++R) q.2.1) (fun q=>S.seeds.length - q.2.2) (X,r0,0) ⟨Ext.refl X,Nat.zero_le _,h0⟩ ?_))))))
 rintro ⟨Y,r,j⟩ ⟨hE,hj,hΦ⟩
 simp only at hE hj hΦ
 dsimp only
 refine cQ (sV (aO Z Z) (sN (nT (cS (cC Z (fun hd=>?_) (fun hd=>?_))))))
 ·have hltj:j<S.seeds.length:=by simpa using hd
  rw [dX hltj,List.append_assoc] at hΦ
  have hnx:(S.seeds.map sdC)[j]? = some (sdC S.seeds[j]):=by rw [List.getElem?_map,List.getElem?_eq_getElem hltj]; rfl
  refine fI (r:=VR (.slice wa S.seeds.length wc) 69 2 (S.seeds.map sdC)) slq fun hok=>?_
  obtain ⟨ab,ao,rfl⟩:∃ ab ao,wa=some ⟨ab,ao,none⟩:=by
   obtain ⟨f0,hf0⟩:=hok
   rcases VR.form hf0 with ⟨h3,h4⟩ | ⟨b,o,cp,h3,-⟩
   ·have:=List.map_eq_nil_iff.1 h4
    rw [this] at hltj; simp at hltj
   ·rw [List.length_map] at h3; cases h3; exact ⟨b,o,rfl⟩
  generalize S.seeds[j]=d at hΦ hnx
  generalize hA:(S.seeds.drop (j+1)).flatMap (S.ap)++R=A at hΦ
  unfold sdC at hnx
  have hK2:=hK.up hE
  refine cK9 (xT (cS (cB (cQ (sV (vI (k:=j) Z Z pX Z hltj Z) (sV (ag Z iM Z (eQ hnx)) ?_))))))
  refine au al69 fun b6=>?_
  refine ai Z Z sz69 Z Z ?_
  refine sN (nK9 [1,2,6,15,16,17] Z (nT (cQ (sV (vF Z mh Z) (sV (vY Z uO) ?_)))))
  have hmf:=hB.mf
  have hrb:reachBytes=140737488351232:=rfl
  refine aH Z Z en160 Z (FV hK2.ms) ?_
  rintro u h' ⟨T,rfl,rows,rfl,ho,hro⟩
  simp only [lC,lN]
  refine sV (bY Z Z) (J8 [pt b6 (cl [sv d.cls,sv d.name] 69)] Y fun Y2 hE2 hsel2 hpk=>?_)
  have hb6:Rds Y2 b6 0 [sv d.cls,sv d.name]:=fun i hi=>hsel2 _ _ .here _ _ (af i hi)
  refine aH Z Z en268 Z (LB (g:=fun m:Mb => !m.seeds.contains d) (cp := #[.pointer (some ⟨b6,0,none⟩)]) (hro.up hE2) (by omega) en269 fun Q hQ a _ us h=>IP h (fun i hi=>hQ _ _ (hb6 i hi))) ?_
  rintro u h' ⟨rows',hu2,hro',rfl⟩
  simp only [lC,lN]
  have hfi:(S.ms.filter fun x => !(!x.seeds.contains d))=S.ms.filter fun m=>m.seeds.contains d:=by simp
  rw [hfi] at hro'
  have hΦ : Φ (S.pairs (S.ms.filter fun m=>m.seeds.contains d) (fun a b => !Sk.sameTy a b) (fun a b=>⟨14,S.c.name,a.name,b.name,⟨d.cls,d.name⟩,og0⟩)++A) r:=hΦ
  have hLl:(S.ms.filter fun m=>m.seeds.contains d).length≤300:=Nat.le_trans (List.length_filter_le _ _) hmf
  generalize (S.ms.filter fun m=>m.seeds.contains d)=L at hro' hΦ hLl
  refine sV (vA9 Z) (sN (nK9 [1,2,6,7,15,16,17] Z (nT (cS ?_))))
  have hrl:=hro'.1
  refine fV (v:=u) (E:=75) (sz:=14) (rows:=rows') slq fun la lc hlf hll hlm=>?_
  rw [hrl] at hlf hll
  subst hlf
  refine fI (r:=VR (.slice la L.length lc) 75 14 rows') slq fun hok2=>?_
  refine HV [VR (.slice la L.length lc) 75 14 rows'] Y2 fun Y3 hE3 hsel3=>?_
  have hls:Ls Y3 (.slice la L.length lc) L:=Rws.ls (E:=75) (hro'.up hE3) hok2 (hsel3 _ _ .here) (by show L.length * 232≤reachBytes; omega)
  have hb63:∀ i (hi:i<[sv d.cls,sv d.name].length),Rd Y3 ⟨b6,0+i,none⟩ [sv d.cls,sv d.name][i]:=fun i hi=>hE3.rd _ _ (hb6 i hi)
  have hE4:=hE.trans (hE2.trans hE3)
  refine cR (sM Z (sV (aF Z underlying52) (sM Z (sN (nT (cB (aZ (σ := Res×Nat) (fun q=>[(1,.func (.yield yl) #[] #[]),(2,.pointer (some ⟨b2,0,none⟩)),(15,.slice (some ⟨ab,ao,none⟩) S.seeds.length wc),(16,.int .i64 S.seeds.length),(17,.int .i64 (j:Nat)),(6,.pointer (some ⟨b6,0,none⟩)),(7,.slice la L.length lc),(26,.slice la L.length lc),(27,.int .i64 L.length),(28,.int .i64 (q.2:Nat))]) (fun q=>VR (.slice (some ⟨ab,ao,none⟩) S.seeds.length wc) 69 2 (S.seeds.map sdC)::pt b2 (cl [v,.map (some mb),sv S.c.name,.bool S.c.dfd,ca,.slice cb S.c.pars.length ck,ce,.slice cf S.c.feats.length cfk,ci,.slice mA S.ms.length mK,.map (some bm),.bool all] 206)::Y3::mps mb m::mps bm bmp::q.1::hr) (fun q=>q.2≤L.length ∧ Φ ((L.zipIdx.drop q.2).flatMap (fun a=>kJ S L (fun a b => !Sk.sameTy a b) (fun a b=>⟨14,S.c.name,a.name,b.name,⟨d.cls,d.name⟩,og0⟩) a 0)++A) q.1) (fun q=>L.length - q.2) (r,0) ⟨Nat.zero_le _,hΦ⟩ ?_)))))))
  clear hΦ
  rintro ⟨r,i⟩ ⟨hi,hΦ⟩
  simp only at hi hΦ
  dsimp only
  refine cQ (sV (aO Z Z) (sN (nT (cS (cC Z (fun hd2=>?_) (fun hd2=>?_))))))
  ·have hlti:i<L.length:=by simpa using hd2
   rw [j6 hlti,List.append_assoc] at hΦ
   obtain ⟨cb',co,ccap,cus,e4,hcus,hcrd,hcr⟩:=hls.at (List.getElem?_eq_getElem hlti)
   obtain ⟨rfl,rfl⟩:la=some ⟨cb',co,none⟩∧lc=ccap:=by cases e4; exact ⟨rfl,rfl⟩
   generalize L[i]=x at hΦ hcr
   generalize hA2:(L.zipIdx.drop (i+1)).flatMap (fun a=>kJ S L (fun a b => !Sk.sameTy a b) (fun a b=>⟨14,S.c.name,a.name,b.name,⟨d.cls,d.name⟩,og0⟩) a 0)++A=A2 at hΦ
   have hxr:=hcr
   have hxo:=Enc.ones hcr
   obtain ⟨x2,x5,xy,x11,x12,x13,rfl,-⟩:=dJ hcr
   unfold ik at *
   refine cK9 (xT (cS (cB (cQ (sM Z (sV (vI (k:=i) Z Z pW Z hlti Z) (sV (ag Z fB Z hcrd) ?_)))))))
   refine au jQ fun b9=>?_
   refine sV (vA9 Z) (ai Z Z iD Z hxo ?_)
   refine sN (nK9 [1,2,6,7,8,9,15,16,17,26,27,28] Z (nT (cQ (sM Z (sV (aF Z underlying52) (sM Z (sN (nT (cB (aZ (σ := Res×Nat) (fun q=>[(1,.func (.yield yl) #[] #[]),(2,.pointer (some ⟨b2,0,none⟩)),(15,.slice (some ⟨ab,ao,none⟩) S.seeds.length wc),(16,.int .i64 S.seeds.length),(17,.int .i64 (j:Nat)),(6,.pointer (some ⟨b6,0,none⟩)),(7,.slice (some ⟨cb',co,none⟩) L.length lc),(26,.slice (some ⟨cb',co,none⟩) L.length lc),(27,.int .i64 L.length),(28,.int .i64 (i:Nat)),(8,.int .i64 (i:Nat)),(9,.pointer (some ⟨b9,0,none⟩)),(33,.slice (some ⟨cb',co,none⟩) L.length lc),(34,.int .i64 L.length),(35,.int .i64 (q.2:Nat))]) (fun q=>pt b9 (cl [sv x.name,.int .i64 x.kind,x2,sv x.impl.cls,sv x.impl.name,x5,.int .i64 x.ty.kind,sv x.ty.name,xy,.bool x.ty.void,.bool x.ty.sep,x11,x12,x13] 75)::VR (.slice (some ⟨ab,ao,none⟩) S.seeds.length wc) 69 2 (S.seeds.map sdC)::pt b2 (cl [v,.map (some mb),sv S.c.name,.bool S.c.dfd,ca,.slice cb S.c.pars.length ck,ce,.slice cf S.c.feats.length cfk,ci,.slice mA S.ms.length mK,.map (some bm),.bool all] 206)::Y3::mps mb m::mps bm bmp::q.1::hr) (fun q=>q.2≤L.length ∧ Φ (kJ S L (fun a b => !Sk.sameTy a b) (fun a b=>⟨14,S.c.name,a.name,b.name,⟨d.cls,d.name⟩,og0⟩) (x,i) q.2++A2) q.1) (fun q=>L.length - q.2) (r,0) ⟨Nat.zero_le _,hΦ⟩ ?_))))))))))
   clear hΦ
   rintro ⟨r,k⟩ ⟨hk,hΦ⟩
   simp only at hk hΦ
   dsimp only
   refine cQ (sV (aO Z Z) (sN (nT (cS (cC Z (fun hd3=>?_) (fun hd3=>?_))))))
   ·have hltk:k<L.length:=by simpa using hd3
    rw [Er hltk,List.append_assoc] at hΦ
    obtain ⟨eb,eo,ecap,eus,e6,heus,herd,her⟩:=hls.at (List.getElem?_eq_getElem hltk)
    obtain ⟨rfl,rfl⟩:cb'=eb∧co=eo:=by cases e6; exact ⟨rfl,rfl⟩
    generalize L[k]=y at hΦ her
    have hst:=xq hxr her
    have hyo:=Enc.ones her
    obtain ⟨y2,y5,yy,y11,y12,y13,rfl,-⟩:=dJ her
    unfold ik at *
    refine cK9 (xT (cS (cB (cQ (sM Z (sV (vI (k:=k) Z Z pW Z hltk Z) (sV (ag Z fB Z herd) ?_)))))))
    refine au jQ fun b11=>?_
    refine sV (vA9 Z) (ai Z Z iD Z hyo ?_)
    refine sN (nK9 [1,2,6,7,8,9,10,11,15,16,17,26,27,28,33,34,35] Z (nT (cS (cQ (sM Z (sM Z (sV (dB Z Z) (sM Z ?_))))))))
    by_cases hik:i=k
    ·have hq:(((i:Nat):Int) == ((k:Nat):Int))=true:=by rw [hik]; simp
     rw [hq]
     iterate 4 refine aC rfl rfl rfl ?_
     refine bX Z Z ?_
     refine bX Z Z ?_
     refine bX Z Z ?_
     refine aC Z Z Z ?_
     refine sV (vQ Z Z) (sM Z (aC Z Z Z ?_))
     iterate 2 refine aC rfl rfl rfl ?_
     refine sV (vQ Z Z) (sN (nK9 [1,2,6,7,8,9,11,15,16,17,26,27,28,33,34,35,57] Z (nT (aT Z ?_))))
     refine aB (xE (xY (xT (cR (sV (aI Z Z (by unfold I64 at *; omega)) (sM Z (sN (nK9 [1,2,6,7,8,9,15,16,17,26,27,28,33,34,35] Z (ax ?_)))))))))
     refine aJ (r,k+1) ⟨hltk,by rw [if_pos (.inl hik)] at hΦ; exact hΦ⟩ (by dsimp only; omega)
    ·have hq:(((i:Nat):Int) == ((k:Nat):Int))=false:=by simp; omega
     rw [hq]
     refine sG Z Z (vF Z oL Z) (sG Z Z (vY Z ld4) ?_)
     refine sG Z Z (bi Z) (sG Z Z (vM Z) ?_)
     cases all
     ·refine sG Z Z (vM Z) (sG Z Z (vM Z) (sG Z Z (aO Z Z) (sG Z Z (vQ Z Z) (sV (vP Z Z) (sM Z ?_)))))
      by_cases hki:k<i
      ·have hq2:decide (((k:Nat):Int)<((i:Nat):Int))=true:=by simp; omega
       rw [hq2]
       iterate 3 refine aC rfl rfl rfl ?_
       refine sV (vQ Z Z) (sN (nK9 [1,2,6,7,8,9,11,15,16,17,26,27,28,33,34,35,57] Z (nT (aT Z ?_))))
       refine aB (xE (xY (xT (cR (sV (aI Z Z (by unfold I64 at *; omega)) (sM Z (sN (nK9 [1,2,6,7,8,9,15,16,17,26,27,28,33,34,35] Z (ax ?_)))))))))
       refine aJ (r,k+1) ⟨hltk,by rw [if_pos (.inr (.inl ⟨hall,hki⟩))] at hΦ; exact hΦ⟩ (by dsimp only; omega)
      ·have hq2:decide (((k:Nat):Int)<((i:Nat):Int))=false:=by simp; omega
       rw [hq2]
       refine sG Z Z (ag Z fB Z af) ?_
       refine sG Z Z (ag Z fB Z af) ?_
       refine bR Z Z Z Z JQ Z (hst) ?_
       refine sV (vP Z Z) (sN (nK9 [1,2,6,7,8,9,11,15,16,17,26,27,28,33,34,35,57] Z (nT ?_)))
       generalize hsb:Sk.sameTy x y=bq at hΦ ⊢
       cases bq
       ·have hΦ2 : Φ (⟨14,S.c.name,x.name,y.name,⟨d.cls,d.name⟩,og0⟩::(kJ S L (fun a b => !Sk.sameTy a b) (fun a b=>⟨14,S.c.name,a.name,b.name,⟨d.cls,d.name⟩,og0⟩) (x,i) (k+1)++A2)) r:=by
         rw [if_neg (fun h=>h.elim hik fun h=>h.elim (fun h=>hki h.2) (fun h=>by cases h))] at hΦ
         exact hΦ
        refine aG Z ?_
        refine cK9 (xT (cQ (sV (ag Z fC Z af) ?_)))
        refine sV (vF Z eH Z) (sV (vY Z ld9) ?_)
        refine sV (vF Z wU Z) (sV (vY Z ld9 (ha:=⟨_,_,slq,hb63 0 (by simp)⟩)) ?_)
        refine sV (vF Z wV Z) (sV (vY Z ld9 (ha:=⟨_,_,slq,hb63 1 (by simp)⟩)) ?_)
        refine sV (aN (cells:=[sv d.cls,sv d.name]) Z (fun _=>by kernel_rfl)) ?_
        refine sV (aN (cells:=[sv [],sv []]) Z (fun _=>by kernel_rfl)) ?_
        refine bg Z Z jR Z (hcn 14 x.name ⟨d.cls,d.name⟩ og0) ?_
        unfold cfV cfC
        refine au Bo fun b12=>?_
        refine ai Z Z uL Z Z ?_
        refine sN (nK9 [1,2,6,7,8,9,11,12,15,16,17,26,27,28,33,34,35] Z (nT (cQ (sV (vF Z eH Z) (sV (vY Z ld9) ?_)))))
        refine sV (vF Z Dz Z) (aX Z Z sz9 ?_)
        refine sN (nK9 [1,2,6,7,8,9,12,15,16,17,26,27,28,33,34,35] Z (nT (cQ (sM Z (sV (ag Z qy Z af) ?_)))))
        refine j4 (gd:=0) (.inl Z) Z Z (hy _ _ _ hΦ2) ?_
        rintro u h' (⟨rfl,r',hΦ4,rfl⟩ | ⟨rfl,r',hst,rfl⟩)
        ·simp only [lC,lN]
         refine sV (bi Z) (sN (nK9 [1,2,6,7,8,9,15,16,17,26,27,28,33,34,35,74] Z (nT (aG Z ?_))))
         refine cK9 (xB (xT (cR (sV (aI Z Z (by unfold I64 at *; omega)) (sM Z (sN (nK9 [1,2,6,7,8,9,15,16,17,26,27,28,33,34,35] Z (ax ?_))))))))
         refine aJ (r',k+1) ⟨hltk,hΦ4⟩ (by dsimp only; omega)
        ·simp only [lC,lN]
         refine sV (bi Z) (sN (nK9 [1,2,6,7,8,9,15,16,17,26,27,28,33,34,35,74] Z (nT (aT Z ?_))))
         refine cQ (sV (vA9 Z) (sN (nK9 [4] Z (nT (cT (xW (xR (xR (xW (xW (xR (xR (xW (xW ?_))))))))))))))
         refine xR (xR (xW (xR ?_)))
         exact aj Z ⟨Y3,[mps mb m,mps bm bmp,r'],Z,hE4,r',Z,.inr ⟨Z,_,hst⟩⟩ sbq
       ·refine aT Z ?_
        refine aB (xE (xY (xT (cR (sV (aI Z Z (by unfold I64 at *; omega)) (sM Z (sN (nK9 [1,2,6,7,8,9,15,16,17,26,27,28,33,34,35] Z (ax ?_)))))))))
        refine aJ (r,k+1) ⟨hltk,by rw [if_pos (.inr (.inr Z))] at hΦ; exact hΦ⟩ (by dsimp only; omega)
     ·iterate 3 refine aC rfl rfl rfl ?_
      refine sG Z Z (vP Z Z) (sV (vP Z Z) (sM Z (sG Z Z (ag Z fB Z af) ?_)))
      refine sG Z Z (ag Z fB Z af) ?_
      refine bR Z Z Z Z JQ Z (hst) ?_
      refine sV (vP Z Z) (sN (nK9 [1,2,6,7,8,9,11,15,16,17,26,27,28,33,34,35,57] Z (nT ?_)))
      generalize hsb:Sk.sameTy x y=bq at hΦ ⊢
      cases bq
      ·have hΦ2 : Φ (⟨14,S.c.name,x.name,y.name,⟨d.cls,d.name⟩,og0⟩::(kJ S L (fun a b => !Sk.sameTy a b) (fun a b=>⟨14,S.c.name,a.name,b.name,⟨d.cls,d.name⟩,og0⟩) (x,i) (k+1)++A2)) r:=by
        rw [if_neg (fun h=>h.elim hik fun h=>h.elim (fun h=>by rw [hall] at h; cases h.1) (fun h=>by cases h))] at hΦ
        exact hΦ
       refine aG Z ?_
       refine cK9 (xT (cQ (sV (ag Z fC Z af) ?_)))
       refine sV (vF Z eH Z) (sV (vY Z ld9) ?_)
       refine sV (vF Z wU Z) (sV (vY Z ld9 (ha:=⟨_,_,slq,hb63 0 (by simp)⟩)) ?_)
       refine sV (vF Z wV Z) (sV (vY Z ld9 (ha:=⟨_,_,slq,hb63 1 (by simp)⟩)) ?_)
       refine sV (aN (cells:=[sv d.cls,sv d.name]) Z (fun _=>by kernel_rfl)) ?_
       refine sV (aN (cells:=[sv [],sv []]) Z (fun _=>by kernel_rfl)) ?_
       refine bg Z Z jR Z (hcn 14 x.name ⟨d.cls,d.name⟩ og0) ?_
       unfold cfV cfC
       refine au Bo fun b12=>?_
       refine ai Z Z uL Z Z ?_
       refine sN (nK9 [1,2,6,7,8,9,11,12,15,16,17,26,27,28,33,34,35] Z (nT (cQ (sV (vF Z eH Z) (sV (vY Z ld9) ?_)))))
       refine sV (vF Z Dz Z) (aX Z Z sz9 ?_)
       refine sN (nK9 [1,2,6,7,8,9,12,15,16,17,26,27,28,33,34,35] Z (nT (cQ (sM Z (sV (ag Z qy Z af) ?_)))))
       refine j4 (gd:=0) (.inl Z) Z Z (hy _ _ _ hΦ2) ?_
       rintro u h' (⟨rfl,r',hΦ4,rfl⟩ | ⟨rfl,r',hst,rfl⟩)
       ·simp only [lC,lN]
        refine sV (bi Z) (sN (nK9 [1,2,6,7,8,9,15,16,17,26,27,28,33,34,35,74] Z (nT (aG Z ?_))))
        refine cK9 (xB (xT (cR (sV (aI Z Z (by unfold I64 at *; omega)) (sM Z (sN (nK9 [1,2,6,7,8,9,15,16,17,26,27,28,33,34,35] Z (ax ?_))))))))
        refine aJ (r',k+1) ⟨hltk,hΦ4⟩ (by dsimp only; omega)
       ·simp only [lC,lN]
        refine sV (bi Z) (sN (nK9 [1,2,6,7,8,9,15,16,17,26,27,28,33,34,35,74] Z (nT (aT Z ?_))))
        refine cQ (sV (vA9 Z) (sN (nK9 [4] Z (nT (cT (xW (xR (xR (xW (xW (xR (xR (xW (xW ?_))))))))))))))
        refine xR (xR (xW (xR ?_)))
        exact aj Z ⟨Y3,[mps mb m,mps bm bmp,r'],Z,hE4,r',Z,.inr ⟨Z,_,hst⟩⟩ sbq
      ·refine aT Z ?_
       refine aB (xE (xY (xT (cR (sV (aI Z Z (by unfold I64 at *; omega)) (sM Z (sN (nK9 [1,2,6,7,8,9,15,16,17,26,27,28,33,34,35] Z (ax ?_)))))))))
       refine aJ (r,k+1) ⟨hltk,by rw [if_pos (.inr (.inr Z))] at hΦ; exact hΦ⟩ (by dsimp only; omega)
   ·have hend:k=L.length:=Nat.le_antisymm hk (Nat.not_lt.1 (by simpa using hd3))
    subst hend
    rw [Bc,List.nil_append] at hΦ
    refine aB (xE (xE (xY (xB (xT (cR (sV (aI Z Z (by unfold I64 at *; omega)) (sM Z (sN (nK9 [1,2,6,7,15,16,17,26,27,28] Z (ax ?_)))))))))))
    refine aJ (r,i+1) ⟨hlti,by rw [hA2]; exact hΦ⟩ (by dsimp only; omega)
  ·have hend:i=L.length:=Nat.le_antisymm hi (Nat.not_lt.1 (by simpa using hd2))
   subst hend
   rw [mG,List.nil_append] at hΦ
   refine aB (xE (xE (xY (xB (xT (cR (sV (aI Z Z (by unfold I64 at *; omega)) (sM Z (sN (nK9 [1,2,15,16,17] Z (ax ?_)))))))))))
   refine aJ (Y3,r,j+1) ⟨hE4,hltj,by rw [hA]; exact hΦ⟩ (by dsimp only; omega)
 ·have hend:j=S.seeds.length:=Nat.le_antisymm hj (Nat.not_lt.1 (by simpa using hd))
  subst hend
  rw [dF,List.nil_append] at hΦ
  refine aB (xE (xE (xY (xT (cQ (sV (vA9 Z) (sN (nK9 [4] Z (nT (cT ?_))))))))))
  exact aj Z ⟨Y,[mps mb m,mps bm bmp,r],Z,hE,r,Z,.inl ⟨Z,hΦ⟩⟩ sbq
end
end Go.Fl
