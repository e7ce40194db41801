/-
  Package flat: conflicts,as an iterator. Conditions: what is read; sizes.
-/
import Derived.Test.YtknmacdbffgjgaaGreatDoorM24
set_option linter.unusedVariables false
set_option linter.unusedSimpArgs false
set_option maxRecDepth 100000
set_option maxHeartbeats 16000000
namespace Go.Fl
open Go Go.RowKit Go.Ck Go.Proofs Go.Proofs.Tryz Go.Proofs.YtknmacdbffgjgaaGreatDoor Fx Go.Hr
namespace Sk
section
variable (s:Sk)
def c1 (d:Sd):List Cf:=if (s.sel d).2 then [] else s.cut (s.pairs (bn s.ms d) (λ_ _=>true) λa b=>⟨11,s.c.name,a,b,⟨d.cls,d.name⟩,og0⟩)
def c2a (p:Pt×Nat) (n:Nm):List Cf:=if s.fro p.2 n≠[]/\(((dI s.ms n).getD mb0).seeds.any λd=>decide (1<(bn s.ms d).length))=false then [s.cf 12 n ⟨p.1.name,n⟩ og0] else []
def c2 (p:Pt×Nat):List Cf:=p.1.sel.flatMap (s.c2a p)
def c3 (m:Mb):List Cf:=if s.c.dfd=false/\m.kind=3 then [s.cf 13 m.name og0 og0] else []
theorem chosen_eq (R:List Cf):s.chosen++R=s.seeds.flatMap s.c1++(s.c.pars.zipIdx.flatMap s.c2++(s.ms.flatMap s.c3++R)):=by
 unfold chosen
 simp only [List.append_assoc]
 rfl
end
end Sk
attribute [local irreducible] Go.Ck.Sub St Cd Xt Nx DrL LsW
section
variable {X Y:Res} {v v':Value} {us us':List Value}

theorem Mg {yl mb bm : Nat} {Φ : List Cf -> Res -> Prop} {Stop : Cf -> Res -> Prop} (hy : Yh yl Φ Stop) {S : Sk} {all : Bool} (hall : S.all = all) {m bmp : List (Nm × Value)} {ca cb ce cf ci mv : Value} (hK : SkR X S v m ca cb ce cf ci mv bmp) (hB : SkB S) (cn : Nm) (hcn0 : S.c = ae S.l cn) (R : List Cf) (r0 : Res) (h0 : Φ (S.chosen ++ (S.apart ++ R)) r0) :
  eu prog 131 #[.agg (eZ v (.map<|some mb) S.c ca cb ce cf ci mv (.map<|some bm) all).toArray,.func (.yield yl) #[] #[]] X [mps mb m,mps bm bmp,r0] λu Y k'=>∃ r,k'=[mps mb m,mps bm bmp,r]/\Yend Φ Stop R u r:=by
 have hml:maxLen=9223372036854775807:=rfl
 obtain ⟨cb,ck,rfl,hckl,hckm,_⟩:=id hK.par.form
 obtain ⟨cf,cfk,rfl,_⟩:=id hK.feat.form
 obtain ⟨mA,mK,rfl,_⟩:=id hK.ms.form
 have hcn:=λb=>fU (fv:=.map<|some mb) (c:=S.c) (v:=v) (ca:=ca) (cb:=.slice cb S.c.pars.length ck) (ce:=ce) (cf:=.slice cf S.c.feats.length cfk) (ci:=ci) (mv:=.slice mA S.ms.length mK) (bv:=.map<|some bm) (all:=all) b
 have hsel:=Sk.seeds_len hB
 rw [Sk.chosen_eq] at h0
 generalize hT3:S.ms.flatMap S.c3++(S.apart++R)=T3 at h0
 generalize hT2:S.c.pars.zipIdx.flatMap S.c2++T3=T2 at h0
 have hrk:rk (bC S.l) cn≤S.l.length:=by
  have:=qI (bC S.l) cn
  rwa [kr] at this
 have hb0:∀ b,Rds (pt b<|cl [v,.map (some mb),sv S.c.name,.bool S.c.dfd,ca,.slice cb S.c.pars.length ck,ce,.slice cf S.c.feats.length cfk,ci,.slice mA S.ms.length mK,.map (some bm),.bool all] 206) b (0+0) [v,.map (some mb)]:=λb=>bD (k:=0) ag rfl
 have hb2:∀ b,Rds (pt b<|cl [v,.map (some mb),sv S.c.name,.bool S.c.dfd,ca,.slice cb S.c.pars.length ck,ce,.slice cf S.c.feats.length cfk,ci,.slice mA S.ms.length mK,.map (some bm),.bool all] 206) b (0+2) [sv S.c.name,.bool S.c.dfd,ca,.slice cb S.c.pars.length ck,ce,.slice cf S.c.feats.length cfk,ci]:=λb=>bD (k:=2) ag rfl
 unfold eu
 unfold eZ at *
 refine fw (n:=179) func131 Z Z (len Z) λhr w0 hw0=>?_
 refine cQ (aP Z Z λb2=>?_)
 refine sA Z<|sK [1,2,4] Z<|cS<|cQ<|sV (vF Z mO Z)<|sV (vY Z lK) ?_
 refine aJ Z Z en219 Z (xV hK.ms (by have:=hB.ms; omega)) ?_
 rintro u h' ⟨hu,rfl⟩
 simp only [lC,lN]
 have hsd:ry (S.ms.flatMap λm=>m.seeds)=S.seeds:=rfl
 rw [hsd]
 refine jB (v:=u) (E:=69) (sz:=2) (rows:=S.seeds.map sdC) slq λwa wc hwf hwl hwm=>?_
 rw [List.length_map] at hwf hwl
 subst hwf
 refine sV (aF Z underlying67)<|sM Z<|sK [1,2,4,26,27,28] Z<|cB<|aW (σ := Res×Res×Nat) (λq=>[(1,.func (.yield yl) #[] #[]),(2,.pointer (some ⟨b2,0,none⟩)),(26,.slice wa S.seeds.length wc),(27,.int .i64 S.seeds.length),(28,.int .i64 (q.2.2:Nat))]) (λq=>VR (.slice wa S.seeds.length wc) 69 2 (S.seeds.map sdC)::pt b2 (cl [v,.map (some mb),sv S.c.name,.bool S.c.dfd,ca,.slice cb S.c.pars.length ck,ce,.slice cf S.c.feats.length cfk,ci,.slice mA S.ms.length mK,.map (some bm),.bool all] 206)::q.1::mps mb m::mps bm bmp::q.2.1::hr) (λq=>Ext X q.1/\q.2.2≤S.seeds.length /\ Φ ((S.seeds.drop q.2.2).flatMap (S.c1)++T2) q.2.1) (λq=>S.seeds.length - q.2.2) (X,r0,0) ⟨Ext.refl X,Nat.zero_le _,h0⟩ ?_
 rintro ⟨Y,r,j⟩ ⟨hE,hj,hΦ⟩
 simp only at hE hj hΦ
 dsimp only
 refine cQ<|sV (aN Z Z)<|sN<|nT<|cS<|cC Z (λhd=>?_)<|λhd=>?_
 ·have hltj:j<S.seeds.length:=Zx
  rw [eD hltj,List.append_assoc] at hΦ
  have hnx:(S.seeds.map sdC)[j]? = some (sdC S.seeds[j]):=by rw [List.getElem?_map,Zy hltj]; rfl
  refine fQ (r:=VR (.slice wa S.seeds.length wc) 69 2<|S.seeds.map sdC) slq λhok=>?_
  obtain ⟨ab,ao,rfl⟩:∃ ab ao,wa=some ⟨ab,ao,none⟩:=by
   obtain ⟨f0,hf0⟩:=hok
   rcases VR.form hf0 with ⟨h3,h4⟩ | ⟨b,o,cp,h3,-⟩
   ·have:=List.map_eq_nil_iff.1 h4
    rw [this] at hltj; simp at hltj
   ·rw [List.length_map] at h3; cases h3; exact ⟨b,o,rfl⟩
  generalize S.seeds[j]=d at hΦ hnx
  generalize hA:(S.seeds.drop (j+1)).flatMap (S.c1)++T2=A at hΦ
  unfold sdC at hnx
  have hK2:=hK.up hE
  refine cK<|xT<|cS<|cB<|cQ<|sV (vI (k:=j) Z Z oh Z hltj Z)<|sV (af Z gM Z<|eX hnx) ?_
  refine ak al69 λb6=>?_
  refine ai Z Z sz69 Z Z ?_
  refine sK [1,2,6,26,27,28] Z<|Fh<|cQ<|sV (vF Z mO Z)<|sV (vY Z lK) ?_
  refine sV (af Z gM Z ag) ?_
  refine aJ Z Z Fy Z (lU (s:=d) hK2.ms) ?_
  rintro u h' ⟨T,rfl,hu,rfl⟩
  simp only [lC,lN]
  unfold NR
  refine sA Z<|sK [1,2,6,7,26,27,28] Z<|cS<|cS ?_
  have hnl:=Dj S.ms d
  have hmf:=hB.mf
  refine gz (v:=u) (E:=9) (sz:=1) (rows:=(bn S.ms d).map nC) slq λla lc hlf hll hlm=>?_
  rw [List.length_map] at hlf hll
  subst hlf
  refine cR<|sV (vF Z DY Z)<|sV (af Z gZ Z<|hb0 b2) ?_
  refine sV (vF Z gU Z)<|sV (af Z gL Z<|hb2 b2) ?_
  refine sV (vF Z mO Z)<|sV (vY Z lK) ?_
  refine sV (af Z gM Z ag) ?_
  refine bM hw0 Z Z en98 Z (yf hB.fits S.l.length Y S.c cn _ _ S.ms d hcn0 hrk hK2.l hK2.c hK2.fl hK2.ms) ?_
  rintro u h' ⟨Y2,k9,rfl,hE2,rfl,rfl⟩
  simp only [lC,lN]
  have hsl:eT S.fl S.l S.l.length S.c S.ms d=S.sel d:=rfl
  rw [hsl]
  unfold Sk.c1 at hΦ
  have hE3:=hE.trans hE2
  refine sM Z<|sV (ah Z Z)<|sV (ah Z Z)<|sA Z<|sA Z<|sK [1,2,6,7,9,26,27,28] Z<|cQ<|sM Z<|sK [1,2,6,7,26,27,28,47] Z ?_
  cases hq:(S.sel d).2
  ·rw [hq] at hΦ
   have hΦ : Φ (S.cut (S.pairs (bn S.ms d) (λ_ _=>true)<|λa b=>⟨11,S.c.name,a,b,⟨d.cls,d.name⟩,og0⟩)++A) r:=hΦ
   generalize bn S.ms d=L at hΦ hnl hll
   refine aH Z ?_
   refine cK<|xT<|cS<|Fb<|xT<|cQ<|sM Z<|sV (aF Z underlying40)<|sM Z<|sK [1,2,6,7,26,27,28,48,49,50] Z<|cB<|aW (σ := Res×Nat) (λq=>[(1,.func (.yield yl) #[] #[]),(2,.pointer (some ⟨b2,0,none⟩)),(26,.slice (some ⟨ab,ao,none⟩) S.seeds.length wc),(27,.int .i64 S.seeds.length),(28,.int .i64 (j:Nat)),(6,.pointer (some ⟨b6,0,none⟩)),(7,.slice la L.length lc),(48,.slice la L.length lc),(49,.int .i64 L.length),(50,.int .i64 (q.2:Nat))]) (λq=>VR (.slice la L.length lc) 9 1 (L.map nC)::pt b6 (cl [sv d.cls,sv d.name] 69)::VR (.slice (some ⟨ab,ao,none⟩) S.seeds.length wc) 69 2 (S.seeds.map sdC)::pt b2 (cl [v,.map (some mb),sv S.c.name,.bool S.c.dfd,ca,.slice cb S.c.pars.length ck,ce,.slice cf S.c.feats.length cfk,ci,.slice mA S.ms.length mK,.map (some bm),.bool all] 206)::Y2::mps mb m::mps bm bmp::q.1::hr) (λq=>q.2≤L.length /\ Φ (S.cut ((L.zipIdx.drop q.2).flatMap<|λa=>kY S L (λ_ _=>true) (λa b=>⟨11,S.c.name,a,b,⟨d.cls,d.name⟩,og0⟩) a 0)++A) q.1) (λq=>L.length - q.2) (r,0) ⟨Nat.zero_le _,hΦ⟩ ?_
   clear hΦ
   rintro ⟨r,i⟩ ⟨hi,hΦ⟩
   simp only at hi hΦ
   dsimp only
   refine cQ<|sV (aN Z Z)<|sN<|nT<|cS<|cC Z (λhd2=>?_)<|λhd2=>?_
   ·have hlti:i<L.length:=Zw
    rw [kC hlti] at hΦ
    have hnxi:(L.map nC)[i]? = some [sv L[i]]:=by rw [List.getElem?_map,Zy hlti]; rfl
    refine fQ (r:=VR (.slice la L.length lc) 9 1<|L.map nC) slq λhok2=>?_
    obtain ⟨nb,no,rfl⟩:∃ nb no,la=some ⟨nb,no,none⟩:=by
     obtain ⟨f0,hf0⟩:=hok2
     rcases VR.form hf0 with ⟨h3,h4⟩ | ⟨b,o,cp,h3,-⟩
     ·have:=List.map_eq_nil_iff.1 h4
      rw [this] at hlti; simp at hlti
     ·rw [List.length_map] at h3; cases h3; exact ⟨b,o,rfl⟩
    generalize L[i]=x at hΦ hnxi
    refine cK<|xT<|cS<|cB<|cQ<|sM Z<|sV (vI (k:=i) Z Z iZ Z hlti Z)<|sV (vY Z ld9 (ha:=⟨_,_,slq,eX hnxi 0<|by simp⟩)) ?_
    refine sA Z<|sA Z<|sK [1,2,6,7,10,11,26,27,28,48,49,50] Z<|cQ<|sM Z<|sV (aF Z underlying40)<|sM Z<|sN<|nT<|cB<|aW (σ := Res×Nat) (λq=>[(1,.func (.yield yl) #[] #[]),(2,.pointer (some ⟨b2,0,none⟩)),(26,.slice (some ⟨ab,ao,none⟩) S.seeds.length wc),(27,.int .i64 S.seeds.length),(28,.int .i64 (j:Nat)),(6,.pointer (some ⟨b6,0,none⟩)),(7,.slice (some ⟨nb,no,none⟩) L.length lc),(48,.slice (some ⟨nb,no,none⟩) L.length lc),(49,.int .i64 L.length),(50,.int .i64 (i:Nat)),(10,.int .i64 (i:Nat)),(11,sv x),(55,.slice (some ⟨nb,no,none⟩) L.length lc),(56,.int .i64 L.length),(57,.int .i64 (q.2:Nat))]) (λq=>VR (.slice (some ⟨nb,no,none⟩) L.length lc) 9 1 (L.map nC)::pt b6 (cl [sv d.cls,sv d.name] 69)::VR (.slice (some ⟨ab,ao,none⟩) S.seeds.length wc) 69 2 (S.seeds.map sdC)::pt b2 (cl [v,.map (some mb),sv S.c.name,.bool S.c.dfd,ca,.slice cb S.c.pars.length ck,ce,.slice cf S.c.feats.length cfk,ci,.slice mA S.ms.length mK,.map (some bm),.bool all] 206)::Y2::mps mb m::mps bm bmp::q.1::hr) (λq=>q.2≤L.length /\ Φ (S.cut (kY S L (λ_ _=>true) (λa b=>⟨11,S.c.name,a,b,⟨d.cls,d.name⟩,og0⟩) (x,i) q.2++(L.zipIdx.drop (i+1)).flatMap (λa=>kY S L (λ_ _=>true) (λa b=>⟨11,S.c.name,a,b,⟨d.cls,d.name⟩,og0⟩) a 0))++A) q.1) (λq=>L.length - q.2) (r,0) ⟨Nat.zero_le _,hΦ⟩ ?_
    clear hΦ
    rintro ⟨r,k⟩ ⟨hk,hΦ⟩
    simp only at hk hΦ
    dsimp only
    refine cQ<|sV (aN Z Z)<|sN<|nT<|cS<|cC Z (λhd3=>?_)<|λhd3=>?_
    ·have hltk:k<L.length:=Zp
     rw [EA hltk] at hΦ
     have hnxk:(L.map nC)[k]? = some [sv L[k]]:=by rw [List.getElem?_map,Zy hltk]; rfl
     generalize L[k]=y at hΦ hnxk
     refine cK<|xT<|cS<|cB<|cQ<|sM Z<|sV (vI (k:=k) Z Z iZ Z hltk Z)<|sV (vY Z ld9 (ha:=⟨_,_,slq,eX hnxk 0<|by simp⟩)) ?_
     refine sA Z<|sA Z<|sK [1,2,6,7,10,11,12,13,26,27,28,48,49,50,55,56,57] Z<|cS<|cQ<|sM Z<|sM Z<|sV (dE Z Z)<|sM Z ?_
     by_cases hik:i=k
     ·have hq:(((i:Nat):Int) == ((k:Nat):Int))=true:=by rw [hik]; simp
      rw [hq]
      iterate 4 refine aB rfl rfl rfl ?_
      refine bY Z Z ?_
      refine bY Z Z ?_
      refine bY Z Z ?_
      refine aB Z Z Z ?_
      refine sV (vQ Z Z)<|sK [1,2,6,7,10,11,13,26,27,28,48,49,50,55,56,57,74] Z<|aQ Z ?_
      refine aC<|xE<|xY<|xT<|cR<|sV (aI Z Z Z0)<|sM Z<|sN<|nK [1,2,6,7,10,11,26,27,28,48,49,50,55,56,57] Z<|ax ?_
      refine aM (r,k+1) ⟨hltk,by rw [if_pos (.inl hik)] at hΦ; exact hΦ⟩ (by dsimp only; omega)
     ·have hq:(((i:Nat):Int) == ((k:Nat):Int))=false:=by simp; omega
      rw [hq]
      refine sG Z Z (vF Z pg Z)<|sG Z Z (vY Z ld4) ?_
      refine sG Z Z (aZ Z)<|sG Z Z (vM Z) ?_
      cases all
      ·refine sG Z Z (vM Z)<|sG Z Z (vM Z)<|sG Z Z (aN Z Z)<|sG Z Z (vQ Z Z)<|sV (vP Z Z)<|sK [1,2,6,7,10,11,13,26,27,28,48,49,50,55,56,57,74] Z ?_
       by_cases hki:k<i
       ·have hq2:decide (((k:Nat):Int)<((i:Nat):Int))=true:=by simp; omega
        rw [hq2]
        refine aQ Z ?_
        refine aC<|xE<|xY<|xT<|cR<|sV (aI Z Z Z0)<|sM Z<|sN<|nK [1,2,6,7,10,11,26,27,28,48,49,50,55,56,57] Z<|ax ?_
        refine aM (r,k+1) ⟨hltk,by rw [if_pos (.inr<|.inl ⟨hall,hki⟩)] at hΦ; exact hΦ⟩ (by dsimp only; omega)
       ·have hq2:decide (((k:Nat):Int)<((i:Nat):Int))=false:=by simp; omega
        rw [hq2]
        have hΦ2 : Φ (⟨11,S.c.name,x,y,⟨d.cls,d.name⟩,og0⟩::((if S.all then kY S L (λ_ _=>true) (λa b=>⟨11,S.c.name,a,b,⟨d.cls,d.name⟩,og0⟩) (x,i) (k+1)++(L.zipIdx.drop (i+1)).flatMap (λa=>kY S L (λ_ _=>true) (λa b=>⟨11,S.c.name,a,b,⟨d.cls,d.name⟩,og0⟩) a 0) else [])++A)) r:=by
         rw [if_neg (λh=>h.elim hik λh=>h.elim (λh=>hki h.2)<|λh=>by cases h)] at hΦ
         rw [lC,lN,List.cons_append,wh] at hΦ
         exact hΦ
        refine aH Z ?_
        refine cK<|xT<|cQ<|sV (af Z fH Z ag) ?_
        refine sM Z<|sV (vF Z wI Z)<|sV (vY Z ld9) ?_
        refine sV (vF Z wJ Z)<|sV (vY Z ld9) ?_
        refine sV (aO (cells:=[sv d.cls,sv d.name]) Z<|λ_=>Zz) ?_
        refine sV (aO (cells:=[sv [],sv []]) Z<|λ_=>Zz) ?_
        refine aX Z Z jZ Z (hcn 11 x ⟨d.cls,d.name⟩ og0) ?_
        unfold cfV cfC
        refine ak DZ λb14=>?_
        refine ai Z Z wF Z Z ?_
        refine sK [1,2,6,7,10,11,13,14,26,27,28,48,49,50,55,56,57] Z<|cQ<|sM Z<|sV (vF Z DR Z)<|bg Z Z sz9 ?_
        refine sK [1,2,6,7,10,11,14,26,27,28,48,49,50,55,56,57] Z<|cS<|cQ<|sM Z<|sV (af Z tO Z ag) ?_
        refine kz (gd:=0) (.inl Z) Z Z (hy _ _ _ hΦ2) ?_
        rintro u h' (⟨rfl,r',hΦ4,rfl⟩ | ⟨rfl,r',hst,rfl⟩)
        ·simp only [lC,lN]
         refine sV (aZ Z)<|sK [1,2,6,7,10,11,26,27,28,48,49,50,55,56,57,89] Z<|aH Z ?_
         refine cK<|xT<|cQ<|sV (vF Z pg Z)<|sV (vY Z ld4) ?_
         refine sV (aZ Z)<|sK [1,2,6,7,10,11,26,27,28,48,49,50,55,56,57,92] Z<|aQ Z ?_
         refine aC<|fO (by decide) ?_
         refine xE<|xE<|fO (by decide) ?_
         refine fO (by decide) ?_
         refine xE<|xE<|xY<|qi<|xB<|xT<|cR<|sV (aI Z Z Z0)<|sM Z<|sN<|nK [1,2,26,27,28] Z<|ax ?_
         rw [hall] at hΦ4
         refine aM (Y2,r',j+1) ⟨hE3,hltj,by rw [hA]; exact hΦ4⟩ (by dsimp only; omega)
        ·simp only [lC,lN]
         refine sV (aZ Z)<|sK [1,2,6,7,10,11,26,27,28,48,49,50,55,56,57,89] Z<|aQ Z ?_
         refine cQ<|sA Z<|sK [4] Z<|cT<|xR<|xW<|xR<|xR<|xW<|xW<|xR<|xR<|xW ?_
         refine fC<|xW<|xR<|xR<|xW<|xR ?_
         exact aj Z ⟨Y2,[mps mb m,mps bm bmp,r'],Z,hE3,r',Z,.inr ⟨Z,_,hst⟩⟩ sbq
      ·iterate 3 refine aB rfl rfl rfl ?_
       refine sG Z Z (vP Z Z)<|sV (vP Z Z)<|sK [1,2,6,7,10,11,13,26,27,28,48,49,50,55,56,57,74] Z ?_
       have hΦ2 : Φ (⟨11,S.c.name,x,y,⟨d.cls,d.name⟩,og0⟩::((if S.all then kY S L (λ_ _=>true) (λa b=>⟨11,S.c.name,a,b,⟨d.cls,d.name⟩,og0⟩) (x,i) (k+1)++(L.zipIdx.drop (i+1)).flatMap (λa=>kY S L (λ_ _=>true) (λa b=>⟨11,S.c.name,a,b,⟨d.cls,d.name⟩,og0⟩) a 0) else [])++A)) r:=by
        rw [if_neg (λh=>h.elim hik λh=>h.elim (λh=>by rw [hall] at h; cases h.1)<|λh=>by cases h)] at hΦ
        rw [lC,lN,List.cons_append,wh] at hΦ
        exact hΦ
       refine aH Z ?_
       refine cK<|xT<|cQ<|sV (af Z fH Z ag) ?_
       refine sM Z<|sV (vF Z wI Z)<|sV (vY Z ld9) ?_
       refine sV (vF Z wJ Z)<|sV (vY Z ld9) ?_
       refine sV (aO (cells:=[sv d.cls,sv d.name]) Z<|λ_=>Zz) ?_
       refine sV (aO (cells:=[sv [],sv []]) Z<|λ_=>Zz) ?_
       refine aX Z Z jZ Z (hcn 11 x ⟨d.cls,d.name⟩ og0) ?_
       unfold cfV cfC
       refine ak DZ λb14=>?_
       refine ai Z Z wF Z Z ?_
       refine sK [1,2,6,7,10,11,13,14,26,27,28,48,49,50,55,56,57] Z<|cQ<|sM Z<|sV (vF Z DR Z)<|bg Z Z sz9 ?_
       refine sK [1,2,6,7,10,11,14,26,27,28,48,49,50,55,56,57] Z<|cS<|cQ<|sM Z<|sV (af Z tO Z ag) ?_
       refine kz (gd:=0) (.inl Z) Z Z (hy _ _ _ hΦ2) ?_
       rintro u h' (⟨rfl,r',hΦ4,rfl⟩ | ⟨rfl,r',hst,rfl⟩)
       ·simp only [lC,lN]
        refine sV (aZ Z)<|sK [1,2,6,7,10,11,26,27,28,48,49,50,55,56,57,89] Z<|aH Z ?_
        refine cK<|xT<|cQ<|sV (vF Z pg Z)<|sV (vY Z ld4) ?_
        refine sV (aZ Z)<|sK [1,2,6,7,10,11,26,27,28,48,49,50,55,56,57,92] Z<|aH Z ?_
        refine cK<|xB<|xT<|cR<|sV (aI Z Z Z0)<|sM Z<|sN<|nK [1,2,6,7,10,11,26,27,28,48,49,50,55,56,57] Z<|ax ?_
        rw [hall] at hΦ4
        refine aM (r',k+1) ⟨hltk,by unfold Sk.cut; rw [hall]; exact hΦ4⟩ (by dsimp only; omega)
       ·simp only [lC,lN]
        refine sV (aZ Z)<|sK [1,2,6,7,10,11,26,27,28,48,49,50,55,56,57,89] Z<|aQ Z ?_
        refine cQ<|sA Z<|sK [4] Z<|cT<|xR<|xW<|xR<|xR<|xW<|xW<|xR<|xR<|xW ?_
        refine fC<|xW<|xR<|xR<|xW<|xR ?_
        exact aj Z ⟨Y2,[mps mb m,mps bm bmp,r'],Z,hE3,r',Z,.inr ⟨Z,_,hst⟩⟩ sbq
    ·have hend:k=L.length:=Nat.le_antisymm hk<|Nat.not_lt.1 Zp
     subst hend
     rw [AO,List.nil_append] at hΦ
     refine aC<|xE<|xE<|xY<|xB<|xT<|cR<|sV (aI Z Z Z0)<|sM Z<|sN<|nK [1,2,6,7,26,27,28,48,49,50] Z<|ax ?_
     refine aM (r,i+1) ⟨hlti,hΦ⟩ (by dsimp only; omega)
   ·have hend:i=L.length:=Nat.le_antisymm hi<|Nat.not_lt.1 Zw
    subst hend
    rw [mY] at hΦ
    have hΦ : Φ A r:=by
     have:S.cut []=[]:=by unfold Sk.cut; split <;> rfl
     rw [this] at hΦ; exact hΦ
    refine aC<|xE<|xE<|xY<|qi<|xB<|xT<|cR<|sV (aI Z Z Z0)<|sM Z<|sN<|nK [1,2,26,27,28] Z<|ax ?_
    refine aM (Y2,r,j+1) ⟨hE3,hltj,by rw [hA]; exact hΦ⟩ (by dsimp only; omega)
  ·rw [hq] at hΦ
   have hΦ : Φ A r:=hΦ
   refine aQ Z ?_
   refine aC<|xE<|AZ<|xY<|xT<|cR<|sV (aI Z Z Z0)<|sM Z<|sN<|nK [1,2,26,27,28] Z<|ax ?_
   refine aM (Y2,r,j+1) ⟨hE3,hltj,by rw [hA]; exact hΦ⟩ (by dsimp only; omega)
 ·have hend:j=S.seeds.length:=Nat.le_antisymm hj<|Nat.not_lt.1 Zx
  subst hend
  rw [dL,List.nil_append,<- hT2] at hΦ
  refine aC<|xE<|xE<|xY<|xT<|cS<|cQ<|sV (vF Z gU Z)<|sV (vF Z fu Z)<|sV (vY Z mr) ?_
  refine sV (aF Z underlying39)<|sM Z<|sK [1,2,98,99,100] Z<|cB<|aW (σ := Res×Res×Nat) (λq=>[(1,.func (.yield yl) #[] #[]),(2,.pointer (some ⟨b2,0,none⟩)),(98,.slice cb S.c.pars.length ck),(99,.int .i64 S.c.pars.length),(100,.int .i64 (q.2.2:Nat))]) (λq=>pt b2 (cl [v,.map (some mb),sv S.c.name,.bool S.c.dfd,ca,.slice cb S.c.pars.length ck,ce,.slice cf S.c.feats.length cfk,ci,.slice mA S.ms.length mK,.map (some bm),.bool all] 206)::q.1::mps mb m::mps bm bmp::q.2.1::hr) (λq=>Ext X q.1/\q.2.2≤S.c.pars.length /\ Φ ((S.c.pars.zipIdx.drop q.2.2).flatMap S.c2++T3) q.2.1) (λq=>S.c.pars.length - q.2.2) (Y,r,0) ⟨hE,Nat.zero_le _,hΦ⟩ ?_
  clear hΦ hE
  clear Y r
  rintro ⟨Y,r,i⟩ ⟨hE,hi,hΦ⟩
  simp only at hE hi hΦ
  dsimp only
  refine cQ<|sV (aN Z Z)<|sN<|nT<|cS<|cC Z (λhd=>?_)<|λhd=>?_
  ·have hlt:i<S.c.pars.length:=Zx
   rw [kC hlt,List.append_assoc] at hΦ
   have hlis:=hB.lists<|List.getElem_mem hlt
   obtain ⟨pb,po,pcap,pus,e1,hpus,hprd,hp⟩:=(hK.par.up hE).at<|Zy hlt
   obtain ⟨rfl,rfl⟩:cb=some ⟨pb,po,none⟩/\ck=pcap:=by cases e1; exact ⟨rfl,rfl⟩
   generalize S.c.pars[i]=p at hΦ hlis hp
   generalize hA:(S.c.pars.zipIdx.drop (i+1)).flatMap S.c2++T3=A at hΦ
   obtain ⟨hlR,hlU,hlD,hlS⟩:=hlis
   obtain ⟨pa,pr,pu,pd,pS,rfl,hpa,hpR,hpu,hpd,hpsel⟩:=hp
   obtain ⟨aA,kA,rfl,_⟩:=id hpa.form
   obtain ⟨aR,kR,rfl,_⟩:=id hpR.form
   obtain ⟨aU,kU,rfl,_⟩:=id hpu.form
   obtain ⟨aD,kD,rfl,_⟩:=id hpd.form
   obtain ⟨aS,kS,rfl,_⟩:=id hpsel.form
   refine cK<|xT<|cS<|cB<|cQ<|sM Z<|sV (vI (k:=i) Z Z oW Z hlt Z)<|sV (af Z qD Z hprd) ?_
   refine ak vG λb16=>?_
   refine sA Z<|ai Z Z sH Z Z ?_
   have hΦ : Φ (p.sel.flatMap (S.c2a (p,i))++A) r:=hΦ
   refine sK [1,2,15,16,98,99,100] Z<|cQ<|sV (vF Z zL Z)<|sV (vY Z fq) ?_
   refine sV (aF Z underlying40)<|sM Z<|sK [1,2,15,16,98,99,100,106,107,108] Z<|cB<|aW (σ := Res×Res×Nat) (λq=>[(1,.func (.yield yl) #[] #[]),(2,.pointer (some ⟨b2,0,none⟩)),(98,.slice (some ⟨pb,po,none⟩) S.c.pars.length ck),(99,.int .i64 S.c.pars.length),(100,.int .i64 (i:Nat)),(15,.int .i64 (i:Nat)),(16,.pointer (some ⟨b16,0,none⟩)),(106,.slice aS p.sel.length kS),(107,.int .i64 p.sel.length),(108,.int .i64 (q.2.2:Nat))]) (λq=>pt b16 (cl [sv p.name,.slice aA p.args.length kA,.slice aR p.ren.length kR,.slice aU p.und.length kU,.slice aD p.red.length kD,.slice aS p.sel.length kS] 88)::pt b2 (cl [v,.map (some mb),sv S.c.name,.bool S.c.dfd,ca,.slice (some ⟨pb,po,none⟩) S.c.pars.length ck,ce,.slice cf S.c.feats.length cfk,ci,.slice mA S.ms.length mK,.map (some bm),.bool all] 206)::q.1::mps mb m::mps bm bmp::q.2.1::hr) (λq=>Ext Y q.1/\q.2.2≤p.sel.length /\ Φ ((p.sel.drop q.2.2).flatMap (S.c2a (p,i))++A) q.2.1) (λq=>p.sel.length - q.2.2) (Y,r,0) ⟨Ext.refl Y,Nat.zero_le _,hΦ⟩ ?_
   clear hΦ
   rintro ⟨Zq,r,j⟩ ⟨hE2,hj,hΦ⟩
   simp only at hE2 hj hΦ
   dsimp only
   refine cQ<|sV (aN Z Z)<|sN<|nT<|cS<|cC Z (λhd2=>?_)<|λhd2=>?_
   ·have hltj:j<p.sel.length:=Zw
    rw [eD hltj,List.append_assoc] at hΦ
    have hEZ:=hE.trans hE2
    have hK9:=hK.up hEZ
    obtain ⟨nb,no,ncap,nus,e2,hnus,hnrd,hn⟩:=(hpsel.up hE2).at<|Zy hltj
    obtain ⟨rfl,rfl⟩:aS=some ⟨nb,no,none⟩/\kS=ncap:=by cases e2; exact ⟨rfl,rfl⟩
    generalize p.sel[j]=x at hΦ hn
    subst hn
    refine cK<|xT<|cS<|cB<|cQ<|sV (vI (k:=j) Z Z iZ Z hltj Z)<|sV (vY Z ld9 (ha:=⟨_,_,slq,hnrd 0<|by simp⟩)) ?_
    refine sA Z<|sK [1,2,15,16,18,98,99,100,106,107,108] Z<|cQ<|sV (vF Z mO Z)<|sV (vY Z lK) ?_
    refine sM Z<|aJ Z Z en169 Z (ut (n:=x) hK9.ms) ?_
    rintro u h' ⟨rfl,gus,rfl,hgr⟩
    simp only [lC,lN]
    have hmf:(S.ms.find? λc=>c.name == x)=dI S.ms x:=rfl
    rw [hmf]
    rw [hmf] at hgr
    unfold Sk.c2a at hΦ
    dsimp only at hΦ
    generalize (dI S.ms x).getD mb0=m0 at hgr hΦ
    have hgo:=Enc.ones hgr
    obtain ⟨g2,g5,gy,g11,g12,g13,rfl,hg2,-⟩:=bZ hgr
    obtain ⟨ga2,gk2,rfl,_⟩:=id hg2.form
    unfold fI at *
    refine sM Z<|sV (ah Z Z)<|sV (ah Z Z) (ak iR λb19=>?_)
    refine ai Z Z gF Z hgo ?_
    refine sA Z<|sK [1,2,15,16,18,19,98,99,100,106,107,108] Z<|cQ<|sV (vF Z dP Z)<|sV (vY Z nz) ?_
    refine sV (cz Z Z) ?_
    have hany:=eU<|NT (X:=Res.star [pt b2 (cl [v,.map (some mb),sv S.c.name,.bool S.c.dfd,ca,.slice (some ⟨pb,po,none⟩) S.c.pars.length ck,ce,.slice cf S.c.feats.length cfk,ci,.slice mA S.ms.length mK,.map (some bm),.bool all] 206),Zq]) (xs:=m0.seeds) (g:=λd=>decide (1<(bn S.ms d).length)) (cp := #[.pointer (some ⟨b2,0,none⟩)]) (hg2.up'<|bH<|.there .here) en220<|λa _ us h=>Jl h (bH .here _ _<|bU rfl)<|hK9.ms.up'<|bH<|.there .here
    refine aX Z Z en31 Z (hany) ?_
    refine sA Z<|sK [1,2,15,16,18,21,98,99,100,106,107,108] Z<|cQ<|sV (af Z fH Z ag) ?_
    refine sM Z<|sM Z<|aJ Z Z Kh Z (p9 (v:=v) (fv:=.map<|some mb) (c:=S.c) (ca:=ca) (cb:=.slice (some ⟨pb,po,none⟩) S.c.pars.length ck) (ce:=ce) (cf:=.slice cf S.c.feats.length cfk) (ci:=ci) (mv:=.slice mA S.ms.length mK) (all:=all) (bm:=bm) (i:=i) (n:=x) (hK9.by' x) (by have:=hB.under x; omega)) ?_
    rintro u h' ⟨Y3,k9,rfl,hE4,rows,hu,hro,rfl⟩
    simp only [lC,lN]
    have hro:Rws Y3 rows (S.fro i x):=hro
    have hrl:=hro.1
    have hfl:=hB.fro i x
    refine jB (v:=u) (E:=191) (sz:=18) (rows:=rows) slq λla lc hlf hll hlm=>?_
    rw [hrl] at hlf hll
    subst hlf
    have hE6:=hE2.trans hE4
    have hEZ4:=hE.trans hE6
    generalize (m0.seeds.any λd=>decide (1<(bn S.ms d).length))=many at hΦ ⊢
    generalize S.fro i x=l at hΦ hro hrl hfl ⊢
    refine sV (aF Z underlying187)<|sV (bW Z Z)<|sM Z ?_
    by_cases hq:l=[]
    ·rw [if_neg (λh=>h.1 hq)] at hΦ
     have hg:decide ((0:Int)<(l.length:Nat))=false:=by rw [hq]; rfl
     rw [hg]
     iterate 2 refine aB rfl rfl rfl ?_
     refine sV (vP Z Z)<|sM Z<|aB Z Z Z ?_
     iterate 10 refine aB rfl rfl rfl ?_
     refine sV (vP Z Z)<|sK [1,2,15,16,98,99,100,106,107,108,145] Z<|aH Z ?_
     refine cK<|xB<|xT<|cR<|sV (aI Z Z Z0)<|sM Z<|sN<|nK [1,2,15,16,98,99,100,106,107,108] Z<|ax ?_
     refine aM (Y3,r,j+1) ⟨hE6,hltj,hΦ⟩ (by dsimp only; omega)
    ·have hg:decide ((0:Int)<(l.length:Nat))=true:=by
      have:=List.length_pos_iff.2 hq
      simp; omega
     rw [hg]
     refine sG Z Z (vM Z)<|sG Z Z (aZ Z)<|sV (vQ Z Z)<|sM Z ?_
     cases many
     ·rw [if_pos ⟨hq,rfl⟩] at hΦ
      have hΦ2 : Φ (S.cf 12 x ⟨p.name,x⟩ og0::((p.sel.drop (j+1)).flatMap (S.c2a (p,i))++A)) r:=hΦ
      refine sG Z Z (vM Z)<|sG Z Z (af Z fH Z ag) ?_
      refine sG Z Z (vM Z)<|sG Z Z (vF Z gN Z)<|sG Z Z (vY Z ld9) ?_
      refine sG Z Z (vM Z)<|sG Z Z (aO (cells:=[sv p.name,sv x]) Z<|λ_=>Zz) ?_
      refine sG Z Z (aO (cells:=[sv [],sv []]) Z<|λ_=>Zz) ?_
      refine bJ Z Z Z Z jZ Z (hcn 12 x ⟨p.name,x⟩ og0) ?_
      refine kz (gd:=133) (.inr ⟨_,_,Z,Z,Z⟩) Z Z (hy _ _ _ hΦ2) ?_
      rintro u h' (⟨rfl,r',hΦ4,rfl⟩ | ⟨rfl,r',hst,rfl⟩)
      ·simp only [lC,lN]
       refine sG Z Z (aZ Z)<|sV (vQ Z Z)<|sK [1,2,15,16,98,99,100,106,107,108,145] Z<|aH Z ?_
       refine cK<|xB<|xT<|cR<|sV (aI Z Z Z0)<|sM Z<|sN<|nK [1,2,15,16,98,99,100,106,107,108] Z<|ax ?_
       refine aM (Y3,r',j+1) ⟨hE6,hltj,hΦ4⟩ (by dsimp only; omega)
      ·simp only [lC,lN]
       refine sG Z Z (aZ Z)<|sV (vQ Z Z)<|sK [1,2,15,16,98,99,100,106,107,108,145] Z<|aQ Z ?_
       refine cQ<|sA Z<|sK [4] Z<|cT<|xW<|xR<|xR<|xW<|xW<|xR<|xR<|xW<|xR ?_
       exact aj Z ⟨Y3,[mps mb m,mps bm bmp,r'],Z,hEZ4,r',Z,.inr ⟨Z,_,hst⟩⟩ sbq
     ·rw [if_neg (λh=>by cases h.2)] at hΦ
      iterate 11 refine aB rfl rfl rfl ?_
      refine sV (vP Z Z)<|sK [1,2,15,16,98,99,100,106,107,108,145] Z<|aH Z ?_
      refine cK<|xB<|xT<|cR<|sV (aI Z Z Z0)<|sM Z<|sN<|nK [1,2,15,16,98,99,100,106,107,108] Z<|ax ?_
      refine aM (Y3,r,j+1) ⟨hE6,hltj,hΦ⟩ (by dsimp only; omega)
   ·have hend:j=p.sel.length:=Nat.le_antisymm hj<|Nat.not_lt.1 Zw
    subst hend
    rw [dL,List.nil_append] at hΦ
    refine aC<|xE<|xE<|xY<|xB<|xT<|cR<|sV (aI Z Z Z0)<|sM Z<|sN<|nK [1,2,98,99,100] Z<|ax ?_
    refine aM (Zq,r,i+1) ⟨hE.trans hE2,hlt,by rw [hA]; exact hΦ⟩ (by dsimp only; omega)
  ·have hend:i=S.c.pars.length:=Nat.le_antisymm hi<|Nat.not_lt.1 Zx
   subst hend
   rw [mY,List.nil_append,<- hT3] at hΦ
   have hms:=hK.ms.up hE
   refine aC<|xE<|xE<|xY<|xT<|cS<|cQ<|sV (vF Z mO Z)<|sV (vY Z lK) ?_
   refine sV (aF Z underlying52)<|sM Z<|sK [1,2,149,150,151] Z<|cB<|aW (σ := Res×Nat) (λq=>[(1,.func (.yield yl) #[] #[]),(2,.pointer (some ⟨b2,0,none⟩)),(149,.slice mA S.ms.length mK),(150,.int .i64 S.ms.length),(151,.int .i64 (q.2:Nat))]) (λq=>pt b2 (cl [v,.map (some mb),sv S.c.name,.bool S.c.dfd,ca,.slice cb S.c.pars.length ck,ce,.slice cf S.c.feats.length cfk,ci,.slice mA S.ms.length mK,.map (some bm),.bool all] 206)::Y::mps mb m::mps bm bmp::q.1::hr) (λq=>q.2≤S.ms.length /\ Φ ((S.ms.drop q.2).flatMap S.c3++(S.apart++R)) q.1) (λq=>S.ms.length - q.2) (r,0) ⟨Nat.zero_le _,hΦ⟩ ?_
   clear hΦ
   rintro ⟨r,i⟩ ⟨hi,hΦ⟩
   simp only at hi hΦ
   dsimp only
   refine cQ<|sV (aN Z Z)<|sN<|nT<|cS<|cC Z (λhd=>?_)<|λhd=>?_
   ·have hlt:i<S.ms.length:=Zx
    rw [eD hlt,List.append_assoc] at hΦ
    obtain ⟨nb,no,ncap,nus,e2,hnus,hnrd,hn⟩:=hms.at<|Zy hlt
    obtain ⟨rfl,rfl⟩:mA=some ⟨nb,no,none⟩/\mK=ncap:=by cases e2; exact ⟨rfl,rfl⟩
    generalize S.ms[i]=x at hΦ hn
    generalize hA:(S.ms.drop (i+1)).flatMap S.c3++(S.apart++R)=A at hΦ
    have hxo:=Enc.ones hn
    obtain ⟨x2,x5,xy,x11,x12,x13,rfl,-⟩:=bZ hn
    unfold fI at *
    unfold Sk.c3 at hΦ
    refine cK<|xT<|cS<|cB<|cQ<|sV (vI (k:=i) Z Z kQ Z hlt Z)<|sV (af Z dJ Z hnrd) ?_
    refine ak iR λb23=>?_
    refine ai Z Z gF Z hxo ?_
    refine sK [1,2,23,149,150,151] Z<|cQ<|sV (vF Z gU Z)<|sV (vF Z Nq Z)<|sV (vY Z ld4) ?_
    refine sV (aZ Z)<|sM Z ?_
    by_cases hdf:S.c.dfd=false
    ·have hg:(!S.c.dfd)=true:=by rw [hdf]; rfl
     rw [hg]
     refine sG Z Z (vF Z o7 Z)<|sG Z Z (vY Z ld3) ?_
     refine sG Z Z (dE Z Z)<|sV (vQ Z Z)<|sM Z ?_
     by_cases hk3:x.kind=3
     ·rw [if_pos ⟨hdf,hk3⟩] at hΦ
      have hΦ2 : Φ (S.cf 13 x.name og0 og0::A) r:=hΦ
      have hg2:(x.kind == 3)=true:=by rw [hk3]; rfl
      rw [hg2]
      refine sG Z Z (vM Z)<|sG Z Z (af Z fH Z ag) ?_
      refine sG Z Z (vF Z dC Z)<|sG Z Z (vY Z ld9) ?_
      refine sG Z Z (aO (cells:=[sv [],sv []]) Z<|λ_=>Zz) ?_
      refine sG Z Z (aO (cells:=[sv [],sv []]) Z<|λ_=>Zz) ?_
      refine bJ Z Z Z Z jZ Z (hcn 13 x.name og0 og0) ?_
      refine kz (gd:=164) (.inr ⟨_,_,Z,Z,Z⟩) Z Z (hy _ _ _ hΦ2) ?_
      rintro u h' (⟨rfl,r',hΦ4,rfl⟩ | ⟨rfl,r',hst,rfl⟩)
      ·simp only [lC,lN]
       refine sG Z Z (aZ Z)<|sV (vQ Z Z)<|sK [1,2,149,150,151,174] Z<|aH Z ?_
       refine cK<|xB<|xT<|cR<|sV (aI Z Z Z0)<|sM Z<|sN<|nK [1,2,149,150,151] Z<|ax ?_
       refine aM (r',i+1) ⟨hlt,by rw [hA]; exact hΦ4⟩ (by dsimp only; omega)
      ·simp only [lC,lN]
       refine sG Z Z (aZ Z)<|sV (vQ Z Z)<|sK [1,2,149,150,151,174] Z<|aQ Z ?_
       refine cQ<|sA Z<|sK [4] Z<|cT<|xW<|xR<|xR<|xW<|xR ?_
       exact aj Z ⟨Y,[mps mb m,mps bm bmp,r'],Z,hE,r',Z,.inr ⟨Z,_,hst⟩⟩ sbq
     ·rw [if_neg (λh=>hk3 h.2)] at hΦ
      have hg2:(x.kind == 3)=false:=by simpa using hk3
      rw [hg2]
      iterate 9 refine aB rfl rfl rfl ?_
      refine sV (vP Z Z)<|sK [1,2,149,150,151,174] Z<|aH Z ?_
      refine cK<|xB<|xT<|cR<|sV (aI Z Z Z0)<|sM Z<|sN<|nK [1,2,149,150,151] Z<|ax ?_
      refine aM (r,i+1) ⟨hlt,by rw [hA]; exact hΦ⟩ (by dsimp only; omega)
    ·rw [if_neg (λh=>hdf h.1)] at hΦ
     have hg:(!S.c.dfd)=false:=by simpa using hdf
     rw [hg]
     iterate 3 refine aB rfl rfl rfl ?_
     refine sV (vP Z Z)<|sM Z<|aB Z Z Z ?_
     iterate 8 refine aB rfl rfl rfl ?_
     refine sV (vP Z Z)<|sK [1,2,149,150,151,174] Z<|aH Z ?_
     refine cK<|xB<|xT<|cR<|sV (aI Z Z Z0)<|sM Z<|sN<|nK [1,2,149,150,151] Z<|ax ?_
     refine aM (r,i+1) ⟨hlt,by rw [hA]; exact hΦ⟩ (by dsimp only; omega)
   ·have hend:i=S.ms.length:=Nat.le_antisymm hi<|Nat.not_lt.1 Zx
    subst hend
    rw [dL,List.nil_append] at hΦ
    have hap:=OM (v:=v) (mb:=mb) (bm:=bm) hy hall (hK.up hE) hB R r hΦ
    unfold CtX eZ at hap
    refine aC<|xE<|xE<|xY<|xT<|cQ<|sV (af Z fH Z ag) ?_
    refine sM Z<|aJ Z Z en221 Z (hap) ?_
    rintro u h' ⟨Y2,k9,rfl,hE2,r',rfl,hend⟩
    simp only [lC,lN]
    refine sA Z<|sK [4] Z<|cT ?_
    exact aj Z ⟨Y2,[mps mb m,mps bm bmp,r'],Z,hE.trans hE2,r',Z,hend⟩ sbq
end
end Go.Fl
namespace Go.Fl
open Go Go.RowKit Go.Ck Go.Proofs Go.Proofs.Tryz Go.Proofs.YtknmacdbffgjgaaGreatDoor Fx Go.Hr
theorem Fits.sums {l:FS} {fl:Nm->Fl} (h:Fits l fl) {c:FC} (hc:c∈l):(nI (comes fl l c)).length≤345600/\((comes fl l c).flatMap λx=>x.mem.pre).length≤345600/\((comes fl l c).flatMap λx=>x.mem.post).length≤345600:=Jb h.right h.flb hc
attribute [local irreducible] Go.Ck.Sub St Cd Xt Nx DrL LsW
section
variable {X Y:Res} {v v':Value} {us us':List Value}
theorem xk {mb:Nat} {m:List (Nm×Value)} {fl:Nm->Fl} {l:FS} {c:FC} {uc:List Value} {mv:Value} {ms:List Mb} {all:Bool} (hl:Ls X v l) (hc:Enc.rep X uc c) (hm:FlR X m fl) (hms:Ls X mv ms) (hF:Fits l fl) (hcl:c∈l) :
  CtX prog 58 #[.agg #[v,.map (some mb)],.agg uc.toArray,mv,.bool all] X [mps mb m] λu Y k'=>∃ b9 bm bmp ca cb ce cf ci,u = .func (.func 127) #[] #[.pointer (some ⟨b9,0,none⟩)]/\k'=[pt b9 (cl (eZ v (.map<|some mb) c ca cb ce cf ci mv (.map<|some bm) all) 206),mps mb m,mps bm bmp]/\SkR Y ⟨fl,l,c,ms,all⟩ v m ca cb ce cf ci mv bmp/\bmp.map (λp=>p.1)=keys (comes fl l c):=by
 have hfew:=hF.few<|.inl hcl
 have hby:=xe (mb:=mb) hl hc hm (hF.hf<|.inl hcl)<|by omega
 have hvo:=hl.one
 obtain ⟨ca,cb,ce,cf,ci,rfl,hca,hcb,hce,hcf,hci⟩:=gD hc
 have hone:([sv c.name,.bool c.dfd,ca,cb,ce,cf,ci]:List Value).all Value.oneCell'=true:=Enc.ones hc
 have hmo:=hms.one
 obtain ⟨cA,cKq,rfl,_⟩:=id hcb.form
 obtain ⟨fA,fK,rfl,_⟩:=id hcf.form
 obtain ⟨aA,aK,rfl,_⟩:=id hca.form
 obtain ⟨iA,iK,rfl,_⟩:=id hci.form
 obtain ⟨vAq,vK,rfl,_⟩:=id hl.form
 obtain ⟨mA,mK,rfl,_⟩:=id hms.form
 unfold CtX at hby ⊢
 unfold eZ
 refine aL (n:=19) func58 Z Z (len Z) λhr w0=>?_
 refine cQ (aP Z Z λb4=>?_)
 refine aP Z Z λb5=>?_
 refine sA Z<|sK [2,3,4,5,8] Z<|cS<|jr (ork [(0,1),(1,1),(2,2),(3,1),(4,1),(6,2)]<|.two 5 (ork [(7,2),(8,0),(9,0)] .nil) 8<|ork [(5,0),(7,2),(9,0)] .nil) (λi => !(Nat.beq i 9)) [pt b4 (cl [.slice vAq l.length vK,.map (some mb)] 114),pt b5 (cl [sv c.name,.bool c.dfd,.slice aA c.forms.length aK,.slice cA c.pars.length cKq,ce,.slice fA c.feats.length fK,.slice iA c.inv.length iK] 44)] mixed Zz ?_
 refine bi Z (af Z gZ Z ag) ?_
 refine bi Z (af Z gL Z ag) ?_
 refine dV Z (vM Z)<|bi Z (af Z gZ Z ag) ?_
 refine bi Z (af Z gL Z ag) ?_
 refine dV Z (vM Z)<|mZ Z Z ?_ ?_
 ·refine aJ Z Z J9 Z (hby) ?_
  rintro u h' ⟨Y,k',rfl,hE,bm,E,rfl,rfl,hbk⟩
  simp only [lC,lN]
  refine aY ?_
  refine dV Z (aO (cells:=[.slice vAq l.length vK,.map (some mb),sv c.name,.bool c.dfd,.slice aA c.forms.length aK,.slice cA c.pars.length cKq,ce,.slice fA c.feats.length fK,.slice iA c.inv.length iK,.slice mA ms.length mK,.map (some bm),.bool all]) Z<|λ_=>Zz) ?_
  refine aV Z (ak al206 λb9=>aY ?_)
  have hone2:([.slice vAq l.length vK,.map (some mb),sv c.name,.bool c.dfd,.slice aA c.forms.length aK,.slice cA c.pars.length cKq,ce,.slice fA c.feats.length fK,.slice iA c.inv.length iK,.slice mA ms.length mK,.map (some bm),.bool all]:List Value).all Value.oneCell'=true:=by simp only [List.all_cons,List.all_nil,hce,Bool.and_true,Bool.true_and]; rfl
  refine aV Z<|ai Z Z sz206 Z hone2<|aY ?_
  refine bA<|nK [8,9] Z<|nT<|cQ<|sV (cz Z Z)<|sA Z<|sK [8] Z<|cT (dZ (r:=BN E) slq λhokE=>?_)
  refine iy [BN E] Y λY2 hE2 hsel=>?_
  have hls:=KH hbk hE2 hokE (hsel _ _ .here)<|by omega
  have hlk:=yX hbk.1 hls
  have hk0:=hbk.1
  have hE3:=hE.trans hE2
  exact aj Z ⟨Y2,_,Z,hE3,b9,bm,kw E,_,_,_,_,_,Z,Z,⟨hl.up hE3,hca.up hE3,hcb.up hE3,hce,hcf.up hE3,hci.up hE3,hm.up hE3,hms.up hE3,hlk⟩,by rw [jQ]; exact hk0⟩ sbq
 ·refine ak al206 λb9=>aY ?_
  refine aV Z<|aJ Z Z J9 Z (hby) ?_
  rintro u h' ⟨Y,k',rfl,hE,bm,E,rfl,rfl,hbk⟩
  simp only [lC,lN]
  refine aY ?_
  refine dV Z (aO (cells:=[.slice vAq l.length vK,.map (some mb),sv c.name,.bool c.dfd,.slice aA c.forms.length aK,.slice cA c.pars.length cKq,ce,.slice fA c.feats.length fK,.slice iA c.inv.length iK,.slice mA ms.length mK,.map (some bm),.bool all]) Z<|λ_=>Zz) ?_
  have hone2:([.slice vAq l.length vK,.map (some mb),sv c.name,.bool c.dfd,.slice aA c.forms.length aK,.slice cA c.pars.length cKq,ce,.slice fA c.feats.length fK,.slice iA c.inv.length iK,.slice mA ms.length mK,.map (some bm),.bool all]:List Value).all Value.oneCell'=true:=by simp only [List.all_cons,List.all_nil,hce,Bool.and_true,Bool.true_and]; rfl
  refine aV Z<|ai Z Z sz206 Z hone2<|aY ?_
  refine bA<|nK [8,9] Z<|nT<|cQ<|sV (cz Z Z)<|sA Z<|sK [8] Z<|cT (dZ (r:=BN E) slq λhokE=>?_)
  refine iy [BN E] Y λY2 hE2 hsel=>?_
  have hls:=KH hbk hE2 hokE (hsel _ _ .here)<|by omega
  have hlk:=yX hbk.1 hls
  have hk0:=hbk.1
  have hE3:=hE.trans hE2
  exact aj Z ⟨Y2,_,Z,hE3,b9,bm,kw E,_,_,_,_,_,Z,Z,⟨hl.up hE3,hca.up hE3,hcb.up hE3,hce,hcf.up hE3,hci.up hE3,hm.up hE3,hms.up hE3,hlk⟩,by rw [jQ]; exact hk0⟩ sbq

theorem uD {yl mb bm b9 : Nat} {Φ : List Cf -> Res -> Prop} {Stop : Cf -> Res -> Prop} (hy : Yh yl Φ Stop) {S : Sk} {all : Bool} (hall : S.all = all) {m bmp : List (Nm × Value)} {ca cb ce cf ci mv : Value} (hK : SkR X S v m ca cb ce cf ci mv bmp) (hB : SkB S) (hk0 : bmp.map (λp => p.1) = keys S.cs) (cn : Nm) (hcn0 : S.c = ae S.l cn) (r0 : Res) (h0 : Φ S.conflicts r0) :
  eu prog 127 #[.func (.yield yl) #[] #[],.pointer (some ⟨b9,0,none⟩)] X [pt b9 (cl (eZ v (.map<|some mb) S.c ca cb ce cf ci mv (.map<|some bm) all) 206),mps mb m,mps bm bmp,r0] λu Y k'=>u = .tuple #[]/\∃ r,k'=[pt b9 (cl (eZ v (.map<|some mb) S.c ca cb ce cf ci mv (.map<|some bm) all) 206),mps mb m,mps bm bmp,r]/\(Φ [] r∨∃ x,Stop x r):=by
 have e1:S.conflicts=S.lost++(S.redeclared++(S.typed++(S.chosen++(S.apart++[])))):=by rw [List.append_nil]; rfl
 rw [e1] at h0
 have h1:=lost_ct (v:=v) (mb:=mb) (bm:=bm) hy hall hK hB _ r0 h0
 have ho:([v,.map (some mb),sv S.c.name,.bool S.c.dfd,ca,cb,ce,cf,ci,mv,.map (some bm),.bool all]:List Value).all Value.oneCell'=true:=by
  simp only [List.all_cons,List.all_nil,hK.l.one,hK.a.one,hK.par.one,hK.e,hK.feat.one,hK.inv.one,hK.ms.one,Bool.and_true,Bool.true_and]; rfl
 unfold CtX at h1
 unfold eu
 unfold eZ at *
 refine fw (n:=21) func127 Z Z (len Z) λhr w0 hw0=>?_
 refine cR<|sV (af Z fH Z ag) ?_
 refine sM Z<|aJ Z Z en128 Z (h1) ?_
 rintro u h' ⟨Y,k',rfl,hE,r,rfl,hend⟩
 simp only [lC,lN]
 rcases hend with ⟨rfl,hΦ⟩ | ⟨rfl,hst⟩
 ·have h2:=Bg (v:=v) (mb:=mb) (bm:=bm) hy hall (hK.up hE) hB hk0 _ r hΦ
  unfold CtX eZ at h2
  refine sM Z<|sG Z Z (af Z fH Z ag) ?_
  refine sG Z Z (vM Z)<|lI Z Z<|aJ Z Z en129 Z (h2) ?_
  rintro u h' ⟨Y2,k',rfl,hE2,r,rfl,hend⟩
  simp only [lC,lN]
  have hE2:=hE.trans hE2
  rcases hend with ⟨rfl,hΦ⟩ | ⟨rfl,hst⟩
  ·have h3:=OL (v:=v) (mb:=mb) (bm:=bm) hy hall (hK.up hE2) hB hk0 _ r hΦ
   unfold CtX eZ at h3
   refine sV (vQ Z Z)<|sM Z<|sG Z Z (af Z fH Z ag) ?_
   refine sG Z Z (vM Z)<|lI Z Z<|aJ Z Z en130 Z (h3) ?_
   rintro u h' ⟨Y3,k',rfl,hE3,r,rfl,hend⟩
   simp only [lC,lN]
   have hE3:=hE2.trans hE3
   rcases hend with ⟨rfl,hΦ⟩ | ⟨rfl,hst⟩
   ·have h4:=Mg (v:=v) (mb:=mb) (bm:=bm) hy hall (hK.up hE3) hB cn hcn0 [] r hΦ
    unfold eu eZ at h4
    refine sV (vQ Z Z)<|sM Z<|sG Z Z (af Z fH Z ag) ?_
    refine sG Z Z (vM Z)<|lI Z Z<|bM hw0 Z Z en131 Z (h4) ?_
    rintro u h' ⟨Y4,k',rfl,hE4,r,rfl,hend⟩
    simp only [lC,lN]
    have hE4:=hE3.trans hE4
    have hend : Φ [] r∨∃ x,Stop x r:=hend.elim (λh=>.inl h.2) λh=>.inr h.2
    refine sV (vQ Z Z)<|sN<|nK [] Z<|ax ?_
    exact zA Z ⟨Y4,_,Z,hE4,Z,r,Z,hend⟩ sbq
   ·refine sV (vQ Z Z)<|sM Z<|aB Z Z Z ?_
    iterate 2 refine aB rfl rfl rfl ?_
    refine sV (vP Z Z)<|sN<|nK [] Z<|ax ?_
    exact zA Z ⟨Y3,_,Z,hE3,Z,r,Z,.inr hst⟩ sbq
  ·refine sV (vQ Z Z)<|sM Z<|aB Z Z Z ?_
   iterate 2 refine aB rfl rfl rfl ?_
   refine sV (vP Z Z)<|sM Z<|aB Z Z Z ?_
   iterate 2 refine aB rfl rfl rfl ?_
   refine sV (vP Z Z)<|sN<|nK [] Z<|ax ?_
   exact zA Z ⟨Y2,_,Z,hE2,Z,r,Z,.inr hst⟩ sbq
 ·refine sM Z<|aB Z Z Z ?_
  iterate 2 refine aB rfl rfl rfl ?_
  refine sV (vP Z Z)<|sM Z<|aB Z Z Z ?_
  iterate 2 refine aB rfl rfl rfl ?_
  refine sV (vP Z Z)<|sM Z<|aB Z Z Z ?_
  iterate 2 refine aB rfl rfl rfl ?_
  refine sV (vP Z Z)<|sN<|nK [] Z<|ax ?_
  exact zA Z ⟨Y,_,Z,hE,Z,r,Z,.inr hst⟩ sbq
 theorem en127w:Ck.Enters prog 127:=enters_of func127 Zz rfl
end
end Go.Fl
