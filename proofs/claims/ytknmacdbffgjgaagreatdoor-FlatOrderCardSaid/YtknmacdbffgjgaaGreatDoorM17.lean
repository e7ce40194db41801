/-
  Package flat: build. Conditions: the right form; sizes.
-/
import Derived.Test.YtknmacdbffgjgaaGreatDoorM16
set_option linter.unusedVariables false
set_option linter.unusedSimpArgs false
set_option maxRecDepth 100000
set_option maxHeartbeats 16000000
namespace Go.Fl
open Go Go.RowKit Go.Ck Go.Proofs Go.Proofs.Tryz Go.Proofs.YtknmacdbffgjgaaGreatDoor Fx Go.Hr
namespace Sk
section
variable (s:Sk)
def ap (d:Sd):List Cf:=s.pairs (s.ms.filter λm=>m.seeds.contains d) (λa b => !sameTy a b) λa b=>⟨14,s.c.name,a.name,b.name,⟨d.cls,d.name⟩,og0⟩
theorem apart_eq:s.apart=s.seeds.flatMap s.ap:=rfl
theorem seeds_len {s:Sk} (hB:SkB s):s.seeds.length≤432000:=by
 have h1:s.seeds.length≤(s.ms.flatMap λm=>m.seeds).length:=aW (jO _).1.nodup λx hx=>((jO _).2 x).1 hx
 exact Nat.le_trans h1 hB.ms
end
end Sk
attribute [local irreducible] Go.Ck.Sub St Cd Xt Nx DrL LsW
section
variable {X Y:Res} {v v':Value} {us us':List Value}

theorem OU {yl mb bm : Nat} {Φ : List Cf -> Res -> Prop} {Stop : Cf -> Res -> Prop} (hy : Yh yl Φ Stop) {S : Sk} {all : Bool} (hall : S.all = all) {m bmp : List (Nm × Value)} {ca cb ce cf ci mv : Value} (hK : SkR X S v m ca cb ce cf ci mv bmp) (hB : SkB S) (R : List Cf) (r0 : Res) (h0 : Φ (S.apart ++ R) r0) :
  CtX prog 221 #[.agg (fu v (.map<|some mb) S.c ca cb ce cf ci mv (.map<|some bm) all).toArray,.func (.yield yl) #[] #[]] X [mps mb m,mps bm bmp,r0] λu Y k'=>∃ r,k'=[mps mb m,mps bm bmp,r]/\Yend Φ Stop R u r:=by
 have hml:maxLen=9223372036854775807:=rfl
 obtain ⟨cb,ck,rfl,hckl,hckm,_⟩:=id hK.par.form
 obtain ⟨cf,cfk,rfl,_⟩:=id hK.feat.form
 obtain ⟨mA,mK,rfl,_⟩:=id hK.ms.form
 have hcn:=λb=>gD (fv:=.map<|some mb) (c:=S.c) (v:=v) (ca:=ca) (cb:=.slice cb S.c.pars.length ck) (ce:=ce) (cf:=.slice cf S.c.feats.length cfk) (ci:=ci) (mv:=.slice mA S.ms.length mK) (bv:=.map<|some bm) (all:=all) b
 have hsel:=Sk.seeds_len hB
 rw [Sk.apart_eq] at h0
 unfold CtX
 unfold fu at *
 refine aL (n:=78) func221 Z Z (len Z) λhr w0=>?_
 refine cQ (aV Z Z λb2=>?_)
 refine sA Z<|sK [1,2,4] Z<|cS<|cQ<|sV (vF Z mI Z)<|sV (vY Z oW) ?_
 refine aH Z Z en219 Z (xU hK.ms (by have:=hB.ms; omega)) ?_
 rintro u h' ⟨hu,rfl⟩
 simp only [lC,lN]
 have hsd:rq (S.ms.flatMap λm=>m.seeds)=S.seeds:=rfl
 rw [hsd]
 refine jD (v:=u) (E:=69) (sz:=2) (rows:=S.seeds.map sdC) slq λwa wc hwf hwl hwm=>?_
 rw [List.length_map] at hwf hwl
 subst hwf
 refine sV (aF Z underlying67)<|sM Z<|sK [1,2,4,15,16,17] Z<|cB<|aZ (σ := Res×Res×Nat) (λq=>[(1,.func (.yield yl) #[] #[]),(2,.pointer (some ⟨b2,0,none⟩)),(15,.slice wa S.seeds.length wc),(16,.int .i64 S.seeds.length),(17,.int .i64 (q.2.2:Nat))]) (λq=>VR (.slice wa S.seeds.length wc) 69 2 (S.seeds.map sdC)::pt b2 (cl [v,.map (some mb),sv S.c.name,.bool S.c.dfd,ca,.slice cb S.c.pars.length ck,ce,.slice cf S.c.feats.length cfk,ci,.slice mA S.ms.length mK,.map (some bm),.bool all] 206)::q.1::mps mb m::mps bm bmp::q.2.1::hr) (λq=>Ext X q.1/\q.2.2≤S.seeds.length /\ Φ ((S.seeds.drop q.2.2).flatMap (S.ap)++R) q.2.1) (λq=>S.seeds.length - q.2.2) (X,r0,0) ⟨Ext.refl X,Nat.zero_le _,h0⟩ ?_
 rintro ⟨Y,r,j⟩ ⟨hE,hj,hΦ⟩
 simp only at hE hj hΦ
 dsimp only
 refine cQ<|sV (aN Z Z)<|sN<|nT<|cS<|cC Z (λhd=>?_)<|λhd=>?_
 ·have hltj:j<S.seeds.length:=Zx
  rw [eu hltj,List.append_assoc] at hΦ
  have hnx:(S.seeds.map sdC)[j]? = some (sdC S.seeds[j]):=by rw [List.getElem?_map,Zy hltj]; rfl
  refine fw (r:=VR (.slice wa S.seeds.length wc) 69 2<|S.seeds.map sdC) slq λhok=>?_
  obtain ⟨ab,ao,rfl⟩:∃ ab ao,wa=some ⟨ab,ao,none⟩:=by
   obtain ⟨f0,hf0⟩:=hok
   rcases VR.form hf0 with ⟨h3,h4⟩ | ⟨b,o,cp,h3,-⟩
   ·have:=List.map_eq_nil_iff.1 h4
    rw [this] at hltj; simp at hltj
   ·rw [List.length_map] at h3; cases h3; exact ⟨b,o,rfl⟩
  generalize S.seeds[j]=d at hΦ hnx
  generalize hA:(S.seeds.drop (j+1)).flatMap (S.ap)++R=A at hΦ
  unfold sdC at hnx
  have hK2:=hK.up hE
  refine cK<|xT<|cS<|cB<|cQ<|sV (vI (k:=j) Z Z nX Z hltj Z)<|sV (af Z ic Z<|dN hnx) ?_
  refine ax al69 λb6=>?_
  refine ai Z Z sz69 Z Z ?_
  refine sK [1,2,6,15,16,17] Z<|cQ<|sV (vF Z mI Z)<|sV (vY Z oW) ?_
  have hmf:=hB.mf
  have hrb:reachBytes=140737488351232:=rfl
  refine aH Z Z en160 Z (Gy hK2.ms) ?_
  rintro u h' ⟨T,rfl,rows,rfl,ho,hro⟩
  simp only [lC,lN]
  refine sV (bW Z Z) (KH [pt b6 (cl [sv d.cls,sv d.name] 69)] Y λY2 hE2 hsel2 hpk=>?_)
  have hb6:Rds Y2 b6 0 [sv d.cls,sv d.name]:=λi hi=>hsel2 _ _ .here _ _<|ah i hi
  refine aH Z Z en268 Z (Md (g:=λm:Mb => !m.seeds.contains d) (cp := #[.pointer (some ⟨b6,0,none⟩)]) (hro.up hE2) (by omega) en269 λQ hQ a _ us h=>Jy h<|λi hi=>hQ _ _<|hb6 i hi) ?_
  rintro u h' ⟨rows',hu2,hro',rfl⟩
  simp only [lC,lN]
  have hfi:(S.ms.filter λx => !(!x.seeds.contains d))=S.ms.filter λm=>m.seeds.contains d:=by simp
  rw [hfi] at hro'
  have hΦ : Φ (S.pairs (S.ms.filter λm=>m.seeds.contains d) (λa b => !Sk.sameTy a b) (λa b=>⟨14,S.c.name,a.name,b.name,⟨d.cls,d.name⟩,og0⟩)++A) r:=hΦ
  have hLl:(S.ms.filter λm=>m.seeds.contains d).length≤300:=Nat.le_trans (List.length_filter_le _ _) hmf
  generalize (S.ms.filter λm=>m.seeds.contains d)=L at hro' hΦ hLl
  refine sA Z<|sK [1,2,6,7,15,16,17] Z<|cS ?_
  have hrl:=hro'.1
  refine fq (v:=u) (E:=75) (sz:=14) (rows:=rows') slq λla lc hlf hll hlm=>?_
  rw [hrl] at hlf hll
  subst hlf
  refine fw (r:=VR (.slice la L.length lc) 75 14 rows') slq λhok2=>?_
  refine IP [VR (.slice la L.length lc) 75 14 rows'] Y2 λY3 hE3 hsel3=>?_
  have hls:Ls Y3 (.slice la L.length lc) L:=Rws.ls (E:=75) (hro'.up hE3) hok2 (hsel3 _ _ .here) (by show L.length * 232≤reachBytes; omega)
  have hb63:∀ i (hi:i<[sv d.cls,sv d.name].length),Rd Y3 ⟨b6,0+i,none⟩ [sv d.cls,sv d.name][i]:=λi hi=>hE3.rd _ _<|hb6 i hi
  have hE4:=hE.trans<|hE2.trans hE3
  refine cR<|sM Z<|sV (aF Z underlying52)<|sM Z<|sN<|nT<|cB<|aZ (σ := Res×Nat) (λq=>[(1,.func (.yield yl) #[] #[]),(2,.pointer (some ⟨b2,0,none⟩)),(15,.slice (some ⟨ab,ao,none⟩) S.seeds.length wc),(16,.int .i64 S.seeds.length),(17,.int .i64 (j:Nat)),(6,.pointer (some ⟨b6,0,none⟩)),(7,.slice la L.length lc),(26,.slice la L.length lc),(27,.int .i64 L.length),(28,.int .i64 (q.2:Nat))]) (λq=>VR (.slice (some ⟨ab,ao,none⟩) S.seeds.length wc) 69 2 (S.seeds.map sdC)::pt b2 (cl [v,.map (some mb),sv S.c.name,.bool S.c.dfd,ca,.slice cb S.c.pars.length ck,ce,.slice cf S.c.feats.length cfk,ci,.slice mA S.ms.length mK,.map (some bm),.bool all] 206)::Y3::mps mb m::mps bm bmp::q.1::hr) (λq=>q.2≤L.length /\ Φ ((L.zipIdx.drop q.2).flatMap (λa=>kZ S L (λa b => !Sk.sameTy a b) (λa b=>⟨14,S.c.name,a.name,b.name,⟨d.cls,d.name⟩,og0⟩) a 0)++A) q.1) (λq=>L.length - q.2) (r,0) ⟨Nat.zero_le _,hΦ⟩ ?_
  clear hΦ
  rintro ⟨r,i⟩ ⟨hi,hΦ⟩
  simp only at hi hΦ
  dsimp only
  refine cQ<|sV (aN Z Z)<|sN<|nT<|cS<|cC Z (λhd2=>?_)<|λhd2=>?_
  ·have hlti:i<L.length:=Zw
   rw [kC hlti,List.append_assoc] at hΦ
   obtain ⟨cb',co,ccap,cus,e4,hcus,hcrd,hcr⟩:=hls.at<|Zy hlti
   obtain ⟨rfl,rfl⟩:la=some ⟨cb',co,none⟩/\lc=ccap:=by cases e4; exact ⟨rfl,rfl⟩
   generalize L[i]=x at hΦ hcr
   generalize hA2:(L.zipIdx.drop (i+1)).flatMap (λa=>kZ S L (λa b => !Sk.sameTy a b) (λa b=>⟨14,S.c.name,a.name,b.name,⟨d.cls,d.name⟩,og0⟩) a 0)++A=A2 at hΦ
   have hxr:=hcr
   have hxo:=Enc.ones hcr
   obtain ⟨x2,x5,xy,x11,x12,x13,rfl,-⟩:=dI hcr
   unfold iB at *
   refine cK<|xT<|cS<|cB<|cQ<|sM Z<|sV (vI (k:=i) Z Z nU Z hlti Z)<|sV (af Z fB Z hcrd) ?_
   refine ax jY λb9=>?_
   refine sA Z<|ai Z Z iO Z hxo ?_
   refine sK [1,2,6,7,8,9,15,16,17,26,27,28] Z<|cQ<|sM Z<|sV (aF Z underlying52)<|sM Z<|sN<|nT<|cB<|aZ (σ := Res×Nat) (λq=>[(1,.func (.yield yl) #[] #[]),(2,.pointer (some ⟨b2,0,none⟩)),(15,.slice (some ⟨ab,ao,none⟩) S.seeds.length wc),(16,.int .i64 S.seeds.length),(17,.int .i64 (j:Nat)),(6,.pointer (some ⟨b6,0,none⟩)),(7,.slice (some ⟨cb',co,none⟩) L.length lc),(26,.slice (some ⟨cb',co,none⟩) L.length lc),(27,.int .i64 L.length),(28,.int .i64 (i:Nat)),(8,.int .i64 (i:Nat)),(9,.pointer (some ⟨b9,0,none⟩)),(33,.slice (some ⟨cb',co,none⟩) L.length lc),(34,.int .i64 L.length),(35,.int .i64 (q.2:Nat))]) (λq=>pt b9 (cl [sv x.name,.int .i64 x.kind,x2,sv x.impl.cls,sv x.impl.name,x5,.int .i64 x.ty.kind,sv x.ty.name,xy,.bool x.ty.void,.bool x.ty.sep,x11,x12,x13] 75)::VR (.slice (some ⟨ab,ao,none⟩) S.seeds.length wc) 69 2 (S.seeds.map sdC)::pt b2 (cl [v,.map (some mb),sv S.c.name,.bool S.c.dfd,ca,.slice cb S.c.pars.length ck,ce,.slice cf S.c.feats.length cfk,ci,.slice mA S.ms.length mK,.map (some bm),.bool all] 206)::Y3::mps mb m::mps bm bmp::q.1::hr) (λq=>q.2≤L.length /\ Φ (kZ S L (λa b => !Sk.sameTy a b) (λa b=>⟨14,S.c.name,a.name,b.name,⟨d.cls,d.name⟩,og0⟩) (x,i) q.2++A2) q.1) (λq=>L.length - q.2) (r,0) ⟨Nat.zero_le _,hΦ⟩ ?_
   clear hΦ
   rintro ⟨r,k⟩ ⟨hk,hΦ⟩
   simp only at hk hΦ
   dsimp only
   refine cQ<|sV (aN Z Z)<|sN<|nT<|cS<|cC Z (λhd3=>?_)<|λhd3=>?_
   ·have hltk:k<L.length:=Zr
    rw [EJ hltk,List.append_assoc] at hΦ
    obtain ⟨eb,eo,ecap,eus,e6,heus,herd,her⟩:=hls.at<|Zy hltk
    obtain ⟨rfl,rfl⟩:cb'=eb/\co=eo:=by cases e6; exact ⟨rfl,rfl⟩
    generalize L[k]=y at hΦ her
    have hst:=wU hxr her
    have hyo:=Enc.ones her
    obtain ⟨y2,y5,yy,y11,y12,y13,rfl,-⟩:=dI her
    unfold iB at *
    refine cK<|xT<|cS<|cB<|cQ<|sM Z<|sV (vI (k:=k) Z Z nU Z hltk Z)<|sV (af Z fB Z herd) ?_
    refine ax jY λb11=>?_
    refine sA Z<|ai Z Z iO Z hyo ?_
    refine sK [1,2,6,7,8,9,10,11,15,16,17,26,27,28,33,34,35] Z<|cS<|cQ<|sM Z<|sM Z<|sV (dD Z Z)<|sM Z ?_
    by_cases hik:i=k
    ·have hq:(((i:Nat):Int) == ((k:Nat):Int))=true:=by rw [hik]; simp
     rw [hq]
     iterate 4 refine aC rfl rfl rfl ?_
     refine cz Z Z ?_
     refine cz Z Z ?_
     refine cz Z Z ?_
     refine aC Z Z Z ?_
     refine sV (vQ Z Z)<|sM Z<|aC Z Z Z ?_
     iterate 2 refine aC rfl rfl rfl ?_
     refine sV (vQ Z Z)<|sK [1,2,6,7,8,9,11,15,16,17,26,27,28,33,34,35,57] Z<|aT Z ?_
     refine aB<|xE<|xY<|xT<|cR<|sV (aI Z Z Z6)<|sM Z<|sN<|nK [1,2,6,7,8,9,15,16,17,26,27,28,33,34,35] Z<|au ?_
     refine aM (r,k+1) ⟨hltk,by rw [if_pos (.inl hik)] at hΦ; exact hΦ⟩ (by dsimp only; omega)
    ·have hq:(((i:Nat):Int) == ((k:Nat):Int))=false:=by simp; omega
     rw [hq]
     refine sG Z Z (vF Z pg Z)<|sG Z Z (vY Z ld4) ?_
     refine sG Z Z (bi Z)<|sG Z Z (vM Z) ?_
     cases all
     ·refine sG Z Z (vM Z)<|sG Z Z (vM Z)<|sG Z Z (aN Z Z)<|sG Z Z (vQ Z Z)<|sV (vP Z Z)<|sM Z ?_
      by_cases hki:k<i
      ·have hq2:decide (((k:Nat):Int)<((i:Nat):Int))=true:=by simp; omega
       rw [hq2]
       iterate 3 refine aC rfl rfl rfl ?_
       refine sV (vQ Z Z)<|sK [1,2,6,7,8,9,11,15,16,17,26,27,28,33,34,35,57] Z<|aT Z ?_
       refine aB<|xE<|xY<|xT<|cR<|sV (aI Z Z Z6)<|sM Z<|sN<|nK [1,2,6,7,8,9,15,16,17,26,27,28,33,34,35] Z<|au ?_
       refine aM (r,k+1) ⟨hltk,by rw [if_pos (.inr<|.inl ⟨hall,hki⟩)] at hΦ; exact hΦ⟩ (by dsimp only; omega)
      ·have hq2:decide (((k:Nat):Int)<((i:Nat):Int))=false:=by simp; omega
       rw [hq2]
       refine sG Z Z (af Z fB Z ah) ?_
       refine sG Z Z (af Z fB Z ah) ?_
       refine bR Z Z Z Z Kq Z (hst) ?_
       refine sV (vP Z Z)<|sK [1,2,6,7,8,9,11,15,16,17,26,27,28,33,34,35,57] Z ?_
       generalize hsb:Sk.sameTy x y=bq at hΦ ⊢
       cases bq
       ·have hΦ2 : Φ (⟨14,S.c.name,x.name,y.name,⟨d.cls,d.name⟩,og0⟩::(kZ S L (λa b => !Sk.sameTy a b) (λa b=>⟨14,S.c.name,a.name,b.name,⟨d.cls,d.name⟩,og0⟩) (x,i) (k+1)++A2)) r:=by
         rw [if_neg (λh=>h.elim hik λh=>h.elim (λh=>hki h.2)<|λh=>by cases h)] at hΦ
         exact hΦ
        refine aG Z ?_
        refine cK<|xT<|cQ<|sV (af Z fT Z ah) ?_
        refine sV (vF Z eD Z)<|sV (vY Z ld9) ?_
        refine sV (vF Z wF Z)<|sV (vY Z ld9 (ha:=⟨_,_,slq,hb63 0<|by simp⟩)) ?_
        refine sV (vF Z wG Z)<|sV (vY Z ld9 (ha:=⟨_,_,slq,hb63 1<|by simp⟩)) ?_
        refine sV (aQ (cells:=[sv d.cls,sv d.name]) Z<|λ_=>Zz) ?_
        refine sV (aQ (cells:=[sv [],sv []]) Z<|λ_=>Zz) ?_
        refine aY Z Z jZ Z (hcn 14 x.name ⟨d.cls,d.name⟩ og0) ?_
        unfold cfV cfC
        refine ax zQ λb12=>?_
        refine ai Z Z tK Z Z ?_
        refine sK [1,2,6,7,8,9,11,12,15,16,17,26,27,28,33,34,35] Z<|cQ<|sV (vF Z eD Z)<|sV (vY Z ld9) ?_
        refine sV (vF Z D7 Z)<|bf Z Z sz9 ?_
        refine sK [1,2,6,7,8,9,12,15,16,17,26,27,28,33,34,35] Z<|cQ<|sM Z<|sV (af Z qP Z ah) ?_
        refine kw (gd:=0) (.inl Z) Z Z (hy _ _ _ hΦ2) ?_
        rintro u h' (⟨rfl,r',hΦ4,rfl⟩ | ⟨rfl,r',hst,rfl⟩)
        ·simp only [lC,lN]
         refine sV (bi Z)<|sK [1,2,6,7,8,9,15,16,17,26,27,28,33,34,35,74] Z<|aG Z ?_
         refine cK<|xB<|xT<|cR<|sV (aI Z Z Z6)<|sM Z<|sN<|nK [1,2,6,7,8,9,15,16,17,26,27,28,33,34,35] Z<|au ?_
         refine aM (r',k+1) ⟨hltk,hΦ4⟩ (by dsimp only; omega)
        ·simp only [lC,lN]
         refine sV (bi Z)<|sK [1,2,6,7,8,9,15,16,17,26,27,28,33,34,35,74] Z<|aT Z ?_
         refine cQ<|sA Z<|sK [4] Z<|cT<|xW<|xR<|xR<|xW<|xW<|xR<|xR<|xW<|xW ?_
         refine xR<|xR<|xW<|xR ?_
         exact aj Z ⟨Y3,[mps mb m,mps bm bmp,r'],Z,hE4,r',Z,.inr ⟨Z,_,hst⟩⟩ sbq
       ·refine aT Z ?_
        refine aB<|xE<|xY<|xT<|cR<|sV (aI Z Z Z6)<|sM Z<|sN<|nK [1,2,6,7,8,9,15,16,17,26,27,28,33,34,35] Z<|au ?_
        refine aM (r,k+1) ⟨hltk,by rw [if_pos (.inr<|.inr Z)] at hΦ; exact hΦ⟩ (by dsimp only; omega)
     ·iterate 3 refine aC rfl rfl rfl ?_
      refine sG Z Z (vP Z Z)<|sV (vP Z Z)<|sM Z<|sG Z Z (af Z fB Z ah) ?_
      refine sG Z Z (af Z fB Z ah) ?_
      refine bR Z Z Z Z Kq Z (hst) ?_
      refine sV (vP Z Z)<|sK [1,2,6,7,8,9,11,15,16,17,26,27,28,33,34,35,57] Z ?_
      generalize hsb:Sk.sameTy x y=bq at hΦ ⊢
      cases bq
      ·have hΦ2 : Φ (⟨14,S.c.name,x.name,y.name,⟨d.cls,d.name⟩,og0⟩::(kZ S L (λa b => !Sk.sameTy a b) (λa b=>⟨14,S.c.name,a.name,b.name,⟨d.cls,d.name⟩,og0⟩) (x,i) (k+1)++A2)) r:=by
        rw [if_neg (λh=>h.elim hik λh=>h.elim (λh=>by rw [hall] at h; cases h.1)<|λh=>by cases h)] at hΦ
        exact hΦ
       refine aG Z ?_
       refine cK<|xT<|cQ<|sV (af Z fT Z ah) ?_
       refine sV (vF Z eD Z)<|sV (vY Z ld9) ?_
       refine sV (vF Z wF Z)<|sV (vY Z ld9 (ha:=⟨_,_,slq,hb63 0<|by simp⟩)) ?_
       refine sV (vF Z wG Z)<|sV (vY Z ld9 (ha:=⟨_,_,slq,hb63 1<|by simp⟩)) ?_
       refine sV (aQ (cells:=[sv d.cls,sv d.name]) Z<|λ_=>Zz) ?_
       refine sV (aQ (cells:=[sv [],sv []]) Z<|λ_=>Zz) ?_
       refine aY Z Z jZ Z (hcn 14 x.name ⟨d.cls,d.name⟩ og0) ?_
       unfold cfV cfC
       refine ax zQ λb12=>?_
       refine ai Z Z tK Z Z ?_
       refine sK [1,2,6,7,8,9,11,12,15,16,17,26,27,28,33,34,35] Z<|cQ<|sV (vF Z eD Z)<|sV (vY Z ld9) ?_
       refine sV (vF Z D7 Z)<|bf Z Z sz9 ?_
       refine sK [1,2,6,7,8,9,12,15,16,17,26,27,28,33,34,35] Z<|cQ<|sM Z<|sV (af Z qP Z ah) ?_
       refine kw (gd:=0) (.inl Z) Z Z (hy _ _ _ hΦ2) ?_
       rintro u h' (⟨rfl,r',hΦ4,rfl⟩ | ⟨rfl,r',hst,rfl⟩)
       ·simp only [lC,lN]
        refine sV (bi Z)<|sK [1,2,6,7,8,9,15,16,17,26,27,28,33,34,35,74] Z<|aG Z ?_
        refine cK<|xB<|xT<|cR<|sV (aI Z Z Z6)<|sM Z<|sN<|nK [1,2,6,7,8,9,15,16,17,26,27,28,33,34,35] Z<|au ?_
        refine aM (r',k+1) ⟨hltk,hΦ4⟩ (by dsimp only; omega)
       ·simp only [lC,lN]
        refine sV (bi Z)<|sK [1,2,6,7,8,9,15,16,17,26,27,28,33,34,35,74] Z<|aT Z ?_
        refine cQ<|sA Z<|sK [4] Z<|cT<|xW<|xR<|xR<|xW<|xW<|xR<|xR<|xW<|xW ?_
        refine xR<|xR<|xW<|xR ?_
        exact aj Z ⟨Y3,[mps mb m,mps bm bmp,r'],Z,hE4,r',Z,.inr ⟨Z,_,hst⟩⟩ sbq
      ·refine aT Z ?_
       refine aB<|xE<|xY<|xT<|cR<|sV (aI Z Z Z6)<|sM Z<|sN<|nK [1,2,6,7,8,9,15,16,17,26,27,28,33,34,35] Z<|au ?_
       refine aM (r,k+1) ⟨hltk,by rw [if_pos (.inr<|.inr Z)] at hΦ; exact hΦ⟩ (by dsimp only; omega)
   ·have hend:k=L.length:=Nat.le_antisymm hk<|Nat.not_lt.1 Zr
    subst hend
    rw [AV,List.nil_append] at hΦ
    refine aB<|xE<|xE<|xY<|xB<|xT<|cR<|sV (aI Z Z Z6)<|sM Z<|sN<|nK [1,2,6,7,15,16,17,26,27,28] Z<|au ?_
    refine aM (r,i+1) ⟨hlti,by rw [hA2]; exact hΦ⟩ (by dsimp only; omega)
  ·have hend:i=L.length:=Nat.le_antisymm hi<|Nat.not_lt.1 Zw
   subst hend
   rw [mR,List.nil_append] at hΦ
   refine aB<|xE<|xE<|xY<|xB<|xT<|cR<|sV (aI Z Z Z6)<|sM Z<|sN<|nK [1,2,15,16,17] Z<|au ?_
   refine aM (Y3,r,j+1) ⟨hE4,hltj,by rw [hA]; exact hΦ⟩ (by dsimp only; omega)
 ·have hend:j=S.seeds.length:=Nat.le_antisymm hj<|Nat.not_lt.1 Zx
  subst hend
  rw [dL,List.nil_append] at hΦ
  refine aB<|xE<|xE<|xY<|xT<|cQ<|sA Z<|sK [4] Z<|cT ?_
  exact aj Z ⟨Y,[mps mb m,mps bm bmp,r],Z,hE,r,Z,.inl ⟨Z,hΦ⟩⟩ sbq
end
end Go.Fl
namespace Go.Fl
open Go Go.RowKit Go.Ck Go.Proofs Go.Proofs.Tryz Go.Proofs.YtknmacdbffgjgaaGreatDoor Fx Go.Hr
namespace Sk
section
variable (s:Sk)
def c1 (d:Sd):List Cf:=if (s.sel d).2 then [] else s.cut (s.pairs (bn s.ms d) (λ_ _=>true) λa b=>⟨11,s.c.name,a,b,⟨d.cls,d.name⟩,og0⟩)
def c2a (p:Pt×Nat) (n:Nm):List Cf:=if s.fro p.2 n≠[]/\(((dZ s.ms n).getD mb0).seeds.any λd=>decide (1<(bn s.ms d).length))=false then [s.cf 12 n ⟨p.1.name,n⟩ og0] else []
def c2 (p:Pt×Nat):List Cf:=p.1.sel.flatMap (s.c2a p)
def c3 (m:Mb):List Cf:=if s.c.dfd=false/\m.kind=3 then [s.cf 13 m.name og0 og0] else []
theorem chosen_eq (R:List Cf):s.chosen++R=s.seeds.flatMap s.c1++(s.c.pars.zipIdx.flatMap s.c2++(s.ms.flatMap s.c3++R)):=by
 unfold chosen
 simp only [List.append_assoc]
 rfl
end
end Sk
attribute [local irreducible] Go.Ck.Sub St Cd Xt Nx DrL LsW
section
variable {X Y:Res} {v v':Value} {us us':List Value}

theorem Mf {yl mb bm : Nat} {Φ : List Cf -> Res -> Prop} {Stop : Cf -> Res -> Prop} (hy : Yh yl Φ Stop) {S : Sk} {all : Bool} (hall : S.all = all) {m bmp : List (Nm × Value)} {ca cb ce cf ci mv : Value} (hK : SkR X S v m ca cb ce cf ci mv bmp) (hB : SkB S) (cn : Nm) (hcn0 : S.c = ae S.l cn) (R : List Cf) (r0 : Res) (h0 : Φ (S.chosen ++ (S.apart ++ R)) r0) :
  dQ prog 131 #[.agg (fu v (.map<|some mb) S.c ca cb ce cf ci mv (.map<|some bm) all).toArray,.func (.yield yl) #[] #[]] X [mps mb m,mps bm bmp,r0] λu Y k'=>∃ r,k'=[mps mb m,mps bm bmp,r]/\Yend Φ Stop R u r:=by
 have hml:maxLen=9223372036854775807:=rfl
 obtain ⟨cb,ck,rfl,hckl,hckm,_⟩:=id hK.par.form
 obtain ⟨cf,cfk,rfl,_⟩:=id hK.feat.form
 obtain ⟨mA,mK,rfl,_⟩:=id hK.ms.form
 have hcn:=λb=>gD (fv:=.map<|some mb) (c:=S.c) (v:=v) (ca:=ca) (cb:=.slice cb S.c.pars.length ck) (ce:=ce) (cf:=.slice cf S.c.feats.length cfk) (ci:=ci) (mv:=.slice mA S.ms.length mK) (bv:=.map<|some bm) (all:=all) b
 have hsel:=Sk.seeds_len hB
 rw [Sk.chosen_eq] at h0
 generalize hT3:S.ms.flatMap S.c3++(S.apart++R)=T3 at h0
 generalize hT2:S.c.pars.zipIdx.flatMap S.c2++T3=T2 at h0
 have hrk:rk (aO S.l) cn≤S.l.length:=by
  have:=qF (aO S.l) cn
  rwa [eO] at this
 have hb0:∀ b,Rds (pt b<|cl [v,.map (some mb),sv S.c.name,.bool S.c.dfd,ca,.slice cb S.c.pars.length ck,ce,.slice cf S.c.feats.length cfk,ci,.slice mA S.ms.length mK,.map (some bm),.bool all] 206) b (0+0) [v,.map (some mb)]:=λb=>bD (k:=0) ah rfl
 have hb2:∀ b,Rds (pt b<|cl [v,.map (some mb),sv S.c.name,.bool S.c.dfd,ca,.slice cb S.c.pars.length ck,ce,.slice cf S.c.feats.length cfk,ci,.slice mA S.ms.length mK,.map (some bm),.bool all] 206) b (0+2) [sv S.c.name,.bool S.c.dfd,ca,.slice cb S.c.pars.length ck,ce,.slice cf S.c.feats.length cfk,ci]:=λb=>bD (k:=2) ah rfl
 unfold dQ
 unfold fu at *
 refine fQ (n:=179) func131 Z Z (len Z) λhr w0 hw0=>?_
 refine cQ (aV Z Z λb2=>?_)
 refine sA Z<|sK [1,2,4] Z<|cS<|cQ<|sV (vF Z mI Z)<|sV (vY Z oW) ?_
 refine aH Z Z en219 Z (xU hK.ms (by have:=hB.ms; omega)) ?_
 rintro u h' ⟨hu,rfl⟩
 simp only [lC,lN]
 have hsd:rq (S.ms.flatMap λm=>m.seeds)=S.seeds:=rfl
 rw [hsd]
 refine jD (v:=u) (E:=69) (sz:=2) (rows:=S.seeds.map sdC) slq λwa wc hwf hwl hwm=>?_
 rw [List.length_map] at hwf hwl
 subst hwf
 refine sV (aF Z underlying67)<|sM Z<|sK [1,2,4,26,27,28] Z<|cB<|aZ (σ := Res×Res×Nat) (λq=>[(1,.func (.yield yl) #[] #[]),(2,.pointer (some ⟨b2,0,none⟩)),(26,.slice wa S.seeds.length wc),(27,.int .i64 S.seeds.length),(28,.int .i64 (q.2.2:Nat))]) (λq=>VR (.slice wa S.seeds.length wc) 69 2 (S.seeds.map sdC)::pt b2 (cl [v,.map (some mb),sv S.c.name,.bool S.c.dfd,ca,.slice cb S.c.pars.length ck,ce,.slice cf S.c.feats.length cfk,ci,.slice mA S.ms.length mK,.map (some bm),.bool all] 206)::q.1::mps mb m::mps bm bmp::q.2.1::hr) (λq=>Ext X q.1/\q.2.2≤S.seeds.length /\ Φ ((S.seeds.drop q.2.2).flatMap (S.c1)++T2) q.2.1) (λq=>S.seeds.length - q.2.2) (X,r0,0) ⟨Ext.refl X,Nat.zero_le _,h0⟩ ?_
 rintro ⟨Y,r,j⟩ ⟨hE,hj,hΦ⟩
 simp only at hE hj hΦ
 dsimp only
 refine cQ<|sV (aN Z Z)<|sN<|nT<|cS<|cC Z (λhd=>?_)<|λhd=>?_
 ·have hltj:j<S.seeds.length:=Zx
  rw [eu hltj,List.append_assoc] at hΦ
  have hnx:(S.seeds.map sdC)[j]? = some (sdC S.seeds[j]):=by rw [List.getElem?_map,Zy hltj]; rfl
  refine fw (r:=VR (.slice wa S.seeds.length wc) 69 2<|S.seeds.map sdC) slq λhok=>?_
  obtain ⟨ab,ao,rfl⟩:∃ ab ao,wa=some ⟨ab,ao,none⟩:=by
   obtain ⟨f0,hf0⟩:=hok
   rcases VR.form hf0 with ⟨h3,h4⟩ | ⟨b,o,cp,h3,-⟩
   ·have:=List.map_eq_nil_iff.1 h4
    rw [this] at hltj; simp at hltj
   ·rw [List.length_map] at h3; cases h3; exact ⟨b,o,rfl⟩
  generalize S.seeds[j]=d at hΦ hnx
  generalize hA:(S.seeds.drop (j+1)).flatMap (S.c1)++T2=A at hΦ
  unfold sdC at hnx
  have hK2:=hK.up hE
  refine cK<|xT<|cS<|cB<|cQ<|sV (vI (k:=j) Z Z nX Z hltj Z)<|sV (af Z ic Z<|dN hnx) ?_
  refine ax al69 λb6=>?_
  refine ai Z Z sz69 Z Z ?_
  refine sK [1,2,6,26,27,28] Z<|FB<|cQ<|sV (vF Z mI Z)<|sV (vY Z oW) ?_
  refine sV (af Z ic Z ah) ?_
  refine aH Z Z FK Z (lQ (s:=d) hK2.ms) ?_
  rintro u h' ⟨T,rfl,hu,rfl⟩
  simp only [lC,lN]
  unfold NR
  refine sA Z<|sK [1,2,6,7,26,27,28] Z<|cS<|cS ?_
  have hnl:=Dq S.ms d
  have hmf:=hB.mf
  refine fq (v:=u) (E:=9) (sz:=1) (rows:=(bn S.ms d).map nC) slq λla lc hlf hll hlm=>?_
  rw [List.length_map] at hlf hll
  subst hlf
  refine cR<|sV (vF Z Ec Z)<|sV (af Z ig Z<|hb0 b2) ?_
  refine sV (vF Z gV Z)<|sV (af Z gp Z<|hb2 b2) ?_
  refine sV (vF Z mI Z)<|sV (vY Z oW) ?_
  refine sV (af Z ic Z ah) ?_
  refine bL hw0 Z Z en98 Z (xZ hB.fits S.l.length Y S.c cn _ _ S.ms d hcn0 hrk hK2.l hK2.c hK2.fl hK2.ms) ?_
  rintro u h' ⟨Y2,k9,rfl,hE2,rfl,rfl⟩
  simp only [lC,lN]
  have hsl:eZ S.fl S.l S.l.length S.c S.ms d=S.sel d:=rfl
  rw [hsl]
  unfold Sk.c1 at hΦ
  have hE3:=hE.trans hE2
  refine sM Z<|sV (ag Z Z)<|sV (ag Z Z)<|sA Z<|sA Z<|sK [1,2,6,7,9,26,27,28] Z<|cQ<|sM Z<|sK [1,2,6,7,26,27,28,47] Z ?_
  cases hq:(S.sel d).2
  ·rw [hq] at hΦ
   have hΦ : Φ (S.cut (S.pairs (bn S.ms d) (λ_ _=>true)<|λa b=>⟨11,S.c.name,a,b,⟨d.cls,d.name⟩,og0⟩)++A) r:=hΦ
   generalize bn S.ms d=L at hΦ hnl hll
   refine aG Z ?_
   refine cK<|xT<|cS<|Fv<|xT<|cQ<|sM Z<|sV (aF Z underlying40)<|sM Z<|sK [1,2,6,7,26,27,28,48,49,50] Z<|cB<|aZ (σ := Res×Nat) (λq=>[(1,.func (.yield yl) #[] #[]),(2,.pointer (some ⟨b2,0,none⟩)),(26,.slice (some ⟨ab,ao,none⟩) S.seeds.length wc),(27,.int .i64 S.seeds.length),(28,.int .i64 (j:Nat)),(6,.pointer (some ⟨b6,0,none⟩)),(7,.slice la L.length lc),(48,.slice la L.length lc),(49,.int .i64 L.length),(50,.int .i64 (q.2:Nat))]) (λq=>VR (.slice la L.length lc) 9 1 (L.map nC)::pt b6 (cl [sv d.cls,sv d.name] 69)::VR (.slice (some ⟨ab,ao,none⟩) S.seeds.length wc) 69 2 (S.seeds.map sdC)::pt b2 (cl [v,.map (some mb),sv S.c.name,.bool S.c.dfd,ca,.slice cb S.c.pars.length ck,ce,.slice cf S.c.feats.length cfk,ci,.slice mA S.ms.length mK,.map (some bm),.bool all] 206)::Y2::mps mb m::mps bm bmp::q.1::hr) (λq=>q.2≤L.length /\ Φ (S.cut ((L.zipIdx.drop q.2).flatMap<|λa=>kZ S L (λ_ _=>true) (λa b=>⟨11,S.c.name,a,b,⟨d.cls,d.name⟩,og0⟩) a 0)++A) q.1) (λq=>L.length - q.2) (r,0) ⟨Nat.zero_le _,hΦ⟩ ?_
   clear hΦ
   rintro ⟨r,i⟩ ⟨hi,hΦ⟩
   simp only at hi hΦ
   dsimp only
   refine cQ<|sV (aN Z Z)<|sN<|nT<|cS<|cC Z (λhd2=>?_)<|λhd2=>?_
   ·have hlti:i<L.length:=Zw
    rw [kC hlti] at hΦ
    have hnxi:(L.map nC)[i]? = some [sv L[i]]:=by rw [List.getElem?_map,Zy hlti]; rfl
    refine fw (r:=VR (.slice la L.length lc) 9 1<|L.map nC) slq λhok2=>?_
    obtain ⟨nb,no,rfl⟩:∃ nb no,la=some ⟨nb,no,none⟩:=by
     obtain ⟨f0,hf0⟩:=hok2
     rcases VR.form hf0 with ⟨h3,h4⟩ | ⟨b,o,cp,h3,-⟩
     ·have:=List.map_eq_nil_iff.1 h4
      rw [this] at hlti; simp at hlti
     ·rw [List.length_map] at h3; cases h3; exact ⟨b,o,rfl⟩
    generalize L[i]=x at hΦ hnxi
    refine cK<|xT<|cS<|cB<|cQ<|sM Z<|sV (vI (k:=i) Z Z jv Z hlti Z)<|sV (vY Z ld9 (ha:=⟨_,_,slq,dN hnxi 0<|by simp⟩)) ?_
    refine sA Z<|sA Z<|sK [1,2,6,7,10,11,26,27,28,48,49,50] Z<|cQ<|sM Z<|sV (aF Z underlying40)<|sM Z<|sN<|nT<|cB<|aZ (σ := Res×Nat) (λq=>[(1,.func (.yield yl) #[] #[]),(2,.pointer (some ⟨b2,0,none⟩)),(26,.slice (some ⟨ab,ao,none⟩) S.seeds.length wc),(27,.int .i64 S.seeds.length),(28,.int .i64 (j:Nat)),(6,.pointer (some ⟨b6,0,none⟩)),(7,.slice (some ⟨nb,no,none⟩) L.length lc),(48,.slice (some ⟨nb,no,none⟩) L.length lc),(49,.int .i64 L.length),(50,.int .i64 (i:Nat)),(10,.int .i64 (i:Nat)),(11,sv x),(55,.slice (some ⟨nb,no,none⟩) L.length lc),(56,.int .i64 L.length),(57,.int .i64 (q.2:Nat))]) (λq=>VR (.slice (some ⟨nb,no,none⟩) L.length lc) 9 1 (L.map nC)::pt b6 (cl [sv d.cls,sv d.name] 69)::VR (.slice (some ⟨ab,ao,none⟩) S.seeds.length wc) 69 2 (S.seeds.map sdC)::pt b2 (cl [v,.map (some mb),sv S.c.name,.bool S.c.dfd,ca,.slice cb S.c.pars.length ck,ce,.slice cf S.c.feats.length cfk,ci,.slice mA S.ms.length mK,.map (some bm),.bool all] 206)::Y2::mps mb m::mps bm bmp::q.1::hr) (λq=>q.2≤L.length /\ Φ (S.cut (kZ S L (λ_ _=>true) (λa b=>⟨11,S.c.name,a,b,⟨d.cls,d.name⟩,og0⟩) (x,i) q.2++(L.zipIdx.drop (i+1)).flatMap (λa=>kZ S L (λ_ _=>true) (λa b=>⟨11,S.c.name,a,b,⟨d.cls,d.name⟩,og0⟩) a 0))++A) q.1) (λq=>L.length - q.2) (r,0) ⟨Nat.zero_le _,hΦ⟩ ?_
    clear hΦ
    rintro ⟨r,k⟩ ⟨hk,hΦ⟩
    simp only at hk hΦ
    dsimp only
    refine cQ<|sV (aN Z Z)<|sN<|nT<|cS<|cC Z (λhd3=>?_)<|λhd3=>?_
    ·have hltk:k<L.length:=Zr
     rw [EJ hltk] at hΦ
     have hnxk:(L.map nC)[k]? = some [sv L[k]]:=by rw [List.getElem?_map,Zy hltk]; rfl
     generalize L[k]=y at hΦ hnxk
     refine cK<|xT<|cS<|cB<|cQ<|sM Z<|sV (vI (k:=k) Z Z jv Z hltk Z)<|sV (vY Z ld9 (ha:=⟨_,_,slq,dN hnxk 0<|by simp⟩)) ?_
     refine sA Z<|sA Z<|sK [1,2,6,7,10,11,12,13,26,27,28,48,49,50,55,56,57] Z<|cS<|cQ<|sM Z<|sM Z<|sV (dD Z Z)<|sM Z ?_
     by_cases hik:i=k
     ·have hq:(((i:Nat):Int) == ((k:Nat):Int))=true:=by rw [hik]; simp
      rw [hq]
      iterate 4 refine aC rfl rfl rfl ?_
      refine cz Z Z ?_
      refine cz Z Z ?_
      refine cz Z Z ?_
      refine aC Z Z Z ?_
      refine sV (vQ Z Z)<|sK [1,2,6,7,10,11,13,26,27,28,48,49,50,55,56,57,74] Z<|aT Z ?_
      refine aB<|xE<|xY<|xT<|cR<|sV (aI Z Z Z6)<|sM Z<|sN<|nK [1,2,6,7,10,11,26,27,28,48,49,50,55,56,57] Z<|au ?_
      refine aM (r,k+1) ⟨hltk,by rw [if_pos (.inl hik)] at hΦ; exact hΦ⟩ (by dsimp only; omega)
     ·have hq:(((i:Nat):Int) == ((k:Nat):Int))=false:=by simp; omega
      rw [hq]
      refine sG Z Z (vF Z pg Z)<|sG Z Z (vY Z ld4) ?_
      refine sG Z Z (bi Z)<|sG Z Z (vM Z) ?_
      cases all
      ·refine sG Z Z (vM Z)<|sG Z Z (vM Z)<|sG Z Z (aN Z Z)<|sG Z Z (vQ Z Z)<|sV (vP Z Z)<|sK [1,2,6,7,10,11,13,26,27,28,48,49,50,55,56,57,74] Z ?_
       by_cases hki:k<i
       ·have hq2:decide (((k:Nat):Int)<((i:Nat):Int))=true:=by simp; omega
        rw [hq2]
        refine aT Z ?_
        refine aB<|xE<|xY<|xT<|cR<|sV (aI Z Z Z6)<|sM Z<|sN<|nK [1,2,6,7,10,11,26,27,28,48,49,50,55,56,57] Z<|au ?_
        refine aM (r,k+1) ⟨hltk,by rw [if_pos (.inr<|.inl ⟨hall,hki⟩)] at hΦ; exact hΦ⟩ (by dsimp only; omega)
       ·have hq2:decide (((k:Nat):Int)<((i:Nat):Int))=false:=by simp; omega
        rw [hq2]
        have hΦ2 : Φ (⟨11,S.c.name,x,y,⟨d.cls,d.name⟩,og0⟩::((if S.all then kZ S L (λ_ _=>true) (λa b=>⟨11,S.c.name,a,b,⟨d.cls,d.name⟩,og0⟩) (x,i) (k+1)++(L.zipIdx.drop (i+1)).flatMap (λa=>kZ S L (λ_ _=>true) (λa b=>⟨11,S.c.name,a,b,⟨d.cls,d.name⟩,og0⟩) a 0) else [])++A)) r:=by
         rw [if_neg (λh=>h.elim hik λh=>h.elim (λh=>hki h.2)<|λh=>by cases h)] at hΦ
         rw [lC,lN,List.cons_append,wh] at hΦ
         exact hΦ
        refine aG Z ?_
        refine cK<|xT<|cQ<|sV (af Z fT Z ah) ?_
        refine sM Z<|sV (vF Z wF Z)<|sV (vY Z ld9) ?_
        refine sV (vF Z wG Z)<|sV (vY Z ld9) ?_
        refine sV (aQ (cells:=[sv d.cls,sv d.name]) Z<|λ_=>Zz) ?_
        refine sV (aQ (cells:=[sv [],sv []]) Z<|λ_=>Zz) ?_
        refine aY Z Z jZ Z (hcn 11 x ⟨d.cls,d.name⟩ og0) ?_
        unfold cfV cfC
        refine ax zQ λb14=>?_
        refine ai Z Z tK Z Z ?_
        refine sK [1,2,6,7,10,11,13,14,26,27,28,48,49,50,55,56,57] Z<|cQ<|sM Z<|sV (vF Z D7 Z)<|bf Z Z sz9 ?_
        refine sK [1,2,6,7,10,11,14,26,27,28,48,49,50,55,56,57] Z<|cS<|cQ<|sM Z<|sV (af Z qP Z ah) ?_
        refine kw (gd:=0) (.inl Z) Z Z (hy _ _ _ hΦ2) ?_
        rintro u h' (⟨rfl,r',hΦ4,rfl⟩ | ⟨rfl,r',hst,rfl⟩)
        ·simp only [lC,lN]
         refine sV (bi Z)<|sK [1,2,6,7,10,11,26,27,28,48,49,50,55,56,57,89] Z<|aG Z ?_
         refine cK<|xT<|cQ<|sV (vF Z pg Z)<|sV (vY Z ld4) ?_
         refine sV (bi Z)<|sK [1,2,6,7,10,11,26,27,28,48,49,50,55,56,57,92] Z<|aT Z ?_
         refine aB<|fZ (by decide) ?_
         refine xE<|xE<|fZ (by decide) ?_
         refine fZ (by decide) ?_
         refine xE<|xE<|xY<|qi<|xB<|xT<|cR<|sV (aI Z Z Z6)<|sM Z<|sN<|nK [1,2,26,27,28] Z<|au ?_
         rw [hall] at hΦ4
         refine aM (Y2,r',j+1) ⟨hE3,hltj,by rw [hA]; exact hΦ4⟩ (by dsimp only; omega)
        ·simp only [lC,lN]
         refine sV (bi Z)<|sK [1,2,6,7,10,11,26,27,28,48,49,50,55,56,57,89] Z<|aT Z ?_
         refine cQ<|sA Z<|sK [4] Z<|cT<|xR<|xW<|xR<|xR<|xW<|xW<|xR<|xR<|xW ?_
         refine fF<|xW<|xR<|xR<|xW<|xR ?_
         exact aj Z ⟨Y2,[mps mb m,mps bm bmp,r'],Z,hE3,r',Z,.inr ⟨Z,_,hst⟩⟩ sbq
      ·iterate 3 refine aC rfl rfl rfl ?_
       refine sG Z Z (vP Z Z)<|sV (vP Z Z)<|sK [1,2,6,7,10,11,13,26,27,28,48,49,50,55,56,57,74] Z ?_
       have hΦ2 : Φ (⟨11,S.c.name,x,y,⟨d.cls,d.name⟩,og0⟩::((if S.all then kZ S L (λ_ _=>true) (λa b=>⟨11,S.c.name,a,b,⟨d.cls,d.name⟩,og0⟩) (x,i) (k+1)++(L.zipIdx.drop (i+1)).flatMap (λa=>kZ S L (λ_ _=>true) (λa b=>⟨11,S.c.name,a,b,⟨d.cls,d.name⟩,og0⟩) a 0) else [])++A)) r:=by
        rw [if_neg (λh=>h.elim hik λh=>h.elim (λh=>by rw [hall] at h; cases h.1)<|λh=>by cases h)] at hΦ
        rw [lC,lN,List.cons_append,wh] at hΦ
        exact hΦ
       refine aG Z ?_
       refine cK<|xT<|cQ<|sV (af Z fT Z ah) ?_
       refine sM Z<|sV (vF Z wF Z)<|sV (vY Z ld9) ?_
       refine sV (vF Z wG Z)<|sV (vY Z ld9) ?_
       refine sV (aQ (cells:=[sv d.cls,sv d.name]) Z<|λ_=>Zz) ?_
       refine sV (aQ (cells:=[sv [],sv []]) Z<|λ_=>Zz) ?_
       refine aY Z Z jZ Z (hcn 11 x ⟨d.cls,d.name⟩ og0) ?_
       unfold cfV cfC
       refine ax zQ λb14=>?_
       refine ai Z Z tK Z Z ?_
       refine sK [1,2,6,7,10,11,13,14,26,27,28,48,49,50,55,56,57] Z<|cQ<|sM Z<|sV (vF Z D7 Z)<|bf Z Z sz9 ?_
       refine sK [1,2,6,7,10,11,14,26,27,28,48,49,50,55,56,57] Z<|cS<|cQ<|sM Z<|sV (af Z qP Z ah) ?_
       refine kw (gd:=0) (.inl Z) Z Z (hy _ _ _ hΦ2) ?_
       rintro u h' (⟨rfl,r',hΦ4,rfl⟩ | ⟨rfl,r',hst,rfl⟩)
       ·simp only [lC,lN]
        refine sV (bi Z)<|sK [1,2,6,7,10,11,26,27,28,48,49,50,55,56,57,89] Z<|aG Z ?_
        refine cK<|xT<|cQ<|sV (vF Z pg Z)<|sV (vY Z ld4) ?_
        refine sV (bi Z)<|sK [1,2,6,7,10,11,26,27,28,48,49,50,55,56,57,92] Z<|aG Z ?_
        refine cK<|xB<|xT<|cR<|sV (aI Z Z Z6)<|sM Z<|sN<|nK [1,2,6,7,10,11,26,27,28,48,49,50,55,56,57] Z<|au ?_
        rw [hall] at hΦ4
        refine aM (r',k+1) ⟨hltk,by unfold Sk.cut; rw [hall]; exact hΦ4⟩ (by dsimp only; omega)
       ·simp only [lC,lN]
        refine sV (bi Z)<|sK [1,2,6,7,10,11,26,27,28,48,49,50,55,56,57,89] Z<|aT Z ?_
        refine cQ<|sA Z<|sK [4] Z<|cT<|xR<|xW<|xR<|xR<|xW<|xW<|xR<|xR<|xW ?_
        refine fF<|xW<|xR<|xR<|xW<|xR ?_
        exact aj Z ⟨Y2,[mps mb m,mps bm bmp,r'],Z,hE3,r',Z,.inr ⟨Z,_,hst⟩⟩ sbq
    ·have hend:k=L.length:=Nat.le_antisymm hk<|Nat.not_lt.1 Zr
     subst hend
     rw [AV,List.nil_append] at hΦ
     refine aB<|xE<|xE<|xY<|xB<|xT<|cR<|sV (aI Z Z Z6)<|sM Z<|sN<|nK [1,2,6,7,26,27,28,48,49,50] Z<|au ?_
     refine aM (r,i+1) ⟨hlti,hΦ⟩ (by dsimp only; omega)
   ·have hend:i=L.length:=Nat.le_antisymm hi<|Nat.not_lt.1 Zw
    subst hend
    rw [mR] at hΦ
    have hΦ : Φ A r:=by
     have:S.cut []=[]:=by unfold Sk.cut; split <;> rfl
     rw [this] at hΦ; exact hΦ
    refine aB<|xE<|xE<|xY<|qi<|xB<|xT<|cR<|sV (aI Z Z Z6)<|sM Z<|sN<|nK [1,2,26,27,28] Z<|au ?_
    refine aM (Y2,r,j+1) ⟨hE3,hltj,by rw [hA]; exact hΦ⟩ (by dsimp only; omega)
  ·rw [hq] at hΦ
   have hΦ : Φ A r:=hΦ
   refine aT Z ?_
   refine aB<|xE<|Be<|xY<|xT<|cR<|sV (aI Z Z Z6)<|sM Z<|sN<|nK [1,2,26,27,28] Z<|au ?_
   refine aM (Y2,r,j+1) ⟨hE3,hltj,by rw [hA]; exact hΦ⟩ (by dsimp only; omega)
 ·have hend:j=S.seeds.length:=Nat.le_antisymm hj<|Nat.not_lt.1 Zx
  subst hend
  rw [dL,List.nil_append,<- hT2] at hΦ
  refine aB<|xE<|xE<|xY<|xT<|cS<|cQ<|sV (vF Z gV Z)<|sV (vF Z fC Z)<|sV (vY Z mi) ?_
  refine sV (aF Z underlying39)<|sM Z<|sK [1,2,98,99,100] Z<|cB<|aZ (σ := Res×Res×Nat) (λq=>[(1,.func (.yield yl) #[] #[]),(2,.pointer (some ⟨b2,0,none⟩)),(98,.slice cb S.c.pars.length ck),(99,.int .i64 S.c.pars.length),(100,.int .i64 (q.2.2:Nat))]) (λq=>pt b2 (cl [v,.map (some mb),sv S.c.name,.bool S.c.dfd,ca,.slice cb S.c.pars.length ck,ce,.slice cf S.c.feats.length cfk,ci,.slice mA S.ms.length mK,.map (some bm),.bool all] 206)::q.1::mps mb m::mps bm bmp::q.2.1::hr) (λq=>Ext X q.1/\q.2.2≤S.c.pars.length /\ Φ ((S.c.pars.zipIdx.drop q.2.2).flatMap S.c2++T3) q.2.1) (λq=>S.c.pars.length - q.2.2) (Y,r,0) ⟨hE,Nat.zero_le _,hΦ⟩ ?_
  clear hΦ hE
  clear Y r
  rintro ⟨Y,r,i⟩ ⟨hE,hi,hΦ⟩
  simp only at hE hi hΦ
  dsimp only
  refine cQ<|sV (aN Z Z)<|sN<|nT<|cS<|cC Z (λhd=>?_)<|λhd=>?_
  ·have hlt:i<S.c.pars.length:=Zx
   rw [kC hlt,List.append_assoc] at hΦ
   have hlis:=hB.lists<|List.getElem_mem hlt
   obtain ⟨pb,po,pcap,pus,e1,hpus,hprd,hp⟩:=(hK.par.up hE).at<|Zy hlt
   obtain ⟨rfl,rfl⟩:cb=some ⟨pb,po,none⟩/\ck=pcap:=by cases e1; exact ⟨rfl,rfl⟩
   generalize S.c.pars[i]=p at hΦ hlis hp
   generalize hA:(S.c.pars.zipIdx.drop (i+1)).flatMap S.c2++T3=A at hΦ
   obtain ⟨hlR,hlU,hlD,hlS⟩:=hlis
   obtain ⟨pa,pr,pu,pd,pS,rfl,hpa,hpR,hpu,hpd,hpsel⟩:=hp
   obtain ⟨aA,kA,rfl,_⟩:=id hpa.form
   obtain ⟨aR,kR,rfl,_⟩:=id hpR.form
   obtain ⟨aU,kU,rfl,_⟩:=id hpu.form
   obtain ⟨aD,kD,rfl,_⟩:=id hpd.form
   obtain ⟨aS,kS,rfl,_⟩:=id hpsel.form
   refine cK<|xT<|cS<|cB<|cQ<|sM Z<|sV (vI (k:=i) Z Z oV Z hlt Z)<|sV (af Z qB Z hprd) ?_
   refine ax vC λb16=>?_
   refine sA Z<|ai Z Z sF Z Z ?_
   have hΦ : Φ (p.sel.flatMap (S.c2a (p,i))++A) r:=hΦ
   refine sK [1,2,15,16,98,99,100] Z<|cQ<|sV (vF Z zP Z)<|sV (vY Z fG) ?_
   refine sV (aF Z underlying40)<|sM Z<|sK [1,2,15,16,98,99,100,106,107,108] Z<|cB<|aZ (σ := Res×Res×Nat) (λq=>[(1,.func (.yield yl) #[] #[]),(2,.pointer (some ⟨b2,0,none⟩)),(98,.slice (some ⟨pb,po,none⟩) S.c.pars.length ck),(99,.int .i64 S.c.pars.length),(100,.int .i64 (i:Nat)),(15,.int .i64 (i:Nat)),(16,.pointer (some ⟨b16,0,none⟩)),(106,.slice aS p.sel.length kS),(107,.int .i64 p.sel.length),(108,.int .i64 (q.2.2:Nat))]) (λq=>pt b16 (cl [sv p.name,.slice aA p.args.length kA,.slice aR p.ren.length kR,.slice aU p.und.length kU,.slice aD p.red.length kD,.slice aS p.sel.length kS] 88)::pt b2 (cl [v,.map (some mb),sv S.c.name,.bool S.c.dfd,ca,.slice (some ⟨pb,po,none⟩) S.c.pars.length ck,ce,.slice cf S.c.feats.length cfk,ci,.slice mA S.ms.length mK,.map (some bm),.bool all] 206)::q.1::mps mb m::mps bm bmp::q.2.1::hr) (λq=>Ext Y q.1/\q.2.2≤p.sel.length /\ Φ ((p.sel.drop q.2.2).flatMap (S.c2a (p,i))++A) q.2.1) (λq=>p.sel.length - q.2.2) (Y,r,0) ⟨Ext.refl Y,Nat.zero_le _,hΦ⟩ ?_
   clear hΦ
   rintro ⟨Zq,r,j⟩ ⟨hE2,hj,hΦ⟩
   simp only at hE2 hj hΦ
   dsimp only
   refine cQ<|sV (aN Z Z)<|sN<|nT<|cS<|cC Z (λhd2=>?_)<|λhd2=>?_
   ·have hltj:j<p.sel.length:=Zw
    rw [eu hltj,List.append_assoc] at hΦ
    have hEZ:=hE.trans hE2
    have hK9:=hK.up hEZ
    obtain ⟨nb,no,ncap,nus,e2,hnus,hnrd,hn⟩:=(hpsel.up hE2).at<|Zy hltj
    obtain ⟨rfl,rfl⟩:aS=some ⟨nb,no,none⟩/\kS=ncap:=by cases e2; exact ⟨rfl,rfl⟩
    generalize p.sel[j]=x at hΦ hn
    subst hn
    refine cK<|xT<|cS<|cB<|cQ<|sV (vI (k:=j) Z Z jv Z hltj Z)<|sV (vY Z ld9 (ha:=⟨_,_,slq,hnrd 0<|by simp⟩)) ?_
    refine sA Z<|sK [1,2,15,16,18,98,99,100,106,107,108] Z<|cQ<|sV (vF Z mI Z)<|sV (vY Z oW) ?_
    refine sM Z<|aH Z Z en169 Z (ut (n:=x) hK9.ms) ?_
    rintro u h' ⟨rfl,gus,rfl,hgr⟩
    simp only [lC,lN]
    have hmf:(S.ms.find? λc=>c.name == x)=dZ S.ms x:=rfl
    rw [hmf]
    rw [hmf] at hgr
    unfold Sk.c2a at hΦ
    dsimp only at hΦ
    generalize (dZ S.ms x).getD mb0=m0 at hgr hΦ
    have hgo:=Enc.ones hgr
    obtain ⟨g2,g5,gy,g11,g12,g13,rfl,hg2,-⟩:=dI hgr
    obtain ⟨ga2,gk2,rfl,_⟩:=id hg2.form
    unfold iB at *
    refine sM Z<|sV (ag Z Z)<|sV (ag Z Z) (ax jY λb19=>?_)
    refine ai Z Z iO Z hgo ?_
    refine sA Z<|sK [1,2,15,16,18,19,98,99,100,106,107,108] Z<|cQ<|sV (vF Z eF Z)<|sV (vY Z oZ) ?_
    refine sV (bW Z Z) ?_
    have hany:=eG<|NZ (X:=Res.star [pt b2 (cl [v,.map (some mb),sv S.c.name,.bool S.c.dfd,ca,.slice (some ⟨pb,po,none⟩) S.c.pars.length ck,ce,.slice cf S.c.feats.length cfk,ci,.slice mA S.ms.length mK,.map (some bm),.bool all] 206),Zq]) (xs:=m0.seeds) (g:=λd=>decide (1<(bn S.ms d).length)) (cp := #[.pointer (some ⟨b2,0,none⟩)]) (hg2.up'<|bH<|.there .here) en220<|λa _ us h=>Jz h (bH .here _ _<|bU rfl)<|hK9.ms.up'<|bH<|.there .here
    refine aY Z Z en31 Z (hany) ?_
    refine sA Z<|sK [1,2,15,16,18,21,98,99,100,106,107,108] Z<|cQ<|sV (af Z fT Z ah) ?_
    refine sM Z<|sM Z<|aH Z Z Ko Z (qf (v:=v) (fv:=.map<|some mb) (c:=S.c) (ca:=ca) (cb:=.slice (some ⟨pb,po,none⟩) S.c.pars.length ck) (ce:=ce) (cf:=.slice cf S.c.feats.length cfk) (ci:=ci) (mv:=.slice mA S.ms.length mK) (all:=all) (bm:=bm) (i:=i) (n:=x) (hK9.by' x) (by have:=hB.under x; omega)) ?_
    rintro u h' ⟨Y3,k9,rfl,hE4,rows,hu,hro,rfl⟩
    simp only [lC,lN]
    have hro:Rws Y3 rows (S.fro i x):=hro
    have hrl:=hro.1
    have hfl:=hB.fro i x
    refine jD (v:=u) (E:=191) (sz:=18) (rows:=rows) slq λla lc hlf hll hlm=>?_
    rw [hrl] at hlf hll
    subst hlf
    have hE6:=hE2.trans hE4
    have hEZ4:=hE.trans hE6
    generalize (m0.seeds.any λd=>decide (1<(bn S.ms d).length))=many at hΦ ⊢
    generalize S.fro i x=l at hΦ hro hrl hfl ⊢
    refine sV (aF Z underlying187)<|sV (bZ Z Z)<|sM Z ?_
    by_cases hq:l=[]
    ·rw [if_neg (λh=>h.1 hq)] at hΦ
     have hg:decide ((0:Int)<(l.length:Nat))=false:=by rw [hq]; rfl
     rw [hg]
     iterate 2 refine aC rfl rfl rfl ?_
     refine sV (vP Z Z)<|sM Z<|aC Z Z Z ?_
     iterate 10 refine aC rfl rfl rfl ?_
     refine sV (vP Z Z)<|sK [1,2,15,16,98,99,100,106,107,108,145] Z<|aG Z ?_
     refine cK<|xB<|xT<|cR<|sV (aI Z Z Z6)<|sM Z<|sN<|nK [1,2,15,16,98,99,100,106,107,108] Z<|au ?_
     refine aM (Y3,r,j+1) ⟨hE6,hltj,hΦ⟩ (by dsimp only; omega)
    ·have hg:decide ((0:Int)<(l.length:Nat))=true:=by
      have:=List.length_pos_iff.2 hq
      simp; omega
     rw [hg]
     refine sG Z Z (vM Z)<|sG Z Z (bi Z)<|sV (vQ Z Z)<|sM Z ?_
     cases many
     ·rw [if_pos ⟨hq,rfl⟩] at hΦ
      have hΦ2 : Φ (S.cf 12 x ⟨p.name,x⟩ og0::((p.sel.drop (j+1)).flatMap (S.c2a (p,i))++A)) r:=hΦ
      refine sG Z Z (vM Z)<|sG Z Z (af Z fT Z ah) ?_
      refine sG Z Z (vM Z)<|sG Z Z (vF Z gT Z)<|sG Z Z (vY Z ld9) ?_
      refine sG Z Z (vM Z)<|sG Z Z (aQ (cells:=[sv p.name,sv x]) Z<|λ_=>Zz) ?_
      refine sG Z Z (aQ (cells:=[sv [],sv []]) Z<|λ_=>Zz) ?_
      refine bR Z Z Z Z jZ Z (hcn 12 x ⟨p.name,x⟩ og0) ?_
      refine kw (gd:=133) (.inr ⟨_,_,Z,Z,Z⟩) Z Z (hy _ _ _ hΦ2) ?_
      rintro u h' (⟨rfl,r',hΦ4,rfl⟩ | ⟨rfl,r',hst,rfl⟩)
      ·simp only [lC,lN]
       refine sG Z Z (bi Z)<|sV (vQ Z Z)<|sK [1,2,15,16,98,99,100,106,107,108,145] Z<|aG Z ?_
       refine cK<|xB<|xT<|cR<|sV (aI Z Z Z6)<|sM Z<|sN<|nK [1,2,15,16,98,99,100,106,107,108] Z<|au ?_
       refine aM (Y3,r',j+1) ⟨hE6,hltj,hΦ4⟩ (by dsimp only; omega)
      ·simp only [lC,lN]
       refine sG Z Z (bi Z)<|sV (vQ Z Z)<|sK [1,2,15,16,98,99,100,106,107,108,145] Z<|aT Z ?_
       refine cQ<|sA Z<|sK [4] Z<|cT<|xW<|xR<|xR<|xW<|xW<|xR<|xR<|xW<|xR ?_
       exact aj Z ⟨Y3,[mps mb m,mps bm bmp,r'],Z,hEZ4,r',Z,.inr ⟨Z,_,hst⟩⟩ sbq
     ·rw [if_neg (λh=>by cases h.2)] at hΦ
      iterate 11 refine aC rfl rfl rfl ?_
      refine sV (vP Z Z)<|sK [1,2,15,16,98,99,100,106,107,108,145] Z<|aG Z ?_
      refine cK<|xB<|xT<|cR<|sV (aI Z Z Z6)<|sM Z<|sN<|nK [1,2,15,16,98,99,100,106,107,108] Z<|au ?_
      refine aM (Y3,r,j+1) ⟨hE6,hltj,hΦ⟩ (by dsimp only; omega)
   ·have hend:j=p.sel.length:=Nat.le_antisymm hj<|Nat.not_lt.1 Zw
    subst hend
    rw [dL,List.nil_append] at hΦ
    refine aB<|xE<|xE<|xY<|xB<|xT<|cR<|sV (aI Z Z Z6)<|sM Z<|sN<|nK [1,2,98,99,100] Z<|au ?_
    refine aM (Zq,r,i+1) ⟨hE.trans hE2,hlt,by rw [hA]; exact hΦ⟩ (by dsimp only; omega)
  ·have hend:i=S.c.pars.length:=Nat.le_antisymm hi<|Nat.not_lt.1 Zx
   subst hend
   rw [mR,List.nil_append,<- hT3] at hΦ
   have hms:=hK.ms.up hE
   refine aB<|xE<|xE<|xY<|xT<|cS<|cQ<|sV (vF Z mI Z)<|sV (vY Z oW) ?_
   refine sV (aF Z underlying52)<|sM Z<|sK [1,2,149,150,151] Z<|cB<|aZ (σ := Res×Nat) (λq=>[(1,.func (.yield yl) #[] #[]),(2,.pointer (some ⟨b2,0,none⟩)),(149,.slice mA S.ms.length mK),(150,.int .i64 S.ms.length),(151,.int .i64 (q.2:Nat))]) (λq=>pt b2 (cl [v,.map (some mb),sv S.c.name,.bool S.c.dfd,ca,.slice cb S.c.pars.length ck,ce,.slice cf S.c.feats.length cfk,ci,.slice mA S.ms.length mK,.map (some bm),.bool all] 206)::Y::mps mb m::mps bm bmp::q.1::hr) (λq=>q.2≤S.ms.length /\ Φ ((S.ms.drop q.2).flatMap S.c3++(S.apart++R)) q.1) (λq=>S.ms.length - q.2) (r,0) ⟨Nat.zero_le _,hΦ⟩ ?_
   clear hΦ
   rintro ⟨r,i⟩ ⟨hi,hΦ⟩
   simp only at hi hΦ
   dsimp only
   refine cQ<|sV (aN Z Z)<|sN<|nT<|cS<|cC Z (λhd=>?_)<|λhd=>?_
   ·have hlt:i<S.ms.length:=Zx
    rw [eu hlt,List.append_assoc] at hΦ
    obtain ⟨nb,no,ncap,nus,e2,hnus,hnrd,hn⟩:=hms.at<|Zy hlt
    obtain ⟨rfl,rfl⟩:mA=some ⟨nb,no,none⟩/\mK=ncap:=by cases e2; exact ⟨rfl,rfl⟩
    generalize S.ms[i]=x at hΦ hn
    generalize hA:(S.ms.drop (i+1)).flatMap S.c3++(S.apart++R)=A at hΦ
    have hxo:=Enc.ones hn
    obtain ⟨x2,x5,xy,x11,x12,x13,rfl,-⟩:=dI hn
    unfold iB at *
    unfold Sk.c3 at hΦ
    refine cK<|xT<|cS<|cB<|cQ<|sV (vI (k:=i) Z Z nU Z hlt Z)<|sV (af Z fB Z hnrd) ?_
    refine ax jY λb23=>?_
    refine ai Z Z iO Z hxo ?_
    refine sK [1,2,23,149,150,151] Z<|cQ<|sV (vF Z gV Z)<|sV (vF Z Nq Z)<|sV (vY Z ld4) ?_
    refine sV (bi Z)<|sM Z ?_
    by_cases hdf:S.c.dfd=false
    ·have hg:(!S.c.dfd)=true:=by rw [hdf]; rfl
     rw [hg]
     refine sG Z Z (vF Z tO Z)<|sG Z Z (vY Z ld3) ?_
     refine sG Z Z (dD Z Z)<|sV (vQ Z Z)<|sM Z ?_
     by_cases hk3:x.kind=3
     ·rw [if_pos ⟨hdf,hk3⟩] at hΦ
      have hΦ2 : Φ (S.cf 13 x.name og0 og0::A) r:=hΦ
      have hg2:(x.kind == 3)=true:=by rw [hk3]; rfl
      rw [hg2]
      refine sG Z Z (vM Z)<|sG Z Z (af Z fT Z ah) ?_
      refine sG Z Z (vF Z eD Z)<|sG Z Z (vY Z ld9) ?_
      refine sG Z Z (aQ (cells:=[sv [],sv []]) Z<|λ_=>Zz) ?_
      refine sG Z Z (aQ (cells:=[sv [],sv []]) Z<|λ_=>Zz) ?_
      refine bR Z Z Z Z jZ Z (hcn 13 x.name og0 og0) ?_
      refine kw (gd:=164) (.inr ⟨_,_,Z,Z,Z⟩) Z Z (hy _ _ _ hΦ2) ?_
      rintro u h' (⟨rfl,r',hΦ4,rfl⟩ | ⟨rfl,r',hst,rfl⟩)
      ·simp only [lC,lN]
       refine sG Z Z (bi Z)<|sV (vQ Z Z)<|sK [1,2,149,150,151,174] Z<|aG Z ?_
       refine cK<|xB<|xT<|cR<|sV (aI Z Z Z6)<|sM Z<|sN<|nK [1,2,149,150,151] Z<|au ?_
       refine aM (r',i+1) ⟨hlt,by rw [hA]; exact hΦ4⟩ (by dsimp only; omega)
      ·simp only [lC,lN]
       refine sG Z Z (bi Z)<|sV (vQ Z Z)<|sK [1,2,149,150,151,174] Z<|aT Z ?_
       refine cQ<|sA Z<|sK [4] Z<|cT<|xW<|xR<|xR<|xW<|xR ?_
       exact aj Z ⟨Y,[mps mb m,mps bm bmp,r'],Z,hE,r',Z,.inr ⟨Z,_,hst⟩⟩ sbq
     ·rw [if_neg (λh=>hk3 h.2)] at hΦ
      have hg2:(x.kind == 3)=false:=by simpa using hk3
      rw [hg2]
      iterate 9 refine aC rfl rfl rfl ?_
      refine sV (vP Z Z)<|sK [1,2,149,150,151,174] Z<|aG Z ?_
      refine cK<|xB<|xT<|cR<|sV (aI Z Z Z6)<|sM Z<|sN<|nK [1,2,149,150,151] Z<|au ?_
      refine aM (r,i+1) ⟨hlt,by rw [hA]; exact hΦ⟩ (by dsimp only; omega)
    ·rw [if_neg (λh=>hdf h.1)] at hΦ
     have hg:(!S.c.dfd)=false:=by simpa using hdf
     rw [hg]
     iterate 3 refine aC rfl rfl rfl ?_
     refine sV (vP Z Z)<|sM Z<|aC Z Z Z ?_
     iterate 8 refine aC rfl rfl rfl ?_
     refine sV (vP Z Z)<|sK [1,2,149,150,151,174] Z<|aG Z ?_
     refine cK<|xB<|xT<|cR<|sV (aI Z Z Z6)<|sM Z<|sN<|nK [1,2,149,150,151] Z<|au ?_
     refine aM (r,i+1) ⟨hlt,by rw [hA]; exact hΦ⟩ (by dsimp only; omega)
   ·have hend:i=S.ms.length:=Nat.le_antisymm hi<|Nat.not_lt.1 Zx
    subst hend
    rw [dL,List.nil_append] at hΦ
    have hap:=OU (v:=v) (mb:=mb) (bm:=bm) hy hall (hK.up hE) hB R r hΦ
    unfold CtX fu at hap
    refine aB<|xE<|xE<|xY<|xT<|cQ<|sV (af Z fT Z ah) ?_
    refine sM Z<|aH Z Z en221 Z (hap) ?_
    rintro u h' ⟨Y2,k9,rfl,hE2,r',rfl,hend⟩
    simp only [lC,lN]
    refine sA Z<|sK [4] Z<|cT ?_
    exact aj Z ⟨Y2,[mps mb m,mps bm bmp,r'],Z,hE.trans hE2,r',Z,hend⟩ sbq
end
end Go.Fl
namespace Go.Fl
open Go Go.RowKit Go.Ck Go.Proofs Go.Proofs.Tryz Go.Proofs.YtknmacdbffgjgaaGreatDoor Fx Go.Hr
theorem Fits.sums {l:FS} {fl:Nm->Fl} (h:Fits l fl) {c:FC} (hc:c∈l):(nu (comes fl l c)).length≤345600/\((comes fl l c).flatMap λx=>x.mem.pre).length≤345600/\((comes fl l c).flatMap λx=>x.mem.post).length≤345600:=Jo h.right h.flb hc
attribute [local irreducible] Go.Ck.Sub St Cd Xt Nx DrL LsW
section
variable {X Y:Res} {v v':Value} {us us':List Value}
theorem xq {mb:Nat} {m:List (Nm×Value)} {fl:Nm->Fl} {l:FS} {c:FC} {uc:List Value} {mv:Value} {ms:List Mb} {all:Bool} (hl:Ls X v l) (hc:Enc.rep X uc c) (hm:FlR X m fl) (hms:Ls X mv ms) (hF:Fits l fl) (hcl:c∈l) :
  CtX prog 58 #[.agg #[v,.map (some mb)],.agg uc.toArray,mv,.bool all] X [mps mb m] λu Y k'=>∃ b9 bm bmp ca cb ce cf ci,u = .func (.func 127) #[] #[.pointer (some ⟨b9,0,none⟩)]/\k'=[pt b9 (cl (fu v (.map<|some mb) c ca cb ce cf ci mv (.map<|some bm) all) 206),mps mb m,mps bm bmp]/\SkR Y ⟨fl,l,c,ms,all⟩ v m ca cb ce cf ci mv bmp/\bmp.map (λp=>p.1)=keys (comes fl l c):=by
 have hfew:=hF.few<|.inl hcl
 have hby:=xh (mb:=mb) hl hc hm (hF.hf<|.inl hcl)<|by omega
 have hvo:=hl.one
 obtain ⟨ca,cb,ce,cf,ci,rfl,hca,hcb,hce,hcf,hci⟩:=gB hc
 have hone:([sv c.name,.bool c.dfd,ca,cb,ce,cf,ci]:List Value).all Value.oneCell'=true:=Enc.ones hc
 have hmo:=hms.one
 obtain ⟨cA,cKq,rfl,_⟩:=id hcb.form
 obtain ⟨fA,fK,rfl,_⟩:=id hcf.form
 obtain ⟨aA,aK,rfl,_⟩:=id hca.form
 obtain ⟨iA,iK,rfl,_⟩:=id hci.form
 obtain ⟨vAq,vK,rfl,_⟩:=id hl.form
 obtain ⟨mA,mK,rfl,_⟩:=id hms.form
 unfold CtX at hby ⊢
 unfold fu
 refine aL (n:=19) func58 Z Z (len Z) λhr w0=>?_
 refine cQ (aV Z Z λb4=>?_)
 refine aV Z Z λb5=>?_
 refine sA Z<|sK [2,3,4,5,8] Z<|cS<|iR (ork [(0,1),(1,1),(2,2),(3,1),(4,1),(6,2)]<|.two 5 (ork [(7,2),(8,0),(9,0)] .nil) 8<|ork [(5,0),(7,2),(9,0)] .nil) (λi => !(Nat.beq i 9)) [pt b4 (cl [.slice vAq l.length vK,.map (some mb)] 114),pt b5 (cl [sv c.name,.bool c.dfd,.slice aA c.forms.length aK,.slice cA c.pars.length cKq,ce,.slice fA c.feats.length fK,.slice iA c.inv.length iK] 44)] mixed Zz ?_
 refine bg Z (af Z ig Z ah) ?_
 refine bg Z (af Z gp Z ah) ?_
 refine dV Z (vM Z)<|bg Z (af Z ig Z ah) ?_
 refine bg Z (af Z gp Z ah) ?_
 refine dV Z (vM Z)<|lH Z Z ?_ ?_
 ·refine aH Z Z Ki Z (hby) ?_
  rintro u h' ⟨Y,k',rfl,hE,bm,E,rfl,rfl,hbk⟩
  simp only [lC,lN]
  refine aX ?_
  refine dV Z (aQ (cells:=[.slice vAq l.length vK,.map (some mb),sv c.name,.bool c.dfd,.slice aA c.forms.length aK,.slice cA c.pars.length cKq,ce,.slice fA c.feats.length fK,.slice iA c.inv.length iK,.slice mA ms.length mK,.map (some bm),.bool all]) Z<|λ_=>Zz) ?_
  refine aP Z (ax al206 λb9=>aX ?_)
  have hone2:([.slice vAq l.length vK,.map (some mb),sv c.name,.bool c.dfd,.slice aA c.forms.length aK,.slice cA c.pars.length cKq,ce,.slice fA c.feats.length fK,.slice iA c.inv.length iK,.slice mA ms.length mK,.map (some bm),.bool all]:List Value).all Value.oneCell'=true:=by simp only [List.all_cons,List.all_nil,hce,Bool.and_true,Bool.true_and]; rfl
  refine aP Z<|ai Z Z sz206 Z hone2<|aX ?_
  refine bA<|nK [8,9] Z<|nT<|cQ<|sV (bW Z Z)<|sA Z<|sK [8] Z<|cT (dR (r:=BN E) slq λhokE=>?_)
  refine iy [BN E] Y λY2 hE2 hsel=>?_
  have hls:=KN hbk hE2 hokE (hsel _ _ .here)<|by omega
  have hlk:=y7 hbk.1 hls
  have hk0:=hbk.1
  have hE3:=hE.trans hE2
  exact aj Z ⟨Y2,_,Z,hE3,b9,bm,kv E,_,_,_,_,_,Z,Z,⟨hl.up hE3,hca.up hE3,hcb.up hE3,hce,hcf.up hE3,hci.up hE3,hm.up hE3,hms.up hE3,hlk⟩,by rw [jQ]; exact hk0⟩ sbq
 ·refine ax al206 λb9=>aX ?_
  refine aP Z<|aH Z Z Ki Z (hby) ?_
  rintro u h' ⟨Y,k',rfl,hE,bm,E,rfl,rfl,hbk⟩
  simp only [lC,lN]
  refine aX ?_
  refine dV Z (aQ (cells:=[.slice vAq l.length vK,.map (some mb),sv c.name,.bool c.dfd,.slice aA c.forms.length aK,.slice cA c.pars.length cKq,ce,.slice fA c.feats.length fK,.slice iA c.inv.length iK,.slice mA ms.length mK,.map (some bm),.bool all]) Z<|λ_=>Zz) ?_
  have hone2:([.slice vAq l.length vK,.map (some mb),sv c.name,.bool c.dfd,.slice aA c.forms.length aK,.slice cA c.pars.length cKq,ce,.slice fA c.feats.length fK,.slice iA c.inv.length iK,.slice mA ms.length mK,.map (some bm),.bool all]:List Value).all Value.oneCell'=true:=by simp only [List.all_cons,List.all_nil,hce,Bool.and_true,Bool.true_and]; rfl
  refine aP Z<|ai Z Z sz206 Z hone2<|aX ?_
  refine bA<|nK [8,9] Z<|nT<|cQ<|sV (bW Z Z)<|sA Z<|sK [8] Z<|cT (dR (r:=BN E) slq λhokE=>?_)
  refine iy [BN E] Y λY2 hE2 hsel=>?_
  have hls:=KN hbk hE2 hokE (hsel _ _ .here)<|by omega
  have hlk:=y7 hbk.1 hls
  have hk0:=hbk.1
  have hE3:=hE.trans hE2
  exact aj Z ⟨Y2,_,Z,hE3,b9,bm,kv E,_,_,_,_,_,Z,Z,⟨hl.up hE3,hca.up hE3,hcb.up hE3,hce,hcf.up hE3,hci.up hE3,hm.up hE3,hms.up hE3,hlk⟩,by rw [jQ]; exact hk0⟩ sbq

theorem uD {yl mb bm b9 : Nat} {Φ : List Cf -> Res -> Prop} {Stop : Cf -> Res -> Prop} (hy : Yh yl Φ Stop) {S : Sk} {all : Bool} (hall : S.all = all) {m bmp : List (Nm × Value)} {ca cb ce cf ci mv : Value} (hK : SkR X S v m ca cb ce cf ci mv bmp) (hB : SkB S) (hk0 : bmp.map (λp => p.1) = keys S.cs) (cn : Nm) (hcn0 : S.c = ae S.l cn) (r0 : Res) (h0 : Φ S.conflicts r0) :
  dQ prog 127 #[.func (.yield yl) #[] #[],.pointer (some ⟨b9,0,none⟩)] X [pt b9 (cl (fu v (.map<|some mb) S.c ca cb ce cf ci mv (.map<|some bm) all) 206),mps mb m,mps bm bmp,r0] λu Y k'=>u = .tuple #[]/\∃ r,k'=[pt b9 (cl (fu v (.map<|some mb) S.c ca cb ce cf ci mv (.map<|some bm) all) 206),mps mb m,mps bm bmp,r]/\(Φ [] r∨∃ x,Stop x r):=by
 have e1:S.conflicts=S.lost++(S.redeclared++(S.typed++(S.chosen++(S.apart++[])))):=by rw [List.append_nil]; rfl
 rw [e1] at h0
 have h1:=lost_ct (v:=v) (mb:=mb) (bm:=bm) hy hall hK hB _ r0 h0
 have ho:([v,.map (some mb),sv S.c.name,.bool S.c.dfd,ca,cb,ce,cf,ci,mv,.map (some bm),.bool all]:List Value).all Value.oneCell'=true:=by
  simp only [List.all_cons,List.all_nil,hK.l.one,hK.a.one,hK.par.one,hK.e,hK.feat.one,hK.inv.one,hK.ms.one,Bool.and_true,Bool.true_and]; rfl
 unfold CtX at h1
 unfold dQ
 unfold fu at *
 refine fQ (n:=21) func127 Z Z (len Z) λhr w0 hw0=>?_
 refine cR<|sV (af Z fT Z ah) ?_
 refine sM Z<|aH Z Z en128 Z (h1) ?_
 rintro u h' ⟨Y,k',rfl,hE,r,rfl,hend⟩
 simp only [lC,lN]
 rcases hend with ⟨rfl,hΦ⟩ | ⟨rfl,hst⟩
 ·have h2:=Bo (v:=v) (mb:=mb) (bm:=bm) hy hall (hK.up hE) hB hk0 _ r hΦ
  unfold CtX fu at h2
  refine sM Z<|sG Z Z (af Z fT Z ah) ?_
  refine sG Z Z (vM Z)<|kF Z Z<|aH Z Z en129 Z (h2) ?_
  rintro u h' ⟨Y2,k',rfl,hE2,r,rfl,hend⟩
  simp only [lC,lN]
  have hE2:=hE.trans hE2
  rcases hend with ⟨rfl,hΦ⟩ | ⟨rfl,hst⟩
  ·have h3:=OT (v:=v) (mb:=mb) (bm:=bm) hy hall (hK.up hE2) hB hk0 _ r hΦ
   unfold CtX fu at h3
   refine sV (vQ Z Z)<|sM Z<|sG Z Z (af Z fT Z ah) ?_
   refine sG Z Z (vM Z)<|kF Z Z<|aH Z Z en130 Z (h3) ?_
   rintro u h' ⟨Y3,k',rfl,hE3,r,rfl,hend⟩
   simp only [lC,lN]
   have hE3:=hE2.trans hE3
   rcases hend with ⟨rfl,hΦ⟩ | ⟨rfl,hst⟩
   ·have h4:=Mf (v:=v) (mb:=mb) (bm:=bm) hy hall (hK.up hE3) hB cn hcn0 [] r hΦ
    unfold dQ fu at h4
    refine sV (vQ Z Z)<|sM Z<|sG Z Z (af Z fT Z ah) ?_
    refine sG Z Z (vM Z)<|kF Z Z<|bL hw0 Z Z en131 Z (h4) ?_
    rintro u h' ⟨Y4,k',rfl,hE4,r,rfl,hend⟩
    simp only [lC,lN]
    have hE4:=hE3.trans hE4
    have hend : Φ [] r∨∃ x,Stop x r:=hend.elim (λh=>.inl h.2) λh=>.inr h.2
    refine sV (vQ Z Z)<|sN<|nK [] Z<|au ?_
    exact zD Z ⟨Y4,_,Z,hE4,Z,r,Z,hend⟩ sbq
   ·refine sV (vQ Z Z)<|sM Z<|aC Z Z Z ?_
    iterate 2 refine aC rfl rfl rfl ?_
    refine sV (vP Z Z)<|sN<|nK [] Z<|au ?_
    exact zD Z ⟨Y3,_,Z,hE3,Z,r,Z,.inr hst⟩ sbq
  ·refine sV (vQ Z Z)<|sM Z<|aC Z Z Z ?_
   iterate 2 refine aC rfl rfl rfl ?_
   refine sV (vP Z Z)<|sM Z<|aC Z Z Z ?_
   iterate 2 refine aC rfl rfl rfl ?_
   refine sV (vP Z Z)<|sN<|nK [] Z<|au ?_
   exact zD Z ⟨Y2,_,Z,hE2,Z,r,Z,.inr hst⟩ sbq
 ·refine sM Z<|aC Z Z Z ?_
  iterate 2 refine aC rfl rfl rfl ?_
  refine sV (vP Z Z)<|sM Z<|aC Z Z Z ?_
  iterate 2 refine aC rfl rfl rfl ?_
  refine sV (vP Z Z)<|sM Z<|aC Z Z Z ?_
  iterate 2 refine aC rfl rfl rfl ?_
  refine sV (vP Z Z)<|sN<|nK [] Z<|au ?_
  exact zD Z ⟨Y,_,Z,hE,Z,r,Z,.inr hst⟩ sbq
 theorem en127w:Ck.Enters prog 127:=enters_of func127 Zz rfl
end
end Go.Fl
namespace Go.Ck
open Go Go.RowKit
theorem Yc.star {P:Program} {l:Nat} {args:Array Value} {L:SH} {R R':Value->SH->Prop} (h:Yc P l args L R) (hr:∀ u L',R u L'->R' u [Res.star L']):Yc P l args [Res.star L] R':=λhr2 w hh =>
 je (λv w' ⟨h',hR,hH,hS⟩=>⟨[Res.star h'],hr v h' hR,dn.2 hH,hS⟩) (h hr2 w<|dn.1 hh)
theorem Ctw.star {P:Program} {k:FuncId} {args:Array Value} {L A:SH} {R:Value->SH->Prop} (h:Ctw P k args (Res.star L::A) R):Ctw P k args (L++A) R:=λhr w hh =>
 by
 have h2:Holds w (L++(A++hr)):=by rw [<- List.append_assoc]; exact hh
 exact h hr w<|dn.2 h2
theorem Ctw.vw {P:Program} {k:FuncId} {args:Array Value} {hf:SH} {R R':Value->SH->Prop} (h:Ctw P k args hf R) (hv:∀ u h',R u h'->∃ h'',(∀ t,Vw (h'++t) (h''++t))/\R' u h''):Ctw P k args hf R':=λhr w hh =>
 (h hr w hh).mono λ_ w' ⟨u,h',he,hR,hH,hS⟩=>by
  obtain ⟨h'',g1,g2⟩:=hv u h' hR
  exact ⟨u,h'',he,g2,g1 hr w' hH,hS⟩
theorem Ctw.frame {P:Program} {k:FuncId} {args:Array Value} {hf g:SH} {R:Value->SH->Prop} (h:Ctw P k args hf R):Ctw P k args (hf++g) λu h'=>∃ h0,R u h0/\h'=h0++g:=λhr w hh=>by
 have h1:Holds w (hf++(g++hr)):=by rw [<- List.append_assoc]; exact hh
 exact (h (g++hr) w h1).mono λ_ _ ⟨u,h',he,hR,hH,hS⟩=>⟨u,h'++g,he,⟨h',hR,Z⟩,by rw [List.append_assoc]; exact hH,hS⟩
theorem xu {L A t:SH}:Vw ((A++[Res.star L])++t) ((L++A)++t):=λw hh=>by
 have hp:((A++[Res.star L])++t).Perm (Res.star L::(A++t)):=by
  rw [List.append_assoc]
  exact List.perm_middle
 have h1:Holds w (Res.star L::(A++t)):=(bu.perm hp).1 hh
 have h2:=dn.1 h1
 rw [List.append_assoc]; exact h2
theorem kE {P:Program} {r:Option Nat} {n:Nat} {ds:List Deferred} {w0:World} {hr k h h':SH} {R:Value->SH->Prop} {fn:Func} {e:Env} {vs:List Value} {bs:List Nat} (hds:ds=bs.map mk) (hv:ResV P k e fn.results.toList vs) (hR:R (kK vs) h') (hk:Sub (h'++hr) k) (hp:Sub (Res.star (marks bs)::k) h) :
  Xt ⟨P,r,n,ds,w0⟩ .ret (bodyPostM (Fw none) 0 P fn<|Post w0 hr R) e h:=λa w hk' hh hw=>oH hds hv hR hk (Sub.refl _) a w hk' (dn.1<|hh.sub hp) hw
end Go.Ck
namespace Go.Fl
open Go Go.RowKit Go.Ck Go.Proofs Go.Proofs.Tryz Go.Proofs.YtknmacdbffgjgaaGreatDoor Fx Go.Hr
def sI (v fv ow:Value) (x:Cf) (e:Int):List Value:=[v,fv,ow,.int .i64 x.kind,sv x.cls,sv x.name,sv x.other,sv x.a.par,sv x.a.name,sv x.b.par,sv x.b.name,.int .i64 e]
theorem xw {fs:List (Nm×Fl)} {n:Nm} {f:Fl} (h:n ∉ fs.map λp=>p.1) (k:Nm):look (fs++[(n,f)]) k=if k=n then f else look fs k:=by
 unfold look
 rw [List.find?_append]
 by_cases hk:k=n
 ·subst hk
  have:fs.find? (λp=>p.1 == k)=none:=by
   rw [List.find?_eq_none]
   intro p hp
   simp only [beq_iff_eq]
   exact λe=>h<|List.mem_map.2 ⟨p,hp,e⟩
  rw [this,if_pos rfl]; simp
 ·have:([(n,f)]:List (Nm×Fl)).find? (λp=>p.1 == k)=none:=by simp; exact λe=>hk e.symm
  rw [this,if_neg hk]; simp
theorem FlR.put {X:Res} {m:List (Nm×Value)} {fs:List (Nm×Fl)} {n:Nm} {f:Fl} {us:List Value} (h:FlR X m (look fs)) (hn:n ∉ fs.map λp=>p.1) (hr:Enc.rep X us f):FlR X (eH m n (.agg us.toArray)) (look (fs++[(n,f)])):=λk=>by
 rw [nO,xw hn]
 by_cases hk:k=n
 ·rw [if_pos hk,if_pos hk]; exact ⟨us,rfl,hr⟩
 ·rw [if_neg hk,if_neg hk]; exact h k
theorem FlB.put {l:FS} {fs:List (Nm×Fl)} {n:Nm} {f:Fl} (h:FlB l (look fs)) (hn:n ∉ fs.map λp=>p.1) (h1:f.mems.length≤60) (h2:∀ m∈f.mems,MOk l m):FlB l (look (fs++[(n,f)])):=by
 constructor
 ·intro k
  rw [xw hn]
  split
  ·exact h1
  ·exact h.few k
 ·intro k m hm
  rw [xw hn] at hm
  split at hm
  ·exact h2 m hm
  ·exact h.ok k m hm
def iL (l:FS):Prop:=∀ c∈l,∀ p∈c.pars,p.ren.length≤12/\p.und.length≤12/\p.red.length≤12/\p.sel.length≤12
theorem oF {l:FS} (hR:FRight l) {c:Nm} (hc:(bE l c).isSome=true):(above (aO l) c).length≤24:=by
 obtain ⟨h1,h2⟩:=jJ hR.sys.acyc c
 have h3:(above (aO l) c).length≤(nms<|aO l).length:=aW h1.nodup λx hx=>ek.1<|uL (by rw [bS]; exact hc) ((h2 x).1 hx)
 have h4:(nms<|aO l).length=l.length:=by simp [nms,aO]
 have h5:=hR.sys.len
 rw [eO] at h5
 omega
theorem fits0 {l:FS} (hR:FRight l) (hS:iL l):Fits l (look []):=⟨hR,⟨λ_=>Nat.zero_le _,λ_ m hm=>by cases hm⟩,hS⟩
theorem flr0 {X:Res}:FlR X [] (look []):=λ_=>⟨[sv [],.bool false,.slice none 0 0,.slice none 0 0],rfl,.slice none 0 0,.slice none 0 0,rfl,Ls.nil,Ls.nil⟩
attribute [local irreducible] Go.Ck.Sub St Cd Xt Nx DrL LsW
section
variable {X Y:Res} {v v':Value} {us us':List Value}

theorem Hy {l : FS} (hl : Ls X v l) (hR : FRight l) (hS : iL l) :
  dQ prog 53 #[v] X [] λu Y k'=>∃ mb m ow names,u = .agg (sI v (.map<|some mb) ow (build l).2.1 (build l).2.2).toArray/\k'=[mps mb m,VR ow 9 1 (names.map nC)]/\FlR Y m (look (build l).1)/\names=(build l).1.map (λp=>p.1)/\ow.oneCell'=true:=by
 have hml:maxLen=9223372036854775807:=rfl
 have hrb:reachBytes=140737488351232:=rfl
 obtain ⟨vAq,vK,rfl,_⟩:=id hl.form
 have hord:=NJ<|wP hl
 have hr0:dP (aO l) []=0:=eX.2 ⟨hR.sys,by simp⟩
 rw [hr0,show okL 0 (order<|aO l)=order (aO l) from rfl] at hord
 have hbe:build l=lT l (order<|aO l) []:=rfl
 have hon:(order<|aO l).Nodup:=(iU hR.sys.acyc hR.sys.uniq).1.nodup
 have hof:∀ n∈order (aO l),(bE l n).isSome=true:=λn hn=>(fP hR.sys).1 hn
 have hol:(order<|aO l).length≤24:=by
  have h1:(order<|aO l).length≤(nms<|aO l).length:=aW hon λx hx=>((iU hR.sys.acyc hR.sys.uniq).2 x).1 hx
  have h2:(nms<|aO l).length=l.length:=by simp [nms,aO]
  have h3:=hR.sys.len
  rw [eO] at h3
  omega
 rw [hbe]
 generalize order (aO l)=xs at hord hon hof hol ⊢
 unfold dQ
 refine EG (n:=65) func53 Z Z (len Z) λhr w0 hw0=>?_
 refine cQ (ax oz λb2=>?_)
 refine sN<|nT<|cQ<|sM Z<|aH Z Z en116 Z (hord) ?_
 rintro u h' ⟨T,rfl,w,rfl,hw,rfl⟩
 simp only [lC,lN]
 unfold NR
 refine sM Z<|sV (ag Z Z)<|sV (ag Z Z)<|sA Z<|sA Z<|sK [0,2,3] Z<|cS (fq (v:=w) (E:=9) (sz:=1) (rows:=xs.map nC) slq λwa wc hwf hwl hwm=>?_)
 rw [List.length_map] at hwf hwl
 subst hwf
 refine cR<|sM Z (eU (ltn Z) λmb=>?_)
 refine sV (aQ (cells:=[.slice vAq l.length vK,.map (some mb)]) Z<|λ_=>Zz) ?_
 refine sV (aQ (cells:=sI (.slice vAq l.length vK) (.map<|some mb) (.slice none 0 0) cf0 0) Z<|λ_=>Zz) ?_
 refine ax oz λb5=>?_
 refine ai Z Z jk Z Z ?_
 refine sK [2,3,5] Z<|cS<|cQ<|sM Z<|sV (aF Z underlying40)<|sM Z<|sK [2,5,20,21,22] Z<|cB<|dJ (cO 9 1)<|nN<|nM (σ := Res×List (Nm×Value)×Value×Nat×List (Nm×Fl)×List Nat) (λq=>q.2.2.2.2.2.map mk) (λq=>[(2,.pointer (some ⟨b2,0,none⟩)),(5,.pointer (some ⟨b5,0,none⟩)),(20,.slice wa xs.length wc),(21,.int .i64 xs.length),(22,.int .i64 (q.2.2.2.1:Nat))]) (λq=>Res.star (marks q.2.2.2.2.2)::pt b5 (cl (sI (.slice vAq l.length vK) (.map<|some mb) q.2.2.1 cf0 0) 116)::VR q.2.2.1 9 1 ((xs.take q.2.2.2.1).map nC)::VR (.slice wa xs.length wc) 9 1 (xs.map nC)::pt b2 (cl (sI (.slice none 0 0) (.map none) (.slice none 0 0) cf0 0) 116)::q.1::mps mb q.2.1::hr) (λq=>Ext X q.1/\q.2.2.2.1≤xs.length/\q.2.2.1.oneCell'=true/\FlR q.1 q.2.1 (look q.2.2.2.2.1)/\Fits l (look q.2.2.2.2.1)/\q.2.2.2.2.1.map (λp=>p.1)=xs.take q.2.2.2.1/\lT l xs []=lT l (xs.drop q.2.2.2.1) q.2.2.2.2.1) (λq=>xs.length - q.2.2.2.1) (X,[],.slice none 0 0,0,[],[]) ⟨Ext.refl X,Nat.zero_le _,Z,flr0,fits0 hR hS,Z,Z⟩ Z ⟨Z,Z,Z,Z,Z,trivial⟩ sbq ?_
 rintro ⟨Y,m,ow,i,fs,bs⟩ ⟨hE,hi,how,hm,hF,hfs,hbl⟩
 simp only at hE hi how hm hF hfs hbl
 dsimp only
 unfold sI
 dsimp only [cf0,og0]
 refine cQ<|sV (aN Z Z)<|sN<|nT<|cS<|cC Z (λhd=>?_)<|λhd=>?_
 ·have hlt:i<xs.length:=Zx
  have hnx:(xs.map nC)[i]? = some [sv xs[i]]:=by rw [List.getElem?_map,Zy hlt]; rfl
  have hnm:=hof _<|List.getElem_mem hlt
  have htk:=bV hlt
  have hdr:=List.drop_eq_getElem_cons hlt
  rw [hdr] at hbl
  have hnew:xs[i] ∉ fs.map λp=>p.1:=by
   rw [hfs]
   intro hmem
   obtain ⟨j,hj,he⟩:=List.mem_take_iff_getElem.1 hmem
   have:=(List.getElem_inj hon).1 he
   omega
  refine fw (r:=VR (.slice wa xs.length wc) 9 1<|xs.map nC) slq λhok=>?_
  obtain ⟨ab,ao,rfl⟩:∃ ab ao,wa=some ⟨ab,ao,none⟩:=by
   obtain ⟨f0,hf0⟩:=hok
   rcases VR.form hf0 with ⟨h3,h4⟩ | ⟨b,o,cp,h3,-⟩
   ·have:=List.map_eq_nil_iff.1 h4
    rw [this] at hlt; simp at hlt
   ·rw [List.length_map] at h3; cases h3; exact ⟨b,o,rfl⟩
  generalize xs[i]=n at hnx hnm htk hnew hbl
  obtain ⟨hcn,hcl⟩:(ae l n).name=n/\ae l n∈l:=by
   obtain ⟨c0,hc0⟩:=Option.isSome_iff_exists.1 hnm
   rw [gJ hc0]
   exact ⟨pM hc0,List.mem_of_find?_eq_some hc0⟩
  have hCR:=gL<|hR.form _ hcl
  have hfew:=hF.few<|.inl hcl
  obtain ⟨hsS,hsP,hsQ⟩:=hF.sums hcl
  obtain ⟨hmf,hmS⟩:=Ha hF.right hF.flb hcl
  have hmok:=za hF.flb.ok hCR hcl
  have hfl:=hCR.feats
  have hcc:=lY (n:=n) (fv:=.map<|some mb) (hl.up hE) rfl
  refine cK<|xT<|cS<|cB<|cQ<|sV (vI (k:=i) Z Z jv Z hlt Z)<|sV (vY Z ld9 (ha:=⟨_,_,slq,dN hnx 0<|by simp⟩)) ?_
  refine sA Z<|sK [2,5,7,20,21,22] Z<|cQ<|sV (vF Z gI Z)<|sV (af Z ig Z<|bD (k:=0) ah (vs:=[.slice vAq l.length vK,.map (some mb)]) Z) ?_
  refine sM Z<|aH Z Z en56 Z (hcc) ?_
  rintro u h' ⟨rfl,cus,rfl,hcr⟩
  simp only [lC,lN]
  have hcr0:=hcr
  obtain ⟨ca,cb,ce,cf,ci,rfl,-⟩:=gB hcr
  have hco:=Enc.ones hcr0
  refine ax oq λb8=>?_
  refine ai Z Z kW Z hco ?_
  refine sK [2,5,7,8,20,21,22] Z<|cQ<|sV (vF Z gI Z)<|sV (af Z ig Z<|bD (k:=0) ah (vs:=[.slice vAq l.length vK,.map (some mb)]) Z) ?_
  refine sV (af Z gp Z ah) ?_
  have hmem:=AP (mb:=mb) (hl.up hE) hcr0 hm (hF.hf<|.inl hcl) (by omega) hCR.names (by omega) (by omega) (by omega)<|by omega
  unfold CtX at hmem
  refine aH Z Z en57 Z (hmem) ?_
  rintro u h' ⟨Y2,k2,rfl,hE2,rfl,hms⟩
  simp only [lC,lN]
  have hE2':=hE.trans hE2
  have hc58:=xq (mb:=mb) (all:=false) (hl.up hE2') (Enc.up hE2.rd hcr0) (hm.up hE2) hms hF hcl
  unfold CtX at hc58
  refine sA Z<|sK [2,5,7,8,9,20,21,22] Z<|cS<|cQ<|sV (vF Z gI Z)<|sV (af Z ig Z<|bD (k:=0) ah (vs:=[.slice vAq l.length vK,.map (some mb)]) Z) ?_
  refine sV (af Z gp Z ah) ?_
  refine sM Z<|aH Z Z en58 Z (hc58) ?_
  rintro u2 h' ⟨Y3,k3,rfl,hE3,b9,bm,bmp,da,dbb,de,df,di,rfl,rfl,hK,hk0⟩
  simp only [lC,lN]
  have hE3':=hE2'.trans hE3
  refine sK [2,5,7,8,9,20,21,22,38] Z<|cB ?_
  have hB:SkB ⟨look fs,l,ae l n,members (comes (look fs) l<|ae l n) (ae l n),false⟩:=⟨hF,hcl,hmS,hmf⟩
  have hbl':lT l (n::xs.drop (i+1)) fs=match (rz l fs n false).conflicts with
    | x::_=>(fs,x,10)
    | []=>if over (lS l fs n) then (fs,cf0,3) else lT l (xs.drop (i+1)) (fs++[(n,flatOf l (ae l n) (lS l fs n))]):=rfl
  have h127:=λ(yl:Nat) (Φ : List Cf->Res->Prop) (Stop:Cf->Res->Prop) (hy:Yh yl Φ Stop) (r0:Res) (h0 : Φ (rz l fs n false).conflicts r0)=>uD (mb:=mb) (bm:=bm) (b9:=b9) hy (S:=rz l fs n false) (all:=false) rfl hK hB hk0 n rfl r0 h0
  generalize (rz l fs n false).conflicts=C at hbl' h127
  rw [hbl'] at hbl
  refine xn hw0 Z en127w λyl db rec hst hpe hps hasg hbo hkn2=>?_
  refine ⟨λuz h''=>∃ h0,(uz = .tuple #[]/\∃ Y4,Ext Y3 Y4/\((C=[]/\h0=[pt yl (.loop rec),pt db (.deferred<|some []),pt b5 (cl [.slice vAq l.length vK,.map (some mb),ow,.int .i64 0,sv [],sv [],sv [],sv [],sv [],sv [],sv [],.int .i64 0] 116),pt b2 (cl [.slice none 0 0,.map none,.slice none 0 0,.int .i64 0,sv [],sv [],sv [],sv [],sv [],sv [],sv [],.int .i64 0] 116),pt b8 (cl [sv (ae l n).name,.bool (ae l n).dfd,ca,cb,ce,cf,ci] 44),VR ow 9 1 ((xs.take i).map nC),VR (.slice (some ⟨ab,ao,none⟩) xs.length wc) 9 1 (xs.map nC),Res.star (marks bs)]++[Y4,pt b9 (cl (fu (.slice vAq l.length vK) (.map<|some mb) (ae l n) da dbb de df di u (.map<|some bm) false) 206),mps mb m,mps bm bmp])∨∃ x rec2,C.head? = some x/\(rec2:Loop).state≠.busy/\rec2.pending=some .ret/\h0=[pt yl (.loop rec2),pt db (.deferred<|some []),pt b5 (cl [.slice vAq l.length vK,.map (some mb),ow,.int .i64 x.kind,sv x.cls,sv x.name,sv x.other,sv x.a.par,sv x.a.name,sv x.b.par,sv x.b.name,.int .i64 10] 116),pt b2 (cl [.slice vAq l.length vK,.map (some mb),ow,.int .i64 x.kind,sv x.cls,sv x.name,sv x.other,sv x.a.par,sv x.a.name,sv x.b.par,sv x.b.name,.int .i64 10] 116),pt b8 (cl [sv (ae l n).name,.bool (ae l n).dfd,ca,cb,ce,cf,ci] 44),VR ow 9 1 ((xs.take i).map nC),VR (.slice (some ⟨ab,ao,none⟩) xs.length wc) 9 1 (xs.map nC),Res.star (marks bs)]++[Y4,pt b9 (cl (fu (.slice vAq l.length vK) (.map<|some mb) (ae l n) da dbb de df di u (.map<|some bm) false) 206),mps mb m,mps bm bmp]))/\h''=h0++hr,Ctw.perm (Ctw.frame (g:=hr)<|Ctw.star (L:=[pt yl (.loop rec),pt db (.deferred<|some []),pt b5 (cl [.slice vAq l.length vK,.map (some mb),ow,.int .i64 0,sv [],sv [],sv [],sv [],sv [],sv [],sv [],.int .i64 0] 116),pt b2 (cl [.slice none 0 0,.map none,.slice none 0 0,.int .i64 0,sv [],sv [],sv [],sv [],sv [],sv [],sv [],.int .i64 0] 116),pt b8 (cl [sv (ae l n).name,.bool (ae l n).dfd,ca,cb,ce,cf,ci] 44),VR ow 9 1 ((xs.take i).map nC),VR (.slice (some ⟨ab,ao,none⟩) xs.length wc) 9 1 (xs.map nC),Res.star (marks bs)]) (A:=[Y3,pt b9 (cl (fu (.slice vAq l.length vK) (.map<|some mb) (ae l n) da dbb de df di u (.map<|some bm) false) 206),mps mb m,mps bm bmp])<|Ctw.vw (Ctw.perm (h127 yl (λL r=>L=C/\r=Res.star ([pt yl (.loop rec),pt db (.deferred<|some []),pt b5 (cl [.slice vAq l.length vK,.map (some mb),ow,.int .i64 0,sv [],sv [],sv [],sv [],sv [],sv [],sv [],.int .i64 0] 116),pt b2 (cl [.slice none 0 0,.map none,.slice none 0 0,.int .i64 0,sv [],sv [],sv [],sv [],sv [],sv [],sv [],.int .i64 0] 116),pt b8 (cl [sv (ae l n).name,.bool (ae l n).dfd,ca,cb,ce,cf,ci] 44),VR ow 9 1 ((xs.take i).map nC),VR (.slice (some ⟨ab,ao,none⟩) xs.length wc) 9 1 (xs.map nC),Res.star (marks bs)])) (λx r=>C.head? = some x/\∃ rec2:Loop,rec2.state≠.busy/\rec2.pending=some .ret/\r=Res.star ([pt yl (.loop rec2),pt db (.deferred<|some []),pt b5 (cl [.slice vAq l.length vK,.map (some mb),ow,.int .i64 x.kind,sv x.cls,sv x.name,sv x.other,sv x.a.par,sv x.a.name,sv x.b.par,sv x.b.name,.int .i64 10] 116),pt b2 (cl [.slice vAq l.length vK,.map (some mb),ow,.int .i64 x.kind,sv x.cls,sv x.name,sv x.other,sv x.a.par,sv x.a.name,sv x.b.par,sv x.b.name,.int .i64 10] 116),pt b8 (cl [sv (ae l n).name,.bool (ae l n).dfd,ca,cb,ce,cf,ci] 44),VR ow 9 1 ((xs.take i).map nC),VR (.slice (some ⟨ab,ao,none⟩) xs.length wc) 9 1 (xs.map nC),Res.star (marks bs)])) ?_ _ ⟨Z,Z⟩) (by (try simp only [lC,lN]); exact (by repeat (first | exact Pm.refl | refine Pm.cons slq ?_):Pm _ _).perm)) ?_) (by (try simp only [lC,lN]); exact (by repeat (first | exact Pm.refl | refine Pm.cons slq ?_):Pm _ _).perm),?_⟩
  ·rintro x rest r ⟨hCx,rfl⟩
   refine Yc.star (R:=λu L'=>u = .bool false/\∃ rec2:Loop,rec2.state≠.busy/\rec2.pending=some .ret/\L'=[pt yl (.loop rec2),pt db (.deferred<|some []),pt b5 (cl [.slice vAq l.length vK,.map (some mb),ow,.int .i64 x.kind,sv x.cls,sv x.name,sv x.other,sv x.a.par,sv x.a.name,sv x.b.par,sv x.b.name,.int .i64 10] 116),pt b2 (cl [.slice vAq l.length vK,.map (some mb),ow,.int .i64 x.kind,sv x.cls,sv x.name,sv x.other,sv x.a.par,sv x.a.name,sv x.b.par,sv x.b.name,.int .i64 10] 116),pt b8 (cl [sv (ae l n).name,.bool (ae l n).dfd,ca,cb,ce,cf,ci] 44),VR ow 9 1 ((xs.take i).map nC),VR (.slice (some ⟨ab,ao,none⟩) xs.length wc) 9 1 (xs.map nC),Res.star (marks bs)]) (qJ (n:=65) (rec:=rec) (args:=[cfV x]) (hf:=[pt db (.deferred<|some []),pt b5 (cl [.slice vAq l.length vK,.map (some mb),ow,.int .i64 0,sv [],sv [],sv [],sv [],sv [],sv [],sv [],.int .i64 0] 116),pt b2 (cl [.slice none 0 0,.map none,.slice none 0 0,.int .i64 0,sv [],sv [],sv [],sv [],sv [],sv [],sv [],.int .i64 0] 116),pt b8 (cl [sv (ae l n).name,.bool (ae l n).dfd,ca,cb,ce,cf,ci] 44),VR ow 9 1 ((xs.take i).map nC),VR (.slice (some ⟨ab,ao,none⟩) xs.length wc) 9 1 (xs.map nC),Res.star (marks bs)]) (by rw [hps]; rfl) hkn2 (by rw [hps]; decide) ?_)<|λu L' ⟨h1,rec2,h3,h4,h2⟩=>.inr ⟨h1,_,⟨by rw [<- hCx]; rfl,rec2,h3,h4,Z⟩,by rw [h2]⟩
   intro hr2 w1
   rw [hasg,hps,hbo]
   simp only [lC,lN]
   unfold cfV cfC
   refine cR (ax zQ λb10=>?_)
   refine ai Z Z tK Z Z ?_
   refine sN<|nK [2,5,10] Z<|au<|lI Z slq (by first | rfl | assumption) ?_
   refine cB<|cQ<|sV (af Z qP Z ah) ?_
   refine sV (vF Z Ka Z)<|iF Z Z tK Z (λu hu=>List.all_eq_true.1 (show ([.int .i64 x.kind,sv x.cls,sv x.name,sv x.other,sv x.a.par,sv x.a.name,sv x.b.par,sv x.b.name]:List Value).all Value.oneCell'=true from Z) u hu) (show Sel _ (pt b5<|cl [.slice vAq l.length vK,.map (some mb),ow,.int .i64 0,sv [],sv [],sv [],sv [],sv [],sv [],sv [],.int .i64 0] 116) _ from slq) (by simp) ?_
   rw [show splice [.slice vAq l.length vK,.map (some mb),ow,.int .i64 0,sv [],sv [],sv [],sv [],sv [],sv [],sv [],.int .i64 0] (0+3) [.int .i64 x.kind,sv x.cls,sv x.name,sv x.other,sv x.a.par,sv x.a.name,sv x.b.par,sv x.b.name]=[.slice vAq l.length vK,.map (some mb),ow,.int .i64 x.kind,sv x.cls,sv x.name,sv x.other,sv x.a.par,sv x.a.name,sv x.b.par,sv x.b.name,.int .i64 0] from rfl]
   refine sV (vF Z vz Z)<|bf Z Z D5 ?_
   refine sK [2,5] Z<|cQ<|sV (af Z lK Z ah) ?_
   have h12:([.slice vAq l.length vK,.map (some mb),ow,.int .i64 x.kind,sv x.cls,sv x.name,sv x.other,sv x.a.par,sv x.a.name,sv x.b.par,sv x.b.name,.int .i64 10]:List Value).all Value.oneCell'=true:=by simp only [List.all_cons,List.all_nil,how,Bool.and_true,Bool.true_and]; rfl
   refine ai Z Z jk Z h12 ?_
   refine sK [2] Z<|cT<|xW<|kT slq ⟨Z,?rr,?_,?_,Z⟩ ?_
   rotate_left 3
   ·exact sbq
   ·simp
   ·rfl
  ·rintro u9 h' ⟨Y4,k',rfl,hE4,rfl,r,rfl,hor⟩
   rcases hor with ⟨hC0,hr9⟩ | ⟨x,hx,rec2,hb2,hp2,hr9⟩
   ·subst hr9
    exact ⟨[pt yl (.loop rec),pt db (.deferred<|some []),pt b5 (cl [.slice vAq l.length vK,.map (some mb),ow,.int .i64 0,sv [],sv [],sv [],sv [],sv [],sv [],sv [],.int .i64 0] 116),pt b2 (cl [.slice none 0 0,.map none,.slice none 0 0,.int .i64 0,sv [],sv [],sv [],sv [],sv [],sv [],sv [],.int .i64 0] 116),pt b8 (cl [sv (ae l n).name,.bool (ae l n).dfd,ca,cb,ce,cf,ci] 44),VR ow 9 1 ((xs.take i).map nC),VR (.slice (some ⟨ab,ao,none⟩) xs.length wc) 9 1 (xs.map nC),Res.star (marks bs)]++[Y4,pt b9 (cl (fu (.slice vAq l.length vK) (.map<|some mb) (ae l n) da dbb de df di u (.map<|some bm) false) 206),mps mb m,mps bm bmp],λt=>xu (L:=[pt yl (.loop rec),pt db (.deferred<|some []),pt b5 (cl [.slice vAq l.length vK,.map (some mb),ow,.int .i64 0,sv [],sv [],sv [],sv [],sv [],sv [],sv [],.int .i64 0] 116),pt b2 (cl [.slice none 0 0,.map none,.slice none 0 0,.int .i64 0,sv [],sv [],sv [],sv [],sv [],sv [],sv [],.int .i64 0] 116),pt b8 (cl [sv (ae l n).name,.bool (ae l n).dfd,ca,cb,ce,cf,ci] 44),VR ow 9 1 ((xs.take i).map nC),VR (.slice (some ⟨ab,ao,none⟩) xs.length wc) 9 1 (xs.map nC),Res.star (marks bs)]) (A:=[Y4,pt b9 (cl (fu (.slice vAq l.length vK) (.map<|some mb) (ae l n) da dbb de df di u (.map<|some bm) false) 206),mps mb m,mps bm bmp]),Z,Y4,hE4,.inl ⟨hC0.symm,Z⟩⟩
   ·subst hr9
    exact ⟨[pt yl (.loop rec2),pt db (.deferred<|some []),pt b5 (cl [.slice vAq l.length vK,.map (some mb),ow,.int .i64 x.kind,sv x.cls,sv x.name,sv x.other,sv x.a.par,sv x.a.name,sv x.b.par,sv x.b.name,.int .i64 10] 116),pt b2 (cl [.slice vAq l.length vK,.map (some mb),ow,.int .i64 x.kind,sv x.cls,sv x.name,sv x.other,sv x.a.par,sv x.a.name,sv x.b.par,sv x.b.name,.int .i64 10] 116),pt b8 (cl [sv (ae l n).name,.bool (ae l n).dfd,ca,cb,ce,cf,ci] 44),VR ow 9 1 ((xs.take i).map nC),VR (.slice (some ⟨ab,ao,none⟩) xs.length wc) 9 1 (xs.map nC),Res.star (marks bs)]++[Y4,pt b9 (cl (fu (.slice vAq l.length vK) (.map<|some mb) (ae l n) da dbb de df di u (.map<|some bm) false) 206),mps mb m,mps bm bmp],λt=>xu (L:=[pt yl (.loop rec2),pt db (.deferred<|some []),pt b5 (cl [.slice vAq l.length vK,.map (some mb),ow,.int .i64 x.kind,sv x.cls,sv x.name,sv x.other,sv x.a.par,sv x.a.name,sv x.b.par,sv x.b.name,.int .i64 10] 116),pt b2 (cl [.slice vAq l.length vK,.map (some mb),ow,.int .i64 x.kind,sv x.cls,sv x.name,sv x.other,sv x.a.par,sv x.a.name,sv x.b.par,sv x.b.name,.int .i64 10] 116),pt b8 (cl [sv (ae l n).name,.bool (ae l n).dfd,ca,cb,ce,cf,ci] 44),VR ow 9 1 ((xs.take i).map nC),VR (.slice (some ⟨ab,ao,none⟩) xs.length wc) 9 1 (xs.map nC),Res.star (marks bs)]) (A:=[Y4,pt b9 (cl (fu (.slice vAq l.length vK) (.map<|some mb) (ae l n) da dbb de df di u (.map<|some bm) false) 206),mps mb m,mps bm bmp]),Z,Y4,hE4,.inr ⟨x,rec2,hx,hb2,hp2,Z⟩⟩
  ·rintro u9 h'' ⟨h0, ⟨rfl, Y4, hE4, (⟨rfl, rfl⟩ | ⟨x, rec2, hx, hb2, hp2, rfl⟩)⟩, rfl⟩
   ·simp only [lC,lN]
    refine ⟨rec,_,slq,(by rw [hst]; simp),?_⟩
    rw [hpe]
    dsimp only
    refine xB<|xT<|cS<|cQ<|sM Z ?_
    have hE4':=hE3'.trans hE4
    have hE24:=hE2.trans<|hE3.trans hE4
    have hms4:=hms.up<|hE3.trans hE4
    have hov:=KG hms4
    dsimp only at hbl
    refine aY Z Z en59 Z (hov) ?_
    refine sK [2,5,7,8,9,20,21,22,45] Z<|cC Z (λhto=>?_)<|λhto=>?_
    ·rw [if_pos (show over (lS l fs n)=true from hto)] at hbl
     refine cQ<|sV (vF Z vz Z)<|bf Z Z D5 ?_
     refine sK [2,5,7,8,9,20,21,22] Z<|cQ<|sV (af Z lK Z ah) ?_
     have h12:([.slice vAq l.length vK,.map (some mb),ow,.int .i64 0,sv [],sv [],sv [],sv [],sv [],sv [],sv [],.int .i64 3]:List Value).all Value.oneCell'=true:=by simp only [List.all_cons,List.all_nil,how,Bool.and_true,Bool.true_and]; rfl
     refine ai Z Z jk Z h12 ?_
     refine sK [2] Z<|cT<|xR<|xW<|xR<|xR<|xW<|xR<|jw slq slq ?_
     rw [hbl]
     refine kE (bs:=db::bs) (k:=pt b2 (cl [.slice vAq l.length vK,.map (some mb),ow,.int .i64 0,sv [],sv [],sv [],sv [],sv [],sv [],sv [],.int .i64 3] 116)::([Y4,mps mb m,VR ow 9 1 ((xs.take i).map nC)]++hr)) Z (.cellN Z lK Z .here .nil) ⟨Y4,_,Z,hE4',mb,m,ow,xs.take i,Z,Z,(hm.up hE24),hfs.symm,how⟩ (Sub.cons<|Sub.refl _) ?_
     simp only [lC,lN]
     exact sbq
    ·have hto2:over (lS l fs n)=false:=hto
     have hto':¬ over (lS l fs n)=true:=by rw [hto2]; simp
     rw [if_neg hto'] at hbl
     have hsh:(lS l fs n).length≤60:=by
      refine Nat.le_of_not_lt λh=>hto' ?_
      show over (lS l fs n)=true
      unfold over
      rw [decide_eq_true h,Bool.true_or]
     have hrn:dP (aO l) [(ae l n).name]=0:=eX.2 ⟨hR.sys,by
      intro k hk
      rw [List.mem_singleton] at hk
      subst hk
      rw [hcn]
      rw [bS]; exact hnm⟩
     have hab:=oF hR (by rw [hcn]; exact hnm:(bE l (ae l n).name).isSome=true)
     have hfc:=KP (fv:=.map<|some mb) (hl.up hE4') (Enc.up (hE24).rd hcr0) hms4 rfl hrn<|by omega
     refine cK<|xT<|cQ<|sV (vF Z yJ Z)<|sV (vY Z fG) ?_
     refine sM Z (ak (cells:=[sv n]) Z underlying40 gm Z Z Zz (ltn Z) λb50=>?_)
     have hil:((xs.take i).map nC).length≤24:=by rw [List.length_map,List.length_take]; exact Nat.le_trans (Nat.min_le_right _ _) hol
     refine dF [[sv n]] Z Z underlying40 gm Z (by decide) (show Sel _ (VR ow 9 1<|(xs.take i).map nC) _ from slq) (by simp) Z (λj u2 hu2=>bQ<|bU Zt) (by simp [sv,Value.oneCell']) (by omega) (by omega) (ltn Z) λw2 hw2 _=>?_
     refine sV (vF Z yJ Z)<|bf Z Z yn ?_
     refine sK [2,5,7,8,9,20,21,22] Z<|iR (ork [(0,2),(1,2),(2,1),(3,2),(4,2),(5,1),(6,1),(7,2),(8,0),(9,0)] .nil) (λi => !(Nat.beq i 9)) [pt b5 (cl [.slice vAq l.length vK,.map (some mb),w2,.int .i64 0,sv [],sv [],sv [],sv [],sv [],sv [],sv [],.int .i64 0] 116),pt b8 (cl [sv (ae l n).name,.bool (ae l n).dfd,ca,cb,ce,cf,ci] 44)] mixed Zz ?_
     refine dV Z (vF Z gI Z)<|dV Z (vF Z iG Z)<|bg Z (vY Z oh) ?_
     refine dV Z (vM Z)<|dV Z (vF Z gI Z)<|bg Z (af Z ig Z<|bD (k:=0) ah (vs:=[.slice vAq l.length vK,.map (some mb)]) Z) ?_
     refine bg Z (af Z gp Z ah) ?_
     refine dV Z (vM Z)<|aP Z<|aH Z Z en60 Z (hfc) ?_
     rintro u9 h' ⟨Y5,k5,rfl,hE5,rfl,fus,rfl,hfr⟩
     simp only [lC,lN]
     refine aX ?_
     refine aP Z<|cZ Z Z Z nY slq<|aX ?_
     refine bA<|nK [2,5,20,21,22] Z<|au<|xB<|xT<|cR<|sV (aI Z Z Z6)<|sM Z<|sN<|nK [2,5,20,21,22] Z<|au<|jw slq slq ?_
     refine lm (Y5,eH m n (.agg fus.toArray),w2,i+1,fs++[(n,flatOf l (ae l n) (lS l fs n))],db::bs) ⟨hE4'.trans hE5,hlt,hw2,(hm.up<|hE24.trans hE5).put hnew hfr,⟨hF.right,hF.flb.put hnew hsh hmok,hF.lists⟩,by rw [List.map_append,hfs,htk]; rfl,hbl⟩ (by show xs.length - (i+1)<xs.length - i; omega) Z ⟨Z,Z,Z,Z,Z,trivial⟩ ?_
     dsimp only
     rw [htk,List.map_append]
     exact sbq
   ·simp only [lC,lN]
    refine ⟨rec2,_,slq,hb2,?_⟩
    rw [hp2]
    dsimp only
    refine cT<|xW<|xR<|xW<|xR<|xR<|xW<|xR<|jw slq slq ?_
    obtain ⟨rest,rfl⟩:∃ rest,C=x::rest:=by
     cases C with
     | nil=>cases hx
     | cons y t=>cases hx; exact ⟨t,rfl⟩
    dsimp only at hbl
    rw [hbl]
    refine kE (bs:=db::bs) (k:=pt b2 (cl [.slice vAq l.length vK,.map (some mb),ow,.int .i64 x.kind,sv x.cls,sv x.name,sv x.other,sv x.a.par,sv x.a.name,sv x.b.par,sv x.b.name,.int .i64 10] 116)::([Y4,mps mb m,VR ow 9 1 ((xs.take i).map nC)]++hr)) Z (.cellN Z lK Z .here .nil) ⟨Y4,_,Z,hE3'.trans hE4,mb,m,ow,xs.take i,Z,Z,(hm.up<|hE2.trans<|hE3.trans hE4),hfs.symm,how⟩ (Sub.cons<|Sub.refl _) ?_
    simp only [lC,lN]
    exact sbq
 ·have hie:i=xs.length:=Nat.le_antisymm hi<|Nat.not_lt.1 Zx
  subst hie
  rw [List.drop_length] at hbl
  rw [List.take_length] at hfs
  have hbl2:lT l xs []=(fs,cf0,0):=hbl
  refine aB<|xE<|xE<|xY<|xT<|cQ<|sV (af Z lK Z ah) ?_
  have h12:([.slice vAq l.length vK,.map (some mb),ow,.int .i64 0,sv [],sv [],sv [],sv [],sv [],sv [],sv [],.int .i64 0]:List Value).all Value.oneCell'=true:=by simp only [List.all_cons,List.all_nil,how,Bool.and_true,Bool.true_and]; rfl
  refine ai Z Z jk Z h12 ?_
  refine sK [2] Z<|cT ?_
  rw [hbl2]
  rw [List.take_length]
  refine kE (bs:=bs) (k:=pt b2 (cl [.slice vAq l.length vK,.map (some mb),ow,.int .i64 0,sv [],sv [],sv [],sv [],sv [],sv [],sv [],.int .i64 0] 116)::([Y,mps mb m,VR ow 9 1 (xs.map nC)]++hr)) Z (.cellN Z lK Z .here .nil) ⟨Y,_,Z,hE,mb,m,ow,xs,Z,Z,hm,hfs.symm,how⟩ (Sub.cons<|Sub.refl _) ?_
  simp only [lC,lN]
  exact sbq
end
end Go.Fl
