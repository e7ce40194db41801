/-
  Package flat: Flats,CheckFlats,member,MemberOf. Conditions: what is read; the library's table of blanks; sizes.
-/
import Derived.Test.YtknmacdbffgjgaaGreatDoorP9
import Derived.Test.YtknmacdbffgjgaaGreatDoorP4
import Derived.Test.YtknmacdbffgjgaaGreatDoorP8
set_option linter.unusedVariables false
set_option linter.unusedSimpArgs false
set_option maxRecDepth 100000
set_option maxHeartbeats 16000000
namespace Go.Fl
open Go Go.RowKit Go.Ck Go.Proofs Go.Proofs.Tryz Go.Proofs.YtknmacdbffgjgaaGreatDoor Fx Go.Hr
namespace Sk
section
variable (s:Sk)
def ap (d:Sd):List Cf:=s.pairs (s.ms.filter λm=>m.seeds.contains d) (λa b => !sameTy a b) λa b=>⟨14,s.c.name,a.name,b.name,⟨d.cls,d.name⟩,og0⟩
theorem apart_eq:s.apart=s.seeds.flatMap s.ap:=rfl
theorem seeds_len {s:Sk} (hB:SkB s):s.seeds.length<=432000:=by
 have h1:s.seeds.length<=(s.ms.flatMap λm=>m.seeds).length:=aN (fG _).1.nodup λx hx=>((fG _).2 x).1 hx
 exact Nat.le_trans h1 hB.ms
end
end Sk
attribute [local irreducible] Go.Ck.Sub St Cd Xt Nx DrL LsW
section
variable {X Y:Res} {v v':Value} {us us':List Value}

theorem Pb {yl mb bm : Nat} {Φ : List Cf -> Res -> Prop} {Stop : Cf -> Res -> Prop} (hy : Yh yl Φ Stop) {S : Sk} {all : Bool} (hall : S.all = all) {m bmp : List (Nm × Value)} {ca cb ce cf ci mv : Value} (hK : SkR X S v m ca cb ce cf ci mv bmp) (hB : SkB S) (R : List Cf) (r0 : Res) (h0 : Φ (S.apart ++ R) r0) :
  CtX prog 221 #[.agg (fC v (.map<|some mb) S.c ca cb ce cf ci mv (.map<|some bm) all).toArray,.func (.yield yl) #[] #[]] X [mps mb m,mps bm bmp,r0] λu Y k'=>∃ r,k'=[mps mb m,mps bm bmp,r]/\Yend Φ Stop R u r:=by
 have hml:maxLen=9223372036854775807:=rfl
 obtain ⟨cb,ck,rfl,hckl,hckm,_⟩:=id hK.par.form
 obtain ⟨cf,cfk,rfl,_⟩:=id hK.feat.form
 obtain ⟨mA,mK,rfl,_⟩:=id hK.ms.form
 have hcn:=λb=>gD (fv:=.map<|some mb) (c:=S.c) (v:=v) (ca:=ca) (cb:=.slice cb S.c.pars.length ck) (ce:=ce) (cf:=.slice cf S.c.feats.length cfk) (ci:=ci) (mv:=.slice mA S.ms.length mK) (bv:=.map<|some bm) (all:=all) b
 have hsel:=Sk.seeds_len hB
 rw [Sk.apart_eq] at h0
 unfold CtX
 unfold fC at *
 refine aJ (n:=78) func221 Z Z (len Z) λhr w0=>?_
 refine cQ (aV Z Z λb2=>?_)
 refine sA Z<|sK [1,2,4] Z<|cS<|cQ<|sV (vF Z mZ Z)<|sV (vY Z qX) ?_
 refine aH Z Z en219 Z (yz hK.ms (by have:=hB.ms; omega)) ?_
 rintro u h' ⟨hu,rfl⟩
 simp only [lC,lN]
 have hsd:nX (S.ms.flatMap λm=>m.seeds)=S.seeds:=rfl
 rw [hsd]
 refine jJ (v:=u) (E:=69) (sz:=2) (rows:=S.seeds.map sdC) slq λwa wc hwf hwl hwm=>?_
 rw [List.length_map] at hwf hwl
 subst hwf
 refine sV (aC Z underlying67)<|sM Z<|sK [1,2,4,15,16,17] Z<|cB<|aY (σ := Res×Res×Nat) (λq=>[(1,.func (.yield yl) #[] #[]),(2,.pointer (some ⟨b2,0,none⟩)),(15,.slice wa S.seeds.length wc),(16,.int .i64 S.seeds.length),(17,.int .i64 (q.2.2:Nat))]) (λq=>VR (.slice wa S.seeds.length wc) 69 2 (S.seeds.map sdC)::pt b2 (cl [v,.map (some mb),sv S.c.name,.bool S.c.dfd,ca,.slice cb S.c.pars.length ck,ce,.slice cf S.c.feats.length cfk,ci,.slice mA S.ms.length mK,.map (some bm),.bool all] 206)::q.1::mps mb m::mps bm bmp::q.2.1::hr) (λq=>Ext X q.1/\q.2.2<=S.seeds.length /\ Φ ((S.seeds.drop q.2.2).flatMap (S.ap)++R) q.2.1) (λq=>S.seeds.length - q.2.2) (X,r0,0) ⟨Ext.refl X,Nat.zero_le _,h0⟩ ?_
 rintro ⟨Y,r,j⟩ ⟨hE,hj,hΦ⟩
 simp only at hE hj hΦ
 dsimp only
 refine cQ<|sV (aO Z Z)<|sN<|nT<|cS<|cC Z (λhd=>?_)<|λhd=>?_
 .have hltj:j<S.seeds.length:=Zx
  rw [eO hltj,List.append_assoc] at hΦ
  have hnx:(S.seeds.map sdC)[j]? = some (sdC S.seeds[j]):=by rw [List.getElem?_map,Zy hltj]; rfl
  refine fD (r:=VR (.slice wa S.seeds.length wc) 69 2<|S.seeds.map sdC) slq λhok=>?_
  obtain ⟨ab,ao,rfl⟩:∃ ab ao,wa=some ⟨ab,ao,none⟩:=by
   obtain ⟨f0,hf0⟩:=hok
   rcases VR.form hf0 with ⟨h3,h4⟩ | ⟨b,o,cp,h3,-⟩
   .have:=List.map_eq_nil_iff.1 h4
    rw [this] at hltj; simp at hltj
   .rw [List.length_map] at h3; cases h3; exact ⟨b,o,rfl⟩
  generalize S.seeds[j]=d at hΦ hnx
  generalize hA:(S.seeds.drop (j+1)).flatMap (S.ap)++R=A at hΦ
  unfold sdC at hnx
  have hK2:=hK.up hE
  refine cK<|xT<|cS<|cB<|cQ<|sV (vI (k:=j) Z Z qV Z hltj Z)<|sV (af Z iN Z<|dU hnx) ?_
  refine au al69 λb6=>?_
  refine ai Z Z sz69 Z Z ?_
  refine sK [1,2,6,15,16,17] Z<|cQ<|sV (vF Z mZ Z)<|sV (vY Z qX) ?_
  have hmf:=hB.mf
  have hrb:reachBytes=140737488351232:=rfl
  refine aH Z Z en160 Z (G8 hK2.ms) ?_
  rintro u h' ⟨T,rfl,rows,rfl,ho,hro⟩
  simp only [lC,lN]
  refine sV (bX Z Z) (K5 [pt b6 (cl [sv d.cls,sv d.name] 69)] Y λY2 hE2 hsel2 hpk=>?_)
  have hb6:Rds Y2 b6 0 [sv d.cls,sv d.name]:=λi hi=>hsel2 _ _ .here _ _<|ag i hi
  refine aH Z Z en268 Z (ME (g:=λm:Mb => !m.seeds.contains d) (cp := #[.pointer (some ⟨b6,0,none⟩)]) (hro.up hE2) (by omega) en269 λQ hQ a _ us h=>JO h<|λi hi=>hQ _ _<|hb6 i hi) ?_
  rintro u h' ⟨rows',hu2,hro',rfl⟩
  simp only [lC,lN]
  have hfi:(S.ms.filter λx => !(!x.seeds.contains d))=S.ms.filter λm=>m.seeds.contains d:=by simp
  rw [hfi] at hro'
  have hΦ : Φ (S.pairs (S.ms.filter λm=>m.seeds.contains d) (λa b => !Sk.sameTy a b) (λa b=>⟨14,S.c.name,a.name,b.name,⟨d.cls,d.name⟩,og0⟩)++A) r:=hΦ
  have hLl:(S.ms.filter λm=>m.seeds.contains d).length<=300:=Nat.le_trans (List.length_filter_le _ _) hmf
  generalize (S.ms.filter λm=>m.seeds.contains d)=L at hro' hΦ hLl
  refine sA Z<|sK [1,2,6,7,15,16,17] Z<|cS ?_
  have hrl:=hro'.1
  refine fO (v:=u) (E:=75) (sz:=14) (rows:=rows') slq λla lc hlf hll hlm=>?_
  rw [hrl] at hlf hll
  subst hlf
  refine fD (r:=VR (.slice la L.length lc) 75 14 rows') slq λhok2=>?_
  refine E5 [VR (.slice la L.length lc) 75 14 rows'] Y2 λY3 hE3 hsel3=>?_
  have hls:Ls Y3 (.slice la L.length lc) L:=Rws.ls (E:=75) (hro'.up hE3) hok2 (hsel3 _ _ .here) (by show L.length * 232<=reachBytes; omega)
  have hb63:∀ i (hi:i<[sv d.cls,sv d.name].length),Rd Y3 ⟨b6,0+i,none⟩ [sv d.cls,sv d.name][i]:=λi hi=>hE3.rd _ _<|hb6 i hi
  have hE4:=hE.trans<|hE2.trans hE3
  refine cR<|sM Z<|sV (aC Z underlying52)<|sM Z<|sN<|nT<|cB<|aY (σ := Res×Nat) (λq=>[(1,.func (.yield yl) #[] #[]),(2,.pointer (some ⟨b2,0,none⟩)),(15,.slice (some ⟨ab,ao,none⟩) S.seeds.length wc),(16,.int .i64 S.seeds.length),(17,.int .i64 (j:Nat)),(6,.pointer (some ⟨b6,0,none⟩)),(7,.slice la L.length lc),(26,.slice la L.length lc),(27,.int .i64 L.length),(28,.int .i64 (q.2:Nat))]) (λq=>VR (.slice (some ⟨ab,ao,none⟩) S.seeds.length wc) 69 2 (S.seeds.map sdC)::pt b2 (cl [v,.map (some mb),sv S.c.name,.bool S.c.dfd,ca,.slice cb S.c.pars.length ck,ce,.slice cf S.c.feats.length cfk,ci,.slice mA S.ms.length mK,.map (some bm),.bool all] 206)::Y3::mps mb m::mps bm bmp::q.1::hr) (λq=>q.2<=L.length /\ Φ ((L.zipIdx.drop q.2).flatMap (λa=>lG S L (λa b => !Sk.sameTy a b) (λa b=>⟨14,S.c.name,a.name,b.name,⟨d.cls,d.name⟩,og0⟩) a 0)++A) q.1) (λq=>L.length - q.2) (r,0) ⟨Nat.zero_le _,hΦ⟩ ?_
  clear hΦ
  rintro ⟨r,i⟩ ⟨hi,hΦ⟩
  simp only at hi hΦ
  dsimp only
  refine cQ<|sV (aO Z Z)<|sN<|nT<|cS<|cC Z (λhd2=>?_)<|λhd2=>?_
  .have hlti:i<L.length:=Zw
   rw [kT hlti,List.append_assoc] at hΦ
   obtain ⟨cb',co,ccap,cus,e4,hcus,hcrd,hcr⟩:=hls.at<|Zy hlti
   obtain ⟨rfl,rfl⟩:la=some ⟨cb',co,none⟩/\lc=ccap:=by cases e4; exact ⟨rfl,rfl⟩
   generalize L[i]=x at hΦ hcr
   generalize hA2:(L.zipIdx.drop (i+1)).flatMap (λa=>lG S L (λa b => !Sk.sameTy a b) (λa b=>⟨14,S.c.name,a.name,b.name,⟨d.cls,d.name⟩,og0⟩) a 0)++A=A2 at hΦ
   have hxr:=hcr
   have hxo:=Enc.ones hcr
   obtain ⟨x2,x5,xy,x11,x12,x13,rfl,-⟩:=dN hcr
   unfold iC at *
   refine cK<|xT<|cS<|cB<|cQ<|sM Z<|sV (vI (k:=i) Z Z oM Z hlti Z)<|sV (af Z fE Z hcrd) ?_
   refine au jR λb9=>?_
   refine sA Z<|ai Z Z iH Z hxo ?_
   refine sK [1,2,6,7,8,9,15,16,17,26,27,28] Z<|cQ<|sM Z<|sV (aC Z underlying52)<|sM Z<|sN<|nT<|cB<|aY (σ := Res×Nat) (λq=>[(1,.func (.yield yl) #[] #[]),(2,.pointer (some ⟨b2,0,none⟩)),(15,.slice (some ⟨ab,ao,none⟩) S.seeds.length wc),(16,.int .i64 S.seeds.length),(17,.int .i64 (j:Nat)),(6,.pointer (some ⟨b6,0,none⟩)),(7,.slice (some ⟨cb',co,none⟩) L.length lc),(26,.slice (some ⟨cb',co,none⟩) L.length lc),(27,.int .i64 L.length),(28,.int .i64 (i:Nat)),(8,.int .i64 (i:Nat)),(9,.pointer (some ⟨b9,0,none⟩)),(33,.slice (some ⟨cb',co,none⟩) L.length lc),(34,.int .i64 L.length),(35,.int .i64 (q.2:Nat))]) (λq=>pt b9 (cl [sv x.name,.int .i64 x.kind,x2,sv x.impl.cls,sv x.impl.name,x5,.int .i64 x.ty.kind,sv x.ty.name,xy,.bool x.ty.void,.bool x.ty.sep,x11,x12,x13] 75)::VR (.slice (some ⟨ab,ao,none⟩) S.seeds.length wc) 69 2 (S.seeds.map sdC)::pt b2 (cl [v,.map (some mb),sv S.c.name,.bool S.c.dfd,ca,.slice cb S.c.pars.length ck,ce,.slice cf S.c.feats.length cfk,ci,.slice mA S.ms.length mK,.map (some bm),.bool all] 206)::Y3::mps mb m::mps bm bmp::q.1::hr) (λq=>q.2<=L.length /\ Φ (lG S L (λa b => !Sk.sameTy a b) (λa b=>⟨14,S.c.name,a.name,b.name,⟨d.cls,d.name⟩,og0⟩) (x,i) q.2++A2) q.1) (λq=>L.length - q.2) (r,0) ⟨Nat.zero_le _,hΦ⟩ ?_
   clear hΦ
   rintro ⟨r,k⟩ ⟨hk,hΦ⟩
   simp only at hk hΦ
   dsimp only
   refine cQ<|sV (aO Z Z)<|sN<|nT<|cS<|cC Z (λhd3=>?_)<|λhd3=>?_
   .have hltk:k<L.length:=Zr
    rw [FD hltk,List.append_assoc] at hΦ
    obtain ⟨eb,eo,ecap,eus,e6,heus,herd,her⟩:=hls.at<|Zy hltk
    obtain ⟨rfl,rfl⟩:cb'=eb/\co=eo:=by cases e6; exact ⟨rfl,rfl⟩
    generalize L[k]=y at hΦ her
    have hst:=xq hxr her
    have hyo:=Enc.ones her
    obtain ⟨y2,y5,yy,y11,y12,y13,rfl,-⟩:=dN her
    unfold iC at *
    refine cK<|xT<|cS<|cB<|cQ<|sM Z<|sV (vI (k:=k) Z Z oM Z hltk Z)<|sV (af Z fE Z herd) ?_
    refine au jR λb11=>?_
    refine sA Z<|ai Z Z iH Z hyo ?_
    refine sK [1,2,6,7,8,9,10,11,15,16,17,26,27,28,33,34,35] Z<|cS<|cQ<|sM Z<|sM Z<|sV (dX Z Z)<|sM Z ?_
    by_cases hik:i=k
    .have hq:(((i:Nat):Int) == ((k:Nat):Int))=true:=by rw [hik]; simp
     rw [hq]
     iterate 4 refine aF rfl rfl rfl ?_
     refine cZ Z Z ?_
     refine cZ Z Z ?_
     refine cZ Z Z ?_
     refine aF Z Z Z ?_
     refine sV (vQ Z Z)<|sM Z<|aF Z Z Z ?_
     iterate 2 refine aF rfl rfl rfl ?_
     refine sV (vQ Z Z)<|sK [1,2,6,7,8,9,11,15,16,17,26,27,28,33,34,35,57] Z<|aQ Z ?_
     refine aB<|xE<|xY<|xT<|cR<|sV (aI Z Z Z0)<|sM Z<|sN<|nK [1,2,6,7,8,9,15,16,17,26,27,28,33,34,35] Z<|ax ?_
     refine aL (r,k+1) ⟨hltk,by rw [if_pos (.inl hik)] at hΦ; exact hΦ⟩ (by dsimp only; omega)
    .have hq:(((i:Nat):Int) == ((k:Nat):Int))=false:=by simp; omega
     rw [hq]
     refine sG Z Z (vF Z qg Z)<|sG Z Z (vY Z ld4) ?_
     refine sG Z Z (bg Z)<|sG Z Z (vM Z) ?_
     cases all
     .refine sG Z Z (vM Z)<|sG Z Z (vM Z)<|sG Z Z (aO Z Z)<|sG Z Z (vQ Z Z)<|sV (vP Z Z)<|sM Z ?_
      by_cases hki:k<i
      .have hq2:decide (((k:Nat):Int)<((i:Nat):Int))=true:=by simp; omega
       rw [hq2]
       iterate 3 refine aF rfl rfl rfl ?_
       refine sV (vQ Z Z)<|sK [1,2,6,7,8,9,11,15,16,17,26,27,28,33,34,35,57] Z<|aQ Z ?_
       refine aB<|xE<|xY<|xT<|cR<|sV (aI Z Z Z0)<|sM Z<|sN<|nK [1,2,6,7,8,9,15,16,17,26,27,28,33,34,35] Z<|ax ?_
       refine aL (r,k+1) ⟨hltk,by rw [if_pos (.inr<|.inl ⟨hall,hki⟩)] at hΦ; exact hΦ⟩ (by dsimp only; omega)
      .have hq2:decide (((k:Nat):Int)<((i:Nat):Int))=false:=by simp; omega
       rw [hq2]
       refine sG Z Z (af Z fE Z ag) ?_
       refine sG Z Z (af Z fE Z ag) ?_
       refine bS Z Z Z Z KO Z (hst) ?_
       refine sV (vP Z Z)<|sK [1,2,6,7,8,9,11,15,16,17,26,27,28,33,34,35,57] Z ?_
       generalize hsb:Sk.sameTy x y=bq at hΦ ⊢
       cases bq
       .have hΦ2 : Φ (⟨14,S.c.name,x.name,y.name,⟨d.cls,d.name⟩,og0⟩::(lG S L (λa b => !Sk.sameTy a b) (λa b=>⟨14,S.c.name,a.name,b.name,⟨d.cls,d.name⟩,og0⟩) (x,i) (k+1)++A2)) r:=by
         rw [if_neg (λh=>h.elim hik λh=>h.elim (λh=>hki h.2)<|λh=>by cases h)] at hΦ
         exact hΦ
        refine aG Z ?_
        refine cK<|xT<|cQ<|sV (af Z fU Z ag) ?_
        refine sV (vF Z eQ Z)<|sV (vY Z ld9) ?_
        refine sV (vF Z wQ Z)<|sV (vY Z ld9 (ha:=⟨_,_,slq,hb63 0<|by simp⟩)) ?_
        refine sV (vF Z wR Z)<|sV (vY Z ld9 (ha:=⟨_,_,slq,hb63 1<|by simp⟩)) ?_
        refine sV (aP (cells:=[sv d.cls,sv d.name]) Z<|λ_=>Zz) ?_
        refine sV (aP (cells:=[sv [],sv []]) Z<|λ_=>Zz) ?_
        refine bf Z Z kG Z (hcn 14 x.name ⟨d.cls,d.name⟩ og0) ?_
        unfold cfV cfC
        refine au EH λb12=>?_
        refine ai Z Z wP Z Z ?_
        refine sK [1,2,6,7,8,9,11,12,15,16,17,26,27,28,33,34,35] Z<|cQ<|sV (vF Z eQ Z)<|sV (vY Z ld9) ?_
        refine sV (vF Z EA Z)<|bi Z Z sz9 ?_
        refine sK [1,2,6,7,8,9,12,15,16,17,26,27,28,33,34,35] Z<|cQ<|sM Z<|sV (af Z uh Z ag) ?_
        refine kQ (gd:=0) (.inl Z) Z Z (hy _ _ _ hΦ2) ?_
        rintro u h' (⟨rfl,r',hΦ4,rfl⟩ | ⟨rfl,r',hst,rfl⟩)
        .simp only [lC,lN]
         refine sV (bg Z)<|sK [1,2,6,7,8,9,15,16,17,26,27,28,33,34,35,74] Z<|aG Z ?_
         refine cK<|xB<|xT<|cR<|sV (aI Z Z Z0)<|sM Z<|sN<|nK [1,2,6,7,8,9,15,16,17,26,27,28,33,34,35] Z<|ax ?_
         refine aL (r',k+1) ⟨hltk,hΦ4⟩ (by dsimp only; omega)
        .simp only [lC,lN]
         refine sV (bg Z)<|sK [1,2,6,7,8,9,15,16,17,26,27,28,33,34,35,74] Z<|aQ Z ?_
         refine cQ<|sA Z<|sK [4] Z<|cT<|xW<|xR<|xR<|xW<|xW<|xR<|xR<|xW<|xW ?_
         refine xR<|xR<|xW<|xR ?_
         exact aj Z ⟨Y3,[mps mb m,mps bm bmp,r'],Z,hE4,r',Z,.inr ⟨Z,_,hst⟩⟩ sbq
       .refine aQ Z ?_
        refine aB<|xE<|xY<|xT<|cR<|sV (aI Z Z Z0)<|sM Z<|sN<|nK [1,2,6,7,8,9,15,16,17,26,27,28,33,34,35] Z<|ax ?_
        refine aL (r,k+1) ⟨hltk,by rw [if_pos (.inr<|.inr Z)] at hΦ; exact hΦ⟩ (by dsimp only; omega)
     .iterate 3 refine aF rfl rfl rfl ?_
      refine sG Z Z (vP Z Z)<|sV (vP Z Z)<|sM Z<|sG Z Z (af Z fE Z ag) ?_
      refine sG Z Z (af Z fE Z ag) ?_
      refine bS Z Z Z Z KO Z (hst) ?_
      refine sV (vP Z Z)<|sK [1,2,6,7,8,9,11,15,16,17,26,27,28,33,34,35,57] Z ?_
      generalize hsb:Sk.sameTy x y=bq at hΦ ⊢
      cases bq
      .have hΦ2 : Φ (⟨14,S.c.name,x.name,y.name,⟨d.cls,d.name⟩,og0⟩::(lG S L (λa b => !Sk.sameTy a b) (λa b=>⟨14,S.c.name,a.name,b.name,⟨d.cls,d.name⟩,og0⟩) (x,i) (k+1)++A2)) r:=by
        rw [if_neg (λh=>h.elim hik λh=>h.elim (λh=>by rw [hall] at h; cases h.1)<|λh=>by cases h)] at hΦ
        exact hΦ
       refine aG Z ?_
       refine cK<|xT<|cQ<|sV (af Z fU Z ag) ?_
       refine sV (vF Z eQ Z)<|sV (vY Z ld9) ?_
       refine sV (vF Z wQ Z)<|sV (vY Z ld9 (ha:=⟨_,_,slq,hb63 0<|by simp⟩)) ?_
       refine sV (vF Z wR Z)<|sV (vY Z ld9 (ha:=⟨_,_,slq,hb63 1<|by simp⟩)) ?_
       refine sV (aP (cells:=[sv d.cls,sv d.name]) Z<|λ_=>Zz) ?_
       refine sV (aP (cells:=[sv [],sv []]) Z<|λ_=>Zz) ?_
       refine bf Z Z kG Z (hcn 14 x.name ⟨d.cls,d.name⟩ og0) ?_
       unfold cfV cfC
       refine au EH λb12=>?_
       refine ai Z Z wP Z Z ?_
       refine sK [1,2,6,7,8,9,11,12,15,16,17,26,27,28,33,34,35] Z<|cQ<|sV (vF Z eQ Z)<|sV (vY Z ld9) ?_
       refine sV (vF Z EA Z)<|bi Z Z sz9 ?_
       refine sK [1,2,6,7,8,9,12,15,16,17,26,27,28,33,34,35] Z<|cQ<|sM Z<|sV (af Z uh Z ag) ?_
       refine kQ (gd:=0) (.inl Z) Z Z (hy _ _ _ hΦ2) ?_
       rintro u h' (⟨rfl,r',hΦ4,rfl⟩ | ⟨rfl,r',hst,rfl⟩)
       .simp only [lC,lN]
        refine sV (bg Z)<|sK [1,2,6,7,8,9,15,16,17,26,27,28,33,34,35,74] Z<|aG Z ?_
        refine cK<|xB<|xT<|cR<|sV (aI Z Z Z0)<|sM Z<|sN<|nK [1,2,6,7,8,9,15,16,17,26,27,28,33,34,35] Z<|ax ?_
        refine aL (r',k+1) ⟨hltk,hΦ4⟩ (by dsimp only; omega)
       .simp only [lC,lN]
        refine sV (bg Z)<|sK [1,2,6,7,8,9,15,16,17,26,27,28,33,34,35,74] Z<|aQ Z ?_
        refine cQ<|sA Z<|sK [4] Z<|cT<|xW<|xR<|xR<|xW<|xW<|xR<|xR<|xW<|xW ?_
        refine xR<|xR<|xW<|xR ?_
        exact aj Z ⟨Y3,[mps mb m,mps bm bmp,r'],Z,hE4,r',Z,.inr ⟨Z,_,hst⟩⟩ sbq
      .refine aQ Z ?_
       refine aB<|xE<|xY<|xT<|cR<|sV (aI Z Z Z0)<|sM Z<|sN<|nK [1,2,6,7,8,9,15,16,17,26,27,28,33,34,35] Z<|ax ?_
       refine aL (r,k+1) ⟨hltk,by rw [if_pos (.inr<|.inr Z)] at hΦ; exact hΦ⟩ (by dsimp only; omega)
   .have hend:k=L.length:=Nat.le_antisymm hk<|Nat.not_lt.1 Zr
    subst hend
    rw [Bq,List.nil_append] at hΦ
    refine aB<|xE<|xE<|xY<|xB<|xT<|cR<|sV (aI Z Z Z0)<|sM Z<|sN<|nK [1,2,6,7,15,16,17,26,27,28] Z<|ax ?_
    refine aL (r,i+1) ⟨hlti,by rw [hA2]; exact hΦ⟩ (by dsimp only; omega)
  .have hend:i=L.length:=Nat.le_antisymm hi<|Nat.not_lt.1 Zw
   subst hend
   rw [nH,List.nil_append] at hΦ
   refine aB<|xE<|xE<|xY<|xB<|xT<|cR<|sV (aI Z Z Z0)<|sM Z<|sN<|nK [1,2,15,16,17] Z<|ax ?_
   refine aL (Y3,r,j+1) ⟨hE4,hltj,by rw [hA]; exact hΦ⟩ (by dsimp only; omega)
 .have hend:j=S.seeds.length:=Nat.le_antisymm hj<|Nat.not_lt.1 Zx
  subst hend
  rw [dP,List.nil_append] at hΦ
  refine aB<|xE<|xE<|xY<|xT<|cQ<|sA Z<|sK [4] Z<|cT ?_
  exact aj Z ⟨Y,[mps mb m,mps bm bmp,r],Z,hE,r,Z,.inl ⟨Z,hΦ⟩⟩ sbq
end
end Go.Fl
namespace Go.Fl
open Go Go.RowKit Go.Ck Go.Proofs Go.Proofs.Tryz Go.Proofs.YtknmacdbffgjgaaGreatDoor Fx Go.Hr
namespace Sk
section
variable (s:Sk)
def c1 (d:Sd):List Cf:=if (s.sel d).2 then [] else s.cut (s.pairs (aX s.ms d) (λ_ _=>true) λa b=>⟨11,s.c.name,a,b,⟨d.cls,d.name⟩,og0⟩)
def c2a (p:Pt×Nat) (n:Nm):List Cf:=if s.fro p.2 n≠[]/\(((dF s.ms n).getD mb0).seeds.any λd=>decide (1<(aX s.ms d).length))=false then [s.cf 12 n ⟨p.1.name,n⟩ og0] else []
def c2 (p:Pt×Nat):List Cf:=p.1.sel.flatMap (s.c2a p)
def c3 (m:Mb):List Cf:=if s.c.dfd=false/\m.kind=3 then [s.cf 13 m.name og0 og0] else []
theorem chosen_eq (R:List Cf):s.chosen++R=s.seeds.flatMap s.c1++(s.c.pars.zipIdx.flatMap s.c2++(s.ms.flatMap s.c3++R)):=by
 unfold chosen
 simp only [List.append_assoc]
 rfl
end
end Sk
attribute [local irreducible] Go.Ck.Sub St Cd Xt Nx DrL LsW
section
variable {X Y:Res} {v v':Value} {us us':List Value}

theorem MG {yl mb bm : Nat} {Φ : List Cf -> Res -> Prop} {Stop : Cf -> Res -> Prop} (hy : Yh yl Φ Stop) {S : Sk} {all : Bool} (hall : S.all = all) {m bmp : List (Nm × Value)} {ca cb ce cf ci mv : Value} (hK : SkR X S v m ca cb ce cf ci mv bmp) (hB : SkB S) (cn : Nm) (hcn0 : S.c = ae S.l cn) (R : List Cf) (r0 : Res) (h0 : Φ (S.chosen ++ (S.apart ++ R)) r0) :
  eZ prog 131 #[.agg (fC v (.map<|some mb) S.c ca cb ce cf ci mv (.map<|some bm) all).toArray,.func (.yield yl) #[] #[]] X [mps mb m,mps bm bmp,r0] λu Y k'=>∃ r,k'=[mps mb m,mps bm bmp,r]/\Yend Φ Stop R u r:=by
 have hml:maxLen=9223372036854775807:=rfl
 obtain ⟨cb,ck,rfl,hckl,hckm,_⟩:=id hK.par.form
 obtain ⟨cf,cfk,rfl,_⟩:=id hK.feat.form
 obtain ⟨mA,mK,rfl,_⟩:=id hK.ms.form
 have hcn:=λb=>gD (fv:=.map<|some mb) (c:=S.c) (v:=v) (ca:=ca) (cb:=.slice cb S.c.pars.length ck) (ce:=ce) (cf:=.slice cf S.c.feats.length cfk) (ci:=ci) (mv:=.slice mA S.ms.length mK) (bv:=.map<|some bm) (all:=all) b
 have hsel:=Sk.seeds_len hB
 rw [Sk.chosen_eq] at h0
 generalize hT3:S.ms.flatMap S.c3++(S.apart++R)=T3 at h0
 generalize hT2:S.c.pars.zipIdx.flatMap S.c2++T3=T2 at h0
 have hrk:rk (aZ S.l) cn<=S.l.length:=by
  have:=q9 (aZ S.l) cn
  rwa [gN] at this
 have hb0:∀ b,Rds (pt b<|cl [v,.map (some mb),sv S.c.name,.bool S.c.dfd,ca,.slice cb S.c.pars.length ck,ce,.slice cf S.c.feats.length cfk,ci,.slice mA S.ms.length mK,.map (some bm),.bool all] 206) b (0+0) [v,.map (some mb)]:=λb=>bF (k:=0) ag rfl
 have hb2:∀ b,Rds (pt b<|cl [v,.map (some mb),sv S.c.name,.bool S.c.dfd,ca,.slice cb S.c.pars.length ck,ce,.slice cf S.c.feats.length cfk,ci,.slice mA S.ms.length mK,.map (some bm),.bool all] 206) b (0+2) [sv S.c.name,.bool S.c.dfd,ca,.slice cb S.c.pars.length ck,ce,.slice cf S.c.feats.length cfk,ci]:=λb=>bF (k:=2) ag rfl
 unfold eZ
 unfold fC at *
 refine gF (n:=179) func131 Z Z (len Z) λhr w0 hw0=>?_
 refine cQ (aV Z Z λb2=>?_)
 refine sA Z<|sK [1,2,4] Z<|cS<|cQ<|sV (vF Z mZ Z)<|sV (vY Z qX) ?_
 refine aH Z Z en219 Z (yz hK.ms (by have:=hB.ms; omega)) ?_
 rintro u h' ⟨hu,rfl⟩
 simp only [lC,lN]
 have hsd:nX (S.ms.flatMap λm=>m.seeds)=S.seeds:=rfl
 rw [hsd]
 refine jJ (v:=u) (E:=69) (sz:=2) (rows:=S.seeds.map sdC) slq λwa wc hwf hwl hwm=>?_
 rw [List.length_map] at hwf hwl
 subst hwf
 refine sV (aC Z underlying67)<|sM Z<|sK [1,2,4,26,27,28] Z<|cB<|aY (σ := Res×Res×Nat) (λq=>[(1,.func (.yield yl) #[] #[]),(2,.pointer (some ⟨b2,0,none⟩)),(26,.slice wa S.seeds.length wc),(27,.int .i64 S.seeds.length),(28,.int .i64 (q.2.2:Nat))]) (λq=>VR (.slice wa S.seeds.length wc) 69 2 (S.seeds.map sdC)::pt b2 (cl [v,.map (some mb),sv S.c.name,.bool S.c.dfd,ca,.slice cb S.c.pars.length ck,ce,.slice cf S.c.feats.length cfk,ci,.slice mA S.ms.length mK,.map (some bm),.bool all] 206)::q.1::mps mb m::mps bm bmp::q.2.1::hr) (λq=>Ext X q.1/\q.2.2<=S.seeds.length /\ Φ ((S.seeds.drop q.2.2).flatMap (S.c1)++T2) q.2.1) (λq=>S.seeds.length - q.2.2) (X,r0,0) ⟨Ext.refl X,Nat.zero_le _,h0⟩ ?_
 rintro ⟨Y,r,j⟩ ⟨hE,hj,hΦ⟩
 simp only at hE hj hΦ
 dsimp only
 refine cQ<|sV (aO Z Z)<|sN<|nT<|cS<|cC Z (λhd=>?_)<|λhd=>?_
 .have hltj:j<S.seeds.length:=Zx
  rw [eO hltj,List.append_assoc] at hΦ
  have hnx:(S.seeds.map sdC)[j]? = some (sdC S.seeds[j]):=by rw [List.getElem?_map,Zy hltj]; rfl
  refine fD (r:=VR (.slice wa S.seeds.length wc) 69 2<|S.seeds.map sdC) slq λhok=>?_
  obtain ⟨ab,ao,rfl⟩:∃ ab ao,wa=some ⟨ab,ao,none⟩:=by
   obtain ⟨f0,hf0⟩:=hok
   rcases VR.form hf0 with ⟨h3,h4⟩ | ⟨b,o,cp,h3,-⟩
   .have:=List.map_eq_nil_iff.1 h4
    rw [this] at hltj; simp at hltj
   .rw [List.length_map] at h3; cases h3; exact ⟨b,o,rfl⟩
  generalize S.seeds[j]=d at hΦ hnx
  generalize hA:(S.seeds.drop (j+1)).flatMap (S.c1)++T2=A at hΦ
  unfold sdC at hnx
  have hK2:=hK.up hE
  refine cK<|xT<|cS<|cB<|cQ<|sV (vI (k:=j) Z Z qV Z hltj Z)<|sV (af Z iN Z<|dU hnx) ?_
  refine au al69 λb6=>?_
  refine ai Z Z sz69 Z Z ?_
  refine sK [1,2,6,26,27,28] Z<|F5<|cQ<|sV (vF Z mZ Z)<|sV (vY Z qX) ?_
  refine sV (af Z iN Z ag) ?_
  refine aH Z Z Gc Z (mi (s:=d) hK2.ms) ?_
  rintro u h' ⟨T,rfl,hu,rfl⟩
  simp only [lC,lN]
  unfold NR
  refine sA Z<|sK [1,2,6,7,26,27,28] Z<|cS<|cS ?_
  have hnl:=D7 S.ms d
  have hmf:=hB.mf
  refine fO (v:=u) (E:=9) (sz:=1) (rows:=(aX S.ms d).map nC) slq λla lc hlf hll hlm=>?_
  rw [List.length_map] at hlf hll
  subst hlf
  refine cR<|sV (vF Z EG Z)<|sV (af Z ig Z<|hb0 b2) ?_
  refine sV (vF Z gY Z)<|sV (af Z gU Z<|hb2 b2) ?_
  refine sV (vF Z mZ Z)<|sV (vY Z qX) ?_
  refine sV (af Z iN Z ag) ?_
  refine bW hw0 Z Z en98 Z (yC hB.fits S.l.length Y S.c cn _ _ S.ms d hcn0 hrk hK2.l hK2.c hK2.fl hK2.ms) ?_
  rintro u h' ⟨Y2,k9,rfl,hE2,rfl,rfl⟩
  simp only [lC,lN]
  have hsl:dE S.fl S.l S.l.length S.c S.ms d=S.sel d:=rfl
  rw [hsl]
  unfold Sk.c1 at hΦ
  have hE3:=hE.trans hE2
  refine sM Z<|sV (ah Z Z)<|sV (ah Z Z)<|sA Z<|sA Z<|sK [1,2,6,7,9,26,27,28] Z<|cQ<|sM Z<|sK [1,2,6,7,26,27,28,47] Z ?_
  cases hq:(S.sel d).2
  .rw [hq] at hΦ
   have hΦ : Φ (S.cut (S.pairs (aX S.ms d) (λ_ _=>true)<|λa b=>⟨11,S.c.name,a,b,⟨d.cls,d.name⟩,og0⟩)++A) r:=hΦ
   generalize aX S.ms d=L at hΦ hnl hll
   refine aG Z ?_
   refine cK<|xT<|cS<|FZ<|xT<|cQ<|sM Z<|sV (aC Z underlying40)<|sM Z<|sK [1,2,6,7,26,27,28,48,49,50] Z<|cB<|aY (σ := Res×Nat) (λq=>[(1,.func (.yield yl) #[] #[]),(2,.pointer (some ⟨b2,0,none⟩)),(26,.slice (some ⟨ab,ao,none⟩) S.seeds.length wc),(27,.int .i64 S.seeds.length),(28,.int .i64 (j:Nat)),(6,.pointer (some ⟨b6,0,none⟩)),(7,.slice la L.length lc),(48,.slice la L.length lc),(49,.int .i64 L.length),(50,.int .i64 (q.2:Nat))]) (λq=>VR (.slice la L.length lc) 9 1 (L.map nC)::pt b6 (cl [sv d.cls,sv d.name] 69)::VR (.slice (some ⟨ab,ao,none⟩) S.seeds.length wc) 69 2 (S.seeds.map sdC)::pt b2 (cl [v,.map (some mb),sv S.c.name,.bool S.c.dfd,ca,.slice cb S.c.pars.length ck,ce,.slice cf S.c.feats.length cfk,ci,.slice mA S.ms.length mK,.map (some bm),.bool all] 206)::Y2::mps mb m::mps bm bmp::q.1::hr) (λq=>q.2<=L.length /\ Φ (S.cut ((L.zipIdx.drop q.2).flatMap<|λa=>lG S L (λ_ _=>true) (λa b=>⟨11,S.c.name,a,b,⟨d.cls,d.name⟩,og0⟩) a 0)++A) q.1) (λq=>L.length - q.2) (r,0) ⟨Nat.zero_le _,hΦ⟩ ?_
   clear hΦ
   rintro ⟨r,i⟩ ⟨hi,hΦ⟩
   simp only at hi hΦ
   dsimp only
   refine cQ<|sV (aO Z Z)<|sN<|nT<|cS<|cC Z (λhd2=>?_)<|λhd2=>?_
   .have hlti:i<L.length:=Zw
    rw [kT hlti] at hΦ
    have hnxi:(L.map nC)[i]? = some [sv L[i]]:=by rw [List.getElem?_map,Zy hlti]; rfl
    refine fD (r:=VR (.slice la L.length lc) 9 1<|L.map nC) slq λhok2=>?_
    obtain ⟨nb,no,rfl⟩:∃ nb no,la=some ⟨nb,no,none⟩:=by
     obtain ⟨f0,hf0⟩:=hok2
     rcases VR.form hf0 with ⟨h3,h4⟩ | ⟨b,o,cp,h3,-⟩
     .have:=List.map_eq_nil_iff.1 h4
      rw [this] at hlti; simp at hlti
     .rw [List.length_map] at h3; cases h3; exact ⟨b,o,rfl⟩
    generalize L[i]=x at hΦ hnxi
    refine cK<|xT<|cS<|cB<|cQ<|sM Z<|sV (vI (k:=i) Z Z jG Z hlti Z)<|sV (vY Z ld9 (ha:=⟨_,_,slq,dU hnxi 0<|by simp⟩)) ?_
    refine sA Z<|sA Z<|sK [1,2,6,7,10,11,26,27,28,48,49,50] Z<|cQ<|sM Z<|sV (aC Z underlying40)<|sM Z<|sN<|nT<|cB<|aY (σ := Res×Nat) (λq=>[(1,.func (.yield yl) #[] #[]),(2,.pointer (some ⟨b2,0,none⟩)),(26,.slice (some ⟨ab,ao,none⟩) S.seeds.length wc),(27,.int .i64 S.seeds.length),(28,.int .i64 (j:Nat)),(6,.pointer (some ⟨b6,0,none⟩)),(7,.slice (some ⟨nb,no,none⟩) L.length lc),(48,.slice (some ⟨nb,no,none⟩) L.length lc),(49,.int .i64 L.length),(50,.int .i64 (i:Nat)),(10,.int .i64 (i:Nat)),(11,sv x),(55,.slice (some ⟨nb,no,none⟩) L.length lc),(56,.int .i64 L.length),(57,.int .i64 (q.2:Nat))]) (λq=>VR (.slice (some ⟨nb,no,none⟩) L.length lc) 9 1 (L.map nC)::pt b6 (cl [sv d.cls,sv d.name] 69)::VR (.slice (some ⟨ab,ao,none⟩) S.seeds.length wc) 69 2 (S.seeds.map sdC)::pt b2 (cl [v,.map (some mb),sv S.c.name,.bool S.c.dfd,ca,.slice cb S.c.pars.length ck,ce,.slice cf S.c.feats.length cfk,ci,.slice mA S.ms.length mK,.map (some bm),.bool all] 206)::Y2::mps mb m::mps bm bmp::q.1::hr) (λq=>q.2<=L.length /\ Φ (S.cut (lG S L (λ_ _=>true) (λa b=>⟨11,S.c.name,a,b,⟨d.cls,d.name⟩,og0⟩) (x,i) q.2++(L.zipIdx.drop (i+1)).flatMap (λa=>lG S L (λ_ _=>true) (λa b=>⟨11,S.c.name,a,b,⟨d.cls,d.name⟩,og0⟩) a 0))++A) q.1) (λq=>L.length - q.2) (r,0) ⟨Nat.zero_le _,hΦ⟩ ?_
    clear hΦ
    rintro ⟨r,k⟩ ⟨hk,hΦ⟩
    simp only at hk hΦ
    dsimp only
    refine cQ<|sV (aO Z Z)<|sN<|nT<|cS<|cC Z (λhd3=>?_)<|λhd3=>?_
    .have hltk:k<L.length:=Zr
     rw [FD hltk] at hΦ
     have hnxk:(L.map nC)[k]? = some [sv L[k]]:=by rw [List.getElem?_map,Zy hltk]; rfl
     generalize L[k]=y at hΦ hnxk
     refine cK<|xT<|cS<|cB<|cQ<|sM Z<|sV (vI (k:=k) Z Z jG Z hltk Z)<|sV (vY Z ld9 (ha:=⟨_,_,slq,dU hnxk 0<|by simp⟩)) ?_
     refine sA Z<|sA Z<|sK [1,2,6,7,10,11,12,13,26,27,28,48,49,50,55,56,57] Z<|cS<|cQ<|sM Z<|sM Z<|sV (dX Z Z)<|sM Z ?_
     by_cases hik:i=k
     .have hq:(((i:Nat):Int) == ((k:Nat):Int))=true:=by rw [hik]; simp
      rw [hq]
      iterate 4 refine aF rfl rfl rfl ?_
      refine cZ Z Z ?_
      refine cZ Z Z ?_
      refine cZ Z Z ?_
      refine aF Z Z Z ?_
      refine sV (vQ Z Z)<|sK [1,2,6,7,10,11,13,26,27,28,48,49,50,55,56,57,74] Z<|aQ Z ?_
      refine aB<|xE<|xY<|xT<|cR<|sV (aI Z Z Z0)<|sM Z<|sN<|nK [1,2,6,7,10,11,26,27,28,48,49,50,55,56,57] Z<|ax ?_
      refine aL (r,k+1) ⟨hltk,by rw [if_pos (.inl hik)] at hΦ; exact hΦ⟩ (by dsimp only; omega)
     .have hq:(((i:Nat):Int) == ((k:Nat):Int))=false:=by simp; omega
      rw [hq]
      refine sG Z Z (vF Z qg Z)<|sG Z Z (vY Z ld4) ?_
      refine sG Z Z (bg Z)<|sG Z Z (vM Z) ?_
      cases all
      .refine sG Z Z (vM Z)<|sG Z Z (vM Z)<|sG Z Z (aO Z Z)<|sG Z Z (vQ Z Z)<|sV (vP Z Z)<|sK [1,2,6,7,10,11,13,26,27,28,48,49,50,55,56,57,74] Z ?_
       by_cases hki:k<i
       .have hq2:decide (((k:Nat):Int)<((i:Nat):Int))=true:=by simp; omega
        rw [hq2]
        refine aQ Z ?_
        refine aB<|xE<|xY<|xT<|cR<|sV (aI Z Z Z0)<|sM Z<|sN<|nK [1,2,6,7,10,11,26,27,28,48,49,50,55,56,57] Z<|ax ?_
        refine aL (r,k+1) ⟨hltk,by rw [if_pos (.inr<|.inl ⟨hall,hki⟩)] at hΦ; exact hΦ⟩ (by dsimp only; omega)
       .have hq2:decide (((k:Nat):Int)<((i:Nat):Int))=false:=by simp; omega
        rw [hq2]
        have hΦ2 : Φ (⟨11,S.c.name,x,y,⟨d.cls,d.name⟩,og0⟩::((if S.all then lG S L (λ_ _=>true) (λa b=>⟨11,S.c.name,a,b,⟨d.cls,d.name⟩,og0⟩) (x,i) (k+1)++(L.zipIdx.drop (i+1)).flatMap (λa=>lG S L (λ_ _=>true) (λa b=>⟨11,S.c.name,a,b,⟨d.cls,d.name⟩,og0⟩) a 0) else [])++A)) r:=by
         rw [if_neg (λh=>h.elim hik λh=>h.elim (λh=>hki h.2)<|λh=>by cases h)] at hΦ
         rw [lC,lN,List.cons_append,wB] at hΦ
         exact hΦ
        refine aG Z ?_
        refine cK<|xT<|cQ<|sV (af Z fU Z ag) ?_
        refine sM Z<|sV (vF Z wQ Z)<|sV (vY Z ld9) ?_
        refine sV (vF Z wR Z)<|sV (vY Z ld9) ?_
        refine sV (aP (cells:=[sv d.cls,sv d.name]) Z<|λ_=>Zz) ?_
        refine sV (aP (cells:=[sv [],sv []]) Z<|λ_=>Zz) ?_
        refine bf Z Z kG Z (hcn 11 x ⟨d.cls,d.name⟩ og0) ?_
        unfold cfV cfC
        refine au EH λb14=>?_
        refine ai Z Z wP Z Z ?_
        refine sK [1,2,6,7,10,11,13,14,26,27,28,48,49,50,55,56,57] Z<|cQ<|sM Z<|sV (vF Z EA Z)<|bi Z Z sz9 ?_
        refine sK [1,2,6,7,10,11,14,26,27,28,48,49,50,55,56,57] Z<|cS<|cQ<|sM Z<|sV (af Z uh Z ag) ?_
        refine kQ (gd:=0) (.inl Z) Z Z (hy _ _ _ hΦ2) ?_
        rintro u h' (⟨rfl,r',hΦ4,rfl⟩ | ⟨rfl,r',hst,rfl⟩)
        .simp only [lC,lN]
         refine sV (bg Z)<|sK [1,2,6,7,10,11,26,27,28,48,49,50,55,56,57,89] Z<|aG Z ?_
         refine cK<|xT<|cQ<|sV (vF Z qg Z)<|sV (vY Z ld4) ?_
         refine sV (bg Z)<|sK [1,2,6,7,10,11,26,27,28,48,49,50,55,56,57,92] Z<|aQ Z ?_
         refine aB<|gm (by decide) ?_
         refine xE<|xE<|gm (by decide) ?_
         refine gm (by decide) ?_
         refine xE<|xE<|xY<|qF<|xB<|xT<|cR<|sV (aI Z Z Z0)<|sM Z<|sN<|nK [1,2,26,27,28] Z<|ax ?_
         rw [hall] at hΦ4
         refine aL (Y2,r',j+1) ⟨hE3,hltj,by rw [hA]; exact hΦ4⟩ (by dsimp only; omega)
        .simp only [lC,lN]
         refine sV (bg Z)<|sK [1,2,6,7,10,11,26,27,28,48,49,50,55,56,57,89] Z<|aQ Z ?_
         refine cQ<|sA Z<|sK [4] Z<|cT<|xR<|xW<|xR<|xR<|xW<|xW<|xR<|xR<|xW ?_
         refine fJ<|xW<|xR<|xR<|xW<|xR ?_
         exact aj Z ⟨Y2,[mps mb m,mps bm bmp,r'],Z,hE3,r',Z,.inr ⟨Z,_,hst⟩⟩ sbq
      .iterate 3 refine aF rfl rfl rfl ?_
       refine sG Z Z (vP Z Z)<|sV (vP Z Z)<|sK [1,2,6,7,10,11,13,26,27,28,48,49,50,55,56,57,74] Z ?_
       have hΦ2 : Φ (⟨11,S.c.name,x,y,⟨d.cls,d.name⟩,og0⟩::((if S.all then lG S L (λ_ _=>true) (λa b=>⟨11,S.c.name,a,b,⟨d.cls,d.name⟩,og0⟩) (x,i) (k+1)++(L.zipIdx.drop (i+1)).flatMap (λa=>lG S L (λ_ _=>true) (λa b=>⟨11,S.c.name,a,b,⟨d.cls,d.name⟩,og0⟩) a 0) else [])++A)) r:=by
        rw [if_neg (λh=>h.elim hik λh=>h.elim (λh=>by rw [hall] at h; cases h.1)<|λh=>by cases h)] at hΦ
        rw [lC,lN,List.cons_append,wB] at hΦ
        exact hΦ
       refine aG Z ?_
       refine cK<|xT<|cQ<|sV (af Z fU Z ag) ?_
       refine sM Z<|sV (vF Z wQ Z)<|sV (vY Z ld9) ?_
       refine sV (vF Z wR Z)<|sV (vY Z ld9) ?_
       refine sV (aP (cells:=[sv d.cls,sv d.name]) Z<|λ_=>Zz) ?_
       refine sV (aP (cells:=[sv [],sv []]) Z<|λ_=>Zz) ?_
       refine bf Z Z kG Z (hcn 11 x ⟨d.cls,d.name⟩ og0) ?_
       unfold cfV cfC
       refine au EH λb14=>?_
       refine ai Z Z wP Z Z ?_
       refine sK [1,2,6,7,10,11,13,14,26,27,28,48,49,50,55,56,57] Z<|cQ<|sM Z<|sV (vF Z EA Z)<|bi Z Z sz9 ?_
       refine sK [1,2,6,7,10,11,14,26,27,28,48,49,50,55,56,57] Z<|cS<|cQ<|sM Z<|sV (af Z uh Z ag) ?_
       refine kQ (gd:=0) (.inl Z) Z Z (hy _ _ _ hΦ2) ?_
       rintro u h' (⟨rfl,r',hΦ4,rfl⟩ | ⟨rfl,r',hst,rfl⟩)
       .simp only [lC,lN]
        refine sV (bg Z)<|sK [1,2,6,7,10,11,26,27,28,48,49,50,55,56,57,89] Z<|aG Z ?_
        refine cK<|xT<|cQ<|sV (vF Z qg Z)<|sV (vY Z ld4) ?_
        refine sV (bg Z)<|sK [1,2,6,7,10,11,26,27,28,48,49,50,55,56,57,92] Z<|aG Z ?_
        refine cK<|xB<|xT<|cR<|sV (aI Z Z Z0)<|sM Z<|sN<|nK [1,2,6,7,10,11,26,27,28,48,49,50,55,56,57] Z<|ax ?_
        rw [hall] at hΦ4
        refine aL (r',k+1) ⟨hltk,by unfold Sk.cut; rw [hall]; exact hΦ4⟩ (by dsimp only; omega)
       .simp only [lC,lN]
        refine sV (bg Z)<|sK [1,2,6,7,10,11,26,27,28,48,49,50,55,56,57,89] Z<|aQ Z ?_
        refine cQ<|sA Z<|sK [4] Z<|cT<|xR<|xW<|xR<|xR<|xW<|xW<|xR<|xR<|xW ?_
        refine fJ<|xW<|xR<|xR<|xW<|xR ?_
        exact aj Z ⟨Y2,[mps mb m,mps bm bmp,r'],Z,hE3,r',Z,.inr ⟨Z,_,hst⟩⟩ sbq
    .have hend:k=L.length:=Nat.le_antisymm hk<|Nat.not_lt.1 Zr
     subst hend
     rw [Bq,List.nil_append] at hΦ
     refine aB<|xE<|xE<|xY<|xB<|xT<|cR<|sV (aI Z Z Z0)<|sM Z<|sN<|nK [1,2,6,7,26,27,28,48,49,50] Z<|ax ?_
     refine aL (r,i+1) ⟨hlti,hΦ⟩ (by dsimp only; omega)
   .have hend:i=L.length:=Nat.le_antisymm hi<|Nat.not_lt.1 Zw
    subst hend
    rw [nH] at hΦ
    have hΦ : Φ A r:=by
     have:S.cut []=[]:=by unfold Sk.cut; split <;> rfl
     rw [this] at hΦ; exact hΦ
    refine aB<|xE<|xE<|xY<|qF<|xB<|xT<|cR<|sV (aI Z Z Z0)<|sM Z<|sN<|nK [1,2,26,27,28] Z<|ax ?_
    refine aL (Y2,r,j+1) ⟨hE3,hltj,by rw [hA]; exact hΦ⟩ (by dsimp only; omega)
  .rw [hq] at hΦ
   have hΦ : Φ A r:=hΦ
   refine aQ Z ?_
   refine aB<|xE<|Ca<|xY<|xT<|cR<|sV (aI Z Z Z0)<|sM Z<|sN<|nK [1,2,26,27,28] Z<|ax ?_
   refine aL (Y2,r,j+1) ⟨hE3,hltj,by rw [hA]; exact hΦ⟩ (by dsimp only; omega)
 .have hend:j=S.seeds.length:=Nat.le_antisymm hj<|Nat.not_lt.1 Zx
  subst hend
  rw [dP,List.nil_append,<- hT2] at hΦ
  refine aB<|xE<|xE<|xY<|xT<|cS<|cQ<|sV (vF Z gY Z)<|sV (vF Z eP Z)<|sV (vY Z lD) ?_
  refine sV (aC Z underlying39)<|sM Z<|sK [1,2,98,99,100] Z<|cB<|aY (σ := Res×Res×Nat) (λq=>[(1,.func (.yield yl) #[] #[]),(2,.pointer (some ⟨b2,0,none⟩)),(98,.slice cb S.c.pars.length ck),(99,.int .i64 S.c.pars.length),(100,.int .i64 (q.2.2:Nat))]) (λq=>pt b2 (cl [v,.map (some mb),sv S.c.name,.bool S.c.dfd,ca,.slice cb S.c.pars.length ck,ce,.slice cf S.c.feats.length cfk,ci,.slice mA S.ms.length mK,.map (some bm),.bool all] 206)::q.1::mps mb m::mps bm bmp::q.2.1::hr) (λq=>Ext X q.1/\q.2.2<=S.c.pars.length /\ Φ ((S.c.pars.zipIdx.drop q.2.2).flatMap S.c2++T3) q.2.1) (λq=>S.c.pars.length - q.2.2) (Y,r,0) ⟨hE,Nat.zero_le _,hΦ⟩ ?_
  clear hΦ hE
  clear Y r
  rintro ⟨Y,r,i⟩ ⟨hE,hi,hΦ⟩
  simp only at hE hi hΦ
  dsimp only
  refine cQ<|sV (aO Z Z)<|sN<|nT<|cS<|cC Z (λhd=>?_)<|λhd=>?_
  .have hlt:i<S.c.pars.length:=Zx
   rw [kT hlt,List.append_assoc] at hΦ
   have hlis:=hB.lists<|List.getElem_mem hlt
   obtain ⟨pb,po,pcap,pus,e1,hpus,hprd,hp⟩:=(hK.par.up hE).at<|Zy hlt
   obtain ⟨rfl,rfl⟩:cb=some ⟨pb,po,none⟩/\ck=pcap:=by cases e1; exact ⟨rfl,rfl⟩
   generalize S.c.pars[i]=p at hΦ hlis hp
   generalize hA:(S.c.pars.zipIdx.drop (i+1)).flatMap S.c2++T3=A at hΦ
   obtain ⟨hlR,hlU,hlD,hlS⟩:=hlis
   obtain ⟨pa,pr,pu,pd,pS,rfl,hpa,hpR,hpu,hpd,hpsel⟩:=hp
   obtain ⟨aA,kA,rfl,_⟩:=id hpa.form
   obtain ⟨aR,kR,rfl,_⟩:=id hpR.form
   obtain ⟨aU,kU,rfl,_⟩:=id hpu.form
   obtain ⟨aD,kD,rfl,_⟩:=id hpd.form
   obtain ⟨aS,kS,rfl,_⟩:=id hpsel.form
   refine cK<|xT<|cS<|cB<|cQ<|sM Z<|sV (vI (k:=i) Z Z lY Z hlt Z)<|sV (af Z oP Z hprd) ?_
   refine au vO λb16=>?_
   refine sA Z<|ai Z Z qU Z Z ?_
   have hΦ : Φ (p.sel.flatMap (S.c2a (p,i))++A) r:=hΦ
   refine sK [1,2,15,16,98,99,100] Z<|cQ<|sV (vF Z Ae Z)<|sV (vY Z gq) ?_
   refine sV (aC Z underlying40)<|sM Z<|sK [1,2,15,16,98,99,100,106,107,108] Z<|cB<|aY (σ := Res×Res×Nat) (λq=>[(1,.func (.yield yl) #[] #[]),(2,.pointer (some ⟨b2,0,none⟩)),(98,.slice (some ⟨pb,po,none⟩) S.c.pars.length ck),(99,.int .i64 S.c.pars.length),(100,.int .i64 (i:Nat)),(15,.int .i64 (i:Nat)),(16,.pointer (some ⟨b16,0,none⟩)),(106,.slice aS p.sel.length kS),(107,.int .i64 p.sel.length),(108,.int .i64 (q.2.2:Nat))]) (λq=>pt b16 (cl [sv p.name,.slice aA p.args.length kA,.slice aR p.ren.length kR,.slice aU p.und.length kU,.slice aD p.red.length kD,.slice aS p.sel.length kS] 88)::pt b2 (cl [v,.map (some mb),sv S.c.name,.bool S.c.dfd,ca,.slice (some ⟨pb,po,none⟩) S.c.pars.length ck,ce,.slice cf S.c.feats.length cfk,ci,.slice mA S.ms.length mK,.map (some bm),.bool all] 206)::q.1::mps mb m::mps bm bmp::q.2.1::hr) (λq=>Ext Y q.1/\q.2.2<=p.sel.length /\ Φ ((p.sel.drop q.2.2).flatMap (S.c2a (p,i))++A) q.2.1) (λq=>p.sel.length - q.2.2) (Y,r,0) ⟨Ext.refl Y,Nat.zero_le _,hΦ⟩ ?_
   clear hΦ
   rintro ⟨Zq,r,j⟩ ⟨hE2,hj,hΦ⟩
   simp only at hE2 hj hΦ
   dsimp only
   refine cQ<|sV (aO Z Z)<|sN<|nT<|cS<|cC Z (λhd2=>?_)<|λhd2=>?_
   .have hltj:j<p.sel.length:=Zw
    rw [eO hltj,List.append_assoc] at hΦ
    have hEZ:=hE.trans hE2
    have hK9:=hK.up hEZ
    obtain ⟨nb,no,ncap,nus,e2,hnus,hnrd,hn⟩:=(hpsel.up hE2).at<|Zy hltj
    obtain ⟨rfl,rfl⟩:aS=some ⟨nb,no,none⟩/\kS=ncap:=by cases e2; exact ⟨rfl,rfl⟩
    generalize p.sel[j]=x at hΦ hn
    subst hn
    refine cK<|xT<|cS<|cB<|cQ<|sV (vI (k:=j) Z Z jG Z hltj Z)<|sV (vY Z ld9 (ha:=⟨_,_,slq,hnrd 0<|by simp⟩)) ?_
    refine sA Z<|sK [1,2,15,16,18,98,99,100,106,107,108] Z<|cQ<|sV (vF Z mZ Z)<|sV (vY Z qX) ?_
    refine sM Z<|aH Z Z en169 Z (uE (n:=x) hK9.ms) ?_
    rintro u h' ⟨rfl,gus,rfl,hgr⟩
    simp only [lC,lN]
    have hmf:(S.ms.find? λc=>c.name == x)=dF S.ms x:=rfl
    rw [hmf]
    rw [hmf] at hgr
    unfold Sk.c2a at hΦ
    dsimp only at hΦ
    generalize (dF S.ms x).getD mb0=m0 at hgr hΦ
    have hgo:=Enc.ones hgr
    obtain ⟨g2,g5,gy,g11,g12,g13,rfl,hg2,-⟩:=dN hgr
    obtain ⟨ga2,gk2,rfl,_⟩:=id hg2.form
    unfold iC at *
    refine sM Z<|sV (ah Z Z)<|sV (ah Z Z) (au jR λb19=>?_)
    refine ai Z Z iH Z hgo ?_
    refine sA Z<|sK [1,2,15,16,18,19,98,99,100,106,107,108] Z<|cQ<|sV (vF Z eT Z)<|sV (vY Z pW) ?_
    refine sV (bX Z Z) ?_
    have hany:=dS<|Ou (X:=Res.star [pt b2 (cl [v,.map (some mb),sv S.c.name,.bool S.c.dfd,ca,.slice (some ⟨pb,po,none⟩) S.c.pars.length ck,ce,.slice cf S.c.feats.length cfk,ci,.slice mA S.ms.length mK,.map (some bm),.bool all] 206),Zq]) (xs:=m0.seeds) (g:=λd=>decide (1<(aX S.ms d).length)) (cp := #[.pointer (some ⟨b2,0,none⟩)]) (hg2.up'<|bL<|.there .here) en220<|λa _ us h=>JP h (bL .here _ _<|bZ rfl)<|hK9.ms.up'<|bL<|.there .here
    refine bf Z Z en31 Z (hany) ?_
    refine sA Z<|sK [1,2,15,16,18,21,98,99,100,106,107,108] Z<|cQ<|sV (af Z fU Z ag) ?_
    refine sM Z<|sM Z<|aH Z Z KN Z (qC (v:=v) (fv:=.map<|some mb) (c:=S.c) (ca:=ca) (cb:=.slice (some ⟨pb,po,none⟩) S.c.pars.length ck) (ce:=ce) (cf:=.slice cf S.c.feats.length cfk) (ci:=ci) (mv:=.slice mA S.ms.length mK) (all:=all) (bm:=bm) (i:=i) (n:=x) (hK9.by' x) (by have:=hB.under x; omega)) ?_
    rintro u h' ⟨Y3,k9,rfl,hE4,rows,hu,hro,rfl⟩
    simp only [lC,lN]
    have hro:Rws Y3 rows (S.fro i x):=hro
    have hrl:=hro.1
    have hfl:=hB.fro i x
    refine jJ (v:=u) (E:=191) (sz:=18) (rows:=rows) slq λla lc hlf hll hlm=>?_
    rw [hrl] at hlf hll
    subst hlf
    have hE6:=hE2.trans hE4
    have hEZ4:=hE.trans hE6
    generalize (m0.seeds.any λd=>decide (1<(aX S.ms d).length))=many at hΦ ⊢
    generalize S.fro i x=l at hΦ hro hrl hfl ⊢
    refine sV (aC Z underlying187)<|sV (dh Z Z)<|sM Z ?_
    by_cases hq:l=[]
    .rw [if_neg (λh=>h.1 hq)] at hΦ
     have hg:decide ((0:Int)<(l.length:Nat))=false:=by rw [hq]; rfl
     rw [hg]
     iterate 2 refine aF rfl rfl rfl ?_
     refine sV (vP Z Z)<|sM Z<|aF Z Z Z ?_
     iterate 10 refine aF rfl rfl rfl ?_
     refine sV (vP Z Z)<|sK [1,2,15,16,98,99,100,106,107,108,145] Z<|aG Z ?_
     refine cK<|xB<|xT<|cR<|sV (aI Z Z Z0)<|sM Z<|sN<|nK [1,2,15,16,98,99,100,106,107,108] Z<|ax ?_
     refine aL (Y3,r,j+1) ⟨hE6,hltj,hΦ⟩ (by dsimp only; omega)
    .have hg:decide ((0:Int)<(l.length:Nat))=true:=by
      have:=List.length_pos_iff.2 hq
      simp; omega
     rw [hg]
     refine sG Z Z (vM Z)<|sG Z Z (bg Z)<|sV (vQ Z Z)<|sM Z ?_
     cases many
     .rw [if_pos ⟨hq,rfl⟩] at hΦ
      have hΦ2 : Φ (S.cf 12 x ⟨p.name,x⟩ og0::((p.sel.drop (j+1)).flatMap (S.c2a (p,i))++A)) r:=hΦ
      refine sG Z Z (vM Z)<|sG Z Z (af Z fU Z ag) ?_
      refine sG Z Z (vM Z)<|sG Z Z (vF Z gV Z)<|sG Z Z (vY Z ld9) ?_
      refine sG Z Z (vM Z)<|sG Z Z (aP (cells:=[sv p.name,sv x]) Z<|λ_=>Zz) ?_
      refine sG Z Z (aP (cells:=[sv [],sv []]) Z<|λ_=>Zz) ?_
      refine bS Z Z Z Z kG Z (hcn 12 x ⟨p.name,x⟩ og0) ?_
      refine kQ (gd:=133) (.inr ⟨_,_,Z,Z,Z⟩) Z Z (hy _ _ _ hΦ2) ?_
      rintro u h' (⟨rfl,r',hΦ4,rfl⟩ | ⟨rfl,r',hst,rfl⟩)
      .simp only [lC,lN]
       refine sG Z Z (bg Z)<|sV (vQ Z Z)<|sK [1,2,15,16,98,99,100,106,107,108,145] Z<|aG Z ?_
       refine cK<|xB<|xT<|cR<|sV (aI Z Z Z0)<|sM Z<|sN<|nK [1,2,15,16,98,99,100,106,107,108] Z<|ax ?_
       refine aL (Y3,r',j+1) ⟨hE6,hltj,hΦ4⟩ (by dsimp only; omega)
      .simp only [lC,lN]
       refine sG Z Z (bg Z)<|sV (vQ Z Z)<|sK [1,2,15,16,98,99,100,106,107,108,145] Z<|aQ Z ?_
       refine cQ<|sA Z<|sK [4] Z<|cT<|xW<|xR<|xR<|xW<|xW<|xR<|xR<|xW<|xR ?_
       exact aj Z ⟨Y3,[mps mb m,mps bm bmp,r'],Z,hEZ4,r',Z,.inr ⟨Z,_,hst⟩⟩ sbq
     .rw [if_neg (λh=>by cases h.2)] at hΦ
      iterate 11 refine aF rfl rfl rfl ?_
      refine sV (vP Z Z)<|sK [1,2,15,16,98,99,100,106,107,108,145] Z<|aG Z ?_
      refine cK<|xB<|xT<|cR<|sV (aI Z Z Z0)<|sM Z<|sN<|nK [1,2,15,16,98,99,100,106,107,108] Z<|ax ?_
      refine aL (Y3,r,j+1) ⟨hE6,hltj,hΦ⟩ (by dsimp only; omega)
   .have hend:j=p.sel.length:=Nat.le_antisymm hj<|Nat.not_lt.1 Zw
    subst hend
    rw [dP,List.nil_append] at hΦ
    refine aB<|xE<|xE<|xY<|xB<|xT<|cR<|sV (aI Z Z Z0)<|sM Z<|sN<|nK [1,2,98,99,100] Z<|ax ?_
    refine aL (Zq,r,i+1) ⟨hE.trans hE2,hlt,by rw [hA]; exact hΦ⟩ (by dsimp only; omega)
  .have hend:i=S.c.pars.length:=Nat.le_antisymm hi<|Nat.not_lt.1 Zx
   subst hend
   rw [nH,List.nil_append,<- hT3] at hΦ
   have hms:=hK.ms.up hE
   refine aB<|xE<|xE<|xY<|xT<|cS<|cQ<|sV (vF Z mZ Z)<|sV (vY Z qX) ?_
   refine sV (aC Z underlying52)<|sM Z<|sK [1,2,149,150,151] Z<|cB<|aY (σ := Res×Nat) (λq=>[(1,.func (.yield yl) #[] #[]),(2,.pointer (some ⟨b2,0,none⟩)),(149,.slice mA S.ms.length mK),(150,.int .i64 S.ms.length),(151,.int .i64 (q.2:Nat))]) (λq=>pt b2 (cl [v,.map (some mb),sv S.c.name,.bool S.c.dfd,ca,.slice cb S.c.pars.length ck,ce,.slice cf S.c.feats.length cfk,ci,.slice mA S.ms.length mK,.map (some bm),.bool all] 206)::Y::mps mb m::mps bm bmp::q.1::hr) (λq=>q.2<=S.ms.length /\ Φ ((S.ms.drop q.2).flatMap S.c3++(S.apart++R)) q.1) (λq=>S.ms.length - q.2) (r,0) ⟨Nat.zero_le _,hΦ⟩ ?_
   clear hΦ
   rintro ⟨r,i⟩ ⟨hi,hΦ⟩
   simp only at hi hΦ
   dsimp only
   refine cQ<|sV (aO Z Z)<|sN<|nT<|cS<|cC Z (λhd=>?_)<|λhd=>?_
   .have hlt:i<S.ms.length:=Zx
    rw [eO hlt,List.append_assoc] at hΦ
    obtain ⟨nb,no,ncap,nus,e2,hnus,hnrd,hn⟩:=hms.at<|Zy hlt
    obtain ⟨rfl,rfl⟩:mA=some ⟨nb,no,none⟩/\mK=ncap:=by cases e2; exact ⟨rfl,rfl⟩
    generalize S.ms[i]=x at hΦ hn
    generalize hA:(S.ms.drop (i+1)).flatMap S.c3++(S.apart++R)=A at hΦ
    have hxo:=Enc.ones hn
    obtain ⟨x2,x5,xy,x11,x12,x13,rfl,-⟩:=dN hn
    unfold iC at *
    unfold Sk.c3 at hΦ
    refine cK<|xT<|cS<|cB<|cQ<|sV (vI (k:=i) Z Z oM Z hlt Z)<|sV (af Z fE Z hnrd) ?_
    refine au jR λb23=>?_
    refine ai Z Z iH Z hxo ?_
    refine sK [1,2,23,149,150,151] Z<|cQ<|sV (vF Z gY Z)<|sV (vF Z NJ Z)<|sV (vY Z ld4) ?_
    refine sV (bg Z)<|sM Z ?_
    by_cases hdf:S.c.dfd=false
    .have hg:(!S.c.dfd)=true:=by rw [hdf]; rfl
     rw [hg]
     refine sG Z Z (vF Z rO Z)<|sG Z Z (vY Z ld3) ?_
     refine sG Z Z (dX Z Z)<|sV (vQ Z Z)<|sM Z ?_
     by_cases hk3:x.kind=3
     .rw [if_pos ⟨hdf,hk3⟩] at hΦ
      have hΦ2 : Φ (S.cf 13 x.name og0 og0::A) r:=hΦ
      have hg2:(x.kind == 3)=true:=by rw [hk3]; rfl
      rw [hg2]
      refine sG Z Z (vM Z)<|sG Z Z (af Z fU Z ag) ?_
      refine sG Z Z (vF Z eQ Z)<|sG Z Z (vY Z ld9) ?_
      refine sG Z Z (aP (cells:=[sv [],sv []]) Z<|λ_=>Zz) ?_
      refine sG Z Z (aP (cells:=[sv [],sv []]) Z<|λ_=>Zz) ?_
      refine bS Z Z Z Z kG Z (hcn 13 x.name og0 og0) ?_
      refine kQ (gd:=164) (.inr ⟨_,_,Z,Z,Z⟩) Z Z (hy _ _ _ hΦ2) ?_
      rintro u h' (⟨rfl,r',hΦ4,rfl⟩ | ⟨rfl,r',hst,rfl⟩)
      .simp only [lC,lN]
       refine sG Z Z (bg Z)<|sV (vQ Z Z)<|sK [1,2,149,150,151,174] Z<|aG Z ?_
       refine cK<|xB<|xT<|cR<|sV (aI Z Z Z0)<|sM Z<|sN<|nK [1,2,149,150,151] Z<|ax ?_
       refine aL (r',i+1) ⟨hlt,by rw [hA]; exact hΦ4⟩ (by dsimp only; omega)
      .simp only [lC,lN]
       refine sG Z Z (bg Z)<|sV (vQ Z Z)<|sK [1,2,149,150,151,174] Z<|aQ Z ?_
       refine cQ<|sA Z<|sK [4] Z<|cT<|xW<|xR<|xR<|xW<|xR ?_
       exact aj Z ⟨Y,[mps mb m,mps bm bmp,r'],Z,hE,r',Z,.inr ⟨Z,_,hst⟩⟩ sbq
     .rw [if_neg (λh=>hk3 h.2)] at hΦ
      have hg2:(x.kind == 3)=false:=by simpa using hk3
      rw [hg2]
      iterate 9 refine aF rfl rfl rfl ?_
      refine sV (vP Z Z)<|sK [1,2,149,150,151,174] Z<|aG Z ?_
      refine cK<|xB<|xT<|cR<|sV (aI Z Z Z0)<|sM Z<|sN<|nK [1,2,149,150,151] Z<|ax ?_
      refine aL (r,i+1) ⟨hlt,by rw [hA]; exact hΦ⟩ (by dsimp only; omega)
    .rw [if_neg (λh=>hdf h.1)] at hΦ
     have hg:(!S.c.dfd)=false:=by simpa using hdf
     rw [hg]
     iterate 3 refine aF rfl rfl rfl ?_
     refine sV (vP Z Z)<|sM Z<|aF Z Z Z ?_
     iterate 8 refine aF rfl rfl rfl ?_
     refine sV (vP Z Z)<|sK [1,2,149,150,151,174] Z<|aG Z ?_
     refine cK<|xB<|xT<|cR<|sV (aI Z Z Z0)<|sM Z<|sN<|nK [1,2,149,150,151] Z<|ax ?_
     refine aL (r,i+1) ⟨hlt,by rw [hA]; exact hΦ⟩ (by dsimp only; omega)
   .have hend:i=S.ms.length:=Nat.le_antisymm hi<|Nat.not_lt.1 Zx
    subst hend
    rw [dP,List.nil_append] at hΦ
    have hap:=Pb (v:=v) (mb:=mb) (bm:=bm) hy hall (hK.up hE) hB R r hΦ
    unfold CtX fC at hap
    refine aB<|xE<|xE<|xY<|xT<|cQ<|sV (af Z fU Z ag) ?_
    refine sM Z<|aH Z Z en221 Z (hap) ?_
    rintro u h' ⟨Y2,k9,rfl,hE2,r',rfl,hend⟩
    simp only [lC,lN]
    refine sA Z<|sK [4] Z<|cT ?_
    exact aj Z ⟨Y2,[mps mb m,mps bm bmp,r'],Z,hE.trans hE2,r',Z,hend⟩ sbq
end
end Go.Fl
namespace Go.Fl
open Go Go.RowKit Go.Ck Go.Proofs Go.Proofs.Tryz Go.Proofs.YtknmacdbffgjgaaGreatDoor Fx Go.Hr
theorem Fits.sums {l:FS} {fl:Nm->Fl} (h:Fits l fl) {c:FC} (hc:c∈l):(oq (comes fl l c)).length<=345600/\((comes fl l c).flatMap λx=>x.mem.pre).length<=345600/\((comes fl l c).flatMap λx=>x.mem.post).length<=345600:=JF h.right h.flb hc
attribute [local irreducible] Go.Ck.Sub St Cd Xt Nx DrL LsW
section
variable {X Y:Res} {v v':Value} {us us':List Value}
theorem xH {mb:Nat} {m:List (Nm×Value)} {fl:Nm->Fl} {l:FS} {c:FC} {uc:List Value} {mv:Value} {ms:List Mb} {all:Bool} (hl:Ls X v l) (hc:Enc.rep X uc c) (hm:FlR X m fl) (hms:Ls X mv ms) (hF:Fits l fl) (hcl:c∈l) :
  CtX prog 58 #[.agg #[v,.map (some mb)],.agg uc.toArray,mv,.bool all] X [mps mb m] λu Y k'=>∃ b9 bm bmp ca cb ce cf ci,u = .func (.func 127) #[] #[.pointer (some ⟨b9,0,none⟩)]/\k'=[pt b9 (cl (fC v (.map<|some mb) c ca cb ce cf ci mv (.map<|some bm) all) 206),mps mb m,mps bm bmp]/\SkR Y ⟨fl,l,c,ms,all⟩ v m ca cb ce cf ci mv bmp/\bmp.map (λp=>p.1)=keys (comes fl l c):=by
 have hfew:=hF.few<|.inl hcl
 have hby:=xC (mb:=mb) hl hc hm (hF.hf<|.inl hcl)<|by omega
 have hvo:=hl.one
 obtain ⟨ca,cb,ce,cf,ci,rfl,hca,hcb,hce,hcf,hci⟩:=gB hc
 have hone:([sv c.name,.bool c.dfd,ca,cb,ce,cf,ci]:List Value).all Value.oneCell'=true:=Enc.ones hc
 have hmo:=hms.one
 obtain ⟨cA,cKq,rfl,_⟩:=id hcb.form
 obtain ⟨fA,fK,rfl,_⟩:=id hcf.form
 obtain ⟨aA,aK,rfl,_⟩:=id hca.form
 obtain ⟨iA,iK,rfl,_⟩:=id hci.form
 obtain ⟨vAq,vK,rfl,_⟩:=id hl.form
 obtain ⟨mA,mK,rfl,_⟩:=id hms.form
 unfold CtX at hby ⊢
 unfold fC
 refine aJ (n:=19) func58 Z Z (len Z) λhr w0=>?_
 refine cQ (aV Z Z λb4=>?_)
 refine aV Z Z λb5=>?_
 refine sA Z<|sK [2,3,4,5,8] Z<|cS<|jC (ork [(0,1),(1,1),(2,2),(3,1),(4,1),(6,2)]<|.two 5 (ork [(7,2),(8,0),(9,0)] .nil) 8<|ork [(5,0),(7,2),(9,0)] .nil) (λi => !(Nat.beq i 9)) [pt b4 (cl [.slice vAq l.length vK,.map (some mb)] 114),pt b5 (cl [sv c.name,.bool c.dfd,.slice aA c.forms.length aK,.slice cA c.pars.length cKq,ce,.slice fA c.feats.length fK,.slice iA c.inv.length iK] 44)] mixed Zz ?_
 refine bu Z (af Z ig Z ag) ?_
 refine bu Z (af Z gU Z ag) ?_
 refine dV Z (vM Z)<|bu Z (af Z ig Z ag) ?_
 refine bu Z (af Z gU Z ag) ?_
 refine dV Z (vM Z)<|nJ Z Z ?_ ?_
 .refine aH Z Z KH Z (hby) ?_
  rintro u h' ⟨Y,k',rfl,hE,bm,E,rfl,rfl,hbk⟩
  simp only [lC,lN]
  refine aW ?_
  refine dV Z (aP (cells:=[.slice vAq l.length vK,.map (some mb),sv c.name,.bool c.dfd,.slice aA c.forms.length aK,.slice cA c.pars.length cKq,ce,.slice fA c.feats.length fK,.slice iA c.inv.length iK,.slice mA ms.length mK,.map (some bm),.bool all]) Z<|λ_=>Zz) ?_
  refine aT Z (au al206 λb9=>aW ?_)
  have hone2:([.slice vAq l.length vK,.map (some mb),sv c.name,.bool c.dfd,.slice aA c.forms.length aK,.slice cA c.pars.length cKq,ce,.slice fA c.feats.length fK,.slice iA c.inv.length iK,.slice mA ms.length mK,.map (some bm),.bool all]:List Value).all Value.oneCell'=true:=by simp only [List.all_cons,List.all_nil,hce,Bool.and_true,Bool.true_and]; rfl
  refine aT Z<|ai Z Z sz206 Z hone2<|aW ?_
  refine bB<|nK [8,9] Z<|nT<|cQ<|sV (bX Z Z)<|sA Z<|sK [8] Z<|cT (eF (r:=BN E) slq λhokE=>?_)
  refine iP [BN E] Y λY2 hE2 hsel=>?_
  have hls:=K9 hbk hE2 hokE (hsel _ _ .here)<|by omega
  have hlk:=zu hbk.1 hls
  have hk0:=hbk.1
  have hE3:=hE.trans hE2
  exact aj Z ⟨Y2,_,Z,hE3,b9,bm,kP E,_,_,_,_,_,Z,Z,⟨hl.up hE3,hca.up hE3,hcb.up hE3,hce,hcf.up hE3,hci.up hE3,hm.up hE3,hms.up hE3,hlk⟩,by rw [kg]; exact hk0⟩ sbq
 .refine au al206 λb9=>aW ?_
  refine aT Z<|aH Z Z KH Z (hby) ?_
  rintro u h' ⟨Y,k',rfl,hE,bm,E,rfl,rfl,hbk⟩
  simp only [lC,lN]
  refine aW ?_
  refine dV Z (aP (cells:=[.slice vAq l.length vK,.map (some mb),sv c.name,.bool c.dfd,.slice aA c.forms.length aK,.slice cA c.pars.length cKq,ce,.slice fA c.feats.length fK,.slice iA c.inv.length iK,.slice mA ms.length mK,.map (some bm),.bool all]) Z<|λ_=>Zz) ?_
  have hone2:([.slice vAq l.length vK,.map (some mb),sv c.name,.bool c.dfd,.slice aA c.forms.length aK,.slice cA c.pars.length cKq,ce,.slice fA c.feats.length fK,.slice iA c.inv.length iK,.slice mA ms.length mK,.map (some bm),.bool all]:List Value).all Value.oneCell'=true:=by simp only [List.all_cons,List.all_nil,hce,Bool.and_true,Bool.true_and]; rfl
  refine aT Z<|ai Z Z sz206 Z hone2<|aW ?_
  refine bB<|nK [8,9] Z<|nT<|cQ<|sV (bX Z Z)<|sA Z<|sK [8] Z<|cT (eF (r:=BN E) slq λhokE=>?_)
  refine iP [BN E] Y λY2 hE2 hsel=>?_
  have hls:=K9 hbk hE2 hokE (hsel _ _ .here)<|by omega
  have hlk:=zu hbk.1 hls
  have hk0:=hbk.1
  have hE3:=hE.trans hE2
  exact aj Z ⟨Y2,_,Z,hE3,b9,bm,kP E,_,_,_,_,_,Z,Z,⟨hl.up hE3,hca.up hE3,hcb.up hE3,hce,hcf.up hE3,hci.up hE3,hm.up hE3,hms.up hE3,hlk⟩,by rw [kg]; exact hk0⟩ sbq

theorem uM {yl mb bm b9 : Nat} {Φ : List Cf -> Res -> Prop} {Stop : Cf -> Res -> Prop} (hy : Yh yl Φ Stop) {S : Sk} {all : Bool} (hall : S.all = all) {m bmp : List (Nm × Value)} {ca cb ce cf ci mv : Value} (hK : SkR X S v m ca cb ce cf ci mv bmp) (hB : SkB S) (hk0 : bmp.map (λp => p.1) = keys S.cs) (cn : Nm) (hcn0 : S.c = ae S.l cn) (r0 : Res) (h0 : Φ S.conflicts r0) :
  eZ prog 127 #[.func (.yield yl) #[] #[],.pointer (some ⟨b9,0,none⟩)] X [pt b9 (cl (fC v (.map<|some mb) S.c ca cb ce cf ci mv (.map<|some bm) all) 206),mps mb m,mps bm bmp,r0] λu Y k'=>u = .tuple #[]/\∃ r,k'=[pt b9 (cl (fC v (.map<|some mb) S.c ca cb ce cf ci mv (.map<|some bm) all) 206),mps mb m,mps bm bmp,r]/\(Φ [] r\/∃ x,Stop x r):=by
 have e1:S.conflicts=S.lost++(S.redeclared++(S.typed++(S.chosen++(S.apart++[])))):=by rw [List.append_nil]; rfl
 rw [e1] at h0
 have h1:=lost_ct (v:=v) (mb:=mb) (bm:=bm) hy hall hK hB _ r0 h0
 have ho:([v,.map (some mb),sv S.c.name,.bool S.c.dfd,ca,cb,ce,cf,ci,mv,.map (some bm),.bool all]:List Value).all Value.oneCell'=true:=by
  simp only [List.all_cons,List.all_nil,hK.l.one,hK.a.one,hK.par.one,hK.e,hK.feat.one,hK.inv.one,hK.ms.one,Bool.and_true,Bool.true_and]; rfl
 unfold CtX at h1
 unfold eZ
 unfold fC at *
 refine gF (n:=21) func127 Z Z (len Z) λhr w0 hw0=>?_
 refine cR<|sV (af Z fU Z ag) ?_
 refine sM Z<|aH Z Z en128 Z (h1) ?_
 rintro u h' ⟨Y,k',rfl,hE,r,rfl,hend⟩
 simp only [lC,lN]
 rcases hend with ⟨rfl,hΦ⟩ | ⟨rfl,hst⟩
 .have h2:=Cn (v:=v) (mb:=mb) (bm:=bm) hy hall (hK.up hE) hB hk0 _ r hΦ
  unfold CtX fC at h2
  refine sM Z<|sG Z Z (af Z fU Z ag) ?_
  refine sG Z Z (vM Z)<|lX Z Z<|aH Z Z en129 Z (h2) ?_
  rintro u h' ⟨Y2,k',rfl,hE2,r,rfl,hend⟩
  simp only [lC,lN]
  have hE2:=hE.trans hE2
  rcases hend with ⟨rfl,hΦ⟩ | ⟨rfl,hst⟩
  .have h3:=O9 (v:=v) (mb:=mb) (bm:=bm) hy hall (hK.up hE2) hB hk0 _ r hΦ
   unfold CtX fC at h3
   refine sV (vQ Z Z)<|sM Z<|sG Z Z (af Z fU Z ag) ?_
   refine sG Z Z (vM Z)<|lX Z Z<|aH Z Z en130 Z (h3) ?_
   rintro u h' ⟨Y3,k',rfl,hE3,r,rfl,hend⟩
   simp only [lC,lN]
   have hE3:=hE2.trans hE3
   rcases hend with ⟨rfl,hΦ⟩ | ⟨rfl,hst⟩
   .have h4:=MG (v:=v) (mb:=mb) (bm:=bm) hy hall (hK.up hE3) hB cn hcn0 [] r hΦ
    unfold eZ fC at h4
    refine sV (vQ Z Z)<|sM Z<|sG Z Z (af Z fU Z ag) ?_
    refine sG Z Z (vM Z)<|lX Z Z<|bW hw0 Z Z en131 Z (h4) ?_
    rintro u h' ⟨Y4,k',rfl,hE4,r,rfl,hend⟩
    simp only [lC,lN]
    have hE4:=hE3.trans hE4
    have hend : Φ [] r\/∃ x,Stop x r:=hend.elim (λh=>.inl h.2) λh=>.inr h.2
    refine sV (vQ Z Z)<|sN<|nK [] Z<|ax ?_
    exact xV Z ⟨Y4,_,Z,hE4,Z,r,Z,hend⟩ sbq
   .refine sV (vQ Z Z)<|sM Z<|aF Z Z Z ?_
    iterate 2 refine aF rfl rfl rfl ?_
    refine sV (vP Z Z)<|sN<|nK [] Z<|ax ?_
    exact xV Z ⟨Y3,_,Z,hE3,Z,r,Z,.inr hst⟩ sbq
  .refine sV (vQ Z Z)<|sM Z<|aF Z Z Z ?_
   iterate 2 refine aF rfl rfl rfl ?_
   refine sV (vP Z Z)<|sM Z<|aF Z Z Z ?_
   iterate 2 refine aF rfl rfl rfl ?_
   refine sV (vP Z Z)<|sN<|nK [] Z<|ax ?_
   exact xV Z ⟨Y2,_,Z,hE2,Z,r,Z,.inr hst⟩ sbq
 .refine sM Z<|aF Z Z Z ?_
  iterate 2 refine aF rfl rfl rfl ?_
  refine sV (vP Z Z)<|sM Z<|aF Z Z Z ?_
  iterate 2 refine aF rfl rfl rfl ?_
  refine sV (vP Z Z)<|sM Z<|aF Z Z Z ?_
  iterate 2 refine aF rfl rfl rfl ?_
  refine sV (vP Z Z)<|sN<|nK [] Z<|ax ?_
  exact xV Z ⟨Y,_,Z,hE,Z,r,Z,.inr hst⟩ sbq
 theorem en127w:Ck.Enters prog 127:=enters_of func127 Zz rfl
end
end Go.Fl
namespace Go.Ck
open Go Go.RowKit
theorem Yc.star {P:Program} {l:Nat} {args:Array Value} {L:SH} {R R':Value->SH->Prop} (h:Yc P l args L R) (hr:∀ u L',R u L'->R' u [Res.star L']):Yc P l args [Res.star L] R':=λhr2 w hh =>
 jg (λv w' ⟨h',hR,hH,hS⟩=>⟨[Res.star h'],hr v h' hR,dG.2 hH,hS⟩) (h hr2 w<|dG.1 hh)
theorem Ctw.star {P:Program} {k:FuncId} {args:Array Value} {L A:SH} {R:Value->SH->Prop} (h:Ctw P k args (Res.star L::A) R):Ctw P k args (L++A) R:=λhr w hh =>
 by
 have h2:Holds w (L++(A++hr)):=by rw [<- List.append_assoc]; exact hh
 exact h hr w<|dG.2 h2
theorem Ctw.vw {P:Program} {k:FuncId} {args:Array Value} {hf:SH} {R R':Value->SH->Prop} (h:Ctw P k args hf R) (hv:∀ u h',R u h'->∃ h'',(∀ t,Vw (h'++t) (h''++t))/\R' u h''):Ctw P k args hf R':=λhr w hh =>
 (h hr w hh).mono λ_ w' ⟨u,h',he,hR,hH,hS⟩=>by
  obtain ⟨h'',g1,g2⟩:=hv u h' hR
  exact ⟨u,h'',he,g2,g1 hr w' hH,hS⟩
theorem Ctw.frame {P:Program} {k:FuncId} {args:Array Value} {hf g:SH} {R:Value->SH->Prop} (h:Ctw P k args hf R):Ctw P k args (hf++g) λu h'=>∃ h0,R u h0/\h'=h0++g:=λhr w hh=>by
 have h1:Holds w (hf++(g++hr)):=by rw [<- List.append_assoc]; exact hh
 exact (h (g++hr) w h1).mono λ_ _ ⟨u,h',he,hR,hH,hS⟩=>⟨u,h'++g,he,⟨h',hR,Z⟩,by rw [List.append_assoc]; exact hH,hS⟩
theorem xI {L A t:SH}:Vw ((A++[Res.star L])++t) ((L++A)++t):=λw hh=>by
 have hp:((A++[Res.star L])++t).Perm (Res.star L::(A++t)):=by
  rw [List.append_assoc]
  exact List.perm_middle
 have h1:Holds w (Res.star L::(A++t)):=(bn.perm hp).1 hh
 have h2:=dG.1 h1
 rw [List.append_assoc]; exact h2
theorem kV {P:Program} {r:Option Nat} {n:Nat} {ds:List Deferred} {w0:World} {hr k h h':SH} {R:Value->SH->Prop} {fn:Func} {e:Env} {vs:List Value} {bs:List Nat} (hds:ds=bs.map mk) (hv:ResV P k e fn.results.toList vs) (hR:R (lg vs) h') (hk:Sub (h'++hr) k) (hp:Sub (Res.star (marks bs)::k) h) :
  Xt ⟨P,r,n,ds,w0⟩ .ret (bodyPostM (Fw none) 0 P fn<|Post w0 hr R) e h:=λa w hk' hh hw=>o6 hds hv hR hk (Sub.refl _) a w hk' (dG.1<|hh.sub hp) hw
end Go.Ck
namespace Go.Fl
open Go Go.RowKit Go.Ck Go.Proofs Go.Proofs.Tryz Go.Proofs.YtknmacdbffgjgaaGreatDoor Fx Go.Hr
def uN (v fv ow:Value) (x:Cf) (e:Int):List Value:=[v,fv,ow,.int .i64 x.kind,sv x.cls,sv x.name,sv x.other,sv x.a.par,sv x.a.name,sv x.b.par,sv x.b.name,.int .i64 e]
theorem xJ {fs:List (Nm×Fl)} {n:Nm} {f:Fl} (h:n ∉ fs.map λp=>p.1) (k:Nm):look (fs++[(n,f)]) k=if k=n then f else look fs k:=by
 unfold look
 rw [List.find?_append]
 by_cases hk:k=n
 .subst hk
  have:fs.find? (λp=>p.1 == k)=none:=by
   rw [List.find?_eq_none]
   intro p hp
   simp only [beq_iff_eq]
   exact λe=>h<|List.mem_map.2 ⟨p,hp,e⟩
  rw [this,if_pos rfl]; simp
 .have:([(n,f)]:List (Nm×Fl)).find? (λp=>p.1 == k)=none:=by simp; exact λe=>hk e.symm
  rw [this,if_neg hk]; simp
theorem FlR.put {X:Res} {m:List (Nm×Value)} {fs:List (Nm×Fl)} {n:Nm} {f:Fl} {us:List Value} (h:FlR X m (look fs)) (hn:n ∉ fs.map λp=>p.1) (hr:Enc.rep X us f):FlR X (eU m n (.agg us.toArray)) (look (fs++[(n,f)])):=λk=>by
 rw [oJ,xJ hn]
 by_cases hk:k=n
 .rw [if_pos hk,if_pos hk]; exact ⟨us,rfl,hr⟩
 .rw [if_neg hk,if_neg hk]; exact h k
theorem FlB.put {l:FS} {fs:List (Nm×Fl)} {n:Nm} {f:Fl} (h:FlB l (look fs)) (hn:n ∉ fs.map λp=>p.1) (h1:f.mems.length<=60) (h2:∀ m∈f.mems,MOk l m):FlB l (look (fs++[(n,f)])):=by
 constructor
 .intro k
  rw [xJ hn]
  split
  .exact h1
  .exact h.few k
 .intro k m hm
  rw [xJ hn] at hm
  split at hm
  .exact h2 m hm
  .exact h.ok k m hm
def jQ (l:FS):Prop:=∀ c∈l,∀ p∈c.pars,p.ren.length<=12/\p.und.length<=12/\p.red.length<=12/\p.sel.length<=12
theorem oZ {l:FS} (hR:FRight l) {c:Nm} (hc:(bQ l c).isSome=true):(above (aZ l) c).length<=24:=by
 obtain ⟨h1,h2⟩:=jT hR.sys.acyc c
 have h3:(above (aZ l) c).length<=(nms<|aZ l).length:=aN h1.nodup λx hx=>fV.1<|sD (by rw [dx]; exact hc) ((h2 x).1 hx)
 have h4:(nms<|aZ l).length=l.length:=by simp [nms,aZ]
 have h5:=hR.sys.len
 rw [gN] at h5
 omega
theorem fits0 {l:FS} (hR:FRight l) (hS:jQ l):Fits l (look []):=⟨hR,⟨λ_=>Nat.zero_le _,λ_ m hm=>by cases hm⟩,hS⟩
theorem flr0 {X:Res}:FlR X [] (look []):=λ_=>⟨[sv [],.bool false,.slice none 0 0,.slice none 0 0],rfl,.slice none 0 0,.slice none 0 0,rfl,Ls.nil,Ls.nil⟩
attribute [local irreducible] Go.Ck.Sub St Cd Xt Nx DrL LsW
section
variable {X Y:Res} {v v':Value} {us us':List Value}

theorem Ip {l : FS} (hl : Ls X v l) (hR : FRight l) (hS : jQ l) :
  eZ prog 53 #[v] X [] λu Y k'=>∃ mb m ow names,u = .agg (uN v (.map<|some mb) ow (build l).2.1 (build l).2.2).toArray/\k'=[mps mb m,VR ow 9 1 (names.map nC)]/\FlR Y m (look (build l).1)/\names=(build l).1.map (λp=>p.1)/\ow.oneCell'=true:=by
 have hml:maxLen=9223372036854775807:=rfl
 have hrb:reachBytes=140737488351232:=rfl
 obtain ⟨vAq,vK,rfl,_⟩:=id hl.form
 have hord:=Oc<|wY hl
 have hr0:dW (aZ l) []=0:=fu.2 ⟨hR.sys,by simp⟩
 rw [hr0,show okL 0 (order<|aZ l)=order (aZ l) from rfl] at hord
 have hbe:build l=mq l (order<|aZ l) []:=rfl
 have hon:(order<|aZ l).Nodup:=(jU hR.sys.acyc hR.sys.uniq).1.nodup
 have hof:∀ n∈order (aZ l),(bQ l n).isSome=true:=λn hn=>(iy hR.sys).1 hn
 have hol:(order<|aZ l).length<=24:=by
  have h1:(order<|aZ l).length<=(nms<|aZ l).length:=aN hon λx hx=>((jU hR.sys.acyc hR.sys.uniq).2 x).1 hx
  have h2:(nms<|aZ l).length=l.length:=by simp [nms,aZ]
  have h3:=hR.sys.len
  rw [gN] at h3
  omega
 rw [hbe]
 generalize order (aZ l)=xs at hord hon hof hol ⊢
 unfold eZ
 refine Fy (n:=65) func53 Z Z (len Z) λhr w0 hw0=>?_
 refine cQ (au qJ λb2=>?_)
 refine sN<|nT<|cQ<|sM Z<|aH Z Z en116 Z (hord) ?_
 rintro u h' ⟨T,rfl,w,rfl,hw,rfl⟩
 simp only [lC,lN]
 unfold NR
 refine sM Z<|sV (ah Z Z)<|sV (ah Z Z)<|sA Z<|sA Z<|sK [0,2,3] Z<|cS (fO (v:=w) (E:=9) (sz:=1) (rows:=xs.map nC) slq λwa wc hwf hwl hwm=>?_)
 rw [List.length_map] at hwf hwl
 subst hwf
 refine cR<|sM Z (fq (ltn Z) λmb=>?_)
 refine sV (aP (cells:=[.slice vAq l.length vK,.map (some mb)]) Z<|λ_=>Zz) ?_
 refine sV (aP (cells:=uN (.slice vAq l.length vK) (.map<|some mb) (.slice none 0 0) cf0 0) Z<|λ_=>Zz) ?_
 refine au qJ λb5=>?_
 refine ai Z Z jF Z Z ?_
 refine sK [2,3,5] Z<|cS<|cQ<|sM Z<|sV (aC Z underlying40)<|sM Z<|sK [2,5,20,21,22] Z<|cB<|dY (dn 9 1)<|oI<|oH (σ := Res×List (Nm×Value)×Value×Nat×List (Nm×Fl)×List Nat) (λq=>q.2.2.2.2.2.map mk) (λq=>[(2,.pointer (some ⟨b2,0,none⟩)),(5,.pointer (some ⟨b5,0,none⟩)),(20,.slice wa xs.length wc),(21,.int .i64 xs.length),(22,.int .i64 (q.2.2.2.1:Nat))]) (λq=>Res.star (marks q.2.2.2.2.2)::pt b5 (cl (uN (.slice vAq l.length vK) (.map<|some mb) q.2.2.1 cf0 0) 116)::VR q.2.2.1 9 1 ((xs.take q.2.2.2.1).map nC)::VR (.slice wa xs.length wc) 9 1 (xs.map nC)::pt b2 (cl (uN (.slice none 0 0) (.map none) (.slice none 0 0) cf0 0) 116)::q.1::mps mb q.2.1::hr) (λq=>Ext X q.1/\q.2.2.2.1<=xs.length/\q.2.2.1.oneCell'=true/\FlR q.1 q.2.1 (look q.2.2.2.2.1)/\Fits l (look q.2.2.2.2.1)/\q.2.2.2.2.1.map (λp=>p.1)=xs.take q.2.2.2.1/\mq l xs []=mq l (xs.drop q.2.2.2.1) q.2.2.2.2.1) (λq=>xs.length - q.2.2.2.1) (X,[],.slice none 0 0,0,[],[]) ⟨Ext.refl X,Nat.zero_le _,Z,flr0,fits0 hR hS,Z,Z⟩ Z ⟨Z,Z,Z,Z,Z,trivial⟩ sbq ?_
 rintro ⟨Y,m,ow,i,fs,bs⟩ ⟨hE,hi,how,hm,hF,hfs,hbl⟩
 simp only at hE hi how hm hF hfs hbl
 dsimp only
 unfold uN
 dsimp only [cf0,og0]
 refine cQ<|sV (aO Z Z)<|sN<|nT<|cS<|cC Z (λhd=>?_)<|λhd=>?_
 .have hlt:i<xs.length:=Zx
  have hnx:(xs.map nC)[i]? = some [sv xs[i]]:=by rw [List.getElem?_map,Zy hlt]; rfl
  have hnm:=hof _<|List.getElem_mem hlt
  have htk:=cz hlt
  have hdr:=List.drop_eq_getElem_cons hlt
  rw [hdr] at hbl
  have hnew:xs[i] ∉ fs.map λp=>p.1:=by
   rw [hfs]
   intro hmem
   obtain ⟨j,hj,he⟩:=List.mem_take_iff_getElem.1 hmem
   have:=(List.getElem_inj hon).1 he
   omega
  refine fD (r:=VR (.slice wa xs.length wc) 9 1<|xs.map nC) slq λhok=>?_
  obtain ⟨ab,ao,rfl⟩:∃ ab ao,wa=some ⟨ab,ao,none⟩:=by
   obtain ⟨f0,hf0⟩:=hok
   rcases VR.form hf0 with ⟨h3,h4⟩ | ⟨b,o,cp,h3,-⟩
   .have:=List.map_eq_nil_iff.1 h4
    rw [this] at hlt; simp at hlt
   .rw [List.length_map] at h3; cases h3; exact ⟨b,o,rfl⟩
  generalize xs[i]=n at hnx hnm htk hnew hbl
  obtain ⟨hcn,hcl⟩:(ae l n).name=n/\ae l n∈l:=by
   obtain ⟨c0,hc0⟩:=Option.isSome_iff_exists.1 hnm
   rw [iI hc0]
   exact ⟨ql hc0,List.mem_of_find?_eq_some hc0⟩
  have hCR:=gJ<|hR.form _ hcl
  have hfew:=hF.few<|.inl hcl
  obtain ⟨hsS,hsP,hsQ⟩:=hF.sums hcl
  obtain ⟨hmf,hmS⟩:=Ia hF.right hF.flb hcl
  have hmok:=zx hF.flb.ok hCR hcl
  have hfl:=hCR.feats
  have hcc:=mG (n:=n) (fv:=.map<|some mb) (hl.up hE) rfl
  refine cK<|xT<|cS<|cB<|cQ<|sV (vI (k:=i) Z Z jG Z hlt Z)<|sV (vY Z ld9 (ha:=⟨_,_,slq,dU hnx 0<|by simp⟩)) ?_
  refine sA Z<|sK [2,5,7,20,21,22] Z<|cQ<|sV (vF Z gX Z)<|sV (af Z ig Z<|bF (k:=0) ag (vs:=[.slice vAq l.length vK,.map (some mb)]) Z) ?_
  refine sM Z<|aH Z Z en56 Z (hcc) ?_
  rintro u h' ⟨rfl,cus,rfl,hcr⟩
  simp only [lC,lN]
  have hcr0:=hcr
  obtain ⟨ca,cb,ce,cf,ci,rfl,-⟩:=gB hcr
  have hco:=Enc.ones hcr0
  refine au oU λb8=>?_
  refine ai Z Z mP Z hco ?_
  refine sK [2,5,7,8,20,21,22] Z<|cQ<|sV (vF Z gX Z)<|sV (af Z ig Z<|bF (k:=0) ag (vs:=[.slice vAq l.length vK,.map (some mb)]) Z) ?_
  refine sV (af Z gU Z ag) ?_
  have hmem:=Bn (mb:=mb) (hl.up hE) hcr0 hm (hF.hf<|.inl hcl) (by omega) hCR.names (by omega) (by omega) (by omega)<|by omega
  unfold CtX at hmem
  refine aH Z Z en57 Z (hmem) ?_
  rintro u h' ⟨Y2,k2,rfl,hE2,rfl,hms⟩
  simp only [lC,lN]
  have hE2':=hE.trans hE2
  have hc58:=xH (mb:=mb) (all:=false) (hl.up hE2') (Enc.up hE2.rd hcr0) (hm.up hE2) hms hF hcl
  unfold CtX at hc58
  refine sA Z<|sK [2,5,7,8,9,20,21,22] Z<|cS<|cQ<|sV (vF Z gX Z)<|sV (af Z ig Z<|bF (k:=0) ag (vs:=[.slice vAq l.length vK,.map (some mb)]) Z) ?_
  refine sV (af Z gU Z ag) ?_
  refine sM Z<|aH Z Z en58 Z (hc58) ?_
  rintro u2 h' ⟨Y3,k3,rfl,hE3,b9,bm,bmp,da,dbb,de,df,di,rfl,rfl,hK,hk0⟩
  simp only [lC,lN]
  have hE3':=hE2'.trans hE3
  refine sK [2,5,7,8,9,20,21,22,38] Z<|cB ?_
  have hB:SkB ⟨look fs,l,ae l n,members (comes (look fs) l<|ae l n) (ae l n),false⟩:=⟨hF,hcl,hmS,hmf⟩
  have hbl':mq l (n::xs.drop (i+1)) fs=match (rY l fs n false).conflicts with
    | x::_=>(fs,x,10)
    | []=>if over (mo l fs n) then (fs,cf0,3) else mq l (xs.drop (i+1)) (fs++[(n,flatOf l (ae l n) (mo l fs n))]):=rfl
  have h127:=λ(yl:Nat) (Φ : List Cf->Res->Prop) (Stop:Cf->Res->Prop) (hy:Yh yl Φ Stop) (r0:Res) (h0 : Φ (rY l fs n false).conflicts r0)=>uM (mb:=mb) (bm:=bm) (b9:=b9) hy (S:=rY l fs n false) (all:=false) rfl hK hB hk0 n rfl r0 h0
  generalize (rY l fs n false).conflicts=C at hbl' h127
  rw [hbl'] at hbl
  refine xG hw0 Z en127w λyl db rec hst hpe hps hasg hbo hkn2=>?_
  refine ⟨λuz h''=>∃ h0,(uz = .tuple #[]/\∃ Y4,Ext Y3 Y4/\((C=[]/\h0=[pt yl (.loop rec),pt db (.deferred<|some []),pt b5 (cl [.slice vAq l.length vK,.map (some mb),ow,.int .i64 0,sv [],sv [],sv [],sv [],sv [],sv [],sv [],.int .i64 0] 116),pt b2 (cl [.slice none 0 0,.map none,.slice none 0 0,.int .i64 0,sv [],sv [],sv [],sv [],sv [],sv [],sv [],.int .i64 0] 116),pt b8 (cl [sv (ae l n).name,.bool (ae l n).dfd,ca,cb,ce,cf,ci] 44),VR ow 9 1 ((xs.take i).map nC),VR (.slice (some ⟨ab,ao,none⟩) xs.length wc) 9 1 (xs.map nC),Res.star (marks bs)]++[Y4,pt b9 (cl (fC (.slice vAq l.length vK) (.map<|some mb) (ae l n) da dbb de df di u (.map<|some bm) false) 206),mps mb m,mps bm bmp])\/∃ x rec2,C.head? = some x/\(rec2:Loop).state≠.busy/\rec2.pending=some .ret/\h0=[pt yl (.loop rec2),pt db (.deferred<|some []),pt b5 (cl [.slice vAq l.length vK,.map (some mb),ow,.int .i64 x.kind,sv x.cls,sv x.name,sv x.other,sv x.a.par,sv x.a.name,sv x.b.par,sv x.b.name,.int .i64 10] 116),pt b2 (cl [.slice vAq l.length vK,.map (some mb),ow,.int .i64 x.kind,sv x.cls,sv x.name,sv x.other,sv x.a.par,sv x.a.name,sv x.b.par,sv x.b.name,.int .i64 10] 116),pt b8 (cl [sv (ae l n).name,.bool (ae l n).dfd,ca,cb,ce,cf,ci] 44),VR ow 9 1 ((xs.take i).map nC),VR (.slice (some ⟨ab,ao,none⟩) xs.length wc) 9 1 (xs.map nC),Res.star (marks bs)]++[Y4,pt b9 (cl (fC (.slice vAq l.length vK) (.map<|some mb) (ae l n) da dbb de df di u (.map<|some bm) false) 206),mps mb m,mps bm bmp]))/\h''=h0++hr,Ctw.perm (Ctw.frame (g:=hr)<|Ctw.star (L:=[pt yl (.loop rec),pt db (.deferred<|some []),pt b5 (cl [.slice vAq l.length vK,.map (some mb),ow,.int .i64 0,sv [],sv [],sv [],sv [],sv [],sv [],sv [],.int .i64 0] 116),pt b2 (cl [.slice none 0 0,.map none,.slice none 0 0,.int .i64 0,sv [],sv [],sv [],sv [],sv [],sv [],sv [],.int .i64 0] 116),pt b8 (cl [sv (ae l n).name,.bool (ae l n).dfd,ca,cb,ce,cf,ci] 44),VR ow 9 1 ((xs.take i).map nC),VR (.slice (some ⟨ab,ao,none⟩) xs.length wc) 9 1 (xs.map nC),Res.star (marks bs)]) (A:=[Y3,pt b9 (cl (fC (.slice vAq l.length vK) (.map<|some mb) (ae l n) da dbb de df di u (.map<|some bm) false) 206),mps mb m,mps bm bmp])<|Ctw.vw (Ctw.perm (h127 yl (λL r=>L=C/\r=Res.star ([pt yl (.loop rec),pt db (.deferred<|some []),pt b5 (cl [.slice vAq l.length vK,.map (some mb),ow,.int .i64 0,sv [],sv [],sv [],sv [],sv [],sv [],sv [],.int .i64 0] 116),pt b2 (cl [.slice none 0 0,.map none,.slice none 0 0,.int .i64 0,sv [],sv [],sv [],sv [],sv [],sv [],sv [],.int .i64 0] 116),pt b8 (cl [sv (ae l n).name,.bool (ae l n).dfd,ca,cb,ce,cf,ci] 44),VR ow 9 1 ((xs.take i).map nC),VR (.slice (some ⟨ab,ao,none⟩) xs.length wc) 9 1 (xs.map nC),Res.star (marks bs)])) (λx r=>C.head? = some x/\∃ rec2:Loop,rec2.state≠.busy/\rec2.pending=some .ret/\r=Res.star ([pt yl (.loop rec2),pt db (.deferred<|some []),pt b5 (cl [.slice vAq l.length vK,.map (some mb),ow,.int .i64 x.kind,sv x.cls,sv x.name,sv x.other,sv x.a.par,sv x.a.name,sv x.b.par,sv x.b.name,.int .i64 10] 116),pt b2 (cl [.slice vAq l.length vK,.map (some mb),ow,.int .i64 x.kind,sv x.cls,sv x.name,sv x.other,sv x.a.par,sv x.a.name,sv x.b.par,sv x.b.name,.int .i64 10] 116),pt b8 (cl [sv (ae l n).name,.bool (ae l n).dfd,ca,cb,ce,cf,ci] 44),VR ow 9 1 ((xs.take i).map nC),VR (.slice (some ⟨ab,ao,none⟩) xs.length wc) 9 1 (xs.map nC),Res.star (marks bs)])) ?_ _ ⟨Z,Z⟩) (by (try simp only [lC,lN]); exact (by repeat (first | exact Pm.refl | refine Pm.cons slq ?_):Pm _ _).perm)) ?_) (by (try simp only [lC,lN]); exact (by repeat (first | exact Pm.refl | refine Pm.cons slq ?_):Pm _ _).perm),?_⟩
  .rintro x rest r ⟨hCx,rfl⟩
   refine Yc.star (R:=λu L'=>u = .bool false/\∃ rec2:Loop,rec2.state≠.busy/\rec2.pending=some .ret/\L'=[pt yl (.loop rec2),pt db (.deferred<|some []),pt b5 (cl [.slice vAq l.length vK,.map (some mb),ow,.int .i64 x.kind,sv x.cls,sv x.name,sv x.other,sv x.a.par,sv x.a.name,sv x.b.par,sv x.b.name,.int .i64 10] 116),pt b2 (cl [.slice vAq l.length vK,.map (some mb),ow,.int .i64 x.kind,sv x.cls,sv x.name,sv x.other,sv x.a.par,sv x.a.name,sv x.b.par,sv x.b.name,.int .i64 10] 116),pt b8 (cl [sv (ae l n).name,.bool (ae l n).dfd,ca,cb,ce,cf,ci] 44),VR ow 9 1 ((xs.take i).map nC),VR (.slice (some ⟨ab,ao,none⟩) xs.length wc) 9 1 (xs.map nC),Res.star (marks bs)]) (rz (n:=65) (rec:=rec) (args:=[cfV x]) (hf:=[pt db (.deferred<|some []),pt b5 (cl [.slice vAq l.length vK,.map (some mb),ow,.int .i64 0,sv [],sv [],sv [],sv [],sv [],sv [],sv [],.int .i64 0] 116),pt b2 (cl [.slice none 0 0,.map none,.slice none 0 0,.int .i64 0,sv [],sv [],sv [],sv [],sv [],sv [],sv [],.int .i64 0] 116),pt b8 (cl [sv (ae l n).name,.bool (ae l n).dfd,ca,cb,ce,cf,ci] 44),VR ow 9 1 ((xs.take i).map nC),VR (.slice (some ⟨ab,ao,none⟩) xs.length wc) 9 1 (xs.map nC),Res.star (marks bs)]) (by rw [hps]; rfl) hkn2 (by rw [hps]; decide) ?_)<|λu L' ⟨h1,rec2,h3,h4,h2⟩=>.inr ⟨h1,_,⟨by rw [<- hCx]; rfl,rec2,h3,h4,Z⟩,by rw [h2]⟩
   intro hr2 w1
   rw [hasg,hps,hbo]
   simp only [lC,lN]
   unfold cfV cfC
   refine cR (au EH λb10=>?_)
   refine ai Z Z wP Z Z ?_
   refine sN<|nK [2,5,10] Z<|ax<|lW Z slq (by first | rfl | assumption) ?_
   refine cB<|cQ<|sV (af Z uh Z ag) ?_
   refine sV (vF Z KA Z)<|iG Z Z wP Z (λu hu=>List.all_eq_true.1 (show ([.int .i64 x.kind,sv x.cls,sv x.name,sv x.other,sv x.a.par,sv x.a.name,sv x.b.par,sv x.b.name]:List Value).all Value.oneCell'=true from Z) u hu) (show Sel _ (pt b5<|cl [.slice vAq l.length vK,.map (some mb),ow,.int .i64 0,sv [],sv [],sv [],sv [],sv [],sv [],sv [],.int .i64 0] 116) _ from slq) (by simp) ?_
   rw [show splice [.slice vAq l.length vK,.map (some mb),ow,.int .i64 0,sv [],sv [],sv [],sv [],sv [],sv [],sv [],.int .i64 0] (0+3) [.int .i64 x.kind,sv x.cls,sv x.name,sv x.other,sv x.a.par,sv x.a.name,sv x.b.par,sv x.b.name]=[.slice vAq l.length vK,.map (some mb),ow,.int .i64 x.kind,sv x.cls,sv x.name,sv x.other,sv x.a.par,sv x.a.name,sv x.b.par,sv x.b.name,.int .i64 0] from rfl]
   refine sV (vF Z vJ Z)<|bi Z Z Ew ?_
   refine sK [2,5] Z<|cQ<|sV (af Z l8 Z ag) ?_
   have h12:([.slice vAq l.length vK,.map (some mb),ow,.int .i64 x.kind,sv x.cls,sv x.name,sv x.other,sv x.a.par,sv x.a.name,sv x.b.par,sv x.b.name,.int .i64 10]:List Value).all Value.oneCell'=true:=by simp only [List.all_cons,List.all_nil,how,Bool.and_true,Bool.true_and]; rfl
   refine ai Z Z jF Z h12 ?_
   refine sK [2] Z<|cT<|xW<|lu slq ⟨Z,?rr,?_,?_,Z⟩ ?_
   rotate_left 3
   .exact sbq
   .simp
   .rfl
  .rintro u9 h' ⟨Y4,k',rfl,hE4,rfl,r,rfl,hor⟩
   rcases hor with ⟨hC0,hr9⟩ | ⟨x,hx,rec2,hb2,hp2,hr9⟩
   .subst hr9
    exact ⟨[pt yl (.loop rec),pt db (.deferred<|some []),pt b5 (cl [.slice vAq l.length vK,.map (some mb),ow,.int .i64 0,sv [],sv [],sv [],sv [],sv [],sv [],sv [],.int .i64 0] 116),pt b2 (cl [.slice none 0 0,.map none,.slice none 0 0,.int .i64 0,sv [],sv [],sv [],sv [],sv [],sv [],sv [],.int .i64 0] 116),pt b8 (cl [sv (ae l n).name,.bool (ae l n).dfd,ca,cb,ce,cf,ci] 44),VR ow 9 1 ((xs.take i).map nC),VR (.slice (some ⟨ab,ao,none⟩) xs.length wc) 9 1 (xs.map nC),Res.star (marks bs)]++[Y4,pt b9 (cl (fC (.slice vAq l.length vK) (.map<|some mb) (ae l n) da dbb de df di u (.map<|some bm) false) 206),mps mb m,mps bm bmp],λt=>xI (L:=[pt yl (.loop rec),pt db (.deferred<|some []),pt b5 (cl [.slice vAq l.length vK,.map (some mb),ow,.int .i64 0,sv [],sv [],sv [],sv [],sv [],sv [],sv [],.int .i64 0] 116),pt b2 (cl [.slice none 0 0,.map none,.slice none 0 0,.int .i64 0,sv [],sv [],sv [],sv [],sv [],sv [],sv [],.int .i64 0] 116),pt b8 (cl [sv (ae l n).name,.bool (ae l n).dfd,ca,cb,ce,cf,ci] 44),VR ow 9 1 ((xs.take i).map nC),VR (.slice (some ⟨ab,ao,none⟩) xs.length wc) 9 1 (xs.map nC),Res.star (marks bs)]) (A:=[Y4,pt b9 (cl (fC (.slice vAq l.length vK) (.map<|some mb) (ae l n) da dbb de df di u (.map<|some bm) false) 206),mps mb m,mps bm bmp]),Z,Y4,hE4,.inl ⟨hC0.symm,Z⟩⟩
   .subst hr9
    exact ⟨[pt yl (.loop rec2),pt db (.deferred<|some []),pt b5 (cl [.slice vAq l.length vK,.map (some mb),ow,.int .i64 x.kind,sv x.cls,sv x.name,sv x.other,sv x.a.par,sv x.a.name,sv x.b.par,sv x.b.name,.int .i64 10] 116),pt b2 (cl [.slice vAq l.length vK,.map (some mb),ow,.int .i64 x.kind,sv x.cls,sv x.name,sv x.other,sv x.a.par,sv x.a.name,sv x.b.par,sv x.b.name,.int .i64 10] 116),pt b8 (cl [sv (ae l n).name,.bool (ae l n).dfd,ca,cb,ce,cf,ci] 44),VR ow 9 1 ((xs.take i).map nC),VR (.slice (some ⟨ab,ao,none⟩) xs.length wc) 9 1 (xs.map nC),Res.star (marks bs)]++[Y4,pt b9 (cl (fC (.slice vAq l.length vK) (.map<|some mb) (ae l n) da dbb de df di u (.map<|some bm) false) 206),mps mb m,mps bm bmp],λt=>xI (L:=[pt yl (.loop rec2),pt db (.deferred<|some []),pt b5 (cl [.slice vAq l.length vK,.map (some mb),ow,.int .i64 x.kind,sv x.cls,sv x.name,sv x.other,sv x.a.par,sv x.a.name,sv x.b.par,sv x.b.name,.int .i64 10] 116),pt b2 (cl [.slice vAq l.length vK,.map (some mb),ow,.int .i64 x.kind,sv x.cls,sv x.name,sv x.other,sv x.a.par,sv x.a.name,sv x.b.par,sv x.b.name,.int .i64 10] 116),pt b8 (cl [sv (ae l n).name,.bool (ae l n).dfd,ca,cb,ce,cf,ci] 44),VR ow 9 1 ((xs.take i).map nC),VR (.slice (some ⟨ab,ao,none⟩) xs.length wc) 9 1 (xs.map nC),Res.star (marks bs)]) (A:=[Y4,pt b9 (cl (fC (.slice vAq l.length vK) (.map<|some mb) (ae l n) da dbb de df di u (.map<|some bm) false) 206),mps mb m,mps bm bmp]),Z,Y4,hE4,.inr ⟨x,rec2,hx,hb2,hp2,Z⟩⟩
  .rintro u9 h'' ⟨h0, ⟨rfl, Y4, hE4, (⟨rfl, rfl⟩ | ⟨x, rec2, hx, hb2, hp2, rfl⟩)⟩, rfl⟩
   .simp only [lC,lN]
    refine ⟨rec,_,slq,(by rw [hst]; simp),?_⟩
    rw [hpe]
    dsimp only
    refine xB<|xT<|cS<|cQ<|sM Z ?_
    have hE4':=hE3'.trans hE4
    have hE24:=hE2.trans<|hE3.trans hE4
    have hms4:=hms.up<|hE3.trans hE4
    have hov:=K4 hms4
    dsimp only at hbl
    refine bf Z Z en59 Z (hov) ?_
    refine sK [2,5,7,8,9,20,21,22,45] Z<|cC Z (λhto=>?_)<|λhto=>?_
    .rw [if_pos (show over (mo l fs n)=true from hto)] at hbl
     refine cQ<|sV (vF Z vJ Z)<|bi Z Z Ew ?_
     refine sK [2,5,7,8,9,20,21,22] Z<|cQ<|sV (af Z l8 Z ag) ?_
     have h12:([.slice vAq l.length vK,.map (some mb),ow,.int .i64 0,sv [],sv [],sv [],sv [],sv [],sv [],sv [],.int .i64 3]:List Value).all Value.oneCell'=true:=by simp only [List.all_cons,List.all_nil,how,Bool.and_true,Bool.true_and]; rfl
     refine ai Z Z jF Z h12 ?_
     refine sK [2] Z<|cT<|xR<|xW<|xR<|xR<|xW<|xR<|jD slq slq ?_
     rw [hbl]
     refine kV (bs:=db::bs) (k:=pt b2 (cl [.slice vAq l.length vK,.map (some mb),ow,.int .i64 0,sv [],sv [],sv [],sv [],sv [],sv [],sv [],.int .i64 3] 116)::([Y4,mps mb m,VR ow 9 1 ((xs.take i).map nC)]++hr)) Z (.cellN Z l8 Z .here .nil) ⟨Y4,_,Z,hE4',mb,m,ow,xs.take i,Z,Z,(hm.up hE24),hfs.symm,how⟩ (Sub.cons<|Sub.refl _) ?_
     simp only [lC,lN]
     exact sbq
    .have hto2:over (mo l fs n)=false:=hto
     have hto':¬ over (mo l fs n)=true:=by rw [hto2]; simp
     rw [if_neg hto'] at hbl
     have hsh:(mo l fs n).length<=60:=by
      refine Nat.le_of_not_lt λh=>hto' ?_
      show over (mo l fs n)=true
      unfold over
      rw [decide_eq_true h,Bool.true_or]
     have hrn:dW (aZ l) [(ae l n).name]=0:=fu.2 ⟨hR.sys,by
      intro k hk
      rw [List.mem_singleton] at hk
      subst hk
      rw [hcn]
      rw [dx]; exact hnm⟩
     have hab:=oZ hR (by rw [hcn]; exact hnm:(bQ l (ae l n).name).isSome=true)
     have hfc:=Lb (fv:=.map<|some mb) (hl.up hE4') (Enc.up (hE24).rd hcr0) hms4 rfl hrn<|by omega
     refine cK<|xT<|cQ<|sV (vF Z ED Z)<|sV (vY Z gq) ?_
     refine sM Z (ak (cells:=[sv n]) Z underlying40 gp Z Z Zz (ltn Z) λb50=>?_)
     have hil:((xs.take i).map nC).length<=24:=by rw [List.length_map,List.length_take]; exact Nat.le_trans (Nat.min_le_right _ _) hol
     refine eG [[sv n]] Z Z underlying40 gp Z (by decide) (show Sel _ (VR ow 9 1<|(xs.take i).map nC) _ from slq) (by simp) Z (λj u2 hu2=>bV<|bZ Zt) (by simp [sv,Value.oneCell']) (by omega) (by omega) (ltn Z) λw2 hw2 _=>?_
     refine sV (vF Z ED Z)<|bi Z Z yI ?_
     refine sK [2,5,7,8,9,20,21,22] Z<|jC (ork [(0,2),(1,2),(2,1),(3,2),(4,2),(5,1),(6,1),(7,2),(8,0),(9,0)] .nil) (λi => !(Nat.beq i 9)) [pt b5 (cl [.slice vAq l.length vK,.map (some mb),w2,.int .i64 0,sv [],sv [],sv [],sv [],sv [],sv [],sv [],.int .i64 0] 116),pt b8 (cl [sv (ae l n).name,.bool (ae l n).dfd,ca,cb,ce,cf,ci] 44)] mixed Zz ?_
     refine dV Z (vF Z gX Z)<|dV Z (vF Z iW Z)<|bu Z (vY Z qI) ?_
     refine dV Z (vM Z)<|dV Z (vF Z gX Z)<|bu Z (af Z ig Z<|bF (k:=0) ag (vs:=[.slice vAq l.length vK,.map (some mb)]) Z) ?_
     refine bu Z (af Z gU Z ag) ?_
     refine dV Z (vM Z)<|aT Z<|aH Z Z en60 Z (hfc) ?_
     rintro u9 h' ⟨Y5,k5,rfl,hE5,rfl,fus,rfl,hfr⟩
     simp only [lC,lN]
     refine aW ?_
     refine aT Z<|dB Z Z Z qG slq<|aW ?_
     refine bB<|nK [2,5,20,21,22] Z<|ax<|xB<|xT<|cR<|sV (aI Z Z Z0)<|sM Z<|sN<|nK [2,5,20,21,22] Z<|ax<|jD slq slq ?_
     refine lK (Y5,eU m n (.agg fus.toArray),w2,i+1,fs++[(n,flatOf l (ae l n) (mo l fs n))],db::bs) ⟨hE4'.trans hE5,hlt,hw2,(hm.up<|hE24.trans hE5).put hnew hfr,⟨hF.right,hF.flb.put hnew hsh hmok,hF.lists⟩,by rw [List.map_append,hfs,htk]; rfl,hbl⟩ (by show xs.length - (i+1)<xs.length - i; omega) Z ⟨Z,Z,Z,Z,Z,trivial⟩ ?_
     dsimp only
     rw [htk,List.map_append]
     exact sbq
   .simp only [lC,lN]
    refine ⟨rec2,_,slq,hb2,?_⟩
    rw [hp2]
    dsimp only
    refine cT<|xW<|xR<|xW<|xR<|xR<|xW<|xR<|jD slq slq ?_
    obtain ⟨rest,rfl⟩:∃ rest,C=x::rest:=by
     cases C with
     | nil=>cases hx
     | cons y t=>cases hx; exact ⟨t,rfl⟩
    dsimp only at hbl
    rw [hbl]
    refine kV (bs:=db::bs) (k:=pt b2 (cl [.slice vAq l.length vK,.map (some mb),ow,.int .i64 x.kind,sv x.cls,sv x.name,sv x.other,sv x.a.par,sv x.a.name,sv x.b.par,sv x.b.name,.int .i64 10] 116)::([Y4,mps mb m,VR ow 9 1 ((xs.take i).map nC)]++hr)) Z (.cellN Z l8 Z .here .nil) ⟨Y4,_,Z,hE3'.trans hE4,mb,m,ow,xs.take i,Z,Z,(hm.up<|hE2.trans<|hE3.trans hE4),hfs.symm,how⟩ (Sub.cons<|Sub.refl _) ?_
    simp only [lC,lN]
    exact sbq
 .have hie:i=xs.length:=Nat.le_antisymm hi<|Nat.not_lt.1 Zx
  subst hie
  rw [List.drop_length] at hbl
  rw [List.take_length] at hfs
  have hbl2:mq l xs []=(fs,cf0,0):=hbl
  refine aB<|xE<|xE<|xY<|xT<|cQ<|sV (af Z l8 Z ag) ?_
  have h12:([.slice vAq l.length vK,.map (some mb),ow,.int .i64 0,sv [],sv [],sv [],sv [],sv [],sv [],sv [],.int .i64 0]:List Value).all Value.oneCell'=true:=by simp only [List.all_cons,List.all_nil,how,Bool.and_true,Bool.true_and]; rfl
  refine ai Z Z jF Z h12 ?_
  refine sK [2] Z<|cT ?_
  rw [hbl2]
  rw [List.take_length]
  refine kV (bs:=bs) (k:=pt b2 (cl [.slice vAq l.length vK,.map (some mb),ow,.int .i64 0,sv [],sv [],sv [],sv [],sv [],sv [],sv [],.int .i64 0] 116)::([Y,mps mb m,VR ow 9 1 (xs.map nC)]++hr)) Z (.cellN Z l8 Z .here .nil) ⟨Y,_,Z,hE,mb,m,ow,xs,Z,Z,hm,hfs.symm,how⟩ (Sub.cons<|Sub.refl _) ?_
  simp only [lC,lN]
  exact sbq
end
theorem Ls.take {α : Type} [Enc α] {X:Res} {a:Option Addr} {n cp k:Nat} {xs:List α} (h:Ls X (.slice a n cp) xs) (hk:k<=xs.length):Ls X (.slice a k cp) (xs.take k):=
 ⟨Row.take h.1 hk,Nat.le_trans (Nat.mul_le_mul_right _ (by rw [List.length_take]; exact Nat.min_le_right _ _)) h.2⟩
theorem D9 {xs:List Int} {i:Nat} (h:i<xs.length) (h0:∀ j (hj:j<xs.length),j<i->xs[j]=0) (hn:xs[i]≠0):kX xs=xs[i]:=by
 unfold kX
 rw [show xs.find? (· != 0)=some xs[i] from List.find?_eq_some_iff_getElem.2 ⟨Zk,i,h,rfl,λj hj=>by
  rw [h0 j (by omega) hj]; rfl⟩]
 rfl
theorem yD {xs:List Int} (h0:∀ j (hj:j<xs.length),xs[j]=0):kX xs=0:=by
 unfold kX
 rw [show xs.find? (· != 0)=none from List.find?_eq_none.2 λx hx=>by
  obtain ⟨j,hj,rfl⟩:=List.getElem_of_mem hx
  rw [h0 j hj]; decide]
 rfl
theorem Pd {α : Type} (xs:List α) (p : α -> Bool):(xs.find? p).isSome=xs.any p:=by
 rw [Bool.eq_iff_iff,List.find?_isSome,List.any_eq_true]
def oneK (f:Fe):Bool:=((decide (f.kind<1) || decide (3<f.kind)) || (decide (f.kind=1) && (decide ((0:Int)<(f.args.length:Nat)) || decide (f.ty.kind=0))))
theorem oneE_eq (fs:List Fe) (f:Fe) (i:Nat):xe fs (f,i)=if small f.name=false then 4 else if (fs.take i).any (λg=>g.name == f.name)=true then 6 else if oneK f=true then 2 else 0:=by
 unfold xe oneK
 congr 2
 have hl:(0:Int)<(f.args.length:Nat)↔f.args≠[]:=by
  cases f.args <;> simp
 simp only [Bool.or_eq_true,Bool.and_eq_true,decide_eq_true_eq,hl,or_assoc]
section
variable {X:Res}
theorem Iq (hX:Spc X) {uc:List Value} {c:FC} (hc:Enc.rep X uc c):Ctw prog 145 #[.agg uc.toArray] [X] λu h'=>u = .int .i64 (vX c)/\h'=[X]:=by
 have hml:maxLen=9223372036854775807:=rfl
 have hone0:=Enc.ones hc
 obtain ⟨ca,cb,ce,cf,ci,rfl,-,-,-,hcf,-⟩:=gB hc
 obtain ⟨fA,fK,rfl,hlc,hcm,_⟩:=id hcf.form
 unfold vX
 have hml2:(c.feats.zipIdx.map<|xe c.feats).length=c.feats.length:=by simp
 have hat:∀ j (hj:j<(c.feats.zipIdx.map<|xe c.feats).length),(c.feats.zipIdx.map<|xe c.feats)[j]=xe c.feats (c.feats[j]'(by rw [<- hml2]; exact hj),j):=λj hj=>by simp
 refine gF (n:=63) func145 Z Z (len Z) λhr w0 hw0=>?_
 refine cQ (aV Z Z λb1=>?_)
 refine sA Z<|sK [1,2] Z<|cS<|cQ<|sV (vF Z kW Z)<|sV (vY Z yK) ?_
 refine sV (aC Z underlying41)<|sV (dh Z Z)<|sK [1,2,10] Z<|cC Z (λhd=>?_)<|λhd=>?_
 .rw [if_pos (show 60<c.feats.length by have h:(60:Int)<c.feats.length:=(by simpa using hd); omega)]
  refine cQ<|sA Z<|sK [2] Z<|cT<|xR ?_
  exact aj Z ⟨Z,Z⟩ sbq
 .rw [if_neg (show ¬ 60<c.feats.length by have h:(c.feats.length:Int)<=60:=(by simpa using hd); omega)]
  refine cK<|xT<|cS<|cQ<|sV (vF Z kW Z)<|sV (vY Z yK) ?_
  refine sV (aC Z underlying41)<|sM Z<|sK [1,2,12,13,14] Z<|cB<|aY (σ := Nat) (λi=>[(1,.pointer (some ⟨b1,0,none⟩)),(12,.slice fA c.feats.length fK),(13,.int .i64 c.feats.length),(14,.int .i64 (i:Nat))]) (λi=>pt b1 (cl [sv c.name,.bool c.dfd,ca,cb,ce,.slice fA c.feats.length fK,ci] 44)::X::hr) (λi=>i<=c.feats.length/\∀ j (hj:j<c.feats.length),j<i->xe c.feats (c.feats[j],j)=0) (λi=>c.feats.length - i) 0 ⟨Nat.zero_le _,λj _ hj=>absurd hj<|Nat.not_lt_zero _⟩ ?_
  rintro i ⟨hi,hal⟩
  refine cQ<|sV (aO Z Z)<|sN<|nT<|cS<|cC Z (λhd=>?_)<|λhd=>?_
  .have hlt:i<c.feats.length:=Zx
   obtain ⟨b,o,cap2,us,e1,hus,hrd,hre⟩:=hcf.at<|Zy hlt
   cases e1
   have hone:=Enc.ones hre
   have hbad:xe c.feats (c.feats[i],i)≠0->kX (c.feats.zipIdx.map<|xe c.feats)=xe c.feats (c.feats[i],i):=λhne=>by
    rw [D9 (i:=i) (by rw [hml2]; exact hlt) (λj hj hji=>by rw [hat j hj]; exact hal j (by rw [<- hml2]; exact hj) hji) (by rw [hat]; exact hne),hat]
   have hoe:=oneE_eq c.feats c.feats[i] i
   have hcft:=Ls.take hcf hi
   have hfi:=je (n:=c.feats[i].name) hcft
   rw [Pd] at hfi
   have hsm:=Im hX c.feats[i].name
   generalize hfg:c.feats[i]=f at hre hone hbad hoe hfi hsm
   obtain ⟨x2,x3,y,x9,x10,x11,x12,x13,x14,rfl,-,hx3,-⟩:=oz hre
   unfold Be at hus hrd hone
   obtain ⟨gA,gK,rfl,_⟩:=id hx3.form
   refine cK<|xT<|cS<|cB<|cQ<|sM Z<|sV (vI (k:=i) Z Z sl41 Z hlt Z)<|sV (af Z oQ Z hrd) ?_
   refine au mg λb4=>?_
   refine sA Z<|ai Z Z kE Z hone ?_
   refine sK [1,3,4,12,13,14] Z<|cS<|nE (ex:=.normal) (α := Unit) (λq=>[(1,.pointer (some ⟨b1,0,none⟩)),(4,.pointer (some ⟨b4,0,none⟩)),(6,.bool ((c.feats.take i).any λg=>g.name == f.name)),(12,.slice (some ⟨b,o,none⟩) c.feats.length fK),(13,.int .i64 c.feats.length),(14,.int .i64 (i:Nat))]) (λq=>pt b4 (cl [.int .i64 f.kind,sv f.name,x2,.slice gA f.args.length gK,.int .i64 f.ty.kind,sv f.ty.name,y,.bool f.ty.void,.bool f.ty.sep,x9,x10,x11,x12,x13,x14] 130)::pt b1 (cl [sv c.name,.bool c.dfd,ca,cb,ce,.slice (some ⟨b,o,none⟩) c.feats.length fK,ci] 44)::X::hr) (λhcont=>?_)<|λq=>?_
   .refine jC (ork [(0,2),(1,1),(2,2),(3,1),(4,2),(5,1)]<|.two 6 (ork [(7,2),(8,2),(9,2),(10,0),(11,0),(12,2)] .nil) 10<|ork [(6,0),(7,2),(8,2),(9,2),(11,0),(12,2)] .nil) (λi => !(Nat.beq i 6 || Nat.beq i 11)) [pt b1 (cl [sv c.name,.bool c.dfd,ca,cb,ce,.slice (some ⟨b,o,none⟩) c.feats.length fK,ci] 44),pt b4 (cl [.int .i64 f.kind,sv f.name,x2,.slice gA f.args.length gK,.int .i64 f.ty.kind,sv f.ty.name,y,.bool f.ty.void,.bool f.ty.sep,x9,x10,x11,x12,x13,x14] 130)] mixed Zz ?_
    refine dV Z (vF Z kW Z)<|bu Z (vY Z yK) ?_
    refine dV Z (vM Z)<|bu Z (wz Z Z sl41 Z<|Nat.le_trans hi hlc)<|dV Z (vF Z p9 Z)<|bu Z (vY Z ld9) ?_
    refine nJ Z Z ?_ ?_
    .refine aH Z Z yg Z (hfi) ?_
     rintro u h' ⟨rfl,gus,rfl,hgr⟩
     simp only [lC,lN]
     refine aW ?_
     have hgo:=Enc.ones hgr
     obtain ⟨z2,z3,zy,z9,z10,z11,z12,z13,z14,rfl,-⟩:=oz hgr
     unfold Be at hgo ⊢
     refine dV Z (vM Z)<|dV Z (ah Z Z)<|dV Z (ah Z Z)<|aT Z (au mg λb5=>aW ?_)
     refine aT Z<|ai Z Z kE Z hgo<|aW ?_
     refine dV Z (vA Z)<|bB<|nK [1,4,6,12,13,14] Z<|ax ?_
     exact hcont () _ _ ⟨Z,Z,Z,Z,Z,Z,trivial⟩ sbq
    .refine au mg λb5=>aW ?_
     refine aT Z<|aH Z Z yg Z (hfi) ?_
     rintro u h' ⟨rfl,gus,rfl,hgr⟩
     simp only [lC,lN]
     refine aW ?_
     have hgo:=Enc.ones hgr
     obtain ⟨z2,z3,zy,z9,z10,z11,z12,z13,z14,rfl,-⟩:=oz hgr
     unfold Be at hgo ⊢
     refine dV Z (vM Z)<|dV Z (ah Z Z)<|dV Z (ah Z Z)<|aT Z<|ai Z Z kE Z hgo<|aW ?_
     refine dV Z (vA Z)<|bB<|nK [1,4,6,12,13,14] Z<|ax ?_
     exact hcont () _ _ ⟨Z,Z,Z,Z,Z,Z,trivial⟩ sbq
   refine xT<|cB<|cQ<|sV (vF Z p9 Z)<|sV (vY Z ld9) ?_
   refine bW hw0 Z Z en147 Z (hsm) ?_
   rintro u h' ⟨rfl,rfl⟩
   simp only [lC,lN]
   refine sV (bg Z)<|sA Z<|sK [1,4,6,12,13,14,29] Z<|cC Z (λhs=>?_)<|λhs=>?_
   .have hs:small f.name=false:=by simpa using hs
    rw [hs,if_pos rfl] at hoe
    rw [hbad (by rw [hoe]; decide),hoe]
    refine cQ<|sA Z<|sK [2] Z<|cT<|xW<|xW<|xR<|xR<|xW<|xR ?_
    exact aj Z ⟨Z,Z⟩ sbq
   .have hs:small f.name=true:=by simpa using hs
    rw [hs,if_neg (by decide)] at hoe
    refine cQ<|sM Z<|sA Z<|sK [1,4,12,13,14,34] Z<|cC Z (λhv=>?_)<|λhv=>?_
    .rw [if_pos (show _=true from hv)] at hoe
     rw [hbad (by rw [hoe]; decide),hoe]
     refine cQ<|sA Z<|sK [2] Z<|cT<|xW<|xW<|xR<|xR<|xW<|xR ?_
     exact aj Z ⟨Z,Z⟩ sbq
    .have hv:(c.feats.take i).any (λg=>g.name == f.name)=false:=hv
     rw [hv,if_neg (by decide)] at hoe
     refine cQ<|sV (vF Z vL Z)<|sV (vY Z ld3) ?_
     refine sV (aO Z Z)<|sM Z<|bH (k:=8) (d:=44) (v:=.bool (decide (f.kind<1) || decide (3<f.kind))) (λhcut=>aM (b:=(decide (f.kind<1))) false (λhg=>?_)<|λhg=>?_) ?_
     .refine aF Z Z hg ?_
      iterate 2 refine aF rfl rfl hg ?_
      refine sV (vQ (bO Z hg) Z) ?_
      exact hcut _ uG
     .refine sG Z (bG Z hg) (vF Z vL Z)<|sG Z (bG Z hg) (vY Z ld3) ?_
      refine sG Z (bG Z hg) (dh Z Z)<|sV (vP (bO Z hg) Z) ?_
      exact hcut _ uG
     refine sM Z<|bH (k:=25) (d:=61) (v:=.bool ((decide (f.kind<1) || decide (3<f.kind)) || (decide (f.kind=1) && (decide ((0:Int)<(f.args.length:Nat)) || decide (f.ty.kind=0))))) (λhcut=>aM (b:=(decide (f.kind<1) || decide (3<f.kind))) false (λhg=>?_)<|λhg=>?_) ?_
     .refine aF Z Z hg ?_
      iterate 3 refine aF rfl rfl hg ?_
      refine cZ Z Z ?_
      refine cZ Z Z ?_
      refine cZ Z Z ?_
      refine cZ Z Z ?_
      refine cZ Z Z ?_
      refine cZ Z Z ?_
      refine cZ Z Z ?_
      refine cZ Z Z ?_
      refine cZ Z Z ?_
      refine cZ Z Z ?_
      refine aF Z Z hg ?_
      refine sV (vQ (bO Z hg) Z) ?_
      exact hcut _ uG
     .refine sG Z (bG Z hg) (vF Z vL Z)<|sG Z (bG Z hg) (vY Z ld3) ?_
      refine sG Z (bG Z hg) (dX Z Z)<|sG Z (bG Z hg) (vM Z)<|bH (k:=24) (d:=60) (v:=.bool (decide (f.kind=1) && (decide ((0:Int)<(f.args.length:Nat)) || decide (f.ty.kind=0)))) (λhcut=>aM (b:=(decide (f.kind=1))) true (λhg1=>?_)<|λhg1=>?_) ?_
      .refine aF Z Z hg1 ?_
       iterate 4 refine aF rfl rfl hg1 ?_
       refine cZ Z Z ?_
       refine cZ Z Z ?_
       refine cZ Z Z ?_
       refine cZ Z Z ?_
       refine aF Z Z hg1 ?_
       refine sG Z (bG Z hg) (vP (bO Z hg1) Z) ?_
       exact hcut _<|uH (by first | rfl | (rw [hg1]; rfl) | simp_all)<|uS Z<|uS Z<|uS Z<|uS Z<|uS Z<|uS Z<|uS Z<|uS Z<|uS Z<|uS Z<|uR
      .refine sG Z (bG Z hg1) (vF Z sH Z)<|sG Z (bG Z hg1) (vY Z rF) ?_
       refine sG Z (bG Z hg1) (aC Z underlying70)<|sG Z (bG Z hg1) (dh Z Z)<|sG Z (bG Z hg1) (vM Z)<|bH (k:=23) (d:=59) (v:=.bool (decide ((0:Int)<(f.args.length:Nat)) || decide (f.ty.kind=0))) (λhcut=>aM (b:=(decide ((0:Int)<(f.args.length:Nat)))) false (λhg2=>?_)<|λhg2=>?_) ?_
       .refine aF Z Z hg2 ?_
        iterate 3 refine aF rfl rfl hg2 ?_
        refine sG Z (bG Z hg1) (vQ (bO Z hg2) Z) ?_
        exact hcut _<|uH (by first | rfl | (rw [hg2]; rfl) | simp_all)<|uS Z<|uS Z<|uS Z<|uS Z<|uR
       .refine sG Z (bG Z hg2) (vF Z yX Z)<|sG Z (bG Z hg2) (vF Z rM Z)<|sG Z (bG Z hg2) (vY Z ld3) ?_
        refine sG Z (bG Z hg2) (dX Z Z)<|sG Z (bG Z hg1) (vP (bO Z hg2) Z) ?_
        exact hcut _<|uH (by first | rfl | (rw [hg2]; rfl) | simp_all)<|uS Z<|uS Z<|uS Z<|uS Z<|uR
       refine sG Z (bG Z hg) (vQ (bO Z hg1) Z) ?_
       exact hcut _<|uH (by first | rfl | (rw [hg1]; rfl) | simp_all) (by repeat (first | exact uR | refine uS Z ?_))
      refine sV (vP (bO Z hg) Z) ?_
      exact hcut _<|uH (by first | rfl | (rw [hg]; rfl) | simp_all) (by repeat (first | exact uR | refine uS Z ?_))
     refine sA Z<|sK [1,12,13,14,36] Z<|cC Z (λhk=>?_)<|λhk=>?_
     .rw [if_pos (show oneK f=true from hk)] at hoe
      rw [hbad (by rw [hoe]; decide),hoe]
      refine cQ<|sA Z<|sK [2] Z<|cT<|xW<|xW<|xR<|xR<|xW<|xR ?_
      exact aj Z ⟨Z,Z⟩ sbq
     .have hk:oneK f=false:=hk
      rw [hk,if_neg (by decide)] at hoe
      refine cK<|xB<|xB<|xT<|cR<|sV (aI Z Z Z0)<|sM Z<|sN<|nK [1,12,13,14] Z<|ax ?_
      refine aL (i+1) ⟨hlt,λj hj hji=>by
       by_cases h:j=i
       .subst h; rw [hfg]; exact hoe
       .exact hal j hj (by omega)⟩ (by show c.feats.length - (i+1)<c.feats.length - i; omega)
  .have hie:i=c.feats.length:=Nat.le_antisymm hi<|Nat.not_lt.1 Zx
   subst hie
   rw [yD λj hj=>by rw [hat j hj]; exact hal j (by rw [<- hml2]; exact hj) (by rw [<- hml2]; exact hj)]
   refine aB<|xE<|xE<|xY<|xT<|cQ<|sA Z<|sK [2] Z<|cT ?_
   exact aj Z ⟨Z,Z⟩ sbq
end
section
variable {X:Res} {v:Value}
theorem JR {xs:List Pn} {kf:FuncId} {cp:Array Value} {g:Pn->Bool} (hv:Ls X v xs) (hE:Ck.Enters prog kf) (hf:∀ a∈xs,∀ us,Enc.rep X us a->Ctw prog kf (#[]++([.agg us.toArray]:List Value).toArray++cp) [X] λu h'=>u = .bool (g a)/\h'=[X]):Ctw prog 153 #[v,.func (.func kf) #[] cp] [X] λu h'=>u = .int .i64 (ixI (xs.findIdx? g))/\h'=[X]:=by
 have hml:maxLen=9223372036854775807:=rfl
 obtain ⟨a,cap,rfl,hlc,hcm,_⟩:=id hv.form
 refine gF (n:=19) func153 Z Z (len Z) λhr w0 hw0=>?_
 refine cQ<|sA Z<|sN<|nT<|cS<|cQ<|sM Z<|sV (aC Z underlying86)<|sM Z<|sK [0,1,4,7,8] Z<|cB<|aY (σ := Nat) (λi=>[(0,.slice a xs.length cap),(1,.func (.func kf) #[] cp),(7,.int .i64 xs.length),(8,.int .i64 (i:Nat))]) (λ_=>X::hr) (λi=>i<=xs.length/\∀ j (hj:j<xs.length),j<i->g xs[j]=false) (λi=>xs.length - i) 0 ⟨Nat.zero_le _,λj _ hj=>absurd hj<|Nat.not_lt_zero _⟩ ?_
 rintro i ⟨hi,hal⟩
 refine cQ<|sV (aO Z Z)<|sN<|nT<|cS<|cC Z (λhd=>?_)<|λhd=>?_
 .have hlt:i<xs.length:=Zx
  obtain ⟨b,o,cap2,us,e1,hus,hrd,hre⟩:=hv.at<|Zy hlt
  cases e1
  have hfx:=hf xs[i] (List.getElem_mem hlt) us hre
  refine cK<|xT<|cS<|cB<|cQ<|sM Z<|sA Z<|sK [0,1,5,7,8] Z<|cQ<|sM Z<|sM Z<|sM Z ?_
  refine sV (vI (k:=i) Z Z sl86 Z hlt Z)<|sV (af Z rG hus hrd) ?_
  refine bW hw0 Z Z hE Z (hfx) ?_
  rintro u h' ⟨rfl,rfl⟩
  simp only [lC,lN]
  refine sK [0,1,5,7,8,16] Z<|cC Z (λhe=>?_)<|λhe=>?_
  .have he:g xs[i]=true:=he
   rw [show xs.findIdx? g=some i by
    rw [List.findIdx?_eq_some_iff_getElem]
    exact ⟨hlt,he,λj hj=>by rw [hal j (by omega) hj]; decide⟩]
   refine cQ<|sM Z<|sA Z<|sK [4] Z<|cT<|xW<|xR<|xR<|xW<|xR ?_
   exact aj Z ⟨Z,Z⟩ sbq
  .have he:g xs[i]=false:=he
   refine cK<|xB<|xT<|cR<|sV (aI Z Z Z0)<|sM Z<|sN<|nK [0,1,7,8] Z<|ax<|aL (i+1) ⟨hlt,λj hj hj2=>?_⟩<|Nat.sub_lt_sub_left hlt<|Nat.lt_succ_self i
   by_cases hji:j=i
   .subst hji; exact he
   .exact hal j hj<|by omega
 .have hil:i=xs.length:=Nat.le_antisymm hi<|Nat.not_lt.1 Zx
  rw [show xs.findIdx? g=none by
   rw [List.findIdx?_eq_none_iff]
   intro f hfm
   obtain ⟨j,hj,rfl⟩:=List.getElem_of_mem hfm
   exact hal j hj (by omega)]
  refine aB<|xE<|xE<|xY<|xT<|cQ<|sA Z<|sK [4] Z<|cT ?_
  exact aj Z ⟨Z,Z⟩ sbq
theorem MH {xs:List Pn} {kf:FuncId} {cp:Array Value} {g:Pn->Bool} (hv:Ls X v xs) (hE:Ck.Enters prog kf) (hf:∀ a∈xs,∀ us,Enc.rep X us a->Ctw prog kf (#[]++([.agg us.toArray]:List Value).toArray++cp) [X] λu h'=>u = .bool (g a)/\h'=[X]):Ctw prog 73 #[v,.func (.func kf) #[] cp] [X] λu h'=>u = .bool (xs.any g)/\h'=[X]:=by
 rw [<- sW]
 have hx:=JR hv hE hf
 obtain ⟨a,cap,rfl,hlc,hcm,_⟩:=id hv.form
 refine gF (n:=9) func73 Z Z (len Z) λhr w0 hw0=>?_
 refine cQ<|sA Z<|sN<|nT<|cQ<|sM Z<|sM Z<|bW hw0 Z Z en153 Z (hx) ?_
 rintro u h' ⟨rfl,rfl⟩
 simp only [lC,lN]
 refine sV (qE Z Z)<|sA Z<|sK [4] Z<|cT ?_
 exact aj Z ⟨Z,Z⟩ sbq
theorem JS (hX:Spc X) {us:List Value} {a:Pn} (h:Enc.rep X us a):Ctw prog 146 #[.agg us.toArray] [X] λu h'=>u = .bool (!small a.to)/\h'=[X]:=by
 have h:us=[sv a.fro,sv a.to]:=h
 subst h
 have hsm:=Im hX a.to
 refine gF (n:=7) func146 Z Z (len Z) λhr w0 hw0=>?_
 refine cQ (aV Z Z λb1=>?_)
 refine sA Z<|sK [1,2] Z<|cQ<|sV (vF Z KD Z)<|sV (vY Z ld9) ?_
 refine bW hw0 Z Z en147 Z (hsm) ?_
 rintro u h' ⟨rfl,rfl⟩
 simp only [lC,lN]
 refine sV (bg Z)<|sA Z<|sK [2] Z<|cT ?_
 exact aj Z ⟨Z,Z⟩ sbq
theorem MI (hX:Spc X) {l:FS} (hl:Ls X v l) {uc:List Value} {c:FC} (hc:Enc.rep X uc c):Ctw prog 64 #[v,.agg uc.toArray] [X] λu h'=>u = .int .i64 (jL l c)/\h'=[X]:=by
 have hml:maxLen=9223372036854775807:=rfl
 have hdc:=Iq hX hc
 obtain ⟨ca,cb,ce,cf,ci,rfl,hca,hcb,-⟩:=gB hc
 have hone0:=Enc.ones hc
 obtain ⟨pA,pK,rfl,hplc,hpcm,_⟩:=id hcb.form
 obtain ⟨fA,fK,rfl,_⟩:=id hca.form
 obtain ⟨vAq,vK,rfl,_⟩:=id hl.form
 have htw:=Ho hca
 have h146:∀ {xs:List Pn},∀ a∈xs,∀ us,Enc.rep X us a->Ctw prog 146 (#[]++([.agg us.toArray]:List Value).toArray ++ #[]) [X] λu h'=>u = .bool (!small a.to)/\h'=[X]:=λa _ us h=>JS hX h
 unfold jL
 refine gF (n:=62) func64 Z Z (len Z) λhr w0 hw0=>?_
 refine cQ (aV Z Z λb3=>?_)
 refine sA Z<|sK [0,3,4] Z<|cS<|cB<|cQ<|sV (vF Z EB Z)<|sV (vY Z ld38) ?_
 refine sV (aC Z underlying38)<|sV (dh Z Z)<|sA Z<|sK [0,3,4,12] Z<|cC Z (λh3=>?_)<|λh3=>?_
 .rw [if_pos (show 3<c.forms.length by have h:(3:Int)<c.forms.length:=(by simpa using h3); omega)]
  refine cQ<|sA Z<|sK [4] Z<|cT<|xW<|xR ?_
  exact aj Z ⟨Z,Z⟩ sbq
 .rw [if_neg (show ¬ 3<c.forms.length by have h:(c.forms.length:Int)<=3:=(by simpa using h3); omega)]
  refine cQ<|sV (vF Z EB Z)<|sV (vY Z ld38) ?_
  refine bf Z Z en143 Z (htw) ?_
  refine sA Z<|sK [0,3,4,17] Z<|cC Z (λh6=>?_)<|λh6=>?_
  .rw [if_pos (show ¬ (c.forms.map λf=>f.name).Nodup by simpa using h6)]
   refine cQ<|sA Z<|sK [4] Z<|cT<|xW<|xR ?_
   exact aj Z ⟨Z,Z⟩ sbq
  .rw [if_neg (show ¬ ¬ (c.forms.map λf=>f.name).Nodup by simpa using h6)]
   refine cK<|xB<|xT<|cS<|cQ<|sV (vF Z eP Z)<|sV (vY Z lD) ?_
   refine sV (aC Z underlying39)<|sM Z<|sK [0,3,4,22,23,24] Z<|cB<|aY (σ := Nat) (λi=>[(0,.slice vAq l.length vK),(3,.pointer (some ⟨b3,0,none⟩)),(22,.slice pA c.pars.length pK),(23,.int .i64 c.pars.length),(24,.int .i64 (i:Nat))]) (λ_=>pt b3 (cl [sv c.name,.bool c.dfd,.slice fA c.forms.length fK,.slice pA c.pars.length pK,ce,cf,ci] 44)::X::hr) (λi=>i<=c.pars.length/\∀ j (hj:j<c.pars.length),j<i->c.pars[j].args.length=(ae l c.pars[j].name).forms.length) (λi=>c.pars.length - i) 0 ⟨Nat.zero_le _,λj _ hj=>absurd hj<|Nat.not_lt_zero _⟩ ?_
   rintro i ⟨hi,hal⟩
   refine cQ<|sV (aO Z Z)<|sN<|nT<|cS<|cC Z (λhd=>?_)<|λhd=>?_
   .have hlt:i<c.pars.length:=Zx
    obtain ⟨b,o,cap2,us,e1,hus,hrd,hre⟩:=hcb.at<|Zy hlt
    cases e1
    have hone:=Enc.ones hre
    have hmem:=List.getElem_mem hlt
    generalize hpg:c.pars[i]=p at hre hone hmem
    obtain ⟨qa,qb,qc,qd,qe,rfl,hqa,-⟩:=id hre
    obtain ⟨aA,aK,rfl,_⟩:=id hqa.form
    have hfi:=uD (n:=p.name) hl
    refine cK<|xT<|cS<|cB<|cQ<|sV (vI (k:=i) Z Z lY Z hlt Z)<|sV (af Z oP Z hrd) ?_
    refine au vO λb6=>?_
    refine ai Z Z qU Z hone ?_
    refine sK [0,3,6,22,23,24] Z<|cQ<|sM Z<|sV (vF Z gV Z)<|sV (vY Z ld9) ?_
    refine aH Z Z en117 Z (hfi) ?_
    rintro u h' ⟨rfl,gus,rfl,hgr⟩
    simp only [lC,lN]
    have hgr:Enc.rep X gus (ae l p.name):=hgr
    have hgo:=Enc.ones hgr
    obtain ⟨ga,gb,ge,gf,gi,rfl,hga,-⟩:=gB hgr
    obtain ⟨gA,gK,rfl,_⟩:=id hga.form
    refine sM Z<|sV (ah Z Z)<|sV (ah Z Z) (au oU λb7=>?_)
    refine ai Z Z mP Z hgo ?_
    refine sA Z<|sK [0,3,6,7,22,23,24] Z<|cQ<|sV (vF Z wT Z)<|sV (vY Z pX) ?_
    refine sV (aC Z underlying71)<|sV (vF Z EB Z)<|sV (vY Z ld38) ?_
    refine sV (aC Z underlying38)<|sV (bT Z Z)<|sK [0,3,22,23,24,41] Z<|cC Z (λhne=>?_)<|λhne=>?_
    .have hne:p.args.length≠(ae l p.name).forms.length:=by have h:(p.args.length:Int)≠(ae l p.name).forms.length:=Zv; omega
     rw [if_pos (List.any_eq_true.2 ⟨p,hmem,decide_eq_true hne⟩)]
     refine cQ<|sA Z<|sK [4] Z<|cT<|xW<|xR<|xR<|xW<|xR ?_
     exact aj Z ⟨Z,Z⟩ sbq
    .have hne:p.args.length=(ae l p.name).forms.length:=by have h:(p.args.length:Int)=(ae l p.name).forms.length:=Zv; omega
     refine cK<|xB<|xT<|cR<|sV (aI Z Z Z0)<|sM Z<|sN<|nK [0,3,22,23,24] Z<|ax<|aL (i+1) ⟨hlt,λj hj hji=>?_⟩ (by show c.pars.length - (i+1)<c.pars.length - i; omega)
     by_cases h:j=i
     .subst h; rw [hpg]; exact hne
     .exact hal j hj<|by omega
   .have hie:i=c.pars.length:=Nat.le_antisymm hi<|Nat.not_lt.1 Zx
    subst hie
    rw [if_neg (λh=>by
     obtain ⟨p,hp,h2⟩:=List.any_eq_true.1 h
     obtain ⟨j,hj,rfl⟩:=List.getElem_of_mem hp
     exact of_decide_eq_true h2 (hal j hj hj))]
    refine aB<|xE<|xE<|xY<|xT<|cS<|cQ<|sV (af Z gU Z ag) ?_
    refine bW hw0 Z Z en145 Z (hdc) ?_
    rintro u h' ⟨rfl,rfl⟩
    simp only [lC,lN]
    refine sA Z<|sK [3,9] Z<|cQ<|sM Z<|sV (bT Z Z)<|sK [3,9,46] Z<|cC Z (λhz=>?_)<|λhz=>?_
    .rw [if_pos (show vX c≠0 by simpa using hz)]
     refine cQ<|sM Z<|sA Z<|sK [4] Z<|cT<|xR ?_
     exact aj Z ⟨Z,Z⟩ sbq
    .rw [if_neg (show ¬ vX c≠0 by simpa using hz)]
     refine cK<|xT<|cS<|cQ<|sV (vF Z eP Z)<|sV (vY Z lD) ?_
     refine sV (aC Z underlying39)<|sM Z<|sK [49,50,51] Z<|cB<|aY (σ := Nat) (λi=>[(49,.slice pA c.pars.length pK),(50,.int .i64 c.pars.length),(51,.int .i64 (i:Nat))]) (λ_=>X::hr) (λi=>i<=c.pars.length/\∀ j (hj:j<c.pars.length),j<i->Ay c.pars[j]=0) (λi=>c.pars.length - i) 0 ⟨Nat.zero_le _,λj _ hj=>absurd hj<|Nat.not_lt_zero _⟩ ?_
     rintro i ⟨hi,hal⟩
     refine cQ<|sV (aO Z Z)<|sN<|nT<|cS<|cC Z (λhd=>?_)<|λhd=>?_
     .have hlt:i<c.pars.length:=Zx
      obtain ⟨b,o,cap2,us,e1,hus,hrd,hre⟩:=hcb.at<|Zy hlt
      cases e1
      have hone:=Enc.ones hre
      have hbad:Ay c.pars[i]≠0->kX (c.pars.map Ay)=Ay c.pars[i]:=λhne=>by
       rw [D9 (i:=i) (by rw [List.length_map]; exact hlt) (λj hj hji=>by rw [List.getElem_map]; exact hal j Zg hji) (by rw [List.getElem_map]; exact hne),List.getElem_map]
      generalize hpg:c.pars[i]=p at hre hone hbad
      obtain ⟨qa,qb,qc,qd,qe,rfl,hqa,hqb,-⟩:=id hre
      have h73:Ctw prog 73 #[qb,.func (.func 146) #[] #[]] [X] λu h'=>u = .bool (p.ren.any λx => !small x.to)/\h'=[X]:=MH (kf:=146) (cp := #[]) (g:=λx => !small x.to) hqb en146 h146
      have h148:=Hq hqb
      have hrn:Ay p=if (p.ren.any λx => !small x.to)=true then 4 else if (p.ren.map λx=>x.fro).Nodup then 0 else 6:=rfl
      refine cK<|xT<|cS<|cB<|cQ<|sV (vI (k:=i) Z Z lY Z hlt Z)<|sV (af Z oP Z hrd) ?_
      refine au vO λb11=>?_
      refine ai Z Z qU Z hone ?_
      refine sK [11,49,50,51] Z<|cS<|cQ<|sV (vF Z Ad Z)<|sV (vY Z ld86) ?_
      refine bW hw0 Z Z en73 Z (h73) ?_
      rintro u h' ⟨rfl,rfl⟩
      simp only [lC,lN]
      refine sK [11,49,50,51,57] Z<|cC Z (λh4=>?_)<|λh4=>?_
      .rw [if_pos (show _=true from h4)] at hrn
       rw [hbad (by rw [hrn]; decide),hrn]
       refine cQ<|sA Z<|sK [4] Z<|cT<|xR<|xW<|xR<|xR<|xW<|xR ?_
       exact aj Z ⟨Z,Z⟩ sbq
      .have h4:(p.ren.any λx => !small x.to)=false:=h4
       rw [h4,if_neg (by decide)] at hrn
       refine cK<|xT<|cQ<|sV (vF Z Ad Z)<|sV (vY Z ld86) ?_
       refine bf Z Z en148 Z (h148) ?_
       refine sK [49,50,51,60] Z<|cC Z (λh5=>?_)<|λh5=>?_
       .rw [if_neg (show ¬ (p.ren.map λx=>x.fro).Nodup by simpa using h5)] at hrn
        rw [hbad (by rw [hrn]; decide),hrn]
        refine cQ<|sA Z<|sK [4] Z<|cT<|xW<|xR<|xR<|xW<|xR ?_
        exact aj Z ⟨Z,Z⟩ sbq
       .rw [if_pos (show (p.ren.map λx=>x.fro).Nodup by simpa using h5)] at hrn
        refine cK<|xB<|xT<|cR<|sV (aI Z Z Z0)<|sM Z<|sN<|nK [49,50,51] Z<|ax<|aL (i+1) ⟨hlt,λj hj hji=>?_⟩ (by show c.pars.length - (i+1)<c.pars.length - i; omega)
        by_cases h:j=i
        .subst h; rw [hpg]; exact hrn
        .exact hal j hj<|by omega
     .have hie:i=c.pars.length:=Nat.le_antisymm hi<|Nat.not_lt.1 Zx
      subst hie
      rw [yD λj hj=>by rw [List.getElem_map]; exact hal j Zg Zg]
      refine aB<|xE<|xE<|xY<|xT<|cQ<|sA Z<|sK [4] Z<|cT ?_
      exact aj Z ⟨Z,Z⟩ sbq
end
theorem MJ {l:FS} (h0:(check (aZ l)).1=0) {i:Nat} (h:i<l.length) (hb:∀ j (hj:j<l.length),j<i->jL l l[j]=0) (hn:jL l l[i]≠0):cu l=(jL l l[i],l[i].name):=by
 unfold cu
 rw [if_neg (by rw [h0]; simp)]
 rw [show (l.map λc=>(jL l c,c.name)).find? (λe=>e.1 != 0)=some (jL l l[i],l[i].name) from List.find?_eq_some_iff_getElem.2 ⟨Zk,i,Zp,by simp,λj hj=>by
  rw [List.getElem_map,hb j (by omega) hj]; rfl⟩]
theorem Ir {l:FS} (h0:(check (aZ l)).1=0) (hb:∀ j (hj:j<l.length),jL l l[j]=0):cu l=(0,[]):=by
 unfold cu
 rw [if_neg (by rw [h0]; simp)]
 rw [show (l.map λc=>(jL l c,c.name)).find? (λe=>e.1 != 0)=none from List.find?_eq_none.2 λx hx=>by
  obtain ⟨c,hc,rfl⟩:=List.mem_map.1 hx
  obtain ⟨j,hj,rfl⟩:=List.getElem_of_mem hc
  rw [hb j hj]; simp]
section
variable {X:Res} {v:Value}
theorem xK (hX:Spc X) {l:FS} (hl:Ls X v l):Ctw prog 16 #[v] [X] λu h'=>u = .tuple #[.int .i64 (cu l).1,sv (cu l).2]/\h'=[X]:=by
 have hml:maxLen=9223372036854775807:=rfl
 obtain ⟨vAq,vK,rfl,_⟩:=id hl.form
 have hck:=Gt<|wY hl
 have hz0:(check<|aZ l).1≠0->cu l=check (aZ l):=λh=>by unfold cu; rw [if_pos h]
 generalize hkk:check (aZ l)=kk at hck hz0
 obtain ⟨k1,k2⟩:=kk
 dsimp only at hck hz0
 refine gF (n:=33) func16 Z Z (len Z) λhr w0 hw0=>?_
 refine cQ<|sA Z<|sA Z<|sN<|nT<|cS<|cQ<|sM Z<|aH Z Z en63 Z (hck) ?_
 rintro u h' ⟨rfl,rfl⟩
 simp only [lC,lN]
 refine sM Z<|sV (ah Z Z)<|sV (ah Z Z)<|sA Z<|sA Z<|sK [0,2,3,4,5] Z<|cQ<|sM Z<|sV (bT Z Z)<|sK [0,2,3,4,5,15] Z<|cC Z (λhz=>?_)<|λhz=>?_
 .rw [hz0 Zl]
  refine cQ<|sM Z<|sM Z<|sA Z<|sA Z<|sK [2,3] Z<|cT<|xR ?_
  exact aj Z ⟨Z,Z⟩ sbq
 .have hz:k1=0:=Zl
  have h0:(check<|aZ l).1=0:=by rw [hkk]; exact hz
  refine cK<|xT<|cS<|cQ<|sM Z<|sV (aC Z underlying22)<|sM Z<|sK [0,2,3,18,19,20] Z<|cB<|aY (σ := Nat) (λi=>[(0,.slice vAq l.length vK),(18,.slice vAq l.length vK),(19,.int .i64 l.length),(20,.int .i64 (i:Nat))]) (λ_=>X::hr) (λi=>i<=l.length/\∀ j (hj:j<l.length),j<i->jL l l[j]=0) (λi=>l.length - i) 0 ⟨Nat.zero_le _,λj _ hj=>absurd hj<|Nat.not_lt_zero _⟩ ?_
  rintro i ⟨hi,hal⟩
  refine cQ<|sV (aO Z Z)<|sN<|nT<|cS<|cC Z (λhd=>?_)<|λhd=>?_
  .have hlt:i<l.length:=Zx
   obtain ⟨b,o,cap2,us,e1,hus,hrd,hre⟩:=hl.at<|Zy hlt
   cases e1
   have hone:=Enc.ones hre
   have hbad:=MJ h0 hlt hal
   have hfm:=MI hX hl hre
   generalize hcg:l[i]=c at hre hone hbad hfm
   obtain ⟨ca,cb,ce,cf,ci,rfl,-⟩:=gB hre
   refine cK<|xT<|cS<|cB<|cQ<|sV (vI (k:=i) Z Z rE Z hlt Z)<|sV (af Z gU Z hrd) ?_
   refine au oU λb7=>?_
   refine ai Z Z mP Z hone ?_
   refine sK [0,7,18,19,20] Z<|cQ<|sM Z<|sV (af Z gU Z ag) ?_
   refine bW hw0 Z Z en64 Z (hfm) ?_
   rintro u h' ⟨rfl,rfl⟩
   simp only [lC,lN]
   refine sA Z<|sK [0,7,8,18,19,20] Z<|cQ<|sM Z<|sV (bT Z Z)<|sK [0,7,8,18,19,20,28] Z<|cC Z (λhne=>?_)<|λhne=>?_
   .rw [hbad Zv]
    refine cS<|bC (ork [(0,2),(1,2),(2,1),(3,2),(4,2)] .nil) (λ_=>true) mixed Zz ?_
    refine dV Z (vM Z)<|dV Z (vF Z dR Z)<|bu Z (vY Z ld9) ?_
    refine dV Z (vA Z)<|dV Z (vA Z)<|bB<|nK [2,3] Z<|nT<|cT<|xW<|xR<|xR<|xW<|xR ?_
    exact aj Z ⟨Z,Z⟩ sbq
   .have hne:jL l c=0:=Zv
    refine cK<|xB<|xT<|cR<|sV (aI Z Z Z0)<|sM Z<|sN<|nK [0,18,19,20] Z<|ax<|aL (i+1) ⟨hlt,λj hj hji=>?_⟩ (by show l.length - (i+1)<l.length - i; omega)
    by_cases h:j=i
    .subst h; rw [hcg]; exact hne
    .exact hal j hj<|by omega
  .have hie:i=l.length:=Nat.le_antisymm hi<|Nat.not_lt.1 Zx
   subst hie
   rw [Ir h0 λj hj=>hal j hj hj]
   refine aB<|xE<|xE<|xY<|xT<|cQ<|sA Z<|sA Z<|sK [2,3] Z<|cT ?_
   exact aj Z ⟨Z,Z⟩ sbq
end
end Go.Fl
namespace Go.Fl
open Go Go.Hr
def oriP (l:FS) (c n:Nm):List Og×Int:=if (bY l [] c n).2≠0 then ([],(bY l [] c n).2) else
 ((if (feat (ae l c) n).isSome then [⟨[],n⟩] else [])++(under (comes (look (build l).1) l<|ae l c) n).map (λx=>x.og),0)
section
variable {l:FS}
theorem ko {ns:List Nm} (h:wholeE l ns=0):Good l/\∀ n∈ns,(bQ l n).isSome=true:=by
 unfold wholeE at h
 split at h
 .rename_i h1; exact absurd h h1
 rename_i h1
 have h1:=Classical.not_not.1 h1
 split at h
 .rename_i h2
  exact ⟨AB.1 ((Az h1).2.trans h),by simpa using h2⟩
 .cases h
theorem Good.flb (h:Good l):FlB l (Fl.look (Fl.build l).1):=by
 rw [h.build]; exact O0 h.right λn hn=>h.ok n ((iy h.sys).1 hn)
theorem Good.ords (h:Good l):(Fl.build l).1.map (λp=>p.1)=order (aZ l):=by
 rw [h.build]; simp [forms,List.map_map,Function.comp_def]
theorem Good.err (h:Good l):(Fl.build l).2=(cf0,0):=by rw [h.build]
theorem Good.flats2 (h:Good l):fF l=((order (aZ l)).map λn=>Fl.look (Fl.build l).1 n,0):=by
 rw [h.flats]
 congr 1
 apply List.map_congr_left
 intro n hn
 exact (h.look ((iy h.sys).1 hn)).symm
theorem Good.ord_len (h:Good l):(order (aZ l)).length<=24:=by
 have h1:(order<|aZ l).length<=(nms<|aZ l).length:=aN (jU h.sys.acyc h.sys.uniq).1.nodup λx hx=>((jU h.sys.acyc h.sys.uniq).2 x).1 hx
 have h2:(nms<|aZ l).length=l.length:=by simp [nms,aZ]
 have h3:=h.sys.len
 rw [gN] at h3
 omega
end
end Go.Fl
namespace Go.Fl
open Go Go.RowKit Go.Ck Go.Proofs Go.Proofs.Tryz Go.Proofs.YtknmacdbffgjgaaGreatDoor Fx Go.Hr
attribute [local irreducible] Go.Ck.Sub St Cd Xt Nx DrL LsW
theorem jA {v fv ow:Value} {x:Cf} {e:Int} (h1:v.oneCell'=true) (h2:fv.oneCell'=true) (h3:ow.oneCell'=true):([v,fv,ow,.int .i64 x.kind,sv x.cls,sv x.name,sv x.other,sv x.a.par,sv x.a.name,sv x.b.par,sv x.b.name,.int .i64 e]:List Value).all Value.oneCell'=true:=by
 simp only [List.all_cons,List.all_nil,h1,h2,h3,Bool.and_true,Bool.true_and]; rfl
section
variable {X:Res} {v nv:Value}
theorem wC (hX : Spc X) {l : FS} (hl : Ls X v l) (hS : jQ l) {ns : List Nm} (hn : Ls X nv ns) : eZ prog 54 #[v, nv] X [] λu Y k' => ∃ v2 fv ow x e, u = .tuple #[.agg (uN v2 fv ow x e).toArray, .int .i64 (wholeE l ns)] /\ v2.oneCell' = true /\ fv.oneCell' = true /\ ow.oneCell' = true /\
  ((wholeE l ns≠0/\k'=[])\/(wholeE l ns=0/\∃ mb m names,v2=v/\fv = .map (some mb)/\x=cf0/\e=0/\k'=[mps mb m,VR ow 9 1 (names.map nC)]/\FlR Y m (look (build l).1)/\names=order (aZ l))):=by
 have hml:maxLen=9223372036854775807:=rfl
 obtain ⟨vAq,vK,rfl,_⟩:=id hl.form
 obtain ⟨nA,nKq,rfl,_⟩:=id hn.form
 have hck:=xK hX hl
 unfold eZ
 refine gF (n:=43) func54 Z Z (len Z) λhr w0 hw0=>?_
 refine cQ (au qJ λb4=>?_)
 refine sA Z<|sN<|nT<|cS<|cQ<|sM Z<|bW hw0 Z Z en16 Z (hck) ?_
 rintro u h' ⟨rfl,rfl⟩
 simp only [lC,lN]
 refine sM Z<|sV (ah Z Z)<|sV (ah Z Z)<|sA Z<|sA Z<|sK [0,1,4,5,6] Z<|cQ<|sM Z<|sV (bT Z Z)<|sK [0,1,4,5,6,19] Z<|cC Z (λhz=>?_)<|λhz=>?_
 .have hz:(cu l).1≠0:=Zl
  have hw:wholeE l ns=(cu l).1:=by unfold wholeE; rw [if_pos hz]
  refine cQ<|sV (aP (cells:=[.slice none 0 0,.map none,.slice none 0 0,.int .i64 0,sv [],sv [],sv [],sv [],sv [],sv [],sv [],.int .i64 0]) Z<|λ_=>Zz) ?_
  refine sM Z<|ai Z Z jF Z Z ?_
  refine sA Z<|sK [4,5] Z<|cT<|xR ?_
  rw [hw]
  exact bM (.cellN Z l8 Z slq<|.tmp Z .nil) ⟨X,[],Z,Ext.refl X,.slice none 0 0,.map none,.slice none 0 0,cf0,0,Z,Z,Z,Z,.inl ⟨hz,Z⟩⟩ sbr
 .have hz:(cu l).1=0:=Zl
  have hR:=jv.1 hz
  refine cK<|xT<|cS<|cQ<|sM Z<|sV (aC Z underlying40)<|sM Z<|sK [0,4,5,22,23,24] Z<|cB<|aY (σ := Nat) (λi=>[(0,.slice vAq l.length vK),(22,.slice nA ns.length nKq),(23,.int .i64 ns.length),(24,.int .i64 (i:Nat)),(4,.pointer (some ⟨b4,0,none⟩))]) (λ_=>pt b4 (cl [.slice none 0 0,.map none,.slice none 0 0,.int .i64 0,sv [],sv [],sv [],sv [],sv [],sv [],sv [],.int .i64 0] 116)::X::hr) (λi=>i<=ns.length/\∀ j (hj:j<ns.length),j<i->(bQ l ns[j]).isSome=true) (λi=>ns.length - i) 0 ⟨Nat.zero_le _,λj _ hj=>absurd hj<|Nat.not_lt_zero _⟩ ?_
  rintro i ⟨hi,hal⟩
  try dsimp only
  refine cQ<|sV (aO Z Z)<|sN<|nT<|cS<|cC Z (λhd=>?_)<|λhd=>?_
  .have hlt:i<ns.length:=Zx
   obtain ⟨b,o,cap2,us,e1,hus,hrd,hre⟩:=hn.at<|Zy hlt
   cases e1
   obtain rfl:us=[sv ns[i]]:=hre
   have hfi:=uD (n:=ns[i]) hl
   rw [show (l.find? λc=>c.name == ns[i])=bQ l ns[i] from rfl] at hfi
   have hnx:∀ hfs:(bQ l ns[i]).isSome=true,∀ j (hj:j<ns.length),j<i+1->(bQ l ns[j]).isSome=true:=λhfs j hj hji=>by
    by_cases h:j=i
    .subst h; exact hfs
    .exact hal j hj<|by omega
   have hbad:(bQ l ns[i]).isSome=false->wholeE l ns=5:=λhq=>by
    unfold wholeE
    rw [if_neg (by rw [hz]; simp),if_neg]
    intro h
    rw [List.all_eq_true.1 h _ (List.getElem_mem hlt)] at hq; cases hq
   generalize ns[i]=n at hrd hfi hnx hbad
   generalize hfs:(bQ l n).isSome=fs at hfi hnx hbad
   refine cK<|xT<|cS<|cB<|cQ<|sV (vI (k:=i) Z Z jG Z hlt Z)<|sV (vY Z ld9 (ha:=⟨X,_,slq,hrd 0<|by simp⟩)) ?_
   refine sA Z<|sK [0,4,9,22,23,24] Z<|cQ<|sM Z<|sM Z<|aH Z Z en117 Z (hfi) ?_
   rintro u h' ⟨rfl,us,rfl,hre2⟩
   simp only [lC,lN]
   have hone:=Enc.ones hre2
   obtain ⟨ca,cb,ce,cf,ci,rfl,-⟩:=gB hre2
   refine sM Z<|sV (ah Z Z)<|sV (ah Z Z) (au oU λb10=>?_)
   refine ai Z Z mP Z hone ?_
   refine sA Z<|sK [0,4,11,22,23,24] Z<|cQ<|sM Z<|sV (bg Z)<|sK [0,4,22,23,24,35] Z ?_
   cases fs with
   | false =>
    rw [hbad rfl]
    refine aQ Z ?_
    refine cQ<|sV (aP (cells:=[.slice none 0 0,.map none,.slice none 0 0,.int .i64 0,sv [],sv [],sv [],sv [],sv [],sv [],sv [],.int .i64 0]) Z<|λ_=>Zz) ?_
    refine ai Z Z jF Z Z ?_
    refine sA Z<|sK [4,5] Z<|cT<|xW<|xR<|xR<|xW<|xR ?_
    exact bM (.cellN Z l8 Z slq<|.tmp Z .nil) ⟨X,[],Z,Ext.refl X,.slice none 0 0,.map none,.slice none 0 0,cf0,0,Z,Z,Z,Z,.inl ⟨by decide,Z⟩⟩ sbr
   | true =>
    refine aG Z ?_
    refine cK<|xB<|xT<|cR<|sV (aI Z Z Z0)<|sM Z<|sN<|nK [0,4,22,23,24] Z<|ax ?_
    refine aL (i+1) ⟨hlt,hnx Z⟩ (by show ns.length - (i+1)<ns.length - i; omega)
  .have hie:i=ns.length:=Nat.le_antisymm hi<|Nat.not_lt.1 Zx
   subst hie
   refine aB<|xE<|xE<|xY<|xT<|cQ<|sM Z ?_
   have hbd:=Ip hl hR hS
   unfold eZ at hbd
   have hall:ns.all (λn=>(bQ l n).isSome)=true:=List.all_eq_true.2 λn hn=>by
    obtain ⟨j,hj,rfl⟩:=List.getElem_of_mem hn
    exact hal j hj hj
   have hw:wholeE l ns=(build l).2.2:=by unfold wholeE; rw [if_neg (by rw [hz]; simp),if_pos hall]
   refine bW hw0 Z Z en53 Z (hbd) ?_
   rintro u h' ⟨Y,k',rfl,hE,mb,m,ow,names,rfl,rfl,hm,hnm,how⟩
   simp only [lC,lN]
   unfold uN
   have h12:=jA (v:=.slice vAq l.length vK) (fv:=.map<|some mb) (ow:=ow) (x:=(build l).2.1) (e:=(build l).2.2) rfl rfl how
   refine au qJ λb12=>?_
   refine ai Z Z jF Z h12 ?_
   refine sK [4,12] Z<|cS<|jC (ork [(0,1),(1,2),(2,1),(3,0),(4,2)] .nil) (λ_=>true) [pt b12 (cl [.slice vAq l.length vK,.map (some mb),ow,.int .i64 (build l).2.1.kind,sv (build l).2.1.cls,sv (build l).2.1.name,sv (build l).2.1.other,sv (build l).2.1.a.par,sv (build l).2.1.a.name,sv (build l).2.1.b.par,sv (build l).2.1.b.name,.int .i64 (build l).2.2] 116)] mixed Zz ?_
   refine bu Z (af Z l8 Z ag) ?_
   refine dV Z (vF Z vJ Z)<|bu Z (vY Z Cc) ?_
   refine aT Z<|ai Z Z jF Z h12 ?_
   refine aW ?_
   refine dV Z (vA Z)<|bB<|nK [4,5] Z<|nT<|cT ?_
   rw [<- hw]
   by_cases hw0:wholeE l ns=0
   .have hg:=(ko hw0).1
    have hx:(build l).2.1=cf0:=by rw [hg.err]
    exact bM (.cellN Z l8 Z slq<|.tmp Z .nil) ⟨Y,[mps mb m,VR ow 9 1 (names.map nC)],Z,hE,.slice vAq l.length vK,.map (some mb),ow,(build l).2.1,wholeE l ns,Z,Z,Z,how,.inr ⟨hw0,mb,m,names,Z,Z,hx,hw0,Z,hm,hnm.trans hg.ords⟩⟩ sbr
   .exact bM (.cellN Z l8 Z slq<|.tmp Z .nil) ⟨Y,[],Z,hE,.slice vAq l.length vK,.map (some mb),ow,(build l).2.1,wholeE l ns,Z,Z,Z,how,.inl ⟨hw0,Z⟩⟩ sbr
end
end Go.Fl
namespace Go.Fl
open Go Go.RowKit Go.Ck Go.Proofs Go.Proofs.Tryz Go.Proofs.YtknmacdbffgjgaaGreatDoor Fx Go.Hr
theorem rep_fl0 {X:Res}:Enc.rep X [sv [],.bool false,.slice none 0 0,.slice none 0 0] fl0:=⟨.slice none 0 0,.slice none 0 0,rfl,Ls.nil,Ls.nil⟩
theorem rws_nm {Y:Res} (xs:List Nm):Rws Y (xs.map nC) xs:=⟨by simp,λj us x h1 h2=>by
 rw [List.getElem?_map,h2] at h1
 cases h1; rfl⟩
theorem nm_ls {Y:Res} {w:Value} {xs:List Nm} (hok:∃ f,(VR w 9 1 (xs.map nC)).ok f) (hr:∀ p u,Rd (VR w 9 1 (xs.map nC)) p u->Rd Y p u) (hb:xs.length<=1000000000):Ls Y w xs :=
 Rws.ls (E:=9) (rws_nm xs) hok hr (by show xs.length * 16<=140737488351232; omega)
theorem Good.few {l:FS} (h:Good l) (n:Nm):(Fl.look (Fl.build l).1 n).mems.length<=60:=h.flb.few n
theorem JU (ms:List Mb) (s:Sd):(aX ms s).length<=ms.length:=by
 unfold aX; rw [List.length_map]; exact List.length_filter_le _ _
attribute [local irreducible] Go.Ck.Sub St Cd Xt Nx DrL LsW
section
variable {X:Res} {v:Value} {l:FS}
theorem Pe (hX:Spc X) (hl:Ls X v l) (hS:jQ l):eZ prog 12 #[v] X [] λu Y k'=>k'=[]/\u = .tuple #[cfV (kY l).1,.bool (kY l).2.1,.int .i64 (kY l).2.2]:=by
 have hml:maxLen=9223372036854775807:=rfl
 obtain ⟨vAq,vK,rfl,_⟩:=id hl.form
 have hck:=xK hX hl
 unfold eZ
 refine gF (n:=28) func12 Z Z (len Z) λhr w0 hw0=>?_
 refine cQ (au EH λb2=>?_)
 refine sA Z<|sA Z<|sN<|nT<|cS<|cQ<|sM Z<|bW hw0 Z Z en16 Z (hck) ?_
 rintro u h' ⟨rfl,rfl⟩
 simp only [lC,lN]
 refine sM Z<|sV (ah Z Z)<|sV (ah Z Z)<|sA Z<|sA Z<|sK [0,2,3,4,5] Z<|cQ<|sM Z<|sV (bT Z Z)<|sK [0,2,3,4,5,14] Z<|cC Z (λhz=>?_)<|λhz=>?_
 .have hz:(cu l).1≠0:=Zl
  have hp:kY l=(cf0,false,(cu l).1):=(Dr hz).1
  rw [hp]
  refine cQ<|sV (aP (cells:=[.int .i64 0,sv [],sv [],sv [],sv [],sv [],sv [],sv []]) Z<|λ_=>Zz) ?_
  refine sM Z<|ai Z Z wP Z Z ?_
  refine sA Z<|sA Z<|sK [2,3,4] Z<|cT<|xR ?_
  exact bM (.cellN Z uh Z slq<|.tmp Z<|.tmp Z .nil) ⟨X,[],Z,Ext.refl X,Z,Z⟩ sbr
 .have hz:(cu l).1=0:=Zl
  have hR:=jv.1 hz
  have hbd:=Ip hl hR hS
  unfold eZ at hbd
  have hp:=(Az hz).1
  rw [hp]
  refine cK<|xT<|cQ<|sM Z<|bW hw0 Z Z en53 Z (hbd) ?_
  rintro u h' ⟨Y,k',rfl,hE,mb,m,ow,names,rfl,rfl,hm,hnm,how⟩
  simp only [lC,lN]
  unfold uN
  have h12:=jA (v:=.slice vAq l.length vK) (fv:=.map<|some mb) (ow:=ow) (x:=(build l).2.1) (e:=(build l).2.2) rfl rfl how
  generalize (build l).2.1=x at h12 ⊢
  generalize (build l).2.2=e at h12 ⊢
  refine au qJ λb7=>?_
  refine ai Z Z jF Z h12 ?_
  refine sK [2,3,4,7] Z<|cS<|cQ<|sV (vF Z vJ Z)<|sV (vY Z Cc) ?_
  refine sV (dX Z Z)<|sK [2,3,4,7,21] Z<|cC Z (λhe=>?_)<|λhe=>?_
  .have he:e=3:=Zj
   rw [if_pos he]
   refine cQ<|sV (aP (cells:=[.int .i64 0,sv [],sv [],sv [],sv [],sv [],sv [],sv []]) Z<|λ_=>Zz) ?_
   refine ai Z Z wP Z Z ?_
   refine sA Z<|sA Z<|sK [2,3,4] Z<|cT<|xR ?_
   exact bM (.cellN Z uh Z slq<|.tmp Z<|.tmp Z .nil) ⟨Y,[],Z,hE,Z,Z⟩ sbr
  .have he:e≠3:=Zj
   rw [if_neg he]
   refine cK<|xT<|cS<|jC (ork [(0,2),(1,1),(2,2),(3,1),(4,2),(5,0),(6,2),(7,2)] .nil) (λ_=>true) [pt b7 (cl [.slice vAq l.length vK,.map (some mb),ow,.int .i64 x.kind,sv x.cls,sv x.name,sv x.other,sv x.a.par,sv x.a.name,sv x.b.par,sv x.b.name,.int .i64 e] 116)] mixed Zz ?_
   refine dV Z (vF Z KA Z)<|bu Z (af Z uh Z<|bF (k:=3) ag (vs:=[.int .i64 x.kind,sv x.cls,sv x.name,sv x.other,sv x.a.par,sv x.a.name,sv x.b.par,sv x.b.name]) Z) ?_
   refine dV Z (vF Z vJ Z)<|bu Z (vY Z Cc) ?_
   refine dV Z (dX Z Z)<|aT Z<|ai Z Z wP Z Z ?_
   refine aW ?_
   refine dV Z (vA Z)<|dV Z (vA Z)<|bB<|nK [2,3,4] Z<|nT<|cT ?_
   exact bM (.cellN Z uh Z slq<|.tmp Z<|.tmp Z .nil) ⟨Y,[],Z,hE,Z,congrArg (λb=>Value.tuple #[cfV x,.bool b,.int .i64 0])<|by rfl⟩ sbr

theorem Ea (hX:Spc X) (hl:Ls X v l) (hS:jQ l) (n:Nm):eZ prog 45 #[v,sv n] X [] λu Y k'=>k'=[]/\∃ us:List Value,u = .tuple #[.agg us.toArray,.int .i64 (eY l n).2]/\Enc.rep Y us (eY l n).1:=by
 have hml:maxLen=9223372036854775807:=rfl
 obtain ⟨vAq,vK,rfl,_⟩:=id hl.form
 unfold eZ
 refine gF (n:=25) func45 Z Z (len Z) λhr w0 hw0=>?_
 refine cQ (au al55 λb4=>?_)
 refine sA Z<|sN<|nT<|cQ<|sM Z<|sM Z (ak (cells:=[sv n]) Z underlying40 gp Z Z Zz (ltn Z) λb11=>?_)
 refine oh [pt b11 (cl [sv n] 9)] X λY0 hE0 hsel=>?_
 have hwh:=wC (hX.up hE0) (hl.up hE0) hS<|jN (p:=n) (ux:=[sv n]) rfl (λi hi=>hsel _ _ .here _ _<|ag i hi)<|by decide
 unfold eZ at hwh
 refine bW hw0 Z Z en54 Z (hwh) ?_
 rintro u h' ⟨Y,k',rfl,hE,v2,fv,ow,x,e,rfl,hv2,hfv,how,hor⟩
 simp only [lC,lN]
 unfold uN
 have h12:=jA (x:=x) (e:=e) hv2 hfv how
 replace hE:=hE0.trans hE
 refine sM Z<|sV (ah Z Z)<|sV (ah Z Z) (au qJ λb6=>?_)
 refine ai Z Z jF Z h12 ?_
 refine sA Z<|sK [1,4,5,6,7] Z<|cS<|cQ<|sM Z<|sV (bT Z Z)<|sK [1,4,5,6,7,16] Z<|cC Z (λhq=>?_)<|λhq=>?_
 .have hq:wholeE l [n]≠0:=Zu
  obtain ⟨-,rfl⟩:=hor.resolve_right λh=>hq h.1
  have hp:eY l n=(fl0,wholeE l [n]):=by unfold eY; rw [if_pos hq]
  rw [hp]
  refine cQ<|sV (aP (cells:=[sv [],.bool false,.slice none 0 0,.slice none 0 0]) Z<|λ_=>Zz) ?_
  refine sM Z<|ai Z Z Ey Z Z ?_
  refine sA Z<|sK [4,5] Z<|cT<|xR ?_
  exact bM (.cellN Z ld55 Z slq<|.tmp Z .nil) ⟨Y,[],Z,hE,Z,[sv [],.bool false,.slice none 0 0,.slice none 0 0],Z,rep_fl0⟩ sbr
 .have hq:wholeE l [n]=0:=Zu
  obtain ⟨-,mb,m,names,rfl,rfl,rfl,rfl,rfl,hm,rfl⟩:=hor.resolve_left λh=>h.1 hq
  have hp:eY l n=(look (build l).1 n,0):=by unfold eY; rw [if_neg (λh=>h hq)]
  rw [hp]
  simp only [lC,lN]
  obtain ⟨fus,hfl,hfr⟩:=hm n
  have hcp:=DL hfr
  refine cK<|xT<|cQ<|sV (vF Z gX Z)<|sV (vF Z iW Z)<|sV (vY Z qI) ?_
  refine sM Z<|sV (gM hfl<|bP Z Z qG qH slq) ?_
  refine aH Z Z en55 Z (hcp) ?_
  rintro u h' ⟨T,rfl,us,rfl,hre⟩
  simp only [lC,lN]
  have hone:=Enc.ones hre
  have hre0:=hre
  obtain ⟨x1,x2,rfl,hx1,hx2⟩:=hre
  refine ai Z Z Ey Z hone ?_
  refine sA Z<|sK [4,5] Z<|cT (iP [T] Y λY2 hE2 hsel2=>?_)
  exact bM (.cellN Z ld55 Z slq<|.tmp Z .nil) ⟨Y2,[],Z,hE.trans hE2,Z,_,Z,Enc.up (hsel2 _ _ .here) hre0⟩ sbr

theorem Pf (hX:Spc X) (hl:Ls X v l) (hS:jQ l) (n:Nm) (s:Sd):eZ prog 35 #[v,sv n,.agg #[sv s.cls,sv s.name]] X [] λu Y k'=>k'=[]/\∃ w:Value,u = .tuple #[w,.int .i64 (j6 l n s).2]/\Ls Y w (j6 l n s).1:=by
 have hml:maxLen=9223372036854775807:=rfl
 obtain ⟨vAq,vK,rfl,_⟩:=id hl.form
 unfold eZ
 refine gF (n:=33) func35 Z Z (len Z) λhr w0 hw0=>?_
 refine cQ (aV Z Z λb5=>?_)
 refine sA Z<|sA Z<|sK [0,1,5,6,7] Z<|cQ<|sM Z<|sM Z (ak (cells:=[sv n]) Z underlying40 gp Z Z Zz (ltn Z) λb14=>?_)
 refine oh [pt b14 (cl [sv n] 9)] X λY0 hE0 hsel=>?_
 have hwh:=wC (hX.up hE0) (hl.up hE0) hS<|jN (p:=n) (ux:=[sv n]) rfl (λi hi=>hsel _ _ .here _ _<|ag i hi)<|by decide
 unfold eZ at hwh
 refine bW hw0 Z Z en54 Z (hwh) ?_
 rintro u h' ⟨Y,k',rfl,hE,v2,fv,ow,x,e,rfl,hv2,hfv,how,hor⟩
 simp only [lC,lN]
 unfold uN
 have h12:=jA (x:=x) (e:=e) hv2 hfv how
 replace hE:=hE0.trans hE
 refine sM Z<|sV (ah Z Z)<|sV (ah Z Z) (au qJ λb8=>?_)
 refine ai Z Z jF Z h12 ?_
 refine sA Z<|sK [1,5,6,7,8,9] Z<|cS<|cQ<|sM Z<|sV (bT Z Z)<|sK [1,5,6,7,8,9,19] Z<|cC Z (λhq=>?_)<|λhq=>?_
 .have hq:wholeE l [n]≠0:=Zu
  obtain ⟨-,rfl⟩:=hor.resolve_right λh=>hq h.1
  have hp:j6 l n s=([],wholeE l [n]):=by unfold j6; rw [if_pos hq]
  rw [hp]
  refine cQ<|sM Z<|sA Z<|sA Z<|sK [6,7] Z<|cT<|xR ?_
  exact aj Z ⟨Y,[],Z,hE,Z,_,Z,Ls.nil⟩ sbq
 .have hq:wholeE l [n]=0:=Zu
  obtain ⟨-,mb,m,names,rfl,rfl,rfl,rfl,rfl,hm,rfl⟩:=hor.resolve_left λh=>h.1 hq
  have hg:=(ko hq).1
  have hp:j6 l n s=if aX (look (build l).1 n).mems s=[] then ([],5) else (aX (look (build l).1 n).mems s,0):=by unfold j6; rw [if_neg (λh=>h hq)]
  rw [hp]
  simp only [lC,lN]
  obtain ⟨fus,hfl,hfr⟩:=hm n
  obtain ⟨x1,x2,rfl,hx1,hx2⟩:=hfr
  have hna:=mi (s:=s) hx1
  have hln:=JU (look (build l).1 n).mems s
  have hfw:=hg.few n
  generalize aX (look (build l).1 n).mems s=xs at hna hln ⊢
  refine cK<|xT<|cQ<|sV (vF Z gX Z)<|sV (vF Z iW Z)<|sV (vY Z qI) ?_
  refine sM Z<|sV (gM hfl<|bP Z Z qG qH slq) ?_
  refine sV (iU (k:=2) Z underlying55 Z isAgg52 Z)<|sV (af Z iN Z ag) ?_
  refine aH Z Z Gc Z (hna) ?_
  rintro u h' ⟨T,rfl,how2,rfl⟩
  simp only [lC,lN]
  unfold NR
  refine sA Z<|sK [6,7,10] Z<|cS<|cS (fO (v:=u) (E:=9) (sz:=1) (rows:=xs.map nC) slq λwa wc hwf hwl hwm=>?_)
  rw [List.length_map] at hwf hwl
  subst hwf
  refine cR<|sM Z<|sV (aC Z underlying40)<|sV (dX Z Z)<|sK [6,7,10,31] Z<|cC Z (λhz=>?_)<|λhz=>?_
  .have hz:xs=[]:=List.eq_nil_of_length_eq_zero Zl
   rw [if_pos hz]
   refine cQ<|sA Z<|sA Z<|sK [6,7] Z<|cT<|xR ?_
   exact aj Z ⟨Y,[],Z,hE,Z,_,Z,Ls.nil⟩ sbq
  .have hz:xs≠[]:=λh=>by rw [h] at hz; simp at hz
   rw [if_neg hz]
   refine cK<|xT<|cQ<|sM Z<|sA Z<|sA Z<|sK [6,7] Z<|cT (eF (r:=VR (.slice wa xs.length wc) 9 1<|xs.map nC) slq λhok=>?_)
   refine iP [VR (.slice wa xs.length wc) 9 1 (xs.map nC)] Y λY2 hE2 hsel2=>?_
   exact aj Z ⟨Y2,[],Z,hE.trans hE2,Z,_,Z,nm_ls hok (hsel2 _ _ .here) (by show xs.length<=_; omega)⟩ sbq
end
end Go.Fl
namespace Go.Fl
open Go Go.RowKit Go.Ck Go.Proofs Go.Proofs.Tryz Go.Proofs.YtknmacdbffgjgaaGreatDoor Fx Go.Hr
theorem Lf {X:Res}:Enc.rep X [sv [],.int .i64 0,.slice none 0 0,sv [],sv [],.slice none 0 0,.int .i64 0,sv [],.slice none 0 0,.bool false,.bool false,.slice none 0 0,.slice none 0 0,.slice none 0 0] mb0 :=
 qP (m:=mb0) ⟨Ls.nil,Ls.nil,⟨Row.nil,by simp [mb0,Kt.args]⟩,Ls.nil,Ls.nil,Ls.nil⟩
attribute [local irreducible] Go.Ck.Sub St Cd Xt Nx DrL LsW
section
variable {X:Res} {v:Value} {l:FS}
theorem Iu (hX:Spc X) (hl:Ls X v l) (hS:jQ l):eZ prog 13 #[v] X [] λu Y k'=>k'=[]/\∃ w:Value,u = .tuple #[w,.int .i64 (fF l).2]/\Ls Y w (fF l).1:=by
 have hml:maxLen=9223372036854775807:=rfl
 have hrb:reachBytes=140737488351232:=rfl
 obtain ⟨vAq,vK,rfl,_⟩:=id hl.form
 have hwh:=wC hX hl hS (nv:=.slice none 0 0) (ns:=[]) Ls.nil
 unfold eZ at hwh ⊢
 refine gF (n:=35) func13 Z Z (len Z) λhr w0 hw0=>?_
 refine cQ<|sA Z<|sA Z<|sN<|nT<|cQ<|sM Z<|bW hw0 Z Z en54 Z (hwh) ?_
 rintro u h' ⟨Y,k',rfl,hE,v2,fv,ow,x,e,rfl,hv2,hfv,how,hor⟩
 simp only [lC,lN]
 unfold uN
 have h12:=jA (x:=x) (e:=e) hv2 hfv how
 refine sM Z<|sV (ah Z Z)<|sV (ah Z Z) (au qJ λb4=>?_)
 refine ai Z Z jF Z h12 ?_
 refine sA Z<|sK [2,3,4,5] Z<|cS<|cQ<|sM Z<|sV (bT Z Z)<|sK [2,3,4,5,15] Z<|cC Z (λhq=>?_)<|λhq=>?_
 .have hq:wholeE l []≠0:=Zu
  obtain ⟨-,rfl⟩:=hor.resolve_right λh=>hq h.1
  have hp:fF l=([],wholeE l []):=by unfold fF; rw [if_pos hq]
  rw [hp]
  refine cQ<|sM Z<|sA Z<|sA Z<|sK [2,3] Z<|cT<|xR ?_
  exact aj Z ⟨Y,[],Z,hE,Z,_,Z,Ls.nil⟩ sbq
 .have hq:wholeE l []=0:=Zu
  obtain ⟨-,mb,m,names,rfl,rfl,rfl,rfl,rfl,hm,rfl⟩:=hor.resolve_left λh=>h.1 hq
  have hg:=(ko hq).1
  have hol:=hg.ord_len
  rw [hg.flats2]
  simp only [lC,lN]
  generalize order (aZ l)=names at hol ⊢
  clear hor hwh
  refine fO (v:=ow) (E:=9) (sz:=1) (rows:=names.map nC) slq λwa wc hwf hwl hwm=>?_
  rw [List.length_map] at hwf hwl
  subst hwf
  refine dY (dn 55 4)<|cK<|xT<|cQ<|sA Z<|sK [2,3,4,6] Z<|cS<|cQ<|sV (vF Z ED Z)<|sV (vY Z gq) ?_
  refine sV (aC Z underlying40)<|sM Z<|sK [2,3,4,6,18,19,20] Z<|cB<|aY (σ := Value×List (List Value)×Res×Nat) (λq=>[(4,.pointer (some ⟨b4,0,none⟩)),(6,q.1),(18,.slice wa names.length wc),(19,.int .i64 names.length),(20,.int .i64 (q.2.2.2:Nat))]) (λq=>VR q.1 55 4 q.2.1::q.2.2.1::mps mb m::VR (.slice wa names.length wc) 9 1 (names.map nC)::pt b4 (cl [.slice vAq l.length vK,.map (some mb),.slice wa names.length wc,.int .i64 cf0.kind,sv cf0.cls,sv cf0.name,sv cf0.other,sv cf0.a.par,sv cf0.a.name,sv cf0.b.par,sv cf0.b.name,.int .i64 0] 116)::hr) (λq=>q.1.oneCell'=true/\Ext Y q.2.2.1/\q.2.2.2<=names.length/\Rws q.2.2.1 q.2.1 ((names.take q.2.2.2).map λn=>look (build l).1 n)) (λq=>names.length - q.2.2.2) (.slice none 0 0,[],Y,0) ⟨Z,Ext.refl Y,Nat.zero_le _,Rws.nil⟩ ?_
  rintro ⟨w,rows,Zq,i⟩ ⟨hw,hEZ,hi,hro⟩
  simp only at hw hEZ hi hro
  dsimp only
  refine cQ<|sV (aO Z Z)<|sN<|nT<|cS<|cC Z (λhd=>?_)<|λhd=>?_
  .have hlt:i<names.length:=Zx
   have htk:=cz hlt
   have hrl:rows.length<=i:=by
    rw [hro.1,List.length_map,List.length_take]; exact Nat.min_le_left _ _
   have hnx:(names.map nC)[i]? = some [sv names[i]]:=by rw [List.getElem?_map,Zy hlt]; rfl
   refine fD (r:=VR (.slice wa names.length wc) 9 1<|names.map nC) slq λhok=>?_
   obtain ⟨ab,ao,rfl⟩:∃ ab ao,wa=some ⟨ab,ao,none⟩:=by
    obtain ⟨f0,hf0⟩:=hok
    rcases VR.form hf0 with ⟨h3,h4⟩ | ⟨b,o,cp,h3,-⟩
    .have:=List.map_eq_nil_iff.1 h4
     rw [this] at hlt; simp at hlt
    .rw [List.length_map] at h3; cases h3; exact ⟨b,o,rfl⟩
   generalize names[i]=n at hnx htk
   obtain ⟨fus,hfl,hfr⟩:=(hm.up hEZ) n
   have hcp:=DL hfr
   generalize hJ:look (build l).1 n=J at hcp
   refine cK<|xT<|cS<|cB<|cQ<|sV (vI (k:=i) Z Z jG Z hlt Z)<|sV (vY Z ld9 (ha:=⟨_,_,slq,dU hnx 0<|by simp⟩)) ?_
   refine sA Z<|sK [4,6,8,18,19,20] Z<|cR<|sM Z<|sV (vF Z gX Z)<|sV (vF Z iW Z)<|sV (vY Z qI) ?_
   refine sM Z<|sV (gM hfl<|bP Z Z qG qH slq) ?_
   refine aH Z Z en55 Z (hcp) ?_
   rintro u h' ⟨T,rfl,us,rfl,hre⟩
   simp only [lC,lN]
   refine oh [T] Zq λZ2 hE2 hsel2=>?_
   have hre:=Enc.up (hsel2 _ _ .here) hre
   have hone:=Enc.ones hre
   have hre0:=hre
   obtain ⟨x1,x2,rfl,hx1,hx2⟩:=hre
   refine ak (cells:=[sv J.name,.bool J.dfd,x1,x2]) Z underlying32 qH Z Z Zz (ltn Z) λb31=>?_
   refine eG [[sv J.name,.bool J.dfd,x1,x2]] Z Z underlying32 qH Z (by decide) (show Sel _ (VR w 55 4 rows) _ from slq) (by simp) Z (λj u2 hu2=>bV<|bZ Zt) (by simpa using hone) (by omega) (by omega) (ltn Z) λw2 hw2 _=>?_
   refine sA Z<|sN<|nK [4,6,18,19,20] Z<|ax<|xB<|xT<|cR<|sV (aI Z Z Z0)<|sM Z<|sN<|nK [4,6,18,19,20] Z<|ax ?_
   refine aL (w2,rows++[[sv J.name,.bool J.dfd,x1,x2]],Z2,i+1) ⟨hw2,hEZ.trans hE2,hlt,by rw [htk,List.map_append]; exact (hro.up hE2).snoc (show Enc.rep Z2 _ (look (build l).1 n) from by rw [hJ]; exact hre0)⟩ (by show names.length - (i+1)<names.length - i; omega)
  .have hie:i=names.length:=Nat.le_antisymm hi<|Nat.not_lt.1 Zx
   subst hie
   rw [List.take_length] at hro
   have hb:(names.map λn=>look (build l).1 n).length * Enc.by' Fl<=reachBytes:=by
    rw [List.length_map,hrb]; show names.length * 72<=_; omega
   refine aB<|xE<|xE<|xY<|xT<|cQ<|sM Z<|sA Z<|sA Z<|sK [2,3] Z<|cT (eF (r:=VR w 55 4 rows) slq λhok=>?_)
   refine iP [VR w 55 4 rows] Zq λY2 hE2 hsel2=>?_
   exact aj Z ⟨Y2,[],Z,(hE.trans hEZ).trans hE2,Z,_,Z,Rws.ls (E:=55) (hro.up hE2) hok (hsel2 _ _ .here) hb⟩ sbq

theorem Eb (hX : Spc X) (hl : Ls X v l) (hS : jQ l) {mv : Value} {ds : List Nm} (hds : ds.length <= 1000) (hmv : mv.oneCell' = true) (c n : Nm) : eZ prog 97 #[v, sv c, sv n, mv] X [VR mv 9 1 (ds.map nC)] λu Y k' => ∃ v2 fv ow x e, ∃ us : List Value, u = .tuple #[.agg (uN v2 fv ow x e).toArray, .agg us.toArray, .int .i64 (bY l ds c n).2] /\ v2.oneCell' = true /\ fv.oneCell' = true /\ ow.oneCell' = true /\ Enc.rep Y us (bY l ds c n).1 /\
  (((bY l ds c n).2≠0/\k'=[])\/((bY l ds c n).2=0/\wholeE l (ds++[c])=0/\∃ mb m names,v2=v/\fv = .map (some mb)/\x=cf0/\e=0/\k'=[mps mb m,VR ow 9 1 (names.map nC)]/\FlR Y m (look (build l).1)/\names=order (aZ l))):=by
 have hml:maxLen=9223372036854775807:=rfl
 obtain ⟨vAq,vK,rfl,_⟩:=id hl.form
 unfold eZ
 refine gF (n:=46) func97 Z Z (len Z) λhr w0 hw0=>?_
 refine cQ (au qJ λb8=>?_)
 refine au jR λb9=>?_
 refine sA Z<|sN<|nT<|cQ<|sM Z<|sM Z<|sM Z (ak (cells:=[sv c]) Z underlying40 gp Z Z Zz (ltn Z) λb19=>?_)
 have hdl:(ds.map nC).length<=1000:=by rw [List.length_map]; exact hds
 refine eG [[sv c]] Z Z underlying40 gp Z (by decide) (show Sel _ (VR mv 9 1<|ds.map nC) _ from slq) (by simp) Z (λj u2 hu2=>bV<|bZ Zt) (by simp [sv,Value.oneCell']) (by omega) (by omega) (ltn Z) λw2 hw2 _=>?_
 rw [show ds.map nC++[[sv c]]=(ds++[c]).map nC by rw [List.map_append]; rfl]
 refine ni (r:=VR w2 9 1<|(ds++[c]).map nC) slq λhok=>?_
 refine oh [VR w2 9 1 ((ds++[c]).map nC)] X λY0 hE0 hsel=>?_
 have hwh:=wC (hX.up hE0) (hl.up hE0) hS<|nm_ls hok (hsel _ _ .here) (by rw [List.length_append]; show ds.length+1<=_; omega)
 unfold eZ at hwh
 refine bW hw0 Z Z en54 Z (hwh) ?_
 rintro u h' ⟨Y,k',rfl,hE,v2,fv,ow,x,e,rfl,hv2,hfv,how,hor⟩
 simp only [lC,lN]
 unfold uN
 have h12:=jA (x:=x) (e:=e) hv2 hfv how
 replace hE:=hE0.trans hE
 refine sM Z<|sV (ah Z Z)<|sV (ah Z Z) (au qJ λb11=>?_)
 refine ai Z Z jF Z h12 ?_
 refine sA Z<|sK [1,2,8,9,10,11,12] Z<|cS<|cQ<|sM Z<|sV (bT Z Z)<|sK [1,2,8,9,10,11,12,25] Z<|cC Z (λhq=>?_)<|λhq=>?_
 .have hq:wholeE l (ds++[c])≠0:=Zu
  obtain ⟨-,rfl⟩:=hor.resolve_right λh=>hq h.1
  have hp:bY l ds c n=(mb0,wholeE l (ds++[c])):=by unfold bY; rw [if_pos hq]
  rw [hp]
  refine cQ<|sV (aP (cells:=[.slice none 0 0,.map none,.slice none 0 0,.int .i64 0,sv [],sv [],sv [],sv [],sv [],sv [],sv [],.int .i64 0]) Z<|λ_=>Zz) ?_
  refine sV (aP (cells:=[sv [],.int .i64 0,.slice none 0 0,sv [],sv [],.slice none 0 0,.int .i64 0,sv [],.slice none 0 0,.bool false,.bool false,.slice none 0 0,.slice none 0 0,.slice none 0 0]) Z<|λ_=>Zz) ?_
  refine sM Z<|ai Z Z jF Z Z ?_
  refine ai Z Z iH Z Z ?_
  refine sA Z<|sK [8,9,10] Z<|cT<|xR ?_
  exact bM (.cellN Z l8 Z slq<|.cellN Z fE Z slq<|.tmp Z .nil) ⟨Y,[],Z,hE,.slice none 0 0,.map none,.slice none 0 0,cf0,0,[sv [],.int .i64 0,.slice none 0 0,sv [],sv [],.slice none 0 0,.int .i64 0,sv [],.slice none 0 0,.bool false,.bool false,.slice none 0 0,.slice none 0 0,.slice none 0 0],Z,Z,Z,Z,Lf,.inl ⟨hq,Z⟩⟩ sbr
 .have hq:wholeE l (ds++[c])=0:=Zu
  obtain ⟨-,mb,m,names,rfl,rfl,rfl,rfl,rfl,hm,rfl⟩:=hor.resolve_left λh=>h.1 hq
  have hg:=(ko hq).1
  have hp:bY l ds c n=match dF (look (build l).1 c).mems n with
   | some m=>(m,0)
   | none=>(mb0,4):=by unfold bY; rw [if_neg (λh=>h hq)]; rfl
  rw [hp]
  simp only [lC,lN]
  obtain ⟨fus,hfl,hfr⟩:=hm c
  obtain ⟨z1,z2,rfl,hz1,hz2⟩:=hfr
  have hfi:=uE (n:=n) hz1
  rw [show ((look (build l).1 c).mems.find? λc=>c.name == n)=dF (look (build l).1 c).mems n from rfl] at hfi
  generalize dF (look (build l).1 c).mems n=F at hfi ⊢
  clear hor
  refine cK<|xT<|cQ<|sV (vF Z gX Z)<|sV (vF Z iW Z)<|sV (vY Z qI) ?_
  refine sM Z<|sV (gM hfl<|bP Z Z qG qH slq) ?_
  refine sV (iU (k:=2) Z underlying55 Z isAgg52 Z)<|sM Z<|aH Z Z en169 Z (hfi) ?_
  rintro u h' ⟨rfl,us,rfl,hre⟩
  simp only [lC,lN]
  have hone:=Enc.ones hre
  have hre0:=hre
  generalize hJ:F.getD mb0=J at hre hre0
  obtain ⟨x2,x5,y,x11,x12,x13,rfl,-⟩:=dN hre
  unfold iC at *
  refine sM Z<|sV (ah Z Z)<|sV (ah Z Z) (au jR λb13=>?_)
  refine ai Z Z iH Z hone ?_
  refine sA Z<|sK [8,9,10,11,13,14] Z<|cS<|cQ<|sM Z<|sV (bg Z)<|sK [8,9,10,11,13,41] Z ?_
  cases F with
  | none =>
   refine aQ Z ?_
   refine cQ<|sV (aP (cells:=[.slice none 0 0,.map none,.slice none 0 0,.int .i64 0,sv [],sv [],sv [],sv [],sv [],sv [],sv [],.int .i64 0]) Z<|λ_=>Zz) ?_
   refine sV (aP (cells:=[sv [],.int .i64 0,.slice none 0 0,sv [],sv [],.slice none 0 0,.int .i64 0,sv [],.slice none 0 0,.bool false,.bool false,.slice none 0 0,.slice none 0 0,.slice none 0 0]) Z<|λ_=>Zz) ?_
   refine ai Z Z jF Z Z ?_
   refine ai Z Z iH Z Z ?_
   refine sA Z<|sK [8,9,10] Z<|cT<|xR ?_
   exact bM (.cellN Z l8 Z slq<|.cellN Z fE Z slq<|.tmp Z .nil) ⟨Y,[],Z,hE,.slice none 0 0,.map none,.slice none 0 0,cf0,0,[sv [],.int .i64 0,.slice none 0 0,sv [],sv [],.slice none 0 0,.int .i64 0,sv [],.slice none 0 0,.bool false,.bool false,.slice none 0 0,.slice none 0 0,.slice none 0 0],Z,Z,Z,Z,Lf,.inl ⟨by show (4:Int)≠0; decide,Z⟩⟩ sbr
  | some g =>
   have hJ:g=J:=hJ
   subst hJ
   refine aG Z ?_
   refine cK<|xT<|cS<|jC (ork [(0,1),(1,1),(2,0),(3,0),(4,2)] .nil) (λi => !(Nat.beq i 3)) [pt b11 (cl [.slice vAq l.length vK,.map (some mb),ow,.int .i64 cf0.kind,sv cf0.cls,sv cf0.name,sv cf0.other,sv cf0.a.par,sv cf0.a.name,sv cf0.b.par,sv cf0.b.name,.int .i64 0] 116),pt b13 (cl [sv g.name,.int .i64 g.kind,x2,sv g.impl.cls,sv g.impl.name,x5,.int .i64 g.ty.kind,sv g.ty.name,y,.bool g.ty.void,.bool g.ty.sep,x11,x12,x13] 75)] mixed Zz ?_
   refine bu Z (af Z l8 Z ag) ?_
   refine bu Z (af Z fE Z ag) ?_
   refine aT Z<|ai Z Z jF Z h12 ?_
   refine aW ?_
   refine aT Z<|ai Z Z iH Z hone<|aW ?_
   refine dV Z (vA Z)<|bB<|nK [8,9,10] Z<|nT<|cT ?_
   exact bM (.cellN Z l8 Z slq<|.cellN Z fE Z slq<|.tmp Z .nil) ⟨Y,[mps mb m,VR ow 9 1 (List.map nC<|order<|aZ l)],Z,hE,.slice vAq l.length vK,.map (some mb),ow,cf0,0,_,Z,Z,Z,how,hre0,.inr ⟨Z,hq,mb,m,_,Z,Z,Z,Z,Z,hm,Z⟩⟩ sbr

end
end Go.Fl
