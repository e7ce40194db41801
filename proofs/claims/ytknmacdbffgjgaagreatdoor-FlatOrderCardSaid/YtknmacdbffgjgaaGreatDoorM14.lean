/-
  Go's library: strings.Join at names,by the kit's contract laid at this program. Conditions: the result's length.
-/
import Derived.Test.YtknmacdbffgjgaaGreatDoorM13
import Derived.Test.YtknmacdbffgjgaaGreatDoorM6
import Derived.Test.YtknmacdbffgjgaaGreatDoorM8
import Derived.Shelf.Strings.OnBuilder
set_option linter.unusedVariables false
set_option linter.unusedSimpArgs false
set_option maxRecDepth 100000
set_option maxHeartbeats 16000000
namespace Go.Fl
open Go Go.RowKit Go.Ck Go.Proofs Go.Proofs.Tryz Go.Proofs.YtknmacdbffgjgaaGreatDoor Fx Go.Hr
theorem KN {Y Y2:Res} {E:List BE} {cs:List Cm} (hb:BOk Y E cs) (he:Ext Y Y2) (hok:∃ f,(BN E).ok f) (hr:∀ p u,Rd (BN E) p u->Rd Y2 p u) (hs:cs.length * 280≤1099511627776):∀ e∈E,Ls Y2 e.2.1 (under cs e.1):=λe hm=>by
 obtain ⟨s,t,rfl⟩:=List.append_of_mem hm
 have hrw:=(hb.2 e hm).2.up he
 have hul:(under cs e.1).length≤cs.length:=List.length_filter_le _ _
 have hrb:reachBytes=140737488351232:=rfl
 have hsel:∀ (s t:List BE),Sel ((s++e::t).map λe=>VR e.2.1 191 18 e.2.2) (VR e.2.1 191 18 e.2.2) ((s++t).map λe=>VR e.2.1 191 18 e.2.2):=λs t=>by
  induction s with
  | nil=>exact .here
  | cons a s ih=>exact .there ih
 have h9:(under cs e.1).length * 280≤140737488351232:=by omega
 rw [<- hrb] at h9
 have hrd2:∀ p u,Rd (VR e.2.1 191 18 e.2.2) p u->Rd Y2 p u:=λp u h=>hr p u (by unfold BN; exact rV (hsel s t) h)
 refine Rws.ls (E:=191) hrw ?_ hrd2 h9
 obtain ⟨f,hf⟩:=hok
 have h1:bu f ((s++e::t).map λe=>VR e.2.1 191 18 e.2.2):=hf
 exact ⟨f,((bu.perm (hsel s t).perm).1 h1).1⟩
theorem AL (cs:List Cm):(keys cs).length≤cs.length:=by
 have:∀ ys:List Cm,(keys ys.reverse).length≤ys.reverse.length:=λys=>by
  induction ys with
  | nil=>simp [keys,dd]
  | cons y t ih =>
   rw [List.reverse_cons,xg]
   split <;> simp at ih ⊢ <;> omega
 simpa using this cs.reverse
theorem AO {β : Type} (f:Cm->List β) (cs:List Cm) (n:Nm):((under cs n).flatMap f).length≤(cs.flatMap f).length:=by
 unfold under
 induction cs with
 | nil=>simp
 | cons x t ih =>
  rw [List.filter_cons]
  split <;> simp only [List.flatMap_cons,List.length_append] <;> omega
theorem Jk {xs ys:List Mb} (hp:xs.Perm ys) (hn:(ys.map λm=>m.name).Nodup):ry xs=ry ys:=by
 have hn':(xs.map λm=>m.name).Nodup:=(hp.map _).nodup_iff.2 hn
 exact xO (iZ hn').1 (iZ hn).1 λm=>by rw [(iZ hn').2,(iZ hn).2,hp.mem_iff]
theorem y7 {Y:Res} {E:List BE} {cs:List Cm} (hk:E.map (λe=>e.1)=keys cs) (h:∀ e∈E,Ls Y e.2.1 (under cs e.1)) (n:Nm):Ls Y ((bK (kv E) n).getD (.slice none 0 0)) (under cs n):=by
 obtain ⟨v,rows,BO,F,h1,-,-,-,h5⟩:=GY E n (by rw [hk]; exact iq _)
 rw [h1]
 rcases h5 with ⟨h6,-,-⟩ | ⟨E1,E2,rfl,-⟩
 ·have h7:bK (kv E) n=none:=zC.2 (by rw [jQ]; exact h6)
  rw [h7] at h1
  rw [AJ (by rw [<- hk]; exact h6),<- h1]
  exact Ls.nil
 ·exact h (n,v,rows)<|by simp
def Mid1 (Y:Res) (rows:List (List Value)) (cs:List Cm) (c:FC) (left:List (Nm×Value)):Prop:=∃ ds:List Nm,Rws Y rows ((ds.filter λn=>(feat c n).isNone).map λn=>joined<|under cs n)/\(ds++left.map (λp=>p.1)).Perm (keys cs)
theorem Mid1.len {Y:Res} {rows:List (List Value)} {cs:List Cm} {c:FC} {left:List (Nm×Value)} (h:Mid1 Y rows cs c left):rows.length≤cs.length:=by
 obtain ⟨ds,h1,h2⟩:=h
 have h3:=h2.length_eq
 have h4:=AL cs
 have h5:=List.length_filter_le (λn=>(feat c n).isNone) ds
 rw [h1.1,List.length_map]
 rw [List.length_append] at h3
 omega
attribute [local irreducible] Go.Ck.Sub St Cd Xt Nx DrL LsW
section
variable {X Y:Res} {v v':Value} {us us':List Value}

theorem AP {mb : Nat} {m : List (Nm × Value)} {fl : Nm -> Fl} {l : FS} {c : FC} {uc : List Value} (hl : Ls X v l) (hc : Enc.rep X uc c) (hm : FlR X m fl) (hf : ∀ p ∈ c.pars, (ae l p.name).forms.length = p.args.length /\ p.und.length ≤ 1099511627776) (hb : (comes fl l c).length * 280 ≤ 1099511627776) (hn : (c.feats.map λf => f.name).Nodup)
  (hbS:(nu<|comes fl l c).length * 32≤1099511627776) (hbP:((comes fl l c).flatMap λx=>x.mem.pre).length * 40≤1099511627776) (hbQ:((comes fl l c).flatMap λx=>x.mem.post).length * 40≤1099511627776) (hbF:c.feats.length * 256≤1099511627776) :
  CtX prog 57 #[.agg #[v,.map (some mb)],.agg uc.toArray] X [mps mb m] λu Y k'=>k'=[mps mb m]/\Ls Y u (members (comes fl l c) c):=by
 have hml:maxLen=9223372036854775807:=rfl
 have hrb:reachBytes=140737488351232:=rfl
 have hby:=xh (mb:=mb) hl hc hm hf hb
 have hc0:=hc
 obtain ⟨ca,cb,ce,cf,ci,rfl,hca,hcb,hce,hcf,hci⟩:=gB hc
 obtain ⟨cf,cfk,rfl,hcfl,_⟩:=id hcf.form
 have hkl:=AL<|comes fl l c
 have hraw:=CS (comes fl l c) hn
 have hmem:members (comes fl l c) c=ry (ug (comes fl l c) c):=rfl
 rw [hmem]
 have hSu:=λn=>AO (λx=>x.mem.seeds) (comes fl l c) n
 have hPu:=λn=>AO (λx=>x.mem.pre) (comes fl l c) n
 have hQu:=λn=>AO (λx=>x.mem.post) (comes fl l c) n
 unfold nu at hbS
 generalize comes fl l c=cs at hb hbS hbP hbQ hkl hraw hSu hPu hQu hby ⊢
 unfold CtX at hby ⊢
 refine aL (n:=58) func57 Z Z (len Z) λhr w0=>?_
 refine cQ (aV Z Z λb2=>?_)
 refine aV Z Z λb3=>?_
 refine sA Z<|sK [2,3,4] Z<|cQ<|sV (af Z ig Z ah) ?_
 refine sV (af Z gp Z ah) ?_
 refine aH Z Z Ki Z (hby) ?_
 rintro u h' ⟨Y,k',rfl,hE,bm,E,rfl,rfl,hbk⟩
 simp only [lC,lN]
 refine sA Z<|sK [3,4,5] Z<|cQ<|sA Z<|sN<|nT<|cS<|cS (fw (r:=BN E) slq λhokE=>?_)
 refine IP [BN E] Y λY2 hE2 hsel=>?_
 have hls:=KN hbk hE2 hokE (hsel _ _ .here) hb
 have hlk:=y7 hbk.1 hls
 have hk0:=hbk.1
 refine dJ (cO 75 14)<|cR<|sM Z (AC Z sQ slq (ltn Z) λib hndE=>?_)
 refine sK [3,4,5,6,17] Z<|cB<|aZ (σ := Value×List (List Value)×Res×List (Nm×Value)×Option (Nm×Value)) (λq=>[(3,.pointer (some ⟨b3,0,none⟩)),(5,.map (some bm)),(6,q.1),(17,.pointer (some ⟨ib,0,none⟩))]) (λq=>xe bm ib (kv E) q.2.2.2.1 q.2.2.2.2::VR q.1 75 14 q.2.1::pt b3 (cl [sv c.name,.bool c.dfd,ca,cb,ce,.slice cf c.feats.length cfk,ci] 44)::q.2.2.1::mps mb m::hr) (λq=>q.1.oneCell'=true/\Ext Y2 q.2.2.1/\Mid1 q.2.2.1 q.2.1 cs c q.2.2.2.1/\∀ p∈q.2.2.2.1,p∈kv E) (λq=>q.2.2.2.1.length) (.slice none 0 0,[],Y2,kv E,none) ⟨Z,Ext.refl Y2,⟨[],Rws.nil,by rw [List.nil_append,jQ,hk0]⟩,λp hp=>hp⟩ ?_
 rintro ⟨w,rows,Zq,left,last⟩ ⟨hw,hE3,hmid,hsub⟩
 simp only at hw hE3 hmid hsub
 dsimp only
 refine cQ<|Dj Z slq (ltn Z) (λhl0=>?_)<|λk v1 left' hp=>?_
 ·subst hl0
  obtain ⟨ds,hr0,hds⟩:=hmid
  rw [List.map_nil,List.append_nil] at hds
  have hfin:(((ds.filter λn=>(feat c n).isNone).map λn=>joined<|under cs n)++c.feats.map λf=>jN c f<|under cs f.name).Perm (ug cs c):=((hds.filter _).map _).append_right _
  generalize ((ds.filter λn=>(feat c n).isNone).map λn=>joined<|under cs n)=ms0 at hr0 hfin
  have hnfin:=(hfin.map λm=>m.name).nodup_iff.2 hraw
  have hlen0:ms0.length+c.feats.length≤cs.length+c.feats.length:=by
   have:=hfin.length_eq
   simp only [List.length_append,List.length_map] at this
   have h8:(ug cs c).length≤cs.length+c.feats.length:=by
    unfold ug
    rw [List.length_append,List.length_map,List.length_map]
    have:=List.length_filter_le (λn=>(feat c n).isNone)<|keys cs
    omega
   omega
  have hlenF:=hfin.length_eq
  rw [List.length_append,List.length_map] at hlenF
  refine sV (ag Z Z)<|sK [3,5,6,17,19] Z<|cS<|aG Z ?_
  refine aB<|xE<|xE<|xY<|xT<|cS<|cS<|GX slq ?_
  refine cR<|sV (vF Z kG Z)<|sV (vY Z yu) ?_
  refine sV (aF Z underlying41)<|sM Z<|sK [3,5,6,38,39,40] Z<|cB<|aZ (σ := Value×List (List Value)×Res×Nat) (λq=>[(3,.pointer (some ⟨b3,0,none⟩)),(5,.map (some bm)),(6,q.1),(38,.slice cf c.feats.length cfk),(39,.int .i64 c.feats.length),(40,.int .i64 (q.2.2.2:Nat))]) (λq=>mps bm (kv E)::VR q.1 75 14 q.2.1::pt b3 (cl [sv c.name,.bool c.dfd,ca,cb,ce,.slice cf c.feats.length cfk,ci] 44)::q.2.2.1::mps mb m::hr) (λq=>q.1.oneCell'=true/\Ext Y2 q.2.2.1/\Rws q.2.2.1 q.2.1 (ms0++(c.feats.take q.2.2.2).map λf=>jN c f<|under cs f.name)/\q.2.2.2≤c.feats.length) (λq=>c.feats.length - q.2.2.2) (w,rows,Zq,0) ⟨hw,hE3,by simpa using hr0,Nat.zero_le _⟩ ?_
  rintro ⟨w,rows,Zq,i⟩ ⟨hw,hE3,hro,hi⟩
  simp only at hw hE3 hro hi
  dsimp only
  refine cQ<|sV (aN Z Z)<|sN<|nT<|cS<|cC Z (λhd=>?_)<|λhd=>?_
  ·have hlt:i<c.feats.length:=Zx
   have hrl:rows.length=ms0.length+i:=by rw [hro.1]; simp; omega
   have htk:=bV hlt
   obtain ⟨fb,fo,fcap,fus,e1,hfus,hfrd,hfr⟩:=((hcf.up<|hE.trans hE2).up hE3).at<|Zy hlt
   obtain ⟨rfl,rfl⟩:cf=some ⟨fb,fo,none⟩/\cfk=fcap:=by cases e1; exact ⟨rfl,rfl⟩
   generalize c.feats[i]=f at hfr htk
   have hfr0:=hfr
   obtain ⟨x2,x3,fy,x9,x10,x11,x12,x13,x14,rfl,-⟩:=nz hfr
   have hfo:=Enc.ones hfr0
   have how:=own_ct (Enc.up ((hE.trans hE2).trans hE3).rd hc0) hfr0 ((hlk f.name).up hE3) (by have:=hSu f.name; unfold nu; omega) (by have:=hPu f.name; omega) (by have:=hQu f.name; omega)
   unfold CtX at how
   generalize hJ:jN c f (under cs f.name)=J at how
   unfold Az at *
   refine cK<|xT<|cS<|cB<|cQ<|sV (vI (k:=i) Z Z sl41 Z hlt Z)<|sV (af Z om Z hfrd) ?_
   refine ax lL λb12=>?_
   refine ai Z Z jW Z hfo ?_
   refine sK [3,5,6,12,38,39,40] Z<|cR<|sM Z<|sV (af Z gp Z ah) ?_
   refine sV (af Z om Z ah) ?_
   refine sM Z<|sV (vF Z o8 Z)<|sV (vY Z ld9) ?_
   refine sV (bI Z Z sQ tL slq) ?_
   refine aH Z Z en123 Z (how) ?_
   rintro u h' ⟨Z2,k2,rfl,hE4,rfl,us,rfl,hrep⟩
   simp only [lC,lN]
   have hone:=Enc.ones hrep
   obtain ⟨j2,j5,jy,j11,j12,j13,rfl,-⟩:=dI hrep
   unfold iB at *
   refine ak (cells:=[sv J.name,.int .i64 J.kind,j2,sv J.impl.cls,sv J.impl.name,j5,.int .i64 J.ty.kind,sv J.ty.name,jy,.bool J.ty.void,.bool J.ty.sep,j11,j12,j13]) Z underlying52 ve Z Z Zz (ltn Z) λb52=>?_
   refine dF [[sv J.name,.int .i64 J.kind,j2,sv J.impl.cls,sv J.impl.name,j5,.int .i64 J.ty.kind,sv J.ty.name,jy,.bool J.ty.void,.bool J.ty.sep,j11,j12,j13]] Z Z underlying52 ve Z (by decide) (show Sel _ (VR w 75 14 rows) _ from slq) (by simp) Z (λj u2 hu2=>bQ<|bU Zt) Z0 (by omega) (by omega) (ltn Z) λw2 hw2 _=>?_
   refine sA Z<|sN<|nK [3,5,6,38,39,40] Z<|au<|xB<|xT<|cR<|sV (aI Z Z Z6)<|sM Z<|sN<|nK [3,5,6,38,39,40] Z<|au ?_
   refine aM (w2,rows++[[sv J.name,.int .i64 J.kind,j2,sv J.impl.cls,sv J.impl.name,j5,.int .i64 J.ty.kind,sv J.ty.name,jy,.bool J.ty.void,.bool J.ty.sep,j11,j12,j13]],Z2,i+1) ⟨hw2,hE3.trans hE4,by rw [htk,List.map_append,<- List.append_assoc]; exact (hro.up hE4).snoc (show Enc.rep Z2 _ (jN c f<|under cs f.name) from by rw [hJ]; exact hrep),hlt⟩ (by dsimp only; omega)
  ·have hie:i=c.feats.length:=by
    have:¬ i<c.feats.length:=Zx
    omega
   subst hie
   rw [List.take_length] at hro
   have hsl:(ms0++c.feats.map λf=>jN c f<|under cs f.name).length≤1099511627776:=by rw [List.length_append,List.length_map]; omega
   refine aB<|xE<|xE<|xY<|xT<|cQ<|sM Z<|aH Z Z en124 Z (Jj hro hnfin hsl) ?_
   rintro u h' ⟨rfl,rows',hr',hrl',rfl⟩
   simp only [lC,lN]
   rw [Jk hfin hraw] at hr'
   have hml2:(ry<|ug cs c).length * 232≤reachBytes:=by
    have h1:(ry<|ug cs c).length=rows'.length:=hr'.1.symm
    have h2:=hro.1
    rw [List.length_append,List.length_map] at h2
    omega
   refine sK [6] Z<|cQ<|sM Z<|sA Z<|sK [4] Z<|cT (dR (r:=VR w 75 14 rows') slq λhok=>?_)
   refine iy [VR w 75 14 rows'] Zq λY3 hE5 hsel3=>?_
   exact aj Z ⟨Y3,[mps mb m],Z,((hE.trans hE2).trans hE3).trans hE5,Z,Rws.ls (E:=75) (hr'.up hE5) hok (hsel3 _ _ .here) hml2⟩ sbq
 ·refine sV (ag Z Z)<|sK [3,5,6,17,19] Z<|cS<|aT Z ?_
  refine cK<|xT<|cB<|cQ<|sV (Dk Z slq) ?_
  have hkv:(k,v1)∈kv E:=hsub _<|hp.mem_iff.2<|by simp
  have hsub':∀ p∈left',p∈kv E:=λp hp'=>hsub p<|hp.mem_iff.2<|by simp [hp']
  have hv1:Ls Zq v1 (under cs k):=by
   obtain ⟨e,he,hev⟩:=List.mem_map.1 hkv
   cases hev
   exact (hls e he).up hE3
  have hkk:k∈keys cs:=by rw [<- hk0,<- jQ]; exact List.mem_map.2 ⟨_,hkv,rfl⟩
  have hne:under cs k≠[]:=by
   obtain ⟨x,hx,hxn⟩:=kr.1 hkk
   exact List.ne_nil_of_mem<|List.mem_filter.2 ⟨hx,by simpa using hxn⟩
  have hrl:=hmid.len
  have hstep:∀ (Z2:Res) (us:List Value),Ext Zq Z2->Enc.rep Z2 us (joined<|under cs k)->feat c k=none->Mid1 Z2 (rows++[us]) cs c left':=λZ2 us he hr hfn=>by
   obtain ⟨ds,g1,g2⟩:=hmid
   have e1:[k].filter (λn=>(feat c n).isNone)=[k]:=by simp [hfn]
   refine ⟨ds++[k],by rw [List.filter_append,List.map_append,e1]; exact (g1.up he).snoc hr,?_⟩
   rw [List.append_assoc]
   exact ((hp.map λp=>p.1).append_left ds).symm.trans g2
  have hskip:(feat c k).isSome=true->Mid1 Zq rows cs c left':=λhfn=>by
   obtain ⟨ds,g1,g2⟩:=hmid
   refine ⟨ds++[k],?_,?_⟩
   ·have:(feat c k).isNone=false:=by cases hq:feat c k <;> simp [hq] at hfn ⊢
    have e1:[k].filter (λn=>(feat c n).isNone)=[]:=by simp [this]
    rw [List.filter_append,List.map_append,e1]
    simpa using g1
   ·rw [List.append_assoc]
    exact ((hp.map λp=>p.1).append_left ds).symm.trans g2
  refine sV (ag Z Z)<|sV (ag Z Z)<|sA Z<|sA Z<|sK [3,5,6,7,8,17] Z<|cQ<|sV (vF Z kG Z)<|sV (vY Z yu) ?_
  refine sM Z<|aH Z Z xL Z (ja (n:=k)<|(hcf.up<|hE.trans hE2).up hE3) ?_
  rintro u h' ⟨rfl,fus,rfl,hfr⟩
  simp only [lC,lN]
  have hf15:fus.length=15:=Enc.len hfr
  have hfo:=Enc.ones hfr
  have hfeat:(c.feats.find? λf=>f.name == k)=feat c k:=rfl
  rw [hfeat]
  refine sM Z<|sV (ag Z Z)<|sV (ag Z Z) (ax lL λb9=>?_)
  refine ai (hl:=by rw [hf15]; rfl) Z Z jW hf15 hfo ?_
  refine sA Z<|sK [3,5,6,8,10,17] Z<|cQ<|sM Z<|sV (bi Z)<|sK [3,5,6,8,17,31] Z<|cC Z (λhnf=>?_)<|λhnf=>?_
  ·have hfn:feat c k=none:=by cases hq:feat c k <;> simp [hq] at hnf ⊢
   have hj:=Dh hv1 hne (by have:=hSu k; unfold nu; omega) (by have:=hPu k; omega) (by have:=hQu k; omega)
   unfold CtX at hj
   generalize hJ:joined (under cs k)=J at hj
   refine cR<|sM Z<|sM Z<|aH Z Z en122 Z (hj) ?_
   rintro u h' ⟨Z2,k2,rfl,hE4,rfl,us,rfl,hrep⟩
   simp only [lC,lN]
   have hst:=hstep Z2 us hE4 (by rw [hJ]; exact hrep) hfn
   have hone:=Enc.ones hrep
   obtain ⟨j2,j5,jy,j11,j12,j13,rfl,-⟩:=dI hrep
   unfold iB at *
   refine ak (cells:=[sv J.name,.int .i64 J.kind,j2,sv J.impl.cls,sv J.impl.name,j5,.int .i64 J.ty.kind,sv J.ty.name,jy,.bool J.ty.void,.bool J.ty.sep,j11,j12,j13]) Z underlying52 ve Z Z Zz (ltn Z) λb35=>?_
   refine dF [[sv J.name,.int .i64 J.kind,j2,sv J.impl.cls,sv J.impl.name,j5,.int .i64 J.ty.kind,sv J.ty.name,jy,.bool J.ty.void,.bool J.ty.sep,j11,j12,j13]] Z Z underlying52 ve Z (by decide) (show Sel _ (VR w 75 14 rows) _ from slq) (by simp) Z (λj u2 hu2=>bQ<|bU Zt) Z0 (by omega) (by omega) (ltn Z) λw2 hw2 _=>?_
   refine sA Z<|sN<|nK [3,5,6,17] Z<|au<|xB ?_
   refine aM (w2,rows++[[sv J.name,.int .i64 J.kind,j2,sv J.impl.cls,sv J.impl.name,j5,.int .i64 J.ty.kind,sv J.ty.name,jy,.bool J.ty.void,.bool J.ty.sep,j11,j12,j13]],Z2,left',some (k,v1)) ⟨hw2,hE3.trans hE4,hst,hsub'⟩ (by dsimp only; rw [hp.length_eq,List.length_cons]; omega)
  ·have hfn:(feat c k).isSome=true:=by cases hq:feat c k <;> simp [hq] at hnf ⊢
   refine cK<|xB ?_
   refine aM (w,rows,Zq,left',some (k,v1)) ⟨hw,hE3,hskip hfn,hsub'⟩ (by dsimp only; rw [hp.length_eq,List.length_cons]; omega)
end
end Go.Fl
namespace Go.Fl
open Go Go.RowKit Go.Ck Go.Proofs Go.Proofs.Tryz Go.Proofs.YtknmacdbffgjgaaGreatDoor Fx Go.Hr
theorem KO {S:Res} {α β : Type} {sz:Nat} {X:List Value -> α -> Prop} {Y:List Value -> β -> Prop} {g : α -> β} {v:Value} {l:List α} (h:Row S sz X v l) (hx:∀ us x,X us x->Y us (g x)):Row S sz Y v (l.map g):=by
 obtain ⟨a,cap,h1,h2,h3,h4,h5⟩:=h
 refine ⟨a,cap,by rw [h1,List.length_map],by rw [List.length_map]; exact h2,h3,h4,λi y hi=>?_⟩
 rw [List.getElem?_map] at hi
 obtain ⟨x,hx1,rfl⟩:=Option.map_eq_some_iff.1 hi
 obtain ⟨b,o,us,g1,g2,g3,g4⟩:=h5 i x hx1
 exact ⟨b,o,us,g1,g2,g3,hx _ _ g4⟩
theorem wP {X:Res} {v:Value} {l:FS} (h:Ls X v l):mo X v (aO l):=KO h.1 λus c hc=>by
 have ho:=Enc.ones hc
 obtain ⟨a,b,e,f,i,rfl,h1,h2,h3,h4,h5⟩:=hc
 obtain ⟨fa,fc,rfl,_⟩:=id h4.form
 exact ⟨.bool c.dfd,a,b,e,fa,fc,i,Z,ho,KO h2.1 λus p hp=>by
  have ho:=Enc.ones hp
  obtain ⟨x1,x2,x3,x4,x5,rfl,_⟩:=hp
  exact ⟨x1,x2,x3,x4,x5,Z,ho⟩⟩
attribute [local irreducible] Go.Ck.Sub St Cd Xt Nx DrL LsW
section
variable {X Y:Res} {v v':Value} {us us':List Value}
def EF (l:FS) (a:Nm):Option Grp:=if (ae l a).inv=[] then none else some ⟨a,(ae l a).inv⟩

theorem KP {l : FS} {c : FC} {ms : List Mb} {fv mv : Value} {uc : List Value} (hl : Ls X v l) (hc : Enc.rep X uc c) (hm : Ls X mv ms) (hfv : fv.oneCell' = true) (hR : dP (aO l) [c.name] = 0) (hb : (above (aO l) c.name).length ≤ 1099511627776) :
  CtX prog 60 #[.agg #[v,fv],.agg uc.toArray,mv] X [] λu Y k'=>k'=[]/\∃ us',u = .agg us'.toArray/\Enc.rep Y us' (flatOf l c ms):=by
 have hml:maxLen=9223372036854775807:=rfl
 have hrb:reachBytes=140737488351232:=rfl
 have hab:=FZ (wP hl) c.name
 rw [hR] at hab
 rw [show okL 0 (above (aO l) c.name)=above (aO l) c.name from rfl] at hab
 have hfo:flatOf l c ms={ name:=c.name,dfd:=c.dfd,mems:=ms,inv:=(above (aO l) c.name).filterMap (EF l) }:=rfl
 rw [hfo]
 generalize above (aO l) c.name=xs at hab hb ⊢
 obtain ⟨ca,cb,ce,cf,ci,rfl,hca,hcb,hce,hcf,hci⟩:=gB hc
 obtain ⟨ma,mk,rfl,_⟩:=id hm.form
 unfold CtX
 refine aL (n:=50) func60 Z Z (len Z) λhr w0=>?_
 refine cQ (aV Z Z λb3=>?_)
 refine aV Z Z λb4=>?_
 refine ax al55 λb6=>?_
 refine sK [2,3,4,6] Z<|cQ<|sV (vF Z dK Z)<|sV (vY Z ld9) ?_
 refine sV (vF Z Nq Z)<|sV (vY Z ld4) ?_
 refine sM Z<|sV (aQ (cells:=[sv c.name,.bool c.dfd,.slice ma ms.length mk,.slice none 0 0]) Z<|λ_=>Zz) ?_
 refine ax al55 λb7=>?_
 refine ai Z Z zH Z Z ?_
 refine sK [3,4,6,7] Z<|cQ<|sV (vF Z J9 Z)<|sV (vY Z ld22) ?_
 refine sV (vF Z dK Z)<|sV (vY Z ld9) ?_
 refine aH Z Z en41 Z (hab) ?_
 rintro u h' ⟨T,rfl,w,rfl,hw,rfl⟩
 simp only [lC,lN]
 refine sM Z<|sV (ag Z Z)<|sV (ag Z Z)<|sA Z<|sA Z<|sK [3,6,7,8] Z<|cS<|cS ?_
 unfold NR
 refine fq (v:=w) (E:=9) (sz:=1) (rows:=xs.map nC) slq λwa wc hwf hwl hwm=>?_
 rw [List.length_map] at hwf hwl
 subst hwf
 refine dJ (cO 170 2)<|cR<|sM Z<|sV (aF Z underlying40)<|sM Z<|sK [3,6,7,27,28,29] Z<|cB<|aZ (σ := Value×List (List Value)×Nat) (λq=>[(3,.pointer (some ⟨b3,0,none⟩)),(6,.pointer (some ⟨b6,0,none⟩)),(7,.pointer (some ⟨b7,0,none⟩)),(27,.slice wa xs.length wc),(28,.int .i64 xs.length),(29,.int .i64 (q.2.2:Nat))]) (λq=>pt b7 (cl [sv c.name,.bool c.dfd,.slice ma ms.length mk,q.1] 55)::VR q.1 170 2 q.2.1::VR (.slice wa xs.length wc) 9 1 (xs.map nC)::pt b6 (cl [.string ⟨#[]⟩,.bool false,.slice none 0 0,.slice none 0 0] 55)::pt b3 (cl [v,fv] 114)::X::hr) (λq=>q.2.2≤xs.length/\q.1.oneCell'=true/\Rws X q.2.1 ((xs.take q.2.2).filterMap<|EF l)) (λq=>xs.length - q.2.2) (.slice none 0 0,[],0) ⟨Nat.zero_le _,Z,Rws.nil⟩ ?_
 rintro ⟨iw,rows,i⟩ ⟨hi,hiw,hro⟩
 simp only at hi hiw hro
 dsimp only
 refine cQ<|sV (aN Z Z)<|sN<|nT<|cS<|cC Z (λhd=>?_)<|λhd=>?_
 ·have hlt:i<xs.length:=Zx
  have htk:=bV hlt
  have hrl:rows.length≤i:=by
   rw [hro.1]
   have:=List.length_filterMap_le (EF l)<|xs.take i
   rw [List.length_take] at this
   omega
  have hnx:(xs.map nC)[i]? = some [sv xs[i]]:=by rw [List.getElem?_map,Zy hlt]; rfl
  refine fw (r:=VR (.slice wa xs.length wc) 9 1<|xs.map nC) slq λhok=>?_
  obtain ⟨ab,ao,rfl⟩:∃ ab ao,wa=some ⟨ab,ao,none⟩:=by
   obtain ⟨f0,hf0⟩:=hok
   rcases VR.form hf0 with ⟨h3,h4⟩ | ⟨b,o,cp,h3,-⟩
   ·have:=List.map_eq_nil_iff.1 h4
    subst this; simp at hlt
   ·rw [List.length_map] at h3; cases h3; exact ⟨b,o,rfl⟩
  generalize hxi:xs[i]=x at hnx htk
  have hcc:=lY (n:=x) (fv:=fv) hl hfv
  refine cK<|xT<|cS<|cB<|cQ<|sV (vI (k:=i) Z Z jv Z hlt Z)<|sV (vY Z ld9 (ha:=⟨_,_,slq,dN hnx 0<|by simp⟩)) ?_
  refine sA Z<|sK [3,6,7,11,27,28,29] Z<|cQ<|sV (af Z ig Z ah) ?_
  refine sM Z<|aH Z Z en56 Z (hcc) ?_
  rintro u h' ⟨rfl,cus,rfl,hcr⟩
  simp only [lC,lN]
  obtain ⟨fa,fb,fc,fd,fe,rfl,-,-,-,-,hfi⟩:=gB hcr
  obtain ⟨fA,fK,rfl,_⟩:=id hfi.form
  refine sV (iP (k:=6) Z underlying44 Z isAgg42 Z)<|sA Z<|sK [3,6,7,11,12,27,28,29] Z<|cQ<|sM Z<|sV (aF Z underlying42)<|sV (bZ Z Z)<|sK [3,6,7,11,12,27,28,29,39] Z<|cC Z (λhpos=>?_)<|λhpos=>?_
  ·have hne:¬ (ae l x).inv=[]:=λe=>by rw [e] at hpos; simp at hpos
   have hinv:EF l x=some ⟨x,(ae l x).inv⟩:=by unfold EF; rw [if_neg hne]
   refine cR<|sV (vF Z wE Z)<|sV (vY Z qQ) ?_
   refine sM Z<|sM Z<|sV (aQ (cells:=[sv x,.slice fA (ae l x).inv.length fK]) Z<|λ_=>Zz) ?_
   refine ak (cells:=[sv x,.slice fA (ae l x).inv.length fK]) Z underlying53 mX Z Z Zz (ltn Z) λb45=>?_
   refine dF [[sv x,.slice fA (ae l x).inv.length fK]] Z Z underlying53 mX Z (by decide) (show Sel _ (VR iw 170 2 rows) _ from slq) (by simp) Z (λj u2 hu2=>bQ<|bU Zt) (by simp [sv,Value.oneCell']) (by omega) (by omega) (ltn Z) λw2 hw2 _=>?_
   refine sV (vF Z wE Z)<|bf Z Z mW ?_
   refine sN<|nK [3,6,7,27,28,29] Z<|au<|xB<|xT<|cR<|sV (aI Z Z Z6)<|sM Z<|sN<|nK [3,6,7,27,28,29] Z<|au ?_
   refine aM (w2,rows++[[sv x,.slice fA (ae l x).inv.length fK]],i+1) ⟨hlt,hw2,by rw [htk,List.filterMap_append]; simp only [List.filterMap_cons,hinv,List.filterMap_nil]; exact hro.snoc ⟨_,Z,hfi⟩⟩ (by dsimp only; omega)
  ·have hne:(ae l x).inv=[]:=by simpa using hpos
   have hinv:EF l x=none:=by unfold EF; rw [if_pos hne]
   refine cK<|xB<|xT<|cR<|sV (aI Z Z Z6)<|sM Z<|sN<|nK [3,6,7,27,28,29] Z<|au ?_
   refine aM (iw,rows,i+1) ⟨hlt,hiw,by rw [htk,List.filterMap_append]; simp only [List.filterMap_cons,hinv,List.filterMap_nil,List.append_nil]; exact hro⟩ (by dsimp only; omega)
 ·have hie:i=xs.length:=by
   have:¬ i<xs.length:=Zx
   omega
  subst hie
  rw [List.take_length] at hro
  refine aB<|xE<|xE<|xY<|xT<|cQ<|sV (af Z yw Z ah) ?_
  have hone2:([sv c.name,.bool c.dfd,.slice ma ms.length mk,iw]:List Value).all Value.oneCell'=true:=by simp only [List.all_cons,List.all_nil,hiw,Bool.and_true,Bool.true_and]; rfl
  refine ai Z Z zH Z hone2 ?_
  refine sK [6] Z<|cT ?_
  have hil:(xs.filterMap<|EF l).length * 40≤reachBytes:=by
   have:=List.length_filterMap_le (EF l) xs
   omega
  refine dR (r:=VR iw 170 2 rows) slq λhok=>?_
  refine iy [VR iw 170 2 rows] X λY2 hE2 hsel=>?_
  exact bF (.cellN Z yw Z slq .nil) ⟨Y2,[],Z,hE2,Z,_,Z,_,_,Z,hm.up hE2,Rws.ls (E:=170) (hro.up hE2) hok (hsel _ _ .here) hil⟩ sbr
end
end Go.Fl
namespace Go.Fl
open Go Go.RowKit Go.Ck Go.Proofs Go.Proofs.Tryz Go.Proofs.YtknmacdbffgjgaaGreatDoor Fx Go.Hr
theorem G6 {c:Cx} {ex:Exit} {Q:Exit->Act->World->Prop} {e:Env} {h h':SH} {mb ib:Nat} {m left:List (Bs×Value)} {last:Option (Bs×Value)} (s:Sel h (xe mb ib m left last) h') (hx:Xt c ex Q e (mps mb m::h')):Xt c ex Q e h:=λa w hk hh hw=>by
 have hh':=hh.sel s
 obtain ⟨_,es,ck,seen,g1,g2,hB,_⟩:=hh'.1
 exact hx a w hk ⟨⟨es,ck,g1,g2,hB⟩,λb hb=>hh'.2.1 b (.inl hb),hh'.2.2⟩ hw
attribute [local irreducible] Go.Ck.Sub St Cd Xt Nx DrL LsW
section
variable {X Y:Res} {v v':Value} {us us':List Value}
theorem L9 {σ : Type} {b1 bm yl : Nat} {m : List (Nm × Value)} (Inv : σ -> SH) (Φ : List Nm -> σ -> Prop) (s0 : σ) (h0 : Φ [] s0) (hy : ∀ (ds : List Nm) (k : Nm) (s : σ), ds.length < m.length -> Φ ds s -> Yc prog yl #[sv k] (Inv s) λu h' => u = .bool true /\ ∃ s', Φ (ds ++ [k]) s' /\ h' = Inv s') :
  Ct prog 266 #[.func (.yield yl) #[] #[],.pointer (some ⟨b1,0,none⟩)] (pt b1 (cl [.map (some bm)] 188)::mps bm m::Inv s0) λu h'=>u = .tuple #[]/\∃ ds s,ds.Perm (m.map λp=>p.1) /\ Φ ds s/\h'=pt b1 (cl [.map (some bm)] 188)::mps bm m::Inv s:=by
 refine aL (n:=14) func266 Z Z (len Z) λhr w0=>?_
 refine cQ<|sV (vY Z qW) ?_
 refine AC Z sQ slq (ltn Z) λib hnd=>?_
 refine sK [0,5] Z<|cB<|aZ (σ := List Nm×List (Nm×Value)×Option (Nm×Value) × σ) (λq=>[(0,.func (.yield yl) #[] #[]),(5,.pointer (some ⟨ib,0,none⟩))]) (λq=>xe bm ib m q.2.1 q.2.2.1::pt b1 (cl [.map (some bm)] 188)::(Inv q.2.2.2++hr)) (λq=>(q.1++q.2.1.map λp=>p.1).Perm (m.map λp=>p.1) /\ Φ q.1 q.2.2.2) (λq=>q.2.1.length) ([],m,none,s0) ⟨by simp,h0⟩ ?_
 rintro ⟨ds,left,last,s⟩ ⟨hds,hΦ⟩
 simp only at hds hΦ
 dsimp only
 refine cQ<|Dj Z slq (ltn Z) (λhl0=>?_)<|λk v1 left' hp=>?_
 ·subst hl0
  rw [List.map_nil,List.append_nil] at hds
  refine sV (ag Z Z)<|sK [0,5,7] Z<|cS<|aG Z ?_
  refine aB<|xE<|xE<|xY<|G6 slq ?_
  refine CF (k:=pt b1 (cl [.map (some bm)] 188)::mps bm m::(Inv s++hr)) (.swap _ _ _) ?_
  exact zD Z ⟨Z,ds,s,hds,hΦ,Z⟩ sbq
 ·refine sV (ag Z Z)<|sK [0,5,7] Z<|cS<|aT Z ?_
  refine cK<|xT<|cB<|cQ<|sV (Dk Z slq) ?_
  have hlen:ds.length<m.length:=by
   have h1:=hds.length_eq
   have h2:=hp.length_eq
   simp only [List.length_append,List.length_map,List.length_cons] at h1 h2
   omega
  have hyy:=hy ds k s hlen hΦ
  refine sV (ag Z Z)<|sA Z<|sK [0,3,5] Z<|cQ<|sM Z<|sM Z<|uT (gd:=0) (.inl Z) Z Z hyy (Pk.of (hr:=xe bm ib m left' (some (k,v1))::pt b1 (cl [.map (some bm)] 188)::hr)<|by exact List.perm_append_comm_assoc [xe bm ib m left' (some (k,v1)),pt b1 (cl [.map (some bm)] 188)] (Inv s) hr) (ltn Z) ?_
  rintro u h' ⟨rfl,s2,hΦ2,rfl⟩
  refine sV (bi Z)<|sK [0,5,13] Z<|aG Z ?_
  refine cK<|xB<|CF (k:=xe bm ib m left' (some (k,v1))::pt b1 (cl [.map (some bm)] 188)::(Inv s2++hr)) (by exact List.perm_append_comm_assoc (Inv s2) [xe bm ib m left' (some (k,v1)),pt b1 (cl [.map (some bm)] 188)] hr) ?_
  refine aM (ds++[k],left',some (k,v1),s2) ⟨by rw [List.append_assoc]; exact ((hp.map λp=>p.1).append_left ds).symm.trans hds,hΦ2⟩ (by dsimp only; rw [hp.length_eq,List.length_cons]; omega)
theorem en266:Ck.Enters prog 266:=enters_of func266 Zz rfl
theorem Ma {b1 bm:Nat} {m:List (Nm×Value)} (hb:m.length * 16≤1099511627776):Ct prog 294 #[.slice none 0 0,.func (.func 266) #[] #[.pointer (some ⟨b1,0,none⟩)]] [pt b1 (cl [.map (some bm)] 188),mps bm m] λu h'=>∃ ds,ds.Perm (m.map λp=>p.1)/\u.oneCell'=true/\h'=[NR u ds,pt b1 (cl [.map (some bm)] 188),mps bm m]:=by
 have hml:maxLen=9223372036854775807:=rfl
 refine qM (n:=13) func294 Z Z (len Z) λhr w0=>?_
 refine cQ (aV Z Z λb2=>?_)
 refine sA Z<|sK [1,2,4] Z<|cS<|cQ<|sM Z<|sK [2,4,6] Z<|cB<|dJ (cO 9 1) (jg Z en266 λyl db rec hst hpe hps hasg hbo hkn2=>?_)
 refine ⟨_,Ct.perm (L9 (σ := Value×List Nm) (b1:=b1) (bm:=bm) (yl:=yl) (m:=m) (λq=>pt yl (.loop rec)::pt db (.deferred<|some [])::pt b2 (cl [q.1] 40)::NR q.1 q.2::hr) (λds q=>q.2=ds/\q.1.oneCell'=true) (.slice none 0 0,[]) ⟨Z,Z⟩ ?_) ?_,?_⟩
 ·rintro ds k ⟨w,xs⟩ hlt ⟨rfl,hw⟩
  dsimp only at hlt hw ⊢
  unfold NR
  refine Yc.perm (qJ (n:=13) (rec:=rec) (args:=[sv k]) (hf:=pt db (.deferred<|some [])::pt b2 (cl [w] 40)::VR w 9 1 (xs.map nC)::hr) (by rw [hps]; rfl) hkn2 (by rw [hps]; decide) ?_) (by exact (by repeat (first | exact Pm.refl | refine Pm.cons slq ?_):Pm _ _).perm)
  intro hr2 w1
  rw [hasg,hps,hbo]
  simp only [lC,lN]
  refine cR<|sA Z<|sN<|nK [2,4,5] Z<|au<|lI Z slq (by first | rfl | assumption) ?_
  refine cB<|cR<|sV (vY Z fG) ?_
  refine sM Z (ak (cells:=[sv k]) Z underlying40 gm Z Z Zz (ltn Z) λb10=>?_)
  refine dF [[sv k]] Z Z underlying40 gm Z (by decide) (show Sel _ (VR w 9 1<|xs.map nC) _ from slq) (by simp) Z (λj u2 hu2=>bQ<|bU Zt) (by simp [sv,Value.oneCell']) (by rw [List.length_map]; omega) (by rw [List.length_map]; omega) (ltn Z) λw2 hw2 _=>?_
  rw [show xs.map nC++[[sv k]]=(xs++[k]).map nC by simp [nC]]
  refine bf Z Z yn ?_
  refine sN<|nK [4] Z<|au<|xB<|dB slq ⟨Z,(w2,xs++[k]),⟨Z,hw2⟩,Z⟩ ?_
  rw [dC hst hpe]
  exact sbq
 ·simp only [lC,lN]
  exact (by repeat (first | exact Pm.refl | refine Pm.cons slq ?_):Pm _ _).perm
 ·rintro u h' ⟨rfl,ds,⟨w,xs⟩,hds,⟨rfl,hw⟩,rfl⟩
  dsimp only at hw ⊢
  refine ⟨rec,_,slq,(by rw [hst]; simp),?_⟩
  rw [hpe]
  dsimp only
  refine xB<|xT<|cQ<|sV (vY Z fG) ?_
  refine sA Z<|sK [4] Z<|cT ?_
  exact jS (bs:=[db]) Z Z ⟨xs,hds,hw,Z⟩ sbq
theorem uC {bm:Nat}:Ct prog 213 #[.map (some bm)] [] λu h'=>∃ b1,u = .func (.func 266) #[] #[.pointer (some ⟨b1,0,none⟩)]/\h'=[pt b1 (cl [.map (some bm)] 188)]:=by
 refine aL (n:=4) func213 Z Z (len Z) λhr w0=>?_
 refine cQ (aV Z Z λb1=>?_)
 refine sA Z<|sK [1,2] Z<|cQ<|sV (bW Z Z)<|sA Z<|sK [2] Z<|cT ?_
 exact aj Z ⟨_,Z,Z⟩ sbq
theorem Bl {b1 bm:Nat} {m:List (Nm×Value)} (hb:m.length * 16≤1099511627776):Ct prog 264 #[.func (.func 266) #[] #[.pointer (some ⟨b1,0,none⟩)]] [pt b1 (cl [.map (some bm)] 188),mps bm m] λu h'=>∃ ds,ds.Perm (m.map λp=>p.1)/\u.oneCell'=true/\h'=[NR u ds,pt b1 (cl [.map (some bm)] 188),mps bm m]:=by
 refine aL (n:=5) func264 Z Z (len Z) λhr w0=>?_
 refine cQ<|sA Z<|sN<|nT<|cQ<|sM Z<|aH Z Z en294 Z (Ma hb) ?_
 rintro u h' ⟨ds,hds,hu,rfl⟩
 simp only [lC,lN]
 refine sA Z<|sK [2] Z<|cT ?_
 exact aj Z ⟨ds,hds,hu,Z⟩ sbq
theorem p9 {b1 bm:Nat} {m:List (Nm×Value)} (hb:m.length * 16≤1099511627776) (hn:(m.map λp=>p.1).Nodup):Ct prog 212 #[.func (.func 266) #[] #[.pointer (some ⟨b1,0,none⟩)]] [pt b1 (cl [.map (some bm)] 188),mps bm m] λu h'=>u.oneCell'=true/\h'=[NR u (srt (m.map λp=>p.1)),pt b1 (cl [.map (some bm)] 188),mps bm m]:=by
 refine aL (n:=9) func212 Z Z (len Z) λhr w0=>?_
 refine cQ<|sA Z<|sN<|nT<|cQ<|sM Z<|aH Z Z en264 Z (Bl hb) ?_
 rintro u h' ⟨ds,hds,hu,rfl⟩
 simp only [lC,lN]
 have hnd:=hds.nodup_iff.2 hn
 have hdl:ds.length≤1099511627776:=by rw [hds.length_eq,List.length_map]; omega
 have hsr:srt ds=srt (m.map λp=>p.1):=(iN ds).1.ext (iN _).1 λx=>by rw [(iN ds).2,(iN _).2,hds.mem_iff]
 refine sA Z<|sK [2,3] Z<|cQ<|sM Z<|aH Z Z en265 Z (Sort_ct hnd hdl) ?_
 rintro u2 h' ⟨rfl,rfl⟩
 simp only [lC,lN]
 rw [hsr]
 refine sK [2,3] Z<|cQ<|sM Z<|sA Z<|sK [2] Z<|cT ?_
 exact aj Z ⟨hu,Z⟩ sbq
end
section
variable {X Y:Res} {v v':Value} {us us':List Value}
def fu (v fv:Value) (c:FC) (ca cb ce cf ci:Value) (mv bv:Value) (all:Bool):List Value:=[v,fv,sv c.name,.bool c.dfd,ca,cb,ce,cf,ci,mv,bv,.bool all]
theorem gD {fv:Value} {c:FC} {ca cb ce cf ci mv bv:Value} {all:Bool} (k:Int) (n:Nm) (a b:Og):Ct prog 204 #[.agg (fu v fv c ca cb ce cf ci mv bv all).toArray,.int .i64 k,sv n,.agg #[sv a.par,sv a.name],.agg #[sv b.par,sv b.name]] [] λu h'=>u=cfV ⟨k,c.name,n,[],a,b⟩/\h'=[]:=by
 unfold fu cfV cfC
 refine aL (n:=19) func204 Z Z (len Z) λhr w0=>?_
 refine cQ (aV Z Z λb5=>?_)
 refine aV Z Z λb8=>?_
 refine aV Z Z λb9=>?_
 refine ax zQ λb10=>?_
 refine sK [1,2,5,8,9,10] Z<|cQ<|sM Z<|sV (vF Z gV Z)<|sV (vF Z dK Z)<|sV (vY Z ld9) ?_
 refine sM Z<|sV (af Z qz Z ah) ?_
 refine sV (af Z qz Z ah) ?_
 refine sV (aQ (cells:=[.int .i64 k,sv c.name,sv n,sv [],sv a.par,sv a.name,sv b.par,sv b.name]) Z<|λ_=>Zz) ?_
 refine ai Z Z tK Z Z ?_
 refine sK [10] Z<|cT ?_
 exact bF (.cellN Z qP Z slq .nil) ⟨Z,Z⟩ sbr
theorem OE {β : Type} (f:Mb->List β) {l:List Mb} {i:Nat} (h:i<l.length):((l.take i).flatMap f).length+(f l[i]).length≤(l.flatMap f).length:=by
 have h1:l=l.take i++l[i]::l.drop (i+1):=by rw [List.getElem_cons_drop,List.take_append_drop]
 have h2:=congrArg (λx=>(x.flatMap f).length) h1
 simp only [List.flatMap_append,List.flatMap_cons,List.length_append] at h2
 omega
theorem xU {ms:List Mb} (hv:Ls X v ms) (hb:(ms.flatMap λm=>m.seeds).length * 32≤1099511627776):Ct prog 219 #[v] [X] λu h'=>u.oneCell'=true/\h'=[VR u 69 2 ((rq (ms.flatMap λm=>m.seeds)).map sdC),X]:=by
 have hml:maxLen=9223372036854775807:=rfl
 obtain ⟨a,cap,rfl,hlc,hcm,_⟩:=id hv.form
 refine aL (n:=21) func219 Z Z (len Z) λhr w0=>?_
 refine cQ<|sA Z<|sN<|nT<|cQ<|sA Z<|sN<|nT<|cS<|cQ<|sM Z<|sV (aF Z underlying52)<|sM Z ?_
 refine sK [2,3,6,7,8] Z<|cB<|dJ (cO 69 2)<|aZ (σ := Value×Nat) (λq=>[(3,q.1),(6,.slice a ms.length cap),(7,.int .i64 ms.length),(8,.int .i64 (q.2:Nat))]) (λq=>VR q.1 69 2 (((ms.take q.2).flatMap λm=>m.seeds).map sdC)::X::hr) (λq=>q.2≤ms.length/\q.1.oneCell'=true) (λq=>ms.length - q.2) (.slice none 0 0,0) ⟨Nat.zero_le _,Z⟩ ?_
 rintro ⟨w,i⟩ ⟨hi,hw⟩
 simp only at hi hw
 dsimp only
 refine cQ<|sV (aN Z Z)<|sN<|nT<|cS<|cC Z (λhd=>?_)<|λhd=>?_
 ·have hlt:i<ms.length:=Zx
  obtain ⟨b,o,cap2,us,e1,hus,hrd,hre⟩:=hv.at<|Zy hlt
  cases e1
  have hS:=OE (λm=>m.seeds) hlt
  have htk:=bV hlt
  generalize ms[i]=x at hre hS htk
  have hone:=Enc.ones hre
  obtain ⟨x2,x5,xy,x11,x12,x13,rfl,hx2,-⟩:=dI hre
  obtain ⟨ax2,kx2,rfl,_⟩:=id hx2.form
  unfold iB at *
  have hfm:(ms.take (i+1)).flatMap (λm=>m.seeds)=(ms.take i).flatMap (λm=>m.seeds)++x.seeds:=by rw [htk]; simp
  refine cK<|xT<|cS<|cB<|cQ<|sV (vI (k:=i) Z Z nU Z hlt Z)<|sV (af Z fB Z hrd) ?_
  refine ax jY λb5=>?_
  refine ai Z Z iO Z hone ?_
  refine sK [3,5,6,7,8] Z<|cR<|sM Z<|sV (vF Z eF Z)<|sV (vY Z oZ) ?_
  refine pV hx2.1 Z Z underlying67 CB Z (by decide) (show Sel _ (VR w 69 2<|((ms.take i).flatMap λm=>m.seeds).map sdC) _ from slq) (show Sel _ X _ from slq) (λus x _ hr u hu=>List.all_eq_true.1 (Enc.ones hr) u hu) (by rw [List.length_map]; omega) (by rw [List.length_map]; omega) (ltn Z) λw2 news hw2 hn1 hn2 hn3=>?_
  rw [KJ hn1 hn3,<- List.map_append,<- hfm]
  refine sA Z<|sN<|nK [3,6,7,8] Z<|au<|xB<|xT<|cR<|sV (aI Z Z Z6)<|sM Z<|sN<|nK [3,6,7,8] Z<|au ?_
  refine aM (w2,i+1) ⟨hlt,hw2⟩ (by dsimp only; omega)
 ·have hie:i=ms.length:=by
   have:¬ i<ms.length:=Zx
   omega
  subst hie
  have hjs:(ms.flatMap λm=>m.seeds).length≤1099511627776:=by omega
  rw [List.take_length]
  refine aB<|xE<|xE<|xY<|xT<|cQ<|sM Z<|aH Z Z en197 Z (Au hjs) ?_
  rintro u h' ⟨rfl,ys,hperm,hcs,rfl⟩
  simp only [lC,lN]
  refine sK [3] Z<|cQ<|sM Z<|aH Z Z en199 Z (Av (xs:=ys)) ?_
  rintro u h' ⟨hu,rfl⟩
  simp only [lC,lN]
  rw [hcs]
  refine sA Z<|sK [2] Z<|cT ?_
  exact aj Z ⟨hu,Z⟩ sbq
end
end Go.Fl
namespace Go.Fl
open Go Go.RowKit Go.Ck Go.Proofs Go.Proofs.Tryz Go.Proofs.YtknmacdbffgjgaaGreatDoor Fx Go.Hr
theorem AQ {o:Option Nat}:(ixI o == -1)=o.isNone:=by
 cases o with
 | none=>rfl
 | some i=>rfl
attribute [local irreducible] Go.Ck.Sub St Cd Xt Nx DrL LsW
section
variable {X Y:Res} {v v':Value} {us us':List Value}
theorem Mc {v : Value} {rows : List (List Value)} {xs : List Cm} {kf : FuncId} {cp : Array Value} {g : Cm -> Bool} (hro : Rws X rows xs) (hb : xs.length * 280 ≤ 1099511627776) (hE : Ck.Enters prog kf) (hf : ∀ R : Res, (∀ p u, Rd X p u -> Rd R p u) -> ∀ a ∈ xs, ∀ us, Enc.rep R us a -> Reads prog kf (#[] ++ ([.agg us.toArray] : List Value).toArray ++ cp) [R] (.bool (g a))) :
  Ct prog 261 #[v,.func (.func kf) #[] cp] [VR v 191 18 rows,X] λu h'=>∃ rows',u.oneCell'=true/\Rws X rows' (xs.filter λx => !g x)/\h'=[VR u 191 18 rows',X]:=by
 have hml:maxLen=9223372036854775807:=rfl
 have hrb:reachBytes=140737488351232:=rfl
 have hrl:=hro.1
 refine aL (n:=42) func261 Z Z (len Z) λhr w0=>?_
 refine fw (r:=VR v 191 18 rows) slq λhok=>?_
 have ho:=VR.one hok.choose_spec
 have hls:Ls (Res.star [VR v 191 18 rows,X]) v xs:=Rws.ls (E:=191) (jb hro<|bH<|.there .here) hok (bH .here) (show xs.length * 280≤reachBytes by omega)
 have hix:=eG<|CZ (g:=g) (cp:=cp) hls hE<|hf _<|bH<|.there .here
 refine fq (v:=v) (E:=191) (sz:=18) (rows:=rows) slq λwa wc hwf hwl hwm=>?_
 rw [hrl] at hwf hwl
 subst hwf
 refine cQ<|sA Z<|sN<|nT<|cQ<|sM Z<|sM Z<|aY Z Z en193 Z (hix) ?_
 refine sA Z<|sK [0,1,4,5] Z<|cS<|cQ<|sM Z<|sV (dD Z Z)<|sK [0,1,4,5,12] Z ?_
 rw [AQ]
 cases hq:xs.findIdx? g with
 | none =>
  have hall:(xs.filter λx => !g x)=xs:=by
   rw [List.filter_eq_self]
   intro x hx
   simp [List.findIdx?_eq_none_iff.1 hq x hx]
  rw [hall]
  refine aT Z ?_
  refine cQ<|sM Z<|sA Z<|sK [4] Z<|cT<|xR ?_
  exact aj Z ⟨rows,ho,hro,Z⟩ sbq
 | some i0 =>
  obtain ⟨hi0,hg0,hbf⟩:=List.findIdx?_eq_some_iff_getElem.1 hq
  obtain ⟨b,o,rfl⟩:∃ b o,wa=some ⟨b,o,none⟩:=by
   obtain ⟨f0,hf0⟩:=hok
   rcases VR.form hf0 with ⟨h3,h4⟩ | ⟨b,o,cp,h3,-⟩
   ·rw [h4] at hrl; simp at hrl; omega
   ·rw [hrl] at h3; cases h3; exact ⟨b,o,rfl⟩
  have hf0:(xs.take i0).filter (λx => !g x)=xs.take i0:=by
   rw [List.filter_eq_self]
   intro x hx
   obtain ⟨j,hj,rfl⟩:=List.getElem_of_mem hx
   rw [List.length_take] at hj
   rw [List.getElem_take]
   simpa using hbf j (by omega)
  have hstart:Rws X (rows.take i0) ((xs.take (i0+1)).filter λx => !g x):=by
   rw [List.take_succ_eq_append_getElem hi0,List.filter_append,hf0]
   have:[xs[i0]].filter (λx => !g x)=[]:=by simp [hg0]
   rw [this,List.append_nil]
   refine ⟨by rw [List.length_take,List.length_take,hrl],λj us x h1 h2=>?_⟩
   rw [List.getElem?_take] at h1 h2
   split at h1
   ·rename_i hji; rw [if_pos hji] at h2; exact hro.2 j us x h1 h2
   ·cases h1
  rw [show ixI (some i0)=((i0:Nat):Int) from rfl]
  refine aG Z ?_
  refine cK<|xT<|cS<|cQ<|sM Z<|sV (aI Z Z Z6)<|sA Z<|sK [0,1,4,5,6] Z<|cB<|aZ (σ := Nat×Nat×List (List Value)) (λq=>[(0,.slice (some ⟨b,o,none⟩) xs.length wc),(1,.func (.func kf) #[] cp),(5,.int .i64 (q.1:Nat)),(6,.int .i64 (q.2.1:Nat))]) (λq=>VR (.slice (some ⟨b,o,none⟩) xs.length wc) 191 18 q.2.2::X::hr) (λq=>q.1<q.2.1/\q.2.1≤xs.length/\q.2.2.length=xs.length/\Rws X (q.2.2.take q.1) ((xs.take q.2.1).filter λx => !g x)/\∀ k,q.2.1≤k->q.2.2[k]? = rows[k]?) (λq=>xs.length - q.2.1) (i0,i0+1,rows) ⟨Nat.lt_succ_self _,hi0,hrl,hstart,λ_ _=>rfl⟩ ?_
  rintro ⟨m,j,rws⟩ ⟨hmj,hjn,hwl2,hpre,hrest⟩
  simp only at hmj hjn hwl2 hpre hrest
  dsimp only
  refine cS<|cQ<|sM Z<|sM Z<|sV (aF Z underlying187)<|sV (aN Z Z)<|sK [0,1,5,6,19] Z<|cC Z (λhd=>?_)<|λhd=>?_
  ·have hlt:j<xs.length:=Zx
   have hjr:j<rows.length:=by omega
   have hrow:rws[j]? = some rows[j]:=(hrest j<|Nat.le_refl _).trans<|Zy hjr
   have hrep:=hro.2 j _ xs[j] (Zy hjr)<|Zy hlt
   have hfx:=hf X (λ_ _ h=>h) xs[j] (List.getElem_mem hlt) _ hrep
   have htk:=bV hlt
   have hset:∀ r,(rws.set m r).take (m+1)=rws.take m++[r]:=λr=>by
    rw [List.take_succ_eq_append_getElem (by rw [List.length_set]; omega),List.take_set_of_le (Nat.le_refl _),List.getElem_set_self]
   generalize xs[j]=x at hrep hfx htk
   generalize rows[j]=r at hrow hrep hfx
   have hsz:r.length=18:=Enc.len hrep
   have hone:=Enc.ones hrep
   refine cK<|xT<|cS<|cB<|cQ<|sM Z<|sM Z<|sV (vI (k:=j) Z Z lJ Z hlt Z)<|sV (af Z ik hsz<|dN hrow) ?_
   refine ax qY λb7=>?_
   refine ai (hl:=by rw [hsz]; rfl) Z Z mH hsz hone ?_
   refine sK [0,1,5,6,7] Z<|cQ<|sM Z<|sV (af Z ik hsz ah) ?_
   refine aY Z Z hE Z (hfx) ?_
   refine sV (bi Z)<|sK [0,1,5,6,7,29] Z<|cC Z (λhg=>?_)<|λhg=>?_
   ·have hgf:g x=false:=Zf
    have e1:[x].filter (λx => !g x)=[x]:=by simp [hgf]
    refine cQ<|sM Z<|sM Z<|sV (af Z ik hsz ah) ?_
    refine sV (vI (k:=m) Z Z lJ Z (by omega) Z)<|wW (m:=m) (rows:=rws) (vs:=r) Z Z mH hsz (λu hu=>List.all_eq_true.1 hone u hu) (by omega) slq ?_
    refine sK [0,1,5,6] Z<|cR<|sM Z<|sV (aI Z Z Z6)<|sA Z<|sN<|nK [0,1,5,6] Z<|au<|xB<|xT<|cR<|sM Z<|sV (aI Z Z Z6)<|sA Z<|sN<|nK [0,1,5,6] Z<|au ?_
    refine aM (m+1,j+1,rws.set m r) ⟨by dsimp only; omega,hlt,by rw [List.length_set]; exact hwl2,by rw [hset,htk,List.filter_append,e1]; exact hpre.snoc hrep,λk hk=>by
     have hk:j+1≤k:=hk
     rw [List.getElem?_set_ne (by omega)]; exact hrest k (by omega)⟩ (by dsimp only; omega)
   ·have hgt:g x=true:=Zf
    have e1:[x].filter (λx => !g x)=[]:=by simp [hgt]
    refine cK<|xB<|xT<|cR<|sM Z<|sV (aI Z Z Z6)<|sA Z<|sN<|nK [0,1,5,6] Z<|au ?_
    refine aM (m,j+1,rws) ⟨by dsimp only; omega,hlt,hwl2,by rw [htk,List.filter_append,e1,List.append_nil]; exact hpre,λk hk=>hrest k (by dsimp only at hk; omega)⟩ (by dsimp only; omega)
  ·have hje:j=xs.length:=by
    have:¬ j<xs.length:=Zx
    omega
   subst hje
   rw [List.take_length] at hpre
   refine aB<|xE<|xE<|xY<|xT<|cQ<|sM Z<|sM Z<|sV (gG (show Value.slice (some ⟨b,if wc=m then o else o+m * 18,none⟩) (xs.length - m) (wc - m)=Value.slice (some ⟨b,o+m * 18,none⟩) (rws.length - m) (wc - m) by rw [if_neg (by omega),hwl2])<|j6 (lo:=m) Z Z lJ Z (by omega)<|by omega) ?_
   refine pW (m:=m) (rows:=rws) rfl underlying187 zM rfl (λv hv=>by simp [Value.cells] at hv; (repeat (first | (rcases hv with rfl | hv; · rfl) | (subst hv; rfl)))) (by omega) slq ?_
   refine sK [0,5] Z<|cQ<|sM Z<|sM Z<|sV (jm (hi:=m) Z Z lJ Z<|by omega)<|ql (vD (m:=m) ?_) ?_
   ·rw [List.length_append,List.length_take,List.length_replicate]; omega
   rw [List.take_append_of_le_length (by rw [List.length_take]; omega),List.take_take,Nat.min_self]
   refine sA Z<|sK [4] Z<|cT ?_
   exact aj Z ⟨_,Z,hpre,Z⟩ sbq
theorem Md {v : Value} {rows : List (List Value)} {xs : List Mb} {kf : FuncId} {cp : Array Value} {g : Mb -> Bool} (hro : Rws X rows xs) (hb : xs.length * 232 ≤ 1099511627776) (hE : Ck.Enters prog kf) (hf : ∀ R : Res, (∀ p u, Rd X p u -> Rd R p u) -> ∀ a ∈ xs, ∀ us, Enc.rep R us a -> Reads prog kf (#[] ++ ([.agg us.toArray] : List Value).toArray ++ cp) [R] (.bool (g a))) :
  Ct prog 268 #[v,.func (.func kf) #[] cp] [VR v 75 14 rows,X] λu h'=>∃ rows',u.oneCell'=true/\Rws X rows' (xs.filter λx => !g x)/\h'=[VR u 75 14 rows',X]:=by
 have hml:maxLen=9223372036854775807:=rfl
 have hrb:reachBytes=140737488351232:=rfl
 have hrl:=hro.1
 refine aL (n:=42) func268 Z Z (len Z) λhr w0=>?_
 refine fw (r:=VR v 75 14 rows) slq λhok=>?_
 have ho:=VR.one hok.choose_spec
 have hls:Ls (Res.star [VR v 75 14 rows,X]) v xs:=Rws.ls (E:=75) (jb hro<|bH<|.there .here) hok (bH .here) (show xs.length * 232≤reachBytes by omega)
 have hix:=eG<|wS (g:=g) (cp:=cp) hls hE<|hf _<|bH<|.there .here
 refine fq (v:=v) (E:=75) (sz:=14) (rows:=rows) slq λwa wc hwf hwl hwm=>?_
 rw [hrl] at hwf hwl
 subst hwf
 refine cQ<|sA Z<|sN<|nT<|cQ<|sM Z<|sM Z<|aY Z Z en222 Z (hix) ?_
 refine sA Z<|sK [0,1,4,5] Z<|cS<|cQ<|sM Z<|sV (dD Z Z)<|sK [0,1,4,5,12] Z ?_
 rw [AQ]
 cases hq:xs.findIdx? g with
 | none =>
  have hall:(xs.filter λx => !g x)=xs:=by
   rw [List.filter_eq_self]
   intro x hx
   simp [List.findIdx?_eq_none_iff.1 hq x hx]
  rw [hall]
  refine aT Z ?_
  refine cQ<|sM Z<|sA Z<|sK [4] Z<|cT<|xR ?_
  exact aj Z ⟨rows,ho,hro,Z⟩ sbq
 | some i0 =>
  obtain ⟨hi0,hg0,hbf⟩:=List.findIdx?_eq_some_iff_getElem.1 hq
  obtain ⟨b,o,rfl⟩:∃ b o,wa=some ⟨b,o,none⟩:=by
   obtain ⟨f0,hf0⟩:=hok
   rcases VR.form hf0 with ⟨h3,h4⟩ | ⟨b,o,cp,h3,-⟩
   ·rw [h4] at hrl; simp at hrl; omega
   ·rw [hrl] at h3; cases h3; exact ⟨b,o,rfl⟩
  have hf0:(xs.take i0).filter (λx => !g x)=xs.take i0:=by
   rw [List.filter_eq_self]
   intro x hx
   obtain ⟨j,hj,rfl⟩:=List.getElem_of_mem hx
   rw [List.length_take] at hj
   rw [List.getElem_take]
   simpa using hbf j (by omega)
  have hstart:Rws X (rows.take i0) ((xs.take (i0+1)).filter λx => !g x):=by
   rw [List.take_succ_eq_append_getElem hi0,List.filter_append,hf0]
   have:[xs[i0]].filter (λx => !g x)=[]:=by simp [hg0]
   rw [this,List.append_nil]
   refine ⟨by rw [List.length_take,List.length_take,hrl],λj us x h1 h2=>?_⟩
   rw [List.getElem?_take] at h1 h2
   split at h1
   ·rename_i hji; rw [if_pos hji] at h2; exact hro.2 j us x h1 h2
   ·cases h1
  rw [show ixI (some i0)=((i0:Nat):Int) from rfl]
  refine aG Z ?_
  refine cK<|xT<|cS<|cQ<|sM Z<|sV (aI Z Z Z6)<|sA Z<|sK [0,1,4,5,6] Z<|cB<|aZ (σ := Nat×Nat×List (List Value)) (λq=>[(0,.slice (some ⟨b,o,none⟩) xs.length wc),(1,.func (.func kf) #[] cp),(5,.int .i64 (q.1:Nat)),(6,.int .i64 (q.2.1:Nat))]) (λq=>VR (.slice (some ⟨b,o,none⟩) xs.length wc) 75 14 q.2.2::X::hr) (λq=>q.1<q.2.1/\q.2.1≤xs.length/\q.2.2.length=xs.length/\Rws X (q.2.2.take q.1) ((xs.take q.2.1).filter λx => !g x)/\∀ k,q.2.1≤k->q.2.2[k]? = rows[k]?) (λq=>xs.length - q.2.1) (i0,i0+1,rows) ⟨Nat.lt_succ_self _,hi0,hrl,hstart,λ_ _=>rfl⟩ ?_
  rintro ⟨m,j,rws⟩ ⟨hmj,hjn,hwl2,hpre,hrest⟩
  simp only at hmj hjn hwl2 hpre hrest
  dsimp only
  refine cS<|cQ<|sM Z<|sM Z<|sV (aF Z underlying52)<|sV (aN Z Z)<|sK [0,1,5,6,19] Z<|cC Z (λhd=>?_)<|λhd=>?_
  ·have hlt:j<xs.length:=Zx
   have hjr:j<rows.length:=by omega
   have hrow:rws[j]? = some rows[j]:=(hrest j<|Nat.le_refl _).trans<|Zy hjr
   have hrep:=hro.2 j _ xs[j] (Zy hjr)<|Zy hlt
   have hfx:=hf X (λ_ _ h=>h) xs[j] (List.getElem_mem hlt) _ hrep
   have htk:=bV hlt
   have hset:∀ r,(rws.set m r).take (m+1)=rws.take m++[r]:=λr=>by
    rw [List.take_succ_eq_append_getElem (by rw [List.length_set]; omega),List.take_set_of_le (Nat.le_refl _),List.getElem_set_self]
   generalize xs[j]=x at hrep hfx htk
   generalize rows[j]=r at hrow hrep hfx
   have hsz:r.length=14:=Enc.len hrep
   have hone:=Enc.ones hrep
   refine cK<|xT<|cS<|cB<|cQ<|sM Z<|sM Z<|sV (vI (k:=j) Z Z nU Z hlt Z)<|sV (af Z fB hsz<|dN hrow) ?_
   refine ax jY λb7=>?_
   refine ai (hl:=by rw [hsz]; rfl) Z Z iO hsz hone ?_
   refine sK [0,1,5,6,7] Z<|cQ<|sM Z<|sV (af Z fB hsz ah) ?_
   refine aY Z Z hE Z (hfx) ?_
   refine sV (bi Z)<|sK [0,1,5,6,7,29] Z<|cC Z (λhg=>?_)<|λhg=>?_
   ·have hgf:g x=false:=Zf
    have e1:[x].filter (λx => !g x)=[x]:=by simp [hgf]
    refine cQ<|sM Z<|sM Z<|sV (af Z fB hsz ah) ?_
    refine sV (vI (k:=m) Z Z nU Z (by omega) Z)<|wW (m:=m) (rows:=rws) (vs:=r) Z Z iO hsz (λu hu=>List.all_eq_true.1 hone u hu) (by omega) slq ?_
    refine sK [0,1,5,6] Z<|cR<|sM Z<|sV (aI Z Z Z6)<|sA Z<|sN<|nK [0,1,5,6] Z<|au<|xB<|xT<|cR<|sM Z<|sV (aI Z Z Z6)<|sA Z<|sN<|nK [0,1,5,6] Z<|au ?_
    refine aM (m+1,j+1,rws.set m r) ⟨by dsimp only; omega,hlt,by rw [List.length_set]; exact hwl2,by rw [hset,htk,List.filter_append,e1]; exact hpre.snoc hrep,λk hk=>by
     have hk:j+1≤k:=hk
     rw [List.getElem?_set_ne (by omega)]; exact hrest k (by omega)⟩ (by dsimp only; omega)
   ·have hgt:g x=true:=Zf
    have e1:[x].filter (λx => !g x)=[]:=by simp [hgt]
    refine cK<|xB<|xT<|cR<|sM Z<|sV (aI Z Z Z6)<|sA Z<|sN<|nK [0,1,5,6] Z<|au ?_
    refine aM (m,j+1,rws) ⟨by dsimp only; omega,hlt,hwl2,by rw [htk,List.filter_append,e1,List.append_nil]; exact hpre,λk hk=>hrest k (by dsimp only at hk; omega)⟩ (by dsimp only; omega)
  ·have hje:j=xs.length:=by
    have:¬ j<xs.length:=Zx
    omega
   subst hje
   rw [List.take_length] at hpre
   refine aB<|xE<|xE<|xY<|xT<|cQ<|sM Z<|sM Z<|sV (gG (show Value.slice (some ⟨b,if wc=m then o else o+m * 14,none⟩) (xs.length - m) (wc - m)=Value.slice (some ⟨b,o+m * 14,none⟩) (rws.length - m) (wc - m) by rw [if_neg (by omega),hwl2])<|j6 (lo:=m) Z Z nU Z (by omega)<|by omega) ?_
   refine pW (m:=m) (rows:=rws) rfl underlying52 ve rfl (λv hv=>by simp [Value.cells] at hv; (repeat (first | (rcases hv with rfl | hv; · rfl) | (subst hv; rfl)))) (by omega) slq ?_
   refine sK [0,5] Z<|cQ<|sM Z<|sM Z<|sV (jm (hi:=m) Z Z nU Z<|by omega)<|ql (vD (m:=m) ?_) ?_
   ·rw [List.length_append,List.length_take,List.length_replicate]; omega
   rw [List.take_append_of_le_length (by rw [List.length_take]; omega),List.take_take,Nat.min_self]
   refine sA Z<|sK [4] Z<|cT ?_
   exact aj Z ⟨_,Z,hpre,Z⟩ sbq
theorem G7 {v : Value} {rows : List (List Value)} {xs : List Fl} {kf : FuncId} {cp : Array Value} {g : Fl -> Bool} (hro : Rws X rows xs) (hb : xs.length * 72 ≤ 1099511627776) (hE : Ck.Enters prog kf) (hf : ∀ R : Res, (∀ p u, Rd X p u -> Rd R p u) -> ∀ a ∈ xs, ∀ us, Enc.rep R us a -> Reads prog kf (#[] ++ ([.agg us.toArray] : List Value).toArray ++ cp) [R] (.bool (g a))) :
  Ct prog 20 #[v,.func (.func kf) #[] cp] [VR v 55 4 rows,X] λu h'=>∃ rows',u.oneCell'=true/\Rws X rows' (xs.filter λx => !g x)/\h'=[VR u 55 4 rows',X]:=by
 have hml:maxLen=9223372036854775807:=rfl
 have hrb:reachBytes=140737488351232:=rfl
 have hrl:=hro.1
 refine aL (n:=42) func20 Z Z (len Z) λhr w0=>?_
 refine fw (r:=VR v 55 4 rows) slq λhok=>?_
 have ho:=VR.one hok.choose_spec
 have hls:Ls (Res.star [VR v 55 4 rows,X]) v xs:=Rws.ls (E:=55) (jb hro<|bH<|.there .here) hok (bH .here) (show xs.length * 72≤reachBytes by omega)
 have hix:=eG<|NY (g:=g) (cp:=cp) hls hE<|hf _<|bH<|.there .here
 refine fq (v:=v) (E:=55) (sz:=4) (rows:=rows) slq λwa wc hwf hwl hwm=>?_
 rw [hrl] at hwf hwl
 subst hwf
 refine cQ<|sA Z<|sN<|nT<|cQ<|sM Z<|sM Z<|aY Z Z en65 Z (hix) ?_
 refine sA Z<|sK [0,1,4,5] Z<|cS<|cQ<|sM Z<|sV (dD Z Z)<|sK [0,1,4,5,12] Z ?_
 rw [AQ]
 cases hq:xs.findIdx? g with
 | none =>
  have hall:(xs.filter λx => !g x)=xs:=by
   rw [List.filter_eq_self]
   intro x hx
   simp [List.findIdx?_eq_none_iff.1 hq x hx]
  rw [hall]
  refine aT Z ?_
  refine cQ<|sM Z<|sA Z<|sK [4] Z<|cT<|xR ?_
  exact aj Z ⟨rows,ho,hro,Z⟩ sbq
 | some i0 =>
  obtain ⟨hi0,hg0,hbf⟩:=List.findIdx?_eq_some_iff_getElem.1 hq
  obtain ⟨b,o,rfl⟩:∃ b o,wa=some ⟨b,o,none⟩:=by
   obtain ⟨f0,hf0⟩:=hok
   rcases VR.form hf0 with ⟨h3,h4⟩ | ⟨b,o,cp,h3,-⟩
   ·rw [h4] at hrl; simp at hrl; omega
   ·rw [hrl] at h3; cases h3; exact ⟨b,o,rfl⟩
  have hf0:(xs.take i0).filter (λx => !g x)=xs.take i0:=by
   rw [List.filter_eq_self]
   intro x hx
   obtain ⟨j,hj,rfl⟩:=List.getElem_of_mem hx
   rw [List.length_take] at hj
   rw [List.getElem_take]
   simpa using hbf j (by omega)
  have hstart:Rws X (rows.take i0) ((xs.take (i0+1)).filter λx => !g x):=by
   rw [List.take_succ_eq_append_getElem hi0,List.filter_append,hf0]
   have:[xs[i0]].filter (λx => !g x)=[]:=by simp [hg0]
   rw [this,List.append_nil]
   refine ⟨by rw [List.length_take,List.length_take,hrl],λj us x h1 h2=>?_⟩
   rw [List.getElem?_take] at h1 h2
   split at h1
   ·rename_i hji; rw [if_pos hji] at h2; exact hro.2 j us x h1 h2
   ·cases h1
  rw [show ixI (some i0)=((i0:Nat):Int) from rfl]
  refine aG Z ?_
  refine cK<|xT<|cS<|cQ<|sM Z<|sV (aI Z Z Z6)<|sA Z<|sK [0,1,4,5,6] Z<|cB<|aZ (σ := Nat×Nat×List (List Value)) (λq=>[(0,.slice (some ⟨b,o,none⟩) xs.length wc),(1,.func (.func kf) #[] cp),(5,.int .i64 (q.1:Nat)),(6,.int .i64 (q.2.1:Nat))]) (λq=>VR (.slice (some ⟨b,o,none⟩) xs.length wc) 55 4 q.2.2::X::hr) (λq=>q.1<q.2.1/\q.2.1≤xs.length/\q.2.2.length=xs.length/\Rws X (q.2.2.take q.1) ((xs.take q.2.1).filter λx => !g x)/\∀ k,q.2.1≤k->q.2.2[k]? = rows[k]?) (λq=>xs.length - q.2.1) (i0,i0+1,rows) ⟨Nat.lt_succ_self _,hi0,hrl,hstart,λ_ _=>rfl⟩ ?_
  rintro ⟨m,j,rws⟩ ⟨hmj,hjn,hwl2,hpre,hrest⟩
  simp only at hmj hjn hwl2 hpre hrest
  dsimp only
  refine cS<|cQ<|sM Z<|sM Z<|sV (aF Z underlying32)<|sV (aN Z Z)<|sK [0,1,5,6,19] Z<|cC Z (λhd=>?_)<|λhd=>?_
  ·have hlt:j<xs.length:=Zx
   have hjr:j<rows.length:=by omega
   have hrow:rws[j]? = some rows[j]:=(hrest j<|Nat.le_refl _).trans<|Zy hjr
   have hrep:=hro.2 j _ xs[j] (Zy hjr)<|Zy hlt
   have hfx:=hf X (λ_ _ h=>h) xs[j] (List.getElem_mem hlt) _ hrep
   have htk:=bV hlt
   have hset:∀ r,(rws.set m r).take (m+1)=rws.take m++[r]:=λr=>by
    rw [List.take_succ_eq_append_getElem (by rw [List.length_set]; omega),List.take_set_of_le (Nat.le_refl _),List.getElem_set_self]
   generalize xs[j]=x at hrep hfx htk
   generalize rows[j]=r at hrow hrep hfx
   have hsz:r.length=4:=Enc.len hrep
   have hone:=Enc.ones hrep
   refine cK<|xT<|cS<|cB<|cQ<|sM Z<|sM Z<|sV (vI (k:=j) Z Z sl32 Z hlt Z)<|sV (af Z yw hsz<|dN hrow) ?_
   refine ax al55 λb7=>?_
   refine ai (hl:=by rw [hsz]; rfl) Z Z zH hsz hone ?_
   refine sK [0,1,5,6,7] Z<|cQ<|sM Z<|sV (af Z yw hsz ah) ?_
   refine aY Z Z hE Z (hfx) ?_
   refine sV (bi Z)<|sK [0,1,5,6,7,29] Z<|cC Z (λhg=>?_)<|λhg=>?_
   ·have hgf:g x=false:=Zf
    have e1:[x].filter (λx => !g x)=[x]:=by simp [hgf]
    refine cQ<|sM Z<|sM Z<|sV (af Z yw hsz ah) ?_
    refine sV (vI (k:=m) Z Z sl32 Z (by omega) Z)<|wW (m:=m) (rows:=rws) (vs:=r) Z Z zH hsz (λu hu=>List.all_eq_true.1 hone u hu) (by omega) slq ?_
    refine sK [0,1,5,6] Z<|cR<|sM Z<|sV (aI Z Z Z6)<|sA Z<|sN<|nK [0,1,5,6] Z<|au<|xB<|xT<|cR<|sM Z<|sV (aI Z Z Z6)<|sA Z<|sN<|nK [0,1,5,6] Z<|au ?_
    refine aM (m+1,j+1,rws.set m r) ⟨by dsimp only; omega,hlt,by rw [List.length_set]; exact hwl2,by rw [hset,htk,List.filter_append,e1]; exact hpre.snoc hrep,λk hk=>by
     have hk:j+1≤k:=hk
     rw [List.getElem?_set_ne (by omega)]; exact hrest k (by omega)⟩ (by dsimp only; omega)
   ·have hgt:g x=true:=Zf
    have e1:[x].filter (λx => !g x)=[]:=by simp [hgt]
    refine cK<|xB<|xT<|cR<|sM Z<|sV (aI Z Z Z6)<|sA Z<|sN<|nK [0,1,5,6] Z<|au ?_
    refine aM (m,j+1,rws) ⟨by dsimp only; omega,hlt,hwl2,by rw [htk,List.filter_append,e1,List.append_nil]; exact hpre,λk hk=>hrest k (by dsimp only at hk; omega)⟩ (by dsimp only; omega)
  ·have hje:j=xs.length:=by
    have:¬ j<xs.length:=Zx
    omega
   subst hje
   rw [List.take_length] at hpre
   refine aB<|xE<|xE<|xY<|xT<|cQ<|sM Z<|sM Z<|sV (gG (show Value.slice (some ⟨b,if wc=m then o else o+m * 4,none⟩) (xs.length - m) (wc - m)=Value.slice (some ⟨b,o+m * 4,none⟩) (rws.length - m) (wc - m) by rw [if_neg (by omega),hwl2])<|j6 (lo:=m) Z Z sl32 Z (by omega)<|by omega) ?_
   refine pW (m:=m) (rows:=rws) rfl underlying32 kL rfl (λv hv=>by simp [Value.cells] at hv; (repeat (first | (rcases hv with rfl | hv; · rfl) | (subst hv; rfl)))) (by omega) slq ?_
   refine sK [0,5] Z<|cQ<|sM Z<|sM Z<|sV (jm (hi:=m) Z Z sl32 Z<|by omega)<|ql (vD (m:=m) ?_) ?_
   ·rw [List.length_append,List.length_take,List.length_replicate]; omega
   rw [List.take_append_of_le_length (by rw [List.length_take]; omega),List.take_take,Nat.min_self]
   refine sA Z<|sK [4] Z<|cT ?_
   exact aj Z ⟨_,Z,hpre,Z⟩ sbq
end
section
variable {X Y:Res} {v v':Value} {us us':List Value}
theorem Jl {x:Cm} {b4 i:Nat} (h:Enc.rep X us x) (hrd:Rd X ⟨b4,0,none⟩ (.int .i64 (i:Nat))):Reads prog 263 #[.agg us.toArray,.pointer (some ⟨b4,0,none⟩)] [X] (.bool (!(x.par == i))):=by
 obtain ⟨x2,x5,xy,x11,x12,x13,rfl,_⟩:=iC h
 unfold oJ
 refine aL (n:=8) func263 Z Z (len Z) λhr w0=>?_
 refine cQ (aV Z Z λb2=>?_)
 refine sA Z<|sK [1,2,3] Z<|cQ<|sV (vF Z yQ Z)<|sV (vY Z ld3) ?_
 refine sV (vY Z ld3) ?_
 refine sV (bM Z Z)<|sA Z<|sK [3] Z<|cT ?_
 rw [show (((x.par:Nat):Int) != ((i:Nat):Int)) = !(x.par == i) by
  rw [Bool.eq_iff_iff]; simp; omega]
 exact aj Z ⟨Z,Z⟩ sbq
theorem en263:Ck.Enters prog 263:=enters_of func263 Zz rfl
theorem qf {fv:Value} {c:FC} {ca cb ce cf ci mv:Value} {all:Bool} {bm i:Nat} {m:List (Nm×Value)} {n:Nm} {xs:List Cm} (hlk:Ls X ((bK m n).getD (.slice none 0 0)) xs) (hb:xs.length * 280≤1099511627776) :
  CtX prog 206 #[.agg (fu v fv c ca cb ce cf ci mv (.map<|some bm) all).toArray,.int .i64 (i:Nat),sv n] X [mps bm m] λu Y k'=>∃ rows,u.oneCell'=true/\Rws Y rows (xs.filter λx=>x.par == i)/\k'=[VR u 191 18 rows,mps bm m]:=by
 have hfl:(xs.filter λx => !(!(x.par == i)))=xs.filter λx=>x.par == i:=by simp
 unfold fu CtX
 refine aL (n:=14) func206 Z Z (len Z) λhr w0=>?_
 refine cQ (aV Z Z λb3=>?_)
 refine aV Z Z λb4=>?_
 refine sA Z<|sK [2,3,4,6] Z<|cQ<|sV (vF Z o9 Z)<|sV (vY Z qW) ?_
 refine sM Z<|sV (bI Z Z sQ tL slq) ?_
 refine aH Z Z en262 Z (Gx hlk) ?_
 rintro u h' ⟨T,rfl,rows,rfl,ho,hr⟩
 simp only [lC,lN]
 refine sV (bW Z Z) (KH [pt b4 (cl [.int .i64 (i:Nat)] 3)] X λY hE hsel hpk=>?_)
 refine aH Z Z en261 Z (Mc (g:=λx => !(x.par == i)) (cp := #[.pointer (some ⟨b4,0,none⟩)]) (hr.up hE) hb en263 λR hRY a _ us h=>Jl (i:=i) h<|hRY _ _<|hsel _ _ .here _ _<|bU Z) ?_
 rintro u h' ⟨rows',hu,hr',rfl⟩
 simp only [lC,lN]
 rw [hfl] at hr'
 refine sA Z<|sK [6] Z<|cT ?_
 exact aj Z ⟨Y,_,Z,hE,rows',hu,hr',Z⟩ sbq
end
end Go.Fl
namespace Go.Fl
open Go Go.Hr
def dSds (l:FS):List Sd:=l.flatMap λc=>c.feats.map λf=>⟨c.name,f.name⟩
def dPre (l:FS):List Grp:=l.flatMap λc=>c.feats.map λf=>⟨c.name,f.req⟩
def dPost (l:FS):List Grp:=l.flatMap λc=>c.feats.map λf=>⟨c.name,f.ens⟩
structure MOk (l:FS) (m:Mb):Prop where
 name:m.name.length≤20
 snd:m.seeds.Nodup
 sds:∀ s∈m.seeds,s∈dSds l
 pnd:m.pre.Nodup
 pre:∀ g∈m.pre,g∈dPre l
 qnd:m.post.Nodup
 post:∀ g∈m.post,g∈dPost l
theorem Jm {o:List Grp} {g:Grp} (h:o.Nodup):(vH o g).Nodup:=by
 unfold vH
 split
 ·exact h
 ·rename_i hg
  have hg:g ∉ o:=by simpa using hg
  refine List.nodup_append.2 ⟨h,by simp,λa ha b hb e=>?_⟩
  rw [List.mem_singleton.1 hb] at e
  exact hg (e ▸ ha)
theorem Jn {l o:List Grp} (h:o.Nodup):(ru o l).Nodup:=by
 unfold ru
 induction l generalizing o with
 | nil=>exact h
 | cons g t ih=>exact ih (Jm h)
theorem qg (ls:List (List Grp)):(groups ls).Nodup:=by
 have key:∀ (ls:List (List Grp)) (o:List Grp),o.Nodup->(ls.foldl ru o).Nodup:=by
  intro ls
  induction ls with
  | nil=>exact λ_ h=>h
  | cons a t ih=>exact λo h=>ih _ (Jn h)
 exact key ls [] List.nodup_nil
theorem mQ (cs:List Cm) (f:Cm->List Grp):(cs.foldl (λ(o:List Grp) (y:Cm)=>groups [o,f y]) []).Nodup:=by
 have key:∀ (cs:List Cm) (o:List Grp),o.Nodup->(cs.foldl (λ(o:List Grp) (y:Cm)=>groups [o,f y]) o).Nodup:=by
  intro cs
  induction cs with
  | nil=>exact λ_ h=>h
  | cons a t ih=>exact λo h=>ih _ (qg _)
 exact key cs [] List.nodup_nil
theorem yB.nodup {xs:List Sd} (h:yB xs):xs.Nodup:=by
 rw [List.nodup_iff_pairwise_ne]
 exact h.imp λ{a b} hab e=>by
  subst e
  rw [pR] at hab; cases hab
theorem Dm {s:Nm} (h:small s=true):s.length≤20:=by
 unfold small at h
 split at h
 ·simp
 ·simp only [Bool.and_eq_true,decide_eq_true_eq] at h
  exact h.1.1.1
section
variable {l:FS}
theorem G8 {c:FC} (hc:CRight l c) {p:Pt} (hp:p∈c.pars) {n:Nm} (hn:n.length≤20):(bN p n).length≤20:=by
 unfold bN
 cases hf:p.ren.find? λx=>x.fro == n with
 | none=>exact hn
 | some x=>exact Dm (hc.tosmall p hp x (List.mem_of_find?_eq_some hf))
theorem y8 {fl:Nm->Fl} (h:∀ n,∀ m∈(fl n).mems,MOk l m) {c:FC} (hc:CRight l c) {x:Cm} (hx:x∈comes fl l c):MOk l x.mem:=by
 obtain ⟨p,hp,m,hm,e⟩:=jq hx
 have h1:=h _ m hm
 rw [e]
 exact ⟨G8 hc (List.mem_of_getElem? hp) h1.name,h1.snd,h1.sds,h1.pnd,h1.pre,h1.qnd,h1.post⟩
theorem Dn {cs:List Cm} (h:∀ x∈cs,MOk l x.mem) (h0:cs≠[]):MOk l (joined cs):=by
 obtain ⟨x,hx,h1,_⟩:=mO cs h0
 exact ⟨h1 ▸ (h x hx).name,(jO _).1.nodup,λs hs=>by
   obtain ⟨y,hy,h2⟩:=kX.1 hs
   exact (h y hy).sds s h2,mQ cs λx=>x.mem.pre,λg hg=>by
   obtain ⟨y,hy,h2⟩:=ui.1 hg
   exact (h y hy).pre g h2,mQ cs λx=>x.mem.post,λg hg=>by
   obtain ⟨y,hy,h2⟩:=rG.1 hg
   exact (h y hy).post g h2⟩
theorem own_ok {cs:List Cm} {c:FC} {f:Fe} (hc:CRight l c) (hcl:c∈l) (hf:f∈c.feats) (h:∀ x∈cs,MOk l x.mem):MOk l (jN c f cs):=by
 have hp:(⟨c.name,f.req⟩:Grp)∈dPre l:=List.mem_flatMap.2 ⟨c,hcl,List.mem_map.2 ⟨f,hf,rfl⟩⟩
 have hq:(⟨c.name,f.ens⟩:Grp)∈dPost l:=List.mem_flatMap.2 ⟨c,hcl,List.mem_map.2 ⟨f,hf,rfl⟩⟩
 have hs:(⟨c.name,f.name⟩:Sd)∈dSds l:=List.mem_flatMap.2 ⟨c,hcl,List.mem_map.2 ⟨f,hf,rfl⟩⟩
 have hn:=Dm<|hc.fsmall f hf
 have hpost:∀ g∈(if f.ens=[] then ([]:List Grp) else [⟨c.name,f.ens⟩]),g∈dPost l:=λg hg=>by
  split at hg
  ·cases hg
  ·rw [List.mem_singleton.1 hg]; exact hq
 by_cases h0:cs=[]
 ·subst h0
  refine ⟨hn,?_,?_,?_,?_,?_,hpost⟩
  ·show ([_]:List Sd).Nodup
   simp
  ·intro s h2
   have h2:s∈([⟨c.name,f.name⟩]:List Sd):=h2
   rw [List.mem_singleton.1 h2]; exact hs
  ·show ([_]:List Grp).Nodup
   simp
  ·intro s h2
   have h2:s∈([⟨c.name,f.req⟩]:List Grp):=h2
   rw [List.mem_singleton.1 h2]; exact hp
  ·show (if f.ens=[] then ([]:List Grp) else [⟨c.name,f.ens⟩]).Nodup
   split <;> simp
 ·have hj := Dn h h0
  unfold jN
  simp only []
  rw [if_neg h0]
  refine ⟨hn,hj.snd,hj.sds,qg _,λg hg=>?_,qg _,λg hg=>?_⟩
  ·obtain ⟨a,ha,hga⟩:=lV.1 hg
   simp only [List.mem_cons,List.not_mem_nil,or_false] at ha
   rcases ha with rfl | rfl
   ·exact hj.pre g hga
   ·split at hga
    ·cases hga
    ·rw [List.mem_singleton.1 hga]; exact hp
  ·obtain ⟨a,ha,hga⟩:=lV.1 hg
   simp only [List.mem_cons,List.not_mem_nil,or_false] at ha
   rcases ha with rfl | rfl
   ·exact hj.post g hga
   ·exact hpost g hga
theorem za {fl:Nm->Fl} (h:∀ n,∀ m∈(fl n).mems,MOk l m) {c:FC} (hc:CRight l c) (hcl:c∈l):∀ m∈members (comes fl l c) c,MOk l m:=λm hm=>by
 rcases (xQ hc.names).1 hm with ⟨n,⟨x,hx,hxn⟩,_,rfl⟩ | ⟨f,hf,rfl⟩
 ·exact Dn (λy hy=>y8 h hc (gq.1 hy).1)<|List.ne_nil_of_mem<|gq.2 ⟨hx,hxn⟩
 ·exact own_ok hc hcl hf λy hy=>y8 h hc (gq.1 hy).1
theorem G9 {c:Nm}:ae l c∈l∨ae l c=Bi:=by
 cases h:bE l c with
 | none=>exact .inr (vJ h)
 | some x=>rw [gJ h]; exact .inl (List.mem_of_find?_eq_some h)
theorem OG (hR : FRight l) : ∀ (n : Nat) (c : Nm), ∀ m ∈ (flF l n c).mems, MOk l m
 | 0,c,m,hm=>by cases hm
 | n + 1, c, m, hm => by
  rcases G9 (l:=l) (c:=c) with h | h
  ·exact za (OG hR n) (gL<|hR.form _ h) h m hm
  ·have:(flF l (n+1) c).mems=[]:=by
    show members (comes (flF l n) l<|ae l c) (ae l c)=[]
    rw [h]; rfl
   rw [this] at hm; cases hm
theorem FL_ok (hR:FRight l) (c:Nm):∀ m∈(FL l c).mems,MOk l m:=OG hR _ c
structure FlB (l:FS) (fl:Nm->Fl):Prop where
 few:∀ n,(fl n).mems.length≤60
 ok:∀ n,∀ m∈(fl n).mems,MOk l m
theorem OH (hR:FRight l) {o:List Nm} (h:∀ n∈o,okF l n):FlB l (look (forms l o)):=by
 have key:∀ n,look (forms l o) n=fl0∨(n∈o/\look (forms l o) n=FL l n):=λn=>by
  by_cases hn:n∈o
  ·exact .inr ⟨hn,pO hn⟩
  ·exact .inl<|Lf hn
 constructor
 ·intro n
  rcases key n with h1 | ⟨h1,h2⟩
  ·rw [h1]; exact Nat.zero_le _
  ·rw [h2,jE hR.sys]
   have:=(h n h1).2
   unfold over at this
   simp only [Bool.or_eq_false_iff,decide_eq_false_iff_not] at this
   omega
 ·intro n m hm
  rcases key n with h1 | ⟨h1,h2⟩
  ·rw [h1] at hm; cases hm
  ·rw [h2] at hm; exact FL_ok hR n m hm
theorem jc {α β : Type} {f : α -> List β} {k:Nat}:∀ {xs:List α},(∀ x∈xs,(f x).length≤k)->(xs.flatMap f).length≤xs.length * k
 | [],_=>by simp
 | a::t,h=>by
  have h1:=h a<|by simp
  have h2:=jc (f:=f) (xs:=t) λx hx=>h x<|by simp [hx]
  rw [List.flatMap_cons,List.length_append,List.length_cons,Nat.add_mul,Nat.one_mul]
  omega
theorem dLen {β : Type} (hR:FRight l) (g:FC->Fe -> β):(l.flatMap λc=>c.feats.map (g c)).length≤1440:=by
 have h1:=jc (xs:=l) (f:=λc=>c.feats.map<|g c) (k:=60) λc hc=>by
  rw [List.length_map]; exact (gL<|hR.form c hc).feats
 have h2:=hR.sys.len
 rw [eO] at h2
 omega
theorem MOk.lens (hR:FRight l) {m:Mb} (h:MOk l m):m.seeds.length≤1440/\m.pre.length≤1440/\m.post.length≤1440 :=
 ⟨Nat.le_trans (aW h.snd h.sds) (dLen hR _),Nat.le_trans (aW h.pnd h.pre) (dLen hR _),Nat.le_trans (aW h.qnd h.post)<|dLen hR _⟩
theorem OI (hR:FRight l) {c:FC} (hc:c∈l):c.pars.length≤4:=by
 have:=hR.sys.few c.cls<|List.mem_map.2 ⟨c,hc,rfl⟩
 simpa [FC.cls] using this
theorem xk (hR:FRight l) {fl:Nm->Fl} (h:FlB l fl) {c:FC} (hc:c∈l):(comes fl l c).length≤240:=by
 have h1:=jc (xs:=c.pars.zipIdx) (f:=λq:Pt×Nat=>(fl q.1.name).mems.map<|rf (ae l q.1.name).forms q.2 q.1) (k:=60) λq _=>by
  rw [List.length_map]; exact h.few _
 have h2:=OI hR hc
 have h3:(comes fl l c).length≤c.pars.zipIdx.length * 60:=h1
 rw [List.length_zipIdx] at h3
 omega
theorem Jo (hR:FRight l) {fl:Nm->Fl} (h:FlB l fl) {c:FC} (hc:c∈l):((comes fl l c).flatMap λx=>x.mem.seeds).length≤345600/\((comes fl l c).flatMap λx=>x.mem.pre).length≤345600/\((comes fl l c).flatMap λx=>x.mem.post).length≤345600:=by
 have h1:=xk hR h hc
 have h2:=λx (hx:x∈comes fl l c)=>(y8 h.ok (gL<|hR.form c hc) hx).lens hR
 have g1:=jc (xs:=comes fl l c) (f:=λx=>x.mem.seeds) (k:=1440) λx hx=>(h2 x hx).1
 have g2:=jc (xs:=comes fl l c) (f:=λx=>x.mem.pre) (k:=1440) λx hx=>(h2 x hx).2.1
 have g3:=jc (xs:=comes fl l c) (f:=λx=>x.mem.post) (k:=1440) λx hx=>(h2 x hx).2.2
 omega
theorem Ha (hR:FRight l) {fl:Nm->Fl} (h:FlB l fl) {c:FC} (hc:c∈l):(members (comes fl l c) c).length≤300/\((members (comes fl l c) c).flatMap λm=>m.seeds).length≤432000:=by
 have hC:=gL<|hR.form c hc
 have h1:=xk hR h hc
 have hn:=(pU (comes fl l c) hC.names)
 have hk:(keys<|comes fl l c).length≤(comes fl l c).length:=by
  have:(keys<|comes fl l c).length≤((comes fl l c).map λx=>x.mem.name).length:=aW (iq _) λn hn=>by
   obtain ⟨x,hx,e⟩:=kr.1 hn
   exact List.mem_map.2 ⟨x,hx,e⟩
  simpa using this
 have h2:(members (comes fl l c) c).length≤(ug (comes fl l c) c).length:=by
  have:((members (comes fl l c) c).map λm=>m.name).length≤((ug (comes fl l c) c).map λm=>m.name).length:=aW hn.1.nodup λn hn'=>by
   obtain ⟨m,hm,e⟩:=List.mem_map.1 hn'
   exact List.mem_map.2 ⟨m,(hn.2 m).1 hm,e⟩
  simpa using this
 have h3:(ug (comes fl l c) c).length≤300:=by
  unfold ug
  rw [List.length_append,List.length_map,List.length_map]
  have:=List.length_filter_le (λn=>(feat c n).isNone)<|keys<|comes fl l c
  have:=hC.feats
  omega
 have g1:=jc (xs:=members (comes fl l c) c) (f:=λm=>m.seeds) (k:=1440) λm hm=>((za h.ok hC hc m hm).lens hR).1
 omega
end
end Go.Fl
namespace Go.Ck
open Go Go.RowKit
def dz (w:World):World:={ w with drawn:=0 }
theorem vX (w:World):Same (dz w) w:=⟨rfl,rfl,rfl,Nat.zero_le _,Nat.le_refl _,λ_ _=>rfl⟩
theorem Same.dz {w w':World} (h:Same w w'):Same (dz w) w':=(vX w).trans h
theorem Same.dtrans {w0 w w':World} (h:Same w0 w) (h0:w0.drawn=0) (k:Same (Go.Ck.dz w) w'):Same w0 w' :=
 ⟨k.os.trans h.os,k.tape.trans h.tape,k.output.trans h.output,by rw [h0]; exact Nat.zero_le _,Nat.le_trans h.size k.size,λx hx=>(k.fz x<|Nat.lt_of_lt_of_le hx h.size).trans<|h.fz x hx⟩
def Ctw (P:Program) (k:FuncId) (args:Array Value) (hf:SH) (R:Value->SH->Prop):Prop :=
 ∀ (hr:SH) (w:World),Holds w (hf++hr)->Calls P k args w λe w'=>∃ v h',e = .returned v/\R v h'/\Holds w' (h'++hr)/\Same (dz w) w'
theorem Ct.w {P:Program} {k:FuncId} {args:Array Value} {hf:SH} {R:Value->SH->Prop} (h:Ct P k args hf R):Ctw P k args hf R :=
 λhr w hh=>(h hr w hh).mono λ_ _ ⟨v,h',e,r,g,s⟩=>⟨v,h',e,r,g,s.dz⟩
theorem Ctw.mono {P:Program} {k:FuncId} {args:Array Value} {hf:SH} {R R':Value->SH->Prop} (h:Ctw P k args hf R) (hr:∀ v h',R v h'->R' v h'):Ctw P k args hf R' :=
 λhr' w hw=>(h hr' w hw).mono λ_ _ ⟨v,h',e,r,rest⟩=>⟨v,h',e,hr v h' r,rest⟩
theorem Ctw.perm {P:Program} {k:FuncId} {args:Array Value} {hf hf':SH} {R:Value->SH->Prop} (h:Ctw P k args hf R) (p:hf.Perm hf'):Ctw P k args hf' R :=
 λhr w hw=>h hr w ((bu.perm<|p.append_right hr).2 hw)
def dQ (P:Program) (k:FuncId) (args:Array Value) (X:Res) (hf:SH) (R:Value->Res->SH->Prop):Prop:=Ctw P k args (X::hf) λu h'=>∃ Y k',h'=Y::k'/\Ext X Y/\R u Y k'
theorem fQ {P:Program} {k:FuncId} {fn:Func} {x:Code} {n:Nat} {l:List Value} {hf:SH} {R:Value->SH->Prop} (hF:P.funcs[k]? = some fn) (hb:fn.body=some x) (hnt:fn.ntmps=n) (hn:l.length≤n)
  (hc:∀ (hr:SH) (w0:World),w0.drawn=0->Cd ⟨P,none,n,[],w0⟩ x (bodyPost P fn<|Post w0 hr R) (Env.ofArgs 0 l) (hf++hr)):Ctw P k l.toArray hf R:=λhr w hh=>by
 refine uO (r:=none) (n:=0)<|callsIn_of_wp hF hb trivial<|hc hr (dz w) Z _ w ⟨?_,Z,λi v hi=>?_⟩ hh<|vX w
 ·simp; omega
 ·obtain ⟨_,h2⟩:=Env.ofArgs_get hi
  simp only [Nat.sub_zero] at h2
  have hlt:i<l.length:=(List.getElem?_eq_some_iff.1 h2).1
  rw [Zy hlt,Option.some.injEq] at h2
  simp [Array.getElem?_append,hlt,h2]
theorem EG {P:Program} {k:FuncId} {fn:Func} {x:Code} {n:Nat} {l:List Value} {hf:SH} {R:Value->SH->Prop} (hF:P.funcs[k]? = some fn) (hb:fn.body=some x) (hnt:fn.ntmps=n) (hn:l.length≤n)
  (hc:∀ (hr:SH) (w0:World),w0.drawn=0->Cd ⟨P,none,n,[],w0⟩ x (bodyPostM (Fw none) 0 P fn<|Post w0 hr R) (Env.ofArgs 0 l) (hf++hr)):Ctw P k l.toArray hf R:=λhr w hh=>by
 refine uO (r:=none) (n:=0)<|callsIn_of_wp_marks hF hb trivial<|hc hr (dz w) Z _ w ⟨?_,Z,λi v hi=>?_⟩ hh<|vX w
 ·simp; omega
 ·obtain ⟨_,h2⟩:=Env.ofArgs_get hi
  simp only [Nat.sub_zero] at h2
  have hlt:i<l.length:=(List.getElem?_eq_some_iff.1 h2).1
  rw [Zy hlt,Option.some.injEq] at h2
  simp [Array.getElem?_append,hlt,h2]
section
variable {c:Cx} {ops:Array Oper} {K:Act->World->Prop} {rest:List Oper} {e:Env} {h hr:SH}
theorem bL {d:Nat} {f:Operand} {az:Array Operand} {ts:Array TypeId} {ty:TypeId} {pos:String} {after:Array Edge} {k:FuncId} {fi cp:Array Value} {vs:List Value} {args:Array Value} {hf:SH} {R:Value->SH->Prop} (h0:c.w0.drawn=0)
  (hv:e.ev? f=some (.func (.func k) fi cp)) (has:az.toList.mapM e.ev? = some vs) (hE:Enters c.P k) (ha:fi++vs.toArray++cp=args) (ct:Ctw c.P k args hf R)
  (hn:∀ v h',R v h'->St c ops K rest ((d,v)::e) (h'++hr)) (pk:Pk h hf hr:=by repeat (first | exact Pk.nil | (apply Pk.cons; (repeat (first | exact Sel.here | apply Sel.there))))) (hd:d<c.n:=by exact ltn rfl) :
  St c ops K (⟨some d,.call { callee:=.value f,args:=az,argTypes:=ts },ty,pos,after,none⟩::rest) e h :=
 eB (by simp) λa w hk hh hs=>by
  rw [qH hv has hE ha hk.evs]
  exact (ct hr w<|hh.pk pk).mono λ_ w' ⟨v,h',he,hR,hH,hS⟩=>⟨v,he,hn v h' hR _ w' (hk.put v hd) hH<|hs.dtrans h0 hS⟩
end
theorem xn {P : Program} {n : Nat} {ds : List Deferred} {w0 : World} {Q : Exit -> Act -> World -> Prop} {e : Env} {h : SH} {g : Operand} {k : FuncId} {fi cp : Array Value} {ps : Array Tmp} {assign body : Code} (h0 : w0.drawn = 0)
  (hg:e.ev? g=some (.func (.func k) fi cp)) (hE:Enters P k)
  (hct:∀ (l db:Nat) (rec:Loop),rec.state = .ready->rec.pending=none->rec.params=ps->rec.assign=assign->rec.body=body->Kn n [] { tmps:=rec.tmps,defers:=[] } e ->
   ∃ R',Ctw P k (fi ++ #[.func (.yield l) #[] #[]]++cp) (pt l (.loop rec)::pt db (.deferred<|some [])::h) R' /\
    ∀ v h',R' v h'->∃ rec h'',Sel h' (pt l (.loop rec)) h''/\rec.state≠.busy/\(match rec.pending with | none=>Xt ⟨P,none,n,mk db::ds,w0⟩ .normal Q e h'' | some x=>Cd ⟨P,none,n,mk db::ds,w0⟩ x Q e h'')) :
  Cd ⟨P,none,n,ds,w0⟩ (.rangeFunc g ps assign body) Q e h:=λa w hk hh hw=>by
 refine wpIn_rangeFunc λfn _=>?_
 obtain ⟨R',ct,hR'⟩:=hct (w.heap.size+1) w.heap.size (qL fn a.tmps ps assign body w.heap.size) rfl rfl rfl rfl rfl ⟨hk.size,rfl,hk.get⟩
 have h1:=Holds.alloc (Holds.alloc hh<|.deferred<|some [])<|.loop<|qL fn a.tmps ps assign body w.heap.size
 have hsz:(w.alloc<|.deferred<|some []).heap.size=w.heap.size+1:=World.size_alloc _ _
 rw [hsz] at h1
 refine ⟨_,_,_,⟨.fn (.func k) cp,fi ++ #[.func (.yield (w.heap.size+1)) #[] #[]]⟩,(w.alloc<|.deferred<|some []).alloc (.loop<|qL fn a.tmps ps assign body w.heap.size),k,fi ++ #[.func (.yield (w.heap.size+1)) #[] #[]]++cp,(w.alloc<|.deferred<|some []).alloc (.loop<|qL fn a.tmps ps assign body w.heap.size),run_enterLoop_outer fn a.tmps ps assign body,?_,λ_ _=>trivial,?_,λh=>by simp [Fw,Fence.wide] at h,?_⟩
 ·simp only [resolve,hk.ev hg,Deferred.ofValue,Sem.run_bind,Sem.run_pure,Result.andThen_ok]
  simp [Act.eval,qL]
 ·have:(invoke (.fn (.func k) cp) (fi ++ #[.func (.yield (w.heap.size+1)) #[] #[]])).run P ((w.alloc<|.deferred<|some []).alloc<|.loop<|qL fn a.tmps ps assign body w.heap.size) = .ok (.enter k (fi ++ #[.func (.yield (w.heap.size+1)) #[] #[]]++cp)) ((w.alloc<|.deferred<|some []).alloc<|.loop<|qL fn a.tmps ps assign body w.heap.size):=hE _ _
  exact this
 ·have hgr:Same w ((w.alloc<|.deferred<|some []).alloc<|.loop<|qL fn a.tmps ps assign body w.heap.size):=(Grew.alloc _ _ rfl).toSame.trans (Grew.alloc _ _ rfl).toSame
  have hctw:=ct [] _ Ze
  refine tF (Calls.mono hctw λen w' ⟨v,h',he,hRv,hH,hS⟩=>?_)
  subst he
  obtain ⟨rec,h'',s,hbusy,hj⟩:=hR' v h' hRv
  have hH':=(show Holds w' h' by simpa using hH).sel s
  refine ⟨rec.pending,_,run_endLoop hH'.1 hbusy,?_⟩
  have hk2:Kn n (mk w.heap.size::ds) { a with defers:=[{ target:=.collected w.heap.size,args := #[] }]++a.defers } e:=⟨hk.size,by simp [mk,hk.defers],hk.get⟩
  have hH2:∀ o,Holds (w'.putObj (w.heap.size+1) o) h'':=λo=>(Holds.putObj hH' o).2.2
  have hS2:∀ r,Same w0 (w'.putObj (w.heap.size+1)<|.loop r):=λr=>((hw.trans hgr).dtrans h0 hS).trans<|Same.putObj _ _ _ hH'.1 rfl rfl
  generalize rec.pending=j at hj ⊢
  cases j with
  | none=>exact hj _ _ hk2 (hH2 _) (hS2 _)
  | some x=>exact hj _ _ hk2 (hH2 _) (hS2 _)
end Go.Ck
namespace Go.Fl
open Go Go.RowKit Go.Ck Go.Proofs Go.Proofs.Tryz Go.Proofs.YtknmacdbffgjgaaGreatDoor Fx Go.Hr
def xV:Go.Shelf.Ren:={
 f:=λ| 156=>172 | 165=>238 | 166=>239 | 169=>240 | 240=>276 | 241=>277 | 276=>299 | 277=>300 | n=>n
 t:=λ| 31=>40 | 9=>9 | 3=>3 | 4=>4 | 0=>0 | 20=>20 | 72=>301 | 76=>305 | 70=>299 | 37=>37 | 75=>304 | 127=>338 | 164=>360 | 5=>5 | 80=>307 | n=>n
 g:=λn=>n }
theorem KQ:Go.Proofs.Lays.n156 prog xV:={
 mixed:=rfl
 f156:=func172.trans<|congrArg some Zz
 f165:=func238.trans<|congrArg some Zz
 f166:=func239.trans<|congrArg some Zz
 f169:=func240.trans<|congrArg some Zz
 f240:=func276.trans<|congrArg some Zz
 f241:=func277.trans<|congrArg some Zz
 f276:=func299.trans<|congrArg some Zz
 f277:=func300.trans<|congrArg some Zz
 t0:=underlying0
 a0:=isAgg0
 z0:=sizeOf0
 v0:=zeroValue0
 t3:=underlying3
 a3:=isAgg3
 z3:=sizeOf3
 v3:=zeroValue3
 t4:=underlying4
 a4:=isAgg4
 z4:=sizeOf4
 v4:=zeroValue4
 t9:=underlying9
 a9:=isAgg9
 z9:=sizeOf9
 v9:=zeroValue9
 t20:=underlying20
 a20:=isAgg20
 z20:=sizeOf20
 v20:=zeroValue20
 t31:=underlying40
 a31:=isAgg40
 z31:=sizeOf40
 v31:=zeroValue40
 t37:=underlying37
 a37:=isAgg37
 z37:=sizeOf37
 v37:=zeroValue37
 t70:=underlying299
 a70:=isAgg299
 z70:=sizeOf299
 v70:=zeroValue299
 t72:=underlying301
 a72:=isAgg301
 z72:=sizeOf301
 v72:=zeroValue301
 t75:=underlying304
 a75:=isAgg304
 z75:=sizeOf304
 v75:=zeroValue304
 t76:=underlying305
 a76:=isAgg305
 z76:=sizeOf305
 v76:=zeroValue305
 t127:=underlying338
 a127:=isAgg338
 z127:=sizeOf338
 v127:=zeroValue338
 t164:=underlying360
 a164:=isAgg360
 z164:=sizeOf360
 v164:=zeroValue360 }
theorem Hd:Builder.Extra prog xV where
 sizeBuilder:=Zz
 liesBuilder:=Zz
 t5:=Zz
 a5:=isAgg5
 z5:=sizeOf5
 v5:=zeroValue5
 infoByte:=Zz
 cellsByte:=Zz
 sizeByte:=Zz
 neB5:=by decide
theorem AR {w w':World} (h:Below w.heap.size w w'):Same (dz w) w':=⟨h.os,h.tape,h.output,Nat.zero_le _,h.size,λa ha=>h.frozen ha⟩
theorem xX {w w':World} {H:SH} (h:Below w.heap.size w w') (hh:Holds w H):Holds w' H:=bu.loc hh λb hb=>(h.block b<|Holds.lt hh hb).symm
theorem Jp (a:Nm) (t:List Nm):ko (a::t)=a++Lib.joinTail [32] t:=by
 induction t generalizing a with
 | nil=>simp [ko,Lib.joinTail]
 | cons b t ih =>
  show a++32::ko (b::t)=_
  rw [ih b]
  simp [Lib.joinTail]
theorem He (xs:List Nm):Lib.join xs [32]=ko xs:=by
 cases xs with
 | nil=>rfl
 | cons a t=>rw [Lib.join_cons,Jp]
theorem Dp {k:Nat}:∀ {xs:List Nm},(∀ x∈xs,x.length≤k)->(ko xs).length≤xs.length * (k+1)
 | [],_=>by simp [ko]
 | [a],h=>by
  have:=h a<|by simp
  show a.length≤_
  simp only [List.length_singleton,Nat.one_mul]; omega
 | a::b::t,h=>by
  have h1:=h a<|by simp
  have h2:=Dp (xs:=b::t) λx hx=>h x (by simp only [List.mem_cons] at hx ⊢; exact .inr hx)
  have h3:ko (a::b::t)=a++32::ko (b::t):=rfl
  rw [h3,List.length_append,List.length_cons,List.length_cons (a:=a),Nat.add_mul,Nat.one_mul]
  omega
theorem KR {v:Value} {xs:List Nm} (hl:xs.length≤1099511627776) (hj:(ko xs).length≤140737488355328):Ctw prog 172 #[v,sv [32]] [NR v xs] λu h'=>u=sv (ko xs)/\h'=[NR v xs]:=by
 intro hr w hh
 have hv:=hh.1
 rcases hv.2 with ⟨rfl,h0⟩ | ⟨b,o,cp,pre,j,rfl,hb,hpre,hc1,hc2,hc3⟩
 ·have hx:xs=[]:=List.map_eq_nil_iff.1 h0
  subst hx
  exact (Any.strings_Join_none KQ Hd none 0 ⟨⟨[32]⟩⟩ w).mono λe w' ⟨h1,h2⟩=>⟨sv [],_,h1,⟨Z,Z⟩,by rw [h2]; exact hh,by rw [h2]; exact vX w⟩
 ·rw [mJ] at hb
  have hb:w.heap[b]? = some (cl (pre++(xs.map sv++j)) 9):=hb
  have hlt:b<w.heap.size:=(Array.getElem?_eq_some_iff.1 hb).1
  have hml:(xs.map λn=>(⟨⟨n⟩⟩:ByteArray)).map (·.data.toList)=xs:=by rw [List.map_map]; exact List.map_id _
  have hc:=Any.strings_Join KQ Hd b o cp (xs.map λn=>(⟨⟨n⟩⟩:ByteArray)) ⟨⟨[32]⟩⟩ w (λi x hi=>by
   rw [List.getElem?_map] at hi
   obtain ⟨n,hn,rfl⟩:=Option.map_eq_some_iff.1 hi
   have hil:=(List.getElem?_eq_some_iff.1 hn).1
   simp only [World.cell?,hb,cl,Option.isSome_none,Bool.false_eq_true,if_false,List.getElem?_toArray]
   rw [<- hpre,List.getElem?_append_right (by omega),Nat.add_sub_cancel_left,List.getElem?_append_left (by simpa using hil),List.getElem?_map,hn]
   rfl) hlt (by rw [List.length_map]; omega) (by
    rw [List.length_map]
    have:(xs.map nC).length=xs.length:=by simp
    omega) (by rw [hml,He]; exact hj)
  rw [hml,He,List.length_map] at hc
  rw [show (xs.map nC).length=xs.length by simp]
  rw [show (xs.map nC).length=xs.length by simp] at hh
  exact Calls.mono hc λe w' ⟨h1,h2⟩=>⟨sv (ko xs),_,h1,⟨Z,Z⟩,xX h2 hh,AR h2⟩
end Go.Fl
