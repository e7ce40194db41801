/-
  The law FlatConflicts,walked. Conditions: what is read; the library's table of blanks.
-/
import Derived.Test.YtknmacdbffgjgaaGreatDoorP10
import Derived.Test.YtknmacdbffgjgaaGreatDoorP5
import Derived.Test.YtknmacdbffgjgaaGreatDoorP4
import Derived.Test.YtknmacdbffgjgaaGreatDoorP7
set_option linter.unusedVariables false
set_option linter.unusedSimpArgs false
set_option maxRecDepth 100000
set_option maxHeartbeats 16000000
namespace Go.Fl
open Go Go.RowKit Go.Ck Go.Proofs Go.Proofs.Tryz Go.Proofs.YtknmacdbffgjgaaGreatDoor Fx Go.Hr
theorem Good.fits {l:FS} (h:Good l) (hS:jQ l):Fits l (Fl.look (Fl.build l).1):=⟨h.right,h.flb,hS⟩
def ogC (o:Og):List Value:=[sv o.par,sv o.name]
def ogr (b:Bool) (n:Nm):List Og:=if b=true then [⟨[],n⟩] else []
theorem rws_og {Y:Res} (xs:List Og):Rws Y (xs.map ogC) xs:=⟨by simp,λj us x h1 h2=>by
 rw [List.getElem?_map,h2] at h1
 cases h1; rfl⟩
attribute [local irreducible] Go.Ck.Sub St Cd Xt Nx DrL LsW
section
variable {X:Res} {v:Value} {l:FS}
theorem JV (hX:Spc X) (hl:Ls X v l) (hS:jQ l) (c n:Nm):eZ prog 50 #[v,sv c,sv n] X [] λu Y k'=>k'=[]/\∃ w:Value,u = .tuple #[w,.int .i64 (oriP l c n).2]/\Ls Y w (oriP l c n).1:=by
 have hml:maxLen=9223372036854775807:=rfl
 have hrb:reachBytes=140737488351232:=rfl
 obtain ⟨vAq,vK,rfl,_⟩:=id hl.form
 have hme:=Eb hX hl hS (mv:=.slice none 0 0) (ds:=[]) (by decide) rfl c n
 unfold eZ at hme ⊢
 refine gF (n:=63) func50 Z Z (len Z) λhr w0 hw0=>?_
 refine cQ<|sA Z<|sA Z<|sN<|nT<|cS<|dY (dn 9 1)<|cR<|sM Z<|sM Z<|sM Z<|bW hw0 Z Z en97 Z (hme) ?_
 rintro u h' ⟨Y,k',rfl,hE,v2,fv,ow,x,e0,us,rfl,hv2,hfv,how,hre,hor⟩
 simp only [lC,lN]
 unfold uN
 have h12:=jA (x:=x) (e:=e0) hv2 hfv how
 have hone:=Enc.ones hre
 have hre0:=hre
 generalize (bY l [] c n).1=J at hre hre0
 obtain ⟨x2,x5,y,x11,x12,x13,rfl,-⟩:=dN hre
 unfold iC at *
 refine sM Z<|sV (ah Z Z)<|sV (ah Z Z)<|sV (ah Z Z) (au qJ λb8=>?_)
 refine au jR λb9=>?_
 refine ai Z Z jF Z h12 ?_
 refine ai Z Z iH Z hone ?_
 refine sA Z<|sK [1,2,6,7,8,10] Z<|cS<|cQ<|sM Z<|sV (bT Z Z)<|sK [1,2,6,7,8,10,26] Z<|cC Z (λhq=>?_)<|λhq=>?_
 .have hq:(bY l [] c n).2≠0:=Zu
  obtain ⟨-,rfl⟩:=hor.resolve_right λh=>hq h.1
  have hp:oriP l c n=([],(bY l [] c n).2):=by unfold oriP; rw [if_pos hq]
  rw [hp]
  refine cQ<|sM Z<|sA Z<|sA Z<|sK [6,7] Z<|cT<|xR ?_
  exact aj Z ⟨Y,[],Z,hE,Z,_,Z,Ls.nil⟩ sbq
 .have hq:(bY l [] c n).2=0:=Zu
  have hp:oriP l c n=(ogr (feat (ae l c) n).isSome n++(under (comes (look (build l).1) l<|ae l c) n).map (λx=>x.og),0):=by unfold oriP; rw [if_neg (λh=>h hq)]; rfl
  rw [hp]
  obtain ⟨-,hwq,mb,m,names,rfl,rfl,rfl,rfl,rfl,hm,rfl⟩:=hor.resolve_left λh=>h.1 hq
  simp only [lC,lN]
  obtain ⟨hg,hcs⟩:=ko hwq
  have hcl:=(hg.class<|hcs c<|by simp).2.2
  have hF:=hg.fits hS
  have hfew:=hF.few<|.inl hcl
  have hcc:=mG (n:=c) (fv:=.map<|some mb) (hl.up hE) rfl
  have hun:(under (comes (look (build l).1) l<|ae l c) n).length<=(comes (look (build l).1) l<|ae l c).length:=List.length_filter_le _ _
  have hby:=λ(cus:List Value) (hcr:Enc.rep Y cus (ae l c))=>xC (mb:=mb) (hl.up hE) hcr hm (hF.hf<|.inl hcl)<|by omega
  unfold CtX at hby
  clear hor hme
  refine cK<|xT<|cQ<|sA Z<|sK [1,2,6,7,8,11] Z<|cQ<|sV (vF Z gX Z)<|sV (af Z ig Z<|bF (k:=0) ag (vs:=[.slice vAq l.length vK,.map (some mb)]) Z) ?_
  refine sM Z<|aH Z Z en56 Z (hcc) ?_
  rintro u h' ⟨rfl,cus,rfl,hcr⟩
  simp only [lC,lN]
  have hby:=hby cus hcr
  have hco:=Enc.ones hcr
  obtain ⟨ca,cb,ce,cf,ci,rfl,hca,hcb,hce,hcf,hci⟩:=gB hcr
  refine au oU λb12=>?_
  refine ai Z Z mP Z hco ?_
  refine sK [2,6,7,8,11,12] Z<|cS<|cQ<|sV (vF Z kW Z)<|sV (vY Z yK) ?_
  refine sM Z ?_
  have hfi:=je (n:=n) hcf
  rw [show ((ae l c).feats.find? λf=>f.name == n)=feat (ae l c) n from rfl] at hfi
  refine aH Z Z yg Z (hfi) ?_
  rintro u h' ⟨rfl,fus,rfl,hfr⟩
  simp only [lC,lN]
  have hfo:=Enc.ones hfr
  generalize (feat (ae l c) n).getD fe0=F at hfr
  obtain ⟨f2,f3,fy,f9,f10,f11,f12,f13,f14,rfl,-⟩:=oz hfr
  unfold Be at *
  refine sM Z<|sV (ah Z Z)<|sV (ah Z Z) (au mg λb13=>?_)
  refine ai Z Z kE Z hfo ?_
  refine sA Z<|sK [2,6,7,8,11,12,14] Z<|cQ<|sM Z<|sK [2,6,7,8,11,12,39] Z ?_
  generalize (feat (ae l c) n).isSome=b
  have hb31:(ogr b n).length<=1:=by unfold ogr; split <;> simp
  refine dY (dn 24 2)<|nE (ex:=.normal) (α := {q:Value // q.oneCell'=true}) (λq=>[(2,sv n),(8,.pointer (some ⟨b8,0,none⟩)),(11,q.1),(12,.pointer (some ⟨b12,0,none⟩))]) (λq=>VR q.1 24 2 ((ogr b n).map ogC)::pt b12 (cl [sv (ae l c).name,.bool (ae l c).dfd,ca,cb,ce,cf,ci] 44)::pt b8 (cl [.slice vAq l.length vK,.map (some mb),ow,.int .i64 cf0.kind,sv cf0.cls,sv cf0.name,sv cf0.other,sv cf0.a.par,sv cf0.a.name,sv cf0.b.par,sv cf0.b.name,.int .i64 0] 116)::Y::mps mb m::hr) (λhcont=>?_)<|λq=>?_
  .cases b with
   | true =>
    refine aQ Z ?_
    refine cR<|sM Z<|sM Z<|sV (aP (cells:=[sv [],sv n]) Z<|λ_=>Zz) ?_
    refine ak (cells:=[sv [],sv n]) Z underlying104 Ku Z Z Zz (ltn Z) λb43=>?_
    refine eG [[sv [],sv n]] Z Z underlying104 Ku Z (by decide) (show Sel _ (VR (.slice none 0 0) 24 2 []) _ from slq) (by simp) Z (λj u2 hu2=>bV<|bZ Zt) (by simp [sv,Value.oneCell']) (by simp) (by simp) (ltn Z) λw2 hw2 _=>?_
    refine sA Z<|sN<|nK [2,6,7,8,11,12] Z<|ax ?_
    exact hcont ⟨w2,hw2⟩ _ _ ⟨Z,Z,Z,Z,trivial⟩ sbq
   | false =>
    refine aG Z ?_
    refine cK ?_
    exact hcont ⟨.slice none 0 0,Z⟩ _ _ ⟨Z,Z,Z,Z,trivial⟩ sbq
  obtain ⟨w0q,hw0q⟩:=q
  dsimp only
  refine xT<|cS<|cQ<|sV (vF Z gX Z)<|sV (af Z ig Z<|bF (k:=0) ag (vs:=[.slice vAq l.length vK,.map (some mb)]) Z) ?_
  refine sV (af Z gU Z ag) ?_
  refine aH Z Z KH Z (hby) ?_
  rintro u h' ⟨Y2,k2,rfl,hE2,bm,E,rfl,rfl,hbk⟩
  simp only [lC,lN]
  refine ni (r:=BN E) slq λhokE=>?_
  refine oh [BN E] Y2 λY3 hE3 hsel=>?_
  have hls:=K9 hbk hE3 hokE (hsel _ _ .here)<|by omega
  have hlk:=zu hbk.1 hls n
  obtain ⟨qa,qk,hqv,_⟩:=id hlk.form
  rw [hqv] at hlk
  generalize under (comes (look (build l).1) l<|ae l c) n=L at hun hlk hqv ⊢
  refine sM Z<|sV (gM hqv<|bP Z Z tH ug slq) ?_
  refine sV (aC Z underlying187)<|sM Z<|sK [11,50,51,52] Z<|cB ?_
  rw [show (ogr b n).map ogC=(ogr b n++(L.take 0).map (λx=>x.og)).map ogC by simp]
  refine aY (σ := Value×Nat) (λq=>[(11,q.1),(50,.slice qa L.length qk),(51,.int .i64 L.length),(52,.int .i64 (q.2:Nat))]) (λq=>VR q.1 24 2 ((ogr b n++(L.take q.2).map (λx=>x.og)).map ogC)::Y3::hr) (λq=>q.1.oneCell'=true/\q.2<=L.length) (λq=>L.length - q.2) (w0q,0) ⟨hw0q,Nat.zero_le _⟩ ?_
  rintro ⟨w,i⟩ ⟨hw,hi⟩
  simp only at hw hi
  dsimp only
  refine cQ<|sV (aO Z Z)<|sN<|nT<|cS<|cC Z (λhd=>?_)<|λhd=>?_
  .have hlt:i<L.length:=Zx
   have htk:=cz hlt
   have hrl:((ogr b n++(L.take i).map (λx=>x.og)).map ogC).length<=1+i:=by
    rw [List.length_map,List.length_append,List.length_map,List.length_take]; omega
   obtain ⟨fb,fo,fcap,fus,e1,hfus,hfrd,hfr⟩:=hlk.at<|Zy hlt
   obtain ⟨rfl,rfl⟩:qa=some ⟨fb,fo,none⟩/\qk=fcap:=by cases e1; exact ⟨rfl,rfl⟩
   generalize L[i]=xc at hfr htk
   have hfo2:=Enc.ones hfr
   obtain ⟨c2,c5,cy,c11,c12,c13,rfl,-⟩:=iD hfr
   have hog:∀ b,Rds (pt b<|cl (pE xc c2 c5 cy c11 c12 c13) 191) b (0+0) [sv xc.og.par,sv xc.og.name]:=λb=>oC
   unfold pE at *
   refine cK<|xT<|cS<|cB<|cQ<|sV (vI (k:=i) Z Z lZ Z hlt Z)<|sV (af Z ik Z hfrd) ?_
   refine au rP λb16=>?_
   refine ai Z Z mY Z hfo2 ?_
   refine sK [11,16,50,51,52] Z<|cR<|sM Z<|sV (vF Z jH Z)<|sV (af Z qW Z<|hog b16) ?_
   refine ak (cells:=[sv xc.og.par,sv xc.og.name]) Z underlying104 Ku Z Z Zz (ltn Z) λb59=>?_
   refine eG [[sv xc.og.par,sv xc.og.name]] Z Z underlying104 Ku Z (by decide) (show Sel _ (VR w 24 2<|(ogr b n++(L.take i).map (λx=>x.og)).map ogC) _ from slq) (by simp) Z (λj u2 hu2=>bV<|bZ Zt) (by simp [sv,Value.oneCell']) (by omega) (by omega) (ltn Z) λw2 hw2 _=>?_
   refine sA Z<|sN<|nK [11,50,51,52] Z<|ax<|xB<|xT<|cR<|sV (aI Z Z Z0)<|sM Z<|sN<|nK [11,50,51,52] Z<|ax ?_
   rw [show (ogr b n++(L.take i).map (λx=>x.og)).map ogC++[[sv xc.og.par,sv xc.og.name]]=(ogr b n++(L.take (i+1)).map (λx=>x.og)).map ogC by rw [htk]; simp [ogC]]
   refine aL (w2,i+1) ⟨hw2,hlt⟩ (by show L.length - (i+1)<L.length - i; omega)
  .have hie:i=L.length:=Nat.le_antisymm hi<|Nat.not_lt.1 Zx
   subst hie
   rw [List.take_length]
   have hbl:(ogr b n++L.map (λx=>x.og)).length * Enc.by' Og<=reachBytes:=by
    rw [List.length_append,List.length_map,hrb]; show _ * 32<=_; omega
   refine aB<|xE<|xE<|xY<|xT<|cQ<|sM Z<|sA Z<|sA Z<|sK [6,7] Z<|cT (eF (r:=VR w 24 2<|(ogr b n++L.map (λx=>x.og)).map ogC) slq λhok=>?_)
   refine iP [VR w 24 2 ((ogr b n++L.map (λx=>x.og)).map ogC)] Y3 λY4 hE4 hsel4=>?_
   exact aj Z ⟨Y4,[],Z,((hE.trans hE2).trans hE3).trans hE4,Z,_,Z,Rws.ls (E:=24) (rws_og _) hok (hsel4 _ _ .here) hbl⟩ sbq
end
end Go.Fl
namespace Go.Fl
open Go Go.RowKit Go.Ck Go.Proofs Go.Proofs.Tryz Go.Proofs.YtknmacdbffgjgaaGreatDoor Fx Go.Hr
theorem MK {ms:List Mb} {i:Nat} (h:i<ms.length) (ss:List Sd):uA (ms.take (i+1)) ss=uA (ms.take i) ss++if (ss.all λs=>ms[i].seeds.contains s)=true then [ms[i].name] else []:=by
 unfold uA
 rw [cz h,List.filter_append,List.map_append]
 congr 1
 by_cases hq:(ss.all λs=>ms[i].seeds.contains s)=true
 .rw [if_pos hq,List.filter_cons,if_pos hq]; rfl
 .rw [if_neg hq,List.filter_cons,if_neg hq]; rfl
theorem Iw (ms:List Mb) (ss:List Sd):(uA ms ss).length<=ms.length:=by
 unfold uA; rw [List.length_map]; exact List.length_filter_le _ _
attribute [local irreducible] Go.Ck.Sub St Cd Xt Nx DrL LsW
section
variable {X:Res} {v:Value} {l:FS}
theorem JW (hX:Spc X) (hl:Ls X v l) (hS:jQ l) (d c n:Nm):eZ prog 29 #[v,sv d,sv c,sv n] X [] λu Y k'=>k'=[]/\u = .tuple #[sv (wh l d c n).1,.int .i64 (wh l d c n).2]:=by
 have hml:maxLen=9223372036854775807:=rfl
 have hrb:reachBytes=140737488351232:=rfl
 obtain ⟨vAq,vK,rfl,_⟩:=id hl.form
 have hme:=λb=>Eb hX hl hS (mv:=.slice (some ⟨b,0,none⟩) 1 1) (ds:=[d]) (by simp) rfl c n
 have hrk:rk (aZ l) d<=l.length:=by
  have:=q9 (aZ l) d
  rwa [gN] at this
 simp only [List.map_cons,List.map_nil,nC] at hme
 unfold eZ at hme ⊢
 refine gF (n:=105) func29 Z Z (len Z) λhr w0 hw0=>?_
 refine cQ<|sA Z<|sA Z<|sN<|nT<|F5<|cQ<|sM Z<|sM Z<|sM Z<|sM Z (ak (cells:=[sv d]) Z underlying40 gp Z Z Zz (ltn Z) λb28=>?_)
 refine Aj (Ak (b:=b28) (n:=1) (sz:=1) (E:=9) [[sv d]] Z (by simp) Z<|by decide) ?_
 simp only [lC,lN]
 refine bW hw0 Z Z en97 Z ((hme b28)) ?_
 rintro u h' ⟨Y,k',rfl,hE,v2,fv,ow,x,e0,us,rfl,hv2,hfv,how,hre,hor⟩
 simp only [lC,lN]
 unfold uN
 have h12:=jA (x:=x) (e:=e0) hv2 hfv how
 have hone:=Enc.ones hre
 have hme2:(bY l [d] c n).2=0->Good l/\(bQ l d).isSome=true/\(bQ l c).isSome=true/\(bY l [d] c n).1∈msF l c:=λhz=>by
  have hwz:wholeE l ([d]++[c])=0:=Classical.not_not.1 λh=>by
   unfold bY at hz
   rw [if_pos h] at hz
   exact h hz
  obtain ⟨hg,hcs⟩:=ko hwz
  have hd:=hcs d<|by simp
  have hc:=hcs c<|by simp
  have hmb:=hg.member (ns:=[d]) (n:=n) Zx hc
  refine ⟨hg,hd,hc,?_⟩
  rw [hmb] at hz ⊢
  cases hm:dF (msF l c) n with
  | none=>rw [hm] at hz; cases hz
  | some m=>exact (I6 hm).1
 have hver:wh l d c n=if (bY l [d] c n).2≠0 then ([],(bY l [d] c n).2) else if has (aZ l) d c=false then ([],5) else
   match uA (look (build l).1 d).mems (bY l [d] c n).1.seeds with
   | []=>([],5)
   | [a]=>(a,0)
   | a::b::t=>if (a::b::t).contains (selOf l d ((bY l [d] c n).1.seeds.headD ⟨[],[]⟩)).1 then ((selOf l d ((bY l [d] c n).1.seeds.headD ⟨[],[]⟩)).1,0) else ([],5):=rfl
 rw [hver]
 clear hver
 generalize (bY l [d] c n).1=J at hre hme2 ⊢
 generalize (bY l [d] c n).2=e at hre hme2 hor ⊢
 obtain ⟨x2,x5,y,x11,x12,x13,rfl,hx2,-⟩:=dN hre
 obtain ⟨sAq,sKq,rfl,_⟩:=id hx2.form
 unfold iC at *
 refine sM Z<|sV (ah Z Z)<|sV (ah Z Z)<|sV (ah Z Z) (au qJ λb10=>?_)
 refine au jR λb11=>?_
 refine ai Z Z jF Z h12 ?_
 refine ai Z Z iH Z hone ?_
 refine sA Z<|sK [0,1,2,8,9,10,11,12] Z<|cS<|cQ<|sM Z<|sV (bT Z Z)<|sK [0,1,2,8,9,10,11,12,34] Z<|cC Z (λhq=>?_)<|λhq=>?_
 .have hq:e≠0:=Zu
  obtain ⟨-,rfl⟩:=hor.resolve_right λh=>hq h.1
  rw [if_pos hq]
  refine cQ<|sM Z<|sA Z<|sA Z<|sK [8,9] Z<|cT<|xR<|fJ ?_
  exact aj Z ⟨Y,[],Z,hE,Z,Z⟩ sbq
 .have hq:e=0:=Zu
  obtain ⟨hg,hds,hcs,hmem⟩:=hme2 hq
  obtain ⟨-,hwq,mb,m,names,rfl,rfl,rfl,rfl,rfl,hm,rfl⟩:=hor.resolve_left λh=>h.1 hq
  rw [if_neg (λh=>h hq)]
  have hsne:=hg.seeds_ne c hcs J hmem
  have his:=Is_ct (wY<|hl.up hE) d c
  rw [show dW (aZ l) [d,c]=0 from fu.2 ⟨hg.sys,λk hk=>by
   simp only [List.mem_cons,List.mem_nil_iff,or_false] at hk
   rcases hk with rfl | rfl
   .rw [dx]; exact hds
   .rw [dx]; exact hcs⟩] at his
  simp only [decide_true,Bool.true_and] at his
  generalize has (aZ l) d c=hs at his ⊢
  clear hor hme hme2
  simp only [lC,lN]
  refine cK<|xT<|cS<|cQ<|sM Z<|sM Z<|sM Z<|aH Z Z en27 Z (his) ?_
  rintro u h' ⟨rfl,rfl⟩
  simp only [lC,lN]
  refine sM Z<|sV (ah Z Z)<|sV (ah Z Z)<|sA Z<|sA Z<|sK [1,8,9,10,11,13] Z<|cQ<|sM Z<|sV (bg Z)<|sK [1,8,9,10,11,44] Z ?_
  cases hs with
  | false =>
   rw [if_pos rfl]
   refine aQ Z ?_
   refine cQ<|sA Z<|sA Z<|sK [8,9] Z<|cT<|xR<|fJ ?_
   exact aj Z ⟨Y,[],Z,hE,Z,Z⟩ sbq
  | true =>
   rw [if_neg (by decide)]
   refine aG Z ?_
   refine cK<|xT<|cQ<|sA Z<|sK [1,8,9,10,11,15] Z<|cQ<|sV (vF Z gX Z)<|sV (vF Z iW Z)<|sV (vY Z qI) ?_
   refine sM Z ?_
   obtain ⟨fus,hfl,hfr⟩:=hm d
   obtain ⟨z1,z2,rfl,hz1,hz2⟩:=hfr
   obtain ⟨mA,mK,rfl,_⟩:=id hz1.form
   have hmf:=hg.few d
   refine sV (gM hfl<|bP Z Z qG qH slq) ?_
   refine sV (iU (k:=2) Z underlying55 Z isAgg52 Z)<|sA Z<|sK [1,8,9,10,11,15,16] Z<|cS<|FZ<|xT<|cS<|cS<|dY (dn 9 1) ?_
   unfold selOf
   have hih:=λ(cus:List Value) (hcr:Enc.rep Y cus (ae l d)) (s:Sd)=>yC (mb:=mb) (hg.fits hS) l.length Y (ae l d) d cus (.slice mA (look (build l).1 d).mems.length mK) (look (build l).1 d).mems s rfl hrk (hl.up hE) hcr hm hz1
   unfold eZ at hih
   have hcc:=mG (n:=d) (fv:=.map<|some mb) (hl.up hE) rfl
   generalize (look (build l).1 d).mems=ms at hz1 hmf hih ⊢
   have hvl:=Iw ms J.seeds
   refine cR<|sM Z<|sV (aC Z underlying52)<|sM Z<|sN<|nT<|cB<|aY (σ := Value×Nat) (λq=>[(1,sv d),(10,.pointer (some ⟨b10,0,none⟩)),(11,.pointer (some ⟨b11,0,none⟩)),(15,q.1),(16,.slice mA ms.length mK),(51,.slice mA ms.length mK),(52,.int .i64 ms.length),(53,.int .i64 (q.2:Nat))]) (λq=>VR q.1 9 1 ((uA (ms.take q.2) J.seeds).map nC)::pt b11 (cl [sv J.name,.int .i64 J.kind,.slice sAq J.seeds.length sKq,sv J.impl.cls,sv J.impl.name,x5,.int .i64 J.ty.kind,sv J.ty.name,y,.bool J.ty.void,.bool J.ty.sep,x11,x12,x13] 75)::pt b10 (cl [.slice vAq l.length vK,.map (some mb),ow,.int .i64 cf0.kind,sv cf0.cls,sv cf0.name,sv cf0.other,sv cf0.a.par,sv cf0.a.name,sv cf0.b.par,sv cf0.b.name,.int .i64 0] 116)::Y::mps mb m::hr) (λq=>q.1.oneCell'=true/\q.2<=ms.length) (λq=>ms.length - q.2) (.slice none 0 0,0) ⟨Z,Nat.zero_le _⟩ ?_
   rintro ⟨w,i⟩ ⟨hw,hi⟩
   simp only at hw hi
   dsimp only
   refine cQ<|sV (aO Z Z)<|sN<|nT<|cS<|cC Z (λhd=>?_)<|λhd=>?_
   .have hlt:i<ms.length:=Zx
    have hsn:=MK hlt J.seeds
    have hvl2:=Iw (ms.take i) J.seeds
    rw [List.length_take] at hvl2
    obtain ⟨fb,fo,fcap,fus,e1,hfus,hfrd,hfr⟩:=hz1.at<|Zy hlt
    obtain ⟨rfl,rfl⟩:mA=some ⟨fb,fo,none⟩/\mK=fcap:=by cases e1; exact ⟨rfl,rfl⟩
    generalize ms[i]=xm at hfr hsn
    have hfo:=Enc.ones hfr
    obtain ⟨m2,m5,my,m11,m12,m13,rfl,hm2,-⟩:=dN hfr
    obtain ⟨m2A,m2K,rfl,_⟩:=id hm2.form
    unfold iC at *
    refine cK<|xT<|cS<|cB<|cQ<|sV (vI (k:=i) Z Z oM Z hlt Z)<|sV (af Z fE Z hfrd) ?_
    refine au jR λb18=>?_
    refine ai Z Z iH Z hfo ?_
    refine sK [1,10,11,15,16,18,51,52,53] Z<|cS<|cQ<|sV (vF Z eT Z)<|sV (vY Z pW) ?_
    refine sV (aC Z underlying67)<|sM Z<|sK [1,10,11,15,16,18,51,52,53,58,59,60] Z<|cB<|aY (σ := Nat) (λj=>[(1,sv d),(10,.pointer (some ⟨b10,0,none⟩)),(11,.pointer (some ⟨b11,0,none⟩)),(15,w),(16,.slice (some ⟨fb,fo,none⟩) ms.length mK),(18,.pointer (some ⟨b18,0,none⟩)),(51,.slice (some ⟨fb,fo,none⟩) ms.length mK),(52,.int .i64 ms.length),(53,.int .i64 (i:Nat)),(58,.slice sAq J.seeds.length sKq),(59,.int .i64 J.seeds.length),(60,.int .i64 (j:Nat))]) (λ_=>pt b18 (cl [sv xm.name,.int .i64 xm.kind,.slice m2A xm.seeds.length m2K,sv xm.impl.cls,sv xm.impl.name,m5,.int .i64 xm.ty.kind,sv xm.ty.name,my,.bool xm.ty.void,.bool xm.ty.sep,m11,m12,m13] 75)::VR w 9 1 ((uA (ms.take i) J.seeds).map nC)::pt b11 (cl [sv J.name,.int .i64 J.kind,.slice sAq J.seeds.length sKq,sv J.impl.cls,sv J.impl.name,x5,.int .i64 J.ty.kind,sv J.ty.name,y,.bool J.ty.void,.bool J.ty.sep,x11,x12,x13] 75)::pt b10 (cl [.slice vAq l.length vK,.map (some mb),ow,.int .i64 cf0.kind,sv cf0.cls,sv cf0.name,sv cf0.other,sv cf0.a.par,sv cf0.a.name,sv cf0.b.par,sv cf0.b.name,.int .i64 0] 116)::Y::mps mb m::hr) (λj=>j<=J.seeds.length/\∀ k (hk:k<J.seeds.length),k<j->xm.seeds.contains J.seeds[k]=true) (λj=>J.seeds.length - j) 0 ⟨Nat.zero_le _,λk _ hk=>absurd hk<|Nat.not_lt_zero _⟩ ?_
    rintro j ⟨hj,hal⟩
    try simp only at hj hal
    try dsimp only
    refine cQ<|sV (aO Z Z)<|sN<|nT<|cS<|cC Z (λhd2=>?_)<|λhd2=>?_
    .have hltj:j<J.seeds.length:=Zw
     obtain ⟨gb,go,gcap,gus,e2,hgus,hgrd,hgr⟩:=hx2.at<|Zy hltj
     obtain ⟨rfl,rfl⟩:sAq=some ⟨gb,go,none⟩/\sKq=gcap:=by cases e2; exact ⟨rfl,rfl⟩
     have hcj:∀ hq:xm.seeds.contains J.seeds[j]=true,∀ k (hk:k<J.seeds.length),k<j+1->xm.seeds.contains J.seeds[k]=true:=λhq k hk hkj=>by
      by_cases h:k=j
      .subst h; exact hq
      .exact hal k hk<|by omega
     have hmemj:=List.getElem_mem hltj
     generalize J.seeds[j]=s at hgr hcj hmemj
     obtain rfl:gus=[sv s.cls,sv s.name]:=hgr
     refine cK<|xT<|cS<|cB<|cQ<|sV (vI (k:=j) Z Z qV Z hltj Z)<|sV (af Z iN Z hgrd) ?_
     refine au al69 λb20=>?_
     refine ai Z Z sz69 Z Z ?_
     refine sK [1,10,11,15,16,18,20,51,52,53,58,59,60] Z<|cQ<|sV (vF Z eT Z)<|sV (vY Z pW) ?_
     refine sV (af Z iN Z ag) ?_
     refine bf Z Z en33 Z (ww (s:=s) hm2) ?_
     refine sV (bg Z)<|sK [1,10,11,15,16,18,51,52,53,58,59,60,68] Z<|cC Z (λhct=>?_)<|λhct=>?_
     .have hct:xm.seeds.contains s=false:=Ze
      have hsn2:uA (ms.take (i+1)) J.seeds=uA (ms.take i) J.seeds:=by
       rw [hsn,if_neg,List.append_nil]
       intro h
       rw [List.all_eq_true.1 h s hmemj] at hct; cases hct
      refine aB<|gm (by decide) ?_
      refine xE<|xE<|gm (by decide) ?_
      refine xE<|xY<|xT<|cR<|sV (aI Z Z Z0)<|sM Z<|sN<|nK [1,10,11,15,16,51,52,53] Z<|ax ?_
      rw [<- hsn2]
      refine aL (w,i+1) ⟨hw,hlt⟩ (by show ms.length - (i+1)<ms.length - i; omega)
     .have hct:xm.seeds.contains s=true:=Ze
      refine cK<|xB<|xT<|cR<|sV (aI Z Z Z0)<|sM Z<|sN<|nK [1,10,11,15,16,18,51,52,53,58,59,60] Z<|ax ?_
      refine aL (j+1) ⟨hltj,hcj hct⟩ (by show J.seeds.length - (j+1)<J.seeds.length - j; omega)
    .have hje:j=J.seeds.length:=Nat.le_antisymm hj<|Nat.not_lt.1 Zw
     subst hje
     rw [if_pos (List.all_eq_true.2 λs hs=>by
      obtain ⟨k,hk,rfl⟩:=List.getElem_of_mem hs
      exact hal k hk hk)] at hsn
     refine aB<|xE<|xE<|xY<|xT<|cR<|sM Z<|sV (vF Z eQ Z)<|sV (vY Z ld9) ?_
     refine ak (cells:=[sv xm.name]) Z underlying40 gp Z Z Zz (ltn Z) λb73=>?_
     refine eG [[sv xm.name]] Z Z underlying40 gp Z (by decide) (show Sel _ (VR w 9 1<|(uA (ms.take i) J.seeds).map nC) _ from slq) (by simp) Z (λj u2 hu2=>bV<|bZ Zt) (by simp [sv,Value.oneCell']) (by rw [List.length_map]; omega) (by rw [List.length_map]; omega) (ltn Z) λw2 hw2 _=>?_
     refine sA Z<|sN<|nK [1,10,11,15,16,51,52,53] Z<|ax<|xB<|xT<|cR<|sV (aI Z Z Z0)<|sM Z<|sN<|nK [1,10,11,15,16,51,52,53] Z<|ax ?_
     rw [show (uA (ms.take i) J.seeds).map nC++[[sv xm.name]]=(uA (ms.take (i+1)) J.seeds).map nC by rw [hsn,List.map_append]; rfl]
     refine aL (w2,i+1) ⟨hw2,hlt⟩ (by show ms.length - (i+1)<ms.length - i; omega)
   .have hie:i=ms.length:=Nat.le_antisymm hi<|Nat.not_lt.1 Zx
    subst hie
    rw [List.take_length]
    generalize uA ms J.seeds=L at hvl ⊢
    refine fO (v:=w) (E:=9) (sz:=1) (rows:=L.map nC) slq λwa wc hwf hwl hwm=>?_
    rw [List.length_map] at hwf hwl
    subst hwf
    refine fD (r:=VR (.slice wa L.length wc) 9 1<|L.map nC) slq λhok=>?_
    have hwa:L≠[]->∃ ab ao,wa=some ⟨ab,ao,none⟩:=λhne=>by
     obtain ⟨f0,hf0⟩:=hok
     rcases VR.form hf0 with ⟨h3,h4⟩ | ⟨b,o,cp,h3,-⟩
     .exact absurd (List.map_eq_nil_iff.1 h4) hne
     .rw [List.length_map] at h3; cases h3; exact ⟨b,o,rfl⟩
    refine aB<|xE<|xE<|xY<|xT<|cS<|cQ<|sM Z<|sV (aC Z underlying40)<|sK [1,10,11,15,16,77] Z<|cB<|cQ ?_
    refine sV (dX Z Z)<|sA Z<|sK [1,10,11,15,16,77,78] Z<|cC Z (λh0=>?_)<|λh0=>?_
    .have h0:L=[]:=List.eq_nil_of_length_eq_zero<|by simpa using h0
     subst h0
     refine cQ<|sA Z<|sA Z<|sK [8,9] Z<|cT<|xW<|xR<|fJ ?_
     exact aj Z ⟨Y,[],Z,hE,Z,Z⟩ sbq
    .have h0:L≠[]:=λh=>by subst h; simp at h0
     refine cQ<|sV (dX Z Z)<|sA Z<|sK [1,10,11,15,16,80] Z<|cC Z (λh1=>?_)<|λh1=>?_
     .have h1:((L.length:Nat):Int)=1:=Zf
      have h1':L.length=1:=by omega
      obtain ⟨a,rfl⟩:∃ a,L=[a]:=List.length_eq_one_iff.1 h1'
      obtain ⟨ab,ao,rfl⟩:=hwa h0
      refine cQ<|sM Z<|sV (vI (k:=0) Z Z jG Z (by simp) Z) ?_
      refine sV (vY Z ld9 (ha:=⟨_,_,slq,dU (show ([a].map nC)[0]? = some [sv a] from Z) 0<|by simp⟩)) ?_
      refine sA Z<|sA Z<|sK [8,9] Z<|cT<|xW<|xR<|fJ ?_
      exact aj Z ⟨Y,[],Z,hE,Z,Z⟩ sbq
     .obtain ⟨a,b,tl,rfl⟩:∃ a b tl,L=a::b::tl:=by
       match L,h0,h1 with
       | [a],_,h1=>simp at h1
       | a::b::tl,_,_=>exact ⟨a,b,tl,rfl⟩
      obtain ⟨s0,ss,hss⟩:=List.exists_cons_of_ne_nil hsne
      rw [show J.seeds.headD ⟨[],[]⟩=s0 by rw [hss]; rfl]
      have hls0:0<J.seeds.length:=by rw [hss]; simp
      obtain ⟨gb,go,gcap,gus,e2,hgus,hgrd,hgr⟩:=hx2.at (i:=0) (a:=s0) (by rw [hss]; rfl)
      obtain ⟨rfl,rfl⟩:sAq=some ⟨gb,go,none⟩/\sKq=gcap:=by cases e2; exact ⟨rfl,rfl⟩
      obtain rfl:gus=[sv s0.cls,sv s0.name]:=hgr
      have hih:=λ(cus:List Value) (hcr:Enc.rep Y cus (ae l d))=>hih cus hcr s0
      generalize dE (look (build l).1) l l.length (ae l d) ms s0=r at hih ⊢
      refine cK<|xB<|xT<|cS<|bC (ork [(0,2),(1,1),(2,2),(3,1),(4,2),(6,2),(7,2),(8,1),(9,2),(10,1),(5,0),(11,0),(12,2),(13,2),(14,2),(15,2),(16,2)] .nil) (λi => !(Nat.beq i 11)) mixed Zz ?_
      refine dV Z (vF Z gX Z)<|bu Z (af Z ig Z<|bF (k:=0) ag (vs:=[.slice vAq l.length vK,.map (some mb)]) Z) ?_
      refine dV Z (vF Z gX Z)<|bu Z (af Z ig Z<|bF (k:=0) ag (vs:=[.slice vAq l.length vK,.map (some mb)]) Z) ?_
      refine dV Z (vM Z)<|dV Z (vM Z)<|dV Z (vF Z eT Z)<|bu Z (vY Z pW) ?_
      refine dV Z (vI (k:=0) Z Z qV Z hls0 Z)<|bu Z (af Z iN Z hgrd) ?_
      refine aT Z<|aH Z Z en56 Z (hcc) ?_
      rintro u h' ⟨rfl,cus,rfl,hcr⟩
      simp only [lC,lN]
      refine aW ?_
      refine aT Z<|bW hw0 Z Z en98 Z (hih cus hcr) ?_
      rintro u h' ⟨Z2,k2,rfl,hE3,rfl,rfl⟩
      simp only [lC,lN]
      refine aW ?_
      refine dV Z (vM Z)<|dV Z (ah Z Z)<|dV Z (ah Z Z)<|dV Z (vA Z)<|dV Z (vA Z)<|bB<|nK [15,21] Z<|nT<|cS<|cQ<|sM Z<|sM Z<|bf Z Z EI Z (fQ (iX hok) r.1<|by omega) ?_
      refine sV (bg Z)<|sK [21,103] Z<|cC Z (λhcq=>?_)<|λhcq=>?_
      .rw [if_neg (by simpa using hcq)]
       refine cQ<|sA Z<|sA Z<|sK [8,9] Z<|cT<|xR<|fJ ?_
       exact aj Z ⟨Z2,[],Z,hE.trans hE3,Z,Z⟩ sbq
      .rw [if_pos (by rw [Bool.not_eq_false'] at hcq; exact hcq)]
       refine cK<|xT<|cQ<|sM Z<|sA Z<|sA Z<|sK [8,9] Z<|cT<|fJ ?_
       exact aj Z ⟨Z2,[],Z,hE.trans hE3,Z,Z⟩ sbq
end
end Go.Fl
namespace Go.Fl
open Go Go.Hr
def nP:Nm:=[80]
def nA:Nm:=[65]
def nB:Nm:=[66]
def nQ:Nm:=[67]
def na:Nm:=[97]
def nb:Nm:=[98]
def nn:Nm:=[110]
def uO:Nm:=[65,78,89]
def ty0:Kt:=.mk 0 [] [] false false
def sj (n:Nm):Fe:=⟨2,n,[uO],[],ty0,[],[]⟩
def Iy (n:Nm):Fe:=⟨1,n,[uO],[],.mk 1 [] [] false false,[],[]⟩
def exPc:FC:=⟨nP,false,[],[],[sj na,Iy nn],[]⟩
def exAc (und:List Nm):FC:=⟨nA,false,[],[⟨nP,[],[],und,[],[]⟩],[],[]⟩
def exBc (red:List Nm):FC:=⟨nB,false,[],[⟨nP,[],[⟨na,nb⟩],[],red,[]⟩],[sj nb],[]⟩
def exQc (sel:List Nm):FC:=⟨nQ,false,[],[⟨nA,[],[],[],[],[]⟩,⟨nB,[],[],[],[],sel⟩],[],[]⟩
def Br (und red sel:List Nm):FS:=[exPc,exAc und,exBc red,exQc sel]
def ex1:FS:=Br [] [nb] []
def ex2:FS:=Br [] [nb] [nb]
def ex3:FS:=Br [] [] []
def ex4:FS:=Br [nn] [nb] []
def cf1:Cf:=⟨11,nQ,na,nb,⟨nP,na⟩,og0⟩
def cf3:Cf:=⟨7,nB,nb,[],⟨nP,na⟩,og0⟩
def cf4:Cf:=⟨4,nA,nn,[],⟨nP,nn⟩,og0⟩
theorem MM:kY ex1=(cf1,true,0):=by decide +kernel
theorem MN:mr ex1 cf1=0:=by decide +kernel
theorem MO:kY ex3=(cf3,true,0):=by decide +kernel
theorem MP:mr ex3 cf3=0:=by decide +kernel
theorem MQ:kY ex4=(cf4,true,0):=by decide +kernel
theorem MS:mr ex4 cf4=0:=by decide +kernel
theorem Iz:eY ex2 nQ=((eY ex2 nQ).1,0)/\(eY ex2 nQ).1.mems.length=3/\((eY ex2 nQ).1.mems.map λm=>m.name)=[na,nb,nn]:=by decide +kernel
theorem Ec:eY ex2 nB=((eY ex2 nB).1,0)/\((eY ex2 nB).1.mems.map λm=>(m.impl,m.seeds))=[(⟨nB,nb⟩,[⟨nP,na⟩]),(⟨nP,nn⟩,[⟨nP,nn⟩])]:=by decide +kernel
theorem MU:j6 ex2 nQ ⟨nP,na⟩=([na,nb],0):=by decide +kernel
theorem IA:oriP ex2 nQ nn=([⟨nA,nn⟩,⟨nB,nn⟩],0):=by decide +kernel
theorem IB:wh ex2 nQ nP na=(nb,0):=by decide +kernel
end Go.Fl
namespace Go.Fl
open Go Go.RowKit Go.Ck Go.Proofs Go.Proofs.Tryz Go.Proofs.YtknmacdbffgjgaaGreatDoor Fx Go.Hr
section
variable {P:Program} {w:World} {xs ys:Array Value} {d:Nat}
theorem lS {f : Field} {fs : List Field} {a b : Value} {r r2 : Bool} (h1 : f.name ≠ "_") (ha : (part f.type xs f.offset).run P w = .ok a w) (hb : (part f.type ys f.offset).run P w = .ok b w)
  (he:(Op.equalIn d f.type a b).run P w = .ok r w) (ht:(Op.eqFields d xs ys fs).run P w = .ok r2 w):(Op.eqFields d xs ys (f::fs)).run P w = .ok (r && r2) w:=by
 unfold Op.eqFields
 rw [if_pos h1]
 simp only [Sem.run_bind,ha,hb,he,Result.andThen_ok]
 cases r
 .rw [if_pos (by rfl)]; rfl
 .rw [if_neg (by simp),ht]; rfl
theorem fT {T:TypeId} {i:Nat} {v:Value} (hi:(isAgg T).run P w = .ok false w) (hx:xs[i]? = some v):(part T xs i).run P w = .ok v w:=by
 unfold part
 simp only [Sem.run_bind,hi,Result.andThen_ok,Bool.false_eq_true,if_false,hx,Sem.run_pure]
theorem lH {T:TypeId} {i n:Nat} (hi:(isAgg T).run P w = .ok true w) (hs:(sizeOf T).run P w = .ok n w):(part T xs i).run P w = .ok (.agg (xs.extract i (i+n))) w:=by
 unfold part
 simp only [Sem.run_bind,hi,hs,Result.andThen_ok,if_true,Sem.run_pure]
end
theorem Ed (w:World) (d:Nat) (a b c e:Nm):(Op.equalIn (d+2) 24 (.agg #[sv a,sv b]) (.agg #[sv c,sv e])).run prog w = .ok ([a,b] == [c,e]) w:=by
 have hf:prog.underlying 24=some (.struct<|prog.fieldsOf 24):=by simp [Program.fieldsOf,underlying24]
 rw [run_equalIn_struct w (d+1) 24 _ _ hf Zz]
 exact ut (xs:=[a,b]) (ys:=[c,e]) (prog.fieldsOf 24).toList 0 Zz Zz Zz
theorem cf_beq {x y:Cf}:decide (x=y)=(x.kind == y.kind && (x.cls == y.cls && (x.name == y.name && (x.other == y.other && ([x.a.par,x.a.name] == [y.a.par,y.a.name] && ([x.b.par,x.b.name] == [y.b.par,y.b.name] && true)))))):=by
 obtain ⟨k,c,n,o,⟨a1,a2⟩,⟨b1,b2⟩⟩:=x
 obtain ⟨k',c',n',o',⟨a1',a2'⟩,⟨b1',b2'⟩⟩:=y
 rw [Bool.eq_iff_iff]
 simp
theorem Ee {P:Program} {T:TypeId} {k:IntKind} {w:World} (hu:P.underlying T=some (.int k)):(isAgg T).run P w = .ok false w:=by
 unfold isAgg
 simp only [Sem.run_bind,run_underlying hu,Result.andThen_ok]
 rfl
theorem lT {P:Program} {T:TypeId} {w:World} (hu:P.underlying T=some .string):(isAgg T).run P w = .ok false w:=by
 unfold isAgg
 simp only [Sem.run_bind,run_underlying hu,Result.andThen_ok]
 rfl
theorem eqC (w:World) (x y:Cf):(Op.equalIn 10000 26 (cfV x) (cfV y)).run prog w = .ok (decide (x=y)) w:=by
 have hf:prog.underlying 26=some (.struct<|prog.fieldsOf 26):=by simp [Program.fieldsOf,underlying26]
 have hs:(sizeOf 24).run prog w = .ok 2 w:=Zz
 have ha:(isAgg 24).run prog w = .ok true w:=Zz
 unfold cfV
 rw [run_equalIn_struct w 9999 26 _ _ hf Zz,cf_beq]
 rw [show prog.fieldsOf 26=_ from by rw [Program.fieldsOf,underlying26]]
 refine lS (by decide) (fT (Ee underlying3) Z) (fT (Ee underlying3) Z) (run_equalIn_int w 9998 3 .i64 .i64 _ _ underlying3) ?_
 have hstr:∀ a b:Nm,(Op.equalIn 9999 9 (sv a)<|sv b).run prog w = .ok (a == b) w:=λa b=>by
  rw [show (Op.equalIn 9999 9 (sv a)<|sv b).run prog w=_ from run_equalIn_string w 9998 9 _ _ underlying9,jk,jk]
 refine lS (by decide) (fT (lT underlying9) Z) (fT (lT underlying9) Z) (hstr _ _) ?_
 refine lS (by decide) (fT (lT underlying9) Z) (fT (lT underlying9) Z) (hstr _ _) ?_
 refine lS (by decide) (fT (lT underlying9) Z) (fT (lT underlying9) Z) (hstr _ _) ?_
 refine lS (by decide) (lH ha hs) (lH ha hs) (Ed w 9997 _ _ _ _) ?_
 refine lS (by decide) (lH ha hs) (lH ha hs) (Ed w 9997 _ _ _ _) ?_
 simp [Op.eqFields]
theorem gd26:prog.eqGuardType prog.depth 26=false:=Zz
section
variable {e:Env} {h:SH} {ty:TypeId}
theorem v_eqC {t':TypeId} {x y:Operand} {a b:Cf} (hx:e.ev? x=some (cfV a)) (hy:e.ev? y=some (cfV b)):Vop prog e h (.binOp .eql 26 x y t') ty (.bool (decide (a=b))):=
 ⟨by simp,by simp,λρ w dd pos after g hρ _=>by
  have hq:=eqC w a b
  unfold cfV at *
  simp only [execOp,hρ x _ hx,hρ y _ hy,Sem.run_bind,run_eqGuard_agg w .eql 26 x y _ _ gd26,Result.andThen_ok,run_eql_struct,hq,Sem.run_pure]⟩
end
theorem seek_in {l:FS} {x:Cf} {n:Nm} {t:List Nm} {fs:List (Nm×Fl)} (h:n=x.cls):tO l x (n::t) fs=if (rY l fs n true).conflicts.contains x then 0 else 11:=by
 rw [tO,if_pos h]
theorem Pg {l:FS} {x:Cf} {n:Nm} {t:List Nm} {fs:List (Nm×Fl)} (h:n≠x.cls):tO l x (n::t) fs=if (rY l fs n false).conflicts≠[] then 11 else if over (mo l fs n) then 11 else tO l x t (fs++[(n,flatOf l (ae l n) (mo l fs n))]):=by
 rw [tO,if_neg h]
attribute [local irreducible] Go.Ck.Sub St Cd Xt Nx DrL LsW
section
variable {X:Res} {v:Value} {l:FS}
theorem Co (hX:Spc X) (hl:Ls X v l) (hS:jQ l) (x:Cf):eZ prog 14 #[v,cfV x] X [] λu Y k'=>k'=[]/\u = .int .i64 (mr l x):=by
 have hml:maxLen=9223372036854775807:=rfl
 have hrb:reachBytes=140737488351232:=rfl
 obtain ⟨vAq,vK,rfl,_⟩:=id hl.form
 have hck:=xK hX hl
 have hab0:=Gu (wY hl) x.cls
 unfold eZ cfV cfC
 refine Fy (n:=74) func14 Z Z (len Z) λhr w0 hw0=>?_
 refine cQ (aV Z Z λb3=>?_)
 refine au al29 λb4=>?_
 refine sK [0,3,4] Z<|cS<|cQ<|sM Z<|bW hw0 Z Z en16 Z (hck) ?_
 rintro u h' ⟨rfl,rfl⟩
 simp only [lC,lN]
 refine sM Z<|sV (ah Z Z)<|sV (ah Z Z)<|sA Z<|sA Z<|sK [0,3,4,5] Z<|cQ<|sM Z<|sV (bT Z Z)<|sK [0,3,4,5,21] Z<|cC Z (λhz=>?_)<|λhz=>?_
 .have hz:(cu l).1≠0:=Zl
  have hp:mr l x=(cu l).1:=by unfold mr; rw [if_pos hz]
  rw [hp]
  refine cQ<|sM Z<|bi Z Z Ew ?_
  refine sK [4] Z<|cT<|xR<|o6 (bs:=[]) (k:=pt b4 (cl [.int .i64 (cu l).1] 29)::([X]++hr)) Z (.cell1 Z Cc ⟨_,_,.here,bZ Z⟩ .nil) ⟨X,[],Z,Ext.refl X,Z,Z⟩ (Sub.cons<|Sub.refl _) ?_
  show Ck.Sub (pt b4 (cl [.int .i64 (cu l).1] 29)::X::hr) _
  exact sbq
 .have hz:(cu l).1=0:=Zl
  have hR:=jv.1 hz
  have hp:mr l x=if (bQ l x.cls).isNone then 11 else tO l x (above (aZ l) x.cls) []:=by unfold mr; rw [if_neg (λh=>h hz)]
  rw [hp]
  refine cK<|xT<|cQ<|sM Z<|sV (vF Z NI Z)<|sV (vY Z ld9) ?_
  refine aH Z Z en41 Z (hab0) ?_
  rintro u h' ⟨T,rfl,w,rfl,hw,rfl⟩
  simp only [lC,lN]
  unfold NR
  refine sM Z<|sV (ah Z Z)<|sV (ah Z Z)<|sA Z<|sA Z<|sK [0,3,4,7,8] Z<|cS<|cQ<|sM Z<|sV (bT Z Z)<|sK [0,3,4,7,31] Z<|cC Z (λhr0=>?_)<|λhr0=>?_
  .have hr0:dW (aZ l) [x.cls]≠0:=by simpa using hr0
   have hno : (bQ l x.cls).isNone = true := by
    cases hq:bQ l x.cls with
    | none=>rfl
    | some c=>exact absurd (fu.2 ⟨hR.sys,λk hk=>by
      rw [List.mem_singleton] at hk
      subst hk
      rw [dx,hq]; rfl⟩) hr0
   rw [if_pos hno]
   refine cQ<|bi Z Z Ew ?_
   refine sK [4] Z<|cT<|xR<|o6 (bs:=[]) (k:=pt b4 (cl [.int .i64 11] 29)::([X]++hr)) Z (.cell1 Z Cc ⟨_,_,.here,bZ Z⟩ .nil) ⟨X,[],Z,Ext.refl X,Z,Z⟩ (Sub.cons<|Sub.refl _) ?_
   show Ck.Sub (pt b4 (cl [.int .i64 11] 29)::X::hr) _
   exact sbq
  .have hr0:dW (aZ l) [x.cls]=0:=by simpa using hr0
   have hx0:(bQ l x.cls).isSome=true:=by rw [<- dx]; exact (fu.1 hr0).2 _ (by simp)
   rw [if_neg (by cases hq:bQ l x.cls with | none=>rw [hq] at hx0; cases hx0 | some c=>simp)]
   rw [hr0,show okL 0 (above (aZ l) x.cls)=above (aZ l) x.cls from rfl]
   have hxn:(above (aZ l) x.cls).Nodup:=(jT hR.sys.acyc x.cls).1.nodup
   have hof:∀ n∈above (aZ l) x.cls,(bQ l n).isSome=true:=λn hn=>by
    rw [<- dx]; exact sD (by rw [dx]; exact hx0) (((jT hR.sys.acyc x.cls).2 n).1 hn)
   have hol:=oZ hR hx0
   generalize above (aZ l) x.cls=xs at hxn hof hol ⊢
   refine fO (v:=w) (E:=9) (sz:=1) (rows:=xs.map nC) slq λwa wc hwf hwl hwm=>?_
   rw [List.length_map] at hwf hwl
   subst hwf
   refine cK<|xT<|cQ<|sM Z (fq (ltn Z) λmb=>?_)
   refine sV (aP (cells:=[.slice vAq l.length vK,.map (some mb)]) Z<|λ_=>Zz) ?_
   refine au al114 λb9=>?_
   refine ai Z Z sz114 Z Z ?_
   refine sK [3,4,7,9] Z<|cS<|cQ<|sM Z<|sV (aC Z underlying40)<|sM Z<|sK [3,4,9,35,36,37] Z<|cB<|oI<|oH (σ := Res×List (Nm×Value)×Nat×List (Nm×Fl)×List Nat) (λq=>q.2.2.2.2.map mk) (λq=>[(3,.pointer (some ⟨b3,0,none⟩)),(4,.pointer (some ⟨b4,0,none⟩)),(9,.pointer (some ⟨b9,0,none⟩)),(35,.slice wa xs.length wc),(36,.int .i64 xs.length),(37,.int .i64 (q.2.2.1:Nat))]) (λq=>Res.star (marks q.2.2.2.2)::pt b9 (cl [.slice vAq l.length vK,.map (some mb)] 114)::pt b3 (cl [.int .i64 x.kind,sv x.cls,sv x.name,sv x.other,sv x.a.par,sv x.a.name,sv x.b.par,sv x.b.name] 26)::pt b4 (cl [.int .i64 0] 29)::VR (.slice wa xs.length wc) 9 1 (xs.map nC)::q.1::mps mb q.2.1::hr) (λq=>Ext X q.1/\q.2.2.1<=xs.length/\FlR q.1 q.2.1 (look q.2.2.2.1)/\Fits l (look q.2.2.2.1)/\q.2.2.2.1.map (λp=>p.1)=xs.take q.2.2.1/\tO l x xs []=tO l x (xs.drop q.2.2.1) q.2.2.2.1) (λq=>xs.length - q.2.2.1) (X,[],0,[],[]) ⟨Ext.refl X,Nat.zero_le _,flr0,fits0 hR hS,Z,Z⟩ Z ⟨Z,Z,Z,Z,Z,Z,trivial⟩ sbq ?_
   rintro ⟨Y,m,i,fs,bs⟩ ⟨hE,hi,hm,hF,hfs,hbl⟩
   simp only at hE hi hm hF hfs hbl
   dsimp only
   refine cQ<|sV (aO Z Z)<|sN<|nT<|cS<|cC Z (λhd=>?_)<|λhd=>?_
   .have hlt:i<xs.length:=Zx
    have hnx:(xs.map nC)[i]? = some [sv xs[i]]:=by rw [List.getElem?_map,Zy hlt]; rfl
    have hnm:=hof _<|List.getElem_mem hlt
    have htk:=cz hlt
    have hdr:=List.drop_eq_getElem_cons hlt
    rw [hdr] at hbl
    have hnew:xs[i] ∉ fs.map λp=>p.1:=by
     rw [hfs]
     intro hmem
     obtain ⟨j,hj,he⟩:=List.mem_take_iff_getElem.1 hmem
     have:=(List.getElem_inj hxn).1 he
     omega
    refine fD (r:=VR (.slice wa xs.length wc) 9 1<|xs.map nC) slq λhok=>?_
    obtain ⟨ab,ao,rfl⟩:∃ ab ao,wa=some ⟨ab,ao,none⟩:=by
     obtain ⟨f0,hf0⟩:=hok
     rcases VR.form hf0 with ⟨h3,h4⟩ | ⟨b,o,cp,h3,-⟩
     .have:=List.map_eq_nil_iff.1 h4
      rw [this] at hlt; simp at hlt
     .rw [List.length_map] at h3; cases h3; exact ⟨b,o,rfl⟩
    generalize xs[i]=n at hnx hnm htk hnew hbl
    obtain ⟨hcn,hcl⟩:(ae l n).name=n/\ae l n∈l:=by
     obtain ⟨c0,hc0⟩:=Option.isSome_iff_exists.1 hnm
     rw [iI hc0]
     exact ⟨ql hc0,List.mem_of_find?_eq_some hc0⟩
    have hCR:=gJ<|hR.form _ hcl
    have hfew:=hF.few<|.inl hcl
    obtain ⟨hsS,hsP,hsQ⟩:=hF.sums hcl
    obtain ⟨hmf,hmS⟩:=Ia hF.right hF.flb hcl
    have hmok:=zx hF.flb.ok hCR hcl
    have hfl:=hCR.feats
    have hcc:=mG (n:=n) (fv:=.map<|some mb) (hl.up hE) rfl
    refine cK<|xT<|cS<|cB<|cQ<|sV (vI (k:=i) Z Z jG Z hlt Z)<|sV (vY Z ld9 (ha:=⟨_,_,slq,dU hnx 0<|by simp⟩)) ?_
    refine sA Z<|sK [3,4,9,11,35,36,37] Z<|cQ<|sV (af Z ig Z ag) ?_
    refine sM Z<|aH Z Z en56 Z (hcc) ?_
    rintro u h' ⟨rfl,cus,rfl,hcr⟩
    simp only [lC,lN]
    have hcr0:=hcr
    obtain ⟨ca,cb,ce,cf,ci,rfl,-⟩:=gB hcr
    have hco:=Enc.ones hcr0
    refine au oU λb12=>?_
    refine ai Z Z mP Z hco ?_
    refine sK [3,4,9,11,12,35,36,37] Z<|cQ<|sV (af Z ig Z ag) ?_
    refine sV (af Z gU Z ag) ?_
    have hmem:=Bn (mb:=mb) (hl.up hE) hcr0 hm (hF.hf<|.inl hcl) (by omega) hCR.names (by omega) (by omega) (by omega)<|by omega
    unfold CtX at hmem
    refine aH Z Z en57 Z (hmem) ?_
    rintro u h' ⟨Y2,k2,rfl,hE2,rfl,hms⟩
    simp only [lC,lN]
    have hE2':=hE.trans hE2
    have hB:∀ al,SkB ⟨look fs,l,ae l n,members (comes (look fs) l<|ae l n) (ae l n),al⟩:=λal=>⟨hF,hcl,hmS,hmf⟩
    refine sA Z<|sK [3,4,9,11,12,13,35,36,37] Z<|cS<|cQ<|sM Z<|sV (vF Z NI Z)<|sV (vY Z ld9) ?_
    refine sV (iM Z Z)<|sK [3,4,9,11,12,13,35,36,37,50] Z<|cC Z (λhnq=>?_)<|λhnq=>?_
    .have hnq:n=x.cls:=by simpa using hnq
     rw [seek_in hnq] at hbl
     have hc58:=xH (mb:=mb) (all:=true) (hl.up hE2') (Enc.up hE2.rd hcr0) (hm.up hE2) hms hF hcl
     unfold CtX at hc58
     refine cS<|cQ<|sV (af Z ig Z ag) ?_
     refine sV (af Z gU Z ag) ?_
     refine sM Z<|aH Z Z en58 Z (hc58) ?_
     rintro u2 h' ⟨Y3,k3,rfl,hE3,b90,bm,bmp,da,dbb,de,df,di,rfl,rfl,hK,hk0⟩
     simp only [lC,lN]
     have hE3':=hE2'.trans hE3
     refine sK [3,4,9,11,12,13,35,36,37,54] Z<|cB ?_
     have h127:=λ(yl:Nat) (Φ : List Cf->Res->Prop) (Stop:Cf->Res->Prop) (hy:Yh yl Φ Stop) (r0:Res) (h0 : Φ (rY l fs n true).conflicts r0)=>uM (mb:=mb) (bm:=bm) (b9:=b90) hy (S:=rY l fs n true) (all:=true) rfl hK (hB true) hk0 n rfl r0 h0
     generalize (rY l fs n true).conflicts=C at hbl h127
     refine xG hw0 Z en127w λyl db rec hst hpe hps hasg hbo hkn2=>?_
     refine ⟨λuz h''=>∃ h0,(uz = .tuple #[]/\∃ Y4,Ext Y3 Y4/\((C.contains x=false/\h0=[pt yl (.loop rec),pt db (.deferred<|some []),pt b3 (cl [.int .i64 x.kind,sv x.cls,sv x.name,sv x.other,sv x.a.par,sv x.a.name,sv x.b.par,sv x.b.name] 26),pt b4 (cl [.int .i64 0] 29),pt b9 (cl [.slice vAq l.length vK,.map (some mb)] 114),pt b12 (cl [sv (ae l n).name,.bool (ae l n).dfd,ca,cb,ce,cf,ci] 44),VR (.slice (some ⟨ab,ao,none⟩) xs.length wc) 9 1 (xs.map nC),Res.star (marks bs)]++[Y4,pt b90 (cl (fC (.slice vAq l.length vK) (.map<|some mb) (ae l n) da dbb de df di u (.map<|some bm) true) 206),mps mb m,mps bm bmp])\/(C.contains x=true/\∃ rec2:Loop,rec2.state≠.busy/\rec2.pending=some .ret/\h0=[pt yl (.loop rec2),pt db (.deferred<|some []),pt b3 (cl [.int .i64 x.kind,sv x.cls,sv x.name,sv x.other,sv x.a.par,sv x.a.name,sv x.b.par,sv x.b.name] 26),pt b4 (cl [.int .i64 0] 29),pt b9 (cl [.slice vAq l.length vK,.map (some mb)] 114),pt b12 (cl [sv (ae l n).name,.bool (ae l n).dfd,ca,cb,ce,cf,ci] 44),VR (.slice (some ⟨ab,ao,none⟩) xs.length wc) 9 1 (xs.map nC),Res.star (marks bs)]++[Y4,pt b90 (cl (fC (.slice vAq l.length vK) (.map<|some mb) (ae l n) da dbb de df di u (.map<|some bm) true) 206),mps mb m,mps bm bmp])))/\h''=h0++hr,Ctw.perm (Ctw.frame (g:=hr)<|Ctw.star (L:=[pt yl (.loop rec),pt db (.deferred<|some []),pt b3 (cl [.int .i64 x.kind,sv x.cls,sv x.name,sv x.other,sv x.a.par,sv x.a.name,sv x.b.par,sv x.b.name] 26),pt b4 (cl [.int .i64 0] 29),pt b9 (cl [.slice vAq l.length vK,.map (some mb)] 114),pt b12 (cl [sv (ae l n).name,.bool (ae l n).dfd,ca,cb,ce,cf,ci] 44),VR (.slice (some ⟨ab,ao,none⟩) xs.length wc) 9 1 (xs.map nC),Res.star (marks bs)]) (A:=[Y3,pt b90 (cl (fC (.slice vAq l.length vK) (.map<|some mb) (ae l n) da dbb de df di u (.map<|some bm) true) 206),mps mb m,mps bm bmp])<|Ctw.vw (Ctw.perm (h127 yl (λL r=>(∃ pre,C=pre++L/\x ∉ pre)/\r=Res.star ([pt yl (.loop rec),pt db (.deferred<|some []),pt b3 (cl [.int .i64 x.kind,sv x.cls,sv x.name,sv x.other,sv x.a.par,sv x.a.name,sv x.b.par,sv x.b.name] 26),pt b4 (cl [.int .i64 0] 29),pt b9 (cl [.slice vAq l.length vK,.map (some mb)] 114),pt b12 (cl [sv (ae l n).name,.bool (ae l n).dfd,ca,cb,ce,cf,ci] 44),VR (.slice (some ⟨ab,ao,none⟩) xs.length wc) 9 1 (xs.map nC),Res.star (marks bs)])) (λy r=>y=x/\C.contains x=true/\∃ rec2:Loop,rec2.state≠.busy/\rec2.pending=some .ret/\r=Res.star ([pt yl (.loop rec2),pt db (.deferred<|some []),pt b3 (cl [.int .i64 x.kind,sv x.cls,sv x.name,sv x.other,sv x.a.par,sv x.a.name,sv x.b.par,sv x.b.name] 26),pt b4 (cl [.int .i64 0] 29),pt b9 (cl [.slice vAq l.length vK,.map (some mb)] 114),pt b12 (cl [sv (ae l n).name,.bool (ae l n).dfd,ca,cb,ce,cf,ci] 44),VR (.slice (some ⟨ab,ao,none⟩) xs.length wc) 9 1 (xs.map nC),Res.star (marks bs)])) ?_ _ ⟨⟨[],Z,by simp⟩,Z⟩) (by (try simp only [lC,lN]); exact (by repeat (first | exact Pm.refl | refine Pm.cons slq ?_):Pm _ _).perm)) ?_) (by (try simp only [lC,lN]); exact (by repeat (first | exact Pm.refl | refine Pm.cons slq ?_):Pm _ _).perm),?_⟩
     .rintro y rest r ⟨⟨pre, hpre, hnpre⟩, rfl⟩
      refine Yc.star (R:=λu L'=>(u = .bool true/\y≠x/\L'=[pt yl (.loop rec),pt db (.deferred<|some []),pt b3 (cl [.int .i64 x.kind,sv x.cls,sv x.name,sv x.other,sv x.a.par,sv x.a.name,sv x.b.par,sv x.b.name] 26),pt b4 (cl [.int .i64 0] 29),pt b9 (cl [.slice vAq l.length vK,.map (some mb)] 114),pt b12 (cl [sv (ae l n).name,.bool (ae l n).dfd,ca,cb,ce,cf,ci] 44),VR (.slice (some ⟨ab,ao,none⟩) xs.length wc) 9 1 (xs.map nC),Res.star (marks bs)])\/(u = .bool false/\y=x/\∃ rec2:Loop,rec2.state≠.busy/\rec2.pending=some .ret/\L'=[pt yl (.loop rec2),pt db (.deferred<|some []),pt b3 (cl [.int .i64 x.kind,sv x.cls,sv x.name,sv x.other,sv x.a.par,sv x.a.name,sv x.b.par,sv x.b.name] 26),pt b4 (cl [.int .i64 0] 29),pt b9 (cl [.slice vAq l.length vK,.map (some mb)] 114),pt b12 (cl [sv (ae l n).name,.bool (ae l n).dfd,ca,cb,ce,cf,ci] 44),VR (.slice (some ⟨ab,ao,none⟩) xs.length wc) 9 1 (xs.map nC),Res.star (marks bs)])) (rz (n:=74) (rec:=rec) (args:=[cfV y]) (hf:=[pt db (.deferred<|some []),pt b3 (cl [.int .i64 x.kind,sv x.cls,sv x.name,sv x.other,sv x.a.par,sv x.a.name,sv x.b.par,sv x.b.name] 26),pt b4 (cl [.int .i64 0] 29),pt b9 (cl [.slice vAq l.length vK,.map (some mb)] 114),pt b12 (cl [sv (ae l n).name,.bool (ae l n).dfd,ca,cb,ce,cf,ci] 44),VR (.slice (some ⟨ab,ao,none⟩) xs.length wc) 9 1 (xs.map nC),Res.star (marks bs)]) (by rw [hps]; rfl) hkn2 (by rw [hps]; decide) ?_)<|λu L' h=>?_
      .intro hr2 w1
       rw [hasg,hps,hbo]
       simp only [lC,lN]
       unfold cfV cfC
       refine cR (au EH λb14=>?_)
       refine ai Z Z wP Z Z ?_
       refine sN<|nK [3,4,14] Z<|ax<|lW Z slq (by first | rfl | assumption) ?_
       refine cB<|cQ<|sV (af Z uh Z ag) ?_
       refine sV (af Z uh Z ag) ?_
       refine sV (v_eqC (a:=y) (b:=x) Z Z)<|sK [4,58] Z<|cC Z (λhyx=>?_)<|λhyx=>?_
       .have hyx:y=x:=of_decide_eq_true hyx
        refine cQ<|bi Z Z Ew ?_
        refine sK [4] Z<|cT<|xW<|lu slq (.inr ⟨Z,hyx,?rr,?_,?_,Z⟩) ?_
        rotate_left 3
        .exact sbq
        .simp
        .rfl
       .have hyx:y≠x:=of_decide_eq_false hyx
        refine cK<|xB<|dI slq (.inl ⟨Z,hyx,Z⟩) ?_
        rw [dJ hst hpe]
        exact sbq
      .rcases h with ⟨h1, h2, h3⟩ | ⟨h1, h2, rec2, h3, h4, h5⟩
       .exact .inl ⟨h1,_,⟨⟨pre++[y],by rw [hpre,List.append_assoc]; rfl,λhm=>by
         rcases List.mem_append.1 hm with hm | hm
         .exact hnpre hm
         .exact h2 (List.mem_singleton.1 hm).symm⟩,Z⟩,by rw [h3]⟩
       .exact .inr ⟨h1,_,⟨h2,by rw [hpre,List.contains_iff_mem]; subst h2; simp,rec2,h3,h4,rfl⟩,by rw [h5]⟩
     .rintro u9 h' ⟨Y4,k',rfl,hE4,rfl,r,rfl,hor⟩
      rcases hor with ⟨⟨pre,hpre,hnpre⟩,hr9⟩ | ⟨y,hyx,hcx,rec2,hb2,hp2,hr9⟩
      .subst hr9
       exact ⟨[pt yl (.loop rec),pt db (.deferred<|some []),pt b3 (cl [.int .i64 x.kind,sv x.cls,sv x.name,sv x.other,sv x.a.par,sv x.a.name,sv x.b.par,sv x.b.name] 26),pt b4 (cl [.int .i64 0] 29),pt b9 (cl [.slice vAq l.length vK,.map (some mb)] 114),pt b12 (cl [sv (ae l n).name,.bool (ae l n).dfd,ca,cb,ce,cf,ci] 44),VR (.slice (some ⟨ab,ao,none⟩) xs.length wc) 9 1 (xs.map nC),Res.star (marks bs)]++[Y4,pt b90 (cl (fC (.slice vAq l.length vK) (.map<|some mb) (ae l n) da dbb de df di u (.map<|some bm) true) 206),mps mb m,mps bm bmp],λt=>xI (L:=[pt yl (.loop rec),pt db (.deferred<|some []),pt b3 (cl [.int .i64 x.kind,sv x.cls,sv x.name,sv x.other,sv x.a.par,sv x.a.name,sv x.b.par,sv x.b.name] 26),pt b4 (cl [.int .i64 0] 29),pt b9 (cl [.slice vAq l.length vK,.map (some mb)] 114),pt b12 (cl [sv (ae l n).name,.bool (ae l n).dfd,ca,cb,ce,cf,ci] 44),VR (.slice (some ⟨ab,ao,none⟩) xs.length wc) 9 1 (xs.map nC),Res.star (marks bs)]) (A:=[Y4,pt b90 (cl (fC (.slice vAq l.length vK) (.map<|some mb) (ae l n) da dbb de df di u (.map<|some bm) true) 206),mps mb m,mps bm bmp]),Z,Y4,hE4,.inl ⟨by rw [hpre,List.append_nil]; simpa using hnpre,Z⟩⟩
      .subst hr9
       exact ⟨[pt yl (.loop rec2),pt db (.deferred<|some []),pt b3 (cl [.int .i64 x.kind,sv x.cls,sv x.name,sv x.other,sv x.a.par,sv x.a.name,sv x.b.par,sv x.b.name] 26),pt b4 (cl [.int .i64 0] 29),pt b9 (cl [.slice vAq l.length vK,.map (some mb)] 114),pt b12 (cl [sv (ae l n).name,.bool (ae l n).dfd,ca,cb,ce,cf,ci] 44),VR (.slice (some ⟨ab,ao,none⟩) xs.length wc) 9 1 (xs.map nC),Res.star (marks bs)]++[Y4,pt b90 (cl (fC (.slice vAq l.length vK) (.map<|some mb) (ae l n) da dbb de df di u (.map<|some bm) true) 206),mps mb m,mps bm bmp],λt=>xI (L:=[pt yl (.loop rec2),pt db (.deferred<|some []),pt b3 (cl [.int .i64 x.kind,sv x.cls,sv x.name,sv x.other,sv x.a.par,sv x.a.name,sv x.b.par,sv x.b.name] 26),pt b4 (cl [.int .i64 0] 29),pt b9 (cl [.slice vAq l.length vK,.map (some mb)] 114),pt b12 (cl [sv (ae l n).name,.bool (ae l n).dfd,ca,cb,ce,cf,ci] 44),VR (.slice (some ⟨ab,ao,none⟩) xs.length wc) 9 1 (xs.map nC),Res.star (marks bs)]) (A:=[Y4,pt b90 (cl (fC (.slice vAq l.length vK) (.map<|some mb) (ae l n) da dbb de df di u (.map<|some bm) true) 206),mps mb m,mps bm bmp]),Z,Y4,hE4,.inr ⟨hcx,rec2,hb2,hp2,Z⟩⟩
     .rintro u9 h'' ⟨h0,⟨rfl,Y4,hE4,(⟨hcx,rfl⟩ | ⟨hcx,rec2,hb2,hp2,rfl⟩)⟩,rfl⟩
      .simp only [lC,lN]
       refine ⟨rec,_,slq,(by rw [hst]; simp),?_⟩
       rw [hpe]
       dsimp only
       rw [hcx,if_neg (by decide)] at hbl
       rw [hbl]
       refine xB<|xT<|cQ<|bi Z Z Ew ?_
       refine sK [4] Z<|cT<|xR<|xW<|xR<|xR<|xW<|xR<|jD slq slq ?_
       refine kV (bs:=db::bs) (k:=pt b4 (cl [.int .i64 11] 29)::([Y4]++hr)) Z (.cell1 Z Cc ⟨_,_,.here,bZ Z⟩ .nil) ⟨Y4,[],Z,hE3'.trans hE4,Z,Z⟩ (Sub.cons<|Sub.refl _) ?_
       simp only [lC,lN]
       exact sbq
      .simp only [lC,lN]
       refine ⟨rec2,_,slq,hb2,?_⟩
       rw [hp2]
       dsimp only
       rw [hcx,if_pos rfl] at hbl
       rw [hbl]
       refine cT<|xW<|xR<|xR<|xW<|xR<|xR<|xW<|xR<|jD slq slq ?_
       refine kV (bs:=db::bs) (k:=pt b4 (cl [.int .i64 0] 29)::([Y4]++hr)) Z (.cell1 Z Cc ⟨_,_,.here,bZ Z⟩ .nil) ⟨Y4,[],Z,hE3'.trans hE4,Z,Z⟩ (Sub.cons<|Sub.refl _) ?_
       simp only [lC,lN]
       exact sbq
    .have hnq:n≠x.cls:=by simpa using hnq
     rw [Pg hnq] at hbl
     have hc58:=xH (mb:=mb) (all:=false) (hl.up hE2') (Enc.up hE2.rd hcr0) (hm.up hE2) hms hF hcl
     unfold CtX at hc58
     refine cK<|xT<|cS<|cQ<|sV (af Z ig Z ag) ?_
     refine sV (af Z gU Z ag) ?_
     refine sM Z<|aH Z Z en58 Z (hc58) ?_
     rintro u2 h' ⟨Y3,k3,rfl,hE3,b90,bm,bmp,da,dbb,de,df,di,rfl,rfl,hK,hk0⟩
     simp only [lC,lN]
     have hE3':=hE2'.trans hE3
     refine sK [3,4,9,11,12,13,35,36,37,62] Z<|cB ?_
     have h127:=λ(yl:Nat) (Φ : List Cf->Res->Prop) (Stop:Cf->Res->Prop) (hy:Yh yl Φ Stop) (r0:Res) (h0 : Φ (rY l fs n false).conflicts r0)=>uM (mb:=mb) (bm:=bm) (b9:=b90) hy (S:=rY l fs n false) (all:=false) rfl hK (hB false) hk0 n rfl r0 h0
     generalize (rY l fs n false).conflicts=C at hbl h127
     refine xG hw0 Z en127w λyl db rec hst hpe hps hasg hbo hkn2=>?_
     refine ⟨λuz h''=>∃ h0,(uz = .tuple #[]/\∃ Y4,Ext Y3 Y4/\((C=[]/\h0=[pt yl (.loop rec),pt db (.deferred<|some []),pt b3 (cl [.int .i64 x.kind,sv x.cls,sv x.name,sv x.other,sv x.a.par,sv x.a.name,sv x.b.par,sv x.b.name] 26),pt b4 (cl [.int .i64 0] 29),pt b9 (cl [.slice vAq l.length vK,.map (some mb)] 114),pt b12 (cl [sv (ae l n).name,.bool (ae l n).dfd,ca,cb,ce,cf,ci] 44),VR (.slice (some ⟨ab,ao,none⟩) xs.length wc) 9 1 (xs.map nC),Res.star (marks bs)]++[Y4,pt b90 (cl (fC (.slice vAq l.length vK) (.map<|some mb) (ae l n) da dbb de df di u (.map<|some bm) false) 206),mps mb m,mps bm bmp])\/(C≠[]/\∃ rec2:Loop,rec2.state≠.busy/\rec2.pending=some .ret/\h0=[pt yl (.loop rec2),pt db (.deferred<|some []),pt b3 (cl [.int .i64 x.kind,sv x.cls,sv x.name,sv x.other,sv x.a.par,sv x.a.name,sv x.b.par,sv x.b.name] 26),pt b4 (cl [.int .i64 11] 29),pt b9 (cl [.slice vAq l.length vK,.map (some mb)] 114),pt b12 (cl [sv (ae l n).name,.bool (ae l n).dfd,ca,cb,ce,cf,ci] 44),VR (.slice (some ⟨ab,ao,none⟩) xs.length wc) 9 1 (xs.map nC),Res.star (marks bs)]++[Y4,pt b90 (cl (fC (.slice vAq l.length vK) (.map<|some mb) (ae l n) da dbb de df di u (.map<|some bm) false) 206),mps mb m,mps bm bmp])))/\h''=h0++hr,Ctw.perm (Ctw.frame (g:=hr)<|Ctw.star (L:=[pt yl (.loop rec),pt db (.deferred<|some []),pt b3 (cl [.int .i64 x.kind,sv x.cls,sv x.name,sv x.other,sv x.a.par,sv x.a.name,sv x.b.par,sv x.b.name] 26),pt b4 (cl [.int .i64 0] 29),pt b9 (cl [.slice vAq l.length vK,.map (some mb)] 114),pt b12 (cl [sv (ae l n).name,.bool (ae l n).dfd,ca,cb,ce,cf,ci] 44),VR (.slice (some ⟨ab,ao,none⟩) xs.length wc) 9 1 (xs.map nC),Res.star (marks bs)]) (A:=[Y3,pt b90 (cl (fC (.slice vAq l.length vK) (.map<|some mb) (ae l n) da dbb de df di u (.map<|some bm) false) 206),mps mb m,mps bm bmp])<|Ctw.vw (Ctw.perm (h127 yl (λL r=>L=C/\r=Res.star ([pt yl (.loop rec),pt db (.deferred<|some []),pt b3 (cl [.int .i64 x.kind,sv x.cls,sv x.name,sv x.other,sv x.a.par,sv x.a.name,sv x.b.par,sv x.b.name] 26),pt b4 (cl [.int .i64 0] 29),pt b9 (cl [.slice vAq l.length vK,.map (some mb)] 114),pt b12 (cl [sv (ae l n).name,.bool (ae l n).dfd,ca,cb,ce,cf,ci] 44),VR (.slice (some ⟨ab,ao,none⟩) xs.length wc) 9 1 (xs.map nC),Res.star (marks bs)])) (λy r=>C≠[]/\∃ rec2:Loop,rec2.state≠.busy/\rec2.pending=some .ret/\r=Res.star ([pt yl (.loop rec2),pt db (.deferred<|some []),pt b3 (cl [.int .i64 x.kind,sv x.cls,sv x.name,sv x.other,sv x.a.par,sv x.a.name,sv x.b.par,sv x.b.name] 26),pt b4 (cl [.int .i64 11] 29),pt b9 (cl [.slice vAq l.length vK,.map (some mb)] 114),pt b12 (cl [sv (ae l n).name,.bool (ae l n).dfd,ca,cb,ce,cf,ci] 44),VR (.slice (some ⟨ab,ao,none⟩) xs.length wc) 9 1 (xs.map nC),Res.star (marks bs)])) ?_ _ ⟨Z,Z⟩) (by (try simp only [lC,lN]); exact (by repeat (first | exact Pm.refl | refine Pm.cons slq ?_):Pm _ _).perm)) ?_) (by (try simp only [lC,lN]); exact (by repeat (first | exact Pm.refl | refine Pm.cons slq ?_):Pm _ _).perm),?_⟩
     .rintro y rest r ⟨hCx,rfl⟩
      refine Yc.star (R:=λu L'=>u = .bool false/\∃ rec2:Loop,rec2.state≠.busy/\rec2.pending=some .ret/\L'=[pt yl (.loop rec2),pt db (.deferred<|some []),pt b3 (cl [.int .i64 x.kind,sv x.cls,sv x.name,sv x.other,sv x.a.par,sv x.a.name,sv x.b.par,sv x.b.name] 26),pt b4 (cl [.int .i64 11] 29),pt b9 (cl [.slice vAq l.length vK,.map (some mb)] 114),pt b12 (cl [sv (ae l n).name,.bool (ae l n).dfd,ca,cb,ce,cf,ci] 44),VR (.slice (some ⟨ab,ao,none⟩) xs.length wc) 9 1 (xs.map nC),Res.star (marks bs)]) (rz (n:=74) (rec:=rec) (args:=[cfV y]) (hf:=[pt db (.deferred<|some []),pt b3 (cl [.int .i64 x.kind,sv x.cls,sv x.name,sv x.other,sv x.a.par,sv x.a.name,sv x.b.par,sv x.b.name] 26),pt b4 (cl [.int .i64 0] 29),pt b9 (cl [.slice vAq l.length vK,.map (some mb)] 114),pt b12 (cl [sv (ae l n).name,.bool (ae l n).dfd,ca,cb,ce,cf,ci] 44),VR (.slice (some ⟨ab,ao,none⟩) xs.length wc) 9 1 (xs.map nC),Res.star (marks bs)]) (by rw [hps]; rfl) hkn2 (by rw [hps]; decide) ?_)<|λu L' ⟨h1,rec2,h3,h4,h2⟩=>.inr ⟨h1,_,⟨by rw [<- hCx]; simp,rec2,h3,h4,Z⟩,by rw [h2]⟩
      intro hr2 w1
      rw [hasg,hps,hbo]
      simp only [lC,lN]
      refine cK<|lW Z slq (by first | rfl | assumption) ?_
      refine cB<|cQ<|bi Z Z Ew ?_
      refine sK [4] Z<|cT<|xW<|lu slq ⟨Z,?rs,?_,?_,Z⟩ ?_
      rotate_left 3
      .exact sbq
      .simp
      .rfl
     .rintro u9 h' ⟨Y4,k',rfl,hE4,rfl,r,rfl,hor⟩
      rcases hor with ⟨hC0,hr9⟩ | ⟨y,hcx,rec2,hb2,hp2,hr9⟩
      .subst hr9
       exact ⟨[pt yl (.loop rec),pt db (.deferred<|some []),pt b3 (cl [.int .i64 x.kind,sv x.cls,sv x.name,sv x.other,sv x.a.par,sv x.a.name,sv x.b.par,sv x.b.name] 26),pt b4 (cl [.int .i64 0] 29),pt b9 (cl [.slice vAq l.length vK,.map (some mb)] 114),pt b12 (cl [sv (ae l n).name,.bool (ae l n).dfd,ca,cb,ce,cf,ci] 44),VR (.slice (some ⟨ab,ao,none⟩) xs.length wc) 9 1 (xs.map nC),Res.star (marks bs)]++[Y4,pt b90 (cl (fC (.slice vAq l.length vK) (.map<|some mb) (ae l n) da dbb de df di u (.map<|some bm) false) 206),mps mb m,mps bm bmp],λt=>xI (L:=[pt yl (.loop rec),pt db (.deferred<|some []),pt b3 (cl [.int .i64 x.kind,sv x.cls,sv x.name,sv x.other,sv x.a.par,sv x.a.name,sv x.b.par,sv x.b.name] 26),pt b4 (cl [.int .i64 0] 29),pt b9 (cl [.slice vAq l.length vK,.map (some mb)] 114),pt b12 (cl [sv (ae l n).name,.bool (ae l n).dfd,ca,cb,ce,cf,ci] 44),VR (.slice (some ⟨ab,ao,none⟩) xs.length wc) 9 1 (xs.map nC),Res.star (marks bs)]) (A:=[Y4,pt b90 (cl (fC (.slice vAq l.length vK) (.map<|some mb) (ae l n) da dbb de df di u (.map<|some bm) false) 206),mps mb m,mps bm bmp]),Z,Y4,hE4,.inl ⟨hC0.symm,Z⟩⟩
      .subst hr9
       exact ⟨[pt yl (.loop rec2),pt db (.deferred<|some []),pt b3 (cl [.int .i64 x.kind,sv x.cls,sv x.name,sv x.other,sv x.a.par,sv x.a.name,sv x.b.par,sv x.b.name] 26),pt b4 (cl [.int .i64 11] 29),pt b9 (cl [.slice vAq l.length vK,.map (some mb)] 114),pt b12 (cl [sv (ae l n).name,.bool (ae l n).dfd,ca,cb,ce,cf,ci] 44),VR (.slice (some ⟨ab,ao,none⟩) xs.length wc) 9 1 (xs.map nC),Res.star (marks bs)]++[Y4,pt b90 (cl (fC (.slice vAq l.length vK) (.map<|some mb) (ae l n) da dbb de df di u (.map<|some bm) false) 206),mps mb m,mps bm bmp],λt=>xI (L:=[pt yl (.loop rec2),pt db (.deferred<|some []),pt b3 (cl [.int .i64 x.kind,sv x.cls,sv x.name,sv x.other,sv x.a.par,sv x.a.name,sv x.b.par,sv x.b.name] 26),pt b4 (cl [.int .i64 11] 29),pt b9 (cl [.slice vAq l.length vK,.map (some mb)] 114),pt b12 (cl [sv (ae l n).name,.bool (ae l n).dfd,ca,cb,ce,cf,ci] 44),VR (.slice (some ⟨ab,ao,none⟩) xs.length wc) 9 1 (xs.map nC),Res.star (marks bs)]) (A:=[Y4,pt b90 (cl (fC (.slice vAq l.length vK) (.map<|some mb) (ae l n) da dbb de df di u (.map<|some bm) false) 206),mps mb m,mps bm bmp]),Z,Y4,hE4,.inr ⟨hcx,rec2,hb2,hp2,Z⟩⟩
     .rintro u9 h'' ⟨h0, ⟨rfl, Y4, hE4, (⟨rfl, rfl⟩ | ⟨hcx, rec2, hb2, hp2, rfl⟩)⟩, rfl⟩
      .simp only [lC,lN]
       refine ⟨rec,_,slq,(by rw [hst]; simp),?_⟩
       rw [hpe]
       dsimp only
       rw [if_neg (by simp)] at hbl
       refine xB<|xT<|cS<|cQ<|sM Z ?_
       have hE4':=hE3'.trans hE4
       have hE24:=hE2.trans<|hE3.trans hE4
       have hms4:=hms.up<|hE3.trans hE4
       have hov:=K4 hms4
       refine bf Z Z en59 Z (hov) ?_
       refine sK [3,4,9,11,12,13,35,36,37,65] Z<|cC Z (λhto=>?_)<|λhto=>?_
       .rw [if_pos (show over (mo l fs n)=true from hto)] at hbl
        rw [hbl]
        refine cQ<|bi Z Z Ew ?_
        refine sK [4] Z<|cT<|xR<|xW<|xR<|xR<|xW<|xR<|jD slq slq ?_
        refine kV (bs:=db::bs) (k:=pt b4 (cl [.int .i64 11] 29)::([Y4]++hr)) Z (.cell1 Z Cc ⟨_,_,.here,bZ Z⟩ .nil) ⟨Y4,[],Z,hE4',Z,Z⟩ (Sub.cons<|Sub.refl _) ?_
        simp only [lC,lN]
        exact sbq
       .have hto2:over (mo l fs n)=false:=hto
        have hto':¬ over (mo l fs n)=true:=by rw [hto2]; simp
        rw [if_neg hto'] at hbl
        have hsh:(mo l fs n).length<=60:=by
         refine Nat.le_of_not_lt λh=>hto' ?_
         show over (mo l fs n)=true
         unfold over
         rw [decide_eq_true h,Bool.true_or]
        have hrn:dW (aZ l) [(ae l n).name]=0:=fu.2 ⟨hR.sys,by
         intro k hk
         rw [List.mem_singleton] at hk
         subst hk
         rw [hcn]
         rw [dx]; exact hnm⟩
        have hab:=oZ hR (by rw [hcn]; exact hnm:(bQ l (ae l n).name).isSome=true)
        have hfc:=Lb (fv:=.map<|some mb) (hl.up hE4') (Enc.up (hE24).rd hcr0) hms4 rfl hrn<|by omega
        refine cK<|xT<|jC (ork [(0,2),(1,1),(2,2),(3,1),(4,1),(5,2),(6,0),(7,0)] .nil) (λi => !(Nat.beq i 7)) [pt b9 (cl [.slice vAq l.length vK,.map (some mb)] 114),pt b12 (cl [sv (ae l n).name,.bool (ae l n).dfd,ca,cb,ce,cf,ci] 44)] mixed Zz ?_
        refine dV Z (vF Z iW Z)<|bu Z (vY Z qI) ?_
        refine dV Z (vM Z)<|bu Z (af Z ig Z ag) ?_
        refine bu Z (af Z gU Z ag) ?_
        refine dV Z (vM Z)<|aT Z<|aH Z Z en60 Z (hfc) ?_
        rintro u9 h' ⟨Y5,k5,rfl,hE5,rfl,fus,rfl,hfr⟩
        simp only [lC,lN]
        refine aW ?_
        refine aT Z<|dB Z Z Z qG slq<|aW ?_
        refine bB<|nK [3,4,9,35,36,37] Z<|ax<|xB<|xT<|cR<|sV (aI Z Z Z0)<|sM Z<|sN<|nK [3,4,9,35,36,37] Z<|ax<|jD slq slq ?_
        refine lK (Y5,eU m n (.agg fus.toArray),i+1,fs++[(n,flatOf l (ae l n) (mo l fs n))],db::bs) ⟨hE4'.trans hE5,hlt,(hm.up<|hE24.trans hE5).put hnew hfr,⟨hF.right,hF.flb.put hnew hsh hmok,hF.lists⟩,by rw [List.map_append,hfs,htk]; rfl,hbl⟩ (by show xs.length - (i+1)<xs.length - i; omega) Z ⟨Z,Z,Z,Z,Z,Z,trivial⟩ ?_
        dsimp only
        exact sbq
      .simp only [lC,lN]
       refine ⟨rec2,_,slq,hb2,?_⟩
       rw [hp2]
       dsimp only
       rw [if_pos hcx] at hbl
       rw [hbl]
       refine cT<|xW<|xR<|xW<|xR<|xR<|xW<|xR<|jD slq slq ?_
       refine kV (bs:=db::bs) (k:=pt b4 (cl [.int .i64 11] 29)::([Y4]++hr)) Z (.cell1 Z Cc ⟨_,_,.here,bZ Z⟩ .nil) ⟨Y4,[],Z,hE3'.trans hE4,Z,Z⟩ (Sub.cons<|Sub.refl _) ?_
       simp only [lC,lN]
       exact sbq
   .have hie:i=xs.length:=Nat.le_antisymm hi<|Nat.not_lt.1 Zx
    subst hie
    rw [List.drop_length] at hbl
    rw [hbl]
    refine aB<|xE<|xE<|xY<|xT<|cQ<|bi Z Z Ew ?_
    refine sK [4] Z<|cT<|kV (bs:=bs) (k:=pt b4 (cl [.int .i64 11] 29)::([Y]++hr)) Z (.cell1 Z Cc ⟨_,_,.here,bZ Z⟩ .nil) ⟨Y,[],Z,hE,Z,Z⟩ (Sub.cons<|Sub.refl _) ?_
    simp only [lC,lN]
    exact sbq
end
end Go.Fl
namespace Go.Fl
open Go Go.RowKit Go.Ck Go.Proofs Go.Proofs.Tryz Go.Proofs.YtknmacdbffgjgaaGreatDoor Fx Go.Hr
theorem lI {S:Res}:Tys S (.slice none 0 0) []:=⟨Row.nil,by simp⟩
def exF (k:Int) (n:Nm) (b:Nat) (tk:Int):List Value:=[.int .i64 k,sv n,.slice (some ⟨b,0,none⟩) 1 1,.slice none 0 0,.int .i64 tk,sv [],.slice none 0 0,.bool false,.bool false,.slice none 0 0,.slice none 0 0,.slice none 0 0,.slice none 0 0,.slice none 0 0,.bool false]
def q8 (ba bb bc:Nat) (fp fb:Value):List Value:=[sv nP,.bool false,.slice none 0 0,.slice none 0 0,.slice none 0 0,fp,.slice none 0 0]++[sv nA,.bool false,.slice none 0 0,.slice (some ⟨ba,0,none⟩) 1 1,.slice none 0 0,.slice none 0 0,.slice none 0 0]++[sv nB,.bool false,.slice none 0 0,.slice (some ⟨bb,0,none⟩) 1 1,.slice none 0 0,fb,.slice none 0 0]++[sv nQ,.bool false,.slice none 0 0,.slice (some ⟨bc,0,none⟩) 2 2,.slice none 0 0,.slice none 0 0,.slice none 0 0]
def uP (ua:Value):List Value:=[sv nP,.slice none 0 0,.slice none 0 0,ua,.slice none 0 0,.slice none 0 0]
def uQ (rn rd:Value):List Value:=[sv nP,.slice none 0 0,rn,.slice none 0 0,rd,.slice none 0 0]
def lq (se:Value):List Value:=[sv nA,.slice none 0 0,.slice none 0 0,.slice none 0 0,.slice none 0 0,.slice none 0 0,sv nB,.slice none 0 0,.slice none 0 0,.slice none 0 0,.slice none 0 0,se]
theorem ls_four {α : Type} [Enc α] {R:Res} {b:Nat} {p q r s : α} {u1 u2 u3 u4:List Value} (h1:Enc.rep R u1 p) (h2:Enc.rep R u2 q) (h3:Enc.rep R u3 r) (h4:Enc.rep R u4 s) (g1:Rds R b 0 u1) (g2:Rds R b (1 * Enc.sz α) u2) (g3:Rds R b (2 * Enc.sz α) u3) (g4:Rds R b (3 * Enc.sz α) u4) (hb:4 * Enc.by' α <= reachBytes):Ls R (.slice (some ⟨b,0,none⟩) 4 4) [p,q,r,s]:=
 ⟨⟨some ⟨b,0,none⟩,4,rfl,Nat.le_refl _,by decide,(λh=>by cases h),λi z hi=>by
  match i,hi with
  | 0,hi=>cases hi; exact ⟨b,0,u1,rfl,Enc.len h1,by rw [Nat.zero_mul,Nat.add_zero]; exact g1,h1⟩
  | 1,hi=>cases hi; exact ⟨b,0,u2,rfl,Enc.len h2,by rw [Nat.zero_add]; exact g2,h2⟩
  | 2,hi=>cases hi; exact ⟨b,0,u3,rfl,Enc.len h3,by rw [Nat.zero_add]; exact g3,h3⟩
  | 3,hi=>cases hi; exact ⟨b,0,u4,rfl,Enc.len h4,by rw [Nat.zero_add]; exact g4,h4⟩⟩,hb⟩
section
variable {X Zq:Res} {v:Value} {l:FS}
theorem FE {n:Nm} {b:Nat} (hb:Rds Zq b 0 [sv uO]):Enc.rep Zq (exF 2 n b 0) (sj n)/\Enc.rep Zq (exF 1 n b 1) (Iy n):=by
 have hc:Ls Zq (.slice (some ⟨b,0,none⟩) 1 1) [uO]:=jN (ux:=[sv uO]) rfl hb<|by decide
 exact ⟨⟨_,_,[.int .i64 0,sv [],.slice none 0 0,.bool false,.bool false],_,_,_,_,_,_,Z,hc,Ls.nil,gI (t:=ty0) Z lI,Ls.nil,Ls.nil,Z⟩,⟨_,_,[.int .i64 1,sv [],.slice none 0 0,.bool false,.bool false],_,_,_,_,_,_,Z,hc,Ls.nil,gI (t:=.mk 1 [] [] false false) Z lI,Ls.nil,Ls.nil,Z⟩⟩
theorem Lg {bl ba bb bc:Nat} {fp fb rn ua rd se:Value} {und red sel:List Nm} (h1:Rds Zq bl 0 (q8 ba bb bc fp fb)) (h2:Rds Zq ba 0 (uP ua)) (h3:Rds Zq bb 0 (uQ rn rd)) (h4:Rds Zq bc 0 (lq se))
  (hfp:Ls Zq fp [sj na,Iy nn]) (hfb:Ls Zq fb [sj nb]) (hrn:Ls Zq rn [(⟨na,nb⟩:Pn)]) (hua:Ls Zq ua und) (hrd:Ls Zq rd red) (hse:Ls Zq se sel):Ls Zq (.slice (some ⟨bl,0,none⟩) 4 4) (Br und red sel):=by
 have pA:Ls Zq (.slice (some ⟨ba,0,none⟩) 1 1) [(⟨nP,[],[],und,[],[]⟩:Pt)]:=jN (ux:=uP ua) ⟨_,_,_,_,_,rfl,lI,Ls.nil,hua,Ls.nil,Ls.nil⟩ h2<|by decide
 have pB:Ls Zq (.slice (some ⟨bb,0,none⟩) 1 1) [(⟨nP,[],[⟨na,nb⟩],[],red,[]⟩:Pt)]:=jN (ux:=uQ rn rd) ⟨_,_,_,_,_,rfl,lI,hrn,Ls.nil,hrd,Ls.nil⟩ h3<|by decide
 have pC:Ls Zq (.slice (some ⟨bc,0,none⟩) 2 2) [(⟨nA,[],[],[],[],[]⟩:Pt),⟨nB,[],[],[],[],sel⟩]:=Fj (ux:=(lq se).take 6) (uy:=(lq se).drop 6) ⟨_,_,_,_,_,rfl,lI,Ls.nil,Ls.nil,Ls.nil,Ls.nil⟩ ⟨_,_,_,_,_,rfl,lI,Ls.nil,Ls.nil,Ls.nil,hse⟩ (bF (k:=0) h4 rfl) (by have:=bF (k:=6) (vs:=(lq se).drop 6) h4 rfl; rwa [Nat.zero_add] at this)<|by decide
 have g:=λ(k:Nat) (vs:List Value) (h:((q8 ba bb bc fp fb).drop k).take vs.length=vs)=>(by have:=bF (k:=k) h1 h; rwa [Nat.zero_add] at this:Rds Zq bl k vs)
 exact ls_four (u1:=(q8 ba bb bc fp fb).take 7) (u2:=((q8 ba bb bc fp fb).drop 7).take 7) (u3:=((q8 ba bb bc fp fb).drop 14).take 7) (u4:=(q8 ba bb bc fp fb).drop 21)
  ⟨_,_,_,_,_,rfl,Ls.nil,Ls.nil,rfl,hfp,Ls.nil⟩ ⟨_,_,_,_,_,rfl,Ls.nil,pA,rfl,Ls.nil,Ls.nil⟩ ⟨_,_,_,_,_,rfl,Ls.nil,pB,rfl,hfb,Ls.nil⟩ ⟨_,_,_,_,_,rfl,Ls.nil,pC,rfl,Ls.nil,Ls.nil⟩ (g 0 _ rfl) (g 7 _ rfl) (g 14 _ rfl) (g 21 _ rfl) (by decide)
attribute [local irreducible] Go.Ck.Sub St Cd Xt Nx DrL LsW
theorem Lh (n:Nm):Ct prog 109 #[sv n] [] λu h'=>∃ b,u = .agg (exF 2 n b 0).toArray/\h'=[pt b (cl [sv uO] 9)]:=by
 refine aJ (n:=6) func109 Z Z (len Z) λhr w0=>?_
 refine cQ (au mg λb2=>?_)
 refine sN<|nT<|cQ<|sM Z (ak (cells:=[sv uO]) Z underlying40 gp Z Z Zz (ltn Z) λb4=>?_)
 refine sV (aP (cells:=exF 2 n b4 0) Z<|λ_=>Zz) ?_
 refine ai Z Z kE Z Z ?_
 refine sK [2] Z<|cT ?_
 exact bM (.cellN Z oQ Z slq .nil) ⟨b4,Z,Z⟩ sbr
theorem MV (n:Nm):Ct prog 110 #[sv n] [] λu h'=>∃ b,u = .agg (exF 1 n b 1).toArray/\h'=[pt b (cl [sv uO] 9)]:=by
 refine aJ (n:=7) func110 Z Z (len Z) λhr w0=>?_
 refine cQ (au mg λb2=>?_)
 refine sN<|nT<|cQ<|sM Z (ak (cells:=[sv uO]) Z underlying40 gp Z Z Zz (ltn Z) λb4=>?_)
 refine sV (aP (cells:=[.int .i64 1,sv [],.slice none 0 0,.bool false,.bool false]) Z<|λ_=>Zz) ?_
 refine sV (aP (cells:=exF 1 n b4 1) Z<|λ_=>Zz) ?_
 refine ai Z Z kE Z Z ?_
 refine sK [2] Z<|cT ?_
 exact bM (.cellN Z oQ Z slq .nil) ⟨b4,Z,Z⟩ sbr
theorem MW:CtX prog 48 #[] X [] λu Y k'=>∃ bl ba bb bc fp fb rn rd,u = .slice (some ⟨bl,0,none⟩) 4 4/\k'=[pt bl (cl (q8 ba bb bc fp fb) 44),pt ba (cl (uP (.slice none 0 0)) 88),pt bb (cl (uQ rn rd) 88),pt bc (cl (lq (.slice none 0 0)) 88)]/\Ls Y fp [sj na,Iy nn]/\Ls Y fb [sj nb]/\Ls Y rn [(⟨na,nb⟩:Pn)]/\Ls Y rd [nb]:=by
 unfold CtX
 refine aJ (n:=29) func48 Z Z (len Z) λhr w0=>?_
 refine cQ<|sA Z<|sN<|nT<|cQ<|aH Z Z en109 Z (Lh na) ?_
 rintro u h' ⟨q1,rfl,rfl⟩
 simp only [lC,lN]
 refine aH Z Z en110 Z (MV nn) ?_
 rintro u h' ⟨q2,rfl,rfl⟩
 simp only [lC,lN]
 refine ak (cells:=exF 2 na q1 0++exF 1 nn q2 1) Z underlying41 NF Z Z Zz (ltn Z) λb7=>?_
 refine sV (aP (cells:=[sv nP,.bool false,.slice none 0 0,.slice none 0 0,.slice none 0 0,.slice (some ⟨b7,0,none⟩) 2 2,.slice none 0 0]) Z<|λ_=>Zz) ?_
 refine au oU λb1=>?_
 refine ai Z Z mP Z Z ?_
 refine sK [0,1] Z<|cQ<|sV (aP (cells:=uP<|.slice none 0 0) Z<|λ_=>Zz) ?_
 refine ak (cells:=uP<|.slice none 0 0) Z underlying39 Ga Z Z Zz (ltn Z) λb10=>?_
 refine sV (aP (cells:=[sv nA,.bool false,.slice none 0 0,.slice (some ⟨b10,0,none⟩) 1 1,.slice none 0 0,.slice none 0 0,.slice none 0 0]) Z<|λ_=>Zz) ?_
 refine au oU λb2=>?_
 refine ai Z Z mP Z Z ?_
 refine sK [0,1,2] Z<|cQ<|sV (aP (cells:=[sv na,sv nb]) Z<|λ_=>Zz) ?_
 refine ak (cells:=[sv na,sv nb]) Z underlying86 inf143 Z Z Zz (ltn Z) λb13=>?_
 refine ak (cells:=[sv nb]) Z underlying40 gp Z Z Zz (ltn Z) λb14=>?_
 refine sV (aP (cells:=uQ (.slice (some ⟨b13,0,none⟩) 1 1)<|.slice (some ⟨b14,0,none⟩) 1 1) Z<|λ_=>Zz) ?_
 refine ak (cells:=uQ (.slice (some ⟨b13,0,none⟩) 1 1)<|.slice (some ⟨b14,0,none⟩) 1 1) Z underlying39 Ga Z Z Zz (ltn Z) λb16=>?_
 refine aH Z Z en109 Z (Lh nb) ?_
 rintro u h' ⟨q3,rfl,rfl⟩
 simp only [lC,lN]
 refine ak (cells:=exF 2 nb q3 0) Z underlying41 NF Z Z Zz (ltn Z) λb18=>?_
 refine sV (aP (cells:=[sv nB,.bool false,.slice none 0 0,.slice (some ⟨b16,0,none⟩) 1 1,.slice none 0 0,.slice (some ⟨b18,0,none⟩) 1 1,.slice none 0 0]) Z<|λ_=>Zz) ?_
 refine au oU λb3=>?_
 refine ai Z Z mP Z Z ?_
 refine sK [0,1,2,3] Z<|cQ<|sV (aP (cells:=[sv nA,.slice none 0 0,.slice none 0 0,.slice none 0 0,.slice none 0 0,.slice none 0 0]) Z<|λ_=>Zz) ?_
 refine sV (aP (cells:=[sv nB,.slice none 0 0,.slice none 0 0,.slice none 0 0,.slice none 0 0,.slice none 0 0]) Z<|λ_=>Zz) ?_
 refine ak (cells:=lq<|.slice none 0 0) Z underlying39 Ga Z Z Zz (ltn Z) λb22=>?_
 refine sV (aP (cells:=[sv nQ,.bool false,.slice none 0 0,.slice (some ⟨b22,0,none⟩) 2 2,.slice none 0 0,.slice none 0 0,.slice none 0 0]) Z<|λ_=>Zz) ?_
 refine au oU λb4=>?_
 refine ai Z Z mP Z Z ?_
 refine sK [0,1,2,3,4] Z<|cQ<|sV (af Z gU Z ag) ?_
 refine sV (af Z gU Z ag) ?_
 refine sV (af Z gU Z ag) ?_
 refine sV (af Z gU Z ag) ?_
 refine ak (cells:=q8 b10 b16 b22 (.slice (some ⟨b7,0,none⟩) 2 2)<|.slice (some ⟨b18,0,none⟩) 1 1) Z underlying22 inf44 Z Z Zz (ltn Z) λb28=>?_
 refine sA Z<|sK [0] Z<|cT (iP [pt q1 (cl [sv uO] 9),pt q2 (cl [sv uO] 9),pt q3 (cl [sv uO] 9),pt b7 (cl (exF 2 na q1 0++exF 1 nn q2 1) 130),pt b13 (cl [sv na,sv nb] 143),pt b14 (cl [sv nb] 9),pt b18 (cl (exF 2 nb q3 0) 130)] X λY hE hsel=>?_)
 have r1:Rds Y q1 0 [sv uO]:=λi hi=>hsel _ _ .here _ _<|ag i hi
 have r2:Rds Y q2 0 [sv uO]:=λi hi=>hsel _ _ (.there .here) _ _<|ag i hi
 have r3:Rds Y q3 0 [sv uO]:=λi hi=>hsel _ _ (.there<|.there .here) _ _<|ag i hi
 have r4:Rds Y b7 0 (exF 2 na q1 0++exF 1 nn q2 1):=λi hi=>hsel _ _ (.there<|.there<|.there .here) _ _<|ag i hi
 have r5:Rds Y b13 0 [sv na,sv nb]:=λi hi=>hsel _ _ (.there<|.there<|.there<|.there .here) _ _<|ag i hi
 have r6:Rds Y b14 0 [sv nb]:=λi hi=>hsel _ _ (.there<|.there<|.there<|.there<|.there .here) _ _<|ag i hi
 have r7:Rds Y b18 0 (exF 2 nb q3 0):=λi hi=>hsel _ _ (.there<|.there<|.there<|.there<|.there<|.there .here) _ _<|ag i hi
 have hfp:Ls Y (.slice (some ⟨b7,0,none⟩) 2 2) [sj na,Iy nn]:=Fj (ux:=exF 2 na q1 0) (uy:=exF 1 nn q2 1) (FE r1).1 (FE r2).2 (bF (k:=0) r4 rfl) (by have:=bF (k:=15) (vs:=exF 1 nn q2 1) r4 rfl; rwa [Nat.zero_add] at this) (by decide)
 exact aj Z ⟨Y,_,Z,hE,b28,b10,b16,b22,_,_,_,_,Z,Z,hfp,jN (ux:=exF 2 nb q3 0) (FE r3).1 r7 (by decide),jN (p:=(⟨na,nb⟩:Pn)) (ux:=[sv na,sv nb]) Z r5 (by decide),jN (p:=nb) (ux:=[sv nb]) Z r6<|by decide⟩ sbq
theorem is_ct (hX:Spc X) (hl:Ls X v l) (hS:jQ l) {x:Cf} (h1:kY l=(x,true,0)) (h2:mr l x=0):eZ prog 49 #[v,cfV x] X [] λu Y k'=>k'=[]/\u = .bool true:=by
 obtain ⟨vAq,vK,rfl,_⟩:=id hl.form
 have hc:=Pe hX hl hS
 have hk:=λ(Y:Res) (hE:Ext X Y)=>Co (hX.up hE) (hl.up hE) hS x
 rw [h1] at hc
 rw [h2] at hk
 unfold eZ cfV cfC at *
 refine gF (n:=30) func49 Z Z (len Z) λhr w0 hw0=>?_
 refine cQ (aV Z Z λb3=>?_)
 refine sA Z<|sK [0,3,4] Z<|cQ<|sM Z<|bW hw0 Z Z en12 Z (hc) ?_
 rintro u h' ⟨Y,k',rfl,hE,rfl,rfl⟩
 simp only [lC,lN]
 refine sM Z<|sV (ah Z Z)<|sV (ah Z Z)<|sV (ah Z Z) (au EH λb5=>?_)
 refine ai Z Z wP Z Z ?_
 refine sA Z<|sA Z<|sK [0,3,4,5,6,7] Z<|cQ<|sM Z<|sV (dX Z Z)<|sM Z<|sG Z Z (vM Z)<|sV (vQ Z Z)<|sM Z<|sG Z Z (af Z uh Z ag) ?_
 refine sG Z Z (af Z uh Z ag) ?_
 refine sG Z Z (v_eqC (a:=x) (b:=x) Z Z) ?_
 rw [decide_eq_true (rfl:x=x)]
 refine sV (vQ Z Z)<|sM Z<|sG Z Z (vM Z)<|sG Z Z (af Z uh Z ag) ?_
 refine lX Z Z<|bW hw0 Z Z en14 Z (hk Y hE) ?_
 rintro u h' ⟨Zq,k',rfl,hE2,rfl,rfl⟩
 simp only [lC,lN]
 refine sG Z Z (dX Z Z)<|sV (vQ Z Z)<|sA Z<|sK [4] Z<|cT ?_
 exact aj Z ⟨Zq,[],Z,hE.trans hE2,Z,Z⟩ sbq
end
end Go.Fl
namespace Go.Ck
open Go Go.RowKit
theorem vw_un {T:Res} {K t:SH}:Vw (T::Res.star K::t) (K++(T::t)):=λ_ hh=>dG.1<|hh.perm<|.swap _ _ _
end Go.Ck
namespace Go.Fl
open Go Go.RowKit Go.Ck Go.Proofs Go.Proofs.Tryz Go.Proofs.YtknmacdbffgjgaaGreatDoor Fx Go.Hr
theorem eqs24:EqS prog 24 2:=EqS.of underlying24 Zz Zz Zz rfl
theorem wD (und red sel:List Nm) (h1:und.length<=12) (h2:red.length<=12) (h3:sel.length<=12):jQ (Br und red sel):=λc hc p hp=>by
 simp only [Br,List.mem_cons,List.mem_nil_iff,or_false] at hc
 rcases hc with rfl | rfl | rfl | rfl <;> simp only [exPc,exAc,exBc,exQc,List.mem_cons,List.mem_nil_iff,or_false] at hp
 .subst hp; exact ⟨by simp,h1,by simp,by simp⟩
 .subst hp; exact ⟨by simp,by simp,h2,by simp⟩
 .rcases hp with rfl | rfl
  .exact ⟨by simp,by simp,by simp,by simp⟩
  .exact ⟨by simp,by simp,by simp,h3⟩
theorem lenC3 {ms:List Mb} {a b c:Nm} (h:(ms.map λm=>m.name)=[a,b,c]):ms.length=3/\∃ m,ms[2]? = some m/\m.name=c:=by
 match ms,h with
 | [x,y,z],h=>simp at h; exact ⟨rfl,z,rfl,h.2.2⟩
theorem lenB2 {ms:List Mb} {a b:Sd×List Sd} (h:(ms.map λm=>(m.impl,m.seeds))=[a,b]):ms.length=2/\∃ m,ms[0]? = some m/\m.impl=a.1/\m.seeds=a.2:=by
 match ms,h with
 | [x,y],h=>simp at h; exact ⟨rfl,x,rfl,by rw [<- h.1],by rw [<- h.1]⟩
attribute [local irreducible] Go.Ck.Sub St Cd Xt Nx DrL LsW
section
variable {X:Res}
theorem MX (hX:Spc X):eZ prog 11 #[] X [] λu Y k'=>k'=[]/\u = .bool true:=by
 have hml:maxLen=9223372036854775807:=rfl
 have hs0:=λ(Y:Res)=>MW (X:=Y)
 unfold eZ
 unfold CtX at hs0
 refine gF (n:=193) func11 Z Z (len Z) λhr w0 hw0=>?_
 refine cQ<|sA Z<|sN<|nT<|cQ<|aH Z Z en48 Z ((hs0 X)) ?_
 rintro u h' ⟨Y,k',rfl,hE,bl,ba,bb,bc,fp,fb,rn,rd,rfl,rfl,hfp,hfb,hrn,hrd⟩
 simp only [lC,lN]
 refine sA Z<|sK [0,1] Z<|cQ<|sM Z<|sV (aP (cells:=[sv nP,sv na]) Z<|λ_=>Zz) ?_
 refine sV (aP (cells:=[.int .i64 11,sv nQ,sv na,sv nb,sv nP,sv na,sv [],sv []]) Z<|λ_=>Zz) ?_
 refine rQ (uC (L:=[pt bl (cl (q8 ba bb bc fp fb) 44),pt ba (cl (uP<|.slice none 0 0) 88),pt bb (cl (uQ rn rd) 88),pt bc (cl (lq<|.slice none 0 0) 88)]) (X:=Y) (by repeat (first | exact Pk.nil | (apply Pk.cons; (repeat (first | exact Sel.here | apply Sel.there)))))) ?_
 have hZ:Ext X (Res.star ([pt bl (cl (q8 ba bb bc fp fb) 44),pt ba (cl (uP<|.slice none 0 0) 88),pt bb (cl (uQ rn rd) 88),pt bc (cl (lq<|.slice none 0 0) 88)]++[Y])):=hE.trans<|Ext.packs Y _
 have hY:∀ p u,Rd Y p u->Rd (Res.star ([pt bl (cl (q8 ba bb bc fp fb) 44),pt ba (cl (uP<|.slice none 0 0) 88),pt bb (cl (uQ rn rd) 88),pt bc (cl (lq<|.slice none 0 0) 88)]++[Y])) p u:=(Ext.packs Y _).rd
 have hl1:Ls (Res.star ([pt bl (cl (q8 ba bb bc fp fb) 44),pt ba (cl (uP<|.slice none 0 0) 88),pt bb (cl (uQ rn rd) 88),pt bc (cl (lq<|.slice none 0 0) 88)]++[Y])) (.slice (some ⟨bl,0,none⟩) 4 4) ex1:=Lg (λi hi=>iT .here _ _<|ag i hi) (λi hi=>iT (.there .here) _ _<|ag i hi) (λi hi=>iT (.there<|.there .here) _ _<|ag i hi) (λi hi=>iT (.there<|.there<|.there .here) _ _<|ag i hi) (hfp.up' hY) (hfb.up' hY) (hrn.up' hY) Ls.nil (hrd.up' hY) Ls.nil
 have his:=is_ct (hX.up hZ) hl1 (wD _ _ _ (by decide) (by decide)<|by decide) MM MN
 unfold eZ cfV cfC at his
 refine bW hw0 Z Z en49 Z (his) ?_
 rintro u h' ⟨W,k',rfl,hW,rfl,rfl⟩
 obtain ⟨T,hT⟩:=hW.vw
 refine rQ (hT _)<|rQ vw_un ?_
 clear hZ hY hl1 his hW hT
 simp only [lC,lN]
 unfold q8 uP uQ lq
 simp only [lC,lN]
 refine sA Z<|sK [0,1,2] Z<|cQ<|sM Z<|sV (vI (k:=3) Z Z rE Z (by decide) Z) ?_
 refine sV (vF Z eP Z)<|sV (vY Z lD) ?_
 refine ak (cells:=[sv nb]) Z underlying40 gp Z Z Zz (ltn Z) λb28=>?_
 refine sV (vI (k:=1) Z Z lY Z (by decide) Z) ?_
 refine sV (vF Z Ae Z)<|bi Z Z yI ?_
 refine oh [pt bl (cl (q8 ba bb bc fp fb) 44),pt ba (cl (uP<|.slice none 0 0) 88),pt bb (cl (uQ rn rd) 88),pt bc (cl (lq<|.slice (some ⟨b28,0,none⟩) 1 1) 88),pt b28 (cl [sv nb] 9)] Y λZq hZ hsel=>?_
 have hXZ:=hE.trans hZ
 have hS2:=wD [] [nb] [nb] (by decide) (by decide)<|by decide
 have hl2:Ls Zq (.slice (some ⟨bl,0,none⟩) 4 4) ex2:=Lg (λi hi=>hsel _ _ .here _ _<|ag i hi) (λi hi=>hsel _ _ (.there .here) _ _<|ag i hi) (λi hi=>hsel _ _ (.there<|.there .here) _ _<|ag i hi) (λi hi=>hsel _ _ (.there<|.there<|.there .here) _ _<|ag i hi) (hfp.up hZ) (hfb.up hZ) (hrn.up hZ) Ls.nil (hrd.up hZ)<|jN (p:=nb) (ux:=[sv nb]) rfl (λi hi=>hsel _ _ (.there<|.there<|.there<|.there .here) _ _<|ag i hi)<|by decide
 clear hsel hfp hfb hrn hrd hZ hE
 have hq1:=Ea (hX.up hXZ) hl2 hS2 nQ
 unfold eZ at hq1
 rw [Iz.1] at hq1
 refine sK [0,1,2] Z<|cQ<|sM Z<|bW hw0 Z Z en45 Z (hq1) ?_
 rintro u h' ⟨Z1,k',rfl,hZ1,rfl,us,rfl,hr1⟩
 simp only [lC,lN]
 clear hq1
 have hr1:Enc.rep Z1 us (eY ex2 nQ).1:=hr1
 obtain ⟨c3,cm,cm2,cmn⟩:=lenC3 Iz.2.2
 generalize (eY ex2 nQ).1=G1 at hr1 c3 cm2
 have ho1:=Enc.ones hr1
 obtain ⟨x1,x2,rfl,hx1,hx2⟩:=hr1
 refine sM Z<|sV (ah Z Z)<|sV (ah Z Z) (au al55 λb3=>?_)
 refine ai Z Z Ey Z ho1 ?_
 refine sA Z<|sK [0,1,2,3,4] Z<|cQ<|sM Z ?_
 have hq2:=Ea (hX.up<|hXZ.trans hZ1) (hl2.up hZ1) hS2 nB
 unfold eZ at hq2
 rw [Ec.1] at hq2
 refine bW hw0 Z Z en45 Z (hq2) ?_
 rintro u h' ⟨Z2,k',rfl,hZ2,rfl,us,rfl,hr2⟩
 simp only [lC,lN]
 clear hq2
 have hr2:Enc.rep Z2 us (eY ex2 nB).1:=hr2
 obtain ⟨d3,dm,dm2,dmi,dms⟩:=lenB2 Ec.2
 generalize (eY ex2 nB).1=G2 at hr2 d3 dm2
 have ho2:=Enc.ones hr2
 obtain ⟨y1,y2,rfl,hy1,hy2⟩:=hr2
 refine sM Z<|sV (ah Z Z)<|sV (ah Z Z) (au al55 λb5=>?_)
 refine ai Z Z Ey Z ho2 ?_
 refine sA Z<|sK [0,1,2,3,4,5,6] Z<|cQ<|sM Z<|sV (aP (cells:=[sv nP,sv na]) Z<|λ_=>Zz) ?_
 have hZ12:=hZ1.trans hZ2
 have hq3:=Pf (hX.up<|hXZ.trans hZ12) (hl2.up hZ12) hS2 nQ ⟨nP,na⟩
 unfold eZ at hq3
 rw [MU] at hq3
 refine bW hw0 Z Z en35 Z (hq3) ?_
 rintro u h' ⟨Z3,k',rfl,hZ3,rfl,w,rfl,hw⟩
 simp only [lC,lN]
 clear hq3
 have hZ13:=hZ12.trans hZ3
 have hw:Ls Z3 w [na,nb]:=hw
 have hwo:=hw.one
 refine sM Z<|sV (ah Z Z)<|sV (ah Z Z)<|sA Z<|sA Z<|sK [0,1,2,3,4,5,6,7,8] Z<|cQ<|sM Z ?_
 have hq4:=JW (hX.up<|hXZ.trans hZ13) (hl2.up hZ13) hS2 nQ nP na
 unfold eZ at hq4
 rw [IB] at hq4
 refine bW hw0 Z Z en29 Z (hq4) ?_
 rintro u h' ⟨Z4,k',rfl,hZ4,rfl,rfl⟩
 simp only [lC,lN]
 clear hq4
 have hZ14:=hZ13.trans hZ4
 refine sM Z<|sV (ah Z Z)<|sV (ah Z Z)<|sA Z<|sA Z<|sK [0,1,2,3,4,5,6,7,8,9,10] Z<|cQ<|sM Z ?_
 have hq5:=JV (hX.up<|hXZ.trans hZ14) (hl2.up hZ14) hS2 nQ nn
 unfold eZ at hq5
 rw [IA] at hq5
 refine bW hw0 Z Z en50 Z (hq5) ?_
 rintro u h' ⟨Z5,k',rfl,hZ5,rfl,ow,rfl,how⟩
 simp only [lC,lN]
 clear hq5
 have how:Ls Z5 ow [(⟨nA,nn⟩:Og),⟨nB,nn⟩]:=how
 have hXZ5:=hXZ.trans<|hZ14.trans hZ5
 have hx1:=hx1.up<|hZ2.trans<|hZ3.trans<|hZ4.trans hZ5
 have hy1:=hy1.up<|hZ3.trans<|hZ4.trans hZ5
 have hw:=hw.up<|hZ4.trans hZ5
 clear hx2 hy2 hl2 hZ1 hZ2 hZ12 hZ3 hZ13 hZ4 hZ14 hZ5
 obtain ⟨xb,xo,xcap,mus,e1,_,hmrd,hmr⟩:=hx1.at cm2
 obtain ⟨yb,yo,ycap,nus,e2,_,hnrd,hnr⟩:=hy1.at dm2
 obtain ⟨ob,oo,ocap,o0,e3,_,hord0,ho0⟩:=how.at (i:=0) rfl
 obtain ⟨ob',oo',ocap',o1,e3',_,hord1,ho1'⟩:=how.at (i:=1) rfl
 subst e1 e2 e3
 cases e3'
 obtain rfl:o0=[sv nA,sv nn]:=ho0
 obtain rfl:o1=[sv nB,sv nn]:=ho1'
 rw [c3] at *
 rw [d3] at *
 obtain ⟨m2,m5,my,m11,m12,m13,rfl,-⟩:=dN hmr
 obtain ⟨n2,n5,ny,n11,n12,n13,rfl,hn2,-⟩:=dN hnr
 rw [dms] at hn2
 obtain ⟨sb,so,scap,sus,e4,_,hsrd,hsr⟩:=hn2.at (i:=0) rfl
 obtain rfl:sus=[sv nP,sv na]:=hsr
 subst e4
 obtain ⟨wA,wK,rfl,_⟩:=id hw.form
 have hone3:∀ b96:Nat,Reads prog 51 #[.slice wA [na,nb].length wK,.slice (some ⟨b96,0,none⟩) 2 2] [pt b96 (cl [sv na,sv nb] 9),Z5] (.bool true):=λb96=>by
  have h:=eq51_ct (X:=Res.star [pt b96 (cl [sv na,sv nb] 9),Z5]) (hw.up'<|bL<|.there .here) (Fj (p:=na) (q:=nb) (ux:=[sv na]) (uy:=[sv nb]) rfl rfl (λi hi=>by match i,hi with | 0,_=>exact bL .here _ _ (bZ rfl)) (λi hi=>by match i,hi with | 0,_=>exact bL .here _ _ (bZ rfl)) (by decide):Ls (Res.star [pt b96 (cl [sv na,sv nb] 9),Z5]) (.slice (some ⟨b96,0,none⟩) 2 2) [na,nb])
  rw [decide_eq_true (rfl:[na,nb]=[na,nb])] at h
  exact dS h
 refine sM Z<|sV (ah Z Z)<|sV (ah Z Z)<|sA Z<|sA Z<|sK [0,1,2,3,4,5,6,7,8,9,10,11,12] Z<|cS<|cQ<|sM Z<|sV (bT Z Z)<|sM Z<|sG Z Z (vM Z)<|sG Z Z (bT Z Z) ?_
 refine sV (vP Z Z)<|sM Z<|sG Z Z (vM Z)<|sG Z Z (bT Z Z)<|sV (vP Z Z)<|sM Z<|sG Z Z (vM Z)<|sG Z Z (bT Z Z)<|sV (vP Z Z)<|sM Z<|sG Z Z (vM Z)<|sG Z Z (bT Z Z)<|sV (vP Z Z)<|sM Z ?_
 refine sG Z Z (vF Z l9 Z)<|sG Z Z (vY Z qX) ?_
 refine sG Z Z (aC Z underlying52)<|sG Z Z (bT Z Z)<|sV (vP Z Z)<|sM Z<|sG Z Z (vF Z l9 Z)<|sG Z Z (vY Z qX) ?_
 refine sG Z Z (aC Z underlying52)<|sG Z Z (bT Z Z)<|sV (vP Z Z)<|sM Z<|sG Z Z (vM Z)<|sG Z Z (aC Z underlying104)<|sG Z Z (bT Z Z)<|sV (vP Z Z)<|sK [0,1,2,3,5,7,9,11,91] Z<|aG Z ?_
 refine cK<|xT<|cQ<|sM Z<|sV (iM Z Z)<|sM Z<|sG Z Z (vM Z)<|lX Z Z (ak (cells:=[sv na,sv nb]) Z underlying40 gp Z Z Zz (ltn Z) λb96=>?_)
 refine bS Z Z Z Z en51 Z (hone3 b96) ?_
 refine sV (vQ Z Z)<|sM Z<|sG Z Z (vF Z l9 Z)<|sG Z Z (vY Z qX) ?_
 have hc0:Rd Z5 ⟨xb,xo+2 * 14+0,none⟩ (sv nn):=by rw [<- cmn]; exact nS (k:=0) hmrd rfl
 have hc1:Rds Z5 yb (yo+0 * 14+3) [sv nB,sv nb]:=by
  have h:=bF (k:=3) (vs:=[sv dm.impl.cls,sv dm.impl.name]) hnrd rfl
  rw [dmi] at h; exact h
 have hc2:=nS (k:=2) hnrd rfl
 refine sG Z Z (vI (k:=2) Z Z oM Z (by decide) Z) ?_
 refine sG Z Z (vF Z eQ Z)<|sG Z Z (vY Z ld9 (ha:=⟨Z5,_,slq,hc0⟩)) ?_
 refine sG Z Z (iM Z Z)<|sV (vQ Z Z)<|sM Z<|sG Z Z (vF Z l9 Z)<|sG Z Z (vY Z qX) ?_
 refine sG Z Z (vI (k:=0) Z Z oM Z (by decide) Z) ?_
 refine sG Z Z (vF Z wS Z)<|sG Z Z (af Z iN Z hc1) ?_
 refine sG Z Z (aP (cells:=[sv nB,sv nb]) Z<|λ_=>Zz) ?_
 refine sG Z Z (jY yw Z Z)<|sV (vQ Z Z)<|sM Z<|sG Z Z (vF Z l9 Z)<|sG Z Z (vY Z qX) ?_
 refine sG Z Z (vI (k:=0) Z Z oM Z (by decide) Z) ?_
 refine sG Z Z (vF Z eT Z)<|sG Z Z (vY Z pW (ha:=⟨Z5,_,slq,hc2⟩)) ?_
 refine sG Z Z (vI (k:=0) Z Z qV Z (by decide) Z) ?_
 refine sG Z Z (af Z iN Z hsrd) ?_
 refine sG Z Z (aP (cells:=[sv nP,sv na]) Z<|λ_=>Zz) ?_
 refine sG Z Z (jY yw Z Z)<|sV (vQ Z Z)<|sM Z<|sG Z Z (vM Z)<|sG Z Z (vI (k:=0) Z Z sl104 Z (by decide) Z) ?_
 refine sG Z Z (af Z qW Z hord0) ?_
 refine sG Z Z (aP (cells:=[sv nA,sv nn]) Z<|λ_=>Zz) ?_
 refine sG Z Z (jY eqs24 Z Z)<|sV (vQ Z Z)<|sM Z<|sG Z Z (vM Z)<|sG Z Z (vI (k:=1) Z Z sl104 Z (by decide) Z) ?_
 refine sG Z Z (af Z qW Z hord1) ?_
 refine sG Z Z (aP (cells:=[sv nB,sv nn]) Z<|λ_=>Zz) ?_
 refine sG Z Z (jY eqs24 Z Z)<|sV (vQ Z Z)<|sA Z<|sK [0,1,2,13] Z<|cQ ?_
 clear hone3 hc0 hc1 hc2 hmr hnr hmrd hnrd hord0 hord1 hsrd hx1 hy1 hw how hn2 hXZ
 refine aH Z Z en48 Z ((hs0 Z5)) ?_
 rintro u h' ⟨Y,k',rfl,hE,bl2,ba2,bb2,bc2,fp,fb,rn,rd,rfl,rfl,hfp,hfb,hrn,hrd⟩
 simp only [lC,lN]
 unfold q8 uP uQ lq
 simp only [lC,lN]
 refine sA Z<|sK [0,1,2,13] Z<|cQ<|sM Z<|sV (vI (k:=2) Z Z rE Z (by decide) Z) ?_
 refine sV (vF Z eP Z)<|sV (vY Z lD) ?_
 refine sV (vI (k:=0) Z Z lY Z (by decide) Z) ?_
 refine sV (vF Z wV Z)<|bi Z Z yI ?_
 refine oh [pt bl2 (cl (q8 ba2 bb2 bc2 fp fb) 44),pt ba2 (cl (uP<|.slice none 0 0) 88),pt bb2 (cl (uQ rn<|.slice none 0 0) 88),pt bc2 (cl (lq<|.slice none 0 0) 88)] Y λZq hZ hsel=>?_
 have hXZ:=hXZ5.trans<|hE.trans hZ
 have hl3:Ls Zq (.slice (some ⟨bl2,0,none⟩) 4 4) ex3:=Lg (λi hi=>hsel _ _ .here _ _<|ag i hi) (λi hi=>hsel _ _ (.there .here) _ _<|ag i hi) (λi hi=>hsel _ _ (.there<|.there .here) _ _<|ag i hi) (λi hi=>hsel _ _ (.there<|.there<|.there .here) _ _<|ag i hi) (hfp.up hZ) (hfb.up hZ) (hrn.up hZ) Ls.nil Ls.nil Ls.nil
 clear hsel hfp hfb hrn hrd hZ hE
 have his:=is_ct (hX.up hXZ) hl3 (wD _ _ _ (by decide) (by decide)<|by decide) MO MP
 unfold eZ cfV cfC at his
 refine sK [0,1,2,13] Z<|cQ<|sM Z<|sV (aP (cells:=[sv nP,sv na]) Z<|λ_=>Zz) ?_
 refine sV (aP (cells:=[.int .i64 7,sv nB,sv nb,sv [],sv nP,sv na,sv [],sv []]) Z<|λ_=>Zz) ?_
 refine bW hw0 Z Z en49 Z (his) ?_
 rintro u h' ⟨Y3,k',rfl,hW,rfl,rfl⟩
 simp only [lC,lN]
 clear his hl3
 have hX3:=hXZ.trans hW
 clear hXZ hW hXZ5
 refine sA Z<|sK [0,1,2,13,14] Z<|cQ<|aH Z Z en48 Z ((hs0 Y3)) ?_
 rintro u h' ⟨Y,k',rfl,hE,bl3,ba3,bb3,bc3,fp,fb,rn,rd,rfl,rfl,hfp,hfb,hrn,hrd⟩
 simp only [lC,lN]
 unfold q8 uP uQ lq
 simp only [lC,lN]
 refine sA Z<|sK [0,1,2,13,14] Z<|cQ<|sM Z<|sV (vI (k:=1) Z Z rE Z (by decide) Z) ?_
 refine sV (vF Z eP Z)<|sV (vY Z lD) ?_
 refine ak (cells:=[sv nn]) Z underlying40 gp Z Z Zz (ltn Z) λb157=>?_
 refine sV (vI (k:=0) Z Z lY Z (by decide) Z) ?_
 refine sV (vF Z wU Z)<|bi Z Z yI ?_
 refine oh [pt bl3 (cl (q8 ba3 bb3 bc3 fp fb) 44),pt ba3 (cl (uP<|.slice (some ⟨b157,0,none⟩) 1 1) 88),pt bb3 (cl (uQ rn rd) 88),pt bc3 (cl (lq<|.slice none 0 0) 88),pt b157 (cl [sv nn] 9)] Y λZq hZ hsel=>?_
 have hXZ:=hX3.trans<|hE.trans hZ
 have hl4:Ls Zq (.slice (some ⟨bl3,0,none⟩) 4 4) ex4:=Lg (λi hi=>hsel _ _ .here _ _<|ag i hi) (λi hi=>hsel _ _ (.there .here) _ _<|ag i hi) (λi hi=>hsel _ _ (.there<|.there .here) _ _<|ag i hi) (λi hi=>hsel _ _ (.there<|.there<|.there .here) _ _<|ag i hi) (hfp.up hZ) (hfb.up hZ) (hrn.up hZ) (jN (p:=nn) (ux:=[sv nn]) rfl (λi hi=>hsel _ _ (.there<|.there<|.there<|.there .here) _ _<|ag i hi)<|by decide) (hrd.up hZ) Ls.nil
 clear hsel hfp hfb hrn hrd hZ hE
 have his:=is_ct (hX.up hXZ) hl4 (wD _ _ _ (by decide) (by decide)<|by decide) MQ MS
 unfold eZ cfV cfC at his
 refine sK [0,1,2,13,14] Z<|cQ<|sM Z<|sV (aP (cells:=[sv nP,sv nn]) Z<|λ_=>Zz) ?_
 refine sV (aP (cells:=[.int .i64 4,sv nA,sv nn,sv [],sv nP,sv nn,sv [],sv []]) Z<|λ_=>Zz) ?_
 refine bW hw0 Z Z en49 Z (his) ?_
 rintro u h' ⟨Y4,k',rfl,hW,rfl,rfl⟩
 simp only [lC,lN]
 clear his hl4
 have hX4:=hXZ.trans hW
 clear hXZ hW hX3
 have hsub:∀ b167 b169:Nat,CtN prog 52 #[.agg #[.int .i64 4,sv [71],.slice none 0 0,.bool true,.bool false],.slice (some ⟨b167,0,none⟩) 1 1,.slice (some ⟨b169,0,none⟩) 1 1] [pt b167 (cl [sv [71],sv []] 111),pt b169 (cl [.int .i64 3,sv [88],.slice none 0 0,.bool false,.bool false] 73),Y4] λu T=>∃ us':List Value,u = .tuple #[.agg us'.toArray,.int .i64 0]/\Ty T us' (.mk 3 [88] [] true false):=λb167 b169=>by
  have hF:Ls (Res.star [pt b167 (cl [sv [71],sv []] 111),pt b169 (cl [.int .i64 3,sv [88],.slice none 0 0,.bool false,.bool false] 73),Y4]) (.slice (some ⟨b167,0,none⟩) 1 1) [(⟨[71],[]⟩:Fm)]:=jN (ux:=[sv [71],sv []]) rfl (λi hi=>pM .here<|ag i hi)<|by decide
  have hA:Ls (Res.star [pt b167 (cl [sv [71],sv []] 111),pt b169 (cl [.int .i64 3,sv [88],.slice none 0 0,.bool false,.bool false] 73),Y4]) (.slice (some ⟨b169,0,none⟩) 1 1) [(.mk 3 [88] [] false false:Kt)]:=jN (ux:=[.int .i64 3,sv [88],.slice none 0 0,.bool false,.bool false]) (gI (t:=.mk 3 [88] [] false false) rfl lI) (λi hi=>pM (.there .here)<|ag i hi)<|by decide
  exact kH<|Ml (us:=[.int .i64 4,sv [71],.slice none 0 0,.bool true,.bool false]) (t:=.mk 4 [71] [] true false) hF hA<|gI rfl lI
 refine sA Z<|sK [0,2,13,14,15] Z<|cQ<|sV (aP (cells:=[.int .i64 4,sv [71],.slice none 0 0,.bool true,.bool false]) Z<|λ_=>Zz) ?_
 refine sV (aP (cells:=[sv [71],sv []]) Z<|λ_=>Zz) ?_
 refine ak (cells:=[sv [71],sv []]) Z underlying38 inf111 Z Z Zz (ltn Z) λb167=>?_
 refine sV (aP (cells:=[.int .i64 3,sv [88],.slice none 0 0,.bool false,.bool false]) Z<|λ_=>Zz) ?_
 refine ak (cells:=[.int .i64 3,sv [88],.slice none 0 0,.bool false,.bool false]) Z underlying71 Kv Z Z Zz (ltn Z) λb169=>?_
 refine aH Z Z en52 Z (hsub b167 b169) ?_
 rintro u h' ⟨T5,rfl,us,rfl,hty⟩
 simp only [lC,lN]
 clear hsub
 have hty0:=hty
 obtain ⟨tx,rfl,htx⟩:=eH hty
 unfold tyC at *
 have hto:([.int .i64 (Kt.kind<|.mk 3 [88] [] true false),sv (Kt.name<|.mk 3 [88] [] true false),tx,.bool (Kt.void<|.mk 3 [88] [] true false),.bool (Kt.sep<|.mk 3 [88] [] true false)]:List Value).all Value.oneCell'=true:=Enc.ones (α := Kt) hty0
 refine sM Z<|sV (ah Z Z)<|sV (ah Z Z) (au Af λb16=>?_)
 refine ai Z Z oK Z hto ?_
 have heq:=Jw (X:=T5) hty0<|gI (us:=[.int .i64 3,sv [88],.slice none 0 0,.bool true,.bool false]) (t:=.mk 3 [88] [] true false) rfl lI
 rw [decide_eq_true (rfl:(Kt.mk 3 [88] [] true false) = .mk 3 [88] [] true false)] at heq
 refine sA Z<|sK [0,2,13,14,15,16,17] Z<|cQ<|sV (af Z fM Z ag) ?_
 refine sV (aP (cells:=[.int .i64 3,sv [88],.slice none 0 0,.bool true,.bool false]) Z<|λ_=>Zz) ?_
 refine bf Z Z en40 Z (heq) ?_
 refine sA Z<|sK [0,2,13,14,15,17,18] Z<|cQ<|sM Z<|sM Z<|sG Z Z (vM Z)<|sV (vQ Z Z)<|sM Z<|sG Z Z (vM Z)<|sV (vQ Z Z)<|sM Z<|sG Z Z (vM Z)<|sV (vQ Z Z) ?_
 refine sM Z<|sG Z Z (vM Z)<|sG Z Z (dX Z Z)<|sV (vQ Z Z)<|sM Z<|sG Z Z (vM Z)<|sV (vQ Z Z)<|sA Z<|sK [0] Z<|cT ?_
 exact aj Z ⟨Y4,[],Z,hX4,Z,Z⟩ sbq
end
end Go.Fl
namespace Go.Fl
open Go Go.RowKit Go.Ck Go.Proofs Go.Proofs.YtknmacdbffgjgaaGreatDoor Fx Go.Hr
theorem SmL.short {l:FS} (h:SmL l):jQ l:=λc hc p hp=>by
 have:=(h.cls c hc).par p hp
 exact ⟨this.ren,this.und,this.red,this.sel⟩
attribute [local irreducible] Go.Ck.Sub St Cd Xt Nx DrL LsW
section
variable {X:Res} {v:Value} {l:FS}
end
end Go.Fl
