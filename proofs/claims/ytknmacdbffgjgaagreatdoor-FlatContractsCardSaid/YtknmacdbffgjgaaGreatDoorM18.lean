/-
  Package flat: CheckClash. Conditions: what is read; the library's table of blanks; sizes.
-/
import Derived.Test.YtknmacdbffgjgaaGreatDoorM17
import Derived.Test.YtknmacdbffgjgaaGreatDoorM8
import Derived.Test.YtknmacdbffgjgaaGreatDoorM6
set_option linter.unusedVariables false
set_option linter.unusedSimpArgs false
set_option maxRecDepth 100000
set_option maxHeartbeats 16000000
namespace Go.Fl
open Go Go.RowKit Go.Ck Go.Proofs Go.Proofs.Tryz Go.Proofs.YtknmacdbffgjgaaGreatDoor Fx Go.Hr
theorem KC {X:Res}:Enc.rep X [sv [],.int .i64 0,.slice none 0 0,sv [],sv [],.slice none 0 0,.int .i64 0,sv [],.slice none 0 0,.bool false,.bool false,.slice none 0 0,.slice none 0 0,.slice none 0 0] mb0 :=
 qj (m:=mb0) ⟨Ls.nil,Ls.nil,⟨Row.nil,by simp [mb0,Kt.args]⟩,Ls.nil,Ls.nil,Ls.nil⟩
theorem Ox {Y:Res} {k t:SH}:Vw ((Y::k)++t) (Y::t):=λw hh =>
 Holds.sub ⟨k,show ((Y::k)++t).Perm ((Y::t)++k) from List.Perm.cons _ List.perm_append_comm⟩ hh
attribute [local irreducible] Go.Ck.Sub St Cd Xt Nx DrL LsW
section
variable {X:Res} {v:Value} {l:FS}
theorem Oy (hX:Spc X) (hl:Ls X v l) (hS:jg l):dE prog 13 #[v] X [] λu Y k'=>k'=[]/\∃ w:Value,u = .tuple #[w,.int .i64 (gI l).2]/\Ls Y w (gI l).1:=by
 have hml:maxLen=9223372036854775807:=rfl
 have hrb:reachBytes=140737488351232:=rfl
 obtain ⟨vAq,vK,rfl,_⟩:=id hl.form
 have hwh:=vZ hX hl hS (nv:=.slice none 0 0) (ns:=[]) Ls.nil
 unfold dE at hwh ⊢
 refine eG (n:=35) func13 Z Z (len Z) λhr w0 hw0=>?_
 refine cQ<|sA Z<|sA Z<|sN<|nT<|cQ<|sM Z<|bM hw0 Z Z en54 Z (hwh) ?_
 rintro u h' ⟨Y,k',rfl,hE,v2,fv,ow,x,e,rfl,hv2,hfv,how,hor⟩
 simp only [lC,lN]
 unfold sj
 have h12:=iB (x:=x) (e:=e) hv2 hfv how
 refine sM Z<|sV (ag Z Z)<|sV (ag Z Z) (au nU λb4=>?_)
 refine ai Z Z ja Z h12 ?_
 refine sA Z<|sK [2,3,4,5] Z<|cS<|cQ<|sM Z<|sV (bP Z Z)<|sK [2,3,4,5,15] Z<|cC Z (λhq=>?_)<|λhq=>?_
 ·have hq:wholeE l []≠0:=Zu
  obtain ⟨-,rfl⟩:=hor.resolve_right λh=>hq h.1
  have hp:gI l=([],wholeE l []):=by unfold gI; rw [if_pos hq]
  rw [hp]
  refine cQ<|sM Z<|sA Z<|sA Z<|sK [2,3] Z<|cT<|xR ?_
  exact aj Z ⟨Y,[],Z,hE,Z,_,Z,Ls.nil⟩ sbq
 ·have hq:wholeE l []=0:=Zu
  obtain ⟨-,mb,m,names,rfl,rfl,rfl,rfl,rfl,hm,rfl⟩:=hor.resolve_left λh=>h.1 hq
  have hg:=(jM hq).1
  have hol:=hg.ord_len
  rw [hg.flats2]
  simp only [lC,lN]
  generalize order (bn l)=names at hol ⊢
  clear hor hwh
  refine fZ (v:=ow) (E:=9) (sz:=1) (rows:=names.map nC) slq λwa wc hwf hwl hwm=>?_
  rw [List.length_map] at hwf hwl
  subst hwf
  refine dK (cO 55 4)<|cK<|xT<|cQ<|sA Z<|sK [2,3,4,6] Z<|cS<|cQ<|sV (vF Z D5 Z)<|sV (vY Z fI) ?_
  refine sV (aF Z underlying40)<|sM Z<|sK [2,3,4,6,18,19,20] Z<|cB<|aX (σ := Value×List (List Value)×Res×Nat) (λq=>[(4,.pointer (some ⟨b4,0,none⟩)),(6,q.1),(18,.slice wa names.length wc),(19,.int .i64 names.length),(20,.int .i64 (q.2.2.2:Nat))]) (λq=>VR q.1 55 4 q.2.1::q.2.2.1::mps mb m::VR (.slice wa names.length wc) 9 1 (names.map nC)::pt b4 (cl [.slice vAq l.length vK,.map (some mb),.slice wa names.length wc,.int .i64 cf0.kind,sv cf0.cls,sv cf0.name,sv cf0.other,sv cf0.a.par,sv cf0.a.name,sv cf0.b.par,sv cf0.b.name,.int .i64 0] 116)::hr) (λq=>q.1.oneCell'=true/\Ext Y q.2.2.1/\q.2.2.2≤names.length/\Rws q.2.2.1 q.2.1 ((names.take q.2.2.2).map λn=>look (build l).1 n)) (λq=>names.length - q.2.2.2) (.slice none 0 0,[],Y,0) ⟨Z,Ext.refl Y,Nat.zero_le _,Rws.nil⟩ ?_
  rintro ⟨w,rows,Zq,i⟩ ⟨hw,hEZ,hi,hro⟩
  simp only at hw hEZ hi hro
  dsimp only
  refine cQ<|sV (aN Z Z)<|sN<|nT<|cS<|cC Z (λhd=>?_)<|λhd=>?_
  ·have hlt:i<names.length:=Zx
   have htk:=bY hlt
   have hrl:rows.length≤i:=by
    rw [hro.1,List.length_map,List.length_take]; exact Nat.min_le_left _ _
   have hnx:(names.map nC)[i]? = some [sv names[i]]:=by rw [List.getElem?_map,Zy hlt]; rfl
   refine fJ (r:=VR (.slice wa names.length wc) 9 1<|names.map nC) slq λhok=>?_
   obtain ⟨ab,ao,rfl⟩:∃ ab ao,wa=some ⟨ab,ao,none⟩:=by
    obtain ⟨f0,hf0⟩:=hok
    rcases VR.form hf0 with ⟨h3,h4⟩ | ⟨b,o,cp,h3,-⟩
    ·have:=List.map_eq_nil_iff.1 h4
     rw [this] at hlt; simp at hlt
    ·rw [List.length_map] at h3; cases h3; exact ⟨b,o,rfl⟩
   generalize names[i]=n at hnx htk
   obtain ⟨fus,hfl,hfr⟩:=(hm.up hEZ) n
   have hcp:=Da hfr
   generalize hJ:look (build l).1 n=J at hcp
   refine cK<|xT<|cS<|cB<|cQ<|sV (vI (k:=i) Z Z jm Z hlt Z)<|sV (vY Z ld9 (ha:=⟨_,_,slq,eQ hnx 0<|by simp⟩)) ?_
   refine sA Z<|sK [4,6,8,18,19,20] Z<|cR<|sM Z<|sV (vF Z gL Z)<|sV (vF Z iJ Z)<|sV (vY Z p9) ?_
   refine sM Z<|sV (gq hfl<|bI Z Z pY p8 slq) ?_
   refine aH Z Z en55 Z (hcp) ?_
   rintro u h' ⟨T,rfl,us,rfl,hre⟩
   simp only [lC,lN]
   refine pJ [T] Zq λZ2 hE2 hsel2=>?_
   have hre:=Enc.up (hsel2 _ _ .here) hre
   have hone:=Enc.ones hre
   have hre0:=hre
   obtain ⟨x1,x2,rfl,hx1,hx2⟩:=hre
   refine ak (cells:=[sv J.name,.bool J.dfd,x1,x2]) Z underlying32 p8 Z Z Zz (ltn Z) λb31=>?_
   refine dZ [[sv J.name,.bool J.dfd,x1,x2]] Z Z underlying32 p8 Z (by decide) (show Sel _ (VR w 55 4 rows) _ from slq) (by simp) Z (λj u2 hu2=>bT<|bV Zt) (by simpa using hone) (by omega) (by omega) (ltn Z) λw2 hw2 _=>?_
   refine sA Z<|sN<|nK [4,6,18,19,20] Z<|ax<|xB<|xT<|cR<|sV (aI Z Z Za)<|sM Z<|sN<|nK [4,6,18,19,20] Z<|ax ?_
   refine aJ (w2,rows++[[sv J.name,.bool J.dfd,x1,x2]],Z2,i+1) ⟨hw2,hEZ.trans hE2,hlt,by rw [htk,List.map_append]; exact (hro.up hE2).snoc (show Enc.rep Z2 _ (look (build l).1 n) from by rw [hJ]; exact hre0)⟩ (by show names.length - (i+1)<names.length - i; omega)
  ·have hie:i=names.length:=Nat.le_antisymm hi<|Nat.not_lt.1 Zx
   subst hie
   rw [List.take_length] at hro
   have hb:(names.map λn=>look (build l).1 n).length * Enc.by' Fl≤reachBytes:=by
    rw [List.length_map,hrb]; show names.length * 72≤_; omega
   refine aB<|xE<|xE<|xY<|xT<|cQ<|sM Z<|sA Z<|sA Z<|sK [2,3] Z<|cT (dY (r:=VR w 55 4 rows) slq λhok=>?_)
   refine gY [VR w 55 4 rows] Zq λY2 hE2 hsel2=>?_
   exact aj Z ⟨Y2,[],Z,(hE.trans hEZ).trans hE2,Z,_,Z,Rws.ls (E:=55) (hro.up hE2) hok (hsel2 _ _ .here) hb⟩ sbq

theorem xQ (hX : Spc X) (hl : Ls X v l) (hS : jg l) {mv : Value} {ds : List Nm} (hds : ds.length ≤ 1000) (hmv : mv.oneCell' = true) (c n : Nm) : dE prog 97 #[v, sv c, sv n, mv] X [VR mv 9 1 (ds.map nC)] λu Y k' => ∃ v2 fv ow x e, ∃ us : List Value, u = .tuple #[.agg (sj v2 fv ow x e).toArray, .agg us.toArray, .int .i64 (bL l ds c n).2] /\ v2.oneCell' = true /\ fv.oneCell' = true /\ ow.oneCell' = true /\ Enc.rep Y us (bL l ds c n).1 /\
  (((bL l ds c n).2≠0/\k'=[])∨((bL l ds c n).2=0/\wholeE l (ds++[c])=0/\∃ mb m names,v2=v/\fv = .map (some mb)/\x=cf0/\e=0/\k'=[mps mb m,VR ow 9 1 (names.map nC)]/\FlR Y m (look (build l).1)/\names=order (bn l))):=by
 have hml:maxLen=9223372036854775807:=rfl
 obtain ⟨vAq,vK,rfl,_⟩:=id hl.form
 unfold dE
 refine eG (n:=46) func97 Z Z (len Z) λhr w0 hw0=>?_
 refine cQ (au nU λb8=>?_)
 refine au ji λb9=>?_
 refine sA Z<|sN<|nT<|cQ<|sM Z<|sM Z<|sM Z (ak (cells:=[sv c]) Z underlying40 fH Z Z Zz (ltn Z) λb19=>?_)
 have hdl:(ds.map nC).length≤1000:=by rw [List.length_map]; exact hds
 refine dZ [[sv c]] Z Z underlying40 fH Z (by decide) (show Sel _ (VR mv 9 1<|ds.map nC) _ from slq) (by simp) Z (λj u2 hu2=>bT<|bV Zt) (by simp [sv,Value.oneCell']) (by omega) (by omega) (ltn Z) λw2 hw2 _=>?_
 rw [show ds.map nC++[[sv c]]=(ds++[c]).map nC by rw [List.map_append]; rfl]
 refine nY (r:=VR w2 9 1<|(ds++[c]).map nC) slq λhok=>?_
 refine pJ [VR w2 9 1 ((ds++[c]).map nC)] X λY0 hE0 hsel=>?_
 have hwh:=vZ (hX.up hE0) (hl.up hE0) hS<|nm_ls hok (hsel _ _ .here) (by rw [List.length_append]; show ds.length+1≤_; omega)
 unfold dE at hwh
 refine bM hw0 Z Z en54 Z (hwh) ?_
 rintro u h' ⟨Y,k',rfl,hE,v2,fv,ow,x,e,rfl,hv2,hfv,how,hor⟩
 simp only [lC,lN]
 unfold sj
 have h12:=iB (x:=x) (e:=e) hv2 hfv how
 replace hE:=hE0.trans hE
 refine sM Z<|sV (ag Z Z)<|sV (ag Z Z) (au nU λb11=>?_)
 refine ai Z Z ja Z h12 ?_
 refine sA Z<|sK [1,2,8,9,10,11,12] Z<|cS<|cQ<|sM Z<|sV (bP Z Z)<|sK [1,2,8,9,10,11,12,25] Z<|cC Z (λhq=>?_)<|λhq=>?_
 ·have hq:wholeE l (ds++[c])≠0:=Zu
  obtain ⟨-,rfl⟩:=hor.resolve_right λh=>hq h.1
  have hp:bL l ds c n=(mb0,wholeE l (ds++[c])):=by unfold bL; rw [if_pos hq]
  rw [hp]
  refine cQ<|sV (aO (cells:=[.slice none 0 0,.map none,.slice none 0 0,.int .i64 0,sv [],sv [],sv [],sv [],sv [],sv [],sv [],.int .i64 0]) Z<|λ_=>Zz) ?_
  refine sV (aO (cells:=[sv [],.int .i64 0,.slice none 0 0,sv [],sv [],.slice none 0 0,.int .i64 0,sv [],.slice none 0 0,.bool false,.bool false,.slice none 0 0,.slice none 0 0,.slice none 0 0]) Z<|λ_=>Zz) ?_
  refine sM Z<|ai Z Z ja Z Z ?_
  refine ai Z Z gP Z Z ?_
  refine sA Z<|sK [8,9,10] Z<|cT<|xR ?_
  exact bD (.cellN Z lG Z slq<|.cellN Z eU Z slq<|.tmp Z .nil) ⟨Y,[],Z,hE,.slice none 0 0,.map none,.slice none 0 0,cf0,0,[sv [],.int .i64 0,.slice none 0 0,sv [],sv [],.slice none 0 0,.int .i64 0,sv [],.slice none 0 0,.bool false,.bool false,.slice none 0 0,.slice none 0 0,.slice none 0 0],Z,Z,Z,Z,KC,.inl ⟨hq,Z⟩⟩ sbr
 ·have hq:wholeE l (ds++[c])=0:=Zu
  obtain ⟨-,mb,m,names,rfl,rfl,rfl,rfl,rfl,hm,rfl⟩:=hor.resolve_left λh=>h.1 hq
  have hg:=(jM hq).1
  have hp:bL l ds c n=match dA (look (build l).1 c).mems n with
   | some m=>(m,0)
   | none=>(mb0,4):=by unfold bL; rw [if_neg (λh=>h hq)]; rfl
  rw [hp]
  simp only [lC,lN]
  obtain ⟨fus,hfl,hfr⟩:=hm c
  obtain ⟨z1,z2,rfl,hz1,hz2⟩:=hfr
  have hfi:=ui (n:=n) hz1
  rw [show ((look (build l).1 c).mems.find? λc=>c.name == n)=dA (look (build l).1 c).mems n from rfl] at hfi
  generalize dA (look (build l).1 c).mems n=F at hfi ⊢
  clear hor
  refine cK<|xT<|cQ<|sV (vF Z gL Z)<|sV (vF Z iJ Z)<|sV (vY Z p9) ?_
  refine sM Z<|sV (gq hfl<|bI Z Z pY p8 slq) ?_
  refine sV (iI (k:=2) Z underlying55 Z isAgg52 Z)<|sM Z<|aH Z Z en169 Z (hfi) ?_
  rintro u h' ⟨rfl,us,rfl,hre⟩
  simp only [lC,lN]
  have hone:=Enc.ones hre
  have hre0:=hre
  generalize hJ:F.getD mb0=J at hre hre0
  obtain ⟨x2,x5,y,x11,x12,x13,rfl,-⟩:=dh hre
  unfold gz at *
  refine sM Z<|sV (ag Z Z)<|sV (ag Z Z) (au ji λb13=>?_)
  refine ai Z Z gP Z hone ?_
  refine sA Z<|sK [8,9,10,11,13,14] Z<|cS<|cQ<|sM Z<|sV (bg Z)<|sK [8,9,10,11,13,41] Z ?_
  cases F with
  | none =>
   refine aQ Z ?_
   refine cQ<|sV (aO (cells:=[.slice none 0 0,.map none,.slice none 0 0,.int .i64 0,sv [],sv [],sv [],sv [],sv [],sv [],sv [],.int .i64 0]) Z<|λ_=>Zz) ?_
   refine sV (aO (cells:=[sv [],.int .i64 0,.slice none 0 0,sv [],sv [],.slice none 0 0,.int .i64 0,sv [],.slice none 0 0,.bool false,.bool false,.slice none 0 0,.slice none 0 0,.slice none 0 0]) Z<|λ_=>Zz) ?_
   refine ai Z Z ja Z Z ?_
   refine ai Z Z gP Z Z ?_
   refine sA Z<|sK [8,9,10] Z<|cT<|xR ?_
   exact bD (.cellN Z lG Z slq<|.cellN Z eU Z slq<|.tmp Z .nil) ⟨Y,[],Z,hE,.slice none 0 0,.map none,.slice none 0 0,cf0,0,[sv [],.int .i64 0,.slice none 0 0,sv [],sv [],.slice none 0 0,.int .i64 0,sv [],.slice none 0 0,.bool false,.bool false,.slice none 0 0,.slice none 0 0,.slice none 0 0],Z,Z,Z,Z,KC,.inl ⟨by show (4:Int)≠0; decide,Z⟩⟩ sbr
  | some g =>
   have hJ:g=J:=hJ
   subst hJ
   refine aG Z ?_
   refine cK<|xT<|cS<|jk (ork [(0,1),(1,1),(2,0),(3,0),(4,2)] .nil) (λi => !(Nat.beq i 3)) [pt b11 (cl [.slice vAq l.length vK,.map (some mb),ow,.int .i64 cf0.kind,sv cf0.cls,sv cf0.name,sv cf0.other,sv cf0.a.par,sv cf0.a.name,sv cf0.b.par,sv cf0.b.name,.int .i64 0] 116),pt b13 (cl [sv g.name,.int .i64 g.kind,x2,sv g.impl.cls,sv g.impl.name,x5,.int .i64 g.ty.kind,sv g.ty.name,y,.bool g.ty.void,.bool g.ty.sep,x11,x12,x13] 75)] mixed Zz ?_
   refine bu Z (af Z lG Z ah) ?_
   refine bu Z (af Z eU Z ah) ?_
   refine aV Z<|ai Z Z ja Z h12 ?_
   refine aW ?_
   refine aV Z<|ai Z Z gP Z hone<|aW ?_
   refine dV Z (vA Z)<|bA<|nK [8,9,10] Z<|nT<|cT ?_
   exact bD (.cellN Z lG Z slq<|.cellN Z eU Z slq<|.tmp Z .nil) ⟨Y,[mps mb m,VR ow 9 1 (List.map nC<|order<|bn l)],Z,hE,.slice vAq l.length vK,.map (some mb),ow,cf0,0,_,Z,Z,Z,how,hre0,.inr ⟨Z,hq,mb,m,_,Z,Z,Z,Z,Z,hm,Z⟩⟩ sbr

theorem Hm (hX:Spc X) (hl:Ls X v l) (hS:jg l) (c n:Nm):dE prog 30 #[v,sv c,sv n] X [] λu Y k'=>k'=[]/\∃ us:List Value,u = .tuple #[.agg us.toArray,.int .i64 (bL l [] c n).2]/\Enc.rep Y us (bL l [] c n).1:=by
 have hml:maxLen=9223372036854775807:=rfl
 obtain ⟨vAq,vK,rfl,_⟩:=id hl.form
 have hme:=xQ hX hl hS (mv:=.slice none 0 0) (ds:=[]) (by decide) rfl c n
 unfold dE at hme ⊢
 generalize bL l [] c n=P at hme ⊢
 obtain ⟨J,e⟩:=P
 dsimp only at hme ⊢
 refine eG (n:=22) func30 Z Z (len Z) λhr w0 hw0=>?_
 refine cQ (au ji λb6=>?_)
 refine sA Z<|sN<|nT<|cS<|dK (cO 9 1)<|cR<|sM Z<|sM Z<|sM Z<|bM hw0 Z Z en97 Z (hme) ?_
 rintro u h' ⟨Y,k',rfl,hE,v2,fv,ow,x,e0,us,rfl,hv2,hfv,how,hre,hor⟩
 refine qg Ox ?_
 unfold sj
 have h12:=iB (x:=x) (e:=e0) hv2 hfv how
 have hone:=Enc.ones hre
 have hre0:=hre
 obtain ⟨x2,x5,y,x11,x12,x13,rfl,-⟩:=dh hre
 unfold gz at *
 refine sM Z<|sV (ag Z Z)<|sV (ag Z Z)<|sV (ag Z Z) (au nU λb8=>?_)
 refine au ji λb9=>?_
 refine ai Z Z ja Z h12 ?_
 refine ai Z Z gP Z hone ?_
 refine sA Z<|sK [6,7,9,10] Z<|cQ<|sV (af Z eU Z ah) ?_
 refine aH Z Z en99 Z (Gl hre0) ?_
 rintro u h' ⟨T,rfl,us2,rfl,hre2⟩
 simp only [lC,lN]
 have hone2:=Enc.ones hre2
 have hre3:=hre2
 obtain ⟨y2,y5,yy,y11,y12,y13,rfl,-⟩:=dh hre2
 unfold gz at *
 refine sM Z<|ai Z Z gP Z hone2 ?_
 refine sA Z<|sK [6,7] Z<|cT (gY [T] Y λY2 hE2 hsel2=>?_)
 exact bD (.cellN Z eU Z slq<|.tmp Z .nil) ⟨Y2,[],Z,hE.trans hE2,Z,_,Z,Enc.up (hsel2 _ _ .here) hre3⟩ sbr
end
end Go.Fl
namespace Go.Fl
open Go Go.RowKit Go.Ck Go.Proofs Go.Proofs.Tryz Go.Proofs.YtknmacdbffgjgaaGreatDoor Fx Go.Hr
theorem Good.fits {l:FS} (h:Good l) (hS:jg l):Fits l (Fl.look (Fl.build l).1):=⟨h.right,h.flb,hS⟩
def ogC (o:Og):List Value:=[sv o.par,sv o.name]
def ogr (b:Bool) (n:Nm):List Og:=if b=true then [⟨[],n⟩] else []
theorem rws_og {Y:Res} (xs:List Og):Rws Y (xs.map ogC) xs:=⟨by simp,λj us x h1 h2=>by
 rw [List.getElem?_map,h2] at h1
 cases h1; rfl⟩
attribute [local irreducible] Go.Ck.Sub St Cd Xt Nx DrL LsW
section
variable {X:Res} {v:Value} {l:FS}
theorem Jl (hX:Spc X) (hl:Ls X v l) (hS:jg l) (c n:Nm):dE prog 50 #[v,sv c,sv n] X [] λu Y k'=>k'=[]/\∃ w:Value,u = .tuple #[w,.int .i64 (oriP l c n).2]/\Ls Y w (oriP l c n).1:=by
 have hml:maxLen=9223372036854775807:=rfl
 have hrb:reachBytes=140737488351232:=rfl
 obtain ⟨vAq,vK,rfl,_⟩:=id hl.form
 have hme:=xQ hX hl hS (mv:=.slice none 0 0) (ds:=[]) (by decide) rfl c n
 unfold dE at hme ⊢
 refine eG (n:=63) func50 Z Z (len Z) λhr w0 hw0=>?_
 refine cQ<|sA Z<|sA Z<|sN<|nT<|cS<|dK (cO 9 1)<|cR<|sM Z<|sM Z<|sM Z<|bM hw0 Z Z en97 Z (hme) ?_
 rintro u h' ⟨Y,k',rfl,hE,v2,fv,ow,x,e0,us,rfl,hv2,hfv,how,hre,hor⟩
 simp only [lC,lN]
 unfold sj
 have h12:=iB (x:=x) (e:=e0) hv2 hfv how
 have hone:=Enc.ones hre
 have hre0:=hre
 generalize (bL l [] c n).1=J at hre hre0
 obtain ⟨x2,x5,y,x11,x12,x13,rfl,-⟩:=dh hre
 unfold gz at *
 refine sM Z<|sV (ag Z Z)<|sV (ag Z Z)<|sV (ag Z Z) (au nU λb8=>?_)
 refine au ji λb9=>?_
 refine ai Z Z ja Z h12 ?_
 refine ai Z Z gP Z hone ?_
 refine sA Z<|sK [1,2,6,7,8,10] Z<|cS<|cQ<|sM Z<|sV (bP Z Z)<|sK [1,2,6,7,8,10,26] Z<|cC Z (λhq=>?_)<|λhq=>?_
 ·have hq:(bL l [] c n).2≠0:=Zu
  obtain ⟨-,rfl⟩:=hor.resolve_right λh=>hq h.1
  have hp:oriP l c n=([],(bL l [] c n).2):=by unfold oriP; rw [if_pos hq]
  rw [hp]
  refine cQ<|sM Z<|sA Z<|sA Z<|sK [6,7] Z<|cT<|xR ?_
  exact aj Z ⟨Y,[],Z,hE,Z,_,Z,Ls.nil⟩ sbq
 ·have hq:(bL l [] c n).2=0:=Zu
  have hp:oriP l c n=(ogr (feat (ae l c) n).isSome n++(under (comes (look (build l).1) l<|ae l c) n).map (λx=>x.og),0):=by unfold oriP; rw [if_neg (λh=>h hq)]; rfl
  rw [hp]
  obtain ⟨-,hwq,mb,m,names,rfl,rfl,rfl,rfl,rfl,hm,rfl⟩:=hor.resolve_left λh=>h.1 hq
  simp only [lC,lN]
  obtain ⟨hg,hcs⟩:=jM hwq
  have hcl:=(hg.class<|hcs c<|by simp).2.2
  have hF:=hg.fits hS
  have hfew:=hF.few<|.inl hcl
  have hcc:=lS (n:=c) (fv:=.map<|some mb) (hl.up hE) rfl
  have hun:(under (comes (look (build l).1) l<|ae l c) n).length≤(comes (look (build l).1) l<|ae l c).length:=List.length_filter_le _ _
  have hby:=λ(cus:List Value) (hcr:Enc.rep Y cus (ae l c))=>xJ (mb:=mb) (hl.up hE) hcr hm (hF.hf<|.inl hcl)<|by omega
  unfold CtX at hby
  clear hor hme
  refine cK<|xT<|cQ<|sA Z<|sK [1,2,6,7,8,11] Z<|cQ<|sV (vF Z gL Z)<|sV (af Z gU Z<|bF (k:=0) ah (vs:=[.slice vAq l.length vK,.map (some mb)]) Z) ?_
  refine sM Z<|aH Z Z en56 Z (hcc) ?_
  rintro u h' ⟨rfl,cus,rfl,hcr⟩
  simp only [lC,lN]
  have hby:=hby cus hcr
  have hco:=Enc.ones hcr
  obtain ⟨ca,cb,ce,cf,ci,rfl,hca,hcb,hce,hcf,hci⟩:=gp hcr
  refine au nS λb12=>?_
  refine ai Z Z lY Z hco ?_
  refine sK [2,6,7,8,11,12] Z<|cS<|cQ<|sV (vF Z kv Z)<|sV (vY Z yX) ?_
  refine sM Z ?_
  have hfi:=iT (n:=n) hcf
  rw [show ((ae l c).feats.find? λf=>f.name == n)=feat (ae l c) n from rfl] at hfi
  refine aH Z Z yE Z (hfi) ?_
  rintro u h' ⟨rfl,fus,rfl,hfr⟩
  simp only [lC,lN]
  have hfo:=Enc.ones hfr
  generalize (feat (ae l c) n).getD fe0=F at hfr
  obtain ⟨f2,f3,fy,f9,f10,f11,f12,f13,f14,rfl,-⟩:=nk hfr
  unfold Bf at *
  refine sM Z<|sV (ag Z Z)<|sV (ag Z Z) (au lH λb13=>?_)
  refine ai Z Z jQ Z hfo ?_
  refine sA Z<|sK [2,6,7,8,11,12,14] Z<|cQ<|sM Z<|sK [2,6,7,8,11,12,39] Z ?_
  generalize (feat (ae l c) n).isSome=b
  have hb31:(ogr b n).length≤1:=by unfold ogr; split <;> simp
  refine dK (cO 24 2)<|mM (ex:=.normal) (α := {q:Value // q.oneCell'=true}) (λq=>[(2,sv n),(8,.pointer (some ⟨b8,0,none⟩)),(11,q.1),(12,.pointer (some ⟨b12,0,none⟩))]) (λq=>VR q.1 24 2 ((ogr b n).map ogC)::pt b12 (cl [sv (ae l c).name,.bool (ae l c).dfd,ca,cb,ce,cf,ci] 44)::pt b8 (cl [.slice vAq l.length vK,.map (some mb),ow,.int .i64 cf0.kind,sv cf0.cls,sv cf0.name,sv cf0.other,sv cf0.a.par,sv cf0.a.name,sv cf0.b.par,sv cf0.b.name,.int .i64 0] 116)::Y::mps mb m::hr) (λhcont=>?_)<|λq=>?_
  ·cases b with
   | true =>
    refine aQ Z ?_
    refine cR<|sM Z<|sM Z<|sV (aO (cells:=[sv [],sv n]) Z<|λ_=>Zz) ?_
    refine ak (cells:=[sv [],sv n]) Z underlying104 JM Z Z Zz (ltn Z) λb43=>?_
    refine dZ [[sv [],sv n]] Z Z underlying104 JM Z (by decide) (show Sel _ (VR (.slice none 0 0) 24 2 []) _ from slq) (by simp) Z (λj u2 hu2=>bT<|bV Zt) (by simp [sv,Value.oneCell']) (by simp) (by simp) (ltn Z) λw2 hw2 _=>?_
    refine sA Z<|sN<|nK [2,6,7,8,11,12] Z<|ax ?_
    exact hcont ⟨w2,hw2⟩ _ _ ⟨Z,Z,Z,Z,trivial⟩ sbq
   | false =>
    refine aG Z ?_
    refine cK ?_
    exact hcont ⟨.slice none 0 0,Z⟩ _ _ ⟨Z,Z,Z,Z,trivial⟩ sbq
  obtain ⟨w0q,hw0q⟩:=q
  dsimp only
  refine xT<|cS<|cQ<|sV (vF Z gL Z)<|sV (af Z gU Z<|bF (k:=0) ah (vs:=[.slice vAq l.length vK,.map (some mb)]) Z) ?_
  refine sV (af Z gG Z ah) ?_
  refine aH Z Z JZ Z (hby) ?_
  rintro u h' ⟨Y2,k2,rfl,hE2,bm,E,rfl,rfl,hbk⟩
  simp only [lC,lN]
  refine nY (r:=BN E) slq λhokE=>?_
  refine pJ [BN E] Y2 λY3 hE3 hsel=>?_
  have hls:=Ku hbk hE3 hokE (hsel _ _ .here)<|by omega
  have hlk:=zB hbk.1 hls n
  obtain ⟨qa,qk,hqv,_⟩:=id hlk.form
  rw [hqv] at hlk
  generalize under (comes (look (build l).1) l<|ae l c) n=L at hun hlk hqv ⊢
  refine sM Z<|sV (gq hqv<|bI Z Z sI tC slq) ?_
  refine sV (aF Z underlying187)<|sM Z<|sK [11,50,51,52] Z<|cB ?_
  rw [show (ogr b n).map ogC=(ogr b n++(L.take 0).map (λx=>x.og)).map ogC by simp]
  refine aX (σ := Value×Nat) (λq=>[(11,q.1),(50,.slice qa L.length qk),(51,.int .i64 L.length),(52,.int .i64 (q.2:Nat))]) (λq=>VR q.1 24 2 ((ogr b n++(L.take q.2).map (λx=>x.og)).map ogC)::Y3::hr) (λq=>q.1.oneCell'=true/\q.2≤L.length) (λq=>L.length - q.2) (w0q,0) ⟨hw0q,Nat.zero_le _⟩ ?_
  rintro ⟨w,i⟩ ⟨hw,hi⟩
  simp only at hw hi
  dsimp only
  refine cQ<|sV (aN Z Z)<|sN<|nT<|cS<|cC Z (λhd=>?_)<|λhd=>?_
  ·have hlt:i<L.length:=Zx
   have htk:=bY hlt
   have hrl:((ogr b n++(L.take i).map (λx=>x.og)).map ogC).length≤1+i:=by
    rw [List.length_map,List.length_append,List.length_map,List.length_take]; omega
   obtain ⟨fb,fo,fcap,fus,e1,hfus,hfrd,hfr⟩:=hlk.at<|Zy hlt
   obtain ⟨rfl,rfl⟩:qa=some ⟨fb,fo,none⟩/\qk=fcap:=by cases e1; exact ⟨rfl,rfl⟩
   generalize L[i]=xc at hfr htk
   have hfo2:=Enc.ones hfr
   obtain ⟨c2,c5,cy,c11,c12,c13,rfl,-⟩:=gZ hfr
   have hog:∀ b,Rds (pt b<|cl (oC xc c2 c5 cy c11 c12 c13) 191) b (0+0) [sv xc.og.par,sv xc.og.name]:=λb=>nu
   unfold oC at *
   refine cK<|xT<|cS<|cB<|cQ<|sV (vI (k:=i) Z Z lF Z hlt Z)<|sV (af Z gV Z hfrd) ?_
   refine au qR λb16=>?_
   refine ai Z Z mr Z hfo2 ?_
   refine sK [11,16,50,51,52] Z<|cR<|sM Z<|sV (vF Z jo Z)<|sV (af Z qm Z<|hog b16) ?_
   refine ak (cells:=[sv xc.og.par,sv xc.og.name]) Z underlying104 JM Z Z Zz (ltn Z) λb59=>?_
   refine dZ [[sv xc.og.par,sv xc.og.name]] Z Z underlying104 JM Z (by decide) (show Sel _ (VR w 24 2<|(ogr b n++(L.take i).map (λx=>x.og)).map ogC) _ from slq) (by simp) Z (λj u2 hu2=>bT<|bV Zt) (by simp [sv,Value.oneCell']) (by omega) (by omega) (ltn Z) λw2 hw2 _=>?_
   refine sA Z<|sN<|nK [11,50,51,52] Z<|ax<|xB<|xT<|cR<|sV (aI Z Z Za)<|sM Z<|sN<|nK [11,50,51,52] Z<|ax ?_
   rw [show (ogr b n++(L.take i).map (λx=>x.og)).map ogC++[[sv xc.og.par,sv xc.og.name]]=(ogr b n++(L.take (i+1)).map (λx=>x.og)).map ogC by rw [htk]; simp [ogC]]
   refine aJ (w2,i+1) ⟨hw2,hlt⟩ (by show L.length - (i+1)<L.length - i; omega)
  ·have hie:i=L.length:=Nat.le_antisymm hi<|Nat.not_lt.1 Zx
   subst hie
   rw [List.take_length]
   have hbl:(ogr b n++L.map (λx=>x.og)).length * Enc.by' Og≤reachBytes:=by
    rw [List.length_append,List.length_map,hrb]; show _ * 32≤_; omega
   refine aB<|xE<|xE<|xY<|xT<|cQ<|sM Z<|sA Z<|sA Z<|sK [6,7] Z<|cT (dY (r:=VR w 24 2<|(ogr b n++L.map (λx=>x.og)).map ogC) slq λhok=>?_)
   refine gY [VR w 24 2 ((ogr b n++L.map (λx=>x.og)).map ogC)] Y3 λY4 hE4 hsel4=>?_
   exact aj Z ⟨Y4,[],Z,((hE.trans hE2).trans hE3).trans hE4,Z,_,Z,Rws.ls (E:=24) (rws_og _) hok (hsel4 _ _ .here) hbl⟩ sbq
end
end Go.Fl
namespace Go.Fl
open Go Go.RowKit Go.Ck Go.Proofs Go.Proofs.Tryz Go.Proofs.YtknmacdbffgjgaaGreatDoor Fx Go.Hr
theorem LV {ms:List Mb} {i:Nat} (h:i<ms.length) (ss:List Sd):pI (ms.take (i+1)) ss=pI (ms.take i) ss++if (ss.all λs=>ms[i].seeds.contains s)=true then [ms[i].name] else []:=by
 unfold pI
 rw [bY h,List.filter_append,List.map_append]
 congr 1
 by_cases hq:(ss.all λs=>ms[i].seeds.contains s)=true
 ·rw [if_pos hq,List.filter_cons,if_pos hq]; rfl
 ·rw [if_neg hq,List.filter_cons,if_neg hq]; rfl
theorem Ho (ms:List Mb) (ss:List Sd):(pI ms ss).length≤ms.length:=by
 unfold pI; rw [List.length_map]; exact List.length_filter_le _ _
attribute [local irreducible] Go.Ck.Sub St Cd Xt Nx DrL LsW
section
variable {X:Res} {v:Value} {l:FS}
theorem Br (hX:Spc X) (hl:Ls X v l) (hS:jg l) (d c n:Nm):dE prog 29 #[v,sv d,sv c,sv n] X [] λu Y k'=>k'=[]/\u = .tuple #[sv (iH l d c n).1,.int .i64 (iH l d c n).2]:=by
 have hml:maxLen=9223372036854775807:=rfl
 have hrb:reachBytes=140737488351232:=rfl
 obtain ⟨vAq,vK,rfl,_⟩:=id hl.form
 have hme:=λb=>xQ hX hl hS (mv:=.slice (some ⟨b,0,none⟩) 1 1) (ds:=[d]) (by simp) rfl c n
 have hrk:rk (bn l) d≤l.length:=by
  have:=qz (bn l) d
  rwa [jX] at this
 simp only [List.map_cons,List.map_nil,nC] at hme
 unfold dE at hme ⊢
 refine eG (n:=105) func29 Z Z (len Z) λhr w0 hw0=>?_
 refine cQ<|sA Z<|sA Z<|sN<|nT<|E5<|cQ<|sM Z<|sM Z<|sM Z<|sM Z (ak (cells:=[sv d]) Z underlying40 fH Z Z Zz (ltn Z) λb28=>?_)
 refine Ar (Au (b:=b28) (n:=1) (sz:=1) (E:=9) [[sv d]] Z (by simp) Z<|by decide) ?_
 simp only [lC,lN]
 refine bM hw0 Z Z en97 Z ((hme b28)) ?_
 rintro u h' ⟨Y,k',rfl,hE,v2,fv,ow,x,e0,us,rfl,hv2,hfv,how,hre,hor⟩
 simp only [lC,lN]
 unfold sj
 have h12:=iB (x:=x) (e:=e0) hv2 hfv how
 have hone:=Enc.ones hre
 have hme2:(bL l [d] c n).2=0->Good l/\(bJ l d).isSome=true/\(bJ l c).isSome=true/\(bL l [d] c n).1∈msF l c:=λhz=>by
  have hwz:wholeE l ([d]++[c])=0:=Classical.not_not.1 λh=>by
   unfold bL at hz
   rw [if_pos h] at hz
   exact h hz
  obtain ⟨hg,hcs⟩:=jM hwz
  have hd:=hcs d<|by simp
  have hc:=hcs c<|by simp
  have hmb:=hg.member (ns:=[d]) (n:=n) Zx hc
  refine ⟨hg,hd,hc,?_⟩
  rw [hmb] at hz ⊢
  cases hm:dA (msF l c) n with
  | none=>rw [hm] at hz; cases hz
  | some m=>exact (Ip hm).1
 have hver:iH l d c n=if (bL l [d] c n).2≠0 then ([],(bL l [d] c n).2) else if has (bn l) d c=false then ([],5) else
   match pI (look (build l).1 d).mems (bL l [d] c n).1.seeds with
   | []=>([],5)
   | [a]=>(a,0)
   | a::b::t=>if (a::b::t).contains (selOf l d ((bL l [d] c n).1.seeds.headD ⟨[],[]⟩)).1 then ((selOf l d ((bL l [d] c n).1.seeds.headD ⟨[],[]⟩)).1,0) else ([],5):=rfl
 rw [hver]
 clear hver
 generalize (bL l [d] c n).1=J at hre hme2 ⊢
 generalize (bL l [d] c n).2=e at hre hme2 hor ⊢
 obtain ⟨x2,x5,y,x11,x12,x13,rfl,hx2,-⟩:=dh hre
 obtain ⟨sAq,sKq,rfl,_⟩:=id hx2.form
 unfold gz at *
 refine sM Z<|sV (ag Z Z)<|sV (ag Z Z)<|sV (ag Z Z) (au nU λb10=>?_)
 refine au ji λb11=>?_
 refine ai Z Z ja Z h12 ?_
 refine ai Z Z gP Z hone ?_
 refine sA Z<|sK [0,1,2,8,9,10,11,12] Z<|cS<|cQ<|sM Z<|sV (bP Z Z)<|sK [0,1,2,8,9,10,11,12,34] Z<|cC Z (λhq=>?_)<|λhq=>?_
 ·have hq:e≠0:=Zu
  obtain ⟨-,rfl⟩:=hor.resolve_right λh=>hq h.1
  rw [if_pos hq]
  refine cQ<|sM Z<|sA Z<|sA Z<|sK [8,9] Z<|cT<|xR<|fq ?_
  exact aj Z ⟨Y,[],Z,hE,Z,Z⟩ sbq
 ·have hq:e=0:=Zu
  obtain ⟨hg,hds,hcs,hmem⟩:=hme2 hq
  obtain ⟨-,hwq,mb,m,names,rfl,rfl,rfl,rfl,rfl,hm,rfl⟩:=hor.resolve_left λh=>h.1 hq
  rw [if_neg (λh=>h hq)]
  have hsne:=hg.seeds_ne c hcs J hmem
  have his:=Is_ct (tT<|hl.up hE) d c
  rw [show dJ (bn l) [d,c]=0 from d9.2 ⟨hg.sys,λk hk=>by
   simp only [List.mem_cons,List.mem_nil_iff,or_false] at hk
   rcases hk with rfl | rfl
   ·rw [dD]; exact hds
   ·rw [dD]; exact hcs⟩] at his
  simp only [decide_true,Bool.true_and] at his
  generalize has (bn l) d c=hs at his ⊢
  clear hor hme hme2
  simp only [lC,lN]
  refine cK<|xT<|cS<|cQ<|sM Z<|sM Z<|sM Z<|aH Z Z en27 Z (his) ?_
  rintro u h' ⟨rfl,rfl⟩
  simp only [lC,lN]
  refine sM Z<|sV (ag Z Z)<|sV (ag Z Z)<|sA Z<|sA Z<|sK [1,8,9,10,11,13] Z<|cQ<|sM Z<|sV (bg Z)<|sK [1,8,9,10,11,44] Z ?_
  cases hs with
  | false =>
   rw [if_pos rfl]
   refine aQ Z ?_
   refine cQ<|sA Z<|sA Z<|sK [8,9] Z<|cT<|xR<|fq ?_
   exact aj Z ⟨Y,[],Z,hE,Z,Z⟩ sbq
  | true =>
   rw [if_neg (by decide)]
   refine aG Z ?_
   refine cK<|xT<|cQ<|sA Z<|sK [1,8,9,10,11,15] Z<|cQ<|sV (vF Z gL Z)<|sV (vF Z iJ Z)<|sV (vY Z p9) ?_
   refine sM Z ?_
   obtain ⟨fus,hfl,hfr⟩:=hm d
   obtain ⟨z1,z2,rfl,hz1,hz2⟩:=hfr
   obtain ⟨mA,mK,rfl,_⟩:=id hz1.form
   have hmf:=hg.few d
   refine sV (gq hfl<|bI Z Z pY p8 slq) ?_
   refine sV (iI (k:=2) Z underlying55 Z isAgg52 Z)<|sA Z<|sK [1,8,9,10,11,15,16] Z<|cS<|EX<|xT<|cS<|cS<|dK (cO 9 1) ?_
   unfold selOf
   have hih:=λ(cus:List Value) (hcr:Enc.rep Y cus (ae l d)) (s:Sd)=>yO (mb:=mb) (hg.fits hS) l.length Y (ae l d) d cus (.slice mA (look (build l).1 d).mems.length mK) (look (build l).1 d).mems s rfl hrk (hl.up hE) hcr hm hz1
   unfold dE at hih
   have hcc:=lS (n:=d) (fv:=.map<|some mb) (hl.up hE) rfl
   generalize (look (build l).1 d).mems=ms at hz1 hmf hih ⊢
   have hvl:=Ho ms J.seeds
   refine cR<|sM Z<|sV (aF Z underlying52)<|sM Z<|sN<|nT<|cB<|aX (σ := Value×Nat) (λq=>[(1,sv d),(10,.pointer (some ⟨b10,0,none⟩)),(11,.pointer (some ⟨b11,0,none⟩)),(15,q.1),(16,.slice mA ms.length mK),(51,.slice mA ms.length mK),(52,.int .i64 ms.length),(53,.int .i64 (q.2:Nat))]) (λq=>VR q.1 9 1 ((pI (ms.take q.2) J.seeds).map nC)::pt b11 (cl [sv J.name,.int .i64 J.kind,.slice sAq J.seeds.length sKq,sv J.impl.cls,sv J.impl.name,x5,.int .i64 J.ty.kind,sv J.ty.name,y,.bool J.ty.void,.bool J.ty.sep,x11,x12,x13] 75)::pt b10 (cl [.slice vAq l.length vK,.map (some mb),ow,.int .i64 cf0.kind,sv cf0.cls,sv cf0.name,sv cf0.other,sv cf0.a.par,sv cf0.a.name,sv cf0.b.par,sv cf0.b.name,.int .i64 0] 116)::Y::mps mb m::hr) (λq=>q.1.oneCell'=true/\q.2≤ms.length) (λq=>ms.length - q.2) (.slice none 0 0,0) ⟨Z,Nat.zero_le _⟩ ?_
   rintro ⟨w,i⟩ ⟨hw,hi⟩
   simp only at hw hi
   dsimp only
   refine cQ<|sV (aN Z Z)<|sN<|nT<|cS<|cC Z (λhd=>?_)<|λhd=>?_
   ·have hlt:i<ms.length:=Zx
    have hsn:=LV hlt J.seeds
    have hvl2:=Ho (ms.take i) J.seeds
    rw [List.length_take] at hvl2
    obtain ⟨fb,fo,fcap,fus,e1,hfus,hfrd,hfr⟩:=hz1.at<|Zy hlt
    obtain ⟨rfl,rfl⟩:mA=some ⟨fb,fo,none⟩/\mK=fcap:=by cases e1; exact ⟨rfl,rfl⟩
    generalize ms[i]=xm at hfr hsn
    have hfo:=Enc.ones hfr
    obtain ⟨m2,m5,my,m11,m12,m13,rfl,hm2,-⟩:=dh hfr
    obtain ⟨m2A,m2K,rfl,_⟩:=id hm2.form
    unfold gz at *
    refine cK<|xT<|cS<|cB<|cQ<|sV (vI (k:=i) Z Z oM Z hlt Z)<|sV (af Z eU Z hfrd) ?_
    refine au ji λb18=>?_
    refine ai Z Z gP Z hfo ?_
    refine sK [1,10,11,15,16,18,51,52,53] Z<|cS<|cQ<|sV (vF Z dX Z)<|sV (vY Z nO) ?_
    refine sV (aF Z underlying67)<|sM Z<|sK [1,10,11,15,16,18,51,52,53,58,59,60] Z<|cB<|aX (σ := Nat) (λj=>[(1,sv d),(10,.pointer (some ⟨b10,0,none⟩)),(11,.pointer (some ⟨b11,0,none⟩)),(15,w),(16,.slice (some ⟨fb,fo,none⟩) ms.length mK),(18,.pointer (some ⟨b18,0,none⟩)),(51,.slice (some ⟨fb,fo,none⟩) ms.length mK),(52,.int .i64 ms.length),(53,.int .i64 (i:Nat)),(58,.slice sAq J.seeds.length sKq),(59,.int .i64 J.seeds.length),(60,.int .i64 (j:Nat))]) (λ_=>pt b18 (cl [sv xm.name,.int .i64 xm.kind,.slice m2A xm.seeds.length m2K,sv xm.impl.cls,sv xm.impl.name,m5,.int .i64 xm.ty.kind,sv xm.ty.name,my,.bool xm.ty.void,.bool xm.ty.sep,m11,m12,m13] 75)::VR w 9 1 ((pI (ms.take i) J.seeds).map nC)::pt b11 (cl [sv J.name,.int .i64 J.kind,.slice sAq J.seeds.length sKq,sv J.impl.cls,sv J.impl.name,x5,.int .i64 J.ty.kind,sv J.ty.name,y,.bool J.ty.void,.bool J.ty.sep,x11,x12,x13] 75)::pt b10 (cl [.slice vAq l.length vK,.map (some mb),ow,.int .i64 cf0.kind,sv cf0.cls,sv cf0.name,sv cf0.other,sv cf0.a.par,sv cf0.a.name,sv cf0.b.par,sv cf0.b.name,.int .i64 0] 116)::Y::mps mb m::hr) (λj=>j≤J.seeds.length/\∀ k (hk:k<J.seeds.length),k<j->xm.seeds.contains J.seeds[k]=true) (λj=>J.seeds.length - j) 0 ⟨Nat.zero_le _,λk _ hk=>absurd hk<|Nat.not_lt_zero _⟩ ?_
    rintro j ⟨hj,hal⟩
    try simp only at hj hal
    try dsimp only
    refine cQ<|sV (aN Z Z)<|sN<|nT<|cS<|cC Z (λhd2=>?_)<|λhd2=>?_
    ·have hltj:j<J.seeds.length:=Zw
     obtain ⟨gb,go,gcap,gus,e2,hgus,hgrd,hgr⟩:=hx2.at<|Zy hltj
     obtain ⟨rfl,rfl⟩:sAq=some ⟨gb,go,none⟩/\sKq=gcap:=by cases e2; exact ⟨rfl,rfl⟩
     have hcj:∀ hq:xm.seeds.contains J.seeds[j]=true,∀ k (hk:k<J.seeds.length),k<j+1->xm.seeds.contains J.seeds[k]=true:=λhq k hk hkj=>by
      by_cases h:k=j
      ·subst h; exact hq
      ·exact hal k hk<|by omega
     have hmemj:=List.getElem_mem hltj
     generalize J.seeds[j]=s at hgr hcj hmemj
     obtain rfl:gus=[sv s.cls,sv s.name]:=hgr
     refine cK<|xT<|cS<|cB<|cQ<|sV (vI (k:=j) Z Z oN Z hltj Z)<|sV (af Z il Z hgrd) ?_
     refine au al69 λb20=>?_
     refine ai Z Z sz69 Z Z ?_
     refine sK [1,10,11,15,16,18,20,51,52,53,58,59,60] Z<|cQ<|sV (vF Z dX Z)<|sV (vY Z nO) ?_
     refine sV (af Z il Z ah) ?_
     refine aY Z Z en33 Z (rD (s:=s) hm2) ?_
     refine sV (bg Z)<|sK [1,10,11,15,16,18,51,52,53,58,59,60,68] Z<|cC Z (λhct=>?_)<|λhct=>?_
     ·have hct:xm.seeds.contains s=false:=Ze
      have hsn2:pI (ms.take (i+1)) J.seeds=pI (ms.take i) J.seeds:=by
       rw [hsn,if_neg,List.append_nil]
       intro h
       rw [List.all_eq_true.1 h s hmemj] at hct; cases hct
      refine aB<|fF (by decide) ?_
      refine xE<|xE<|fF (by decide) ?_
      refine xE<|xY<|xT<|cR<|sV (aI Z Z Za)<|sM Z<|sN<|nK [1,10,11,15,16,51,52,53] Z<|ax ?_
      rw [<- hsn2]
      refine aJ (w,i+1) ⟨hw,hlt⟩ (by show ms.length - (i+1)<ms.length - i; omega)
     ·have hct:xm.seeds.contains s=true:=Ze
      refine cK<|xB<|xT<|cR<|sV (aI Z Z Za)<|sM Z<|sN<|nK [1,10,11,15,16,18,51,52,53,58,59,60] Z<|ax ?_
      refine aJ (j+1) ⟨hltj,hcj hct⟩ (by show J.seeds.length - (j+1)<J.seeds.length - j; omega)
    ·have hje:j=J.seeds.length:=Nat.le_antisymm hj<|Nat.not_lt.1 Zw
     subst hje
     rw [if_pos (List.all_eq_true.2 λs hs=>by
      obtain ⟨k,hk,rfl⟩:=List.getElem_of_mem hs
      exact hal k hk hk)] at hsn
     refine aB<|xE<|xE<|xY<|xT<|cR<|sM Z<|sV (vF Z eB Z)<|sV (vY Z ld9) ?_
     refine ak (cells:=[sv xm.name]) Z underlying40 fH Z Z Zz (ltn Z) λb73=>?_
     refine dZ [[sv xm.name]] Z Z underlying40 fH Z (by decide) (show Sel _ (VR w 9 1<|(pI (ms.take i) J.seeds).map nC) _ from slq) (by simp) Z (λj u2 hu2=>bT<|bV Zt) (by simp [sv,Value.oneCell']) (by rw [List.length_map]; omega) (by rw [List.length_map]; omega) (ltn Z) λw2 hw2 _=>?_
     refine sA Z<|sN<|nK [1,10,11,15,16,51,52,53] Z<|ax<|xB<|xT<|cR<|sV (aI Z Z Za)<|sM Z<|sN<|nK [1,10,11,15,16,51,52,53] Z<|ax ?_
     rw [show (pI (ms.take i) J.seeds).map nC++[[sv xm.name]]=(pI (ms.take (i+1)) J.seeds).map nC by rw [hsn,List.map_append]; rfl]
     refine aJ (w2,i+1) ⟨hw2,hlt⟩ (by show ms.length - (i+1)<ms.length - i; omega)
   ·have hie:i=ms.length:=Nat.le_antisymm hi<|Nat.not_lt.1 Zx
    subst hie
    rw [List.take_length]
    generalize pI ms J.seeds=L at hvl ⊢
    refine fZ (v:=w) (E:=9) (sz:=1) (rows:=L.map nC) slq λwa wc hwf hwl hwm=>?_
    rw [List.length_map] at hwf hwl
    subst hwf
    refine fJ (r:=VR (.slice wa L.length wc) 9 1<|L.map nC) slq λhok=>?_
    have hwa:L≠[]->∃ ab ao,wa=some ⟨ab,ao,none⟩:=λhne=>by
     obtain ⟨f0,hf0⟩:=hok
     rcases VR.form hf0 with ⟨h3,h4⟩ | ⟨b,o,cp,h3,-⟩
     ·exact absurd (List.map_eq_nil_iff.1 h4) hne
     ·rw [List.length_map] at h3; cases h3; exact ⟨b,o,rfl⟩
    refine aB<|xE<|xE<|xY<|xT<|cS<|cQ<|sM Z<|sV (aF Z underlying40)<|sK [1,10,11,15,16,77] Z<|cB<|cQ ?_
    refine sV (dP Z Z)<|sA Z<|sK [1,10,11,15,16,77,78] Z<|cC Z (λh0=>?_)<|λh0=>?_
    ·have h0:L=[]:=List.eq_nil_of_length_eq_zero<|by simpa using h0
     subst h0
     refine cQ<|sA Z<|sA Z<|sK [8,9] Z<|cT<|xW<|xR<|fq ?_
     exact aj Z ⟨Y,[],Z,hE,Z,Z⟩ sbq
    ·have h0:L≠[]:=λh=>by subst h; simp at h0
     refine cQ<|sV (dP Z Z)<|sA Z<|sK [1,10,11,15,16,80] Z<|cC Z (λh1=>?_)<|λh1=>?_
     ·have h1:((L.length:Nat):Int)=1:=Zf
      have h1':L.length=1:=by omega
      obtain ⟨a,rfl⟩:∃ a,L=[a]:=List.length_eq_one_iff.1 h1'
      obtain ⟨ab,ao,rfl⟩:=hwa h0
      refine cQ<|sM Z<|sV (vI (k:=0) Z Z jm Z (by simp) Z) ?_
      refine sV (vY Z ld9 (ha:=⟨_,_,slq,eQ (show ([a].map nC)[0]? = some [sv a] from Z) 0<|by simp⟩)) ?_
      refine sA Z<|sA Z<|sK [8,9] Z<|cT<|xW<|xR<|fq ?_
      exact aj Z ⟨Y,[],Z,hE,Z,Z⟩ sbq
     ·obtain ⟨a,b,tl,rfl⟩:∃ a b tl,L=a::b::tl:=by
       match L,h0,h1 with
       | [a],_,h1=>simp at h1
       | a::b::tl,_,_=>exact ⟨a,b,tl,rfl⟩
      obtain ⟨s0,ss,hss⟩:=List.exists_cons_of_ne_nil hsne
      rw [show J.seeds.headD ⟨[],[]⟩=s0 by rw [hss]; rfl]
      have hls0:0<J.seeds.length:=by rw [hss]; simp
      obtain ⟨gb,go,gcap,gus,e2,hgus,hgrd,hgr⟩:=hx2.at (i:=0) (a:=s0) (by rw [hss]; rfl)
      obtain ⟨rfl,rfl⟩:sAq=some ⟨gb,go,none⟩/\sKq=gcap:=by cases e2; exact ⟨rfl,rfl⟩
      obtain rfl:gus=[sv s0.cls,sv s0.name]:=hgr
      have hih:=λ(cus:List Value) (hcr:Enc.rep Y cus (ae l d))=>hih cus hcr s0
      generalize eP (look (build l).1) l l.length (ae l d) ms s0=r at hih ⊢
      refine cK<|xB<|xT<|cS<|bB (ork [(0,2),(1,1),(2,2),(3,1),(4,2),(6,2),(7,2),(8,1),(9,2),(10,1),(5,0),(11,0),(12,2),(13,2),(14,2),(15,2),(16,2)] .nil) (λi => !(Nat.beq i 11)) mixed Zz ?_
      refine dV Z (vF Z gL Z)<|bu Z (af Z gU Z<|bF (k:=0) ah (vs:=[.slice vAq l.length vK,.map (some mb)]) Z) ?_
      refine dV Z (vF Z gL Z)<|bu Z (af Z gU Z<|bF (k:=0) ah (vs:=[.slice vAq l.length vK,.map (some mb)]) Z) ?_
      refine dV Z (vM Z)<|dV Z (vM Z)<|dV Z (vF Z dX Z)<|bu Z (vY Z nO) ?_
      refine dV Z (vI (k:=0) Z Z oN Z hls0 Z)<|bu Z (af Z il Z hgrd) ?_
      refine aV Z<|aH Z Z en56 Z (hcc) ?_
      rintro u h' ⟨rfl,cus,rfl,hcr⟩
      simp only [lC,lN]
      refine aW ?_
      refine aV Z<|bM hw0 Z Z en98 Z (hih cus hcr) ?_
      rintro u h' ⟨Z2,k2,rfl,hE3,rfl,rfl⟩
      simp only [lC,lN]
      refine aW ?_
      refine dV Z (vM Z)<|dV Z (ag Z Z)<|dV Z (ag Z Z)<|dV Z (vA Z)<|dV Z (vA Z)<|bA<|nK [15,21] Z<|nT<|cS<|cQ<|sM Z<|sM Z<|aY Z Z Ea Z (fw (iL hok) r.1<|by omega) ?_
      refine sV (bg Z)<|sK [21,103] Z<|cC Z (λhcq=>?_)<|λhcq=>?_
      ·rw [if_neg (by simpa using hcq)]
       refine cQ<|sA Z<|sA Z<|sK [8,9] Z<|cT<|xR<|fq ?_
       exact aj Z ⟨Z2,[],Z,hE.trans hE3,Z,Z⟩ sbq
      ·rw [if_pos (by rw [Bool.not_eq_false'] at hcq; exact hcq)]
       refine cK<|xT<|cQ<|sM Z<|sA Z<|sA Z<|sK [8,9] Z<|cT<|fq ?_
       exact aj Z ⟨Z2,[],Z,hE.trans hE3,Z,Z⟩ sbq
end
end Go.Fl
namespace Go.Fl
open Go Go.Hr
def nP:Nm:=[80]
def nA:Nm:=[65]
def nB:Nm:=[66]
def nQ:Nm:=[67]
def na:Nm:=[97]
def nb:Nm:=[98]
def nn:Nm:=[110]
def uw:Nm:=[65,78,89]
def ty0:Kt:=.mk 0 [] [] false false
def rF (n:Nm):Fe:=⟨2,n,[uw],[],ty0,[],[]⟩
def Hq (n:Nm):Fe:=⟨1,n,[uw],[],.mk 1 [] [] false false,[],[]⟩
def exPc:FC:=⟨nP,false,[],[],[rF na,Hq nn],[]⟩
def exAc (und:List Nm):FC:=⟨nA,false,[],[⟨nP,[],[],und,[],[]⟩],[],[]⟩
def exBc (red:List Nm):FC:=⟨nB,false,[],[⟨nP,[],[⟨na,nb⟩],[],red,[]⟩],[rF nb],[]⟩
def exQc (sel:List Nm):FC:=⟨nQ,false,[],[⟨nA,[],[],[],[],[]⟩,⟨nB,[],[],[],[],sel⟩],[],[]⟩
def Bt (und red sel:List Nm):FS:=[exPc,exAc und,exBc red,exQc sel]
def ex1:FS:=Bt [] [nb] []
def ex2:FS:=Bt [] [nb] [nb]
def ex3:FS:=Bt [] [] []
def ex4:FS:=Bt [nn] [nb] []
def cf1:Cf:=⟨11,nQ,na,nb,⟨nP,na⟩,og0⟩
def cf3:Cf:=⟨7,nB,nb,[],⟨nP,na⟩,og0⟩
def cf4:Cf:=⟨4,nA,nn,[],⟨nP,nn⟩,og0⟩
theorem LW:kw ex1=(cf1,true,0):=by decide +kernel
theorem LX:lL ex1 cf1=0:=by decide +kernel
theorem LY:kw ex3=(cf3,true,0):=by decide +kernel
theorem LZ:lL ex3 cf3=0:=by decide +kernel
theorem L6:kw ex4=(cf4,true,0):=by decide +kernel
theorem L8:lL ex4 cf4=0:=by decide +kernel
theorem Ht:eD ex2 nQ=((eD ex2 nQ).1,0)/\(eD ex2 nQ).1.mems.length=3/\((eD ex2 nQ).1.mems.map λm=>m.name)=[na,nb,nn]:=by decide +kernel
theorem Dt:eD ex2 nB=((eD ex2 nB).1,0)/\((eD ex2 nB).1.mems.map λm=>(m.impl,m.seeds))=[(⟨nB,nb⟩,[⟨nP,na⟩]),(⟨nP,nn⟩,[⟨nP,nn⟩])]:=by decide +kernel
theorem L9:fO ex2 nQ ⟨nP,na⟩=([na,nb],0):=by decide +kernel
theorem Hu:oriP ex2 nQ nn=([⟨nA,nn⟩,⟨nB,nn⟩],0):=by decide +kernel
theorem Hw:iH ex2 nQ nP na=(nb,0):=by decide +kernel
end Go.Fl
namespace Go.Fl
open Go Go.RowKit Go.Ck Go.Proofs Go.Proofs.Tryz Go.Proofs.YtknmacdbffgjgaaGreatDoor Fx Go.Hr
section
variable {P:Program} {w:World} {xs ys:Array Value} {d:Nat}
theorem ll {f : Field} {fs : List Field} {a b : Value} {r r2 : Bool} (h1 : f.name ≠ "_") (ha : (part f.type xs f.offset).run P w = .ok a w) (hb : (part f.type ys f.offset).run P w = .ok b w)
  (he:(Op.equalIn d f.type a b).run P w = .ok r w) (ht:(Op.eqFields d xs ys fs).run P w = .ok r2 w):(Op.eqFields d xs ys (f::fs)).run P w = .ok (r && r2) w:=by
 unfold Op.eqFields
 rw [if_pos h1]
 simp only [Sem.run_bind,ha,hb,he,Result.andThen_ok]
 cases r
 ·rw [if_pos (by rfl)]; rfl
 ·rw [if_neg (by simp),ht]; rfl
theorem fB {T:TypeId} {i:Nat} {v:Value} (hi:(isAgg T).run P w = .ok false w) (hx:xs[i]? = some v):(part T xs i).run P w = .ok v w:=by
 unfold part
 simp only [Sem.run_bind,hi,Result.andThen_ok,Bool.false_eq_true,if_false,hx,Sem.run_pure]
theorem kT {T:TypeId} {i n:Nat} (hi:(isAgg T).run P w = .ok true w) (hs:(sizeOf T).run P w = .ok n w):(part T xs i).run P w = .ok (.agg (xs.extract i (i+n))) w:=by
 unfold part
 simp only [Sem.run_bind,hi,hs,Result.andThen_ok,if_true,Sem.run_pure]
end
theorem Du (w:World) (d:Nat) (a b c e:Nm):(Op.equalIn (d+2) 24 (.agg #[sv a,sv b]) (.agg #[sv c,sv e])).run prog w = .ok ([a,b] == [c,e]) w:=by
 have hf:prog.underlying 24=some (.struct<|prog.fieldsOf 24):=by simp [Program.fieldsOf,underlying24]
 rw [run_equalIn_struct w (d+1) 24 _ _ hf Zz]
 exact tQ (xs:=[a,b]) (ys:=[c,e]) (prog.fieldsOf 24).toList 0 Zz Zz Zz
theorem cf_beq {x y:Cf}:decide (x=y)=(x.kind == y.kind && (x.cls == y.cls && (x.name == y.name && (x.other == y.other && ([x.a.par,x.a.name] == [y.a.par,y.a.name] && ([x.b.par,x.b.name] == [y.b.par,y.b.name] && true)))))):=by
 obtain ⟨k,c,n,o,⟨a1,a2⟩,⟨b1,b2⟩⟩:=x
 obtain ⟨k',c',n',o',⟨a1',a2'⟩,⟨b1',b2'⟩⟩:=y
 rw [Bool.eq_iff_iff]
 simp
theorem Dv {P:Program} {T:TypeId} {k:IntKind} {w:World} (hu:P.underlying T=some (.int k)):(isAgg T).run P w = .ok false w:=by
 unfold isAgg
 simp only [Sem.run_bind,run_underlying hu,Result.andThen_ok]
 rfl
theorem lm {P:Program} {T:TypeId} {w:World} (hu:P.underlying T=some .string):(isAgg T).run P w = .ok false w:=by
 unfold isAgg
 simp only [Sem.run_bind,run_underlying hu,Result.andThen_ok]
 rfl
theorem eqC (w:World) (x y:Cf):(Op.equalIn 10000 26 (cfV x) (cfV y)).run prog w = .ok (decide (x=y)) w:=by
 have hf:prog.underlying 26=some (.struct<|prog.fieldsOf 26):=by simp [Program.fieldsOf,underlying26]
 have hs:(sizeOf 24).run prog w = .ok 2 w:=Zz
 have ha:(isAgg 24).run prog w = .ok true w:=Zz
 unfold cfV
 rw [run_equalIn_struct w 9999 26 _ _ hf Zz,cf_beq]
 rw [show prog.fieldsOf 26=_ from by rw [Program.fieldsOf,underlying26]]
 refine ll (by decide) (fB (Dv underlying3) Z) (fB (Dv underlying3) Z) (run_equalIn_int w 9998 3 .i64 .i64 _ _ underlying3) ?_
 have hstr:∀ a b:Nm,(Op.equalIn 9999 9 (sv a)<|sv b).run prog w = .ok (a == b) w:=λa b=>by
  rw [show (Op.equalIn 9999 9 (sv a)<|sv b).run prog w=_ from run_equalIn_string w 9998 9 _ _ underlying9,iZ,iZ]
 refine ll (by decide) (fB (lm underlying9) Z) (fB (lm underlying9) Z) (hstr _ _) ?_
 refine ll (by decide) (fB (lm underlying9) Z) (fB (lm underlying9) Z) (hstr _ _) ?_
 refine ll (by decide) (fB (lm underlying9) Z) (fB (lm underlying9) Z) (hstr _ _) ?_
 refine ll (by decide) (kT ha hs) (kT ha hs) (Du w 9997 _ _ _ _) ?_
 refine ll (by decide) (kT ha hs) (kT ha hs) (Du w 9997 _ _ _ _) ?_
 simp [Op.eqFields]
theorem gd26:prog.eqGuardType prog.depth 26=false:=Zz
section
variable {e:Env} {h:SH} {ty:TypeId}
theorem v_eqC {t':TypeId} {x y:Operand} {a b:Cf} (hx:e.ev? x=some (cfV a)) (hy:e.ev? y=some (cfV b)):Vop prog e h (.binOp .eql 26 x y t') ty (.bool (decide (a=b))):=
 ⟨by simp,by simp,λρ w dd pos after g hρ _=>by
  have hq:=eqC w a b
  unfold cfV at *
  simp only [execOp,hρ x _ hx,hρ y _ hy,Sem.run_bind,run_eqGuard_agg w .eql 26 x y _ _ gd26,Result.andThen_ok,run_eql_struct,hq,Sem.run_pure]⟩
end
theorem seek_in {l:FS} {x:Cf} {n:Nm} {t:List Nm} {fs:List (Nm×Fl)} (h:n=x.cls):sS l x (n::t) fs=if (rf l fs n true).conflicts.contains x then 0 else 11:=by
 rw [sS,if_pos h]
theorem Oz {l:FS} {x:Cf} {n:Nm} {t:List Nm} {fs:List (Nm×Fl)} (h:n≠x.cls):sS l x (n::t) fs=if (rf l fs n false).conflicts≠[] then 11 else if over (lJ l fs n) then 11 else sS l x t (fs++[(n,flatOf l (ae l n) (lJ l fs n))]):=by
 rw [sS,if_neg h]
attribute [local irreducible] Go.Ck.Sub St Cd Xt Nx DrL LsW
section
variable {X:Res} {v:Value} {l:FS}
theorem BL (hX:Spc X) (hl:Ls X v l) (hS:jg l) (x:Cf):dE prog 14 #[v,cfV x] X [] λu Y k'=>k'=[]/\u = .int .i64 (lL l x):=by
 have hml:maxLen=9223372036854775807:=rfl
 have hrb:reachBytes=140737488351232:=rfl
 obtain ⟨vAq,vK,rfl,_⟩:=id hl.form
 have hck:=xP hX hl
 have hab0:=FK (tT hl) x.cls
 unfold dE cfV cfC
 refine EC (n:=74) func14 Z Z (len Z) λhr w0 hw0=>?_
 refine cQ (aP Z Z λb3=>?_)
 refine au al29 λb4=>?_
 refine sK [0,3,4] Z<|cS<|cQ<|sM Z<|bM hw0 Z Z en16 Z (hck) ?_
 rintro u h' ⟨rfl,rfl⟩
 simp only [lC,lN]
 refine sM Z<|sV (ag Z Z)<|sV (ag Z Z)<|sA Z<|sA Z<|sK [0,3,4,5] Z<|cQ<|sM Z<|sV (bP Z Z)<|sK [0,3,4,5,21] Z<|cC Z (λhz=>?_)<|λhz=>?_
 ·have hz:(bX l).1≠0:=Zn
  have hp:lL l x=(bX l).1:=by unfold lL; rw [if_pos hz]
  rw [hp]
  refine cQ<|sM Z<|bf Z Z DV ?_
  refine sK [4] Z<|cT<|xR<|oq (bs:=[]) (k:=pt b4 (cl [.int .i64 (bX l).1] 29)::([X]++hr)) Z (.cell1 Z BC ⟨_,_,.here,bV Z⟩ .nil) ⟨X,[],Z,Ext.refl X,Z,Z⟩ (Sub.cons<|Sub.refl _) ?_
  show Ck.Sub (pt b4 (cl [.int .i64 (bX l).1] 29)::X::hr) _
  exact sbq
 ·have hz:(bX l).1=0:=Zn
  have hR:=je.1 hz
  have hp:lL l x=if (bJ l x.cls).isNone then 11 else sS l x (above (bn l) x.cls) []:=by unfold lL; rw [if_neg (λh=>h hz)]
  rw [hp]
  refine cK<|xT<|cQ<|sM Z<|sV (vF Z M7 Z)<|sV (vY Z ld9) ?_
  refine aH Z Z en41 Z (hab0) ?_
  rintro u h' ⟨T,rfl,w,rfl,hw,rfl⟩
  simp only [lC,lN]
  unfold NR
  refine sM Z<|sV (ag Z Z)<|sV (ag Z Z)<|sA Z<|sA Z<|sK [0,3,4,7,8] Z<|cS<|cQ<|sM Z<|sV (bP Z Z)<|sK [0,3,4,7,31] Z<|cC Z (λhr0=>?_)<|λhr0=>?_
  ·have hr0:dJ (bn l) [x.cls]≠0:=by simpa using hr0
   have hno : (bJ l x.cls).isNone = true := by
    cases hq:bJ l x.cls with
    | none=>rfl
    | some c=>exact absurd (d9.2 ⟨hR.sys,λk hk=>by
      rw [List.mem_singleton] at hk
      subst hk
      rw [dD,hq]; rfl⟩) hr0
   rw [if_pos hno]
   refine cQ<|bf Z Z DV ?_
   refine sK [4] Z<|cT<|xR<|oq (bs:=[]) (k:=pt b4 (cl [.int .i64 11] 29)::([X]++hr)) Z (.cell1 Z BC ⟨_,_,.here,bV Z⟩ .nil) ⟨X,[],Z,Ext.refl X,Z,Z⟩ (Sub.cons<|Sub.refl _) ?_
   show Ck.Sub (pt b4 (cl [.int .i64 11] 29)::X::hr) _
   exact sbq
  ·have hr0:dJ (bn l) [x.cls]=0:=by simpa using hr0
   have hx0:(bJ l x.cls).isSome=true:=by rw [<- dD]; exact (d9.1 hr0).2 _ (by simp)
   rw [if_neg (by cases hq:bJ l x.cls with | none=>rw [hq] at hx0; cases hx0 | some c=>simp)]
   rw [hr0,show okL 0 (above (bn l) x.cls)=above (bn l) x.cls from rfl]
   have hxn:(above (bn l) x.cls).Nodup:=(iM hR.sys.acyc x.cls).1.nodup
   have hof:∀ n∈above (bn l) x.cls,(bJ l n).isSome=true:=λn hn=>by
    rw [<- dD]; exact uL (by rw [dD]; exact hx0) (((iM hR.sys.acyc x.cls).2 n).1 hn)
   have hol:=oh hR hx0
   generalize above (bn l) x.cls=xs at hxn hof hol ⊢
   refine fZ (v:=w) (E:=9) (sz:=1) (rows:=xs.map nC) slq λwa wc hwf hwl hwm=>?_
   rw [List.length_map] at hwf hwl
   subst hwf
   refine cK<|xT<|cQ<|sM Z (eH (ltn Z) λmb=>?_)
   refine sV (aO (cells:=[.slice vAq l.length vK,.map (some mb)]) Z<|λ_=>Zz) ?_
   refine au al114 λb9=>?_
   refine ai Z Z sz114 Z Z ?_
   refine sK [3,4,7,9] Z<|cS<|cQ<|sM Z<|sV (aF Z underlying40)<|sM Z<|sK [3,4,9,35,36,37] Z<|cB<|nI<|nH (σ := Res×List (Nm×Value)×Nat×List (Nm×Fl)×List Nat) (λq=>q.2.2.2.2.map mk) (λq=>[(3,.pointer (some ⟨b3,0,none⟩)),(4,.pointer (some ⟨b4,0,none⟩)),(9,.pointer (some ⟨b9,0,none⟩)),(35,.slice wa xs.length wc),(36,.int .i64 xs.length),(37,.int .i64 (q.2.2.1:Nat))]) (λq=>Res.star (marks q.2.2.2.2)::pt b9 (cl [.slice vAq l.length vK,.map (some mb)] 114)::pt b3 (cl [.int .i64 x.kind,sv x.cls,sv x.name,sv x.other,sv x.a.par,sv x.a.name,sv x.b.par,sv x.b.name] 26)::pt b4 (cl [.int .i64 0] 29)::VR (.slice wa xs.length wc) 9 1 (xs.map nC)::q.1::mps mb q.2.1::hr) (λq=>Ext X q.1/\q.2.2.1≤xs.length/\FlR q.1 q.2.1 (look q.2.2.2.1)/\Fits l (look q.2.2.2.1)/\q.2.2.2.1.map (λp=>p.1)=xs.take q.2.2.1/\sS l x xs []=sS l x (xs.drop q.2.2.1) q.2.2.2.1) (λq=>xs.length - q.2.2.1) (X,[],0,[],[]) ⟨Ext.refl X,Nat.zero_le _,flr0,fits0 hR hS,Z,Z⟩ Z ⟨Z,Z,Z,Z,Z,Z,trivial⟩ sbq ?_
   rintro ⟨Y,m,i,fs,bs⟩ ⟨hE,hi,hm,hF,hfs,hbl⟩
   simp only at hE hi hm hF hfs hbl
   dsimp only
   refine cQ<|sV (aN Z Z)<|sN<|nT<|cS<|cC Z (λhd=>?_)<|λhd=>?_
   ·have hlt:i<xs.length:=Zx
    have hnx:(xs.map nC)[i]? = some [sv xs[i]]:=by rw [List.getElem?_map,Zy hlt]; rfl
    have hnm:=hof _<|List.getElem_mem hlt
    have htk:=bY hlt
    have hdr:=List.drop_eq_getElem_cons hlt
    rw [hdr] at hbl
    have hnew:xs[i] ∉ fs.map λp=>p.1:=by
     rw [hfs]
     intro hmem
     obtain ⟨j,hj,he⟩:=List.mem_take_iff_getElem.1 hmem
     have:=(List.getElem_inj hxn).1 he
     omega
    refine fJ (r:=VR (.slice wa xs.length wc) 9 1<|xs.map nC) slq λhok=>?_
    obtain ⟨ab,ao,rfl⟩:∃ ab ao,wa=some ⟨ab,ao,none⟩:=by
     obtain ⟨f0,hf0⟩:=hok
     rcases VR.form hf0 with ⟨h3,h4⟩ | ⟨b,o,cp,h3,-⟩
     ·have:=List.map_eq_nil_iff.1 h4
      rw [this] at hlt; simp at hlt
     ·rw [List.length_map] at h3; cases h3; exact ⟨b,o,rfl⟩
    generalize xs[i]=n at hnx hnm htk hnew hbl
    obtain ⟨hcn,hcl⟩:(ae l n).name=n/\ae l n∈l:=by
     obtain ⟨c0,hc0⟩:=Option.isSome_iff_exists.1 hnm
     rw [iq hc0]
     exact ⟨o9 hc0,List.mem_of_find?_eq_some hc0⟩
    have hCR:=gm<|hR.form _ hcl
    have hfew:=hF.few<|.inl hcl
    obtain ⟨hsS,hsP,hsQ⟩:=hF.sums hcl
    obtain ⟨hmf,hmS⟩:=GU hF.right hF.flb hcl
    have hmok:=zD hF.flb.ok hCR hcl
    have hfl:=hCR.feats
    have hcc:=lS (n:=n) (fv:=.map<|some mb) (hl.up hE) rfl
    refine cK<|xT<|cS<|cB<|cQ<|sV (vI (k:=i) Z Z jm Z hlt Z)<|sV (vY Z ld9 (ha:=⟨_,_,slq,eQ hnx 0<|by simp⟩)) ?_
    refine sA Z<|sK [3,4,9,11,35,36,37] Z<|cQ<|sV (af Z gU Z ah) ?_
    refine sM Z<|aH Z Z en56 Z (hcc) ?_
    rintro u h' ⟨rfl,cus,rfl,hcr⟩
    simp only [lC,lN]
    have hcr0:=hcr
    obtain ⟨ca,cb,ce,cf,ci,rfl,-⟩:=gp hcr
    have hco:=Enc.ones hcr0
    refine au nS λb12=>?_
    refine ai Z Z lY Z hco ?_
    refine sK [3,4,9,11,12,35,36,37] Z<|cQ<|sV (af Z gU Z ah) ?_
    refine sV (af Z gG Z ah) ?_
    have hmem:=Bn (mb:=mb) (hl.up hE) hcr0 hm (hF.hf<|.inl hcl) (by omega) hCR.names (by omega) (by omega) (by omega)<|by omega
    unfold CtX at hmem
    refine aH Z Z en57 Z (hmem) ?_
    rintro u h' ⟨Y2,k2,rfl,hE2,rfl,hms⟩
    simp only [lC,lN]
    have hE2':=hE.trans hE2
    have hB:∀ al,SkB ⟨look fs,l,ae l n,members (comes (look fs) l<|ae l n) (ae l n),al⟩:=λal=>⟨hF,hcl,hmS,hmf⟩
    refine sA Z<|sK [3,4,9,11,12,13,35,36,37] Z<|cS<|cQ<|sM Z<|sV (vF Z M7 Z)<|sV (vY Z ld9) ?_
    refine sV (iE Z Z)<|sK [3,4,9,11,12,13,35,36,37,50] Z<|cC Z (λhnq=>?_)<|λhnq=>?_
    ·have hnq:n=x.cls:=by simpa using hnq
     rw [seek_in hnq] at hbl
     have hc58:=xM (mb:=mb) (all:=true) (hl.up hE2') (Enc.up hE2.rd hcr0) (hm.up hE2) hms hF hcl
     unfold CtX at hc58
     refine cS<|cQ<|sV (af Z gU Z ah) ?_
     refine sV (af Z gG Z ah) ?_
     refine sM Z<|aH Z Z en58 Z (hc58) ?_
     rintro u2 h' ⟨Y3,k3,rfl,hE3,b90,bm,bmp,da,dbb,de,df,di,rfl,rfl,hK,hk0⟩
     simp only [lC,lN]
     have hE3':=hE2'.trans hE3
     refine sK [3,4,9,11,12,13,35,36,37,54] Z<|cB ?_
     have h127:=λ(yl:Nat) (Φ : List Cf->Res->Prop) (Stop:Cf->Res->Prop) (hy:Yh yl Φ Stop) (r0:Res) (h0 : Φ (rf l fs n true).conflicts r0)=>uu (mb:=mb) (bm:=bm) (b9:=b90) hy (S:=rf l fs n true) (all:=true) rfl hK (hB true) hk0 n rfl r0 h0
     generalize (rf l fs n true).conflicts=C at hbl h127
     refine xL hw0 Z en127w λyl db rec hst hpe hps hasg hbo hkn2=>?_
     refine ⟨λuz h''=>∃ h0,(uz = .tuple #[]/\∃ Y4,Ext Y3 Y4/\((C.contains x=false/\h0=[pt yl (.loop rec),pt db (.deferred<|some []),pt b3 (cl [.int .i64 x.kind,sv x.cls,sv x.name,sv x.other,sv x.a.par,sv x.a.name,sv x.b.par,sv x.b.name] 26),pt b4 (cl [.int .i64 0] 29),pt b9 (cl [.slice vAq l.length vK,.map (some mb)] 114),pt b12 (cl [sv (ae l n).name,.bool (ae l n).dfd,ca,cb,ce,cf,ci] 44),VR (.slice (some ⟨ab,ao,none⟩) xs.length wc) 9 1 (xs.map nC),Res.star (marks bs)]++[Y4,pt b90 (cl (eX (.slice vAq l.length vK) (.map<|some mb) (ae l n) da dbb de df di u (.map<|some bm) true) 206),mps mb m,mps bm bmp])∨(C.contains x=true/\∃ rec2:Loop,rec2.state≠.busy/\rec2.pending=some .ret/\h0=[pt yl (.loop rec2),pt db (.deferred<|some []),pt b3 (cl [.int .i64 x.kind,sv x.cls,sv x.name,sv x.other,sv x.a.par,sv x.a.name,sv x.b.par,sv x.b.name] 26),pt b4 (cl [.int .i64 0] 29),pt b9 (cl [.slice vAq l.length vK,.map (some mb)] 114),pt b12 (cl [sv (ae l n).name,.bool (ae l n).dfd,ca,cb,ce,cf,ci] 44),VR (.slice (some ⟨ab,ao,none⟩) xs.length wc) 9 1 (xs.map nC),Res.star (marks bs)]++[Y4,pt b90 (cl (eX (.slice vAq l.length vK) (.map<|some mb) (ae l n) da dbb de df di u (.map<|some bm) true) 206),mps mb m,mps bm bmp])))/\h''=h0++hr,Ctw.perm (Ctw.frame (g:=hr)<|Ctw.star (L:=[pt yl (.loop rec),pt db (.deferred<|some []),pt b3 (cl [.int .i64 x.kind,sv x.cls,sv x.name,sv x.other,sv x.a.par,sv x.a.name,sv x.b.par,sv x.b.name] 26),pt b4 (cl [.int .i64 0] 29),pt b9 (cl [.slice vAq l.length vK,.map (some mb)] 114),pt b12 (cl [sv (ae l n).name,.bool (ae l n).dfd,ca,cb,ce,cf,ci] 44),VR (.slice (some ⟨ab,ao,none⟩) xs.length wc) 9 1 (xs.map nC),Res.star (marks bs)]) (A:=[Y3,pt b90 (cl (eX (.slice vAq l.length vK) (.map<|some mb) (ae l n) da dbb de df di u (.map<|some bm) true) 206),mps mb m,mps bm bmp])<|Ctw.vw (Ctw.perm (h127 yl (λL r=>(∃ pre,C=pre++L/\x ∉ pre)/\r=Res.star ([pt yl (.loop rec),pt db (.deferred<|some []),pt b3 (cl [.int .i64 x.kind,sv x.cls,sv x.name,sv x.other,sv x.a.par,sv x.a.name,sv x.b.par,sv x.b.name] 26),pt b4 (cl [.int .i64 0] 29),pt b9 (cl [.slice vAq l.length vK,.map (some mb)] 114),pt b12 (cl [sv (ae l n).name,.bool (ae l n).dfd,ca,cb,ce,cf,ci] 44),VR (.slice (some ⟨ab,ao,none⟩) xs.length wc) 9 1 (xs.map nC),Res.star (marks bs)])) (λy r=>y=x/\C.contains x=true/\∃ rec2:Loop,rec2.state≠.busy/\rec2.pending=some .ret/\r=Res.star ([pt yl (.loop rec2),pt db (.deferred<|some []),pt b3 (cl [.int .i64 x.kind,sv x.cls,sv x.name,sv x.other,sv x.a.par,sv x.a.name,sv x.b.par,sv x.b.name] 26),pt b4 (cl [.int .i64 0] 29),pt b9 (cl [.slice vAq l.length vK,.map (some mb)] 114),pt b12 (cl [sv (ae l n).name,.bool (ae l n).dfd,ca,cb,ce,cf,ci] 44),VR (.slice (some ⟨ab,ao,none⟩) xs.length wc) 9 1 (xs.map nC),Res.star (marks bs)])) ?_ _ ⟨⟨[],Z,by simp⟩,Z⟩) (by (try simp only [lC,lN]); exact (by repeat (first | exact Pm.refl | refine Pm.cons slq ?_):Pm _ _).perm)) ?_) (by (try simp only [lC,lN]); exact (by repeat (first | exact Pm.refl | refine Pm.cons slq ?_):Pm _ _).perm),?_⟩
     ·rintro y rest r ⟨⟨pre, hpre, hnpre⟩, rfl⟩
      refine Yc.star (R:=λu L'=>(u = .bool true/\y≠x/\L'=[pt yl (.loop rec),pt db (.deferred<|some []),pt b3 (cl [.int .i64 x.kind,sv x.cls,sv x.name,sv x.other,sv x.a.par,sv x.a.name,sv x.b.par,sv x.b.name] 26),pt b4 (cl [.int .i64 0] 29),pt b9 (cl [.slice vAq l.length vK,.map (some mb)] 114),pt b12 (cl [sv (ae l n).name,.bool (ae l n).dfd,ca,cb,ce,cf,ci] 44),VR (.slice (some ⟨ab,ao,none⟩) xs.length wc) 9 1 (xs.map nC),Res.star (marks bs)])∨(u = .bool false/\y=x/\∃ rec2:Loop,rec2.state≠.busy/\rec2.pending=some .ret/\L'=[pt yl (.loop rec2),pt db (.deferred<|some []),pt b3 (cl [.int .i64 x.kind,sv x.cls,sv x.name,sv x.other,sv x.a.par,sv x.a.name,sv x.b.par,sv x.b.name] 26),pt b4 (cl [.int .i64 0] 29),pt b9 (cl [.slice vAq l.length vK,.map (some mb)] 114),pt b12 (cl [sv (ae l n).name,.bool (ae l n).dfd,ca,cb,ce,cf,ci] 44),VR (.slice (some ⟨ab,ao,none⟩) xs.length wc) 9 1 (xs.map nC),Res.star (marks bs)])) (qF (n:=74) (rec:=rec) (args:=[cfV y]) (hf:=[pt db (.deferred<|some []),pt b3 (cl [.int .i64 x.kind,sv x.cls,sv x.name,sv x.other,sv x.a.par,sv x.a.name,sv x.b.par,sv x.b.name] 26),pt b4 (cl [.int .i64 0] 29),pt b9 (cl [.slice vAq l.length vK,.map (some mb)] 114),pt b12 (cl [sv (ae l n).name,.bool (ae l n).dfd,ca,cb,ce,cf,ci] 44),VR (.slice (some ⟨ab,ao,none⟩) xs.length wc) 9 1 (xs.map nC),Res.star (marks bs)]) (by rw [hps]; rfl) hkn2 (by rw [hps]; decide) ?_)<|λu L' h=>?_
      ·intro hr2 w1
       rw [hasg,hps,hbo]
       simp only [lC,lN]
       unfold cfV cfC
       refine cR (au D9 λb14=>?_)
       refine ai Z Z wZ Z Z ?_
       refine sN<|nK [3,4,14] Z<|ax<|lu Z slq (by first | rfl | assumption) ?_
       refine cB<|cQ<|sV (af Z tF Z ah) ?_
       refine sV (af Z tF Z ah) ?_
       refine sV (v_eqC (a:=y) (b:=x) Z Z)<|sK [4,58] Z<|cC Z (λhyx=>?_)<|λhyx=>?_
       ·have hyx:y=x:=of_decide_eq_true hyx
        refine cQ<|bf Z Z DV ?_
        refine sK [4] Z<|cT<|xW<|kL slq (.inr ⟨Z,hyx,?rr,?_,?_,Z⟩) ?_
        rotate_left 3
        ·exact sbq
        ·simp
        ·rfl
       ·have hyx:y≠x:=of_decide_eq_false hyx
        refine cK<|xB<|dB slq (.inl ⟨Z,hyx,Z⟩) ?_
        rw [dC hst hpe]
        exact sbq
      ·rcases h with ⟨h1, h2, h3⟩ | ⟨h1, h2, rec2, h3, h4, h5⟩
       ·exact .inl ⟨h1,_,⟨⟨pre++[y],by rw [hpre,List.append_assoc]; rfl,λhm=>by
         rcases List.mem_append.1 hm with hm | hm
         ·exact hnpre hm
         ·exact h2 (List.mem_singleton.1 hm).symm⟩,Z⟩,by rw [h3]⟩
       ·exact .inr ⟨h1,_,⟨h2,by rw [hpre,List.contains_iff_mem]; subst h2; simp,rec2,h3,h4,rfl⟩,by rw [h5]⟩
     ·rintro u9 h' ⟨Y4,k',rfl,hE4,rfl,r,rfl,hor⟩
      rcases hor with ⟨⟨pre,hpre,hnpre⟩,hr9⟩ | ⟨y,hyx,hcx,rec2,hb2,hp2,hr9⟩
      ·subst hr9
       exact ⟨[pt yl (.loop rec),pt db (.deferred<|some []),pt b3 (cl [.int .i64 x.kind,sv x.cls,sv x.name,sv x.other,sv x.a.par,sv x.a.name,sv x.b.par,sv x.b.name] 26),pt b4 (cl [.int .i64 0] 29),pt b9 (cl [.slice vAq l.length vK,.map (some mb)] 114),pt b12 (cl [sv (ae l n).name,.bool (ae l n).dfd,ca,cb,ce,cf,ci] 44),VR (.slice (some ⟨ab,ao,none⟩) xs.length wc) 9 1 (xs.map nC),Res.star (marks bs)]++[Y4,pt b90 (cl (eX (.slice vAq l.length vK) (.map<|some mb) (ae l n) da dbb de df di u (.map<|some bm) true) 206),mps mb m,mps bm bmp],λt=>xN (L:=[pt yl (.loop rec),pt db (.deferred<|some []),pt b3 (cl [.int .i64 x.kind,sv x.cls,sv x.name,sv x.other,sv x.a.par,sv x.a.name,sv x.b.par,sv x.b.name] 26),pt b4 (cl [.int .i64 0] 29),pt b9 (cl [.slice vAq l.length vK,.map (some mb)] 114),pt b12 (cl [sv (ae l n).name,.bool (ae l n).dfd,ca,cb,ce,cf,ci] 44),VR (.slice (some ⟨ab,ao,none⟩) xs.length wc) 9 1 (xs.map nC),Res.star (marks bs)]) (A:=[Y4,pt b90 (cl (eX (.slice vAq l.length vK) (.map<|some mb) (ae l n) da dbb de df di u (.map<|some bm) true) 206),mps mb m,mps bm bmp]),Z,Y4,hE4,.inl ⟨by rw [hpre,List.append_nil]; simpa using hnpre,Z⟩⟩
      ·subst hr9
       exact ⟨[pt yl (.loop rec2),pt db (.deferred<|some []),pt b3 (cl [.int .i64 x.kind,sv x.cls,sv x.name,sv x.other,sv x.a.par,sv x.a.name,sv x.b.par,sv x.b.name] 26),pt b4 (cl [.int .i64 0] 29),pt b9 (cl [.slice vAq l.length vK,.map (some mb)] 114),pt b12 (cl [sv (ae l n).name,.bool (ae l n).dfd,ca,cb,ce,cf,ci] 44),VR (.slice (some ⟨ab,ao,none⟩) xs.length wc) 9 1 (xs.map nC),Res.star (marks bs)]++[Y4,pt b90 (cl (eX (.slice vAq l.length vK) (.map<|some mb) (ae l n) da dbb de df di u (.map<|some bm) true) 206),mps mb m,mps bm bmp],λt=>xN (L:=[pt yl (.loop rec2),pt db (.deferred<|some []),pt b3 (cl [.int .i64 x.kind,sv x.cls,sv x.name,sv x.other,sv x.a.par,sv x.a.name,sv x.b.par,sv x.b.name] 26),pt b4 (cl [.int .i64 0] 29),pt b9 (cl [.slice vAq l.length vK,.map (some mb)] 114),pt b12 (cl [sv (ae l n).name,.bool (ae l n).dfd,ca,cb,ce,cf,ci] 44),VR (.slice (some ⟨ab,ao,none⟩) xs.length wc) 9 1 (xs.map nC),Res.star (marks bs)]) (A:=[Y4,pt b90 (cl (eX (.slice vAq l.length vK) (.map<|some mb) (ae l n) da dbb de df di u (.map<|some bm) true) 206),mps mb m,mps bm bmp]),Z,Y4,hE4,.inr ⟨hcx,rec2,hb2,hp2,Z⟩⟩
     ·rintro u9 h'' ⟨h0,⟨rfl,Y4,hE4,(⟨hcx,rfl⟩ | ⟨hcx,rec2,hb2,hp2,rfl⟩)⟩,rfl⟩
      ·simp only [lC,lN]
       refine ⟨rec,_,slq,(by rw [hst]; simp),?_⟩
       rw [hpe]
       dsimp only
       rw [hcx,if_neg (by decide)] at hbl
       rw [hbl]
       refine xB<|xT<|cQ<|bf Z Z DV ?_
       refine sK [4] Z<|cT<|xR<|xW<|xR<|xR<|xW<|xR<|jl slq slq ?_
       refine kr (bs:=db::bs) (k:=pt b4 (cl [.int .i64 11] 29)::([Y4]++hr)) Z (.cell1 Z BC ⟨_,_,.here,bV Z⟩ .nil) ⟨Y4,[],Z,hE3'.trans hE4,Z,Z⟩ (Sub.cons<|Sub.refl _) ?_
       simp only [lC,lN]
       exact sbq
      ·simp only [lC,lN]
       refine ⟨rec2,_,slq,hb2,?_⟩
       rw [hp2]
       dsimp only
       rw [hcx,if_pos rfl] at hbl
       rw [hbl]
       refine cT<|xW<|xR<|xR<|xW<|xR<|xR<|xW<|xR<|jl slq slq ?_
       refine kr (bs:=db::bs) (k:=pt b4 (cl [.int .i64 0] 29)::([Y4]++hr)) Z (.cell1 Z BC ⟨_,_,.here,bV Z⟩ .nil) ⟨Y4,[],Z,hE3'.trans hE4,Z,Z⟩ (Sub.cons<|Sub.refl _) ?_
       simp only [lC,lN]
       exact sbq
    ·have hnq:n≠x.cls:=by simpa using hnq
     rw [Oz hnq] at hbl
     have hc58:=xM (mb:=mb) (all:=false) (hl.up hE2') (Enc.up hE2.rd hcr0) (hm.up hE2) hms hF hcl
     unfold CtX at hc58
     refine cK<|xT<|cS<|cQ<|sV (af Z gU Z ah) ?_
     refine sV (af Z gG Z ah) ?_
     refine sM Z<|aH Z Z en58 Z (hc58) ?_
     rintro u2 h' ⟨Y3,k3,rfl,hE3,b90,bm,bmp,da,dbb,de,df,di,rfl,rfl,hK,hk0⟩
     simp only [lC,lN]
     have hE3':=hE2'.trans hE3
     refine sK [3,4,9,11,12,13,35,36,37,62] Z<|cB ?_
     have h127:=λ(yl:Nat) (Φ : List Cf->Res->Prop) (Stop:Cf->Res->Prop) (hy:Yh yl Φ Stop) (r0:Res) (h0 : Φ (rf l fs n false).conflicts r0)=>uu (mb:=mb) (bm:=bm) (b9:=b90) hy (S:=rf l fs n false) (all:=false) rfl hK (hB false) hk0 n rfl r0 h0
     generalize (rf l fs n false).conflicts=C at hbl h127
     refine xL hw0 Z en127w λyl db rec hst hpe hps hasg hbo hkn2=>?_
     refine ⟨λuz h''=>∃ h0,(uz = .tuple #[]/\∃ Y4,Ext Y3 Y4/\((C=[]/\h0=[pt yl (.loop rec),pt db (.deferred<|some []),pt b3 (cl [.int .i64 x.kind,sv x.cls,sv x.name,sv x.other,sv x.a.par,sv x.a.name,sv x.b.par,sv x.b.name] 26),pt b4 (cl [.int .i64 0] 29),pt b9 (cl [.slice vAq l.length vK,.map (some mb)] 114),pt b12 (cl [sv (ae l n).name,.bool (ae l n).dfd,ca,cb,ce,cf,ci] 44),VR (.slice (some ⟨ab,ao,none⟩) xs.length wc) 9 1 (xs.map nC),Res.star (marks bs)]++[Y4,pt b90 (cl (eX (.slice vAq l.length vK) (.map<|some mb) (ae l n) da dbb de df di u (.map<|some bm) false) 206),mps mb m,mps bm bmp])∨(C≠[]/\∃ rec2:Loop,rec2.state≠.busy/\rec2.pending=some .ret/\h0=[pt yl (.loop rec2),pt db (.deferred<|some []),pt b3 (cl [.int .i64 x.kind,sv x.cls,sv x.name,sv x.other,sv x.a.par,sv x.a.name,sv x.b.par,sv x.b.name] 26),pt b4 (cl [.int .i64 11] 29),pt b9 (cl [.slice vAq l.length vK,.map (some mb)] 114),pt b12 (cl [sv (ae l n).name,.bool (ae l n).dfd,ca,cb,ce,cf,ci] 44),VR (.slice (some ⟨ab,ao,none⟩) xs.length wc) 9 1 (xs.map nC),Res.star (marks bs)]++[Y4,pt b90 (cl (eX (.slice vAq l.length vK) (.map<|some mb) (ae l n) da dbb de df di u (.map<|some bm) false) 206),mps mb m,mps bm bmp])))/\h''=h0++hr,Ctw.perm (Ctw.frame (g:=hr)<|Ctw.star (L:=[pt yl (.loop rec),pt db (.deferred<|some []),pt b3 (cl [.int .i64 x.kind,sv x.cls,sv x.name,sv x.other,sv x.a.par,sv x.a.name,sv x.b.par,sv x.b.name] 26),pt b4 (cl [.int .i64 0] 29),pt b9 (cl [.slice vAq l.length vK,.map (some mb)] 114),pt b12 (cl [sv (ae l n).name,.bool (ae l n).dfd,ca,cb,ce,cf,ci] 44),VR (.slice (some ⟨ab,ao,none⟩) xs.length wc) 9 1 (xs.map nC),Res.star (marks bs)]) (A:=[Y3,pt b90 (cl (eX (.slice vAq l.length vK) (.map<|some mb) (ae l n) da dbb de df di u (.map<|some bm) false) 206),mps mb m,mps bm bmp])<|Ctw.vw (Ctw.perm (h127 yl (λL r=>L=C/\r=Res.star ([pt yl (.loop rec),pt db (.deferred<|some []),pt b3 (cl [.int .i64 x.kind,sv x.cls,sv x.name,sv x.other,sv x.a.par,sv x.a.name,sv x.b.par,sv x.b.name] 26),pt b4 (cl [.int .i64 0] 29),pt b9 (cl [.slice vAq l.length vK,.map (some mb)] 114),pt b12 (cl [sv (ae l n).name,.bool (ae l n).dfd,ca,cb,ce,cf,ci] 44),VR (.slice (some ⟨ab,ao,none⟩) xs.length wc) 9 1 (xs.map nC),Res.star (marks bs)])) (λy r=>C≠[]/\∃ rec2:Loop,rec2.state≠.busy/\rec2.pending=some .ret/\r=Res.star ([pt yl (.loop rec2),pt db (.deferred<|some []),pt b3 (cl [.int .i64 x.kind,sv x.cls,sv x.name,sv x.other,sv x.a.par,sv x.a.name,sv x.b.par,sv x.b.name] 26),pt b4 (cl [.int .i64 11] 29),pt b9 (cl [.slice vAq l.length vK,.map (some mb)] 114),pt b12 (cl [sv (ae l n).name,.bool (ae l n).dfd,ca,cb,ce,cf,ci] 44),VR (.slice (some ⟨ab,ao,none⟩) xs.length wc) 9 1 (xs.map nC),Res.star (marks bs)])) ?_ _ ⟨Z,Z⟩) (by (try simp only [lC,lN]); exact (by repeat (first | exact Pm.refl | refine Pm.cons slq ?_):Pm _ _).perm)) ?_) (by (try simp only [lC,lN]); exact (by repeat (first | exact Pm.refl | refine Pm.cons slq ?_):Pm _ _).perm),?_⟩
     ·rintro y rest r ⟨hCx,rfl⟩
      refine Yc.star (R:=λu L'=>u = .bool false/\∃ rec2:Loop,rec2.state≠.busy/\rec2.pending=some .ret/\L'=[pt yl (.loop rec2),pt db (.deferred<|some []),pt b3 (cl [.int .i64 x.kind,sv x.cls,sv x.name,sv x.other,sv x.a.par,sv x.a.name,sv x.b.par,sv x.b.name] 26),pt b4 (cl [.int .i64 11] 29),pt b9 (cl [.slice vAq l.length vK,.map (some mb)] 114),pt b12 (cl [sv (ae l n).name,.bool (ae l n).dfd,ca,cb,ce,cf,ci] 44),VR (.slice (some ⟨ab,ao,none⟩) xs.length wc) 9 1 (xs.map nC),Res.star (marks bs)]) (qF (n:=74) (rec:=rec) (args:=[cfV y]) (hf:=[pt db (.deferred<|some []),pt b3 (cl [.int .i64 x.kind,sv x.cls,sv x.name,sv x.other,sv x.a.par,sv x.a.name,sv x.b.par,sv x.b.name] 26),pt b4 (cl [.int .i64 0] 29),pt b9 (cl [.slice vAq l.length vK,.map (some mb)] 114),pt b12 (cl [sv (ae l n).name,.bool (ae l n).dfd,ca,cb,ce,cf,ci] 44),VR (.slice (some ⟨ab,ao,none⟩) xs.length wc) 9 1 (xs.map nC),Res.star (marks bs)]) (by rw [hps]; rfl) hkn2 (by rw [hps]; decide) ?_)<|λu L' ⟨h1,rec2,h3,h4,h2⟩=>.inr ⟨h1,_,⟨by rw [<- hCx]; simp,rec2,h3,h4,Z⟩,by rw [h2]⟩
      intro hr2 w1
      rw [hasg,hps,hbo]
      simp only [lC,lN]
      refine cK<|lu Z slq (by first | rfl | assumption) ?_
      refine cB<|cQ<|bf Z Z DV ?_
      refine sK [4] Z<|cT<|xW<|kL slq ⟨Z,?rs,?_,?_,Z⟩ ?_
      rotate_left 3
      ·exact sbq
      ·simp
      ·rfl
     ·rintro u9 h' ⟨Y4,k',rfl,hE4,rfl,r,rfl,hor⟩
      rcases hor with ⟨hC0,hr9⟩ | ⟨y,hcx,rec2,hb2,hp2,hr9⟩
      ·subst hr9
       exact ⟨[pt yl (.loop rec),pt db (.deferred<|some []),pt b3 (cl [.int .i64 x.kind,sv x.cls,sv x.name,sv x.other,sv x.a.par,sv x.a.name,sv x.b.par,sv x.b.name] 26),pt b4 (cl [.int .i64 0] 29),pt b9 (cl [.slice vAq l.length vK,.map (some mb)] 114),pt b12 (cl [sv (ae l n).name,.bool (ae l n).dfd,ca,cb,ce,cf,ci] 44),VR (.slice (some ⟨ab,ao,none⟩) xs.length wc) 9 1 (xs.map nC),Res.star (marks bs)]++[Y4,pt b90 (cl (eX (.slice vAq l.length vK) (.map<|some mb) (ae l n) da dbb de df di u (.map<|some bm) false) 206),mps mb m,mps bm bmp],λt=>xN (L:=[pt yl (.loop rec),pt db (.deferred<|some []),pt b3 (cl [.int .i64 x.kind,sv x.cls,sv x.name,sv x.other,sv x.a.par,sv x.a.name,sv x.b.par,sv x.b.name] 26),pt b4 (cl [.int .i64 0] 29),pt b9 (cl [.slice vAq l.length vK,.map (some mb)] 114),pt b12 (cl [sv (ae l n).name,.bool (ae l n).dfd,ca,cb,ce,cf,ci] 44),VR (.slice (some ⟨ab,ao,none⟩) xs.length wc) 9 1 (xs.map nC),Res.star (marks bs)]) (A:=[Y4,pt b90 (cl (eX (.slice vAq l.length vK) (.map<|some mb) (ae l n) da dbb de df di u (.map<|some bm) false) 206),mps mb m,mps bm bmp]),Z,Y4,hE4,.inl ⟨hC0.symm,Z⟩⟩
      ·subst hr9
       exact ⟨[pt yl (.loop rec2),pt db (.deferred<|some []),pt b3 (cl [.int .i64 x.kind,sv x.cls,sv x.name,sv x.other,sv x.a.par,sv x.a.name,sv x.b.par,sv x.b.name] 26),pt b4 (cl [.int .i64 11] 29),pt b9 (cl [.slice vAq l.length vK,.map (some mb)] 114),pt b12 (cl [sv (ae l n).name,.bool (ae l n).dfd,ca,cb,ce,cf,ci] 44),VR (.slice (some ⟨ab,ao,none⟩) xs.length wc) 9 1 (xs.map nC),Res.star (marks bs)]++[Y4,pt b90 (cl (eX (.slice vAq l.length vK) (.map<|some mb) (ae l n) da dbb de df di u (.map<|some bm) false) 206),mps mb m,mps bm bmp],λt=>xN (L:=[pt yl (.loop rec2),pt db (.deferred<|some []),pt b3 (cl [.int .i64 x.kind,sv x.cls,sv x.name,sv x.other,sv x.a.par,sv x.a.name,sv x.b.par,sv x.b.name] 26),pt b4 (cl [.int .i64 11] 29),pt b9 (cl [.slice vAq l.length vK,.map (some mb)] 114),pt b12 (cl [sv (ae l n).name,.bool (ae l n).dfd,ca,cb,ce,cf,ci] 44),VR (.slice (some ⟨ab,ao,none⟩) xs.length wc) 9 1 (xs.map nC),Res.star (marks bs)]) (A:=[Y4,pt b90 (cl (eX (.slice vAq l.length vK) (.map<|some mb) (ae l n) da dbb de df di u (.map<|some bm) false) 206),mps mb m,mps bm bmp]),Z,Y4,hE4,.inr ⟨hcx,rec2,hb2,hp2,Z⟩⟩
     ·rintro u9 h'' ⟨h0, ⟨rfl, Y4, hE4, (⟨rfl, rfl⟩ | ⟨hcx, rec2, hb2, hp2, rfl⟩)⟩, rfl⟩
      ·simp only [lC,lN]
       refine ⟨rec,_,slq,(by rw [hst]; simp),?_⟩
       rw [hpe]
       dsimp only
       rw [if_neg (by simp)] at hbl
       refine xB<|xT<|cS<|cQ<|sM Z ?_
       have hE4':=hE3'.trans hE4
       have hE24:=hE2.trans<|hE3.trans hE4
       have hms4:=hms.up<|hE3.trans hE4
       have hov:=Kl hms4
       refine aY Z Z en59 Z (hov) ?_
       refine sK [3,4,9,11,12,13,35,36,37,65] Z<|cC Z (λhto=>?_)<|λhto=>?_
       ·rw [if_pos (show over (lJ l fs n)=true from hto)] at hbl
        rw [hbl]
        refine cQ<|bf Z Z DV ?_
        refine sK [4] Z<|cT<|xR<|xW<|xR<|xR<|xW<|xR<|jl slq slq ?_
        refine kr (bs:=db::bs) (k:=pt b4 (cl [.int .i64 11] 29)::([Y4]++hr)) Z (.cell1 Z BC ⟨_,_,.here,bV Z⟩ .nil) ⟨Y4,[],Z,hE4',Z,Z⟩ (Sub.cons<|Sub.refl _) ?_
        simp only [lC,lN]
        exact sbq
       ·have hto2:over (lJ l fs n)=false:=hto
        have hto':¬ over (lJ l fs n)=true:=by rw [hto2]; simp
        rw [if_neg hto'] at hbl
        have hsh:(lJ l fs n).length≤60:=by
         refine Nat.le_of_not_lt λh=>hto' ?_
         show over (lJ l fs n)=true
         unfold over
         rw [decide_eq_true h,Bool.true_or]
        have hrn:dJ (bn l) [(ae l n).name]=0:=d9.2 ⟨hR.sys,by
         intro k hk
         rw [List.mem_singleton] at hk
         subst hk
         rw [hcn]
         rw [dD]; exact hnm⟩
        have hab:=oh hR (by rw [hcn]; exact hnm:(bJ l (ae l n).name).isSome=true)
        have hfc:=Kw (fv:=.map<|some mb) (hl.up hE4') (Enc.up (hE24).rd hcr0) hms4 rfl hrn<|by omega
        refine cK<|xT<|jk (ork [(0,2),(1,1),(2,2),(3,1),(4,1),(5,2),(6,0),(7,0)] .nil) (λi => !(Nat.beq i 7)) [pt b9 (cl [.slice vAq l.length vK,.map (some mb)] 114),pt b12 (cl [sv (ae l n).name,.bool (ae l n).dfd,ca,cb,ce,cf,ci] 44)] mixed Zz ?_
        refine dV Z (vF Z iJ Z)<|bu Z (vY Z p9) ?_
        refine dV Z (vM Z)<|bu Z (af Z gU Z ah) ?_
        refine bu Z (af Z gG Z ah) ?_
        refine dV Z (vM Z)<|aV Z<|aH Z Z en60 Z (hfc) ?_
        rintro u9 h' ⟨Y5,k5,rfl,hE5,rfl,fus,rfl,hfr⟩
        simp only [lC,lN]
        refine aW ?_
        refine aV Z<|cz Z Z Z pY slq<|aW ?_
        refine bA<|nK [3,4,9,35,36,37] Z<|ax<|xB<|xT<|cR<|sV (aI Z Z Za)<|sM Z<|sN<|nK [3,4,9,35,36,37] Z<|ax<|jl slq slq ?_
        refine kY (Y5,eu m n (.agg fus.toArray),i+1,fs++[(n,flatOf l (ae l n) (lJ l fs n))],db::bs) ⟨hE4'.trans hE5,hlt,(hm.up<|hE24.trans hE5).put hnew hfr,⟨hF.right,hF.flb.put hnew hsh hmok,hF.lists⟩,by rw [List.map_append,hfs,htk]; rfl,hbl⟩ (by show xs.length - (i+1)<xs.length - i; omega) Z ⟨Z,Z,Z,Z,Z,Z,trivial⟩ ?_
        dsimp only
        exact sbq
      ·simp only [lC,lN]
       refine ⟨rec2,_,slq,hb2,?_⟩
       rw [hp2]
       dsimp only
       rw [if_pos hcx] at hbl
       rw [hbl]
       refine cT<|xW<|xR<|xW<|xR<|xR<|xW<|xR<|jl slq slq ?_
       refine kr (bs:=db::bs) (k:=pt b4 (cl [.int .i64 11] 29)::([Y4]++hr)) Z (.cell1 Z BC ⟨_,_,.here,bV Z⟩ .nil) ⟨Y4,[],Z,hE3'.trans hE4,Z,Z⟩ (Sub.cons<|Sub.refl _) ?_
       simp only [lC,lN]
       exact sbq
   ·have hie:i=xs.length:=Nat.le_antisymm hi<|Nat.not_lt.1 Zx
    subst hie
    rw [List.drop_length] at hbl
    rw [hbl]
    refine aB<|xE<|xE<|xY<|xT<|cQ<|bf Z Z DV ?_
    refine sK [4] Z<|cT<|kr (bs:=bs) (k:=pt b4 (cl [.int .i64 11] 29)::([Y]++hr)) Z (.cell1 Z BC ⟨_,_,.here,bV Z⟩ .nil) ⟨Y,[],Z,hE,Z,Z⟩ (Sub.cons<|Sub.refl _) ?_
    simp only [lC,lN]
    exact sbq
end
end Go.Fl
