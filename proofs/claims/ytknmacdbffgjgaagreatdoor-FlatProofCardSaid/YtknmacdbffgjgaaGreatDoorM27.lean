/-
  Conflicts compared: a struct of a number,texts and structs of texts. No condition.
-/
import Derived.Test.YtknmacdbffgjgaaGreatDoorM26
import Derived.Test.YtknmacdbffgjgaaGreatDoorM11
import Derived.Test.YtknmacdbffgjgaaGreatDoorM9
set_option linter.unusedVariables false
set_option linter.unusedSimpArgs false
set_option maxRecDepth 100000
set_option maxHeartbeats 16000000
namespace Go.Fl
open Go Go.RowKit Go.Ck Go.Proofs Go.Proofs.Tryz Go.Proofs.YtknmacdbffgjgaaGreatDoor Fx Go.Hr
theorem rep_fl0 {X:Res}:Enc.rep X [sv [],.bool false,.slice none 0 0,.slice none 0 0] fl0:=⟨.slice none 0 0,.slice none 0 0,rfl,Ls.nil,Ls.nil⟩
theorem rws_nm {Y:Res} (xs:List Nm):Rws Y (xs.map nC) xs:=⟨by simp,λj us x h1 h2=>by
 rw [List.getElem?_map,h2] at h1
 cases h1; rfl⟩
theorem nm_ls {Y:Res} {w:Value} {xs:List Nm} (hok:∃ f,(VR w 9 1 (xs.map nC)).ok f) (hr:∀ p u,Rd (VR w 9 1 (xs.map nC)) p u->Rd Y p u) (hb:xs.length≤1000000000):Ls Y w xs :=
 Rws.ls (E:=9) (rws_nm xs) hok hr (by show xs.length * 16≤140737488351232; omega)
theorem Good.few {l:FS} (h:Good l) (n:Nm):(Fl.look (Fl.build l).1 n).mems.length≤60:=h.flb.few n
theorem Jp (ms:List Mb) (s:Sd):(bn ms s).length≤ms.length:=by
 unfold bn; rw [List.length_map]; exact List.length_filter_le _ _
attribute [local irreducible] Go.Ck.Sub St Cd Xt Nx DrL LsW
section
variable {X:Res} {v:Value} {l:FS}
theorem OP (hX:Spc X) (hl:Ls X v l) (hS:iW l):eu prog 12 #[v] X [] λu Y k'=>k'=[]/\u = .tuple #[cfV (kG l).1,.bool (kG l).2.1,.int .i64 (kG l).2.2]:=by
 have hml:maxLen=9223372036854775807:=rfl
 obtain ⟨vAq,vK,rfl,_⟩:=id hl.form
 have hck:=sF hX hl
 unfold eu
 refine fw (n:=28) func12 Z Z (len Z) λhr w0 hw0=>?_
 refine cQ (ak DZ λb2=>?_)
 refine sA Z<|sA Z<|sN<|nT<|cS<|cQ<|sM Z<|bM hw0 Z Z en16 Z (hck) ?_
 rintro u h' ⟨rfl,rfl⟩
 simp only [lC,lN]
 refine sM Z<|sV (ah Z Z)<|sV (ah Z Z)<|sA Z<|sA Z<|sK [0,2,3,4,5] Z<|cQ<|sM Z<|sV (bK Z Z)<|sK [0,2,3,4,5,14] Z<|cC Z (λhz=>?_)<|λhz=>?_
 ·have hz:(bT l).1≠0:=Zn
  have hp:kG l=(cf0,false,(bT l).1):=(CE hz).1
  rw [hp]
  refine cQ<|sV (aO (cells:=[.int .i64 0,sv [],sv [],sv [],sv [],sv [],sv [],sv []]) Z<|λ_=>Zz) ?_
  refine sM Z<|ai Z Z wF Z Z ?_
  refine sA Z<|sA Z<|sK [2,3,4] Z<|cT<|xR ?_
  exact bE (.cellN Z tO Z slq<|.tmp Z<|.tmp Z .nil) ⟨X,[],Z,Ext.refl X,Z,Z⟩ sbr
 ·have hz:(bT l).1=0:=Zn
  have hR:=jo.1 hz
  have hbd:=Hm hl hR hS
  unfold eu at hbd
  have hp:=(z8 hz).1
  rw [hp]
  refine cK<|xT<|cQ<|sM Z<|bM hw0 Z Z en53 Z (hbd) ?_
  rintro u h' ⟨Y,k',rfl,hE,mb,m,ow,names,rfl,rfl,hm,hnm,how⟩
  simp only [lC,lN]
  unfold sI
  have h12:=iL (v:=.slice vAq l.length vK) (fv:=.map<|some mb) (ow:=ow) (x:=(build l).2.1) (e:=(build l).2.2) rfl rfl how
  generalize (build l).2.1=x at h12 ⊢
  generalize (build l).2.2=e at h12 ⊢
  refine ak oC λb7=>?_
  refine ai Z Z ji Z h12 ?_
  refine sK [2,3,4,7] Z<|cS<|cQ<|sV (vF Z vD Z)<|sV (vY Z A8) ?_
  refine sV (dE Z Z)<|sK [2,3,4,7,21] Z<|cC Z (λhe=>?_)<|λhe=>?_
  ·have he:e=3:=Zj
   rw [if_pos he]
   refine cQ<|sV (aO (cells:=[.int .i64 0,sv [],sv [],sv [],sv [],sv [],sv [],sv []]) Z<|λ_=>Zz) ?_
   refine ai Z Z wF Z Z ?_
   refine sA Z<|sA Z<|sK [2,3,4] Z<|cT<|xR ?_
   exact bE (.cellN Z tO Z slq<|.tmp Z<|.tmp Z .nil) ⟨Y,[],Z,hE,Z,Z⟩ sbr
  ·have he:e≠3:=Zj
   rw [if_neg he]
   refine cK<|xT<|cS<|jr (ork [(0,2),(1,1),(2,2),(3,1),(4,2),(5,0),(6,2),(7,2)] .nil) (λ_=>true) [pt b7 (cl [.slice vAq l.length vK,.map (some mb),ow,.int .i64 x.kind,sv x.cls,sv x.name,sv x.other,sv x.a.par,sv x.a.name,sv x.b.par,sv x.b.name,.int .i64 e] 116)] mixed Zz ?_
   refine dV Z (vF Z J3 Z)<|bi Z (af Z tO Z<|bD (k:=3) ag (vs:=[.int .i64 x.kind,sv x.cls,sv x.name,sv x.other,sv x.a.par,sv x.a.name,sv x.b.par,sv x.b.name]) Z) ?_
   refine dV Z (vF Z vD Z)<|bi Z (vY Z A8) ?_
   refine dV Z (dE Z Z)<|aV Z<|ai Z Z wF Z Z ?_
   refine aY ?_
   refine dV Z (vA Z)<|dV Z (vA Z)<|bA<|nK [2,3,4] Z<|nT<|cT ?_
   exact bE (.cellN Z tO Z slq<|.tmp Z<|.tmp Z .nil) ⟨Y,[],Z,hE,Z,congrArg (λb=>Value.tuple #[cfV x,.bool b,.int .i64 0])<|by rfl⟩ sbr

theorem xu (hX:Spc X) (hl:Ls X v l) (hS:iW l) (n:Nm):eu prog 45 #[v,sv n] X [] λu Y k'=>k'=[]/\∃ us:List Value,u = .tuple #[.agg us.toArray,.int .i64 (eB l n).2]/\Enc.rep Y us (eB l n).1:=by
 have hml:maxLen=9223372036854775807:=rfl
 obtain ⟨vAq,vK,rfl,_⟩:=id hl.form
 unfold eu
 refine fw (n:=25) func45 Z Z (len Z) λhr w0 hw0=>?_
 refine cQ (ak A9 λb4=>?_)
 refine sA Z<|sN<|nT<|cQ<|sM Z<|sM Z (au (cells:=[sv n]) Z underlying40 fP Z Z Zz (ltn Z) λb11=>?_)
 refine pV [pt b11 (cl [sv n] 9)] X λY0 hE0 hsel=>?_
 have hwh:=wm (hX.up hE0) (hl.up hE0) hS<|jD (p:=n) (ux:=[sv n]) rfl (λi hi=>hsel _ _ .here _ _<|ag i hi)<|by decide
 unfold eu at hwh
 refine bM hw0 Z Z en54 Z (hwh) ?_
 rintro u h' ⟨Y,k',rfl,hE,v2,fv,ow,x,e,rfl,hv2,hfv,how,hor⟩
 simp only [lC,lN]
 unfold sI
 have h12:=iL (x:=x) (e:=e) hv2 hfv how
 replace hE:=hE0.trans hE
 refine sM Z<|sV (ah Z Z)<|sV (ah Z Z) (ak oC λb6=>?_)
 refine ai Z Z ji Z h12 ?_
 refine sA Z<|sK [1,4,5,6,7] Z<|cS<|cQ<|sM Z<|sV (bK Z Z)<|sK [1,4,5,6,7,16] Z<|cC Z (λhq=>?_)<|λhq=>?_
 ·have hq:wholeE l [n]≠0:=Zu
  obtain ⟨-,rfl⟩:=hor.resolve_right λh=>hq h.1
  have hp:eB l n=(fl0,wholeE l [n]):=by unfold eB; rw [if_pos hq]
  rw [hp]
  refine cQ<|sV (aO (cells:=[sv [],.bool false,.slice none 0 0,.slice none 0 0]) Z<|λ_=>Zz) ?_
  refine sM Z<|ai Z Z wG Z Z ?_
  refine sA Z<|sK [4,5] Z<|cT<|xR ?_
  exact bE (.cellN Z tT Z slq<|.tmp Z .nil) ⟨Y,[],Z,hE,Z,[sv [],.bool false,.slice none 0 0,.slice none 0 0],Z,rep_fl0⟩ sbr
 ·have hq:wholeE l [n]=0:=Zu
  obtain ⟨-,mb,m,names,rfl,rfl,rfl,rfl,rfl,hm,rfl⟩:=hor.resolve_left λh=>h.1 hq
  have hp:eB l n=(look (build l).1 n,0):=by unfold eB; rw [if_neg (λh=>h hq)]
  rw [hp]
  simp only [lC,lN]
  obtain ⟨fus,hfl,hfr⟩:=hm n
  have hcp:=CY hfr
  refine cK<|xT<|cQ<|sV (vF Z gT Z)<|sV (vF Z iX Z)<|sV (vY Z qm) ?_
  refine sM Z<|sV (gG hfl<|bI Z Z qj ql slq) ?_
  refine aJ Z Z en55 Z (hcp) ?_
  rintro u h' ⟨T,rfl,us,rfl,hre⟩
  simp only [lC,lN]
  have hone:=Enc.ones hre
  have hre0:=hre
  obtain ⟨x1,x2,rfl,hx1,hx2⟩:=hre
  refine ai Z Z wG Z hone ?_
  refine sA Z<|sK [4,5] Z<|cT (iy [T] Y λY2 hE2 hsel2=>?_)
  exact bE (.cellN Z tT Z slq<|.tmp Z .nil) ⟨Y2,[],Z,hE.trans hE2,Z,_,Z,Enc.up (hsel2 _ _ .here) hre0⟩ sbr

theorem OQ (hX:Spc X) (hl:Ls X v l) (hS:iW l) (n:Nm) (s:Sd):eu prog 35 #[v,sv n,.agg #[sv s.cls,sv s.name]] X [] λu Y k'=>k'=[]/\∃ w:Value,u = .tuple #[w,.int .i64 (jP l n s).2]/\Ls Y w (jP l n s).1:=by
 have hml:maxLen=9223372036854775807:=rfl
 obtain ⟨vAq,vK,rfl,_⟩:=id hl.form
 unfold eu
 refine fw (n:=33) func35 Z Z (len Z) λhr w0 hw0=>?_
 refine cQ (aP Z Z λb5=>?_)
 refine sA Z<|sA Z<|sK [0,1,5,6,7] Z<|cQ<|sM Z<|sM Z (au (cells:=[sv n]) Z underlying40 fP Z Z Zz (ltn Z) λb14=>?_)
 refine pV [pt b14 (cl [sv n] 9)] X λY0 hE0 hsel=>?_
 have hwh:=wm (hX.up hE0) (hl.up hE0) hS<|jD (p:=n) (ux:=[sv n]) rfl (λi hi=>hsel _ _ .here _ _<|ag i hi)<|by decide
 unfold eu at hwh
 refine bM hw0 Z Z en54 Z (hwh) ?_
 rintro u h' ⟨Y,k',rfl,hE,v2,fv,ow,x,e,rfl,hv2,hfv,how,hor⟩
 simp only [lC,lN]
 unfold sI
 have h12:=iL (x:=x) (e:=e) hv2 hfv how
 replace hE:=hE0.trans hE
 refine sM Z<|sV (ah Z Z)<|sV (ah Z Z) (ak oC λb8=>?_)
 refine ai Z Z ji Z h12 ?_
 refine sA Z<|sK [1,5,6,7,8,9] Z<|cS<|cQ<|sM Z<|sV (bK Z Z)<|sK [1,5,6,7,8,9,19] Z<|cC Z (λhq=>?_)<|λhq=>?_
 ·have hq:wholeE l [n]≠0:=Zu
  obtain ⟨-,rfl⟩:=hor.resolve_right λh=>hq h.1
  have hp:jP l n s=([],wholeE l [n]):=by unfold jP; rw [if_pos hq]
  rw [hp]
  refine cQ<|sM Z<|sA Z<|sA Z<|sK [6,7] Z<|cT<|xR ?_
  exact aj Z ⟨Y,[],Z,hE,Z,_,Z,Ls.nil⟩ sbq
 ·have hq:wholeE l [n]=0:=Zu
  obtain ⟨-,mb,m,names,rfl,rfl,rfl,rfl,rfl,hm,rfl⟩:=hor.resolve_left λh=>h.1 hq
  have hg:=(jR hq).1
  have hp:jP l n s=if bn (look (build l).1 n).mems s=[] then ([],5) else (bn (look (build l).1 n).mems s,0):=by unfold jP; rw [if_neg (λh=>h hq)]
  rw [hp]
  simp only [lC,lN]
  obtain ⟨fus,hfl,hfr⟩:=hm n
  obtain ⟨x1,x2,rfl,hx1,hx2⟩:=hfr
  have hna:=lU (s:=s) hx1
  have hln:=Jp (look (build l).1 n).mems s
  have hfw:=hg.few n
  generalize bn (look (build l).1 n).mems s=xs at hna hln ⊢
  refine cK<|xT<|cQ<|sV (vF Z gT Z)<|sV (vF Z iX Z)<|sV (vY Z qm) ?_
  refine sM Z<|sV (gG hfl<|bI Z Z qj ql slq) ?_
  refine sV (iU (k:=2) Z underlying55 Z isAgg52 Z)<|sV (af Z gM Z ag) ?_
  refine aJ Z Z Fy Z (hna) ?_
  rintro u h' ⟨T,rfl,how2,rfl⟩
  simp only [lC,lN]
  unfold NR
  refine sA Z<|sK [6,7,10] Z<|cS<|cS (gz (v:=u) (E:=9) (sz:=1) (rows:=xs.map nC) slq λwa wc hwf hwl hwm=>?_)
  rw [List.length_map] at hwf hwl
  subst hwf
  refine cR<|sM Z<|sV (aF Z underlying40)<|sV (dE Z Z)<|sK [6,7,10,31] Z<|cC Z (λhz=>?_)<|λhz=>?_
  ·have hz:xs=[]:=List.eq_nil_of_length_eq_zero Zn
   rw [if_pos hz]
   refine cQ<|sA Z<|sA Z<|sK [6,7] Z<|cT<|xR ?_
   exact aj Z ⟨Y,[],Z,hE,Z,_,Z,Ls.nil⟩ sbq
  ·have hz:xs≠[]:=λh=>by rw [h] at hz; simp at hz
   rw [if_neg hz]
   refine cK<|xT<|cQ<|sM Z<|sA Z<|sA Z<|sK [6,7] Z<|cT (dZ (r:=VR (.slice wa xs.length wc) 9 1<|xs.map nC) slq λhok=>?_)
   refine iy [VR (.slice wa xs.length wc) 9 1 (xs.map nC)] Y λY2 hE2 hsel2=>?_
   exact aj Z ⟨Y2,[],Z,hE.trans hE2,Z,_,Z,nm_ls hok (hsel2 _ _ .here) (by show xs.length≤_; omega)⟩ sbq
end
end Go.Fl
namespace Go.Fl
open Go Go.RowKit Go.Ck Go.Proofs Go.Proofs.Tryz Go.Proofs.YtknmacdbffgjgaaGreatDoor Fx Go.Hr
theorem KO {X:Res}:Enc.rep X [sv [],.int .i64 0,.slice none 0 0,sv [],sv [],.slice none 0 0,.int .i64 0,sv [],.slice none 0 0,.bool false,.bool false,.slice none 0 0,.slice none 0 0,.slice none 0 0] mb0 :=
 mV (m:=mb0) ⟨Ls.nil,Ls.nil,⟨Row.nil,by simp [mb0,Kt.args]⟩,Ls.nil,Ls.nil,Ls.nil⟩
theorem OT {Y:Res} {k t:SH}:Vw ((Y::k)++t) (Y::t):=λw hh =>
 Holds.sub ⟨k,show ((Y::k)++t).Perm ((Y::t)++k) from List.Perm.cons _ List.perm_append_comm⟩ hh
attribute [local irreducible] Go.Ck.Sub St Cd Xt Nx DrL LsW
section
variable {X:Res} {v:Value} {l:FS}
theorem Ht (hX:Spc X) (hl:Ls X v l) (hS:iW l):eu prog 13 #[v] X [] λu Y k'=>k'=[]/\∃ w:Value,u = .tuple #[w,.int .i64 (dR l).2]/\Ls Y w (dR l).1:=by
 have hml:maxLen=9223372036854775807:=rfl
 have hrb:reachBytes=140737488351232:=rfl
 obtain ⟨vAq,vK,rfl,_⟩:=id hl.form
 have hwh:=wm hX hl hS (nv:=.slice none 0 0) (ns:=[]) Ls.nil
 unfold eu at hwh ⊢
 refine fw (n:=35) func13 Z Z (len Z) λhr w0 hw0=>?_
 refine cQ<|sA Z<|sA Z<|sN<|nT<|cQ<|sM Z<|bM hw0 Z Z en54 Z (hwh) ?_
 rintro u h' ⟨Y,k',rfl,hE,v2,fv,ow,x,e,rfl,hv2,hfv,how,hor⟩
 simp only [lC,lN]
 unfold sI
 have h12:=iL (x:=x) (e:=e) hv2 hfv how
 refine sM Z<|sV (ah Z Z)<|sV (ah Z Z) (ak oC λb4=>?_)
 refine ai Z Z ji Z h12 ?_
 refine sA Z<|sK [2,3,4,5] Z<|cS<|cQ<|sM Z<|sV (bK Z Z)<|sK [2,3,4,5,15] Z<|cC Z (λhq=>?_)<|λhq=>?_
 ·have hq:wholeE l []≠0:=Zu
  obtain ⟨-,rfl⟩:=hor.resolve_right λh=>hq h.1
  have hp:dR l=([],wholeE l []):=by unfold dR; rw [if_pos hq]
  rw [hp]
  refine cQ<|sM Z<|sA Z<|sA Z<|sK [2,3] Z<|cT<|xR ?_
  exact aj Z ⟨Y,[],Z,hE,Z,_,Z,Ls.nil⟩ sbq
 ·have hq:wholeE l []=0:=Zu
  obtain ⟨-,mb,m,names,rfl,rfl,rfl,rfl,rfl,hm,rfl⟩:=hor.resolve_left λh=>h.1 hq
  have hg:=(jR hq).1
  have hol:=hg.ord_len
  rw [hg.flats2]
  simp only [lC,lN]
  generalize order (bC l)=names at hol ⊢
  clear hor hwh
  refine gz (v:=ow) (E:=9) (sz:=1) (rows:=names.map nC) slq λwa wc hwf hwl hwm=>?_
  rw [List.length_map] at hwf hwl
  subst hwf
  refine dK (cZ 55 4)<|cK<|xT<|cQ<|sA Z<|sK [2,3,4,6] Z<|cS<|cQ<|sV (vF Z DV Z)<|sV (vY Z fq) ?_
  refine sV (aF Z underlying40)<|sM Z<|sK [2,3,4,6,18,19,20] Z<|cB<|aW (σ := Value×List (List Value)×Res×Nat) (λq=>[(4,.pointer (some ⟨b4,0,none⟩)),(6,q.1),(18,.slice wa names.length wc),(19,.int .i64 names.length),(20,.int .i64 (q.2.2.2:Nat))]) (λq=>VR q.1 55 4 q.2.1::q.2.2.1::mps mb m::VR (.slice wa names.length wc) 9 1 (names.map nC)::pt b4 (cl [.slice vAq l.length vK,.map (some mb),.slice wa names.length wc,.int .i64 cf0.kind,sv cf0.cls,sv cf0.name,sv cf0.other,sv cf0.a.par,sv cf0.a.name,sv cf0.b.par,sv cf0.b.name,.int .i64 0] 116)::hr) (λq=>q.1.oneCell'=true/\Ext Y q.2.2.1/\q.2.2.2≤names.length/\Rws q.2.2.1 q.2.1 ((names.take q.2.2.2).map λn=>look (build l).1 n)) (λq=>names.length - q.2.2.2) (.slice none 0 0,[],Y,0) ⟨Z,Ext.refl Y,Nat.zero_le _,Rws.nil⟩ ?_
  rintro ⟨w,rows,Zq,i⟩ ⟨hw,hEZ,hi,hro⟩
  simp only at hw hEZ hi hro
  dsimp only
  refine cQ<|sV (aN Z Z)<|sN<|nT<|cS<|cC Z (λhd=>?_)<|λhd=>?_
  ·have hlt:i<names.length:=Zx
   have htk:=bV hlt
   have hrl:rows.length≤i:=by
    rw [hro.1,List.length_map,List.length_take]; exact Nat.min_le_left _ _
   have hnx:(names.map nC)[i]? = some [sv names[i]]:=by rw [List.getElem?_map,Zy hlt]; rfl
   refine fQ (r:=VR (.slice wa names.length wc) 9 1<|names.map nC) slq λhok=>?_
   obtain ⟨ab,ao,rfl⟩:∃ ab ao,wa=some ⟨ab,ao,none⟩:=by
    obtain ⟨f0,hf0⟩:=hok
    rcases VR.form hf0 with ⟨h3,h4⟩ | ⟨b,o,cp,h3,-⟩
    ·have:=List.map_eq_nil_iff.1 h4
     rw [this] at hlt; simp at hlt
    ·rw [List.length_map] at h3; cases h3; exact ⟨b,o,rfl⟩
   generalize names[i]=n at hnx htk
   obtain ⟨fus,hfl,hfr⟩:=(hm.up hEZ) n
   have hcp:=CY hfr
   generalize hJ:look (build l).1 n=J at hcp
   refine cK<|xT<|cS<|cB<|cQ<|sV (vI (k:=i) Z Z iZ Z hlt Z)<|sV (vY Z ld9 (ha:=⟨_,_,slq,eX hnx 0<|by simp⟩)) ?_
   refine sA Z<|sK [4,6,8,18,19,20] Z<|cR<|sM Z<|sV (vF Z gT Z)<|sV (vF Z iX Z)<|sV (vY Z qm) ?_
   refine sM Z<|sV (gG hfl<|bI Z Z qj ql slq) ?_
   refine aJ Z Z en55 Z (hcp) ?_
   rintro u h' ⟨T,rfl,us,rfl,hre⟩
   simp only [lC,lN]
   refine pV [T] Zq λZ2 hE2 hsel2=>?_
   have hre:=Enc.up (hsel2 _ _ .here) hre
   have hone:=Enc.ones hre
   have hre0:=hre
   obtain ⟨x1,x2,rfl,hx1,hx2⟩:=hre
   refine au (cells:=[sv J.name,.bool J.dfd,x1,x2]) Z underlying32 ql Z Z Zz (ltn Z) λb31=>?_
   refine d9 [[sv J.name,.bool J.dfd,x1,x2]] Z Z underlying32 ql Z (by decide) (show Sel _ (VR w 55 4 rows) _ from slq) (by simp) Z (λj u2 hu2=>bS<|bU Zr) (by simpa using hone) (by omega) (by omega) (ltn Z) λw2 hw2 _=>?_
   refine sA Z<|sN<|nK [4,6,18,19,20] Z<|ax<|xB<|xT<|cR<|sV (aI Z Z Z0)<|sM Z<|sN<|nK [4,6,18,19,20] Z<|ax ?_
   refine aM (w2,rows++[[sv J.name,.bool J.dfd,x1,x2]],Z2,i+1) ⟨hw2,hEZ.trans hE2,hlt,by rw [htk,List.map_append]; exact (hro.up hE2).snoc (show Enc.rep Z2 _ (look (build l).1 n) from by rw [hJ]; exact hre0)⟩ (by show names.length - (i+1)<names.length - i; omega)
  ·have hie:i=names.length:=Nat.le_antisymm hi<|Nat.not_lt.1 Zx
   subst hie
   rw [List.take_length] at hro
   have hb:(names.map λn=>look (build l).1 n).length * Enc.by' Fl≤reachBytes:=by
    rw [List.length_map,hrb]; show names.length * 72≤_; omega
   refine aC<|xE<|xE<|xY<|xT<|cQ<|sM Z<|sA Z<|sA Z<|sK [2,3] Z<|cT (dZ (r:=VR w 55 4 rows) slq λhok=>?_)
   refine iy [VR w 55 4 rows] Zq λY2 hE2 hsel2=>?_
   exact aj Z ⟨Y2,[],Z,(hE.trans hEZ).trans hE2,Z,_,Z,Rws.ls (E:=55) (hro.up hE2) hok (hsel2 _ _ .here) hb⟩ sbq

theorem Bh (hX:Spc X) (hl:Ls X v l) (hS:iW l) {fv:Value} {fs:List Fl} (hf:Ls X fv fs):eu prog 44 #[v,fv] X [] λu Y k'=>k'=[]/\u = .int .i64 (iJ l fs):=by
 have hml:maxLen=9223372036854775807:=rfl
 obtain ⟨vAq,vK,rfl,_⟩:=id hl.form
 obtain ⟨fA,fK,rfl,_⟩:=id hf.form
 have hck:=sF hX hl
 have hfl:=Ht hX hl hS
 unfold eu at hfl ⊢
 refine fw (n:=30) func44 Z Z (len Z) λhr w0 hw0=>?_
 refine cQ<|sA Z<|sN<|nT<|cS<|cQ<|sM Z<|bM hw0 Z Z en16 Z (hck) ?_
 rintro u h' ⟨rfl,rfl⟩
 simp only [lC,lN]
 refine sM Z<|sV (ah Z Z)<|sV (ah Z Z)<|sA Z<|sA Z<|sK [0,1,4,5] Z<|cQ<|sM Z<|sV (bK Z Z)<|sK [0,1,4,5,15] Z<|cC Z (λhz=>?_)<|λhz=>?_
 ·have hz:(bT l).1≠0:=Zn
  have hp:iJ l fs=(bT l).1:=by unfold iJ; rw [if_pos hz]
  rw [hp]
  refine cQ<|sM Z<|sA Z<|sK [4] Z<|cT<|xR ?_
  exact aj Z ⟨X,[],Z,Ext.refl X,Z,Z⟩ sbq
 ·have hz:(bT l).1=0:=Zn
  have hp:iJ l fs=if (dR l).2≠0∨(dR l).1≠fs then 11 else 0:=by unfold iJ; rw [if_neg (λh=>h hz)]
  rw [hp]
  generalize (dR l).1=gs at hfl ⊢
  generalize (dR l).2=e at hfl ⊢
  refine cK<|xT<|cQ<|sM Z<|bM hw0 Z Z en13 Z (hfl) ?_
  rintro u h' ⟨Y,k',rfl,hE,rfl,w,rfl,hw⟩
  simp only [lC,lN]
  have heq:=eqFl_ct hw<|hf.up hE
  obtain ⟨wA,wK,rfl,_⟩:=id hw.form
  refine sM Z<|sV (ah Z Z)<|sV (ah Z Z)<|sA Z<|sA Z<|sK [1,4,7,8] Z<|cS<|cQ<|sM Z<|sV (bK Z Z)<|sM Z<|bf (k:=8) (d:=29) (v:=.bool ((e != 0) || !(decide (gs=fs)))) (λhcut=>aG (b:=(e != 0)) false (λhg=>?_)<|λhg=>?_) ?_
  ·refine aB Z Z hg ?_
   iterate 3 refine aB rfl rfl hg ?_
   refine sV (vQ (bO Z hg) Z) ?_
   exact hcut _ uG
  ·refine sG Z (bG Z hg) (vM Z)<|sG Z (bG Z hg) (vM Z)<|bJ Z (bG Z hg) Z Z en105 Z (heq) ?_
   refine sG Z (bG Z hg) (aZ Z)<|sV (vP (bO Z hg) Z) ?_
   exact hcut _ uG
  refine sK [4,29] Z<|cC Z (λhb=>?_)<|λhb=>?_
  ·rw [if_pos Zf]
   refine cQ<|sA Z<|sK [4] Z<|cT<|xR ?_
   exact aj Z ⟨Y,[],Z,hE,Z,Z⟩ sbq
  ·rw [if_neg Zf]
   refine cK<|xT<|cQ<|sA Z<|sK [4] Z<|cT ?_
   exact aj Z ⟨Y,[],Z,hE,Z,Z⟩ sbq

theorem xw (hX : Spc X) (hl : Ls X v l) (hS : iW l) {mv : Value} {ds : List Nm} (hds : ds.length ≤ 1000) (hmv : mv.oneCell' = true) (c n : Nm) : eu prog 97 #[v, sv c, sv n, mv] X [VR mv 9 1 (ds.map nC)] λu Y k' => ∃ v2 fv ow x e, ∃ us : List Value, u = .tuple #[.agg (sI v2 fv ow x e).toArray, .agg us.toArray, .int .i64 (bP l ds c n).2] /\ v2.oneCell' = true /\ fv.oneCell' = true /\ ow.oneCell' = true /\ Enc.rep Y us (bP l ds c n).1 /\
  (((bP l ds c n).2≠0/\k'=[])∨((bP l ds c n).2=0/\wholeE l (ds++[c])=0/\∃ mb m names,v2=v/\fv = .map (some mb)/\x=cf0/\e=0/\k'=[mps mb m,VR ow 9 1 (names.map nC)]/\FlR Y m (look (build l).1)/\names=order (bC l))):=by
 have hml:maxLen=9223372036854775807:=rfl
 obtain ⟨vAq,vK,rfl,_⟩:=id hl.form
 unfold eu
 refine fw (n:=46) func97 Z Z (len Z) λhr w0 hw0=>?_
 refine cQ (ak oC λb8=>?_)
 refine ak iR λb9=>?_
 refine sA Z<|sN<|nT<|cQ<|sM Z<|sM Z<|sM Z (au (cells:=[sv c]) Z underlying40 fP Z Z Zz (ltn Z) λb19=>?_)
 have hdl:(ds.map nC).length≤1000:=by rw [List.length_map]; exact hds
 refine d9 [[sv c]] Z Z underlying40 fP Z (by decide) (show Sel _ (VR mv 9 1<|ds.map nC) _ from slq) (by simp) Z (λj u2 hu2=>bS<|bU Zr) (by simp [sv,Value.oneCell']) (by omega) (by omega) (ltn Z) λw2 hw2 _=>?_
 rw [show ds.map nC++[[sv c]]=(ds++[c]).map nC by rw [List.map_append]; rfl]
 refine oF (r:=VR w2 9 1<|(ds++[c]).map nC) slq λhok=>?_
 refine pV [VR w2 9 1 ((ds++[c]).map nC)] X λY0 hE0 hsel=>?_
 have hwh:=wm (hX.up hE0) (hl.up hE0) hS<|nm_ls hok (hsel _ _ .here) (by rw [List.length_append]; show ds.length+1≤_; omega)
 unfold eu at hwh
 refine bM hw0 Z Z en54 Z (hwh) ?_
 rintro u h' ⟨Y,k',rfl,hE,v2,fv,ow,x,e,rfl,hv2,hfv,how,hor⟩
 simp only [lC,lN]
 unfold sI
 have h12:=iL (x:=x) (e:=e) hv2 hfv how
 replace hE:=hE0.trans hE
 refine sM Z<|sV (ah Z Z)<|sV (ah Z Z) (ak oC λb11=>?_)
 refine ai Z Z ji Z h12 ?_
 refine sA Z<|sK [1,2,8,9,10,11,12] Z<|cS<|cQ<|sM Z<|sV (bK Z Z)<|sK [1,2,8,9,10,11,12,25] Z<|cC Z (λhq=>?_)<|λhq=>?_
 ·have hq:wholeE l (ds++[c])≠0:=Zu
  obtain ⟨-,rfl⟩:=hor.resolve_right λh=>hq h.1
  have hp:bP l ds c n=(mb0,wholeE l (ds++[c])):=by unfold bP; rw [if_pos hq]
  rw [hp]
  refine cQ<|sV (aO (cells:=[.slice none 0 0,.map none,.slice none 0 0,.int .i64 0,sv [],sv [],sv [],sv [],sv [],sv [],sv [],.int .i64 0]) Z<|λ_=>Zz) ?_
  refine sV (aO (cells:=[sv [],.int .i64 0,.slice none 0 0,sv [],sv [],.slice none 0 0,.int .i64 0,sv [],.slice none 0 0,.bool false,.bool false,.slice none 0 0,.slice none 0 0,.slice none 0 0]) Z<|λ_=>Zz) ?_
  refine sM Z<|ai Z Z ji Z Z ?_
  refine ai Z Z gF Z Z ?_
  refine sA Z<|sK [8,9,10] Z<|cT<|xR ?_
  exact bE (.cellN Z lM Z slq<|.cellN Z dJ Z slq<|.tmp Z .nil) ⟨Y,[],Z,hE,.slice none 0 0,.map none,.slice none 0 0,cf0,0,[sv [],.int .i64 0,.slice none 0 0,sv [],sv [],.slice none 0 0,.int .i64 0,sv [],.slice none 0 0,.bool false,.bool false,.slice none 0 0,.slice none 0 0,.slice none 0 0],Z,Z,Z,Z,KO,.inl ⟨hq,Z⟩⟩ sbr
 ·have hq:wholeE l (ds++[c])=0:=Zu
  obtain ⟨-,mb,m,names,rfl,rfl,rfl,rfl,rfl,hm,rfl⟩:=hor.resolve_left λh=>h.1 hq
  have hg:=(jR hq).1
  have hp:bP l ds c n=match dI (look (build l).1 c).mems n with
   | some m=>(m,0)
   | none=>(mb0,4):=by unfold bP; rw [if_neg (λh=>h hq)]; rfl
  rw [hp]
  simp only [lC,lN]
  obtain ⟨fus,hfl,hfr⟩:=hm c
  obtain ⟨z1,z2,rfl,hz1,hz2⟩:=hfr
  have hfi:=ut (n:=n) hz1
  rw [show ((look (build l).1 c).mems.find? λc=>c.name == n)=dI (look (build l).1 c).mems n from rfl] at hfi
  generalize dI (look (build l).1 c).mems n=F at hfi ⊢
  clear hor
  refine cK<|xT<|cQ<|sV (vF Z gT Z)<|sV (vF Z iX Z)<|sV (vY Z qm) ?_
  refine sM Z<|sV (gG hfl<|bI Z Z qj ql slq) ?_
  refine sV (iU (k:=2) Z underlying55 Z isAgg52 Z)<|sM Z<|aJ Z Z en169 Z (hfi) ?_
  rintro u h' ⟨rfl,us,rfl,hre⟩
  simp only [lC,lN]
  have hone:=Enc.ones hre
  have hre0:=hre
  generalize hJ:F.getD mb0=J at hre hre0
  obtain ⟨x2,x5,y,x11,x12,x13,rfl,-⟩:=bZ hre
  unfold fI at *
  refine sM Z<|sV (ah Z Z)<|sV (ah Z Z) (ak iR λb13=>?_)
  refine ai Z Z gF Z hone ?_
  refine sA Z<|sK [8,9,10,11,13,14] Z<|cS<|cQ<|sM Z<|sV (aZ Z)<|sK [8,9,10,11,13,41] Z ?_
  cases F with
  | none =>
   refine aQ Z ?_
   refine cQ<|sV (aO (cells:=[.slice none 0 0,.map none,.slice none 0 0,.int .i64 0,sv [],sv [],sv [],sv [],sv [],sv [],sv [],.int .i64 0]) Z<|λ_=>Zz) ?_
   refine sV (aO (cells:=[sv [],.int .i64 0,.slice none 0 0,sv [],sv [],.slice none 0 0,.int .i64 0,sv [],.slice none 0 0,.bool false,.bool false,.slice none 0 0,.slice none 0 0,.slice none 0 0]) Z<|λ_=>Zz) ?_
   refine ai Z Z ji Z Z ?_
   refine ai Z Z gF Z Z ?_
   refine sA Z<|sK [8,9,10] Z<|cT<|xR ?_
   exact bE (.cellN Z lM Z slq<|.cellN Z dJ Z slq<|.tmp Z .nil) ⟨Y,[],Z,hE,.slice none 0 0,.map none,.slice none 0 0,cf0,0,[sv [],.int .i64 0,.slice none 0 0,sv [],sv [],.slice none 0 0,.int .i64 0,sv [],.slice none 0 0,.bool false,.bool false,.slice none 0 0,.slice none 0 0,.slice none 0 0],Z,Z,Z,Z,KO,.inl ⟨by show (4:Int)≠0; decide,Z⟩⟩ sbr
  | some g =>
   have hJ:g=J:=hJ
   subst hJ
   refine aH Z ?_
   refine cK<|xT<|cS<|jr (ork [(0,1),(1,1),(2,0),(3,0),(4,2)] .nil) (λi => !(Nat.beq i 3)) [pt b11 (cl [.slice vAq l.length vK,.map (some mb),ow,.int .i64 cf0.kind,sv cf0.cls,sv cf0.name,sv cf0.other,sv cf0.a.par,sv cf0.a.name,sv cf0.b.par,sv cf0.b.name,.int .i64 0] 116),pt b13 (cl [sv g.name,.int .i64 g.kind,x2,sv g.impl.cls,sv g.impl.name,x5,.int .i64 g.ty.kind,sv g.ty.name,y,.bool g.ty.void,.bool g.ty.sep,x11,x12,x13] 75)] mixed Zz ?_
   refine bi Z (af Z lM Z ag) ?_
   refine bi Z (af Z dJ Z ag) ?_
   refine aV Z<|ai Z Z ji Z h12 ?_
   refine aY ?_
   refine aV Z<|ai Z Z gF Z hone<|aY ?_
   refine dV Z (vA Z)<|bA<|nK [8,9,10] Z<|nT<|cT ?_
   exact bE (.cellN Z lM Z slq<|.cellN Z dJ Z slq<|.tmp Z .nil) ⟨Y,[mps mb m,VR ow 9 1 (List.map nC<|order<|bC l)],Z,hE,.slice vAq l.length vK,.map (some mb),ow,cf0,0,_,Z,Z,Z,how,hre0,.inr ⟨Z,hq,mb,m,_,Z,Z,Z,Z,Z,hm,Z⟩⟩ sbr

theorem Hu (hX:Spc X) (hl:Ls X v l) (hS:iW l) (c n:Nm):eu prog 30 #[v,sv c,sv n] X [] λu Y k'=>k'=[]/\∃ us:List Value,u = .tuple #[.agg us.toArray,.int .i64 (bP l [] c n).2]/\Enc.rep Y us (bP l [] c n).1:=by
 have hml:maxLen=9223372036854775807:=rfl
 obtain ⟨vAq,vK,rfl,_⟩:=id hl.form
 have hme:=xw hX hl hS (mv:=.slice none 0 0) (ds:=[]) (by decide) rfl c n
 unfold eu at hme ⊢
 generalize bP l [] c n=P at hme ⊢
 obtain ⟨J,e⟩:=P
 dsimp only at hme ⊢
 refine fw (n:=22) func30 Z Z (len Z) λhr w0 hw0=>?_
 refine cQ (ak iR λb6=>?_)
 refine sA Z<|sN<|nT<|cS<|dK (cZ 9 1)<|cR<|sM Z<|sM Z<|sM Z<|bM hw0 Z Z en97 Z (hme) ?_
 rintro u h' ⟨Y,k',rfl,hE,v2,fv,ow,x,e0,us,rfl,hv2,hfv,how,hre,hor⟩
 refine qp OT ?_
 unfold sI
 have h12:=iL (x:=x) (e:=e0) hv2 hfv how
 have hone:=Enc.ones hre
 have hre0:=hre
 obtain ⟨x2,x5,y,x11,x12,x13,rfl,-⟩:=bZ hre
 unfold fI at *
 refine sM Z<|sV (ah Z Z)<|sV (ah Z Z)<|sV (ah Z Z) (ak oC λb8=>?_)
 refine ak iR λb9=>?_
 refine ai Z Z ji Z h12 ?_
 refine ai Z Z gF Z hone ?_
 refine sA Z<|sK [6,7,9,10] Z<|cQ<|sV (af Z dJ Z ag) ?_
 refine aJ Z Z en99 Z (Gs hre0) ?_
 rintro u h' ⟨T,rfl,us2,rfl,hre2⟩
 simp only [lC,lN]
 have hone2:=Enc.ones hre2
 have hre3:=hre2
 obtain ⟨y2,y5,yy,y11,y12,y13,rfl,-⟩:=bZ hre2
 unfold fI at *
 refine sM Z<|ai Z Z gF Z hone2 ?_
 refine sA Z<|sK [6,7] Z<|cT (iy [T] Y λY2 hE2 hsel2=>?_)
 exact bE (.cellN Z dJ Z slq<|.tmp Z .nil) ⟨Y2,[],Z,hE.trans hE2,Z,_,Z,Enc.up (hsel2 _ _ .here) hre3⟩ sbr
end
end Go.Fl
namespace Go.Fl
open Go Go.RowKit Go.Ck Go.Proofs Go.Proofs.Tryz Go.Proofs.YtknmacdbffgjgaaGreatDoor Fx Go.Hr
theorem Good.fits {l:FS} (h:Good l) (hS:iW l):Fits l (Fl.look (Fl.build l).1):=⟨h.right,h.flb,hS⟩
def ogC (o:Og):List Value:=[sv o.par,sv o.name]
def ogr (b:Bool) (n:Nm):List Og:=if b=true then [⟨[],n⟩] else []
theorem rws_og {Y:Res} (xs:List Og):Rws Y (xs.map ogC) xs:=⟨by simp,λj us x h1 h2=>by
 rw [List.getElem?_map,h2] at h1
 cases h1; rfl⟩
attribute [local irreducible] Go.Ck.Sub St Cd Xt Nx DrL LsW
section
variable {X:Res} {v:Value} {l:FS}
theorem Jq (hX:Spc X) (hl:Ls X v l) (hS:iW l) (c n:Nm):eu prog 50 #[v,sv c,sv n] X [] λu Y k'=>k'=[]/\∃ w:Value,u = .tuple #[w,.int .i64 (oriP l c n).2]/\Ls Y w (oriP l c n).1:=by
 have hml:maxLen=9223372036854775807:=rfl
 have hrb:reachBytes=140737488351232:=rfl
 obtain ⟨vAq,vK,rfl,_⟩:=id hl.form
 have hme:=xw hX hl hS (mv:=.slice none 0 0) (ds:=[]) (by decide) rfl c n
 unfold eu at hme ⊢
 refine fw (n:=63) func50 Z Z (len Z) λhr w0 hw0=>?_
 refine cQ<|sA Z<|sA Z<|sN<|nT<|cS<|dK (cZ 9 1)<|cR<|sM Z<|sM Z<|sM Z<|bM hw0 Z Z en97 Z (hme) ?_
 rintro u h' ⟨Y,k',rfl,hE,v2,fv,ow,x,e0,us,rfl,hv2,hfv,how,hre,hor⟩
 simp only [lC,lN]
 unfold sI
 have h12:=iL (x:=x) (e:=e0) hv2 hfv how
 have hone:=Enc.ones hre
 have hre0:=hre
 generalize (bP l [] c n).1=J at hre hre0
 obtain ⟨x2,x5,y,x11,x12,x13,rfl,-⟩:=bZ hre
 unfold fI at *
 refine sM Z<|sV (ah Z Z)<|sV (ah Z Z)<|sV (ah Z Z) (ak oC λb8=>?_)
 refine ak iR λb9=>?_
 refine ai Z Z ji Z h12 ?_
 refine ai Z Z gF Z hone ?_
 refine sA Z<|sK [1,2,6,7,8,10] Z<|cS<|cQ<|sM Z<|sV (bK Z Z)<|sK [1,2,6,7,8,10,26] Z<|cC Z (λhq=>?_)<|λhq=>?_
 ·have hq:(bP l [] c n).2≠0:=Zu
  obtain ⟨-,rfl⟩:=hor.resolve_right λh=>hq h.1
  have hp:oriP l c n=([],(bP l [] c n).2):=by unfold oriP; rw [if_pos hq]
  rw [hp]
  refine cQ<|sM Z<|sA Z<|sA Z<|sK [6,7] Z<|cT<|xR ?_
  exact aj Z ⟨Y,[],Z,hE,Z,_,Z,Ls.nil⟩ sbq
 ·have hq:(bP l [] c n).2=0:=Zu
  have hp:oriP l c n=(ogr (feat (ae l c) n).isSome n++(under (comes (look (build l).1) l<|ae l c) n).map (λx=>x.og),0):=by unfold oriP; rw [if_neg (λh=>h hq)]; rfl
  rw [hp]
  obtain ⟨-,hwq,mb,m,names,rfl,rfl,rfl,rfl,rfl,hm,rfl⟩:=hor.resolve_left λh=>h.1 hq
  simp only [lC,lN]
  obtain ⟨hg,hcs⟩:=jR hwq
  have hcl:=(hg.class<|hcs c<|by simp).2.2
  have hF:=hg.fits hS
  have hfew:=hF.few<|.inl hcl
  have hcc:=l9 (n:=c) (fv:=.map<|some mb) (hl.up hE) rfl
  have hun:(under (comes (look (build l).1) l<|ae l c) n).length≤(comes (look (build l).1) l<|ae l c).length:=List.length_filter_le _ _
  have hby:=λ(cus:List Value) (hcr:Enc.rep Y cus (ae l c))=>xe (mb:=mb) (hl.up hE) hcr hm (hF.hf<|.inl hcl)<|by omega
  unfold CtX at hby
  clear hor hme
  refine cK<|xT<|cQ<|sA Z<|sK [1,2,6,7,8,11] Z<|cQ<|sV (vF Z gT Z)<|sV (af Z gZ Z<|bD (k:=0) ag (vs:=[.slice vAq l.length vK,.map (some mb)]) Z) ?_
  refine sM Z<|aJ Z Z en56 Z (hcc) ?_
  rintro u h' ⟨rfl,cus,rfl,hcr⟩
  simp only [lC,lN]
  have hby:=hby cus hcr
  have hco:=Enc.ones hcr
  obtain ⟨ca,cb,ce,cf,ci,rfl,hca,hcb,hce,hcf,hci⟩:=gD hcr
  refine ak oz λb12=>?_
  refine ai Z Z mq Z hco ?_
  refine sK [2,6,7,8,11,12] Z<|cS<|cQ<|sV (vF Z kF Z)<|sV (vY Z yu) ?_
  refine sM Z ?_
  have hfi:=jc (n:=n) hcf
  rw [show ((ae l c).feats.find? λf=>f.name == n)=feat (ae l c) n from rfl] at hfi
  refine aJ Z Z xM Z (hfi) ?_
  rintro u h' ⟨rfl,fus,rfl,hfr⟩
  simp only [lC,lN]
  have hfo:=Enc.ones hfr
  generalize (feat (ae l c) n).getD fe0=F at hfr
  obtain ⟨f2,f3,fy,f9,f10,f11,f12,f13,f14,rfl,-⟩:=nJ hfr
  unfold Au at *
  refine sM Z<|sV (ah Z Z)<|sV (ah Z Z) (ak lS λb13=>?_)
  refine ai Z Z jX Z hfo ?_
  refine sA Z<|sK [2,6,7,8,11,12,14] Z<|cQ<|sM Z<|sK [2,6,7,8,11,12,39] Z ?_
  generalize (feat (ae l c) n).isSome=b
  have hb31:(ogr b n).length≤1:=by unfold ogr; split <;> simp
  refine dK (cZ 24 2)<|kX (ex:=.normal) (α := {q:Value // q.oneCell'=true}) (λq=>[(2,sv n),(8,.pointer (some ⟨b8,0,none⟩)),(11,q.1),(12,.pointer (some ⟨b12,0,none⟩))]) (λq=>VR q.1 24 2 ((ogr b n).map ogC)::pt b12 (cl [sv (ae l c).name,.bool (ae l c).dfd,ca,cb,ce,cf,ci] 44)::pt b8 (cl [.slice vAq l.length vK,.map (some mb),ow,.int .i64 cf0.kind,sv cf0.cls,sv cf0.name,sv cf0.other,sv cf0.a.par,sv cf0.a.name,sv cf0.b.par,sv cf0.b.name,.int .i64 0] 116)::Y::mps mb m::hr) (λhcont=>?_)<|λq=>?_
  ·cases b with
   | true =>
    refine aQ Z ?_
    refine cR<|sM Z<|sM Z<|sV (aO (cells:=[sv [],sv n]) Z<|λ_=>Zz) ?_
    refine au (cells:=[sv [],sv n]) Z underlying104 JW Z Z Zz (ltn Z) λb43=>?_
    refine d9 [[sv [],sv n]] Z Z underlying104 JW Z (by decide) (show Sel _ (VR (.slice none 0 0) 24 2 []) _ from slq) (by simp) Z (λj u2 hu2=>bS<|bU Zr) (by simp [sv,Value.oneCell']) (by simp) (by simp) (ltn Z) λw2 hw2 _=>?_
    refine sA Z<|sN<|nK [2,6,7,8,11,12] Z<|ax ?_
    exact hcont ⟨w2,hw2⟩ _ _ ⟨Z,Z,Z,Z,trivial⟩ sbq
   | false =>
    refine aH Z ?_
    refine cK ?_
    exact hcont ⟨.slice none 0 0,Z⟩ _ _ ⟨Z,Z,Z,Z,trivial⟩ sbq
  obtain ⟨w0q,hw0q⟩:=q
  dsimp only
  refine xT<|cS<|cQ<|sV (vF Z gT Z)<|sV (af Z gZ Z<|bD (k:=0) ag (vs:=[.slice vAq l.length vK,.map (some mb)]) Z) ?_
  refine sV (af Z gL Z ag) ?_
  refine aJ Z Z J9 Z (hby) ?_
  rintro u h' ⟨Y2,k2,rfl,hE2,bm,E,rfl,rfl,hbk⟩
  simp only [lC,lN]
  refine oF (r:=BN E) slq λhokE=>?_
  refine pV [BN E] Y2 λY3 hE3 hsel=>?_
  have hls:=KH hbk hE3 hokE (hsel _ _ .here)<|by omega
  have hlk:=yX hbk.1 hls n
  obtain ⟨qa,qk,hqv,_⟩:=id hlk.form
  rw [hqv] at hlk
  generalize under (comes (look (build l).1) l<|ae l c) n=L at hun hlk hqv ⊢
  refine sM Z<|sV (gG hqv<|bI Z Z sQ tN slq) ?_
  refine sV (aF Z underlying187)<|sM Z<|sK [11,50,51,52] Z<|cB ?_
  rw [show (ogr b n).map ogC=(ogr b n++(L.take 0).map (λx=>x.og)).map ogC by simp]
  refine aW (σ := Value×Nat) (λq=>[(11,q.1),(50,.slice qa L.length qk),(51,.int .i64 L.length),(52,.int .i64 (q.2:Nat))]) (λq=>VR q.1 24 2 ((ogr b n++(L.take q.2).map (λx=>x.og)).map ogC)::Y3::hr) (λq=>q.1.oneCell'=true/\q.2≤L.length) (λq=>L.length - q.2) (w0q,0) ⟨hw0q,Nat.zero_le _⟩ ?_
  rintro ⟨w,i⟩ ⟨hw,hi⟩
  simp only at hw hi
  dsimp only
  refine cQ<|sV (aN Z Z)<|sN<|nT<|cS<|cC Z (λhd=>?_)<|λhd=>?_
  ·have hlt:i<L.length:=Zx
   have htk:=bV hlt
   have hrl:((ogr b n++(L.take i).map (λx=>x.og)).map ogC).length≤1+i:=by
    rw [List.length_map,List.length_append,List.length_map,List.length_take]; omega
   obtain ⟨fb,fo,fcap,fus,e1,hfus,hfrd,hfr⟩:=hlk.at<|Zy hlt
   obtain ⟨rfl,rfl⟩:qa=some ⟨fb,fo,none⟩/\qk=fcap:=by cases e1; exact ⟨rfl,rfl⟩
   generalize L[i]=xc at hfr htk
   have hfo2:=Enc.ones hfr
   obtain ⟨c2,c5,cy,c11,c12,c13,rfl,-⟩:=iB hfr
   have hog:∀ b,Rds (pt b<|cl (oL xc c2 c5 cy c11 c12 c13) 191) b (0+0) [sv xc.og.par,sv xc.og.name]:=λb=>nL
   unfold oL at *
   refine cK<|xT<|cS<|cB<|cQ<|sV (vI (k:=i) Z Z lJ Z hlt Z)<|sV (af Z ic Z hfrd) ?_
   refine ak q8 λb16=>?_
   refine ai Z Z mM Z hfo2 ?_
   refine sK [11,16,50,51,52] Z<|cR<|sM Z<|sV (vF Z jw Z)<|sV (af Z qC Z<|hog b16) ?_
   refine au (cells:=[sv xc.og.par,sv xc.og.name]) Z underlying104 JW Z Z Zz (ltn Z) λb59=>?_
   refine d9 [[sv xc.og.par,sv xc.og.name]] Z Z underlying104 JW Z (by decide) (show Sel _ (VR w 24 2<|(ogr b n++(L.take i).map (λx=>x.og)).map ogC) _ from slq) (by simp) Z (λj u2 hu2=>bS<|bU Zr) (by simp [sv,Value.oneCell']) (by omega) (by omega) (ltn Z) λw2 hw2 _=>?_
   refine sA Z<|sN<|nK [11,50,51,52] Z<|ax<|xB<|xT<|cR<|sV (aI Z Z Z0)<|sM Z<|sN<|nK [11,50,51,52] Z<|ax ?_
   rw [show (ogr b n++(L.take i).map (λx=>x.og)).map ogC++[[sv xc.og.par,sv xc.og.name]]=(ogr b n++(L.take (i+1)).map (λx=>x.og)).map ogC by rw [htk]; simp [ogC]]
   refine aM (w2,i+1) ⟨hw2,hlt⟩ (by show L.length - (i+1)<L.length - i; omega)
  ·have hie:i=L.length:=Nat.le_antisymm hi<|Nat.not_lt.1 Zx
   subst hie
   rw [List.take_length]
   have hbl:(ogr b n++L.map (λx=>x.og)).length * Enc.by' Og≤reachBytes:=by
    rw [List.length_append,List.length_map,hrb]; show _ * 32≤_; omega
   refine aC<|xE<|xE<|xY<|xT<|cQ<|sM Z<|sA Z<|sA Z<|sK [6,7] Z<|cT (dZ (r:=VR w 24 2<|(ogr b n++L.map (λx=>x.og)).map ogC) slq λhok=>?_)
   refine iy [VR w 24 2 ((ogr b n++L.map (λx=>x.og)).map ogC)] Y3 λY4 hE4 hsel4=>?_
   exact aj Z ⟨Y4,[],Z,((hE.trans hE2).trans hE3).trans hE4,Z,_,Z,Rws.ls (E:=24) (rws_og _) hok (hsel4 _ _ .here) hbl⟩ sbq
end
end Go.Fl
namespace Go.Fl
open Go Go.RowKit Go.Ck Go.Proofs Go.Proofs.Tryz Go.Proofs.YtknmacdbffgjgaaGreatDoor Fx Go.Hr
theorem Mk {ms:List Mb} {i:Nat} (h:i<ms.length) (ss:List Sd):ul (ms.take (i+1)) ss=ul (ms.take i) ss++if (ss.all λs=>ms[i].seeds.contains s)=true then [ms[i].name] else []:=by
 unfold ul
 rw [bV h,List.filter_append,List.map_append]
 congr 1
 by_cases hq:(ss.all λs=>ms[i].seeds.contains s)=true
 ·rw [if_pos hq,List.filter_cons,if_pos hq]; rfl
 ·rw [if_neg hq,List.filter_cons,if_neg hq]; rfl
theorem Hw (ms:List Mb) (ss:List Sd):(ul ms ss).length≤ms.length:=by
 unfold ul; rw [List.length_map]; exact List.length_filter_le _ _
attribute [local irreducible] Go.Ck.Sub St Cd Xt Nx DrL LsW
section
variable {X:Res} {v:Value} {l:FS}
theorem Jr (hX:Spc X) (hl:Ls X v l) (hS:iW l) (d c n:Nm):eu prog 29 #[v,sv d,sv c,sv n] X [] λu Y k'=>k'=[]/\u = .tuple #[sv (vT l d c n).1,.int .i64 (vT l d c n).2]:=by
 have hml:maxLen=9223372036854775807:=rfl
 have hrb:reachBytes=140737488351232:=rfl
 obtain ⟨vAq,vK,rfl,_⟩:=id hl.form
 have hme:=λb=>xw hX hl hS (mv:=.slice (some ⟨b,0,none⟩) 1 1) (ds:=[d]) (by simp) rfl c n
 have hrk:rk (bC l) d≤l.length:=by
  have:=qI (bC l) d
  rwa [kr] at this
 simp only [List.map_cons,List.map_nil,nC] at hme
 unfold eu at hme ⊢
 refine fw (n:=105) func29 Z Z (len Z) λhr w0 hw0=>?_
 refine cQ<|sA Z<|sA Z<|sN<|nT<|Fh<|cQ<|sM Z<|sM Z<|sM Z<|sM Z (au (cells:=[sv d]) Z underlying40 fP Z Z Zz (ltn Z) λb28=>?_)
 refine zR (zS (b:=b28) (n:=1) (sz:=1) (E:=9) [[sv d]] Z (by simp) Z<|by decide) ?_
 simp only [lC,lN]
 refine bM hw0 Z Z en97 Z ((hme b28)) ?_
 rintro u h' ⟨Y,k',rfl,hE,v2,fv,ow,x,e0,us,rfl,hv2,hfv,how,hre,hor⟩
 simp only [lC,lN]
 unfold sI
 have h12:=iL (x:=x) (e:=e0) hv2 hfv how
 have hone:=Enc.ones hre
 have hme2:(bP l [d] c n).2=0->Good l/\(bQ l d).isSome=true/\(bQ l c).isSome=true/\(bP l [d] c n).1∈msF l c:=λhz=>by
  have hwz:wholeE l ([d]++[c])=0:=Classical.not_not.1 λh=>by
   unfold bP at hz
   rw [if_pos h] at hz
   exact h hz
  obtain ⟨hg,hcs⟩:=jR hwz
  have hd:=hcs d<|by simp
  have hc:=hcs c<|by simp
  have hmb:=hg.member (ns:=[d]) (n:=n) Zx hc
  refine ⟨hg,hd,hc,?_⟩
  rw [hmb] at hz ⊢
  cases hm:dI (msF l c) n with
  | none=>rw [hm] at hz; cases hz
  | some m=>exact (Ir hm).1
 have hver:vT l d c n=if (bP l [d] c n).2≠0 then ([],(bP l [d] c n).2) else if has (bC l) d c=false then ([],5) else
   match ul (look (build l).1 d).mems (bP l [d] c n).1.seeds with
   | []=>([],5)
   | [a]=>(a,0)
   | a::b::t=>if (a::b::t).contains (selOf l d ((bP l [d] c n).1.seeds.headD ⟨[],[]⟩)).1 then ((selOf l d ((bP l [d] c n).1.seeds.headD ⟨[],[]⟩)).1,0) else ([],5):=rfl
 rw [hver]
 clear hver
 generalize (bP l [d] c n).1=J at hre hme2 ⊢
 generalize (bP l [d] c n).2=e at hre hme2 hor ⊢
 obtain ⟨x2,x5,y,x11,x12,x13,rfl,hx2,-⟩:=bZ hre
 obtain ⟨sAq,sKq,rfl,_⟩:=id hx2.form
 unfold fI at *
 refine sM Z<|sV (ah Z Z)<|sV (ah Z Z)<|sV (ah Z Z) (ak oC λb10=>?_)
 refine ak iR λb11=>?_
 refine ai Z Z ji Z h12 ?_
 refine ai Z Z gF Z hone ?_
 refine sA Z<|sK [0,1,2,8,9,10,11,12] Z<|cS<|cQ<|sM Z<|sV (bK Z Z)<|sK [0,1,2,8,9,10,11,12,34] Z<|cC Z (λhq=>?_)<|λhq=>?_
 ·have hq:e≠0:=Zu
  obtain ⟨-,rfl⟩:=hor.resolve_right λh=>hq h.1
  rw [if_pos hq]
  refine cQ<|sM Z<|sA Z<|sA Z<|sK [8,9] Z<|cT<|xR<|fC ?_
  exact aj Z ⟨Y,[],Z,hE,Z,Z⟩ sbq
 ·have hq:e=0:=Zu
  obtain ⟨hg,hds,hcs,hmem⟩:=hme2 hq
  obtain ⟨-,hwq,mb,m,names,rfl,rfl,rfl,rfl,rfl,hm,rfl⟩:=hor.resolve_left λh=>h.1 hq
  rw [if_neg (λh=>h hq)]
  have hsne:=hg.seeds_ne c hcs J hmem
  have his:=Is_ct (wR<|hl.up hE) d c
  rw [show dQ (bC l) [d,c]=0 from eP.2 ⟨hg.sys,λk hk=>by
   simp only [List.mem_cons,List.mem_nil_iff,or_false] at hk
   rcases hk with rfl | rfl
   ·rw [ed]; exact hds
   ·rw [ed]; exact hcs⟩] at his
  simp only [decide_true,Bool.true_and] at his
  generalize has (bC l) d c=hs at his ⊢
  clear hor hme hme2
  simp only [lC,lN]
  refine cK<|xT<|cS<|cQ<|sM Z<|sM Z<|sM Z<|aJ Z Z en27 Z (his) ?_
  rintro u h' ⟨rfl,rfl⟩
  simp only [lC,lN]
  refine sM Z<|sV (ah Z Z)<|sV (ah Z Z)<|sA Z<|sA Z<|sK [1,8,9,10,11,13] Z<|cQ<|sM Z<|sV (aZ Z)<|sK [1,8,9,10,11,44] Z ?_
  cases hs with
  | false =>
   rw [if_pos rfl]
   refine aQ Z ?_
   refine cQ<|sA Z<|sA Z<|sK [8,9] Z<|cT<|xR<|fC ?_
   exact aj Z ⟨Y,[],Z,hE,Z,Z⟩ sbq
  | true =>
   rw [if_neg (by decide)]
   refine aH Z ?_
   refine cK<|xT<|cQ<|sA Z<|sK [1,8,9,10,11,15] Z<|cQ<|sV (vF Z gT Z)<|sV (vF Z iX Z)<|sV (vY Z qm) ?_
   refine sM Z ?_
   obtain ⟨fus,hfl,hfr⟩:=hm d
   obtain ⟨z1,z2,rfl,hz1,hz2⟩:=hfr
   obtain ⟨mA,mK,rfl,_⟩:=id hz1.form
   have hmf:=hg.few d
   refine sV (gG hfl<|bI Z Z qj ql slq) ?_
   refine sV (iU (k:=2) Z underlying55 Z isAgg52 Z)<|sA Z<|sK [1,8,9,10,11,15,16] Z<|cS<|Fb<|xT<|cS<|cS<|dK (cZ 9 1) ?_
   unfold selOf
   have hih:=λ(cus:List Value) (hcr:Enc.rep Y cus (ae l d)) (s:Sd)=>yf (mb:=mb) (hg.fits hS) l.length Y (ae l d) d cus (.slice mA (look (build l).1 d).mems.length mK) (look (build l).1 d).mems s rfl hrk (hl.up hE) hcr hm hz1
   unfold eu at hih
   have hcc:=l9 (n:=d) (fv:=.map<|some mb) (hl.up hE) rfl
   generalize (look (build l).1 d).mems=ms at hz1 hmf hih ⊢
   have hvl:=Hw ms J.seeds
   refine cR<|sM Z<|sV (aF Z underlying52)<|sM Z<|sN<|nT<|cB<|aW (σ := Value×Nat) (λq=>[(1,sv d),(10,.pointer (some ⟨b10,0,none⟩)),(11,.pointer (some ⟨b11,0,none⟩)),(15,q.1),(16,.slice mA ms.length mK),(51,.slice mA ms.length mK),(52,.int .i64 ms.length),(53,.int .i64 (q.2:Nat))]) (λq=>VR q.1 9 1 ((ul (ms.take q.2) J.seeds).map nC)::pt b11 (cl [sv J.name,.int .i64 J.kind,.slice sAq J.seeds.length sKq,sv J.impl.cls,sv J.impl.name,x5,.int .i64 J.ty.kind,sv J.ty.name,y,.bool J.ty.void,.bool J.ty.sep,x11,x12,x13] 75)::pt b10 (cl [.slice vAq l.length vK,.map (some mb),ow,.int .i64 cf0.kind,sv cf0.cls,sv cf0.name,sv cf0.other,sv cf0.a.par,sv cf0.a.name,sv cf0.b.par,sv cf0.b.name,.int .i64 0] 116)::Y::mps mb m::hr) (λq=>q.1.oneCell'=true/\q.2≤ms.length) (λq=>ms.length - q.2) (.slice none 0 0,0) ⟨Z,Nat.zero_le _⟩ ?_
   rintro ⟨w,i⟩ ⟨hw,hi⟩
   simp only at hw hi
   dsimp only
   refine cQ<|sV (aN Z Z)<|sN<|nT<|cS<|cC Z (λhd=>?_)<|λhd=>?_
   ·have hlt:i<ms.length:=Zx
    have hsn:=Mk hlt J.seeds
    have hvl2:=Hw (ms.take i) J.seeds
    rw [List.length_take] at hvl2
    obtain ⟨fb,fo,fcap,fus,e1,hfus,hfrd,hfr⟩:=hz1.at<|Zy hlt
    obtain ⟨rfl,rfl⟩:mA=some ⟨fb,fo,none⟩/\mK=fcap:=by cases e1; exact ⟨rfl,rfl⟩
    generalize ms[i]=xm at hfr hsn
    have hfo:=Enc.ones hfr
    obtain ⟨m2,m5,my,m11,m12,m13,rfl,hm2,-⟩:=bZ hfr
    obtain ⟨m2A,m2K,rfl,_⟩:=id hm2.form
    unfold fI at *
    refine cK<|xT<|cS<|cB<|cQ<|sV (vI (k:=i) Z Z kQ Z hlt Z)<|sV (af Z dJ Z hfrd) ?_
    refine ak iR λb18=>?_
    refine ai Z Z gF Z hfo ?_
    refine sK [1,10,11,15,16,18,51,52,53] Z<|cS<|cQ<|sV (vF Z dP Z)<|sV (vY Z nz) ?_
    refine sV (aF Z underlying67)<|sM Z<|sK [1,10,11,15,16,18,51,52,53,58,59,60] Z<|cB<|aW (σ := Nat) (λj=>[(1,sv d),(10,.pointer (some ⟨b10,0,none⟩)),(11,.pointer (some ⟨b11,0,none⟩)),(15,w),(16,.slice (some ⟨fb,fo,none⟩) ms.length mK),(18,.pointer (some ⟨b18,0,none⟩)),(51,.slice (some ⟨fb,fo,none⟩) ms.length mK),(52,.int .i64 ms.length),(53,.int .i64 (i:Nat)),(58,.slice sAq J.seeds.length sKq),(59,.int .i64 J.seeds.length),(60,.int .i64 (j:Nat))]) (λ_=>pt b18 (cl [sv xm.name,.int .i64 xm.kind,.slice m2A xm.seeds.length m2K,sv xm.impl.cls,sv xm.impl.name,m5,.int .i64 xm.ty.kind,sv xm.ty.name,my,.bool xm.ty.void,.bool xm.ty.sep,m11,m12,m13] 75)::VR w 9 1 ((ul (ms.take i) J.seeds).map nC)::pt b11 (cl [sv J.name,.int .i64 J.kind,.slice sAq J.seeds.length sKq,sv J.impl.cls,sv J.impl.name,x5,.int .i64 J.ty.kind,sv J.ty.name,y,.bool J.ty.void,.bool J.ty.sep,x11,x12,x13] 75)::pt b10 (cl [.slice vAq l.length vK,.map (some mb),ow,.int .i64 cf0.kind,sv cf0.cls,sv cf0.name,sv cf0.other,sv cf0.a.par,sv cf0.a.name,sv cf0.b.par,sv cf0.b.name,.int .i64 0] 116)::Y::mps mb m::hr) (λj=>j≤J.seeds.length/\∀ k (hk:k<J.seeds.length),k<j->xm.seeds.contains J.seeds[k]=true) (λj=>J.seeds.length - j) 0 ⟨Nat.zero_le _,λk _ hk=>absurd hk<|Nat.not_lt_zero _⟩ ?_
    rintro j ⟨hj,hal⟩
    try simp only at hj hal
    try dsimp only
    refine cQ<|sV (aN Z Z)<|sN<|nT<|cS<|cC Z (λhd2=>?_)<|λhd2=>?_
    ·have hltj:j<J.seeds.length:=Zw
     obtain ⟨gb,go,gcap,gus,e2,hgus,hgrd,hgr⟩:=hx2.at<|Zy hltj
     obtain ⟨rfl,rfl⟩:sAq=some ⟨gb,go,none⟩/\sKq=gcap:=by cases e2; exact ⟨rfl,rfl⟩
     have hcj:∀ hq:xm.seeds.contains J.seeds[j]=true,∀ k (hk:k<J.seeds.length),k<j+1->xm.seeds.contains J.seeds[k]=true:=λhq k hk hkj=>by
      by_cases h:k=j
      ·subst h; exact hq
      ·exact hal k hk<|by omega
     have hmemj:=List.getElem_mem hltj
     generalize J.seeds[j]=s at hgr hcj hmemj
     obtain rfl:gus=[sv s.cls,sv s.name]:=hgr
     refine cK<|xT<|cS<|cB<|cQ<|sV (vI (k:=j) Z Z oh Z hltj Z)<|sV (af Z gM Z hgrd) ?_
     refine ak al69 λb20=>?_
     refine ai Z Z sz69 Z Z ?_
     refine sK [1,10,11,15,16,18,20,51,52,53,58,59,60] Z<|cQ<|sV (vF Z dP Z)<|sV (vY Z nz) ?_
     refine sV (af Z gM Z ag) ?_
     refine aX Z Z en33 Z (vW (s:=s) hm2) ?_
     refine sV (aZ Z)<|sK [1,10,11,15,16,18,51,52,53,58,59,60,68] Z<|cC Z (λhct=>?_)<|λhct=>?_
     ·have hct:xm.seeds.contains s=false:=Zd
      have hsn2:ul (ms.take (i+1)) J.seeds=ul (ms.take i) J.seeds:=by
       rw [hsn,if_neg,List.append_nil]
       intro h
       rw [List.all_eq_true.1 h s hmemj] at hct; cases hct
      refine aC<|fO (by decide) ?_
      refine xE<|xE<|fO (by decide) ?_
      refine xE<|xY<|xT<|cR<|sV (aI Z Z Z0)<|sM Z<|sN<|nK [1,10,11,15,16,51,52,53] Z<|ax ?_
      rw [<- hsn2]
      refine aM (w,i+1) ⟨hw,hlt⟩ (by show ms.length - (i+1)<ms.length - i; omega)
     ·have hct:xm.seeds.contains s=true:=Zd
      refine cK<|xB<|xT<|cR<|sV (aI Z Z Z0)<|sM Z<|sN<|nK [1,10,11,15,16,18,51,52,53,58,59,60] Z<|ax ?_
      refine aM (j+1) ⟨hltj,hcj hct⟩ (by show J.seeds.length - (j+1)<J.seeds.length - j; omega)
    ·have hje:j=J.seeds.length:=Nat.le_antisymm hj<|Nat.not_lt.1 Zw
     subst hje
     rw [if_pos (List.all_eq_true.2 λs hs=>by
      obtain ⟨k,hk,rfl⟩:=List.getElem_of_mem hs
      exact hal k hk hk)] at hsn
     refine aC<|xE<|xE<|xY<|xT<|cR<|sM Z<|sV (vF Z dC Z)<|sV (vY Z ld9) ?_
     refine au (cells:=[sv xm.name]) Z underlying40 fP Z Z Zz (ltn Z) λb73=>?_
     refine d9 [[sv xm.name]] Z Z underlying40 fP Z (by decide) (show Sel _ (VR w 9 1<|(ul (ms.take i) J.seeds).map nC) _ from slq) (by simp) Z (λj u2 hu2=>bS<|bU Zr) (by simp [sv,Value.oneCell']) (by rw [List.length_map]; omega) (by rw [List.length_map]; omega) (ltn Z) λw2 hw2 _=>?_
     refine sA Z<|sN<|nK [1,10,11,15,16,51,52,53] Z<|ax<|xB<|xT<|cR<|sV (aI Z Z Z0)<|sM Z<|sN<|nK [1,10,11,15,16,51,52,53] Z<|ax ?_
     rw [show (ul (ms.take i) J.seeds).map nC++[[sv xm.name]]=(ul (ms.take (i+1)) J.seeds).map nC by rw [hsn,List.map_append]; rfl]
     refine aM (w2,i+1) ⟨hw2,hlt⟩ (by show ms.length - (i+1)<ms.length - i; omega)
   ·have hie:i=ms.length:=Nat.le_antisymm hi<|Nat.not_lt.1 Zx
    subst hie
    rw [List.take_length]
    generalize ul ms J.seeds=L at hvl ⊢
    refine gz (v:=w) (E:=9) (sz:=1) (rows:=L.map nC) slq λwa wc hwf hwl hwm=>?_
    rw [List.length_map] at hwf hwl
    subst hwf
    refine fQ (r:=VR (.slice wa L.length wc) 9 1<|L.map nC) slq λhok=>?_
    have hwa:L≠[]->∃ ab ao,wa=some ⟨ab,ao,none⟩:=λhne=>by
     obtain ⟨f0,hf0⟩:=hok
     rcases VR.form hf0 with ⟨h3,h4⟩ | ⟨b,o,cp,h3,-⟩
     ·exact absurd (List.map_eq_nil_iff.1 h4) hne
     ·rw [List.length_map] at h3; cases h3; exact ⟨b,o,rfl⟩
    refine aC<|xE<|xE<|xY<|xT<|cS<|cQ<|sM Z<|sV (aF Z underlying40)<|sK [1,10,11,15,16,77] Z<|cB<|cQ ?_
    refine sV (dE Z Z)<|sA Z<|sK [1,10,11,15,16,77,78] Z<|cC Z (λh0=>?_)<|λh0=>?_
    ·have h0:L=[]:=List.eq_nil_of_length_eq_zero<|by simpa using h0
     subst h0
     refine cQ<|sA Z<|sA Z<|sK [8,9] Z<|cT<|xW<|xR<|fC ?_
     exact aj Z ⟨Y,[],Z,hE,Z,Z⟩ sbq
    ·have h0:L≠[]:=λh=>by subst h; simp at h0
     refine cQ<|sV (dE Z Z)<|sA Z<|sK [1,10,11,15,16,80] Z<|cC Z (λh1=>?_)<|λh1=>?_
     ·have h1:((L.length:Nat):Int)=1:=Ze
      have h1':L.length=1:=by omega
      obtain ⟨a,rfl⟩:∃ a,L=[a]:=List.length_eq_one_iff.1 h1'
      obtain ⟨ab,ao,rfl⟩:=hwa h0
      refine cQ<|sM Z<|sV (vI (k:=0) Z Z iZ Z (by simp) Z) ?_
      refine sV (vY Z ld9 (ha:=⟨_,_,slq,eX (show ([a].map nC)[0]? = some [sv a] from Z) 0<|by simp⟩)) ?_
      refine sA Z<|sA Z<|sK [8,9] Z<|cT<|xW<|xR<|fC ?_
      exact aj Z ⟨Y,[],Z,hE,Z,Z⟩ sbq
     ·obtain ⟨a,b,tl,rfl⟩:∃ a b tl,L=a::b::tl:=by
       match L,h0,h1 with
       | [a],_,h1=>simp at h1
       | a::b::tl,_,_=>exact ⟨a,b,tl,rfl⟩
      obtain ⟨s0,ss,hss⟩:=List.exists_cons_of_ne_nil hsne
      rw [show J.seeds.headD ⟨[],[]⟩=s0 by rw [hss]; rfl]
      have hls0:0<J.seeds.length:=by rw [hss]; simp
      obtain ⟨gb,go,gcap,gus,e2,hgus,hgrd,hgr⟩:=hx2.at (i:=0) (a:=s0) (by rw [hss]; rfl)
      obtain ⟨rfl,rfl⟩:sAq=some ⟨gb,go,none⟩/\sKq=gcap:=by cases e2; exact ⟨rfl,rfl⟩
      obtain rfl:gus=[sv s0.cls,sv s0.name]:=hgr
      have hih:=λ(cus:List Value) (hcr:Enc.rep Y cus (ae l d))=>hih cus hcr s0
      generalize eT (look (build l).1) l l.length (ae l d) ms s0=r at hih ⊢
      refine cK<|xB<|xT<|cS<|bB (ork [(0,2),(1,1),(2,2),(3,1),(4,2),(6,2),(7,2),(8,1),(9,2),(10,1),(5,0),(11,0),(12,2),(13,2),(14,2),(15,2),(16,2)] .nil) (λi => !(Nat.beq i 11)) mixed Zz ?_
      refine dV Z (vF Z gT Z)<|bi Z (af Z gZ Z<|bD (k:=0) ag (vs:=[.slice vAq l.length vK,.map (some mb)]) Z) ?_
      refine dV Z (vF Z gT Z)<|bi Z (af Z gZ Z<|bD (k:=0) ag (vs:=[.slice vAq l.length vK,.map (some mb)]) Z) ?_
      refine dV Z (vM Z)<|dV Z (vM Z)<|dV Z (vF Z dP Z)<|bi Z (vY Z nz) ?_
      refine dV Z (vI (k:=0) Z Z oh Z hls0 Z)<|bi Z (af Z gM Z hgrd) ?_
      refine aV Z<|aJ Z Z en56 Z (hcc) ?_
      rintro u h' ⟨rfl,cus,rfl,hcr⟩
      simp only [lC,lN]
      refine aY ?_
      refine aV Z<|bM hw0 Z Z en98 Z (hih cus hcr) ?_
      rintro u h' ⟨Z2,k2,rfl,hE3,rfl,rfl⟩
      simp only [lC,lN]
      refine aY ?_
      refine dV Z (vM Z)<|dV Z (ah Z Z)<|dV Z (ah Z Z)<|dV Z (vA Z)<|dV Z (vA Z)<|bA<|nK [15,21] Z<|nT<|cS<|cQ<|sM Z<|sM Z<|aX Z Z D5 Z (fF (iY hok) r.1<|by omega) ?_
      refine sV (aZ Z)<|sK [21,103] Z<|cC Z (λhcq=>?_)<|λhcq=>?_
      ·rw [if_neg (by simpa using hcq)]
       refine cQ<|sA Z<|sA Z<|sK [8,9] Z<|cT<|xR<|fC ?_
       exact aj Z ⟨Z2,[],Z,hE.trans hE3,Z,Z⟩ sbq
      ·rw [if_pos (by rw [Bool.not_eq_false'] at hcq; exact hcq)]
       refine cK<|xT<|cQ<|sM Z<|sA Z<|sA Z<|sK [8,9] Z<|cT<|fC ?_
       exact aj Z ⟨Z2,[],Z,hE.trans hE3,Z,Z⟩ sbq
end
end Go.Fl
namespace Go.Fl
open Go Go.Hr
def nP:Nm:=[80]
def nA:Nm:=[65]
def nB:Nm:=[66]
def nQ:Nm:=[67]
def na:Nm:=[97]
def nb:Nm:=[98]
def nn:Nm:=[110]
def uE:Nm:=[65,78,89]
def ty0:Kt:=.mk 0 [] [] false false
def rP (n:Nm):Fe:=⟨2,n,[uE],[],ty0,[],[]⟩
def Hy (n:Nm):Fe:=⟨1,n,[uE],[],.mk 1 [] [] false false,[],[]⟩
def exPc:FC:=⟨nP,false,[],[],[rP na,Hy nn],[]⟩
def exAc (und:List Nm):FC:=⟨nA,false,[],[⟨nP,[],[],und,[],[]⟩],[],[]⟩
def exBc (red:List Nm):FC:=⟨nB,false,[],[⟨nP,[],[⟨na,nb⟩],[],red,[]⟩],[rP nb],[]⟩
def exQc (sel:List Nm):FC:=⟨nQ,false,[],[⟨nA,[],[],[],[],[]⟩,⟨nB,[],[],[],[],sel⟩],[],[]⟩
def AP (und red sel:List Nm):FS:=[exPc,exAc und,exBc red,exQc sel]
def ex1:FS:=AP [] [nb] []
def ex2:FS:=AP [] [nb] [nb]
def ex3:FS:=AP [] [] []
def ex4:FS:=AP [nn] [nb] []
def cf1:Cf:=⟨11,nQ,na,nb,⟨nP,na⟩,og0⟩
def cf3:Cf:=⟨7,nB,nb,[],⟨nP,na⟩,og0⟩
def cf4:Cf:=⟨4,nA,nn,[],⟨nP,nn⟩,og0⟩
theorem Ml:kG ex1=(cf1,true,0):=by decide +kernel
theorem Mm:lX ex1 cf1=0:=by decide +kernel
theorem Mo:kG ex3=(cf3,true,0):=by decide +kernel
theorem Mq:lX ex3 cf3=0:=by decide +kernel
theorem Mr:kG ex4=(cf4,true,0):=by decide +kernel
theorem Ms:lX ex4 cf4=0:=by decide +kernel
theorem Hz:eB ex2 nQ=((eB ex2 nQ).1,0)/\(eB ex2 nQ).1.mems.length=3/\((eB ex2 nQ).1.mems.map λm=>m.name)=[na,nb,nn]:=by decide +kernel
theorem Dm:eB ex2 nB=((eB ex2 nB).1,0)/\((eB ex2 nB).1.mems.map λm=>(m.impl,m.seeds))=[(⟨nB,nb⟩,[⟨nP,na⟩]),(⟨nP,nn⟩,[⟨nP,nn⟩])]:=by decide +kernel
theorem Mt:jP ex2 nQ ⟨nP,na⟩=([na,nb],0):=by decide +kernel
theorem HV:oriP ex2 nQ nn=([⟨nA,nn⟩,⟨nB,nn⟩],0):=by decide +kernel
theorem HY:vT ex2 nQ nP na=(nb,0):=by decide +kernel
end Go.Fl
namespace Go.Fl
open Go Go.RowKit Go.Ck Go.Proofs Go.Proofs.Tryz Go.Proofs.YtknmacdbffgjgaaGreatDoor Fx Go.Hr
section
variable {P:Program} {w:World} {xs ys:Array Value} {d:Nat}
theorem lw {f : Field} {fs : List Field} {a b : Value} {r r2 : Bool} (h1 : f.name ≠ "_") (ha : (part f.type xs f.offset).run P w = .ok a w) (hb : (part f.type ys f.offset).run P w = .ok b w)
  (he:(Op.equalIn d f.type a b).run P w = .ok r w) (ht:(Op.eqFields d xs ys fs).run P w = .ok r2 w):(Op.eqFields d xs ys (f::fs)).run P w = .ok (r && r2) w:=by
 unfold Op.eqFields
 rw [if_pos h1]
 simp only [Sem.run_bind,ha,hb,he,Result.andThen_ok]
 cases r
 ·rw [if_pos (by rfl)]; rfl
 ·rw [if_neg (by simp),ht]; rfl
theorem fG {T:TypeId} {i:Nat} {v:Value} (hi:(isAgg T).run P w = .ok false w) (hx:xs[i]? = some v):(part T xs i).run P w = .ok v w:=by
 unfold part
 simp only [Sem.run_bind,hi,Result.andThen_ok,Bool.false_eq_true,if_false,hx,Sem.run_pure]
theorem kZ {T:TypeId} {i n:Nat} (hi:(isAgg T).run P w = .ok true w) (hs:(sizeOf T).run P w = .ok n w):(part T xs i).run P w = .ok (.agg (xs.extract i (i+n))) w:=by
 unfold part
 simp only [Sem.run_bind,hi,hs,Result.andThen_ok,if_true,Sem.run_pure]
end
theorem Dn (w:World) (d:Nat) (a b c e:Nm):(Op.equalIn (d+2) 24 (.agg #[sv a,sv b]) (.agg #[sv c,sv e])).run prog w = .ok ([a,b] == [c,e]) w:=by
 have hf:prog.underlying 24=some (.struct<|prog.fieldsOf 24):=by simp [Program.fieldsOf,underlying24]
 rw [run_equalIn_struct w (d+1) 24 _ _ hf Zz]
 exact ug (xs:=[a,b]) (ys:=[c,e]) (prog.fieldsOf 24).toList 0 Zz Zz Zz
theorem cf_beq {x y:Cf}:decide (x=y)=(x.kind == y.kind && (x.cls == y.cls && (x.name == y.name && (x.other == y.other && ([x.a.par,x.a.name] == [y.a.par,y.a.name] && ([x.b.par,x.b.name] == [y.b.par,y.b.name] && true)))))):=by
 obtain ⟨k,c,n,o,⟨a1,a2⟩,⟨b1,b2⟩⟩:=x
 obtain ⟨k',c',n',o',⟨a1',a2'⟩,⟨b1',b2'⟩⟩:=y
 rw [Bool.eq_iff_iff]
 simp
theorem Dp {P:Program} {T:TypeId} {k:IntKind} {w:World} (hu:P.underlying T=some (.int k)):(isAgg T).run P w = .ok false w:=by
 unfold isAgg
 simp only [Sem.run_bind,run_underlying hu,Result.andThen_ok]
 rfl
theorem lD {P:Program} {T:TypeId} {w:World} (hu:P.underlying T=some .string):(isAgg T).run P w = .ok false w:=by
 unfold isAgg
 simp only [Sem.run_bind,run_underlying hu,Result.andThen_ok]
 rfl
theorem eqC (w:World) (x y:Cf):(Op.equalIn 10000 26 (cfV x) (cfV y)).run prog w = .ok (decide (x=y)) w:=by
 have hf:prog.underlying 26=some (.struct<|prog.fieldsOf 26):=by simp [Program.fieldsOf,underlying26]
 have hs:(sizeOf 24).run prog w = .ok 2 w:=Zz
 have ha:(isAgg 24).run prog w = .ok true w:=Zz
 unfold cfV
 rw [run_equalIn_struct w 9999 26 _ _ hf Zz,cf_beq]
 rw [show prog.fieldsOf 26=_ from by rw [Program.fieldsOf,underlying26]]
 refine lw (by decide) (fG (Dp underlying3) Z) (fG (Dp underlying3) Z) (run_equalIn_int w 9998 3 .i64 .i64 _ _ underlying3) ?_
 have hstr:∀ a b:Nm,(Op.equalIn 9999 9 (sv a)<|sv b).run prog w = .ok (a == b) w:=λa b=>by
  rw [show (Op.equalIn 9999 9 (sv a)<|sv b).run prog w=_ from run_equalIn_string w 9998 9 _ _ underlying9,iG,iG]
 refine lw (by decide) (fG (lD underlying9) Z) (fG (lD underlying9) Z) (hstr _ _) ?_
 refine lw (by decide) (fG (lD underlying9) Z) (fG (lD underlying9) Z) (hstr _ _) ?_
 refine lw (by decide) (fG (lD underlying9) Z) (fG (lD underlying9) Z) (hstr _ _) ?_
 refine lw (by decide) (kZ ha hs) (kZ ha hs) (Dn w 9997 _ _ _ _) ?_
 refine lw (by decide) (kZ ha hs) (kZ ha hs) (Dn w 9997 _ _ _ _) ?_
 simp [Op.eqFields]
theorem gd26:prog.eqGuardType prog.depth 26=false:=Zz
section
variable {e:Env} {h:SH} {ty:TypeId}
theorem v_eqC {t':TypeId} {x y:Operand} {a b:Cf} (hx:e.ev? x=some (cfV a)) (hy:e.ev? y=some (cfV b)):Vop prog e h (.binOp .eql 26 x y t') ty (.bool (decide (a=b))):=
 ⟨by simp,by simp,λρ w dd pos after g hρ _=>by
  have hq:=eqC w a b
  unfold cfV at *
  simp only [execOp,hρ x _ hx,hρ y _ hy,Sem.run_bind,run_eqGuard_agg w .eql 26 x y _ _ gd26,Result.andThen_ok,run_eql_struct,hq,Sem.run_pure]⟩
end
end Go.Fl
