/-
  Conflicts compared: a struct of a number,texts and structs of texts. No condition.
-/
import Derived.Test.YtknmacdbffgjgaaGreatDoorM25
import Derived.Test.YtknmacdbffgjgaaGreatDoorM11
import Derived.Test.YtknmacdbffgjgaaGreatDoorM9
set_option linter.unusedVariables false
set_option linter.unusedSimpArgs false
set_option maxRecDepth 100000
set_option maxHeartbeats 16000000
namespace Go.Fl
open Go Go.RowKit Go.Ck Go.Proofs Go.Proofs.Tryz Go.Proofs.YtknmacdbffgjgaaGreatDoor Fx Go.Hr
attribute [local irreducible] Go.Ck.Sub St Cd Xt Nx DrL LsW
theorem jb {v fv ow:Value} {x:Cf} {e:Int} (h1:v.oneCell'=true) (h2:fv.oneCell'=true) (h3:ow.oneCell'=true):([v,fv,ow,.int .i64 x.kind,sv x.cls,sv x.name,sv x.other,sv x.a.par,sv x.a.name,sv x.b.par,sv x.b.name,.int .i64 e]:List Value).all Value.oneCell'=true:=by
 simp only [List.all_cons,List.all_nil,h1,h2,h3,Bool.and_true,Bool.true_and]; rfl
section
variable {X:Res} {v nv:Value}
theorem vR (hX : Spc X) {l : FS} (hl : Ls X v l) (hS : jw l) {ns : List Nm} (hn : Ls X nv ns) : eG prog 54 #[v, nv] X [] fun u Y k' => ∃ v2 fv ow x e, u = .tuple #[.agg (tX v2 fv ow x e).toArray, .int .i64 (wholeE l ns)] ∧ v2.oneCell' = true ∧ fv.oneCell' = true ∧ ow.oneCell' = true ∧
  ((wholeE l ns≠0∧k'=[])∨(wholeE l ns=0∧∃ mb m names,v2=v∧fv = .map (some mb)∧x=cf0∧e=0∧k'=[mps mb m,VR ow 9 1 (names.map nC)]∧FlR Y m (look (build l).1)∧names=order (bn l))):=by
 have hml:maxLen=9223372036854775807:=rfl
 obtain ⟨vA,vK,rfl,_⟩:=id hl.form
 obtain ⟨nA,nK,rfl,_⟩:=id hn.form
 have hck:=xK hX hl
 unfold eG
 refine fO (n:=43) func54 Z Z (len Z) fun hr w0 hw0=>?_
 refine cQ (au pM fun b4=>?_)
 refine sV (vA9 Z) (sN (nT (cS (cQ (sM Z (bM hw0 Z Z en16 Z (hck) ?_))))))
 rintro u h' ⟨rfl,rfl⟩
 simp only [lC,lN]
 refine sM Z (sV (ah Z Z) (sV (ah Z Z) (sV (vA9 Z) (sV (vA9 Z) (sN (nK9 [0,1,4,5,6] Z (nT (cQ (sM Z (sV (bT Z Z) (sN (nK9 [0,1,4,5,6,19] Z (nT (cC Z (fun hz=>?_) (fun hz=>?_)))))))))))))))
 ·have hz:(bQ l).1≠0:=by simpa using hz
  have hw:wholeE l ns=(bQ l).1:=by unfold wholeE; rw [if_pos hz]
  refine cQ (sV (aN (cells:=[.slice none 0 0,.map none,.slice none 0 0,.int .i64 0,sv [],sv [],sv [],sv [],sv [],sv [],sv [],.int .i64 0]) Z (fun _=>by kernel_rfl)) ?_)
  refine sM Z (ai Z Z jg Z Z ?_)
  refine sV (vA9 Z) (sN (nK9 [4,5] Z (nT (cT (xR ?_)))))
  rw [hw]
  exact bC (.cellN Z lh Z slq (.tmp Z .nil)) ⟨X,[],Z,Ext.refl X,.slice none 0 0,.map none,.slice none 0 0,cf0,0,Z,Z,Z,Z,.inl ⟨hz,Z⟩⟩ sbr
 ·have hz:(bQ l).1=0:=by simpa using hz
  have hR:=fT.1 hz
  refine cK9 (xT (cS (cQ (sM Z (sV (aF Z underlying40) (sM Z (sN (nK9 [0,4,5,22,23,24] Z (nT (cB (aZ (σ := Nat) (fun i=>[(0,.slice vA l.length vK),(22,.slice nA ns.length nK),(23,.int .i64 ns.length),(24,.int .i64 (i:Nat)),(4,.pointer (some ⟨b4,0,none⟩))]) (fun _=>pt b4 (cl [.slice none 0 0,.map none,.slice none 0 0,.int .i64 0,sv [],sv [],sv [],sv [],sv [],sv [],sv [],.int .i64 0] 116)::X::hr) (fun i=>i≤ns.length∧∀ j (hj:j<ns.length),j<i→(bL l ns[j]).isSome=true) (fun i=>ns.length - i) 0 ⟨Nat.zero_le _,fun j _ hj=>absurd hj (Nat.not_lt_zero _)⟩ ?_)))))))))))
  rintro i ⟨hi,hal⟩
  try dsimp only
  refine cQ (sV (aO Z Z) (sN (nT (cS (cC Z (fun hd=>?_) (fun hd=>?_))))))
  ·have hlt:i<ns.length:=by simpa using hd
   obtain ⟨b,o,cap2,us,e1,hus,hrd,hre⟩:=hn.at (List.getElem?_eq_getElem hlt)
   cases e1
   obtain rfl:us=[sv ns[i]]:=hre
   have hfi:=tH (n:=ns[i]) hl
   rw [show (l.find? fun c=>c.name == ns[i])=bL l ns[i] from rfl] at hfi
   have hnx:∀ hfs:(bL l ns[i]).isSome=true,∀ j (hj:j<ns.length),j<i+1→(bL l ns[j]).isSome=true:=fun hfs j hj hji=>by
    by_cases h:j=i
    ·subst h; exact hfs
    ·exact hal j hj (by omega)
   have hbad:(bL l ns[i]).isSome=false→wholeE l ns=5:=fun hq=>by
    unfold wholeE
    rw [if_neg (by rw [hz]; simp),if_neg]
    intro h
    rw [List.all_eq_true.1 h _ (List.getElem_mem hlt)] at hq; cases hq
   generalize ns[i]=n at hrd hfi hnx hbad
   generalize hfs:(bL l n).isSome=fs at hfi hnx hbad
   refine cK9 (xT (cS (cB (cQ (sV (vI (k:=i) Z Z jh Z hlt Z) (sV (vY Z ld9 (ha:=⟨X,_,slq,hrd 0 (by simp)⟩)) ?_))))))
   refine sV (vA9 Z) (sN (nK9 [0,4,9,22,23,24] Z (nT (cQ (sM Z (sM Z (aH Z Z en117 Z (hfi) ?_)))))))
   rintro u h' ⟨rfl,us,rfl,hre2⟩
   simp only [lC,lN]
   have hone:=Enc.ones hre2
   obtain ⟨ca,cb,ce,cf,ci,rfl,-⟩:=gq hre2
   refine sM Z (sV (ah Z Z) (sV (ah Z Z) (au nJ fun b10=>?_)))
   refine ai Z Z lS Z hone ?_
   refine sV (vA9 Z) (sN (nK9 [0,4,11,22,23,24] Z (nT (cQ (sM Z (sV (bi Z) (sN (nK9 [0,4,22,23,24,35] Z (nT ?_)))))))))
   cases fs with
   | false =>
    rw [hbad rfl]
    refine aT Z ?_
    refine cQ (sV (aN (cells:=[.slice none 0 0,.map none,.slice none 0 0,.int .i64 0,sv [],sv [],sv [],sv [],sv [],sv [],sv [],.int .i64 0]) Z (fun _=>by kernel_rfl)) ?_)
    refine ai Z Z jg Z Z ?_
    refine sV (vA9 Z) (sN (nK9 [4,5] Z (nT (cT (xW (xR (xR (xW (xR ?_)))))))))
    exact bC (.cellN Z lh Z slq (.tmp Z .nil)) ⟨X,[],Z,Ext.refl X,.slice none 0 0,.map none,.slice none 0 0,cf0,0,Z,Z,Z,Z,.inl ⟨by decide,Z⟩⟩ sbr
   | true =>
    refine aG Z ?_
    refine cK9 (xB (xT (cR (sV (aI Z Z (by unfold I64 at *; omega)) (sM Z (sN (nK9 [0,4,22,23,24] Z (ax ?_))))))))
    refine aJ (i+1) ⟨hlt,hnx Z⟩ (by show ns.length - (i+1)<ns.length - i; omega)
  ·have hie:i=ns.length:=Nat.le_antisymm hi (Nat.not_lt.1 (by simpa using hd))
   subst hie
   refine aB (xE (xE (xY (xT (cQ (sM Z ?_))))))
   have hbd:=GD hl hR hS
   unfold eG at hbd
   have hall:ns.all (fun n=>(bL l n).isSome)=true:=List.all_eq_true.2 fun n hn=>by
    obtain ⟨j,hj,rfl⟩:=List.getElem_of_mem hn
    exact hal j hj hj
   have hw:wholeE l ns=(build l).2.2:=by unfold wholeE; rw [if_neg (by rw [hz]; simp),if_pos hall]
   refine bM hw0 Z Z en53 Z (hbd) ?_
   rintro u h' ⟨Y,k',rfl,hE,mb,m,ow,names,rfl,rfl,hm,hnm,how⟩
   simp only [lC,lN]
   unfold tX
   have h12:=jb (v:=.slice vA l.length vK) (fv:=.map (some mb)) (ow:=ow) (x:=(build l).2.1) (e:=(build l).2.2) rfl rfl how
   refine au pM fun b12=>?_
   refine ai Z Z jg Z h12 ?_
   refine sN (nK9 [4,12] Z (nT (cS (jd (ork [(0,1),(1,2),(2,1),(3,0),(4,2)] .nil) (fun _=>true) [pt b12 (cl [.slice vA l.length vK,.map (some mb),ow,.int .i64 (build l).2.1.kind,sv (build l).2.1.cls,sv (build l).2.1.name,sv (build l).2.1.other,sv (build l).2.1.a.par,sv (build l).2.1.a.name,sv (build l).2.1.b.par,sv (build l).2.1.b.name,.int .i64 (build l).2.2] 116)] mixed (by kernel_rfl) ?_))))
   refine bu Z (ag Z lh Z af) ?_
   refine dV Z (vF Z uT Z) (bu Z (vY Z Bn) ?_)
   refine aQ Z (ai Z Z jg Z h12 ?_)
   refine aW ?_
   refine dV Z (vA9 Z) (bA (nK9 [4,5] Z (nT (cT ?_))))
   rw [← hw]
   by_cases hw0:wholeE l ns=0
   ·have hg:=(jL hw0).1
    have hx:(build l).2.1=cf0:=by rw [hg.err]
    exact bC (.cellN Z lh Z slq (.tmp Z .nil)) ⟨Y,[mps mb m,VR ow 9 1 (names.map nC)],Z,hE,.slice vA l.length vK,.map (some mb),ow,(build l).2.1,wholeE l ns,Z,Z,Z,how,.inr ⟨hw0,mb,m,names,Z,Z,hx,hw0,Z,hm,hnm.trans hg.ords⟩⟩ sbr
   ·exact bC (.cellN Z lh Z slq (.tmp Z .nil)) ⟨Y,[],Z,hE,.slice vA l.length vK,.map (some mb),ow,(build l).2.1,wholeE l ns,Z,Z,Z,how,.inl ⟨hw0,Z⟩⟩ sbr
end
end Go.Fl
namespace Go.Fl
open Go Go.RowKit Go.Ck Go.Proofs Go.Proofs.Tryz Go.Proofs.YtknmacdbffgjgaaGreatDoor Fx Go.Hr
theorem rep_fl0 {X:Res}:Enc.rep X [sv [],.bool false,.slice none 0 0,.slice none 0 0] fl0:=⟨.slice none 0 0,.slice none 0 0,rfl,Ls.nil,Ls.nil⟩
theorem rws_nm {Y:Res} (xs:List Nm):Rws Y (xs.map nC) xs:=⟨by simp,fun j us x h1 h2=>by
 rw [List.getElem?_map,h2] at h1
 cases h1; rfl⟩
theorem nm_ls {Y:Res} {w:Value} {xs:List Nm} (hok:∃ f,(VR w 9 1 (xs.map nC)).ok f) (hr:∀ p u,Rd (VR w 9 1 (xs.map nC)) p u→Rd Y p u) (hb:xs.length≤1000000000):Ls Y w xs :=
 Rws.ls (E:=9) (rws_nm xs) hok hr (by show xs.length * 16≤140737488351232; omega)
theorem Good.few {l:FS} (h:Good l) (n:Nm):(Fl.look (Fl.build l).1 n).mems.length≤60:=h.flb.few n
theorem IW (ms:List Mb) (s:Sd):(aY ms s).length≤ms.length:=by
 unfold aY; rw [List.length_map]; exact List.length_filter_le _ _
attribute [local irreducible] Go.Ck.Sub St Cd Xt Nx DrL LsW
section
variable {X:Res} {v:Value} {l:FS}
theorem GI (hX:Spc X) (hl:Ls X v l) (hS:jw l):eG prog 12 #[v] X [] fun u Y k'=>k'=[]∧u = .tuple #[cfV (d9 l).1,.bool (d9 l).2.1,.int .i64 (d9 l).2.2]:=by
 have hml:maxLen=9223372036854775807:=rfl
 obtain ⟨vA,vK,rfl,_⟩:=id hl.form
 have hck:=xK hX hl
 unfold eG
 refine fO (n:=28) func12 Z Z (len Z) fun hr w0 hw0=>?_
 refine cQ (au Bo fun b2=>?_)
 refine sV (vA9 Z) (sV (vA9 Z) (sN (nT (cS (cQ (sM Z (bM hw0 Z Z en16 Z (hck) ?_)))))))
 rintro u h' ⟨rfl,rfl⟩
 simp only [lC,lN]
 refine sM Z (sV (ah Z Z) (sV (ah Z Z) (sV (vA9 Z) (sV (vA9 Z) (sN (nK9 [0,2,3,4,5] Z (nT (cQ (sM Z (sV (bT Z Z) (sN (nK9 [0,2,3,4,5,14] Z (nT (cC Z (fun hz=>?_) (fun hz=>?_)))))))))))))))
 ·have hz:(bQ l).1≠0:=by simpa using hz
  have hp:d9 l=(cf0,false,(bQ l).1):=(xh hz).1
  rw [hp]
  refine cQ (sV (aN (cells:=[.int .i64 0,sv [],sv [],sv [],sv [],sv [],sv [],sv []]) Z (fun _=>by kernel_rfl)) ?_)
  refine sM Z (ai Z Z uL Z Z ?_)
  refine sV (vA9 Z) (sV (vA9 Z) (sN (nK9 [2,3,4] Z (nT (cT (xR ?_))))))
  exact bC (.cellN Z qy Z slq (.tmp Z (.tmp Z .nil))) ⟨X,[],Z,Ext.refl X,Z,Z⟩ sbr
 ·have hz:(bQ l).1=0:=by simpa using hz
  have hR:=fT.1 hz
  have hbd:=GD hl hR hS
  unfold eG at hbd
  have hp:=(vg hz).1
  rw [hp]
  refine cK9 (xT (cQ (sM Z (bM hw0 Z Z en53 Z (hbd) ?_))))
  rintro u h' ⟨Y,k',rfl,hE,mb,m,ow,names,rfl,rfl,hm,hnm,how⟩
  simp only [lC,lN]
  unfold tX
  have h12:=jb (v:=.slice vA l.length vK) (fv:=.map (some mb)) (ow:=ow) (x:=(build l).2.1) (e:=(build l).2.2) rfl rfl how
  generalize (build l).2.1=x at h12 ⊢
  generalize (build l).2.2=e at h12 ⊢
  refine au pM fun b7=>?_
  refine ai Z Z jg Z h12 ?_
  refine sN (nK9 [2,3,4,7] Z (nT (cS (cQ (sV (vF Z uT Z) (sV (vY Z Bn) ?_))))))
  refine sV (dB Z Z) (sN (nK9 [2,3,4,7,21] Z (nT (cC Z (fun he=>?_) (fun he=>?_)))))
  ·have he:e=3:=by simpa using he
   rw [if_pos he]
   refine cQ (sV (aN (cells:=[.int .i64 0,sv [],sv [],sv [],sv [],sv [],sv [],sv []]) Z (fun _=>by kernel_rfl)) ?_)
   refine ai Z Z uL Z Z ?_
   refine sV (vA9 Z) (sV (vA9 Z) (sN (nK9 [2,3,4] Z (nT (cT (xR ?_))))))
   exact bC (.cellN Z qy Z slq (.tmp Z (.tmp Z .nil))) ⟨Y,[],Z,hE,Z,Z⟩ sbr
  ·have he:e≠3:=by simpa using he
   rw [if_neg he]
   refine cK9 (xT (cS (jd (ork [(0,2),(1,1),(2,2),(3,1),(4,2),(5,0),(6,2),(7,2)] .nil) (fun _=>true) [pt b7 (cl [.slice vA l.length vK,.map (some mb),ow,.int .i64 x.kind,sv x.cls,sv x.name,sv x.other,sv x.a.par,sv x.a.name,sv x.b.par,sv x.b.name,.int .i64 e] 116)] mixed (by kernel_rfl) ?_)))
   refine dV Z (vF Z Jy Z) (bu Z (ag Z qy Z (bF (k:=3) af (vs:=[.int .i64 x.kind,sv x.cls,sv x.name,sv x.other,sv x.a.par,sv x.a.name,sv x.b.par,sv x.b.name]) Z)) ?_)
   refine dV Z (vF Z uT Z) (bu Z (vY Z Bn) ?_)
   refine dV Z (dB Z Z) (aQ Z (ai Z Z uL Z Z ?_))
   refine aW ?_
   refine dV Z (vA9 Z) (dV Z (vA9 Z) (bA (nK9 [2,3,4] Z (nT (cT ?_)))))
   exact bC (.cellN Z qy Z slq (.tmp Z (.tmp Z .nil))) ⟨Y,[],Z,hE,Z,congrArg (fun b=>Value.tuple #[cfV x,.bool b,.int .i64 0]) (by rfl)⟩ sbr

theorem C8 (hX:Spc X) (hl:Ls X v l) (hS:jw l) (n:Nm):eG prog 45 #[v,sv n] X [] fun u Y k'=>k'=[]∧∃ us:List Value,u = .tuple #[.agg us.toArray,.int .i64 (ed l n).2]∧Enc.rep Y us (ed l n).1:=by
 have hml:maxLen=9223372036854775807:=rfl
 obtain ⟨vA,vK,rfl,_⟩:=id hl.form
 unfold eG
 refine fO (n:=25) func45 Z Z (len Z) fun hr w0 hw0=>?_
 refine cQ (au al55 fun b4=>?_)
 refine sV (vA9 Z) (sN (nT (cQ (sM Z (sM Z (ak (cells:=[sv n]) Z underlying40 fG Z Z (by kernel_rfl) (ltn Z) fun b11=>?_))))))
 refine oW [pt b11 (cl [sv n] 9)] X fun Y0 hE0 hsel=>?_
 have hwh:=vR (hX.up hE0) (hl.up hE0) hS (jo (p:=n) (ux:=[sv n]) rfl (fun i hi=>hsel _ _ .here _ _ (af i hi)) (by decide))
 unfold eG at hwh
 refine bM hw0 Z Z en54 Z (hwh) ?_
 rintro u h' ⟨Y,k',rfl,hE,v2,fv,ow,x,e,rfl,hv2,hfv,how,hor⟩
 simp only [lC,lN]
 unfold tX
 have h12:=jb (x:=x) (e:=e) hv2 hfv how
 replace hE:=hE0.trans hE
 refine sM Z (sV (ah Z Z) (sV (ah Z Z) (au pM fun b6=>?_)))
 refine ai Z Z jg Z h12 ?_
 refine sV (vA9 Z) (sN (nK9 [1,4,5,6,7] Z (nT (cS (cQ (sM Z (sV (bT Z Z) (sN (nK9 [1,4,5,6,7,16] Z (nT (cC Z (fun hq=>?_) (fun hq=>?_))))))))))))
 ·have hq:wholeE l [n]≠0:=by simpa using hq
  obtain ⟨-,rfl⟩:=hor.resolve_right fun h=>hq h.1
  have hp:ed l n=(fl0,wholeE l [n]):=by unfold ed; rw [if_pos hq]
  rw [hp]
  refine cQ (sV (aN (cells:=[sv [],.bool false,.slice none 0 0,.slice none 0 0]) Z (fun _=>by kernel_rfl)) ?_)
  refine sM Z (ai Z Z EN Z Z ?_)
  refine sV (vA9 Z) (sN (nK9 [4,5] Z (nT (cT (xR ?_)))))
  exact bC (.cellN Z ld55 Z slq (.tmp Z .nil)) ⟨Y,[],Z,hE,Z,[sv [],.bool false,.slice none 0 0,.slice none 0 0],Z,rep_fl0⟩ sbr
 ·have hq:wholeE l [n]=0:=by simpa using hq
  obtain ⟨-,mb,m,names,rfl,rfl,rfl,rfl,rfl,hm,rfl⟩:=hor.resolve_left fun h=>h.1 hq
  have hp:ed l n=(look (build l).1 n,0):=by unfold ed; rw [if_neg (fun h=>h hq)]
  rw [hp]
  simp only [lC,lN]
  obtain ⟨fus,hfl,hfr⟩:=hm n
  have hcp:=CF hfr
  refine cK9 (xT (cQ (sV (vF Z gL Z) (sV (vF Z iG Z) (sV (vY Z pJ) ?_)))))
  refine sM Z (sV (gB hfl (bI Z Z pG pI slq)) ?_)
  refine aH Z Z en55 Z (hcp) ?_
  rintro u h' ⟨T,rfl,us,rfl,hre⟩
  simp only [lC,lN]
  have hone:=Enc.ones hre
  have hre0:=hre
  obtain ⟨x1,x2,rfl,hx1,hx2⟩:=hre
  refine ai Z Z EN Z hone ?_
  refine sV (vA9 Z) (sN (nK9 [4,5] Z (nT (cT (iy [T] Y fun Y2 hE2 hsel2=>?_)))))
  exact bC (.cellN Z ld55 Z slq (.tmp Z .nil)) ⟨Y2,[],Z,hE.trans hE2,Z,_,Z,Enc.up (hsel2 _ _ .here) hre0⟩ sbr

theorem Oi (hX:Spc X) (hl:Ls X v l) (hS:jw l) (n:Nm) (s:Sd):eG prog 35 #[v,sv n,.agg #[sv s.cls,sv s.name]] X [] fun u Y k'=>k'=[]∧∃ w:Value,u = .tuple #[w,.int .i64 (jJ l n s).2]∧Ls Y w (jJ l n s).1:=by
 have hml:maxLen=9223372036854775807:=rfl
 obtain ⟨vA,vK,rfl,_⟩:=id hl.form
 unfold eG
 refine fO (n:=33) func35 Z Z (len Z) fun hr w0 hw0=>?_
 refine cQ (aV Z Z fun b5=>?_)
 refine sV (vA9 Z) (sV (vA9 Z) (sN (nK9 [0,1,5,6,7] Z (nT (cQ (sM Z (sM Z (ak (cells:=[sv n]) Z underlying40 fG Z Z (by kernel_rfl) (ltn Z) fun b14=>?_))))))))
 refine oW [pt b14 (cl [sv n] 9)] X fun Y0 hE0 hsel=>?_
 have hwh:=vR (hX.up hE0) (hl.up hE0) hS (jo (p:=n) (ux:=[sv n]) rfl (fun i hi=>hsel _ _ .here _ _ (af i hi)) (by decide))
 unfold eG at hwh
 refine bM hw0 Z Z en54 Z (hwh) ?_
 rintro u h' ⟨Y,k',rfl,hE,v2,fv,ow,x,e,rfl,hv2,hfv,how,hor⟩
 simp only [lC,lN]
 unfold tX
 have h12:=jb (x:=x) (e:=e) hv2 hfv how
 replace hE:=hE0.trans hE
 refine sM Z (sV (ah Z Z) (sV (ah Z Z) (au pM fun b8=>?_)))
 refine ai Z Z jg Z h12 ?_
 refine sV (vA9 Z) (sN (nK9 [1,5,6,7,8,9] Z (nT (cS (cQ (sM Z (sV (bT Z Z) (sN (nK9 [1,5,6,7,8,9,19] Z (nT (cC Z (fun hq=>?_) (fun hq=>?_))))))))))))
 ·have hq:wholeE l [n]≠0:=by simpa using hq
  obtain ⟨-,rfl⟩:=hor.resolve_right fun h=>hq h.1
  have hp:jJ l n s=([],wholeE l [n]):=by unfold jJ; rw [if_pos hq]
  rw [hp]
  refine cQ (sM Z (sV (vA9 Z) (sV (vA9 Z) (sN (nK9 [6,7] Z (nT (cT (xR ?_))))))))
  exact aj Z ⟨Y,[],Z,hE,Z,_,Z,Ls.nil⟩ sbq
 ·have hq:wholeE l [n]=0:=by simpa using hq
  obtain ⟨-,mb,m,names,rfl,rfl,rfl,rfl,rfl,hm,rfl⟩:=hor.resolve_left fun h=>h.1 hq
  have hg:=(jL hq).1
  have hp:jJ l n s=if aY (look (build l).1 n).mems s=[] then ([],5) else (aY (look (build l).1 n).mems s,0):=by unfold jJ; rw [if_neg (fun h=>h hq)]
  rw [hp]
  simp only [lC,lN]
  obtain ⟨fus,hfl,hfr⟩:=hm n
  obtain ⟨x1,x2,rfl,hx1,hx2⟩:=hfr
  have hna:=lq (s:=s) hx1
  have hln:=IW (look (build l).1 n).mems s
  have hfw:=hg.few n
  generalize aY (look (build l).1 n).mems s=xs at hna hln ⊢
  refine cK9 (xT (cQ (sV (vF Z gL Z) (sV (vF Z iG Z) (sV (vY Z pJ) ?_)))))
  refine sM Z (sV (gB hfl (bI Z Z pG pI slq)) ?_)
  refine sV (iF (k:=2) Z underlying55 Z isAgg52 Z) (sV (ag Z iM Z af) ?_)
  refine aH Z Z ES Z (hna) ?_
  rintro u h' ⟨T,rfl,how2,rfl⟩
  simp only [lC,lN]
  unfold NR
  refine sV (vA9 Z) (sN (nK9 [6,7,10] Z (nT (cS (cS (fV (v:=u) (E:=9) (sz:=1) (rows:=xs.map nC) slq fun wa wc hwf hwl hwm=>?_))))))
  rw [List.length_map] at hwf hwl
  subst hwf
  refine cR (sM Z (sV (aF Z underlying40) (sV (dB Z Z) (sN (nK9 [6,7,10,31] Z (nT (cC Z (fun hz=>?_) (fun hz=>?_))))))))
  ·have hz:xs=[]:=List.eq_nil_of_length_eq_zero (by simpa using hz)
   rw [if_pos hz]
   refine cQ (sV (vA9 Z) (sV (vA9 Z) (sN (nK9 [6,7] Z (nT (cT (xR ?_)))))))
   exact aj Z ⟨Y,[],Z,hE,Z,_,Z,Ls.nil⟩ sbq
  ·have hz:xs≠[]:=fun h=>by rw [h] at hz; simp at hz
   rw [if_neg hz]
   refine cK9 (xT (cQ (sM Z (sV (vA9 Z) (sV (vA9 Z) (sN (nK9 [6,7] Z (nT (cT (dS (r:=VR (.slice wa xs.length wc) 9 1 (xs.map nC)) slq fun hok=>?_))))))))))
   refine iy [VR (.slice wa xs.length wc) 9 1 (xs.map nC)] Y fun Y2 hE2 hsel2=>?_
   exact aj Z ⟨Y2,[],Z,hE.trans hE2,Z,_,Z,nm_ls hok (hsel2 _ _ .here) (by show xs.length≤_; omega)⟩ sbq
end
end Go.Fl
namespace Go.Fl
open Go Go.RowKit Go.Ck Go.Proofs Go.Proofs.Tryz Go.Proofs.YtknmacdbffgjgaaGreatDoor Fx Go.Hr
theorem Kk {X:Res}:Enc.rep X [sv [],.int .i64 0,.slice none 0 0,sv [],sv [],.slice none 0 0,.int .i64 0,sv [],.slice none 0 0,.bool false,.bool false,.slice none 0 0,.slice none 0 0,.slice none 0 0] mb0 :=
 pU (m:=mb0) ⟨Ls.nil,Ls.nil,⟨Row.nil,by simp [mb0,Kt.args]⟩,Ls.nil,Ls.nil,Ls.nil⟩
attribute [local irreducible] Go.Ck.Sub St Cd Xt Nx DrL LsW
section
variable {X:Res} {v:Value} {l:FS}
theorem Oj (hX:Spc X) (hl:Ls X v l) (hS:jw l):eG prog 13 #[v] X [] fun u Y k'=>k'=[]∧∃ w:Value,u = .tuple #[w,.int .i64 (gI l).2]∧Ls Y w (gI l).1:=by
 have hml:maxLen=9223372036854775807:=rfl
 have hrb:reachBytes=140737488351232:=rfl
 obtain ⟨vA,vK,rfl,_⟩:=id hl.form
 have hwh:=vR hX hl hS (nv:=.slice none 0 0) (ns:=[]) Ls.nil
 unfold eG at hwh ⊢
 refine fO (n:=35) func13 Z Z (len Z) fun hr w0 hw0=>?_
 refine cQ (sV (vA9 Z) (sV (vA9 Z) (sN (nT (cQ (sM Z (bM hw0 Z Z en54 Z (hwh) ?_)))))))
 rintro u h' ⟨Y,k',rfl,hE,v2,fv,ow,x,e,rfl,hv2,hfv,how,hor⟩
 simp only [lC,lN]
 unfold tX
 have h12:=jb (x:=x) (e:=e) hv2 hfv how
 refine sM Z (sV (ah Z Z) (sV (ah Z Z) (au pM fun b4=>?_)))
 refine ai Z Z jg Z h12 ?_
 refine sV (vA9 Z) (sN (nK9 [2,3,4,5] Z (nT (cS (cQ (sM Z (sV (bT Z Z) (sN (nK9 [2,3,4,5,15] Z (nT (cC Z (fun hq=>?_) (fun hq=>?_))))))))))))
 ·have hq:wholeE l []≠0:=by simpa using hq
  obtain ⟨-,rfl⟩:=hor.resolve_right fun h=>hq h.1
  have hp:gI l=([],wholeE l []):=by unfold gI; rw [if_pos hq]
  rw [hp]
  refine cQ (sM Z (sV (vA9 Z) (sV (vA9 Z) (sN (nK9 [2,3] Z (nT (cT (xR ?_))))))))
  exact aj Z ⟨Y,[],Z,hE,Z,_,Z,Ls.nil⟩ sbq
 ·have hq:wholeE l []=0:=by simpa using hq
  obtain ⟨-,mb,m,names,rfl,rfl,rfl,rfl,rfl,hm,rfl⟩:=hor.resolve_left fun h=>h.1 hq
  have hg:=(jL hq).1
  have hol:=hg.ord_len
  rw [hg.flats2]
  simp only [lC,lN]
  generalize order (bn l)=names at hol ⊢
  clear hor hwh
  refine fV (v:=ow) (E:=9) (sz:=1) (rows:=names.map nC) slq fun wa wc hwf hwl hwm=>?_
  rw [List.length_map] at hwf hwl
  subst hwf
  refine dK (cz 55 4) (cK9 (xT (cQ (sV (vA9 Z) (sN (nK9 [2,3,4,6] Z (nT (cS (cQ (sV (vF Z DI Z) (sV (vY Z fH) ?_)))))))))))
  refine sV (aF Z underlying40) (sM Z (sN (nK9 [2,3,4,6,18,19,20] Z (nT (cB (aZ (σ := Value×List (List Value)×Res×Nat) (fun q=>[(4,.pointer (some ⟨b4,0,none⟩)),(6,q.1),(18,.slice wa names.length wc),(19,.int .i64 names.length),(20,.int .i64 (q.2.2.2:Nat))]) (fun q=>VR q.1 55 4 q.2.1::q.2.2.1::mps mb m::VR (.slice wa names.length wc) 9 1 (names.map nC)::pt b4 (cl [.slice vA l.length vK,.map (some mb),.slice wa names.length wc,.int .i64 cf0.kind,sv cf0.cls,sv cf0.name,sv cf0.other,sv cf0.a.par,sv cf0.a.name,sv cf0.b.par,sv cf0.b.name,.int .i64 0] 116)::hr) (fun q=>q.1.oneCell'=true∧Ext Y q.2.2.1∧q.2.2.2≤names.length∧Rws q.2.2.1 q.2.1 ((names.take q.2.2.2).map fun n=>look (build l).1 n)) (fun q=>names.length - q.2.2.2) (.slice none 0 0,[],Y,0) ⟨Z,Ext.refl Y,Nat.zero_le _,Rws.nil⟩ ?_))))))
  rintro ⟨w,rows,Zq9,i⟩ ⟨hw,hEZ,hi,hro⟩
  simp only at hw hEZ hi hro
  dsimp only
  refine cQ (sV (aO Z Z) (sN (nT (cS (cC Z (fun hd=>?_) (fun hd=>?_))))))
  ·have hlt:i<names.length:=by simpa using hd
   have htk:=bV hlt
   have hrl:rows.length≤i:=by
    rw [hro.1,List.length_map,List.length_take]; exact Nat.min_le_left _ _
   have hnx:(names.map nC)[i]? = some [sv names[i]]:=by rw [List.getElem?_map,List.getElem?_eq_getElem hlt]; rfl
   refine fI (r:=VR (.slice wa names.length wc) 9 1 (names.map nC)) slq fun hok=>?_
   obtain ⟨ab,ao,rfl⟩:∃ ab ao,wa=some ⟨ab,ao,none⟩:=by
    obtain ⟨f0,hf0⟩:=hok
    rcases VR.form hf0 with ⟨h3,h4⟩ | ⟨b,o,cp,h3,-⟩
    ·have:=List.map_eq_nil_iff.1 h4
     rw [this] at hlt; simp at hlt
    ·rw [List.length_map] at h3; cases h3; exact ⟨b,o,rfl⟩
   generalize names[i]=n at hnx htk
   obtain ⟨fus,hfl,hfr⟩:=(hm.up hEZ) n
   have hcp:=CF hfr
   generalize hJ:look (build l).1 n=J at hcp
   refine cK9 (xT (cS (cB (cQ (sV (vI (k:=i) Z Z jh Z hlt Z) (sV (vY Z ld9 (ha:=⟨_,_,slq,eQ hnx 0 (by simp)⟩)) ?_))))))
   refine sV (vA9 Z) (sN (nK9 [4,6,8,18,19,20] Z (nT (cR (sM Z (sV (vF Z gL Z) (sV (vF Z iG Z) (sV (vY Z pJ) ?_))))))))
   refine sM Z (sV (gB hfl (bI Z Z pG pI slq)) ?_)
   refine aH Z Z en55 Z (hcp) ?_
   rintro u h' ⟨T,rfl,us,rfl,hre⟩
   simp only [lC,lN]
   refine oW [T] Zq9 fun Z2 hE2 hsel2=>?_
   have hre:=Enc.up (hsel2 _ _ .here) hre
   have hone:=Enc.ones hre
   have hre0:=hre
   obtain ⟨x1,x2,rfl,hx1,hx2⟩:=hre
   refine ak (cells:=[sv J.name,.bool J.dfd,x1,x2]) Z underlying32 pI Z Z (by kernel_rfl) (ltn Z) fun b31=>?_
   refine dU [[sv J.name,.bool J.dfd,x1,x2]] Z Z underlying32 pI Z (by decide) (show Sel _ (VR w 55 4 rows) _ from slq) (by simp) Z (fun j u2 hu2=>bP (bU (by simpa using hu2))) (by simpa using hone) (by omega) (by omega) (ltn Z) fun w2 hw2 _=>?_
   refine sV (vA9 Z) (sN (nK9 [4,6,18,19,20] Z (ax (xB (xT (cR (sV (aI Z Z (by unfold I64 at *; omega)) (sM Z (sN (nK9 [4,6,18,19,20] Z (ax ?_)))))))))))
   refine aJ (w2,rows++[[sv J.name,.bool J.dfd,x1,x2]],Z2,i+1) ⟨hw2,hEZ.trans hE2,hlt,by rw [htk,List.map_append]; exact (hro.up hE2).snoc (show Enc.rep Z2 _ (look (build l).1 n) from by rw [hJ]; exact hre0)⟩ (by show names.length - (i+1)<names.length - i; omega)
  ·have hie:i=names.length:=Nat.le_antisymm hi (Nat.not_lt.1 (by simpa using hd))
   subst hie
   rw [List.take_length] at hro
   have hb:(names.map fun n=>look (build l).1 n).length * Enc.by' Fl≤reachBytes:=by
    rw [List.length_map,hrb]; show names.length * 72≤_; omega
   refine aB (xE (xE (xY (xT (cQ (sM Z (sV (vA9 Z) (sV (vA9 Z) (sN (nK9 [2,3] Z (nT (cT (dS (r:=VR w 55 4 rows) slq fun hok=>?_)))))))))))))
   refine iy [VR w 55 4 rows] Zq9 fun Y2 hE2 hsel2=>?_
   exact aj Z ⟨Y2,[],Z,(hE.trans hEZ).trans hE2,Z,_,Z,Rws.ls (E:=55) (hro.up hE2) hok (hsel2 _ _ .here) hb⟩ sbq

theorem C9 (hX : Spc X) (hl : Ls X v l) (hS : jw l) {mv : Value} {ds : List Nm} (hds : ds.length ≤ 1000) (hmv : mv.oneCell' = true) (c n : Nm) : eG prog 97 #[v, sv c, sv n, mv] X [VR mv 9 1 (ds.map nC)] fun u Y k' => ∃ v2 fv ow x e, ∃ us : List Value, u = .tuple #[.agg (tX v2 fv ow x e).toArray, .agg us.toArray, .int .i64 (bS l ds c n).2] ∧ v2.oneCell' = true ∧ fv.oneCell' = true ∧ ow.oneCell' = true ∧ Enc.rep Y us (bS l ds c n).1 ∧
  (((bS l ds c n).2≠0∧k'=[])∨((bS l ds c n).2=0∧wholeE l (ds++[c])=0∧∃ mb m names,v2=v∧fv = .map (some mb)∧x=cf0∧e=0∧k'=[mps mb m,VR ow 9 1 (names.map nC)]∧FlR Y m (look (build l).1)∧names=order (bn l))):=by
 have hml:maxLen=9223372036854775807:=rfl
 obtain ⟨vA,vK,rfl,_⟩:=id hl.form
 unfold eG
 refine fO (n:=46) func97 Z Z (len Z) fun hr w0 hw0=>?_
 refine cQ (au pM fun b8=>?_)
 refine au jQ fun b9=>?_
 refine sV (vA9 Z) (sN (nT (cQ (sM Z (sM Z (sM Z (ak (cells:=[sv c]) Z underlying40 fG Z Z (by kernel_rfl) (ltn Z) fun b19=>?_)))))))
 have hdl:(ds.map nC).length≤1000:=by rw [List.length_map]; exact hds
 refine dU [[sv c]] Z Z underlying40 fG Z (by decide) (show Sel _ (VR mv 9 1 (ds.map nC)) _ from slq) (by simp) Z (fun j u2 hu2=>bP (bU (by simpa using hu2))) (by simp [sv,Value.oneCell']) (by omega) (by omega) (ltn Z) fun w2 hw2 _=>?_
 rw [show ds.map nC++[[sv c]]=(ds++[c]).map nC by rw [List.map_append]; rfl]
 refine nM (r:=VR w2 9 1 ((ds++[c]).map nC)) slq fun hok=>?_
 refine oW [VR w2 9 1 ((ds++[c]).map nC)] X fun Y0 hE0 hsel=>?_
 have hwh:=vR (hX.up hE0) (hl.up hE0) hS (nm_ls hok (hsel _ _ .here) (by rw [List.length_append]; show ds.length+1≤_; omega))
 unfold eG at hwh
 refine bM hw0 Z Z en54 Z (hwh) ?_
 rintro u h' ⟨Y,k',rfl,hE,v2,fv,ow,x,e,rfl,hv2,hfv,how,hor⟩
 simp only [lC,lN]
 unfold tX
 have h12:=jb (x:=x) (e:=e) hv2 hfv how
 replace hE:=hE0.trans hE
 refine sM Z (sV (ah Z Z) (sV (ah Z Z) (au pM fun b11=>?_)))
 refine ai Z Z jg Z h12 ?_
 refine sV (vA9 Z) (sN (nK9 [1,2,8,9,10,11,12] Z (nT (cS (cQ (sM Z (sV (bT Z Z) (sN (nK9 [1,2,8,9,10,11,12,25] Z (nT (cC Z (fun hq=>?_) (fun hq=>?_))))))))))))
 ·have hq:wholeE l (ds++[c])≠0:=by simpa using hq
  obtain ⟨-,rfl⟩:=hor.resolve_right fun h=>hq h.1
  have hp:bS l ds c n=(mb0,wholeE l (ds++[c])):=by unfold bS; rw [if_pos hq]
  rw [hp]
  refine cQ (sV (aN (cells:=[.slice none 0 0,.map none,.slice none 0 0,.int .i64 0,sv [],sv [],sv [],sv [],sv [],sv [],sv [],.int .i64 0]) Z (fun _=>by kernel_rfl)) ?_)
  refine sV (aN (cells:=[sv [],.int .i64 0,.slice none 0 0,sv [],sv [],.slice none 0 0,.int .i64 0,sv [],.slice none 0 0,.bool false,.bool false,.slice none 0 0,.slice none 0 0,.slice none 0 0]) Z (fun _=>by kernel_rfl)) ?_
  refine sM Z (ai Z Z jg Z Z ?_)
  refine ai Z Z iD Z Z ?_
  refine sV (vA9 Z) (sN (nK9 [8,9,10] Z (nT (cT (xR ?_)))))
  exact bC (.cellN Z lh Z slq (.cellN Z fB Z slq (.tmp Z .nil))) ⟨Y,[],Z,hE,.slice none 0 0,.map none,.slice none 0 0,cf0,0,[sv [],.int .i64 0,.slice none 0 0,sv [],sv [],.slice none 0 0,.int .i64 0,sv [],.slice none 0 0,.bool false,.bool false,.slice none 0 0,.slice none 0 0,.slice none 0 0],Z,Z,Z,Z,Kk,.inl ⟨hq,Z⟩⟩ sbr
 ·have hq:wholeE l (ds++[c])=0:=by simpa using hq
  obtain ⟨-,mb,m,names,rfl,rfl,rfl,rfl,rfl,hm,rfl⟩:=hor.resolve_left fun h=>h.1 hq
  have hg:=(jL hq).1
  have hp:bS l ds c n=match dR (look (build l).1 c).mems n with
   | some m=>(m,0)
   | none=>(mb0,4):=by unfold bS; rw [if_neg (fun h=>h hq)]; rfl
  rw [hp]
  simp only [lC,lN]
  obtain ⟨fus,hfl,hfr⟩:=hm c
  obtain ⟨z1,z2,rfl,hz1,hz2⟩:=hfr
  have hfi:=tJ (n:=n) hz1
  rw [show ((look (build l).1 c).mems.find? fun c=>c.name == n)=dR (look (build l).1 c).mems n from rfl] at hfi
  generalize dR (look (build l).1 c).mems n=F at hfi ⊢
  clear hor
  refine cK9 (xT (cQ (sV (vF Z gL Z) (sV (vF Z iG Z) (sV (vY Z pJ) ?_)))))
  refine sM Z (sV (gB hfl (bI Z Z pG pI slq)) ?_)
  refine sV (iF (k:=2) Z underlying55 Z isAgg52 Z) (sM Z (aH Z Z en169 Z (hfi) ?_))
  rintro u h' ⟨rfl,us,rfl,hre⟩
  simp only [lC,lN]
  have hone:=Enc.ones hre
  have hre0:=hre
  generalize hJ:F.getD mb0=J at hre hre0
  obtain ⟨x2,x5,y,x11,x12,x13,rfl,-⟩:=dJ hre
  unfold ik at *
  refine sM Z (sV (ah Z Z) (sV (ah Z Z) (au jQ fun b13=>?_)))
  refine ai Z Z iD Z hone ?_
  refine sV (vA9 Z) (sN (nK9 [8,9,10,11,13,14] Z (nT (cS (cQ (sM Z (sV (bi Z) (sN (nK9 [8,9,10,11,13,41] Z (nT ?_))))))))))
  cases F with
  | none =>
   refine aT Z ?_
   refine cQ (sV (aN (cells:=[.slice none 0 0,.map none,.slice none 0 0,.int .i64 0,sv [],sv [],sv [],sv [],sv [],sv [],sv [],.int .i64 0]) Z (fun _=>by kernel_rfl)) ?_)
   refine sV (aN (cells:=[sv [],.int .i64 0,.slice none 0 0,sv [],sv [],.slice none 0 0,.int .i64 0,sv [],.slice none 0 0,.bool false,.bool false,.slice none 0 0,.slice none 0 0,.slice none 0 0]) Z (fun _=>by kernel_rfl)) ?_
   refine ai Z Z jg Z Z ?_
   refine ai Z Z iD Z Z ?_
   refine sV (vA9 Z) (sN (nK9 [8,9,10] Z (nT (cT (xR ?_)))))
   exact bC (.cellN Z lh Z slq (.cellN Z fB Z slq (.tmp Z .nil))) ⟨Y,[],Z,hE,.slice none 0 0,.map none,.slice none 0 0,cf0,0,[sv [],.int .i64 0,.slice none 0 0,sv [],sv [],.slice none 0 0,.int .i64 0,sv [],.slice none 0 0,.bool false,.bool false,.slice none 0 0,.slice none 0 0,.slice none 0 0],Z,Z,Z,Z,Kk,.inl ⟨by show (4:Int)≠0; decide,Z⟩⟩ sbr
  | some g =>
   have hJ:g=J:=hJ
   subst hJ
   refine aG Z ?_
   refine cK9 (xT (cS (jd (ork [(0,1),(1,1),(2,0),(3,0),(4,2)] .nil) (fun i => !(Nat.beq i 3)) [pt b11 (cl [.slice vA l.length vK,.map (some mb),ow,.int .i64 cf0.kind,sv cf0.cls,sv cf0.name,sv cf0.other,sv cf0.a.par,sv cf0.a.name,sv cf0.b.par,sv cf0.b.name,.int .i64 0] 116),pt b13 (cl [sv g.name,.int .i64 g.kind,x2,sv g.impl.cls,sv g.impl.name,x5,.int .i64 g.ty.kind,sv g.ty.name,y,.bool g.ty.void,.bool g.ty.sep,x11,x12,x13] 75)] mixed (by kernel_rfl) ?_)))
   refine bu Z (ag Z lh Z af) ?_
   refine bu Z (ag Z fB Z af) ?_
   refine aQ Z (ai Z Z jg Z h12 ?_)
   refine aW ?_
   refine aQ Z (ai Z Z iD Z hone (aW ?_))
   refine dV Z (vA9 Z) (bA (nK9 [8,9,10] Z (nT (cT ?_))))
   exact bC (.cellN Z lh Z slq (.cellN Z fB Z slq (.tmp Z .nil))) ⟨Y,[mps mb m,VR ow 9 1 (List.map nC (order (bn l)))],Z,hE,.slice vA l.length vK,.map (some mb),ow,cf0,0,_,Z,Z,Z,how,hre0,.inr ⟨Z,hq,mb,m,_,Z,Z,Z,Z,Z,hm,Z⟩⟩ sbr

end
end Go.Fl
namespace Go.Fl
open Go Go.RowKit Go.Ck Go.Proofs Go.Proofs.Tryz Go.Proofs.YtknmacdbffgjgaaGreatDoor Fx Go.Hr
theorem Good.fits {l:FS} (h:Good l) (hS:jw l):Fits l (Fl.look (Fl.build l).1):=⟨h.right,h.flb,hS⟩
def ogC (o:Og):List Value:=[sv o.par,sv o.name]
def ogr (b:Bool) (n:Nm):List Og:=if b=true then [⟨[],n⟩] else []
theorem rws_og {Y:Res} (xs:List Og):Rws Y (xs.map ogC) xs:=⟨by simp,fun j us x h1 h2=>by
 rw [List.getElem?_map,h2] at h1
 cases h1; rfl⟩
attribute [local irreducible] Go.Ck.Sub St Cd Xt Nx DrL LsW
section
variable {X:Res} {v:Value} {l:FS}
theorem IX (hX:Spc X) (hl:Ls X v l) (hS:jw l) (c n:Nm):eG prog 50 #[v,sv c,sv n] X [] fun u Y k'=>k'=[]∧∃ w:Value,u = .tuple #[w,.int .i64 (oriP l c n).2]∧Ls Y w (oriP l c n).1:=by
 have hml:maxLen=9223372036854775807:=rfl
 have hrb:reachBytes=140737488351232:=rfl
 obtain ⟨vA,vK,rfl,_⟩:=id hl.form
 have hme:=C9 hX hl hS (mv:=.slice none 0 0) (ds:=[]) (by decide) rfl c n
 unfold eG at hme ⊢
 refine fO (n:=63) func50 Z Z (len Z) fun hr w0 hw0=>?_
 refine cQ (sV (vA9 Z) (sV (vA9 Z) (sN (nT (cS (dK (cz 9 1) (cR (sM Z (sM Z (sM Z (bM hw0 Z Z en97 Z (hme) ?_)))))))))))
 rintro u h' ⟨Y,k',rfl,hE,v2,fv,ow,x,e0,us,rfl,hv2,hfv,how,hre,hor⟩
 simp only [lC,lN]
 unfold tX
 have h12:=jb (x:=x) (e:=e0) hv2 hfv how
 have hone:=Enc.ones hre
 have hre0:=hre
 generalize (bS l [] c n).1=J at hre hre0
 obtain ⟨x2,x5,y,x11,x12,x13,rfl,-⟩:=dJ hre
 unfold ik at *
 refine sM Z (sV (ah Z Z) (sV (ah Z Z) (sV (ah Z Z) (au pM fun b8=>?_))))
 refine au jQ fun b9=>?_
 refine ai Z Z jg Z h12 ?_
 refine ai Z Z iD Z hone ?_
 refine sV (vA9 Z) (sN (nK9 [1,2,6,7,8,10] Z (nT (cS (cQ (sM Z (sV (bT Z Z) (sN (nK9 [1,2,6,7,8,10,26] Z (nT (cC Z (fun hq=>?_) (fun hq=>?_))))))))))))
 ·have hq:(bS l [] c n).2≠0:=by simpa using hq
  obtain ⟨-,rfl⟩:=hor.resolve_right fun h=>hq h.1
  have hp:oriP l c n=([],(bS l [] c n).2):=by unfold oriP; rw [if_pos hq]
  rw [hp]
  refine cQ (sM Z (sV (vA9 Z) (sV (vA9 Z) (sN (nK9 [6,7] Z (nT (cT (xR ?_))))))))
  exact aj Z ⟨Y,[],Z,hE,Z,_,Z,Ls.nil⟩ sbq
 ·have hq:(bS l [] c n).2=0:=by simpa using hq
  have hp:oriP l c n=(ogr (feat (ae l c) n).isSome n++(under (comes (look (build l).1) l (ae l c)) n).map (fun x=>x.og),0):=by unfold oriP; rw [if_neg (fun h=>h hq)]; rfl
  rw [hp]
  obtain ⟨-,hwq,mb,m,names,rfl,rfl,rfl,rfl,rfl,hm,rfl⟩:=hor.resolve_left fun h=>h.1 hq
  simp only [lC,lN]
  obtain ⟨hg,hcs⟩:=jL hwq
  have hcl:=(hg.class (hcs c (by simp))).2.2
  have hF:=hg.fits hS
  have hfew:=hF.few (.inl hcl)
  have hcc:=lI (n:=c) (fv:=.map (some mb)) (hl.up hE) rfl
  have hun:(under (comes (look (build l).1) l (ae l c)) n).length≤(comes (look (build l).1) l (ae l c)).length:=List.length_filter_le _ _
  have hby:=fun (cus:List Value) (hcr:Enc.rep Y cus (ae l c))=>xC (mb:=mb) (hl.up hE) hcr hm (hF.hf (.inl hcl)) (by omega)
  unfold CtX at hby
  clear hor hme
  refine cK9 (xT (cQ (sV (vA9 Z) (sN (nK9 [1,2,6,7,8,11] Z (nT (cQ (sV (vF Z gL Z) (sV (ag Z gT Z (bF (k:=0) af (vs:=[.slice vA l.length vK,.map (some mb)]) Z)) ?_)))))))))
  refine sM Z (aH Z Z en56 Z (hcc) ?_)
  rintro u h' ⟨rfl,cus,rfl,hcr⟩
  simp only [lC,lN]
  have hby:=hby cus hcr
  have hco:=Enc.ones hcr
  obtain ⟨ca,cb,ce,cf,ci,rfl,hca,hcb,hce,hcf,hci⟩:=gq hcr
  refine au nJ fun b12=>?_
  refine ai Z Z lS Z hco ?_
  refine sN (nK9 [2,6,7,8,11,12] Z (nT (cS (cQ (sV (vF Z ko Z) (sV (vY Z yS) ?_))))))
  refine sM Z ?_
  have hfi:=iP (n:=n) hcf
  rw [show ((ae l c).feats.find? fun f=>f.name == n)=feat (ae l c) n from rfl] at hfi
  refine aH Z Z yx Z (hfi) ?_
  rintro u h' ⟨rfl,fus,rfl,hfr⟩
  simp only [lC,lN]
  have hfo:=Enc.ones hfr
  generalize (feat (ae l c) n).getD fe0=F at hfr
  obtain ⟨f2,f3,fy,f9,f10,f11,f12,f13,f14,rfl,-⟩:=mV hfr
  unfold AV at *
  refine sM Z (sV (ah Z Z) (sV (ah Z Z) (au lm fun b13=>?_)))
  refine ai Z Z jP Z hfo ?_
  refine sV (vA9 Z) (sN (nK9 [2,6,7,8,11,12,14] Z (nT (cQ (sM Z (sN (nK9 [2,6,7,8,11,12,39] Z (nT ?_))))))))
  generalize (feat (ae l c) n).isSome=b
  have hb31:(ogr b n).length≤1:=by unfold ogr; split <;> simp
  refine dK (cz 24 2) (mE (ex:=.normal) (α := {q:Value // q.oneCell'=true}) (fun q=>[(2,sv n),(8,.pointer (some ⟨b8,0,none⟩)),(11,q.1),(12,.pointer (some ⟨b12,0,none⟩))]) (fun q=>VR q.1 24 2 ((ogr b n).map ogC)::pt b12 (cl [sv (ae l c).name,.bool (ae l c).dfd,ca,cb,ce,cf,ci] 44)::pt b8 (cl [.slice vA l.length vK,.map (some mb),ow,.int .i64 cf0.kind,sv cf0.cls,sv cf0.name,sv cf0.other,sv cf0.a.par,sv cf0.a.name,sv cf0.b.par,sv cf0.b.name,.int .i64 0] 116)::Y::mps mb m::hr) (fun hcont=>?_) (fun q=>?_))
  ·cases b with
   | true =>
    refine aT Z ?_
    refine cR (sM Z (sM Z (sV (aN (cells:=[sv [],sv n]) Z (fun _=>by kernel_rfl)) ?_)))
    refine ak (cells:=[sv [],sv n]) Z underlying104 Js Z Z (by kernel_rfl) (ltn Z) fun b43=>?_
    refine dU [[sv [],sv n]] Z Z underlying104 Js Z (by decide) (show Sel _ (VR (.slice none 0 0) 24 2 []) _ from slq) (by simp) Z (fun j u2 hu2=>bP (bU (by simpa using hu2))) (by simp [sv,Value.oneCell']) (by simp) (by simp) (ltn Z) fun w2 hw2 _=>?_
    refine sV (vA9 Z) (sN (nK9 [2,6,7,8,11,12] Z (ax ?_)))
    exact hcont ⟨w2,hw2⟩ _ _ ⟨Z,Z,Z,Z,trivial⟩ sbq
   | false =>
    refine aG Z ?_
    refine cK9 ?_
    exact hcont ⟨.slice none 0 0,Z⟩ _ _ ⟨Z,Z,Z,Z,trivial⟩ sbq
  obtain ⟨w0q,hw0q⟩:=q
  dsimp only
  refine xT (cS (cQ (sV (vF Z gL Z) (sV (ag Z gT Z (bF (k:=0) af (vs:=[.slice vA l.length vK,.map (some mb)]) Z)) ?_))))
  refine sV (ag Z gG Z af) ?_
  refine aH Z Z JK Z (hby) ?_
  rintro u h' ⟨Y2,k2,rfl,hE2,bm,E,rfl,rfl,hbk⟩
  simp only [lC,lN]
  refine nM (r:=BN E) slq fun hokE=>?_
  refine oW [BN E] Y2 fun Y3 hE3 hsel=>?_
  have hls:=Kc hbk hE3 hokE (hsel _ _ .here) (by omega)
  have hlk:=zo hbk.1 hls n
  obtain ⟨qa,qk,hqv,_⟩:=id hlk.form
  rw [hqv] at hlk
  generalize under (comes (look (build l).1) l (ae l c)) n=L at hun hlk hqv ⊢
  refine sM Z (sV (gB hqv (bI Z Z rV sD slq)) ?_)
  refine sV (aF Z underlying187) (sM Z (sN (nK9 [11,50,51,52] Z (nT (cB ?_)))))
  rw [show (ogr b n).map ogC=(ogr b n++(L.take 0).map (fun x=>x.og)).map ogC by simp]
  refine aZ (σ := Value×Nat) (fun q=>[(11,q.1),(50,.slice qa L.length qk),(51,.int .i64 L.length),(52,.int .i64 (q.2:Nat))]) (fun q=>VR q.1 24 2 ((ogr b n++(L.take q.2).map (fun x=>x.og)).map ogC)::Y3::hr) (fun q=>q.1.oneCell'=true∧q.2≤L.length) (fun q=>L.length - q.2) (w0q,0) ⟨hw0q,Nat.zero_le _⟩ ?_
  rintro ⟨w,i⟩ ⟨hw,hi⟩
  simp only at hw hi
  dsimp only
  refine cQ (sV (aO Z Z) (sN (nT (cS (cC Z (fun hd=>?_) (fun hd=>?_))))))
  ·have hlt:i<L.length:=by simpa using hd
   have htk:=bV hlt
   have hrl:((ogr b n++(L.take i).map (fun x=>x.og)).map ogC).length≤1+i:=by
    rw [List.length_map,List.length_append,List.length_map,List.length_take]; omega
   obtain ⟨fb,fo,fcap,fus,e1,hfus,hfrd,hfr⟩:=hlk.at (List.getElem?_eq_getElem hlt)
   obtain ⟨rfl,rfl⟩:qa=some ⟨fb,fo,none⟩∧qk=fcap:=by cases e1; exact ⟨rfl,rfl⟩
   generalize L[i]=xc at hfr htk
   have hfo2:=Enc.ones hfr
   obtain ⟨c2,c5,cy,c11,c12,c13,rfl,-⟩:=gX hfr
   have hog:∀ b,Rds (pt b (cl (nX xc c2 c5 cy c11 c12 c13) 191)) b (0+0) [sv xc.og.par,sv xc.og.name]:=fun b=>mW
   unfold nX at *
   refine cK9 (xT (cS (cB (cQ (sV (vI (k:=i) Z Z lg Z hlt Z) (sV (ag Z gU Z hfrd) ?_))))))
   refine au qF fun b16=>?_
   refine ai Z Z l9 Z hfo2 ?_
   refine sN (nK9 [11,16,50,51,52] Z (nT (cR (sM Z (sV (vF Z ji Z) (sV (ag Z pY Z (hog b16)) ?_))))))
   refine ak (cells:=[sv xc.og.par,sv xc.og.name]) Z underlying104 Js Z Z (by kernel_rfl) (ltn Z) fun b59=>?_
   refine dU [[sv xc.og.par,sv xc.og.name]] Z Z underlying104 Js Z (by decide) (show Sel _ (VR w 24 2 ((ogr b n++(L.take i).map (fun x=>x.og)).map ogC)) _ from slq) (by simp) Z (fun j u2 hu2=>bP (bU (by simpa using hu2))) (by simp [sv,Value.oneCell']) (by omega) (by omega) (ltn Z) fun w2 hw2 _=>?_
   refine sV (vA9 Z) (sN (nK9 [11,50,51,52] Z (ax (xB (xT (cR (sV (aI Z Z (by unfold I64 at *; omega)) (sM Z (sN (nK9 [11,50,51,52] Z (ax ?_)))))))))))
   rw [show (ogr b n++(L.take i).map (fun x=>x.og)).map ogC++[[sv xc.og.par,sv xc.og.name]]=(ogr b n++(L.take (i+1)).map (fun x=>x.og)).map ogC by rw [htk]; simp [ogC]]
   refine aJ (w2,i+1) ⟨hw2,hlt⟩ (by show L.length - (i+1)<L.length - i; omega)
  ·have hie:i=L.length:=Nat.le_antisymm hi (Nat.not_lt.1 (by simpa using hd))
   subst hie
   rw [List.take_length]
   have hbl:(ogr b n++L.map (fun x=>x.og)).length * Enc.by' Og≤reachBytes:=by
    rw [List.length_append,List.length_map,hrb]; show _ * 32≤_; omega
   refine aB (xE (xE (xY (xT (cQ (sM Z (sV (vA9 Z) (sV (vA9 Z) (sN (nK9 [6,7] Z (nT (cT (dS (r:=VR w 24 2 ((ogr b n++L.map (fun x=>x.og)).map ogC)) slq fun hok=>?_)))))))))))))
   refine iy [VR w 24 2 ((ogr b n++L.map (fun x=>x.og)).map ogC)] Y3 fun Y4 hE4 hsel4=>?_
   exact aj Z ⟨Y4,[],Z,((hE.trans hE2).trans hE3).trans hE4,Z,_,Z,Rws.ls (E:=24) (rws_og _) hok (hsel4 _ _ .here) hbl⟩ sbq
end
end Go.Fl
namespace Go.Fl
open Go Go.RowKit Go.Ck Go.Proofs Go.Proofs.Tryz Go.Proofs.YtknmacdbffgjgaaGreatDoor Fx Go.Hr
theorem LJ {ms:List Mb} {i:Nat} (h:i<ms.length) (ss:List Sd):tu (ms.take (i+1)) ss=tu (ms.take i) ss++if (ss.all fun s=>ms[i].seeds.contains s)=true then [ms[i].name] else []:=by
 unfold tu
 rw [bV h,List.filter_append,List.map_append]
 congr 1
 by_cases hq:(ss.all fun s=>ms[i].seeds.contains s)=true
 ·rw [if_pos hq,List.filter_cons,if_pos hq]; rfl
 ·rw [if_neg hq,List.filter_cons,if_neg hq]; rfl
theorem GJ (ms:List Mb) (ss:List Sd):(tu ms ss).length≤ms.length:=by
 unfold tu; rw [List.length_map]; exact List.length_filter_le _ _
attribute [local irreducible] Go.Ck.Sub St Cd Xt Nx DrL LsW
section
variable {X:Res} {v:Value} {l:FS}
theorem IY (hX:Spc X) (hl:Ls X v l) (hS:jw l) (d c n:Nm):eG prog 29 #[v,sv d,sv c,sv n] X [] fun u Y k'=>k'=[]∧u = .tuple #[sv (vB l d c n).1,.int .i64 (vB l d c n).2]:=by
 have hml:maxLen=9223372036854775807:=rfl
 have hrb:reachBytes=140737488351232:=rfl
 obtain ⟨vA,vK,rfl,_⟩:=id hl.form
 have hme:=fun b=>C9 hX hl hS (mv:=.slice (some ⟨b,0,none⟩) 1 1) (ds:=[d]) (by simp) rfl c n
 have hrk:rk (bn l) d≤l.length:=by
  have:=qh (bn l) d
  rwa [jW] at this
 simp only [List.map_cons,List.map_nil,nC] at hme
 unfold eG at hme ⊢
 refine fO (n:=105) func29 Z Z (len Z) fun hr w0 hw0=>?_
 refine cQ (sV (vA9 Z) (sV (vA9 Z) (sN (nT (EL (cQ (sM Z (sM Z (sM Z (sM Z (ak (cells:=[sv d]) Z underlying40 fG Z Z (by kernel_rfl) (ltn Z) fun b28=>?_)))))))))))
 refine Af (Ag (b:=b28) (n:=1) (sz:=1) (E:=9) [[sv d]] Z (by simp) Z (by decide)) ?_
 simp only [lC,lN]
 refine bM hw0 Z Z en97 Z ((hme b28)) ?_
 rintro u h' ⟨Y,k',rfl,hE,v2,fv,ow,x,e0,us,rfl,hv2,hfv,how,hre,hor⟩
 simp only [lC,lN]
 unfold tX
 have h12:=jb (x:=x) (e:=e0) hv2 hfv how
 have hone:=Enc.ones hre
 have hme2:(bS l [d] c n).2=0→Good l∧(bL l d).isSome=true∧(bL l c).isSome=true∧(bS l [d] c n).1∈msF l c:=fun hz=>by
  have hwz:wholeE l ([d]++[c])=0:=Classical.not_not.1 fun h=>by
   unfold bS at hz
   rw [if_pos h] at hz
   exact h hz
  obtain ⟨hg,hcs⟩:=jL hwz
  have hd:=hcs d (by simp)
  have hc:=hcs c (by simp)
  have hmb:=hg.member (ns:=[d]) (n:=n) (by simpa using hd) hc
  refine ⟨hg,hd,hc,?_⟩
  rw [hmb] at hz ⊢
  cases hm:dR (msF l c) n with
  | none=>rw [hm] at hz; cases hz
  | some m=>exact (Hw hm).1
 have hver:vB l d c n=if (bS l [d] c n).2≠0 then ([],(bS l [d] c n).2) else if has (bn l) d c=false then ([],5) else
   match tu (look (build l).1 d).mems (bS l [d] c n).1.seeds with
   | []=>([],5)
   | [a]=>(a,0)
   | a::b::t=>if (a::b::t).contains (selOf l d ((bS l [d] c n).1.seeds.headD ⟨[],[]⟩)).1 then ((selOf l d ((bS l [d] c n).1.seeds.headD ⟨[],[]⟩)).1,0) else ([],5):=rfl
 rw [hver]
 clear hver
 generalize (bS l [d] c n).1=J at hre hme2 ⊢
 generalize (bS l [d] c n).2=e at hre hme2 hor ⊢
 obtain ⟨x2,x5,y,x11,x12,x13,rfl,hx2,-⟩:=dJ hre
 obtain ⟨sAq9,sKq9,rfl,_⟩:=id hx2.form
 unfold ik at *
 refine sM Z (sV (ah Z Z) (sV (ah Z Z) (sV (ah Z Z) (au pM fun b10=>?_))))
 refine au jQ fun b11=>?_
 refine ai Z Z jg Z h12 ?_
 refine ai Z Z iD Z hone ?_
 refine sV (vA9 Z) (sN (nK9 [0,1,2,8,9,10,11,12] Z (nT (cS (cQ (sM Z (sV (bT Z Z) (sN (nK9 [0,1,2,8,9,10,11,12,34] Z (nT (cC Z (fun hq=>?_) (fun hq=>?_))))))))))))
 ·have hq:e≠0:=by simpa using hq
  obtain ⟨-,rfl⟩:=hor.resolve_right fun h=>hq h.1
  rw [if_pos hq]
  refine cQ (sM Z (sV (vA9 Z) (sV (vA9 Z) (sN (nK9 [8,9] Z (nT (cT (xR (eZ ?_)))))))))
  exact aj Z ⟨Y,[],Z,hE,Z,Z⟩ sbq
 ·have hq:e=0:=by simpa using hq
  obtain ⟨hg,hds,hcs,hmem⟩:=hme2 hq
  obtain ⟨-,hwq,mb,m,names,rfl,rfl,rfl,rfl,rfl,hm,rfl⟩:=hor.resolve_left fun h=>h.1 hq
  rw [if_neg (fun h=>h hq)]
  have hsne:=hg.seeds_ne c hcs J hmem
  have his:=Is_ct (xe (hl.up hE)) d c
  rw [show dI (bn l) [d,c]=0 from eB.2 ⟨hg.sys,fun k hk=>by
   simp only [List.mem_cons,List.mem_nil_iff,or_false] at hk
   rcases hk with rfl | rfl
   ·rw [dW]; exact hds
   ·rw [dW]; exact hcs⟩] at his
  simp only [decide_true,Bool.true_and] at his
  generalize has (bn l) d c=hs at his ⊢
  clear hor hme hme2
  simp only [lC,lN]
  refine cK9 (xT (cS (cQ (sM Z (sM Z (sM Z (aH Z Z en27 Z (his) ?_)))))))
  rintro u h' ⟨rfl,rfl⟩
  simp only [lC,lN]
  refine sM Z (sV (ah Z Z) (sV (ah Z Z) (sV (vA9 Z) (sV (vA9 Z) (sN (nK9 [1,8,9,10,11,13] Z (nT (cQ (sM Z (sV (bi Z) (sN (nK9 [1,8,9,10,11,44] Z (nT ?_)))))))))))))
  cases hs with
  | false =>
   rw [if_pos rfl]
   refine aT Z ?_
   refine cQ (sV (vA9 Z) (sV (vA9 Z) (sN (nK9 [8,9] Z (nT (cT (xR (eZ ?_))))))))
   exact aj Z ⟨Y,[],Z,hE,Z,Z⟩ sbq
  | true =>
   rw [if_neg (by decide)]
   refine aG Z ?_
   refine cK9 (xT (cQ (sV (vA9 Z) (sN (nK9 [1,8,9,10,11,15] Z (nT (cQ (sV (vF Z gL Z) (sV (vF Z iG Z) (sV (vY Z pJ) ?_))))))))))
   refine sM Z ?_
   obtain ⟨fus,hfl,hfr⟩:=hm d
   obtain ⟨z1,z2,rfl,hz1,hz2⟩:=hfr
   obtain ⟨mA,mK,rfl,_⟩:=id hz1.form
   have hmf:=hg.few d
   refine sV (gB hfl (bI Z Z pG pI slq)) ?_
   refine sV (iF (k:=2) Z underlying55 Z isAgg52 Z) (sV (vA9 Z) (sN (nK9 [1,8,9,10,11,15,16] Z (nT (cS (EI (xT (cS (cS (dK (cz 9 1) ?_))))))))))
   unfold selOf
   have hih:=fun (cus:List Value) (hcr:Enc.rep Y cus (ae l d)) (s:Sd)=>yK (mb:=mb) (hg.fits hS) l.length Y (ae l d) d cus (.slice mA (look (build l).1 d).mems.length mK) (look (build l).1 d).mems s rfl hrk (hl.up hE) hcr hm hz1
   unfold eG at hih
   have hcc:=lI (n:=d) (fv:=.map (some mb)) (hl.up hE) rfl
   generalize (look (build l).1 d).mems=ms at hz1 hmf hih ⊢
   have hvl:=GJ ms J.seeds
   refine cR (sM Z (sV (aF Z underlying52) (sM Z (sN (nT (cB (aZ (σ := Value×Nat) (fun q=>[(1,sv d),(10,.pointer (some ⟨b10,0,none⟩)),(11,.pointer (some ⟨b11,0,none⟩)),(15,q.1),(16,.slice mA ms.length mK),(51,.slice mA ms.length mK),(52,.int .i64 ms.length),(53,.int .i64 (q.2:Nat))]) (fun q=>VR q.1 9 1 ((tu (ms.take q.2) J.seeds).map nC)::pt b11 (cl [sv J.name,.int .i64 J.kind,.slice sAq9 J.seeds.length sKq9,sv J.impl.cls,sv J.impl.name,x5,.int .i64 J.ty.kind,sv J.ty.name,y,.bool J.ty.void,.bool J.ty.sep,x11,x12,x13] 75)::pt b10 (cl [.slice vA l.length vK,.map (some mb),ow,.int .i64 cf0.kind,sv cf0.cls,sv cf0.name,sv cf0.other,sv cf0.a.par,sv cf0.a.name,sv cf0.b.par,sv cf0.b.name,.int .i64 0] 116)::Y::mps mb m::hr) (fun q=>q.1.oneCell'=true∧q.2≤ms.length) (fun q=>ms.length - q.2) (.slice none 0 0,0) ⟨Z,Nat.zero_le _⟩ ?_)))))))
   rintro ⟨w,i⟩ ⟨hw,hi⟩
   simp only at hw hi
   dsimp only
   refine cQ (sV (aO Z Z) (sN (nT (cS (cC Z (fun hd=>?_) (fun hd=>?_))))))
   ·have hlt:i<ms.length:=by simpa using hd
    have hsn:=LJ hlt J.seeds
    have hvl2:=GJ (ms.take i) J.seeds
    rw [List.length_take] at hvl2
    obtain ⟨fb,fo,fcap,fus,e1,hfus,hfrd,hfr⟩:=hz1.at (List.getElem?_eq_getElem hlt)
    obtain ⟨rfl,rfl⟩:mA=some ⟨fb,fo,none⟩∧mK=fcap:=by cases e1; exact ⟨rfl,rfl⟩
    generalize ms[i]=xm at hfr hsn
    have hfo:=Enc.ones hfr
    obtain ⟨m2,m5,my,m11,m12,m13,rfl,hm2,-⟩:=dJ hfr
    obtain ⟨m2A,m2K,rfl,_⟩:=id hm2.form
    unfold ik at *
    refine cK9 (xT (cS (cB (cQ (sV (vI (k:=i) Z Z pW Z hlt Z) (sV (ag Z fB Z hfrd) ?_))))))
    refine au jQ fun b18=>?_
    refine ai Z Z iD Z hfo ?_
    refine sN (nK9 [1,10,11,15,16,18,51,52,53] Z (nT (cS (cQ (sV (vF Z eO Z) (sV (vY Z qz) ?_))))))
    refine sV (aF Z underlying67) (sM Z (sN (nK9 [1,10,11,15,16,18,51,52,53,58,59,60] Z (nT (cB (aZ (σ := Nat) (fun j=>[(1,sv d),(10,.pointer (some ⟨b10,0,none⟩)),(11,.pointer (some ⟨b11,0,none⟩)),(15,w),(16,.slice (some ⟨fb,fo,none⟩) ms.length mK),(18,.pointer (some ⟨b18,0,none⟩)),(51,.slice (some ⟨fb,fo,none⟩) ms.length mK),(52,.int .i64 ms.length),(53,.int .i64 (i:Nat)),(58,.slice sAq9 J.seeds.length sKq9),(59,.int .i64 J.seeds.length),(60,.int .i64 (j:Nat))]) (fun _=>pt b18 (cl [sv xm.name,.int .i64 xm.kind,.slice m2A xm.seeds.length m2K,sv xm.impl.cls,sv xm.impl.name,m5,.int .i64 xm.ty.kind,sv xm.ty.name,my,.bool xm.ty.void,.bool xm.ty.sep,m11,m12,m13] 75)::VR w 9 1 ((tu (ms.take i) J.seeds).map nC)::pt b11 (cl [sv J.name,.int .i64 J.kind,.slice sAq9 J.seeds.length sKq9,sv J.impl.cls,sv J.impl.name,x5,.int .i64 J.ty.kind,sv J.ty.name,y,.bool J.ty.void,.bool J.ty.sep,x11,x12,x13] 75)::pt b10 (cl [.slice vA l.length vK,.map (some mb),ow,.int .i64 cf0.kind,sv cf0.cls,sv cf0.name,sv cf0.other,sv cf0.a.par,sv cf0.a.name,sv cf0.b.par,sv cf0.b.name,.int .i64 0] 116)::Y::mps mb m::hr) (fun j=>j≤J.seeds.length∧∀ k (hk:k<J.seeds.length),k<j→xm.seeds.contains J.seeds[k]=true) (fun j=>J.seeds.length - j) 0 ⟨Nat.zero_le _,fun k _ hk=>absurd hk (Nat.not_lt_zero _)⟩ ?_))))))
    rintro j ⟨hj,hal⟩
    try simp only at hj hal
    try dsimp only
    refine cQ (sV (aO Z Z) (sN (nT (cS (cC Z (fun hd2=>?_) (fun hd2=>?_))))))
    ·have hltj:j<J.seeds.length:=by simpa using hd2
     obtain ⟨gb,go,gcap,gus,e2,hgus,hgrd,hgr⟩:=hx2.at (List.getElem?_eq_getElem hltj)
     obtain ⟨rfl,rfl⟩:sAq9=some ⟨gb,go,none⟩∧sKq9=gcap:=by cases e2; exact ⟨rfl,rfl⟩
     have hcj:∀ hq:xm.seeds.contains J.seeds[j]=true,∀ k (hk:k<J.seeds.length),k<j+1→xm.seeds.contains J.seeds[k]=true:=fun hq k hk hkj=>by
      by_cases h:k=j
      ·subst h; exact hq
      ·exact hal k hk (by omega)
     have hmemj:=List.getElem_mem hltj
     generalize J.seeds[j]=s at hgr hcj hmemj
     obtain rfl:gus=[sv s.cls,sv s.name]:=hgr
     refine cK9 (xT (cS (cB (cQ (sV (vI (k:=j) Z Z pX Z hltj Z) (sV (ag Z iM Z hgrd) ?_))))))
     refine au al69 fun b20=>?_
     refine ai Z Z sz69 Z Z ?_
     refine sN (nK9 [1,10,11,15,16,18,20,51,52,53,58,59,60] Z (nT (cQ (sV (vF Z eO Z) (sV (vY Z qz) ?_)))))
     refine sV (ag Z iM Z af) ?_
     refine bg Z Z en33 Z (vG (s:=s) hm2) ?_
     refine sV (bi Z) (sN (nK9 [1,10,11,15,16,18,51,52,53,58,59,60,68] Z (nT (cC Z (fun hct=>?_) (fun hct=>?_)))))
     ·have hct:xm.seeds.contains s=false:=by simpa using hct
      have hsn2:tu (ms.take (i+1)) J.seeds=tu (ms.take i) J.seeds:=by
       rw [hsn,if_neg,List.append_nil]
       intro h
       rw [List.all_eq_true.1 h s hmemj] at hct; cases hct
      refine aB (fF (by decide) ?_)
      refine xE (xE (fF (by decide) ?_))
      refine xE (xY (xT (cR (sV (aI Z Z (by unfold I64 at *; omega)) (sM Z (sN (nK9 [1,10,11,15,16,51,52,53] Z (ax ?_))))))))
      rw [← hsn2]
      refine aJ (w,i+1) ⟨hw,hlt⟩ (by show ms.length - (i+1)<ms.length - i; omega)
     ·have hct:xm.seeds.contains s=true:=by simpa using hct
      refine cK9 (xB (xT (cR (sV (aI Z Z (by unfold I64 at *; omega)) (sM Z (sN (nK9 [1,10,11,15,16,18,51,52,53,58,59,60] Z (ax ?_))))))))
      refine aJ (j+1) ⟨hltj,hcj hct⟩ (by show J.seeds.length - (j+1)<J.seeds.length - j; omega)
    ·have hje:j=J.seeds.length:=Nat.le_antisymm hj (Nat.not_lt.1 (by simpa using hd2))
     subst hje
     rw [if_pos (List.all_eq_true.2 fun s hs=>by
      obtain ⟨k,hk,rfl⟩:=List.getElem_of_mem hs
      exact hal k hk hk)] at hsn
     refine aB (xE (xE (xY (xT (cR (sM Z (sV (vF Z eH Z) (sV (vY Z ld9) ?_))))))))
     refine ak (cells:=[sv xm.name]) Z underlying40 fG Z Z (by kernel_rfl) (ltn Z) fun b73=>?_
     refine dU [[sv xm.name]] Z Z underlying40 fG Z (by decide) (show Sel _ (VR w 9 1 ((tu (ms.take i) J.seeds).map nC)) _ from slq) (by simp) Z (fun j u2 hu2=>bP (bU (by simpa using hu2))) (by simp [sv,Value.oneCell']) (by rw [List.length_map]; omega) (by rw [List.length_map]; omega) (ltn Z) fun w2 hw2 _=>?_
     refine sV (vA9 Z) (sN (nK9 [1,10,11,15,16,51,52,53] Z (ax (xB (xT (cR (sV (aI Z Z (by unfold I64 at *; omega)) (sM Z (sN (nK9 [1,10,11,15,16,51,52,53] Z (ax ?_)))))))))))
     rw [show (tu (ms.take i) J.seeds).map nC++[[sv xm.name]]=(tu (ms.take (i+1)) J.seeds).map nC by rw [hsn,List.map_append]; rfl]
     refine aJ (w2,i+1) ⟨hw2,hlt⟩ (by show ms.length - (i+1)<ms.length - i; omega)
   ·have hie:i=ms.length:=Nat.le_antisymm hi (Nat.not_lt.1 (by simpa using hd))
    subst hie
    rw [List.take_length]
    generalize tu ms J.seeds=L at hvl ⊢
    refine fV (v:=w) (E:=9) (sz:=1) (rows:=L.map nC) slq fun wa wc hwf hwl hwm=>?_
    rw [List.length_map] at hwf hwl
    subst hwf
    refine fI (r:=VR (.slice wa L.length wc) 9 1 (L.map nC)) slq fun hok=>?_
    have hwa:L≠[]→∃ ab ao,wa=some ⟨ab,ao,none⟩:=fun hne=>by
     obtain ⟨f0,hf0⟩:=hok
     rcases VR.form hf0 with ⟨h3,h4⟩ | ⟨b,o,cp,h3,-⟩
     ·exact absurd (List.map_eq_nil_iff.1 h4) hne
     ·rw [List.length_map] at h3; cases h3; exact ⟨b,o,rfl⟩
    refine aB (xE (xE (xY (xT (cS (cQ (sM Z (sV (aF Z underlying40) (sN (nK9 [1,10,11,15,16,77] Z (nT (cB (cQ ?_)))))))))))))
    refine sV (dB Z Z) (sV (vA9 Z) (sN (nK9 [1,10,11,15,16,77,78] Z (nT (cC Z (fun h0=>?_) (fun h0=>?_))))))
    ·have h0:L=[]:=List.eq_nil_of_length_eq_zero (by simpa using h0)
     subst h0
     refine cQ (sV (vA9 Z) (sV (vA9 Z) (sN (nK9 [8,9] Z (nT (cT (xW (xR (eZ ?_)))))))))
     exact aj Z ⟨Y,[],Z,hE,Z,Z⟩ sbq
    ·have h0:L≠[]:=fun h=>by subst h; simp at h0
     refine cQ (sV (dB Z Z) (sV (vA9 Z) (sN (nK9 [1,10,11,15,16,80] Z (nT (cC Z (fun h1=>?_) (fun h1=>?_)))))))
     ·have h1:((L.length:Nat):Int)=1:=by simpa using h1
      have h1':L.length=1:=by omega
      obtain ⟨a,rfl⟩:∃ a,L=[a]:=List.length_eq_one_iff.1 h1'
      obtain ⟨ab,ao,rfl⟩:=hwa h0
      refine cQ (sM Z (sV (vI (k:=0) Z Z jh Z (by simp) Z) ?_))
      refine sV (vY Z ld9 (ha:=⟨_,_,slq,eQ (show ([a].map nC)[0]? = some [sv a] from Z) 0 (by simp)⟩)) ?_
      refine sV (vA9 Z) (sV (vA9 Z) (sN (nK9 [8,9] Z (nT (cT (xW (xR (eZ ?_))))))))
      exact aj Z ⟨Y,[],Z,hE,Z,Z⟩ sbq
     ·obtain ⟨a,b,tl,rfl⟩:∃ a b tl,L=a::b::tl:=by
       match L,h0,h1 with
       | [a],_,h1=>simp at h1
       | a::b::tl,_,_=>exact ⟨a,b,tl,rfl⟩
      obtain ⟨s0,ss,hss⟩:=List.exists_cons_of_ne_nil hsne
      rw [show J.seeds.headD ⟨[],[]⟩=s0 by rw [hss]; rfl]
      have hls0:0<J.seeds.length:=by rw [hss]; simp
      obtain ⟨gb,go,gcap,gus,e2,hgus,hgrd,hgr⟩:=hx2.at (i:=0) (a:=s0) (by rw [hss]; rfl)
      obtain ⟨rfl,rfl⟩:sAq9=some ⟨gb,go,none⟩∧sKq9=gcap:=by cases e2; exact ⟨rfl,rfl⟩
      obtain rfl:gus=[sv s0.cls,sv s0.name]:=hgr
      have hih:=fun (cus:List Value) (hcr:Enc.rep Y cus (ae l d))=>hih cus hcr s0
      generalize eF (look (build l).1) l l.length (ae l d) ms s0=r at hih ⊢
      refine cK9 (xB (xT (cS (bB (ork [(0,2),(1,1),(2,2),(3,1),(4,2),(6,2),(7,2),(8,1),(9,2),(10,1),(5,0),(11,0),(12,2),(13,2),(14,2),(15,2),(16,2)] .nil) (fun i => !(Nat.beq i 11)) mixed (by kernel_rfl) ?_))))
      refine dV Z (vF Z gL Z) (bu Z (ag Z gT Z (bF (k:=0) af (vs:=[.slice vA l.length vK,.map (some mb)]) Z)) ?_)
      refine dV Z (vF Z gL Z) (bu Z (ag Z gT Z (bF (k:=0) af (vs:=[.slice vA l.length vK,.map (some mb)]) Z)) ?_)
      refine dV Z (vM Z) (dV Z (vM Z) (dV Z (vF Z eO Z) (bu Z (vY Z qz) ?_)))
      refine dV Z (vI (k:=0) Z Z pX Z hls0 Z) (bu Z (ag Z iM Z hgrd) ?_)
      refine aQ Z (aH Z Z en56 Z (hcc) ?_)
      rintro u h' ⟨rfl,cus,rfl,hcr⟩
      simp only [lC,lN]
      refine aW ?_
      refine aQ Z (bM hw0 Z Z en98 Z (hih cus hcr) ?_)
      rintro u h' ⟨Z2,k2,rfl,hE3,rfl,rfl⟩
      simp only [lC,lN]
      refine aW ?_
      refine dV Z (vM Z) (dV Z (ah Z Z) (dV Z (ah Z Z) (dV Z (vA9 Z) (dV Z (vA9 Z) (bA (nK9 [15,21] Z (nT (cS (cQ (sM Z (sM Z (bg Z Z DN Z (fu (iH hok) r.1 (by omega)) ?_))))))))))))
      refine sV (bi Z) (sN (nK9 [21,103] Z (nT (cC Z (fun hcq=>?_) (fun hcq=>?_)))))
      ·rw [if_neg (by simpa using hcq)]
       refine cQ (sV (vA9 Z) (sV (vA9 Z) (sN (nK9 [8,9] Z (nT (cT (xR (eZ ?_))))))))
       exact aj Z ⟨Z2,[],Z,hE.trans hE3,Z,Z⟩ sbq
      ·rw [if_pos (by rw [Bool.not_eq_false'] at hcq; exact hcq)]
       refine cK9 (xT (cQ (sM Z (sV (vA9 Z) (sV (vA9 Z) (sN (nK9 [8,9] Z (nT (cT (eZ ?_))))))))))
       exact aj Z ⟨Z2,[],Z,hE.trans hE3,Z,Z⟩ sbq
end
end Go.Fl
namespace Go.Fl
open Go Go.Hr
def nP:Nm:=[80]
def nA:Nm:=[65]
def nB:Nm:=[66]
def nQ:Nm:=[67]
def na:Nm:=[97]
def nb:Nm:=[98]
def nn:Nm:=[110]
def tY:Nm:=[65,78,89]
def ty0:Kt:=.mk 0 [] [] false false
def qZ (n:Nm):Fe:=⟨2,n,[tY],[],ty0,[],[]⟩
def GK (n:Nm):Fe:=⟨1,n,[tY],[],.mk 1 [] [] false false,[],[]⟩
def exPc:FC:=⟨nP,false,[],[],[qZ na,GK nn],[]⟩
def exAc (und:List Nm):FC:=⟨nA,false,[],[⟨nP,[],[],und,[],[]⟩],[],[]⟩
def exBc (red:List Nm):FC:=⟨nB,false,[],[⟨nP,[],[⟨na,nb⟩],[],red,[]⟩],[qZ nb],[]⟩
def exQc (sel:List Nm):FC:=⟨nQ,false,[],[⟨nA,[],[],[],[],[]⟩,⟨nB,[],[],[],[],sel⟩],[],[]⟩
def Be (und red sel:List Nm):FS:=[exPc,exAc und,exBc red,exQc sel]
def ex1:FS:=Be [] [nb] []
def ex2:FS:=Be [] [nb] [nb]
def ex3:FS:=Be [] [] []
def ex4:FS:=Be [nn] [nb] []
def cf1:Cf:=⟨11,nQ,na,nb,⟨nP,na⟩,og0⟩
def cf3:Cf:=⟨7,nB,nb,[],⟨nP,na⟩,og0⟩
def cf4:Cf:=⟨4,nA,nn,[],⟨nP,nn⟩,og0⟩
theorem LK:d9 ex1=(cf1,true,0):=by decide +kernel
theorem LM:gV ex1 cf1=0:=by decide +kernel
theorem LP:d9 ex3=(cf3,true,0):=by decide +kernel
theorem LQ:gV ex3 cf3=0:=by decide +kernel
theorem LU:d9 ex4=(cf4,true,0):=by decide +kernel
theorem LV:gV ex4 cf4=0:=by decide +kernel
theorem GL:ed ex2 nQ=((ed ex2 nQ).1,0)∧(ed ex2 nQ).1.mems.length=3∧((ed ex2 nQ).1.mems.map fun m=>m.name)=[na,nb,nn]:=by decide +kernel
theorem Da:ed ex2 nB=((ed ex2 nB).1,0)∧((ed ex2 nB).1.mems.map fun m=>(m.impl,m.seeds))=[(⟨nB,nb⟩,[⟨nP,na⟩]),(⟨nP,nn⟩,[⟨nP,nn⟩])]:=by decide +kernel
theorem LW:jJ ex2 nQ ⟨nP,na⟩=([na,nb],0):=by decide +kernel
theorem GM:oriP ex2 nQ nn=([⟨nA,nn⟩,⟨nB,nn⟩],0):=by decide +kernel
theorem GN:vB ex2 nQ nP na=(nb,0):=by decide +kernel
end Go.Fl
namespace Go.Fl
open Go Go.RowKit Go.Ck Go.Proofs Go.Proofs.Tryz Go.Proofs.YtknmacdbffgjgaaGreatDoor Fx Go.Hr
section
variable {P:Program} {w:World} {xs ys:Array Value} {d:Nat}
theorem kV {f : Field} {fs : List Field} {a b : Value} {r r2 : Bool} (h1 : f.name ≠ "_") (ha : (part f.type xs f.offset).run P w = .ok a w) (hb : (part f.type ys f.offset).run P w = .ok b w)
  (he:(Op.equalIn d f.type a b).run P w = .ok r w) (ht:(Op.eqFields d xs ys fs).run P w = .ok r2 w):(Op.eqFields d xs ys (f::fs)).run P w = .ok (r && r2) w:=by
 unfold Op.eqFields
 rw [if_pos h1]
 simp only [Sem.run_bind,ha,hb,he,Result.andThen_ok]
 cases r
 ·rw [if_pos (by rfl)]; rfl
 ·rw [if_neg (by simp),ht]; rfl
theorem fw {T:TypeId} {i:Nat} {v:Value} (hi:(isAgg T).run P w = .ok false w) (hx:xs[i]? = some v):(part T xs i).run P w = .ok v w:=by
 unfold part
 simp only [Sem.run_bind,hi,Result.andThen_ok,Bool.false_eq_true,if_false,hx,Sem.run_pure]
theorem kK {T:TypeId} {i n:Nat} (hi:(isAgg T).run P w = .ok true w) (hs:(sizeOf T).run P w = .ok n w):(part T xs i).run P w = .ok (.agg (xs.extract i (i+n))) w:=by
 unfold part
 simp only [Sem.run_bind,hi,hs,Result.andThen_ok,if_true,Sem.run_pure]
end
theorem Db (w:World) (d:Nat) (a b c e:Nm):(Op.equalIn (d+2) 24 (.agg #[sv a,sv b]) (.agg #[sv c,sv e])).run prog w = .ok ([a,b] == [c,e]) w:=by
 have hf:prog.underlying 24=some (.struct (prog.fieldsOf 24)):=by simp [Program.fieldsOf,underlying24]
 rw [run_equalIn_struct w (d+1) 24 _ _ hf (by kernel_rfl)]
 exact sP (xs:=[a,b]) (ys:=[c,e]) (prog.fieldsOf 24).toList 0 (by kernel_rfl) (by kernel_rfl) (by kernel_rfl)
theorem cf_beq {x y:Cf}:decide (x=y)=(x.kind == y.kind && (x.cls == y.cls && (x.name == y.name && (x.other == y.other && ([x.a.par,x.a.name] == [y.a.par,y.a.name] && ([x.b.par,x.b.name] == [y.b.par,y.b.name] && true)))))):=by
 obtain ⟨k,c,n,o,⟨a1,a2⟩,⟨b1,b2⟩⟩:=x
 obtain ⟨k',c',n',o',⟨a1',a2'⟩,⟨b1',b2'⟩⟩:=y
 rw [Bool.eq_iff_iff]
 simp
theorem Dc {P:Program} {T:TypeId} {k:IntKind} {w:World} (hu:P.underlying T=some (.int k)):(isAgg T).run P w = .ok false w:=by
 unfold isAgg
 simp only [Sem.run_bind,run_underlying hu,Result.andThen_ok]
 rfl
theorem kW {P:Program} {T:TypeId} {w:World} (hu:P.underlying T=some .string):(isAgg T).run P w = .ok false w:=by
 unfold isAgg
 simp only [Sem.run_bind,run_underlying hu,Result.andThen_ok]
 rfl
theorem eqC (w:World) (x y:Cf):(Op.equalIn 10000 26 (cfV x) (cfV y)).run prog w = .ok (decide (x=y)) w:=by
 have hf:prog.underlying 26=some (.struct (prog.fieldsOf 26)):=by simp [Program.fieldsOf,underlying26]
 have hs:(sizeOf 24).run prog w = .ok 2 w:=by kernel_rfl
 have ha:(isAgg 24).run prog w = .ok true w:=by kernel_rfl
 unfold cfV
 rw [run_equalIn_struct w 9999 26 _ _ hf (by kernel_rfl),cf_beq]
 rw [show prog.fieldsOf 26=_ from by rw [Program.fieldsOf,underlying26]]
 refine kV (by decide) (fw (Dc underlying3) Z) (fw (Dc underlying3) Z) (run_equalIn_int w 9998 3 .i64 .i64 _ _ underlying3) ?_
 have hstr:∀ a b:Nm,(Op.equalIn 9999 9 (sv a) (sv b)).run prog w = .ok (a == b) w:=fun a b=>by
  rw [show (Op.equalIn 9999 9 (sv a) (sv b)).run prog w=_ from run_equalIn_string w 9998 9 _ _ underlying9,iW,iW]
 refine kV (by decide) (fw (kW underlying9) Z) (fw (kW underlying9) Z) (hstr _ _) ?_
 refine kV (by decide) (fw (kW underlying9) Z) (fw (kW underlying9) Z) (hstr _ _) ?_
 refine kV (by decide) (fw (kW underlying9) Z) (fw (kW underlying9) Z) (hstr _ _) ?_
 refine kV (by decide) (kK ha hs) (kK ha hs) (Db w 9997 _ _ _ _) ?_
 refine kV (by decide) (kK ha hs) (kK ha hs) (Db w 9997 _ _ _ _) ?_
 simp [Op.eqFields]
theorem gd26:prog.eqGuardType prog.depth 26=false:=by kernel_rfl
section
variable {e:Env} {h:SH} {ty:TypeId}
theorem v_eqC {t':TypeId} {x y:Operand} {a b:Cf} (hx:e.ev? x=some (cfV a)) (hy:e.ev? y=some (cfV b)):Vop prog e h (.binOp .eql 26 x y t') ty (.bool (decide (a=b))):=
 ⟨by simp,by simp,fun ρ w dd pos after g hρ _=>by
  have hq:=eqC w a b
  unfold cfV at *
  simp only [execOp,hρ x _ hx,hρ y _ hy,Sem.run_bind,run_eqGuard_agg w .eql 26 x y _ _ gd26,Result.andThen_ok,run_eql_struct,hq,Sem.run_pure]⟩
end
end Go.Fl
