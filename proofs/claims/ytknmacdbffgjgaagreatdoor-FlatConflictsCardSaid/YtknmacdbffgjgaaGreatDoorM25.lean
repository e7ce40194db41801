/-
  What holds of a system of which the calls say no error. No program in sight.
-/
import Derived.Test.YtknmacdbffgjgaaGreatDoorM24
import Derived.Test.YtknmacdbffgjgaaGreatDoorM20
import Derived.Test.YtknmacdbffgjgaaGreatDoorM10
import Derived.Test.YtknmacdbffgjgaaGreatDoorM19
set_option linter.unusedVariables false
set_option linter.unusedSimpArgs false
set_option maxRecDepth 100000
set_option maxHeartbeats 16000000
namespace Go.Ck
open Go Go.RowKit
theorem Yc.star {P:Program} {l:Nat} {args:Array Value} {L:SH} {R R':Value→SH→Prop} (h:Yc P l args L R) (hr:∀ u L',R u L'→R' u [Res.star L']):Yc P l args [Res.star L] R':=fun hr2 w hh =>
 iR (fun v w' ⟨h',hR,hH,hS⟩=>⟨[Res.star h'],hr v h' hR,cZ.2 hH,hS⟩) (h hr2 w (cZ.1 hh))
theorem Ctw.star {P:Program} {k:FuncId} {args:Array Value} {L A:SH} {R:Value→SH→Prop} (h:Ctw P k args (Res.star L::A) R):Ctw P k args (L++A) R:=fun hr w hh =>
 by
 have h2:Holds w (L++(A++hr)):=by rw [← List.append_assoc]; exact hh
 exact h hr w (cZ.2 h2)
theorem Ctw.vw {P:Program} {k:FuncId} {args:Array Value} {hf:SH} {R R':Value→SH→Prop} (h:Ctw P k args hf R) (hv:∀ u h',R u h'→∃ h'',(∀ t,Vw (h'++t) (h''++t))∧R' u h''):Ctw P k args hf R':=fun hr w hh =>
 (h hr w hh).mono fun _ w' ⟨u,h',he,hR,hH,hS⟩=>by
  obtain ⟨h'',g1,g2⟩:=hv u h' hR
  exact ⟨u,h'',he,g2,g1 hr w' hH,hS⟩
theorem Ctw.frame {P:Program} {k:FuncId} {args:Array Value} {hf g:SH} {R:Value→SH→Prop} (h:Ctw P k args hf R):Ctw P k args (hf++g) fun u h'=>∃ h0,R u h0∧h'=h0++g:=fun hr w hh=>by
 have h1:Holds w (hf++(g++hr)):=by rw [← List.append_assoc]; exact hh
 exact (h (g++hr) w h1).mono fun _ _ ⟨u,h',he,hR,hH,hS⟩=>⟨u,h'++g,he,⟨h',hR,Z⟩,by rw [List.append_assoc]; exact hH,hS⟩
theorem xI {L A t:SH}:Vw ((A++[Res.star L])++t) ((L++A)++t):=fun w hh=>by
 have hp:((A++[Res.star L])++t).Perm (Res.star L::(A++t)):=by
  rw [List.append_assoc]
  exact List.perm_middle
 have h1:Holds w (Res.star L::(A++t)):=(bf.perm hp).1 hh
 have h2:=cZ.1 h1
 rw [List.append_assoc]; exact h2
theorem kg {P:Program} {r:Option Nat} {n:Nat} {ds:List Deferred} {w0:World} {hr k h h':SH} {R:Value→SH→Prop} {fn:Func} {e:Env} {vs:List Value} {bs:List Nat} (hds:ds=bs.map mk) (hv:ResV P k e fn.results.toList vs) (hR:R (kr vs) h') (hk:Sub (h'++hr) k) (hp:Sub (Res.star (marks bs)::k) h) :
  Xt ⟨P,r,n,ds,w0⟩ .ret (bodyPostM (Fw none) 0 P fn (Post w0 hr R)) e h:=fun a w hk' hh hw=>nS hds hv hR hk (Sub.refl _) a w hk' (cZ.1 (hh.sub hp)) hw
end Go.Ck
namespace Go.Fl
open Go Go.RowKit Go.Ck Go.Proofs Go.Proofs.Tryz Go.Proofs.YtknmacdbffgjgaaGreatDoor Fx Go.Hr
def tX (v fv ow:Value) (x:Cf) (e:Int):List Value:=[v,fv,ow,.int .i64 x.kind,sv x.cls,sv x.name,sv x.other,sv x.a.par,sv x.a.name,sv x.b.par,sv x.b.name,.int .i64 e]
theorem xJ {fs:List (Nm×Fl)} {n:Nm} {f:Fl} (h:n ∉ fs.map fun p=>p.1) (k:Nm):look (fs++[(n,f)]) k=if k=n then f else look fs k:=by
 unfold look
 rw [List.find?_append]
 by_cases hk:k=n
 ·subst hk
  have:fs.find? (fun p=>p.1 == k)=none:=by
   rw [List.find?_eq_none]
   intro p hp
   simp only [beq_iff_eq]
   exact fun e=>h (List.mem_map.2 ⟨p,hp,e⟩)
  rw [this,if_pos rfl]; simp
 ·have:([(n,f)]:List (Nm×Fl)).find? (fun p=>p.1 == k)=none:=by simp; exact fun e=>hk e.symm
  rw [this,if_neg hk]; simp
theorem FlR.put {X:Res} {m:List (Nm×Value)} {fs:List (Nm×Fl)} {n:Nm} {f:Fl} {us:List Value} (h:FlR X m (look fs)) (hn:n ∉ fs.map fun p=>p.1) (hr:Enc.rep X us f):FlR X (dZ m n (.agg us.toArray)) (look (fs++[(n,f)])):=fun k=>by
 rw [nu,xJ hn]
 by_cases hk:k=n
 ·rw [if_pos hk,if_pos hk]; exact ⟨us,rfl,hr⟩
 ·rw [if_neg hk,if_neg hk]; exact h k
theorem FlB.put {l:FS} {fs:List (Nm×Fl)} {n:Nm} {f:Fl} (h:FlB l (look fs)) (hn:n ∉ fs.map fun p=>p.1) (h1:f.mems.length≤60) (h2:∀ m∈f.mems,MOk l m):FlB l (look (fs++[(n,f)])):=by
 constructor
 ·intro k
  rw [xJ hn]
  split
  ·exact h1
  ·exact h.few k
 ·intro k m hm
  rw [xJ hn] at hm
  split at hm
  ·exact h2 m hm
  ·exact h.ok k m hm
def jw (l:FS):Prop:=∀ c∈l,∀ p∈c.pars,p.ren.length≤12∧p.und.length≤12∧p.red.length≤12∧p.sel.length≤12
theorem nO {l:FS} (hR:FRight l) {c:Nm} (hc:(bL l c).isSome=true):(above (bn l) c).length≤24:=by
 obtain ⟨h1,h2⟩:=iI hR.sys.acyc c
 have h3:(above (bn l) c).length≤(nms (bn l)).length:=aP h1.nodup fun x hx=>fD.1 (uq (by rw [dW]; exact hc) ((h2 x).1 hx))
 have h4:(nms (bn l)).length=l.length:=by simp [nms,bn]
 have h5:=hR.sys.len
 rw [jW] at h5
 omega
theorem fits0 {l:FS} (hR:FRight l) (hS:jw l):Fits l (look []):=⟨hR,⟨fun _=>Nat.zero_le _,fun _ m hm=>by cases hm⟩,hS⟩
theorem flr0 {X:Res}:FlR X [] (look []):=fun _=>⟨[sv [],.bool false,.slice none 0 0,.slice none 0 0],rfl,.slice none 0 0,.slice none 0 0,rfl,Ls.nil,Ls.nil⟩
attribute [local irreducible] Go.Ck.Sub St Cd Xt Nx DrL LsW
section
variable {X Y:Res} {v v':Value} {us us':List Value}

theorem GD {l : FS} (hl : Ls X v l) (hR : FRight l) (hS : jw l) :
  eG prog 53 #[v] X [] fun u Y k'=>∃ mb m ow names,u = .agg (tX v (.map (some mb)) ow (build l).2.1 (build l).2.2).toArray∧k'=[mps mb m,VR ow 9 1 (names.map nC)]∧FlR Y m (look (build l).1)∧names=(build l).1.map (fun p=>p.1)∧ow.oneCell'=true:=by
 have hml:maxLen=9223372036854775807:=rfl
 have hrb:reachBytes=140737488351232:=rfl
 obtain ⟨vA,vK,rfl,_⟩:=id hl.form
 have hord:=Nh (xe hl)
 have hr0:dI (bn l) []=0:=eB.2 ⟨hR.sys,by simp⟩
 rw [hr0,show okL 0 (order (bn l))=order (bn l) from rfl] at hord
 have hbe:build l=lw l (order (bn l)) []:=rfl
 have hon:(order (bn l)).Nodup:=(iJ hR.sys.acyc hR.sys.uniq).1.nodup
 have hof:∀ n∈order (bn l),(bL l n).isSome=true:=fun n hn=>(gp hR.sys).1 hn
 have hol:(order (bn l)).length≤24:=by
  have h1:(order (bn l)).length≤(nms (bn l)).length:=aP hon fun x hx=>((iJ hR.sys.acyc hR.sys.uniq).2 x).1 hx
  have h2:(nms (bn l)).length=l.length:=by simp [nms,bn]
  have h3:=hR.sys.len
  rw [jW] at h3
  omega
 rw [hbe]
 generalize order (bn l)=xs at hord hon hof hol ⊢
 unfold eG
 refine En (n:=65) func53 Z Z (len Z) fun hr w0 hw0=>?_
 refine cQ (au pM fun b2=>?_)
 refine sN (nT (cQ (sM Z (aH Z Z en116 Z (hord) ?_))))
 rintro u h' ⟨T,rfl,w,rfl,hw,rfl⟩
 simp only [lC,lN]
 unfold NR
 refine sM Z (sV (ah Z Z) (sV (ah Z Z) (sV (vA9 Z) (sV (vA9 Z) (sN (nK9 [0,2,3] Z (nT (cS (fV (v:=w) (E:=9) (sz:=1) (rows:=xs.map nC) slq fun wa wc hwf hwl hwm=>?_)))))))))
 rw [List.length_map] at hwf hwl
 subst hwf
 refine cR (sM Z (eu (ltn Z) fun mb=>?_))
 refine sV (aN (cells:=[.slice vA l.length vK,.map (some mb)]) Z (fun _=>by kernel_rfl)) ?_
 refine sV (aN (cells:=tX (.slice vA l.length vK) (.map (some mb)) (.slice none 0 0) cf0 0) Z (fun _=>by kernel_rfl)) ?_
 refine au pM fun b5=>?_
 refine ai Z Z jg Z Z ?_
 refine sN (nK9 [2,3,5] Z (nT (cS (cQ (sM Z (sV (aF Z underlying40) (sM Z (sN (nK9 [2,5,20,21,22] Z (nT (cB (dK (cz 9 1) (nk (ni (σ := Res×List (Nm×Value)×Value×Nat×List (Nm×Fl)×List Nat) (fun q=>q.2.2.2.2.2.map mk) (fun q=>[(2,.pointer (some ⟨b2,0,none⟩)),(5,.pointer (some ⟨b5,0,none⟩)),(20,.slice wa xs.length wc),(21,.int .i64 xs.length),(22,.int .i64 (q.2.2.2.1:Nat))]) (fun q=>Res.star (marks q.2.2.2.2.2)::pt b5 (cl (tX (.slice vA l.length vK) (.map (some mb)) q.2.2.1 cf0 0) 116)::VR q.2.2.1 9 1 ((xs.take q.2.2.2.1).map nC)::VR (.slice wa xs.length wc) 9 1 (xs.map nC)::pt b2 (cl (tX (.slice none 0 0) (.map none) (.slice none 0 0) cf0 0) 116)::q.1::mps mb q.2.1::hr) (fun q=>Ext X q.1∧q.2.2.2.1≤xs.length∧q.2.2.1.oneCell'=true∧FlR q.1 q.2.1 (look q.2.2.2.2.1)∧Fits l (look q.2.2.2.2.1)∧q.2.2.2.2.1.map (fun p=>p.1)=xs.take q.2.2.2.1∧lw l xs []=lw l (xs.drop q.2.2.2.1) q.2.2.2.2.1) (fun q=>xs.length - q.2.2.2.1) (X,[],.slice none 0 0,0,[],[]) ⟨Ext.refl X,Nat.zero_le _,Z,flr0,fits0 hR hS,Z,Z⟩ Z ⟨Z,Z,Z,Z,Z,trivial⟩ sbq ?_))))))))))))))
 rintro ⟨Y,m,ow,i,fs,bs⟩ ⟨hE,hi,how,hm,hF,hfs,hbl⟩
 simp only at hE hi how hm hF hfs hbl
 dsimp only
 unfold tX
 dsimp only [cf0,og0]
 refine cQ (sV (aO Z Z) (sN (nT (cS (cC Z (fun hd=>?_) (fun hd=>?_))))))
 ·have hlt:i<xs.length:=by simpa using hd
  have hnx:(xs.map nC)[i]? = some [sv xs[i]]:=by rw [List.getElem?_map,List.getElem?_eq_getElem hlt]; rfl
  have hnm:=hof _ (List.getElem_mem hlt)
  have htk:=bV hlt
  have hdr:=List.drop_eq_getElem_cons hlt
  rw [hdr] at hbl
  have hnew:xs[i] ∉ fs.map fun p=>p.1:=by
   rw [hfs]
   intro hmem
   obtain ⟨j,hj,he⟩:=List.mem_take_iff_getElem.1 hmem
   have:=(List.getElem_inj hon).1 he
   omega
  refine fI (r:=VR (.slice wa xs.length wc) 9 1 (xs.map nC)) slq fun hok=>?_
  obtain ⟨ab,ao,rfl⟩:∃ ab ao,wa=some ⟨ab,ao,none⟩:=by
   obtain ⟨f0,hf0⟩:=hok
   rcases VR.form hf0 with ⟨h3,h4⟩ | ⟨b,o,cp,h3,-⟩
   ·have:=List.map_eq_nil_iff.1 h4
    rw [this] at hlt; simp at hlt
   ·rw [List.length_map] at h3; cases h3; exact ⟨b,o,rfl⟩
  generalize xs[i]=n at hnx hnm htk hnew hbl
  obtain ⟨hcn,hcl⟩:(ae l n).name=n∧ae l n∈l:=by
   obtain ⟨c0,hc0⟩:=Option.isSome_iff_exists.1 hnm
   rw [fZ hc0]
   exact ⟨lD hc0,List.mem_of_find?_eq_some hc0⟩
  have hCR:=gm (hR.form _ hcl)
  have hfew:=hF.few (.inl hcl)
  obtain ⟨hsS,hsP,hsQ⟩:=hF.sums hcl
  obtain ⟨hmf,hmS⟩:=Gn hF.right hF.flb hcl
  have hmok:=zt hF.flb.ok hCR hcl
  have hfl:=hCR.feats
  have hcc:=lI (n:=n) (fv:=.map (some mb)) (hl.up hE) rfl
  refine cK9 (xT (cS (cB (cQ (sV (vI (k:=i) Z Z jh Z hlt Z) (sV (vY Z ld9 (ha:=⟨_,_,slq,eQ hnx 0 (by simp)⟩)) ?_))))))
  refine sV (vA9 Z) (sN (nK9 [2,5,7,20,21,22] Z (nT (cQ (sV (vF Z gL Z) (sV (ag Z gT Z (bF (k:=0) af (vs:=[.slice vA l.length vK,.map (some mb)]) Z)) ?_))))))
  refine sM Z (aH Z Z en56 Z (hcc) ?_)
  rintro u h' ⟨rfl,cus,rfl,hcr⟩
  simp only [lC,lN]
  have hcr0:=hcr
  obtain ⟨ca,cb,ce,cf,ci,rfl,-⟩:=gq hcr
  have hco:=Enc.ones hcr0
  refine au nJ fun b8=>?_
  refine ai Z Z lS Z hco ?_
  refine sN (nK9 [2,5,7,8,20,21,22] Z (nT (cQ (sV (vF Z gL Z) (sV (ag Z gT Z (bF (k:=0) af (vs:=[.slice vA l.length vK,.map (some mb)]) Z)) ?_)))))
  refine sV (ag Z gG Z af) ?_
  have hmem:=A9 (mb:=mb) (hl.up hE) hcr0 hm (hF.hf (.inl hcl)) (by omega) hCR.names (by omega) (by omega) (by omega) (by omega)
  unfold CtX at hmem
  refine aH Z Z en57 Z (hmem) ?_
  rintro u h' ⟨Y2,k2,rfl,hE2,rfl,hms⟩
  simp only [lC,lN]
  have hE2':=hE.trans hE2
  have hc58:=xH (mb:=mb) (all:=false) (hl.up hE2') (Enc.up hE2.rd hcr0) (hm.up hE2) hms hF hcl
  unfold CtX at hc58
  refine sV (vA9 Z) (sN (nK9 [2,5,7,8,9,20,21,22] Z (nT (cS (cQ (sV (vF Z gL Z) (sV (ag Z gT Z (bF (k:=0) af (vs:=[.slice vA l.length vK,.map (some mb)]) Z)) ?_)))))))
  refine sV (ag Z gG Z af) ?_
  refine sM Z (aH Z Z en58 Z (hc58) ?_)
  rintro u2 h' ⟨Y3,k3,rfl,hE3,b9,bm,bmp,da,dbb,de,df,di,rfl,rfl,hK,hk0⟩
  simp only [lC,lN]
  have hE3':=hE2'.trans hE3
  refine sN (nK9 [2,5,7,8,9,20,21,22,38] Z (nT (cB ?_)))
  have hB:SkB ⟨look fs,l,ae l n,members (comes (look fs) l (ae l n)) (ae l n),false⟩:=⟨hF,hcl,hmS,hmf⟩
  have hbl':lw l (n::xs.drop (i+1)) fs=match (qP l fs n false).conflicts with
    | x::_=>(fs,x,10)
    | []=>if over (lu l fs n) then (fs,cf0,3) else lw l (xs.drop (i+1)) (fs++[(n,flatOf l (ae l n) (lu l fs n))]):=rfl
  have h127:=fun (yl:Nat) (Φ : List Cf→Res→Prop) (Stop:Cf→Res→Prop) (hy:Yh yl Φ Stop) (r0:Res) (h0 : Φ (qP l fs n false).conflicts r0)=>tT (mb:=mb) (bm:=bm) (b9:=b9) hy (S:=qP l fs n false) (all:=false) rfl hK hB hk0 n rfl r0 h0
  generalize (qP l fs n false).conflicts=C at hbl' h127
  rw [hbl'] at hbl
  refine xG hw0 Z en127w fun yl db rec hst hpe hps hasg hbo hkn2=>?_
  refine ⟨fun uz h''=>∃ h0,(uz = .tuple #[]∧∃ Y4,Ext Y3 Y4∧((C=[]∧h0=[pt yl (.loop rec),pt db (.deferred (some [])),pt b5 (cl [.slice vA l.length vK,.map (some mb),ow,.int .i64 0,sv [],sv [],sv [],sv [],sv [],sv [],sv [],.int .i64 0] 116),pt b2 (cl [.slice none 0 0,.map none,.slice none 0 0,.int .i64 0,sv [],sv [],sv [],sv [],sv [],sv [],sv [],.int .i64 0] 116),pt b8 (cl [sv (ae l n).name,.bool (ae l n).dfd,ca,cb,ce,cf,ci] 44),VR ow 9 1 ((xs.take i).map nC),VR (.slice (some ⟨ab,ao,none⟩) xs.length wc) 9 1 (xs.map nC),Res.star (marks bs)]++[Y4,pt b9 (cl (eU (.slice vA l.length vK) (.map (some mb)) (ae l n) da dbb de df di u (.map (some bm)) false) 206),mps mb m,mps bm bmp])∨∃ x rec2,C.head? = some x∧(rec2:Loop).state≠.busy∧rec2.pending=some .ret∧h0=[pt yl (.loop rec2),pt db (.deferred (some [])),pt b5 (cl [.slice vA l.length vK,.map (some mb),ow,.int .i64 x.kind,sv x.cls,sv x.name,sv x.other,sv x.a.par,sv x.a.name,sv x.b.par,sv x.b.name,.int .i64 10] 116),pt b2 (cl [.slice vA l.length vK,.map (some mb),ow,.int .i64 x.kind,sv x.cls,sv x.name,sv x.other,sv x.a.par,sv x.a.name,sv x.b.par,sv x.b.name,.int .i64 10] 116),pt b8 (cl [sv (ae l n).name,.bool (ae l n).dfd,ca,cb,ce,cf,ci] 44),VR ow 9 1 ((xs.take i).map nC),VR (.slice (some ⟨ab,ao,none⟩) xs.length wc) 9 1 (xs.map nC),Res.star (marks bs)]++[Y4,pt b9 (cl (eU (.slice vA l.length vK) (.map (some mb)) (ae l n) da dbb de df di u (.map (some bm)) false) 206),mps mb m,mps bm bmp]))∧h''=h0++hr,Ctw.perm (Ctw.frame (g:=hr) (Ctw.star (L:=[pt yl (.loop rec),pt db (.deferred (some [])),pt b5 (cl [.slice vA l.length vK,.map (some mb),ow,.int .i64 0,sv [],sv [],sv [],sv [],sv [],sv [],sv [],.int .i64 0] 116),pt b2 (cl [.slice none 0 0,.map none,.slice none 0 0,.int .i64 0,sv [],sv [],sv [],sv [],sv [],sv [],sv [],.int .i64 0] 116),pt b8 (cl [sv (ae l n).name,.bool (ae l n).dfd,ca,cb,ce,cf,ci] 44),VR ow 9 1 ((xs.take i).map nC),VR (.slice (some ⟨ab,ao,none⟩) xs.length wc) 9 1 (xs.map nC),Res.star (marks bs)]) (A:=[Y3,pt b9 (cl (eU (.slice vA l.length vK) (.map (some mb)) (ae l n) da dbb de df di u (.map (some bm)) false) 206),mps mb m,mps bm bmp]) (Ctw.vw (Ctw.perm (h127 yl (fun L r=>L=C∧r=Res.star ([pt yl (.loop rec),pt db (.deferred (some [])),pt b5 (cl [.slice vA l.length vK,.map (some mb),ow,.int .i64 0,sv [],sv [],sv [],sv [],sv [],sv [],sv [],.int .i64 0] 116),pt b2 (cl [.slice none 0 0,.map none,.slice none 0 0,.int .i64 0,sv [],sv [],sv [],sv [],sv [],sv [],sv [],.int .i64 0] 116),pt b8 (cl [sv (ae l n).name,.bool (ae l n).dfd,ca,cb,ce,cf,ci] 44),VR ow 9 1 ((xs.take i).map nC),VR (.slice (some ⟨ab,ao,none⟩) xs.length wc) 9 1 (xs.map nC),Res.star (marks bs)])) (fun x r=>C.head? = some x∧∃ rec2:Loop,rec2.state≠.busy∧rec2.pending=some .ret∧r=Res.star ([pt yl (.loop rec2),pt db (.deferred (some [])),pt b5 (cl [.slice vA l.length vK,.map (some mb),ow,.int .i64 x.kind,sv x.cls,sv x.name,sv x.other,sv x.a.par,sv x.a.name,sv x.b.par,sv x.b.name,.int .i64 10] 116),pt b2 (cl [.slice vA l.length vK,.map (some mb),ow,.int .i64 x.kind,sv x.cls,sv x.name,sv x.other,sv x.a.par,sv x.a.name,sv x.b.par,sv x.b.name,.int .i64 10] 116),pt b8 (cl [sv (ae l n).name,.bool (ae l n).dfd,ca,cb,ce,cf,ci] 44),VR ow 9 1 ((xs.take i).map nC),VR (.slice (some ⟨ab,ao,none⟩) xs.length wc) 9 1 (xs.map nC),Res.star (marks bs)])) ?_ _ ⟨Z,Z⟩) (by (try simp only [lC,lN]); exact (by repeat (first | exact Pm.refl | refine Pm.cons slq ?_):Pm _ _).perm)) ?_))) (by (try simp only [lC,lN]); exact (by repeat (first | exact Pm.refl | refine Pm.cons slq ?_):Pm _ _).perm),?_⟩
  ·rintro x rest r ⟨hCx,rfl⟩
   refine Yc.star (R:=fun u L'=>u = .bool false∧∃ rec2:Loop,rec2.state≠.busy∧rec2.pending=some .ret∧L'=[pt yl (.loop rec2),pt db (.deferred (some [])),pt b5 (cl [.slice vA l.length vK,.map (some mb),ow,.int .i64 x.kind,sv x.cls,sv x.name,sv x.other,sv x.a.par,sv x.a.name,sv x.b.par,sv x.b.name,.int .i64 10] 116),pt b2 (cl [.slice vA l.length vK,.map (some mb),ow,.int .i64 x.kind,sv x.cls,sv x.name,sv x.other,sv x.a.par,sv x.a.name,sv x.b.par,sv x.b.name,.int .i64 10] 116),pt b8 (cl [sv (ae l n).name,.bool (ae l n).dfd,ca,cb,ce,cf,ci] 44),VR ow 9 1 ((xs.take i).map nC),VR (.slice (some ⟨ab,ao,none⟩) xs.length wc) 9 1 (xs.map nC),Res.star (marks bs)]) (qo (n:=65) (rec:=rec) (args:=[cfV x]) (hf:=[pt db (.deferred (some [])),pt b5 (cl [.slice vA l.length vK,.map (some mb),ow,.int .i64 0,sv [],sv [],sv [],sv [],sv [],sv [],sv [],.int .i64 0] 116),pt b2 (cl [.slice none 0 0,.map none,.slice none 0 0,.int .i64 0,sv [],sv [],sv [],sv [],sv [],sv [],sv [],.int .i64 0] 116),pt b8 (cl [sv (ae l n).name,.bool (ae l n).dfd,ca,cb,ce,cf,ci] 44),VR ow 9 1 ((xs.take i).map nC),VR (.slice (some ⟨ab,ao,none⟩) xs.length wc) 9 1 (xs.map nC),Res.star (marks bs)]) (by rw [hps]; rfl) hkn2 (by rw [hps]; decide) ?_) (fun u L' ⟨h1,rec2,h3,h4,h2⟩=>.inr ⟨h1,_,⟨by rw [← hCx]; rfl,rec2,h3,h4,Z⟩,by rw [h2]⟩)
   intro hr2 w1
   rw [hasg,hps,hbo]
   simp only [lC,lN]
   unfold cfV cfC
   refine cR (au Bo fun b10=>?_)
   refine ai Z Z uL Z Z ?_
   refine sN (nK9 [2,5,10] Z (ax (kY Z slq (by first | rfl | assumption) ?_)))
   refine cB (cQ (sV (ag Z qy Z af) ?_))
   refine sV (vF Z Jy Z) (ig Z Z uL Z (fun u hu=>List.all_eq_true.1 (show ([.int .i64 x.kind,sv x.cls,sv x.name,sv x.other,sv x.a.par,sv x.a.name,sv x.b.par,sv x.b.name]:List Value).all Value.oneCell'=true from Z) u hu) (show Sel _ (pt b5 (cl [.slice vA l.length vK,.map (some mb),ow,.int .i64 0,sv [],sv [],sv [],sv [],sv [],sv [],sv [],.int .i64 0] 116)) _ from slq) (by simp) ?_)
   rw [show splice [.slice vA l.length vK,.map (some mb),ow,.int .i64 0,sv [],sv [],sv [],sv [],sv [],sv [],sv [],.int .i64 0] (0+3) [.int .i64 x.kind,sv x.cls,sv x.name,sv x.other,sv x.a.par,sv x.a.name,sv x.b.par,sv x.b.name]=[.slice vA l.length vK,.map (some mb),ow,.int .i64 x.kind,sv x.cls,sv x.name,sv x.other,sv x.a.par,sv x.a.name,sv x.b.par,sv x.b.name,.int .i64 0] from rfl]
   refine sV (vF Z uT Z) (aX Z Z Dx ?_)
   refine sN (nK9 [2,5] Z (nT (cQ (sV (ag Z lh Z af) ?_))))
   have h12:([.slice vA l.length vK,.map (some mb),ow,.int .i64 x.kind,sv x.cls,sv x.name,sv x.other,sv x.a.par,sv x.a.name,sv x.b.par,sv x.b.name,.int .i64 10]:List Value).all Value.oneCell'=true:=by simp only [List.all_cons,List.all_nil,how,Bool.and_true,Bool.true_and]; rfl
   refine ai Z Z jg Z h12 ?_
   refine sN (nK9 [2] Z (nT (cT (xW (kG slq ⟨Z,?rr,?_,?_,Z⟩ ?_)))))
   rotate_left 3
   ·exact sbq
   ·simp
   ·rfl
  ·rintro u9 h' ⟨Y4,k',rfl,hE4,rfl,r,rfl,hor⟩
   rcases hor with ⟨hC0,hr9⟩ | ⟨x,hx,rec2,hb2,hp2,hr9⟩
   ·subst hr9
    exact ⟨[pt yl (.loop rec),pt db (.deferred (some [])),pt b5 (cl [.slice vA l.length vK,.map (some mb),ow,.int .i64 0,sv [],sv [],sv [],sv [],sv [],sv [],sv [],.int .i64 0] 116),pt b2 (cl [.slice none 0 0,.map none,.slice none 0 0,.int .i64 0,sv [],sv [],sv [],sv [],sv [],sv [],sv [],.int .i64 0] 116),pt b8 (cl [sv (ae l n).name,.bool (ae l n).dfd,ca,cb,ce,cf,ci] 44),VR ow 9 1 ((xs.take i).map nC),VR (.slice (some ⟨ab,ao,none⟩) xs.length wc) 9 1 (xs.map nC),Res.star (marks bs)]++[Y4,pt b9 (cl (eU (.slice vA l.length vK) (.map (some mb)) (ae l n) da dbb de df di u (.map (some bm)) false) 206),mps mb m,mps bm bmp],fun t=>xI (L:=[pt yl (.loop rec),pt db (.deferred (some [])),pt b5 (cl [.slice vA l.length vK,.map (some mb),ow,.int .i64 0,sv [],sv [],sv [],sv [],sv [],sv [],sv [],.int .i64 0] 116),pt b2 (cl [.slice none 0 0,.map none,.slice none 0 0,.int .i64 0,sv [],sv [],sv [],sv [],sv [],sv [],sv [],.int .i64 0] 116),pt b8 (cl [sv (ae l n).name,.bool (ae l n).dfd,ca,cb,ce,cf,ci] 44),VR ow 9 1 ((xs.take i).map nC),VR (.slice (some ⟨ab,ao,none⟩) xs.length wc) 9 1 (xs.map nC),Res.star (marks bs)]) (A:=[Y4,pt b9 (cl (eU (.slice vA l.length vK) (.map (some mb)) (ae l n) da dbb de df di u (.map (some bm)) false) 206),mps mb m,mps bm bmp]),Z,Y4,hE4,.inl ⟨hC0.symm,Z⟩⟩
   ·subst hr9
    exact ⟨[pt yl (.loop rec2),pt db (.deferred (some [])),pt b5 (cl [.slice vA l.length vK,.map (some mb),ow,.int .i64 x.kind,sv x.cls,sv x.name,sv x.other,sv x.a.par,sv x.a.name,sv x.b.par,sv x.b.name,.int .i64 10] 116),pt b2 (cl [.slice vA l.length vK,.map (some mb),ow,.int .i64 x.kind,sv x.cls,sv x.name,sv x.other,sv x.a.par,sv x.a.name,sv x.b.par,sv x.b.name,.int .i64 10] 116),pt b8 (cl [sv (ae l n).name,.bool (ae l n).dfd,ca,cb,ce,cf,ci] 44),VR ow 9 1 ((xs.take i).map nC),VR (.slice (some ⟨ab,ao,none⟩) xs.length wc) 9 1 (xs.map nC),Res.star (marks bs)]++[Y4,pt b9 (cl (eU (.slice vA l.length vK) (.map (some mb)) (ae l n) da dbb de df di u (.map (some bm)) false) 206),mps mb m,mps bm bmp],fun t=>xI (L:=[pt yl (.loop rec2),pt db (.deferred (some [])),pt b5 (cl [.slice vA l.length vK,.map (some mb),ow,.int .i64 x.kind,sv x.cls,sv x.name,sv x.other,sv x.a.par,sv x.a.name,sv x.b.par,sv x.b.name,.int .i64 10] 116),pt b2 (cl [.slice vA l.length vK,.map (some mb),ow,.int .i64 x.kind,sv x.cls,sv x.name,sv x.other,sv x.a.par,sv x.a.name,sv x.b.par,sv x.b.name,.int .i64 10] 116),pt b8 (cl [sv (ae l n).name,.bool (ae l n).dfd,ca,cb,ce,cf,ci] 44),VR ow 9 1 ((xs.take i).map nC),VR (.slice (some ⟨ab,ao,none⟩) xs.length wc) 9 1 (xs.map nC),Res.star (marks bs)]) (A:=[Y4,pt b9 (cl (eU (.slice vA l.length vK) (.map (some mb)) (ae l n) da dbb de df di u (.map (some bm)) false) 206),mps mb m,mps bm bmp]),Z,Y4,hE4,.inr ⟨x,rec2,hx,hb2,hp2,Z⟩⟩
  ·rintro u9 h'' ⟨h0, ⟨rfl, Y4, hE4, (⟨rfl, rfl⟩ | ⟨x, rec2, hx, hb2, hp2, rfl⟩)⟩, rfl⟩
   ·simp only [lC,lN]
    refine ⟨rec,_,slq,(by rw [hst]; simp),?_⟩
    rw [hpe]
    dsimp only
    refine xB (xT (cS (cQ (sM Z ?_))))
    have hE4':=hE3'.trans hE4
    have hE24:=hE2.trans (hE3.trans hE4)
    have hms4:=hms.up (hE3.trans hE4)
    have hov:=J7 hms4
    dsimp only at hbl
    refine bg Z Z en59 Z (hov) ?_
    refine sN (nK9 [2,5,7,8,9,20,21,22,45] Z (nT (cC Z (fun hto=>?_) (fun hto=>?_))))
    ·rw [if_pos (show over (lu l fs n)=true from hto)] at hbl
     refine cQ (sV (vF Z uT Z) (aX Z Z Dx ?_))
     refine sN (nK9 [2,5,7,8,9,20,21,22] Z (nT (cQ (sV (ag Z lh Z af) ?_))))
     have h12:([.slice vA l.length vK,.map (some mb),ow,.int .i64 0,sv [],sv [],sv [],sv [],sv [],sv [],sv [],.int .i64 3]:List Value).all Value.oneCell'=true:=by simp only [List.all_cons,List.all_nil,how,Bool.and_true,Bool.true_and]; rfl
     refine ai Z Z jg Z h12 ?_
     refine sN (nK9 [2] Z (nT (cT (xR (xW (xR (xR (xW (xR (je slq slq ?_))))))))))
     rw [hbl]
     refine kg (bs:=db::bs) (k:=pt b2 (cl [.slice vA l.length vK,.map (some mb),ow,.int .i64 0,sv [],sv [],sv [],sv [],sv [],sv [],sv [],.int .i64 3] 116)::([Y4,mps mb m,VR ow 9 1 ((xs.take i).map nC)]++hr)) Z (.cellN Z lh Z .here .nil) ⟨Y4,_,Z,hE4',mb,m,ow,xs.take i,Z,Z,(hm.up hE24),hfs.symm,how⟩ (Sub.cons (Sub.refl _)) ?_
     simp only [lC,lN]
     exact sbq
    ·have hto2:over (lu l fs n)=false:=hto
     have hto':¬ over (lu l fs n)=true:=by rw [hto2]; simp
     rw [if_neg hto'] at hbl
     have hsh:(lu l fs n).length≤60:=by
      refine Nat.le_of_not_lt fun h=>hto' ?_
      show over (lu l fs n)=true
      unfold over
      rw [decide_eq_true h,Bool.true_or]
     have hrn:dI (bn l) [(ae l n).name]=0:=eB.2 ⟨hR.sys,by
      intro k hk
      rw [List.mem_singleton] at hk
      subst hk
      rw [hcn]
      rw [dW]; exact hnm⟩
     have hab:=nO hR (by rw [hcn]; exact hnm:(bL l (ae l n).name).isSome=true)
     have hfc:=Kg (fv:=.map (some mb)) (hl.up hE4') (Enc.up (hE24).rd hcr0) hms4 rfl hrn (by omega)
     refine cK9 (xT (cQ (sV (vF Z DI Z) (sV (vY Z fH) ?_))))
     refine sM Z (ak (cells:=[sv n]) Z underlying40 fG Z Z (by kernel_rfl) (ltn Z) fun b50=>?_)
     have hil:((xs.take i).map nC).length≤24:=by rw [List.length_map,List.length_take]; exact Nat.le_trans (Nat.min_le_right _ _) hol
     refine dU [[sv n]] Z Z underlying40 fG Z (by decide) (show Sel _ (VR ow 9 1 ((xs.take i).map nC)) _ from slq) (by simp) Z (fun j u2 hu2=>bP (bU (by simpa using hu2))) (by simp [sv,Value.oneCell']) (by omega) (by omega) (ltn Z) fun w2 hw2 _=>?_
     refine sV (vF Z DI Z) (aX Z Z yQ ?_)
     refine sN (nK9 [2,5,7,8,9,20,21,22] Z (nT (jd (ork [(0,2),(1,2),(2,1),(3,2),(4,2),(5,1),(6,1),(7,2),(8,0),(9,0)] .nil) (fun i => !(Nat.beq i 9)) [pt b5 (cl [.slice vA l.length vK,.map (some mb),w2,.int .i64 0,sv [],sv [],sv [],sv [],sv [],sv [],sv [],.int .i64 0] 116),pt b8 (cl [sv (ae l n).name,.bool (ae l n).dfd,ca,cb,ce,cf,ci] 44)] mixed (by kernel_rfl) ?_)))
     refine dV Z (vF Z gL Z) (dV Z (vF Z iG Z) (bu Z (vY Z pJ) ?_))
     refine dV Z (vM Z) (dV Z (vF Z gL Z) (bu Z (ag Z gT Z (bF (k:=0) af (vs:=[.slice vA l.length vK,.map (some mb)]) Z)) ?_))
     refine bu Z (ag Z gG Z af) ?_
     refine dV Z (vM Z) (aQ Z (aH Z Z en60 Z (hfc) ?_))
     rintro u9 h' ⟨Y5,k5,rfl,hE5,rfl,fus,rfl,hfr⟩
     simp only [lC,lN]
     refine aW ?_
     refine aQ Z (cu Z Z Z pG slq (aW ?_))
     refine bA (nK9 [2,5,20,21,22] Z (ax (xB (xT (cR (sV (aI Z Z (by unfold I64 at *; omega)) (sM Z (sN (nK9 [2,5,20,21,22] Z (ax (je slq slq ?_)))))))))))
     refine kN (Y5,dZ m n (.agg fus.toArray),w2,i+1,fs++[(n,flatOf l (ae l n) (lu l fs n))],db::bs) ⟨hE4'.trans hE5,hlt,hw2,(hm.up (hE24.trans hE5)).put hnew hfr,⟨hF.right,hF.flb.put hnew hsh hmok,hF.lists⟩,by rw [List.map_append,hfs,htk]; rfl,hbl⟩ (by show xs.length - (i+1)<xs.length - i; omega) Z ⟨Z,Z,Z,Z,Z,trivial⟩ ?_
     dsimp only
     rw [htk,List.map_append]
     exact sbq
   ·simp only [lC,lN]
    refine ⟨rec2,_,slq,hb2,?_⟩
    rw [hp2]
    dsimp only
    refine cT (xW (xR (xW (xR (xR (xW (xR (je slq slq ?_))))))))
    obtain ⟨rest,rfl⟩:∃ rest,C=x::rest:=by
     cases C with
     | nil=>cases hx
     | cons y t=>cases hx; exact ⟨t,rfl⟩
    dsimp only at hbl
    rw [hbl]
    refine kg (bs:=db::bs) (k:=pt b2 (cl [.slice vA l.length vK,.map (some mb),ow,.int .i64 x.kind,sv x.cls,sv x.name,sv x.other,sv x.a.par,sv x.a.name,sv x.b.par,sv x.b.name,.int .i64 10] 116)::([Y4,mps mb m,VR ow 9 1 ((xs.take i).map nC)]++hr)) Z (.cellN Z lh Z .here .nil) ⟨Y4,_,Z,hE3'.trans hE4,mb,m,ow,xs.take i,Z,Z,(hm.up (hE2.trans (hE3.trans hE4))),hfs.symm,how⟩ (Sub.cons (Sub.refl _)) ?_
    simp only [lC,lN]
    exact sbq
 ·have hie:i=xs.length:=Nat.le_antisymm hi (Nat.not_lt.1 (by simpa using hd))
  subst hie
  rw [List.drop_length] at hbl
  rw [List.take_length] at hfs
  have hbl2:lw l xs []=(fs,cf0,0):=hbl
  refine aB (xE (xE (xY (xT (cQ (sV (ag Z lh Z af) ?_))))))
  have h12:([.slice vA l.length vK,.map (some mb),ow,.int .i64 0,sv [],sv [],sv [],sv [],sv [],sv [],sv [],.int .i64 0]:List Value).all Value.oneCell'=true:=by simp only [List.all_cons,List.all_nil,how,Bool.and_true,Bool.true_and]; rfl
  refine ai Z Z jg Z h12 ?_
  refine sN (nK9 [2] Z (nT (cT ?_)))
  rw [hbl2]
  rw [List.take_length]
  refine kg (bs:=bs) (k:=pt b2 (cl [.slice vA l.length vK,.map (some mb),ow,.int .i64 0,sv [],sv [],sv [],sv [],sv [],sv [],sv [],.int .i64 0] 116)::([Y,mps mb m,VR ow 9 1 (xs.map nC)]++hr)) Z (.cellN Z lh Z .here .nil) ⟨Y,_,Z,hE,mb,m,ow,xs,Z,Z,hm,hfs.symm,how⟩ (Sub.cons (Sub.refl _)) ?_
  simp only [lC,lN]
  exact sbq
end
theorem Ls.take {α : Type} [Enc α] {X:Res} {a:Option Addr} {n cp k:Nat} {xs:List α} (h:Ls X (.slice a n cp) xs) (hk:k≤xs.length):Ls X (.slice a k cp) (xs.take k):=
 ⟨Row.take h.1 hk,Nat.le_trans (Nat.mul_le_mul_right _ (by rw [List.length_take]; exact Nat.min_le_right _ _)) h.2⟩
theorem CZ {xs:List Int} {i:Nat} (h:i<xs.length) (h0:∀ j (hj:j<xs.length),j<i→xs[j]=0) (hn:xs[i]≠0):mQ xs=xs[i]:=by
 unfold mQ
 rw [show xs.find? (· != 0)=some xs[i] from List.find?_eq_some_iff_getElem.2 ⟨by simpa using hn,i,h,rfl,fun j hj=>by
  rw [h0 j (by omega) hj]; rfl⟩]
 rfl
theorem yL {xs:List Int} (h0:∀ j (hj:j<xs.length),xs[j]=0):mQ xs=0:=by
 unfold mQ
 rw [show xs.find? (· != 0)=none from List.find?_eq_none.2 fun x hx=>by
  obtain ⟨j,hj,rfl⟩:=List.getElem_of_mem hx
  rw [h0 j hj]; decide]
 rfl
theorem Oh {α : Type} (xs:List α) (p : α → Bool):(xs.find? p).isSome=xs.any p:=by
 rw [Bool.eq_iff_iff,List.find?_isSome,List.any_eq_true]
def oneK (f:Fe):Bool:=((decide (f.kind<1) || decide (3<f.kind)) || (decide (f.kind=1) && (decide ((0:Int)<(f.args.length:Nat)) || decide (f.ty.kind=0))))
theorem oneE_eq (fs:List Fe) (f:Fe) (i:Nat):xg fs (f,i)=if small f.name=false then 4 else if (fs.take i).any (fun g=>g.name == f.name)=true then 6 else if oneK f=true then 2 else 0:=by
 unfold xg oneK
 congr 2
 have hl:(0:Int)<(f.args.length:Nat)↔f.args≠[]:=by
  cases f.args <;> simp
 simp only [Bool.or_eq_true,Bool.and_eq_true,decide_eq_true_eq,hl,or_assoc]
section
variable {X:Res}
theorem GG (hX:Spc X) {uc:List Value} {c:FC} (hc:Enc.rep X uc c):Ctw prog 145 #[.agg uc.toArray] [X] fun u h'=>u = .int .i64 (Ar c)∧h'=[X]:=by
 have hml:maxLen=9223372036854775807:=rfl
 have hone0:=Enc.ones hc
 obtain ⟨ca,cb,ce,cf,ci,rfl,-,-,-,hcf,-⟩:=gq hc
 obtain ⟨fA,fK,rfl,hlc,hcm,_⟩:=id hcf.form
 unfold Ar
 have hml2:(c.feats.zipIdx.map (xg c.feats)).length=c.feats.length:=by simp
 have hat:∀ j (hj:j<(c.feats.zipIdx.map (xg c.feats)).length),(c.feats.zipIdx.map (xg c.feats))[j]=xg c.feats (c.feats[j]'(by rw [← hml2]; exact hj),j):=fun j hj=>by simp
 refine fO (n:=63) func145 Z Z (len Z) fun hr w0 hw0=>?_
 refine cQ (aV Z Z fun b1=>?_)
 refine sV (vA9 Z) (sN (nK9 [1,2] Z (nT (cS (cQ (sV (vF Z ko Z) (sV (vY Z yS) ?_)))))))
 refine sV (aF Z underlying41) (sV (bZ Z Z) (sN (nK9 [1,2,10] Z (nT (cC Z (fun hd=>?_) (fun hd=>?_))))))
 ·rw [if_pos (show 60<c.feats.length by have h:(60:Int)<c.feats.length:=(by simpa using hd); omega)]
  refine cQ (sV (vA9 Z) (sN (nK9 [2] Z (nT (cT (xR ?_))))))
  exact aj Z ⟨Z,Z⟩ sbq
 ·rw [if_neg (show ¬ 60<c.feats.length by have h:(c.feats.length:Int)≤60:=(by simpa using hd); omega)]
  refine cK9 (xT (cS (cQ (sV (vF Z ko Z) (sV (vY Z yS) ?_)))))
  refine sV (aF Z underlying41) (sM Z (sN (nK9 [1,2,12,13,14] Z (nT (cB (aZ (σ := Nat) (fun i=>[(1,.pointer (some ⟨b1,0,none⟩)),(12,.slice fA c.feats.length fK),(13,.int .i64 c.feats.length),(14,.int .i64 (i:Nat))]) (fun i=>pt b1 (cl [sv c.name,.bool c.dfd,ca,cb,ce,.slice fA c.feats.length fK,ci] 44)::X::hr) (fun i=>i≤c.feats.length∧∀ j (hj:j<c.feats.length),j<i→xg c.feats (c.feats[j],j)=0) (fun i=>c.feats.length - i) 0 ⟨Nat.zero_le _,fun j _ hj=>absurd hj (Nat.not_lt_zero _)⟩ ?_))))))
  rintro i ⟨hi,hal⟩
  refine cQ (sV (aO Z Z) (sN (nT (cS (cC Z (fun hd=>?_) (fun hd=>?_))))))
  ·have hlt:i<c.feats.length:=by simpa using hd
   obtain ⟨b,o,cap2,us,e1,hus,hrd,hre⟩:=hcf.at (List.getElem?_eq_getElem hlt)
   cases e1
   have hone:=Enc.ones hre
   have hbad:xg c.feats (c.feats[i],i)≠0→mQ (c.feats.zipIdx.map (xg c.feats))=xg c.feats (c.feats[i],i):=fun hne=>by
    rw [CZ (i:=i) (by rw [hml2]; exact hlt) (fun j hj hji=>by rw [hat j hj]; exact hal j (by rw [← hml2]; exact hj) hji) (by rw [hat]; exact hne),hat]
   have hoe:=oneE_eq c.feats c.feats[i] i
   have hcft:=Ls.take hcf hi
   have hfi:=iP (n:=c.feats[i].name) hcft
   rw [Oh] at hfi
   have hsm:=Gz hX c.feats[i].name
   generalize hfg:c.feats[i]=f at hre hone hbad hoe hfi hsm
   obtain ⟨x2,x3,y,x9,x10,x11,x12,x13,x14,rfl,-,hx3,-⟩:=mV hre
   unfold AV at hus hrd hone
   obtain ⟨gA,gK,rfl,_⟩:=id hx3.form
   refine cK9 (xT (cS (cB (cQ (sM Z (sV (vI (k:=i) Z Z sl41 Z hlt Z) (sV (ag Z nH Z hrd) ?_)))))))
   refine au lm fun b4=>?_
   refine sV (vA9 Z) (ai Z Z jP Z hone ?_)
   refine sN (nK9 [1,3,4,12,13,14] Z (nT (cS (mE (ex:=.normal) (α := Unit) (fun q=>[(1,.pointer (some ⟨b1,0,none⟩)),(4,.pointer (some ⟨b4,0,none⟩)),(6,.bool ((c.feats.take i).any fun g=>g.name == f.name)),(12,.slice (some ⟨b,o,none⟩) c.feats.length fK),(13,.int .i64 c.feats.length),(14,.int .i64 (i:Nat))]) (fun q=>pt b4 (cl [.int .i64 f.kind,sv f.name,x2,.slice gA f.args.length gK,.int .i64 f.ty.kind,sv f.ty.name,y,.bool f.ty.void,.bool f.ty.sep,x9,x10,x11,x12,x13,x14] 130)::pt b1 (cl [sv c.name,.bool c.dfd,ca,cb,ce,.slice (some ⟨b,o,none⟩) c.feats.length fK,ci] 44)::X::hr) (fun hcont=>?_) (fun q=>?_)))))
   ·refine jd (ork [(0,2),(1,1),(2,2),(3,1),(4,2),(5,1)] (.two 6 (ork [(7,2),(8,2),(9,2),(10,0),(11,0),(12,2)] .nil) 10 (ork [(6,0),(7,2),(8,2),(9,2),(11,0),(12,2)] .nil))) (fun i => !(Nat.beq i 6 || Nat.beq i 11)) [pt b1 (cl [sv c.name,.bool c.dfd,ca,cb,ce,.slice (some ⟨b,o,none⟩) c.feats.length fK,ci] 44),pt b4 (cl [.int .i64 f.kind,sv f.name,x2,.slice gA f.args.length gK,.int .i64 f.ty.kind,sv f.ty.name,y,.bool f.ty.void,.bool f.ty.sep,x9,x10,x11,x12,x13,x14] 130)] mixed (by kernel_rfl) ?_
    refine dV Z (vF Z ko Z) (bu Z (vY Z yS) ?_)
    refine dV Z (vM Z) (bu Z (vL Z Z sl41 Z (Nat.le_trans hi hlc)) (dV Z (vF Z oJ Z) (bu Z (vY Z ld9) ?_)))
    refine mH Z Z ?_ ?_
    ·refine aH Z Z yx Z (hfi) ?_
     rintro u h' ⟨rfl,gus,rfl,hgr⟩
     simp only [lC,lN]
     refine aW ?_
     have hgo:=Enc.ones hgr
     obtain ⟨z2,z3,zy,z9,z10,z11,z12,z13,z14,rfl,-⟩:=mV hgr
     unfold AV at hgo ⊢
     refine dV Z (vM Z) (dV Z (ah Z Z) (dV Z (ah Z Z) (aQ Z (au lm fun b5=>aW ?_))))
     refine aQ Z (ai Z Z jP Z hgo (aW ?_))
     refine dV Z (vA9 Z) (bA (nK9 [1,4,6,12,13,14] Z (ax ?_)))
     exact hcont () _ _ ⟨Z,Z,Z,Z,Z,Z,trivial⟩ sbq
    ·refine au lm fun b5=>aW ?_
     refine aQ Z (aH Z Z yx Z (hfi) ?_)
     rintro u h' ⟨rfl,gus,rfl,hgr⟩
     simp only [lC,lN]
     refine aW ?_
     have hgo:=Enc.ones hgr
     obtain ⟨z2,z3,zy,z9,z10,z11,z12,z13,z14,rfl,-⟩:=mV hgr
     unfold AV at hgo ⊢
     refine dV Z (vM Z) (dV Z (ah Z Z) (dV Z (ah Z Z) (aQ Z (ai Z Z jP Z hgo (aW ?_)))))
     refine dV Z (vA9 Z) (bA (nK9 [1,4,6,12,13,14] Z (ax ?_)))
     exact hcont () _ _ ⟨Z,Z,Z,Z,Z,Z,trivial⟩ sbq
   refine xT (cB (cQ (sV (vF Z oJ Z) (sV (vY Z ld9) ?_))))
   refine bM hw0 Z Z en147 Z (hsm) ?_
   rintro u h' ⟨rfl,rfl⟩
   simp only [lC,lN]
   refine sV (bi Z) (sV (vA9 Z) (sN (nK9 [1,4,6,12,13,14,29] Z (nT (cC Z (fun hs=>?_) (fun hs=>?_))))))
   ·have hs:small f.name=false:=by simpa using hs
    rw [hs,if_pos rfl] at hoe
    rw [hbad (by rw [hoe]; decide),hoe]
    refine cQ (sV (vA9 Z) (sN (nK9 [2] Z (nT (cT (xW (xW (xR (xR (xW (xR ?_)))))))))))
    exact aj Z ⟨Z,Z⟩ sbq
   ·have hs:small f.name=true:=by simpa using hs
    rw [hs,if_neg (by decide)] at hoe
    refine cQ (sM Z (sV (vA9 Z) (sN (nK9 [1,4,12,13,14,34] Z (nT (cC Z (fun hv=>?_) (fun hv=>?_)))))))
    ·rw [if_pos (show _=true from hv)] at hoe
     rw [hbad (by rw [hoe]; decide),hoe]
     refine cQ (sV (vA9 Z) (sN (nK9 [2] Z (nT (cT (xW (xW (xR (xR (xW (xR ?_)))))))))))
     exact aj Z ⟨Z,Z⟩ sbq
    ·have hv:(c.feats.take i).any (fun g=>g.name == f.name)=false:=hv
     rw [hv,if_neg (by decide)] at hoe
     refine cQ (sV (vF Z uU Z) (sV (vY Z ld3) ?_))
     refine sV (aO Z Z) (sM Z (bD (k:=8) (d:=44) (v:=.bool (decide (f.kind<1) || decide (3<f.kind))) (fun hcut=>aM (b:=(decide (f.kind<1))) false (fun hg=>?_) (fun hg=>?_)) ?_))
     ·refine aC Z Z hg ?_
      iterate 2 refine aC rfl rfl hg ?_
      refine sV (vQ (bO Z hg) Z) ?_
      exact hcut _ uG
     ·refine sG Z (bG Z hg) (vF Z uU Z) (sG Z (bG Z hg) (vY Z ld3) ?_)
      refine sG Z (bG Z hg) (bZ Z Z) (sV (vP (bO Z hg) Z) ?_)
      exact hcut _ uG
     refine sM Z (bD (k:=25) (d:=61) (v:=.bool ((decide (f.kind<1) || decide (3<f.kind)) || (decide (f.kind=1) && (decide ((0:Int)<(f.args.length:Nat)) || decide (f.ty.kind=0))))) (fun hcut=>aM (b:=(decide (f.kind<1) || decide (3<f.kind))) false (fun hg=>?_) (fun hg=>?_)) ?_)
     ·refine aC Z Z hg ?_
      iterate 3 refine aC rfl rfl hg ?_
      refine bX Z Z ?_
      refine bX Z Z ?_
      refine bX Z Z ?_
      refine bX Z Z ?_
      refine bX Z Z ?_
      refine bX Z Z ?_
      refine bX Z Z ?_
      refine bX Z Z ?_
      refine bX Z Z ?_
      refine bX Z Z ?_
      refine aC Z Z hg ?_
      refine sV (vQ (bO Z hg) Z) ?_
      exact hcut _ uG
     ·refine sG Z (bG Z hg) (vF Z uU Z) (sG Z (bG Z hg) (vY Z ld3) ?_)
      refine sG Z (bG Z hg) (dB Z Z) (sG Z (bG Z hg) (vM Z) (bD (k:=24) (d:=60) (v:=.bool (decide (f.kind=1) && (decide ((0:Int)<(f.args.length:Nat)) || decide (f.ty.kind=0)))) (fun hcut=>aM (b:=(decide (f.kind=1))) true (fun hg1=>?_) (fun hg1=>?_)) ?_))
      ·refine aC Z Z hg1 ?_
       iterate 4 refine aC rfl rfl hg1 ?_
       refine bX Z Z ?_
       refine bX Z Z ?_
       refine bX Z Z ?_
       refine bX Z Z ?_
       refine aC Z Z hg1 ?_
       refine sG Z (bG Z hg) (vP (bO Z hg1) Z) ?_
       exact hcut _ (uH (by first | rfl | (rw [hg1]; rfl) | simp_all) (uS Z (uS Z (uS Z (uS Z (uS Z (uS Z (uS Z (uS Z (uS Z (uS Z (uR))))))))))))
      ·refine sG Z (bG Z hg1) (vF Z rz Z) (sG Z (bG Z hg1) (vY Z sF) ?_)
       refine sG Z (bG Z hg1) (aF Z underlying70) (sG Z (bG Z hg1) (bZ Z Z) (sG Z (bG Z hg1) (vM Z) (bD (k:=23) (d:=59) (v:=.bool (decide ((0:Int)<(f.args.length:Nat)) || decide (f.ty.kind=0))) (fun hcut=>aM (b:=(decide ((0:Int)<(f.args.length:Nat)))) false (fun hg2=>?_) (fun hg2=>?_)) ?_)))
       ·refine aC Z Z hg2 ?_
        iterate 3 refine aC rfl rfl hg2 ?_
        refine sG Z (bG Z hg1) (vQ (bO Z hg2) Z) ?_
        exact hcut _ (uH (by first | rfl | (rw [hg2]; rfl) | simp_all) (uS Z (uS Z (uS Z (uS Z (uR))))))
       ·refine sG Z (bG Z hg2) (vF Z za Z) (sG Z (bG Z hg2) (vF Z qD Z) (sG Z (bG Z hg2) (vY Z ld3) ?_))
        refine sG Z (bG Z hg2) (dB Z Z) (sG Z (bG Z hg1) (vP (bO Z hg2) Z) ?_)
        exact hcut _ (uH (by first | rfl | (rw [hg2]; rfl) | simp_all) (uS Z (uS Z (uS Z (uS Z (uR))))))
       refine sG Z (bG Z hg) (vQ (bO Z hg1) Z) ?_
       exact hcut _ (uH (by first | rfl | (rw [hg1]; rfl) | simp_all) (by repeat (first | exact uR | refine uS Z ?_)))
      refine sV (vP (bO Z hg) Z) ?_
      exact hcut _ (uH (by first | rfl | (rw [hg]; rfl) | simp_all) (by repeat (first | exact uR | refine uS Z ?_)))
     refine sV (vA9 Z) (sN (nK9 [1,12,13,14,36] Z (nT (cC Z (fun hk=>?_) (fun hk=>?_)))))
     ·rw [if_pos (show oneK f=true from hk)] at hoe
      rw [hbad (by rw [hoe]; decide),hoe]
      refine cQ (sV (vA9 Z) (sN (nK9 [2] Z (nT (cT (xW (xW (xR (xR (xW (xR ?_)))))))))))
      exact aj Z ⟨Z,Z⟩ sbq
     ·have hk:oneK f=false:=hk
      rw [hk,if_neg (by decide)] at hoe
      refine cK9 (xB (xB (xT (cR (sV (aI Z Z (by unfold I64 at *; omega)) (sM Z (sN (nK9 [1,12,13,14] Z (ax ?_)))))))))
      refine aJ (i+1) ⟨hlt,fun j hj hji=>by
       by_cases h:j=i
       ·subst h; rw [hfg]; exact hoe
       ·exact hal j hj (by omega)⟩ (by show c.feats.length - (i+1)<c.feats.length - i; omega)
  ·have hie:i=c.feats.length:=Nat.le_antisymm hi (Nat.not_lt.1 (by simpa using hd))
   subst hie
   rw [yL fun j hj=>by rw [hat j hj]; exact hal j (by rw [← hml2]; exact hj) (by rw [← hml2]; exact hj)]
   refine aB (xE (xE (xY (xT (cQ (sV (vA9 Z) (sN (nK9 [2] Z (nT (cT ?_))))))))))
   exact aj Z ⟨Z,Z⟩ sbq
end
section
variable {X:Res} {v:Value}
theorem IU {xs:List Pn} {kf:FuncId} {cp:Array Value} {g:Pn→Bool} (hv:Ls X v xs) (hE:Ck.Enters prog kf) (hf:∀ a∈xs,∀ us,Enc.rep X us a→Ctw prog kf (#[]++([.agg us.toArray]:List Value).toArray++cp) [X] fun u h'=>u = .bool (g a)∧h'=[X]):Ctw prog 153 #[v,.func (.func kf) #[] cp] [X] fun u h'=>u = .int .i64 (ixI (xs.findIdx? g))∧h'=[X]:=by
 have hml:maxLen=9223372036854775807:=rfl
 obtain ⟨a,cap,rfl,hlc,hcm,_⟩:=id hv.form
 refine fO (n:=19) func153 Z Z (len Z) fun hr w0 hw0=>?_
 refine cQ (sV (vA9 Z) (sN (nT (cS (cQ (sM Z (sV (aF Z underlying86) (sM Z (sN (nK9 [0,1,4,7,8] Z (nT (cB (aZ (σ := Nat) (fun i=>[(0,.slice a xs.length cap),(1,.func (.func kf) #[] cp),(7,.int .i64 xs.length),(8,.int .i64 (i:Nat))]) (fun _=>X::hr) (fun i=>i≤xs.length∧∀ j (hj:j<xs.length),j<i→g xs[j]=false) (fun i=>xs.length - i) 0 ⟨Nat.zero_le _,fun j _ hj=>absurd hj (Nat.not_lt_zero _)⟩ ?_)))))))))))))
 rintro i ⟨hi,hal⟩
 refine cQ (sV (aO Z Z) (sN (nT (cS (cC Z (fun hd=>?_) (fun hd=>?_))))))
 ·have hlt:i<xs.length:=by simpa using hd
  obtain ⟨b,o,cap2,us,e1,hus,hrd,hre⟩:=hv.at (List.getElem?_eq_getElem hlt)
  cases e1
  have hfx:=hf xs[i] (List.getElem_mem hlt) us hre
  refine cK9 (xT (cS (cB (cQ (sM Z (sV (vA9 Z) (sN (nK9 [0,1,5,7,8] Z (nT (cQ (sM Z (sM Z (sM Z ?_)))))))))))))
  refine sV (vI (k:=i) Z Z sl86 Z hlt Z) (sV (ag Z qB hus hrd) ?_)
  refine bM hw0 Z Z hE Z (hfx) ?_
  rintro u h' ⟨rfl,rfl⟩
  simp only [lC,lN]
  refine sN (nK9 [0,1,5,7,8,16] Z (nT (cC Z (fun he=>?_) (fun he=>?_))))
  ·have he:g xs[i]=true:=he
   rw [show xs.findIdx? g=some i by
    rw [List.findIdx?_eq_some_iff_getElem]
    exact ⟨hlt,he,fun j hj=>by rw [hal j (by omega) hj]; decide⟩]
   refine cQ (sM Z (sV (vA9 Z) (sN (nK9 [4] Z (nT (cT (xW (xR (xR (xW (xR ?_)))))))))))
   exact aj Z ⟨Z,Z⟩ sbq
  ·have he:g xs[i]=false:=he
   refine cK9 (xB (xT (cR (sV (aI Z Z (by unfold I64 at *; omega)) (sM Z (sN (nK9 [0,1,7,8] Z (ax (aJ (i+1) ⟨hlt,fun j hj hj2=>?_⟩ (Nat.sub_lt_sub_left hlt (Nat.lt_succ_self i)))))))))))
   by_cases hji:j=i
   ·subst hji; exact he
   ·exact hal j hj (by omega)
 ·have hil:i=xs.length:=Nat.le_antisymm hi (Nat.not_lt.1 (by simpa using hd))
  rw [show xs.findIdx? g=none by
   rw [List.findIdx?_eq_none_iff]
   intro f hfm
   obtain ⟨j,hj,rfl⟩:=List.getElem_of_mem hfm
   exact hal j hj (by omega)]
  refine aB (xE (xE (xY (xT (cQ (sV (vA9 Z) (sN (nK9 [4] Z (nT (cT ?_))))))))))
  exact aj Z ⟨Z,Z⟩ sbq
theorem LF {xs:List Pn} {kf:FuncId} {cp:Array Value} {g:Pn→Bool} (hv:Ls X v xs) (hE:Ck.Enters prog kf) (hf:∀ a∈xs,∀ us,Enc.rep X us a→Ctw prog kf (#[]++([.agg us.toArray]:List Value).toArray++cp) [X] fun u h'=>u = .bool (g a)∧h'=[X]):Ctw prog 73 #[v,.func (.func kf) #[] cp] [X] fun u h'=>u = .bool (xs.any g)∧h'=[X]:=by
 rw [← rH]
 have hx:=IU hv hE hf
 obtain ⟨a,cap,rfl,hlc,hcm,_⟩:=id hv.form
 refine fO (n:=9) func73 Z Z (len Z) fun hr w0 hw0=>?_
 refine cQ (sV (vA9 Z) (sN (nT (cQ (sM Z (sM Z (bM hw0 Z Z en153 Z (hx) ?_)))))))
 rintro u h' ⟨rfl,rfl⟩
 simp only [lC,lN]
 refine sV (pg Z Z) (sV (vA9 Z) (sN (nK9 [4] Z (nT (cT ?_)))))
 exact aj Z ⟨Z,Z⟩ sbq
theorem IV (hX:Spc X) {us:List Value} {a:Pn} (h:Enc.rep X us a):Ctw prog 146 #[.agg us.toArray] [X] fun u h'=>u = .bool (!small a.to)∧h'=[X]:=by
 have h:us=[sv a.fro,sv a.to]:=h
 subst h
 have hsm:=Gz hX a.to
 refine fO (n:=7) func146 Z Z (len Z) fun hr w0 hw0=>?_
 refine cQ (aV Z Z fun b1=>?_)
 refine sV (vA9 Z) (sN (nK9 [1,2] Z (nT (cQ (sV (vF Z JB Z) (sV (vY Z ld9) ?_))))))
 refine bM hw0 Z Z en147 Z (hsm) ?_
 rintro u h' ⟨rfl,rfl⟩
 simp only [lC,lN]
 refine sV (bi Z) (sV (vA9 Z) (sN (nK9 [2] Z (nT (cT ?_)))))
 exact aj Z ⟨Z,Z⟩ sbq
theorem LG (hX:Spc X) {l:FS} (hl:Ls X v l) {uc:List Value} {c:FC} (hc:Enc.rep X uc c):Ctw prog 64 #[v,.agg uc.toArray] [X] fun u h'=>u = .int .i64 (kC l c)∧h'=[X]:=by
 have hml:maxLen=9223372036854775807:=rfl
 have hdc:=GG hX hc
 obtain ⟨ca,cb,ce,cf,ci,rfl,hca,hcb,-⟩:=gq hc
 have hone0:=Enc.ones hc
 obtain ⟨pA,pK,rfl,hplc,hpcm,_⟩:=id hcb.form
 obtain ⟨fA,fK,rfl,_⟩:=id hca.form
 obtain ⟨vA,vK,rfl,_⟩:=id hl.form
 have htw:=F7 hca
 have h146:∀ {xs:List Pn},∀ a∈xs,∀ us,Enc.rep X us a→Ctw prog 146 (#[]++([.agg us.toArray]:List Value).toArray ++ #[]) [X] fun u h'=>u = .bool (!small a.to)∧h'=[X]:=fun a _ us h=>IV hX h
 unfold kC
 refine fO (n:=62) func64 Z Z (len Z) fun hr w0 hw0=>?_
 refine cQ (aV Z Z fun b3=>?_)
 refine sV (vA9 Z) (sN (nK9 [0,3,4] Z (nT (cS (cB (cQ (sV (vF Z DC Z) (sV (vY Z ld38) ?_))))))))
 refine sV (aF Z underlying38) (sV (bZ Z Z) (sV (vA9 Z) (sN (nK9 [0,3,4,12] Z (nT (cC Z (fun h3=>?_) (fun h3=>?_)))))))
 ·rw [if_pos (show 3<c.forms.length by have h:(3:Int)<c.forms.length:=(by simpa using h3); omega)]
  refine cQ (sV (vA9 Z) (sN (nK9 [4] Z (nT (cT (xW (xR ?_)))))))
  exact aj Z ⟨Z,Z⟩ sbq
 ·rw [if_neg (show ¬ 3<c.forms.length by have h:(c.forms.length:Int)≤3:=(by simpa using h3); omega)]
  refine cQ (sV (vF Z DC Z) (sV (vY Z ld38) ?_))
  refine bg Z Z en143 Z (htw) ?_
  refine sV (vA9 Z) (sN (nK9 [0,3,4,17] Z (nT (cC Z (fun h6=>?_) (fun h6=>?_)))))
  ·rw [if_pos (show ¬ (c.forms.map fun f=>f.name).Nodup by simpa using h6)]
   refine cQ (sV (vA9 Z) (sN (nK9 [4] Z (nT (cT (xW (xR ?_)))))))
   exact aj Z ⟨Z,Z⟩ sbq
  ·rw [if_neg (show ¬ ¬ (c.forms.map fun f=>f.name).Nodup by simpa using h6)]
   refine cK9 (xB (xT (cS (cQ (sV (vF Z eX Z) (sV (vY Z lT) ?_))))))
   refine sV (aF Z underlying39) (sM Z (sN (nK9 [0,3,4,22,23,24] Z (nT (cB (aZ (σ := Nat) (fun i=>[(0,.slice vA l.length vK),(3,.pointer (some ⟨b3,0,none⟩)),(22,.slice pA c.pars.length pK),(23,.int .i64 c.pars.length),(24,.int .i64 (i:Nat))]) (fun _=>pt b3 (cl [sv c.name,.bool c.dfd,.slice fA c.forms.length fK,.slice pA c.pars.length pK,ce,cf,ci] 44)::X::hr) (fun i=>i≤c.pars.length∧∀ j (hj:j<c.pars.length),j<i→c.pars[j].args.length=(ae l c.pars[j].name).forms.length) (fun i=>c.pars.length - i) 0 ⟨Nat.zero_le _,fun j _ hj=>absurd hj (Nat.not_lt_zero _)⟩ ?_))))))
   rintro i ⟨hi,hal⟩
   refine cQ (sV (aO Z Z) (sN (nT (cS (cC Z (fun hd=>?_) (fun hd=>?_))))))
   ·have hlt:i<c.pars.length:=by simpa using hd
    obtain ⟨b,o,cap2,us,e1,hus,hrd,hre⟩:=hcb.at (List.getElem?_eq_getElem hlt)
    cases e1
    have hone:=Enc.ones hre
    have hmem:=List.getElem_mem hlt
    generalize hpg:c.pars[i]=p at hre hone hmem
    obtain ⟨qa,qb,qc,qd,qe,rfl,hqa,-⟩:=id hre
    obtain ⟨aA,aK,rfl,_⟩:=id hqa.form
    have hfi:=tH (n:=p.name) hl
    refine cK9 (xT (cS (cB (cQ (sV (vI (k:=i) Z Z oF Z hlt Z) (sV (ag Z p8 Z hrd) ?_))))))
    refine au uW fun b6=>?_
    refine ai Z Z rM Z hone ?_
    refine sN (nK9 [0,3,6,22,23,24] Z (nT (cQ (sM Z (sV (vF Z gH Z) (sV (vY Z ld9) ?_))))))
    refine aH Z Z en117 Z (hfi) ?_
    rintro u h' ⟨rfl,gus,rfl,hgr⟩
    simp only [lC,lN]
    have hgr:Enc.rep X gus (ae l p.name):=hgr
    have hgo:=Enc.ones hgr
    obtain ⟨ga,gb,ge,gf,gi,rfl,hga,-⟩:=gq hgr
    obtain ⟨gA,gK,rfl,_⟩:=id hga.form
    refine sM Z (sV (ah Z Z) (sV (ah Z Z) (au nJ fun b7=>?_)))
    refine ai Z Z lS Z hgo ?_
    refine sV (vA9 Z) (sN (nK9 [0,3,6,7,22,23,24] Z (nT (cQ (sV (vF Z wW Z) (sV (vY Z oG) ?_))))))
    refine sV (aF Z underlying71) (sV (vF Z DC Z) (sV (vY Z ld38) ?_))
    refine sV (aF Z underlying38) (sV (bT Z Z) (sN (nK9 [0,3,22,23,24,41] Z (nT (cC Z (fun hne=>?_) (fun hne=>?_))))))
    ·have hne:p.args.length≠(ae l p.name).forms.length:=by have h:(p.args.length:Int)≠(ae l p.name).forms.length:=(by simpa using hne); omega
     rw [if_pos (List.any_eq_true.2 ⟨p,hmem,decide_eq_true hne⟩)]
     refine cQ (sV (vA9 Z) (sN (nK9 [4] Z (nT (cT (xW (xR (xR (xW (xR ?_))))))))))
     exact aj Z ⟨Z,Z⟩ sbq
    ·have hne:p.args.length=(ae l p.name).forms.length:=by have h:(p.args.length:Int)=(ae l p.name).forms.length:=(by simpa using hne); omega
     refine cK9 (xB (xT (cR (sV (aI Z Z (by unfold I64 at *; omega)) (sM Z (sN (nK9 [0,3,22,23,24] Z (ax (aJ (i+1) ⟨hlt,fun j hj hji=>?_⟩ (by show c.pars.length - (i+1)<c.pars.length - i; omega))))))))))
     by_cases h:j=i
     ·subst h; rw [hpg]; exact hne
     ·exact hal j hj (by omega)
   ·have hie:i=c.pars.length:=Nat.le_antisymm hi (Nat.not_lt.1 (by simpa using hd))
    subst hie
    rw [if_neg (fun h=>by
     obtain ⟨p,hp,h2⟩:=List.any_eq_true.1 h
     obtain ⟨j,hj,rfl⟩:=List.getElem_of_mem hp
     exact of_decide_eq_true h2 (hal j hj hj))]
    refine aB (xE (xE (xY (xT (cS (cQ (sV (ag Z gG Z af) ?_)))))))
    refine bM hw0 Z Z en145 Z (hdc) ?_
    rintro u h' ⟨rfl,rfl⟩
    simp only [lC,lN]
    refine sV (vA9 Z) (sN (nK9 [3,9] Z (nT (cQ (sM Z (sV (bT Z Z) (sN (nK9 [3,9,46] Z (nT (cC Z (fun hz=>?_) (fun hz=>?_)))))))))))
    ·rw [if_pos (show Ar c≠0 by simpa using hz)]
     refine cQ (sM Z (sV (vA9 Z) (sN (nK9 [4] Z (nT (cT (xR ?_)))))))
     exact aj Z ⟨Z,Z⟩ sbq
    ·rw [if_neg (show ¬ Ar c≠0 by simpa using hz)]
     refine cK9 (xT (cS (cQ (sV (vF Z eX Z) (sV (vY Z lT) ?_)))))
     refine sV (aF Z underlying39) (sM Z (sN (nK9 [49,50,51] Z (nT (cB (aZ (σ := Nat) (fun i=>[(49,.slice pA c.pars.length pK),(50,.int .i64 c.pars.length),(51,.int .i64 (i:Nat))]) (fun _=>X::hr) (fun i=>i≤c.pars.length∧∀ j (hj:j<c.pars.length),j<i→FB c.pars[j]=0) (fun i=>c.pars.length - i) 0 ⟨Nat.zero_le _,fun j _ hj=>absurd hj (Nat.not_lt_zero _)⟩ ?_))))))
     rintro i ⟨hi,hal⟩
     refine cQ (sV (aO Z Z) (sN (nT (cS (cC Z (fun hd=>?_) (fun hd=>?_))))))
     ·have hlt:i<c.pars.length:=by simpa using hd
      obtain ⟨b,o,cap2,us,e1,hus,hrd,hre⟩:=hcb.at (List.getElem?_eq_getElem hlt)
      cases e1
      have hone:=Enc.ones hre
      have hbad:FB c.pars[i]≠0→mQ (c.pars.map FB)=FB c.pars[i]:=fun hne=>by
       rw [CZ (i:=i) (by rw [List.length_map]; exact hlt) (fun j hj hji=>by rw [List.getElem_map]; exact hal j (by simpa using hj) hji) (by rw [List.getElem_map]; exact hne),List.getElem_map]
      generalize hpg:c.pars[i]=p at hre hone hbad
      obtain ⟨qa,qb,qc,qd,qe,rfl,hqa,hqb,-⟩:=id hre
      have h73:Ctw prog 73 #[qb,.func (.func 146) #[] #[]] [X] fun u h'=>u = .bool (p.ren.any fun x => !small x.to)∧h'=[X]:=LF (kf:=146) (cp := #[]) (g:=fun x => !small x.to) hqb en146 h146
      have h148:=F8 hqb
      have hrn:FB p=if (p.ren.any fun x => !small x.to)=true then 4 else if (p.ren.map fun x=>x.fro).Nodup then 0 else 6:=rfl
      refine cK9 (xT (cS (cB (cQ (sV (vI (k:=i) Z Z oF Z hlt Z) (sV (ag Z p8 Z hrd) ?_))))))
      refine au uW fun b11=>?_
      refine ai Z Z rM Z hone ?_
      refine sN (nK9 [11,49,50,51] Z (nT (cS (cQ (sV (vF Z zZ Z) (sV (vY Z ld86) ?_))))))
      refine bM hw0 Z Z en73 Z (h73) ?_
      rintro u h' ⟨rfl,rfl⟩
      simp only [lC,lN]
      refine sN (nK9 [11,49,50,51,57] Z (nT (cC Z (fun h4=>?_) (fun h4=>?_))))
      ·rw [if_pos (show _=true from h4)] at hrn
       rw [hbad (by rw [hrn]; decide),hrn]
       refine cQ (sV (vA9 Z) (sN (nK9 [4] Z (nT (cT (xR (xW (xR (xR (xW (xR ?_)))))))))))
       exact aj Z ⟨Z,Z⟩ sbq
      ·have h4:(p.ren.any fun x => !small x.to)=false:=h4
       rw [h4,if_neg (by decide)] at hrn
       refine cK9 (xT (cQ (sV (vF Z zZ Z) (sV (vY Z ld86) ?_))))
       refine bg Z Z en148 Z (h148) ?_
       refine sN (nK9 [49,50,51,60] Z (nT (cC Z (fun h5=>?_) (fun h5=>?_))))
       ·rw [if_neg (show ¬ (p.ren.map fun x=>x.fro).Nodup by simpa using h5)] at hrn
        rw [hbad (by rw [hrn]; decide),hrn]
        refine cQ (sV (vA9 Z) (sN (nK9 [4] Z (nT (cT (xW (xR (xR (xW (xR ?_))))))))))
        exact aj Z ⟨Z,Z⟩ sbq
       ·rw [if_pos (show (p.ren.map fun x=>x.fro).Nodup by simpa using h5)] at hrn
        refine cK9 (xB (xT (cR (sV (aI Z Z (by unfold I64 at *; omega)) (sM Z (sN (nK9 [49,50,51] Z (ax (aJ (i+1) ⟨hlt,fun j hj hji=>?_⟩ (by show c.pars.length - (i+1)<c.pars.length - i; omega))))))))))
        by_cases h:j=i
        ·subst h; rw [hpg]; exact hrn
        ·exact hal j hj (by omega)
     ·have hie:i=c.pars.length:=Nat.le_antisymm hi (Nat.not_lt.1 (by simpa using hd))
      subst hie
      rw [yL fun j hj=>by rw [List.getElem_map]; exact hal j (by simpa using hj) (by simpa using hj)]
      refine aB (xE (xE (xY (xT (cQ (sV (vA9 Z) (sN (nK9 [4] Z (nT (cT ?_))))))))))
      exact aj Z ⟨Z,Z⟩ sbq
end
theorem LH {l:FS} (h0:(check (bn l)).1=0) {i:Nat} (h:i<l.length) (hb:∀ j (hj:j<l.length),j<i→kC l l[j]=0) (hn:kC l l[i]≠0):bQ l=(kC l l[i],l[i].name):=by
 unfold bQ
 rw [if_neg (by rw [h0]; simp)]
 rw [show (l.map fun c=>(kC l c,c.name)).find? (fun e=>e.1 != 0)=some (kC l l[i],l[i].name) from List.find?_eq_some_iff_getElem.2 ⟨by simpa using hn,i,by simpa using h,by simp,fun j hj=>by
  rw [List.getElem_map,hb j (by omega) hj]; rfl⟩]
theorem GH {l:FS} (h0:(check (bn l)).1=0) (hb:∀ j (hj:j<l.length),kC l l[j]=0):bQ l=(0,[]):=by
 unfold bQ
 rw [if_neg (by rw [h0]; simp)]
 rw [show (l.map fun c=>(kC l c,c.name)).find? (fun e=>e.1 != 0)=none from List.find?_eq_none.2 fun x hx=>by
  obtain ⟨c,hc,rfl⟩:=List.mem_map.1 hx
  obtain ⟨j,hj,rfl⟩:=List.getElem_of_mem hc
  rw [hb j hj]; simp]
section
variable {X:Res} {v:Value}
theorem xK (hX:Spc X) {l:FS} (hl:Ls X v l):Ctw prog 16 #[v] [X] fun u h'=>u = .tuple #[.int .i64 (bQ l).1,sv (bQ l).2]∧h'=[X]:=by
 have hml:maxLen=9223372036854775807:=rfl
 obtain ⟨vA,vK,rfl,_⟩:=id hl.form
 have hck:=Fg (xe hl)
 have hz0:(check (bn l)).1≠0→bQ l=check (bn l):=fun h=>by unfold bQ; rw [if_pos h]
 generalize hkk:check (bn l)=kk at hck hz0
 obtain ⟨k1,k2⟩:=kk
 dsimp only at hck hz0
 refine fO (n:=33) func16 Z Z (len Z) fun hr w0 hw0=>?_
 refine cQ (sV (vA9 Z) (sV (vA9 Z) (sN (nT (cS (cQ (sM Z (aH Z Z en63 Z (hck) ?_))))))))
 rintro u h' ⟨rfl,rfl⟩
 simp only [lC,lN]
 refine sM Z (sV (ah Z Z) (sV (ah Z Z) (sV (vA9 Z) (sV (vA9 Z) (sN (nK9 [0,2,3,4,5] Z (nT (cQ (sM Z (sV (bT Z Z) (sN (nK9 [0,2,3,4,5,15] Z (nT (cC Z (fun hz=>?_) (fun hz=>?_)))))))))))))))
 ·rw [hz0 (by simpa using hz)]
  refine cQ (sM Z (sM Z (sV (vA9 Z) (sV (vA9 Z) (sN (nK9 [2,3] Z (nT (cT (xR ?_)))))))))
  exact aj Z ⟨Z,Z⟩ sbq
 ·have hz:k1=0:=by simpa using hz
  have h0:(check (bn l)).1=0:=by rw [hkk]; exact hz
  refine cK9 (xT (cS (cQ (sM Z (sV (aF Z underlying22) (sM Z (sN (nK9 [0,2,3,18,19,20] Z (nT (cB (aZ (σ := Nat) (fun i=>[(0,.slice vA l.length vK),(18,.slice vA l.length vK),(19,.int .i64 l.length),(20,.int .i64 (i:Nat))]) (fun _=>X::hr) (fun i=>i≤l.length∧∀ j (hj:j<l.length),j<i→kC l l[j]=0) (fun i=>l.length - i) 0 ⟨Nat.zero_le _,fun j _ hj=>absurd hj (Nat.not_lt_zero _)⟩ ?_)))))))))))
  rintro i ⟨hi,hal⟩
  refine cQ (sV (aO Z Z) (sN (nT (cS (cC Z (fun hd=>?_) (fun hd=>?_))))))
  ·have hlt:i<l.length:=by simpa using hd
   obtain ⟨b,o,cap2,us,e1,hus,hrd,hre⟩:=hl.at (List.getElem?_eq_getElem hlt)
   cases e1
   have hone:=Enc.ones hre
   have hbad:=LH h0 hlt hal
   have hfm:=LG hX hl hre
   generalize hcg:l[i]=c at hre hone hbad hfm
   obtain ⟨ca,cb,ce,cf,ci,rfl,-⟩:=gq hre
   refine cK9 (xT (cS (cB (cQ (sV (vI (k:=i) Z Z uM Z hlt Z) (sV (ag Z gG Z hrd) ?_))))))
   refine au nJ fun b7=>?_
   refine ai Z Z lS Z hone ?_
   refine sN (nK9 [0,7,18,19,20] Z (nT (cQ (sM Z (sV (ag Z gG Z af) ?_)))))
   refine bM hw0 Z Z en64 Z (hfm) ?_
   rintro u h' ⟨rfl,rfl⟩
   simp only [lC,lN]
   refine sV (vA9 Z) (sN (nK9 [0,7,8,18,19,20] Z (nT (cQ (sM Z (sV (bT Z Z) (sN (nK9 [0,7,8,18,19,20,28] Z (nT (cC Z (fun hne=>?_) (fun hne=>?_)))))))))))
   ·rw [hbad (by simpa using hne)]
    refine cS (bB (ork [(0,2),(1,2),(2,1),(3,2),(4,2)] .nil) (fun _=>true) mixed (by kernel_rfl) ?_)
    refine dV Z (vM Z) (dV Z (vF Z dH Z) (bu Z (vY Z ld9) ?_))
    refine dV Z (vA9 Z) (dV Z (vA9 Z) (bA (nK9 [2,3] Z (nT (cT (xW (xR (xR (xW (xR ?_))))))))))
    exact aj Z ⟨Z,Z⟩ sbq
   ·have hne:kC l c=0:=by simpa using hne
    refine cK9 (xB (xT (cR (sV (aI Z Z (by unfold I64 at *; omega)) (sM Z (sN (nK9 [0,18,19,20] Z (ax (aJ (i+1) ⟨hlt,fun j hj hji=>?_⟩ (by show l.length - (i+1)<l.length - i; omega))))))))))
    by_cases h:j=i
    ·subst h; rw [hcg]; exact hne
    ·exact hal j hj (by omega)
  ·have hie:i=l.length:=Nat.le_antisymm hi (Nat.not_lt.1 (by simpa using hd))
   subst hie
   rw [GH h0 fun j hj=>hal j hj hj]
   refine aB (xE (xE (xY (xT (cQ (sV (vA9 Z) (sV (vA9 Z) (sN (nK9 [2,3] Z (nT (cT ?_)))))))))))
   exact aj Z ⟨Z,Z⟩ sbq
end
end Go.Fl
namespace Go.Fl
open Go Go.Hr
def oriP (l:FS) (c n:Nm):List Og×Int:=if (bS l [] c n).2≠0 then ([],(bS l [] c n).2) else
 ((if (feat (ae l c) n).isSome then [⟨[],n⟩] else [])++(under (comes (look (build l).1) l (ae l c)) n).map (fun x=>x.og),0)
section
variable {l:FS}
theorem jL {ns:List Nm} (h:wholeE l ns=0):Good l∧∀ n∈ns,(bL l n).isSome=true:=by
 unfold wholeE at h
 split at h
 ·rename_i h1; exact absurd h h1
 rename_i h1
 have h1:=Classical.not_not.1 h1
 split at h
 ·rename_i h2
  exact ⟨Hy.1 ((vg h1).2.trans h),by simpa using h2⟩
 ·cases h
theorem Good.flb (h:Good l):FlB l (Fl.look (Fl.build l).1):=by
 rw [h.build]; exact NY h.right fun n hn=>h.ok n ((gp h.sys).1 hn)
theorem Good.ords (h:Good l):(Fl.build l).1.map (fun p=>p.1)=order (bn l):=by
 rw [h.build]; simp [forms,List.map_map,Function.comp_def]
theorem Good.err (h:Good l):(Fl.build l).2=(cf0,0):=by rw [h.build]
theorem Good.flats2 (h:Good l):gI l=((order (bn l)).map fun n=>Fl.look (Fl.build l).1 n,0):=by
 rw [h.flats]
 congr 1
 apply List.map_congr_left
 intro n hn
 exact (h.look ((gp h.sys).1 hn)).symm
theorem Good.ord_len (h:Good l):(order (bn l)).length≤24:=by
 have h1:(order (bn l)).length≤(nms (bn l)).length:=aP (iJ h.sys.acyc h.sys.uniq).1.nodup fun x hx=>((iJ h.sys.acyc h.sys.uniq).2 x).1 hx
 have h2:(nms (bn l)).length=l.length:=by simp [nms,bn]
 have h3:=h.sys.len
 rw [jW] at h3
 omega
end
end Go.Fl
