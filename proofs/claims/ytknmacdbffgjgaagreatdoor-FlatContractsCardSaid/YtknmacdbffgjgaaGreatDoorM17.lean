/-
  Package flat: Clash,FlatOf,Names. Conditions: what is read; the library's table of blanks; sizes.
-/
import Derived.Test.YtknmacdbffgjgaaGreatDoorM16
import Derived.Test.YtknmacdbffgjgaaGreatDoorM14
import Derived.Test.YtknmacdbffgjgaaGreatDoorM15
import Derived.Test.YtknmacdbffgjgaaGreatDoorM8
set_option linter.unusedVariables false
set_option linter.unusedSimpArgs false
set_option maxRecDepth 100000
set_option maxHeartbeats 16000000
namespace Go.Fl
open Go Go.RowKit Go.Ck Go.Proofs Go.Proofs.Tryz Go.Proofs.YtknmacdbffgjgaaGreatDoor Fx Go.Hr
theorem Fits.sums {l:FS} {fl:Nm->Fl} (h:Fits l fl) {c:FC} (hc:c∈l):(ni (comes fl l c)).length≤345600/\((comes fl l c).flatMap λx=>x.mem.pre).length≤345600/\((comes fl l c).flatMap λx=>x.mem.post).length≤345600:=I6 h.right h.flb hc
attribute [local irreducible] Go.Ck.Sub St Cd Xt Nx DrL LsW
section
variable {X Y:Res} {v v':Value} {us us':List Value}
theorem xM {mb:Nat} {m:List (Nm×Value)} {fl:Nm->Fl} {l:FS} {c:FC} {uc:List Value} {mv:Value} {ms:List Mb} {all:Bool} (hl:Ls X v l) (hc:Enc.rep X uc c) (hm:FlR X m fl) (hms:Ls X mv ms) (hF:Fits l fl) (hcl:c∈l) :
  CtX prog 58 #[.agg #[v,.map (some mb)],.agg uc.toArray,mv,.bool all] X [mps mb m] λu Y k'=>∃ b9 bm bmp ca cb ce cf ci,u = .func (.func 127) #[] #[.pointer (some ⟨b9,0,none⟩)]/\k'=[pt b9 (cl (eX v (.map<|some mb) c ca cb ce cf ci mv (.map<|some bm) all) 206),mps mb m,mps bm bmp]/\SkR Y ⟨fl,l,c,ms,all⟩ v m ca cb ce cf ci mv bmp/\bmp.map (λp=>p.1)=keys (comes fl l c):=by
 have hfew:=hF.few<|.inl hcl
 have hby:=xJ (mb:=mb) hl hc hm (hF.hf<|.inl hcl)<|by omega
 have hvo:=hl.one
 obtain ⟨ca,cb,ce,cf,ci,rfl,hca,hcb,hce,hcf,hci⟩:=gp hc
 have hone:([sv c.name,.bool c.dfd,ca,cb,ce,cf,ci]:List Value).all Value.oneCell'=true:=Enc.ones hc
 have hmo:=hms.one
 obtain ⟨cA,cKq,rfl,_⟩:=id hcb.form
 obtain ⟨fA,fK,rfl,_⟩:=id hcf.form
 obtain ⟨aA,aK,rfl,_⟩:=id hca.form
 obtain ⟨iA,iK,rfl,_⟩:=id hci.form
 obtain ⟨vAq,vK,rfl,_⟩:=id hl.form
 obtain ⟨mA,mK,rfl,_⟩:=id hms.form
 unfold CtX at hby ⊢
 unfold eX
 refine aL (n:=19) func58 Z Z (len Z) λhr w0=>?_
 refine cQ (aP Z Z λb4=>?_)
 refine aP Z Z λb5=>?_
 refine sA Z<|sK [2,3,4,5,8] Z<|cS<|jk (ork [(0,1),(1,1),(2,2),(3,1),(4,1),(6,2)]<|.two 5 (ork [(7,2),(8,0),(9,0)] .nil) 8<|ork [(5,0),(7,2),(9,0)] .nil) (λi => !(Nat.beq i 9)) [pt b4 (cl [.slice vAq l.length vK,.map (some mb)] 114),pt b5 (cl [sv c.name,.bool c.dfd,.slice aA c.forms.length aK,.slice cA c.pars.length cKq,ce,.slice fA c.feats.length fK,.slice iA c.inv.length iK] 44)] mixed Zz ?_
 refine bu Z (af Z gU Z ah) ?_
 refine bu Z (af Z gG Z ah) ?_
 refine dV Z (vM Z)<|bu Z (af Z gU Z ah) ?_
 refine bu Z (af Z gG Z ah) ?_
 refine dV Z (vM Z)<|mR Z Z ?_ ?_
 ·refine aH Z Z JZ Z (hby) ?_
  rintro u h' ⟨Y,k',rfl,hE,bm,E,rfl,rfl,hbk⟩
  simp only [lC,lN]
  refine aW ?_
  refine dV Z (aO (cells:=[.slice vAq l.length vK,.map (some mb),sv c.name,.bool c.dfd,.slice aA c.forms.length aK,.slice cA c.pars.length cKq,ce,.slice fA c.feats.length fK,.slice iA c.inv.length iK,.slice mA ms.length mK,.map (some bm),.bool all]) Z<|λ_=>Zz) ?_
  refine aV Z (au al206 λb9=>aW ?_)
  have hone2:([.slice vAq l.length vK,.map (some mb),sv c.name,.bool c.dfd,.slice aA c.forms.length aK,.slice cA c.pars.length cKq,ce,.slice fA c.feats.length fK,.slice iA c.inv.length iK,.slice mA ms.length mK,.map (some bm),.bool all]:List Value).all Value.oneCell'=true:=by simp only [List.all_cons,List.all_nil,hce,Bool.and_true,Bool.true_and]; rfl
  refine aV Z<|ai Z Z sz206 Z hone2<|aW ?_
  refine bA<|nK [8,9] Z<|nT<|cQ<|sV (bQ Z Z)<|sA Z<|sK [8] Z<|cT (dY (r:=BN E) slq λhokE=>?_)
  refine gY [BN E] Y λY2 hE2 hsel=>?_
  have hls:=Ku hbk hE2 hokE (hsel _ _ .here)<|by omega
  have hlk:=zB hbk.1 hls
  have hk0:=hbk.1
  have hE3:=hE.trans hE2
  exact aj Z ⟨Y2,_,Z,hE3,b9,bm,j6 E,_,_,_,_,_,Z,Z,⟨hl.up hE3,hca.up hE3,hcb.up hE3,hce,hcf.up hE3,hci.up hE3,hm.up hE3,hms.up hE3,hlk⟩,by rw [jL]; exact hk0⟩ sbq
 ·refine au al206 λb9=>aW ?_
  refine aV Z<|aH Z Z JZ Z (hby) ?_
  rintro u h' ⟨Y,k',rfl,hE,bm,E,rfl,rfl,hbk⟩
  simp only [lC,lN]
  refine aW ?_
  refine dV Z (aO (cells:=[.slice vAq l.length vK,.map (some mb),sv c.name,.bool c.dfd,.slice aA c.forms.length aK,.slice cA c.pars.length cKq,ce,.slice fA c.feats.length fK,.slice iA c.inv.length iK,.slice mA ms.length mK,.map (some bm),.bool all]) Z<|λ_=>Zz) ?_
  have hone2:([.slice vAq l.length vK,.map (some mb),sv c.name,.bool c.dfd,.slice aA c.forms.length aK,.slice cA c.pars.length cKq,ce,.slice fA c.feats.length fK,.slice iA c.inv.length iK,.slice mA ms.length mK,.map (some bm),.bool all]:List Value).all Value.oneCell'=true:=by simp only [List.all_cons,List.all_nil,hce,Bool.and_true,Bool.true_and]; rfl
  refine aV Z<|ai Z Z sz206 Z hone2<|aW ?_
  refine bA<|nK [8,9] Z<|nT<|cQ<|sV (bQ Z Z)<|sA Z<|sK [8] Z<|cT (dY (r:=BN E) slq λhokE=>?_)
  refine gY [BN E] Y λY2 hE2 hsel=>?_
  have hls:=Ku hbk hE2 hokE (hsel _ _ .here)<|by omega
  have hlk:=zB hbk.1 hls
  have hk0:=hbk.1
  have hE3:=hE.trans hE2
  exact aj Z ⟨Y2,_,Z,hE3,b9,bm,j6 E,_,_,_,_,_,Z,Z,⟨hl.up hE3,hca.up hE3,hcb.up hE3,hce,hcf.up hE3,hci.up hE3,hm.up hE3,hms.up hE3,hlk⟩,by rw [jL]; exact hk0⟩ sbq

theorem uu {yl mb bm b9 : Nat} {Φ : List Cf -> Res -> Prop} {Stop : Cf -> Res -> Prop} (hy : Yh yl Φ Stop) {S : Sk} {all : Bool} (hall : S.all = all) {m bmp : List (Nm × Value)} {ca cb ce cf ci mv : Value} (hK : SkR X S v m ca cb ce cf ci mv bmp) (hB : SkB S) (hk0 : bmp.map (λp => p.1) = keys S.cs) (cn : Nm) (hcn0 : S.c = ae S.l cn) (r0 : Res) (h0 : Φ S.conflicts r0) :
  dE prog 127 #[.func (.yield yl) #[] #[],.pointer (some ⟨b9,0,none⟩)] X [pt b9 (cl (eX v (.map<|some mb) S.c ca cb ce cf ci mv (.map<|some bm) all) 206),mps mb m,mps bm bmp,r0] λu Y k'=>u = .tuple #[]/\∃ r,k'=[pt b9 (cl (eX v (.map<|some mb) S.c ca cb ce cf ci mv (.map<|some bm) all) 206),mps mb m,mps bm bmp,r]/\(Φ [] r∨∃ x,Stop x r):=by
 have e1:S.conflicts=S.lost++(S.redeclared++(S.typed++(S.chosen++(S.apart++[])))):=by rw [List.append_nil]; rfl
 rw [e1] at h0
 have h1:=lost_ct (v:=v) (mb:=mb) (bm:=bm) hy hall hK hB _ r0 h0
 have ho:([v,.map (some mb),sv S.c.name,.bool S.c.dfd,ca,cb,ce,cf,ci,mv,.map (some bm),.bool all]:List Value).all Value.oneCell'=true:=by
  simp only [List.all_cons,List.all_nil,hK.l.one,hK.a.one,hK.par.one,hK.e,hK.feat.one,hK.inv.one,hK.ms.one,Bool.and_true,Bool.true_and]; rfl
 unfold CtX at h1
 unfold dE
 unfold eX at *
 refine eG (n:=21) func127 Z Z (len Z) λhr w0 hw0=>?_
 refine cR<|sV (af Z fC Z ah) ?_
 refine sM Z<|aH Z Z en128 Z (h1) ?_
 rintro u h' ⟨Y,k',rfl,hE,r,rfl,hend⟩
 simp only [lC,lN]
 rcases hend with ⟨rfl,hΦ⟩ | ⟨rfl,hst⟩
 ·have h2:=BK (v:=v) (mb:=mb) (bm:=bm) hy hall (hK.up hE) hB hk0 _ r hΦ
  unfold CtX eX at h2
  refine sM Z<|sG Z Z (af Z fC Z ah) ?_
  refine sG Z Z (vM Z)<|ku Z Z<|aH Z Z en129 Z (h2) ?_
  rintro u h' ⟨Y2,k',rfl,hE2,r,rfl,hend⟩
  simp only [lC,lN]
  have hE2:=hE.trans hE2
  rcases hend with ⟨rfl,hΦ⟩ | ⟨rfl,hst⟩
  ·have h3:=Ot (v:=v) (mb:=mb) (bm:=bm) hy hall (hK.up hE2) hB hk0 _ r hΦ
   unfold CtX eX at h3
   refine sV (vQ Z Z)<|sM Z<|sG Z Z (af Z fC Z ah) ?_
   refine sG Z Z (vM Z)<|ku Z Z<|aH Z Z en130 Z (h3) ?_
   rintro u h' ⟨Y3,k',rfl,hE3,r,rfl,hend⟩
   simp only [lC,lN]
   have hE3:=hE2.trans hE3
   rcases hend with ⟨rfl,hΦ⟩ | ⟨rfl,hst⟩
   ·have h4:=LM (v:=v) (mb:=mb) (bm:=bm) hy hall (hK.up hE3) hB cn hcn0 [] r hΦ
    unfold dE eX at h4
    refine sV (vQ Z Z)<|sM Z<|sG Z Z (af Z fC Z ah) ?_
    refine sG Z Z (vM Z)<|ku Z Z<|bM hw0 Z Z en131 Z (h4) ?_
    rintro u h' ⟨Y4,k',rfl,hE4,r,rfl,hend⟩
    simp only [lC,lN]
    have hE4:=hE3.trans hE4
    have hend : Φ [] r∨∃ x,Stop x r:=hend.elim (λh=>.inl h.2) λh=>.inr h.2
    refine sV (vQ Z Z)<|sN<|nK [] Z<|ax ?_
    exact z8 Z ⟨Y4,_,Z,hE4,Z,r,Z,hend⟩ sbq
   ·refine sV (vQ Z Z)<|sM Z<|aC Z Z Z ?_
    iterate 2 refine aC rfl rfl rfl ?_
    refine sV (vP Z Z)<|sN<|nK [] Z<|ax ?_
    exact z8 Z ⟨Y3,_,Z,hE3,Z,r,Z,.inr hst⟩ sbq
  ·refine sV (vQ Z Z)<|sM Z<|aC Z Z Z ?_
   iterate 2 refine aC rfl rfl rfl ?_
   refine sV (vP Z Z)<|sM Z<|aC Z Z Z ?_
   iterate 2 refine aC rfl rfl rfl ?_
   refine sV (vP Z Z)<|sN<|nK [] Z<|ax ?_
   exact z8 Z ⟨Y2,_,Z,hE2,Z,r,Z,.inr hst⟩ sbq
 ·refine sM Z<|aC Z Z Z ?_
  iterate 2 refine aC rfl rfl rfl ?_
  refine sV (vP Z Z)<|sM Z<|aC Z Z Z ?_
  iterate 2 refine aC rfl rfl rfl ?_
  refine sV (vP Z Z)<|sM Z<|aC Z Z Z ?_
  iterate 2 refine aC rfl rfl rfl ?_
  refine sV (vP Z Z)<|sN<|nK [] Z<|ax ?_
  exact z8 Z ⟨Y,_,Z,hE,Z,r,Z,.inr hst⟩ sbq
 theorem en127w:Ck.Enters prog 127:=enters_of func127 Zz rfl
end
end Go.Fl
namespace Go.Ck
open Go Go.RowKit
theorem Yc.star {P:Program} {l:Nat} {args:Array Value} {L:SH} {R R':Value->SH->Prop} (h:Yc P l args L R) (hr:∀ u L',R u L'->R' u [Res.star L']):Yc P l args [Res.star L] R':=λhr2 w hh =>
 iW (λv w' ⟨h',hR,hH,hS⟩=>⟨[Res.star h'],hr v h' hR,bW.2 hH,hS⟩) (h hr2 w<|bW.1 hh)
theorem Ctw.star {P:Program} {k:FuncId} {args:Array Value} {L A:SH} {R:Value->SH->Prop} (h:Ctw P k args (Res.star L::A) R):Ctw P k args (L++A) R:=λhr w hh =>
 by
 have h2:Holds w (L++(A++hr)):=by rw [<- List.append_assoc]; exact hh
 exact h hr w<|bW.2 h2
theorem Ctw.vw {P:Program} {k:FuncId} {args:Array Value} {hf:SH} {R R':Value->SH->Prop} (h:Ctw P k args hf R) (hv:∀ u h',R u h'->∃ h'',(∀ t,Vw (h'++t) (h''++t))/\R' u h''):Ctw P k args hf R':=λhr w hh =>
 (h hr w hh).mono λ_ w' ⟨u,h',he,hR,hH,hS⟩=>by
  obtain ⟨h'',g1,g2⟩:=hv u h' hR
  exact ⟨u,h'',he,g2,g1 hr w' hH,hS⟩
theorem Ctw.frame {P:Program} {k:FuncId} {args:Array Value} {hf g:SH} {R:Value->SH->Prop} (h:Ctw P k args hf R):Ctw P k args (hf++g) λu h'=>∃ h0,R u h0/\h'=h0++g:=λhr w hh=>by
 have h1:Holds w (hf++(g++hr)):=by rw [<- List.append_assoc]; exact hh
 exact (h (g++hr) w h1).mono λ_ _ ⟨u,h',he,hR,hH,hS⟩=>⟨u,h'++g,he,⟨h',hR,Z⟩,by rw [List.append_assoc]; exact hH,hS⟩
theorem xN {L A t:SH}:Vw ((A++[Res.star L])++t) ((L++A)++t):=λw hh=>by
 have hp:((A++[Res.star L])++t).Perm (Res.star L::(A++t)):=by
  rw [List.append_assoc]
  exact List.perm_middle
 have h1:Holds w (Res.star L::(A++t)):=(bi.perm hp).1 hh
 have h2:=bW.1 h1
 rw [List.append_assoc]; exact h2
theorem kr {P:Program} {r:Option Nat} {n:Nat} {ds:List Deferred} {w0:World} {hr k h h':SH} {R:Value->SH->Prop} {fn:Func} {e:Env} {vs:List Value} {bs:List Nat} (hds:ds=bs.map mk) (hv:ResV P k e fn.results.toList vs) (hR:R (kC vs) h') (hk:Sub (h'++hr) k) (hp:Sub (Res.star (marks bs)::k) h) :
  Xt ⟨P,r,n,ds,w0⟩ .ret (bodyPostM (Fw none) 0 P fn<|Post w0 hr R) e h:=λa w hk' hh hw=>oq hds hv hR hk (Sub.refl _) a w hk' (bW.1<|hh.sub hp) hw
end Go.Ck
namespace Go.Fl
open Go Go.RowKit Go.Ck Go.Proofs Go.Proofs.Tryz Go.Proofs.YtknmacdbffgjgaaGreatDoor Fx Go.Hr
def sj (v fv ow:Value) (x:Cf) (e:Int):List Value:=[v,fv,ow,.int .i64 x.kind,sv x.cls,sv x.name,sv x.other,sv x.a.par,sv x.a.name,sv x.b.par,sv x.b.name,.int .i64 e]
theorem xO {fs:List (Nm×Fl)} {n:Nm} {f:Fl} (h:n ∉ fs.map λp=>p.1) (k:Nm):look (fs++[(n,f)]) k=if k=n then f else look fs k:=by
 unfold look
 rw [List.find?_append]
 by_cases hk:k=n
 ·subst hk
  have:fs.find? (λp=>p.1 == k)=none:=by
   rw [List.find?_eq_none]
   intro p hp
   simp only [beq_iff_eq]
   exact λe=>h<|List.mem_map.2 ⟨p,hp,e⟩
  rw [this,if_pos rfl]; simp
 ·have:([(n,f)]:List (Nm×Fl)).find? (λp=>p.1 == k)=none:=by simp; exact λe=>hk e.symm
  rw [this,if_neg hk]; simp
theorem FlR.put {X:Res} {m:List (Nm×Value)} {fs:List (Nm×Fl)} {n:Nm} {f:Fl} {us:List Value} (h:FlR X m (look fs)) (hn:n ∉ fs.map λp=>p.1) (hr:Enc.rep X us f):FlR X (eu m n (.agg us.toArray)) (look (fs++[(n,f)])):=λk=>by
 rw [nJ,xO hn]
 by_cases hk:k=n
 ·rw [if_pos hk,if_pos hk]; exact ⟨us,rfl,hr⟩
 ·rw [if_neg hk,if_neg hk]; exact h k
theorem FlB.put {l:FS} {fs:List (Nm×Fl)} {n:Nm} {f:Fl} (h:FlB l (look fs)) (hn:n ∉ fs.map λp=>p.1) (h1:f.mems.length≤60) (h2:∀ m∈f.mems,MOk l m):FlB l (look (fs++[(n,f)])):=by
 constructor
 ·intro k
  rw [xO hn]
  split
  ·exact h1
  ·exact h.few k
 ·intro k m hm
  rw [xO hn] at hm
  split at hm
  ·exact h2 m hm
  ·exact h.ok k m hm
def jg (l:FS):Prop:=∀ c∈l,∀ p∈c.pars,p.ren.length≤12/\p.und.length≤12/\p.red.length≤12/\p.sel.length≤12
theorem oh {l:FS} (hR:FRight l) {c:Nm} (hc:(bJ l c).isSome=true):(above (bn l) c).length≤24:=by
 obtain ⟨h1,h2⟩:=iM hR.sys.acyc c
 have h3:(above (bn l) c).length≤(nms<|bn l).length:=aT h1.nodup λx hx=>fD.1<|uL (by rw [dD]; exact hc) ((h2 x).1 hx)
 have h4:(nms<|bn l).length=l.length:=by simp [nms,bn]
 have h5:=hR.sys.len
 rw [jX] at h5
 omega
theorem fits0 {l:FS} (hR:FRight l) (hS:jg l):Fits l (look []):=⟨hR,⟨λ_=>Nat.zero_le _,λ_ m hm=>by cases hm⟩,hS⟩
theorem flr0 {X:Res}:FlR X [] (look []):=λ_=>⟨[sv [],.bool false,.slice none 0 0,.slice none 0 0],rfl,.slice none 0 0,.slice none 0 0,rfl,Ls.nil,Ls.nil⟩
attribute [local irreducible] Go.Ck.Sub St Cd Xt Nx DrL LsW
section
variable {X Y:Res} {v v':Value} {us us':List Value}

theorem He {l : FS} (hl : Ls X v l) (hR : FRight l) (hS : jg l) :
  dE prog 53 #[v] X [] λu Y k'=>∃ mb m ow names,u = .agg (sj v (.map<|some mb) ow (build l).2.1 (build l).2.2).toArray/\k'=[mps mb m,VR ow 9 1 (names.map nC)]/\FlR Y m (look (build l).1)/\names=(build l).1.map (λp=>p.1)/\ow.oneCell'=true:=by
 have hml:maxLen=9223372036854775807:=rfl
 have hrb:reachBytes=140737488351232:=rfl
 obtain ⟨vAq,vK,rfl,_⟩:=id hl.form
 have hord:=Nu<|tT hl
 have hr0:dJ (bn l) []=0:=d9.2 ⟨hR.sys,by simp⟩
 rw [hr0,show okL 0 (order<|bn l)=order (bn l) from rfl] at hord
 have hbe:build l=lK l (order<|bn l) []:=rfl
 have hon:(order<|bn l).Nodup:=(jE hR.sys.acyc hR.sys.uniq).1.nodup
 have hof:∀ n∈order (bn l),(bJ l n).isSome=true:=λn hn=>(gW hR.sys).1 hn
 have hol:(order<|bn l).length≤24:=by
  have h1:(order<|bn l).length≤(nms<|bn l).length:=aT hon λx hx=>((jE hR.sys.acyc hR.sys.uniq).2 x).1 hx
  have h2:(nms<|bn l).length=l.length:=by simp [nms,bn]
  have h3:=hR.sys.len
  rw [jX] at h3
  omega
 rw [hbe]
 generalize order (bn l)=xs at hord hon hof hol ⊢
 unfold dE
 refine EC (n:=65) func53 Z Z (len Z) λhr w0 hw0=>?_
 refine cQ (au nU λb2=>?_)
 refine sN<|nT<|cQ<|sM Z<|aH Z Z en116 Z (hord) ?_
 rintro u h' ⟨T,rfl,w,rfl,hw,rfl⟩
 simp only [lC,lN]
 unfold NR
 refine sM Z<|sV (ag Z Z)<|sV (ag Z Z)<|sA Z<|sA Z<|sK [0,2,3] Z<|cS (fZ (v:=w) (E:=9) (sz:=1) (rows:=xs.map nC) slq λwa wc hwf hwl hwm=>?_)
 rw [List.length_map] at hwf hwl
 subst hwf
 refine cR<|sM Z (eH (ltn Z) λmb=>?_)
 refine sV (aO (cells:=[.slice vAq l.length vK,.map (some mb)]) Z<|λ_=>Zz) ?_
 refine sV (aO (cells:=sj (.slice vAq l.length vK) (.map<|some mb) (.slice none 0 0) cf0 0) Z<|λ_=>Zz) ?_
 refine au nU λb5=>?_
 refine ai Z Z ja Z Z ?_
 refine sK [2,3,5] Z<|cS<|cQ<|sM Z<|sV (aF Z underlying40)<|sM Z<|sK [2,5,20,21,22] Z<|cB<|dK (cO 9 1)<|nI<|nH (σ := Res×List (Nm×Value)×Value×Nat×List (Nm×Fl)×List Nat) (λq=>q.2.2.2.2.2.map mk) (λq=>[(2,.pointer (some ⟨b2,0,none⟩)),(5,.pointer (some ⟨b5,0,none⟩)),(20,.slice wa xs.length wc),(21,.int .i64 xs.length),(22,.int .i64 (q.2.2.2.1:Nat))]) (λq=>Res.star (marks q.2.2.2.2.2)::pt b5 (cl (sj (.slice vAq l.length vK) (.map<|some mb) q.2.2.1 cf0 0) 116)::VR q.2.2.1 9 1 ((xs.take q.2.2.2.1).map nC)::VR (.slice wa xs.length wc) 9 1 (xs.map nC)::pt b2 (cl (sj (.slice none 0 0) (.map none) (.slice none 0 0) cf0 0) 116)::q.1::mps mb q.2.1::hr) (λq=>Ext X q.1/\q.2.2.2.1≤xs.length/\q.2.2.1.oneCell'=true/\FlR q.1 q.2.1 (look q.2.2.2.2.1)/\Fits l (look q.2.2.2.2.1)/\q.2.2.2.2.1.map (λp=>p.1)=xs.take q.2.2.2.1/\lK l xs []=lK l (xs.drop q.2.2.2.1) q.2.2.2.2.1) (λq=>xs.length - q.2.2.2.1) (X,[],.slice none 0 0,0,[],[]) ⟨Ext.refl X,Nat.zero_le _,Z,flr0,fits0 hR hS,Z,Z⟩ Z ⟨Z,Z,Z,Z,Z,trivial⟩ sbq ?_
 rintro ⟨Y,m,ow,i,fs,bs⟩ ⟨hE,hi,how,hm,hF,hfs,hbl⟩
 simp only at hE hi how hm hF hfs hbl
 dsimp only
 unfold sj
 dsimp only [cf0,og0]
 refine cQ<|sV (aN Z Z)<|sN<|nT<|cS<|cC Z (λhd=>?_)<|λhd=>?_
 ·have hlt:i<xs.length:=Zx
  have hnx:(xs.map nC)[i]? = some [sv xs[i]]:=by rw [List.getElem?_map,Zy hlt]; rfl
  have hnm:=hof _<|List.getElem_mem hlt
  have htk:=bY hlt
  have hdr:=List.drop_eq_getElem_cons hlt
  rw [hdr] at hbl
  have hnew:xs[i] ∉ fs.map λp=>p.1:=by
   rw [hfs]
   intro hmem
   obtain ⟨j,hj,he⟩:=List.mem_take_iff_getElem.1 hmem
   have:=(List.getElem_inj hon).1 he
   omega
  refine fJ (r:=VR (.slice wa xs.length wc) 9 1<|xs.map nC) slq λhok=>?_
  obtain ⟨ab,ao,rfl⟩:∃ ab ao,wa=some ⟨ab,ao,none⟩:=by
   obtain ⟨f0,hf0⟩:=hok
   rcases VR.form hf0 with ⟨h3,h4⟩ | ⟨b,o,cp,h3,-⟩
   ·have:=List.map_eq_nil_iff.1 h4
    rw [this] at hlt; simp at hlt
   ·rw [List.length_map] at h3; cases h3; exact ⟨b,o,rfl⟩
  generalize xs[i]=n at hnx hnm htk hnew hbl
  obtain ⟨hcn,hcl⟩:(ae l n).name=n/\ae l n∈l:=by
   obtain ⟨c0,hc0⟩:=Option.isSome_iff_exists.1 hnm
   rw [iq hc0]
   exact ⟨o9 hc0,List.mem_of_find?_eq_some hc0⟩
  have hCR:=gm<|hR.form _ hcl
  have hfew:=hF.few<|.inl hcl
  obtain ⟨hsS,hsP,hsQ⟩:=hF.sums hcl
  obtain ⟨hmf,hmS⟩:=GU hF.right hF.flb hcl
  have hmok:=zD hF.flb.ok hCR hcl
  have hfl:=hCR.feats
  have hcc:=lS (n:=n) (fv:=.map<|some mb) (hl.up hE) rfl
  refine cK<|xT<|cS<|cB<|cQ<|sV (vI (k:=i) Z Z jm Z hlt Z)<|sV (vY Z ld9 (ha:=⟨_,_,slq,eQ hnx 0<|by simp⟩)) ?_
  refine sA Z<|sK [2,5,7,20,21,22] Z<|cQ<|sV (vF Z gL Z)<|sV (af Z gU Z<|bF (k:=0) ah (vs:=[.slice vAq l.length vK,.map (some mb)]) Z) ?_
  refine sM Z<|aH Z Z en56 Z (hcc) ?_
  rintro u h' ⟨rfl,cus,rfl,hcr⟩
  simp only [lC,lN]
  have hcr0:=hcr
  obtain ⟨ca,cb,ce,cf,ci,rfl,-⟩:=gp hcr
  have hco:=Enc.ones hcr0
  refine au nS λb8=>?_
  refine ai Z Z lY Z hco ?_
  refine sK [2,5,7,8,20,21,22] Z<|cQ<|sV (vF Z gL Z)<|sV (af Z gU Z<|bF (k:=0) ah (vs:=[.slice vAq l.length vK,.map (some mb)]) Z) ?_
  refine sV (af Z gG Z ah) ?_
  have hmem:=Bn (mb:=mb) (hl.up hE) hcr0 hm (hF.hf<|.inl hcl) (by omega) hCR.names (by omega) (by omega) (by omega)<|by omega
  unfold CtX at hmem
  refine aH Z Z en57 Z (hmem) ?_
  rintro u h' ⟨Y2,k2,rfl,hE2,rfl,hms⟩
  simp only [lC,lN]
  have hE2':=hE.trans hE2
  have hc58:=xM (mb:=mb) (all:=false) (hl.up hE2') (Enc.up hE2.rd hcr0) (hm.up hE2) hms hF hcl
  unfold CtX at hc58
  refine sA Z<|sK [2,5,7,8,9,20,21,22] Z<|cS<|cQ<|sV (vF Z gL Z)<|sV (af Z gU Z<|bF (k:=0) ah (vs:=[.slice vAq l.length vK,.map (some mb)]) Z) ?_
  refine sV (af Z gG Z ah) ?_
  refine sM Z<|aH Z Z en58 Z (hc58) ?_
  rintro u2 h' ⟨Y3,k3,rfl,hE3,b9,bm,bmp,da,dbb,de,df,di,rfl,rfl,hK,hk0⟩
  simp only [lC,lN]
  have hE3':=hE2'.trans hE3
  refine sK [2,5,7,8,9,20,21,22,38] Z<|cB ?_
  have hB:SkB ⟨look fs,l,ae l n,members (comes (look fs) l<|ae l n) (ae l n),false⟩:=⟨hF,hcl,hmS,hmf⟩
  have hbl':lK l (n::xs.drop (i+1)) fs=match (rf l fs n false).conflicts with
    | x::_=>(fs,x,10)
    | []=>if over (lJ l fs n) then (fs,cf0,3) else lK l (xs.drop (i+1)) (fs++[(n,flatOf l (ae l n) (lJ l fs n))]):=rfl
  have h127:=λ(yl:Nat) (Φ : List Cf->Res->Prop) (Stop:Cf->Res->Prop) (hy:Yh yl Φ Stop) (r0:Res) (h0 : Φ (rf l fs n false).conflicts r0)=>uu (mb:=mb) (bm:=bm) (b9:=b9) hy (S:=rf l fs n false) (all:=false) rfl hK hB hk0 n rfl r0 h0
  generalize (rf l fs n false).conflicts=C at hbl' h127
  rw [hbl'] at hbl
  refine xL hw0 Z en127w λyl db rec hst hpe hps hasg hbo hkn2=>?_
  refine ⟨λuz h''=>∃ h0,(uz = .tuple #[]/\∃ Y4,Ext Y3 Y4/\((C=[]/\h0=[pt yl (.loop rec),pt db (.deferred<|some []),pt b5 (cl [.slice vAq l.length vK,.map (some mb),ow,.int .i64 0,sv [],sv [],sv [],sv [],sv [],sv [],sv [],.int .i64 0] 116),pt b2 (cl [.slice none 0 0,.map none,.slice none 0 0,.int .i64 0,sv [],sv [],sv [],sv [],sv [],sv [],sv [],.int .i64 0] 116),pt b8 (cl [sv (ae l n).name,.bool (ae l n).dfd,ca,cb,ce,cf,ci] 44),VR ow 9 1 ((xs.take i).map nC),VR (.slice (some ⟨ab,ao,none⟩) xs.length wc) 9 1 (xs.map nC),Res.star (marks bs)]++[Y4,pt b9 (cl (eX (.slice vAq l.length vK) (.map<|some mb) (ae l n) da dbb de df di u (.map<|some bm) false) 206),mps mb m,mps bm bmp])∨∃ x rec2,C.head? = some x/\(rec2:Loop).state≠.busy/\rec2.pending=some .ret/\h0=[pt yl (.loop rec2),pt db (.deferred<|some []),pt b5 (cl [.slice vAq l.length vK,.map (some mb),ow,.int .i64 x.kind,sv x.cls,sv x.name,sv x.other,sv x.a.par,sv x.a.name,sv x.b.par,sv x.b.name,.int .i64 10] 116),pt b2 (cl [.slice vAq l.length vK,.map (some mb),ow,.int .i64 x.kind,sv x.cls,sv x.name,sv x.other,sv x.a.par,sv x.a.name,sv x.b.par,sv x.b.name,.int .i64 10] 116),pt b8 (cl [sv (ae l n).name,.bool (ae l n).dfd,ca,cb,ce,cf,ci] 44),VR ow 9 1 ((xs.take i).map nC),VR (.slice (some ⟨ab,ao,none⟩) xs.length wc) 9 1 (xs.map nC),Res.star (marks bs)]++[Y4,pt b9 (cl (eX (.slice vAq l.length vK) (.map<|some mb) (ae l n) da dbb de df di u (.map<|some bm) false) 206),mps mb m,mps bm bmp]))/\h''=h0++hr,Ctw.perm (Ctw.frame (g:=hr)<|Ctw.star (L:=[pt yl (.loop rec),pt db (.deferred<|some []),pt b5 (cl [.slice vAq l.length vK,.map (some mb),ow,.int .i64 0,sv [],sv [],sv [],sv [],sv [],sv [],sv [],.int .i64 0] 116),pt b2 (cl [.slice none 0 0,.map none,.slice none 0 0,.int .i64 0,sv [],sv [],sv [],sv [],sv [],sv [],sv [],.int .i64 0] 116),pt b8 (cl [sv (ae l n).name,.bool (ae l n).dfd,ca,cb,ce,cf,ci] 44),VR ow 9 1 ((xs.take i).map nC),VR (.slice (some ⟨ab,ao,none⟩) xs.length wc) 9 1 (xs.map nC),Res.star (marks bs)]) (A:=[Y3,pt b9 (cl (eX (.slice vAq l.length vK) (.map<|some mb) (ae l n) da dbb de df di u (.map<|some bm) false) 206),mps mb m,mps bm bmp])<|Ctw.vw (Ctw.perm (h127 yl (λL r=>L=C/\r=Res.star ([pt yl (.loop rec),pt db (.deferred<|some []),pt b5 (cl [.slice vAq l.length vK,.map (some mb),ow,.int .i64 0,sv [],sv [],sv [],sv [],sv [],sv [],sv [],.int .i64 0] 116),pt b2 (cl [.slice none 0 0,.map none,.slice none 0 0,.int .i64 0,sv [],sv [],sv [],sv [],sv [],sv [],sv [],.int .i64 0] 116),pt b8 (cl [sv (ae l n).name,.bool (ae l n).dfd,ca,cb,ce,cf,ci] 44),VR ow 9 1 ((xs.take i).map nC),VR (.slice (some ⟨ab,ao,none⟩) xs.length wc) 9 1 (xs.map nC),Res.star (marks bs)])) (λx r=>C.head? = some x/\∃ rec2:Loop,rec2.state≠.busy/\rec2.pending=some .ret/\r=Res.star ([pt yl (.loop rec2),pt db (.deferred<|some []),pt b5 (cl [.slice vAq l.length vK,.map (some mb),ow,.int .i64 x.kind,sv x.cls,sv x.name,sv x.other,sv x.a.par,sv x.a.name,sv x.b.par,sv x.b.name,.int .i64 10] 116),pt b2 (cl [.slice vAq l.length vK,.map (some mb),ow,.int .i64 x.kind,sv x.cls,sv x.name,sv x.other,sv x.a.par,sv x.a.name,sv x.b.par,sv x.b.name,.int .i64 10] 116),pt b8 (cl [sv (ae l n).name,.bool (ae l n).dfd,ca,cb,ce,cf,ci] 44),VR ow 9 1 ((xs.take i).map nC),VR (.slice (some ⟨ab,ao,none⟩) xs.length wc) 9 1 (xs.map nC),Res.star (marks bs)])) ?_ _ ⟨Z,Z⟩) (by (try simp only [lC,lN]); exact (by repeat (first | exact Pm.refl | refine Pm.cons slq ?_):Pm _ _).perm)) ?_) (by (try simp only [lC,lN]); exact (by repeat (first | exact Pm.refl | refine Pm.cons slq ?_):Pm _ _).perm),?_⟩
  ·rintro x rest r ⟨hCx,rfl⟩
   refine Yc.star (R:=λu L'=>u = .bool false/\∃ rec2:Loop,rec2.state≠.busy/\rec2.pending=some .ret/\L'=[pt yl (.loop rec2),pt db (.deferred<|some []),pt b5 (cl [.slice vAq l.length vK,.map (some mb),ow,.int .i64 x.kind,sv x.cls,sv x.name,sv x.other,sv x.a.par,sv x.a.name,sv x.b.par,sv x.b.name,.int .i64 10] 116),pt b2 (cl [.slice vAq l.length vK,.map (some mb),ow,.int .i64 x.kind,sv x.cls,sv x.name,sv x.other,sv x.a.par,sv x.a.name,sv x.b.par,sv x.b.name,.int .i64 10] 116),pt b8 (cl [sv (ae l n).name,.bool (ae l n).dfd,ca,cb,ce,cf,ci] 44),VR ow 9 1 ((xs.take i).map nC),VR (.slice (some ⟨ab,ao,none⟩) xs.length wc) 9 1 (xs.map nC),Res.star (marks bs)]) (qF (n:=65) (rec:=rec) (args:=[cfV x]) (hf:=[pt db (.deferred<|some []),pt b5 (cl [.slice vAq l.length vK,.map (some mb),ow,.int .i64 0,sv [],sv [],sv [],sv [],sv [],sv [],sv [],.int .i64 0] 116),pt b2 (cl [.slice none 0 0,.map none,.slice none 0 0,.int .i64 0,sv [],sv [],sv [],sv [],sv [],sv [],sv [],.int .i64 0] 116),pt b8 (cl [sv (ae l n).name,.bool (ae l n).dfd,ca,cb,ce,cf,ci] 44),VR ow 9 1 ((xs.take i).map nC),VR (.slice (some ⟨ab,ao,none⟩) xs.length wc) 9 1 (xs.map nC),Res.star (marks bs)]) (by rw [hps]; rfl) hkn2 (by rw [hps]; decide) ?_)<|λu L' ⟨h1,rec2,h3,h4,h2⟩=>.inr ⟨h1,_,⟨by rw [<- hCx]; rfl,rec2,h3,h4,Z⟩,by rw [h2]⟩
   intro hr2 w1
   rw [hasg,hps,hbo]
   simp only [lC,lN]
   unfold cfV cfC
   refine cR (au D9 λb10=>?_)
   refine ai Z Z wZ Z Z ?_
   refine sN<|nK [2,5,10] Z<|ax<|lu Z slq (by first | rfl | assumption) ?_
   refine cB<|cQ<|sV (af Z tF Z ah) ?_
   refine sV (vF Z JR Z)<|ik Z Z wZ Z (λu hu=>List.all_eq_true.1 (show ([.int .i64 x.kind,sv x.cls,sv x.name,sv x.other,sv x.a.par,sv x.a.name,sv x.b.par,sv x.b.name]:List Value).all Value.oneCell'=true from Z) u hu) (show Sel _ (pt b5<|cl [.slice vAq l.length vK,.map (some mb),ow,.int .i64 0,sv [],sv [],sv [],sv [],sv [],sv [],sv [],.int .i64 0] 116) _ from slq) (by simp) ?_
   rw [show splice [.slice vAq l.length vK,.map (some mb),ow,.int .i64 0,sv [],sv [],sv [],sv [],sv [],sv [],sv [],.int .i64 0] (0+3) [.int .i64 x.kind,sv x.cls,sv x.name,sv x.other,sv x.a.par,sv x.a.name,sv x.b.par,sv x.b.name]=[.slice vAq l.length vK,.map (some mb),ow,.int .i64 x.kind,sv x.cls,sv x.name,sv x.other,sv x.a.par,sv x.a.name,sv x.b.par,sv x.b.name,.int .i64 0] from rfl]
   refine sV (vF Z vB Z)<|bf Z Z DV ?_
   refine sK [2,5] Z<|cQ<|sV (af Z lG Z ah) ?_
   have h12:([.slice vAq l.length vK,.map (some mb),ow,.int .i64 x.kind,sv x.cls,sv x.name,sv x.other,sv x.a.par,sv x.a.name,sv x.b.par,sv x.b.name,.int .i64 10]:List Value).all Value.oneCell'=true:=by simp only [List.all_cons,List.all_nil,how,Bool.and_true,Bool.true_and]; rfl
   refine ai Z Z ja Z h12 ?_
   refine sK [2] Z<|cT<|xW<|kL slq ⟨Z,?rr,?_,?_,Z⟩ ?_
   rotate_left 3
   ·exact sbq
   ·simp
   ·rfl
  ·rintro u9 h' ⟨Y4,k',rfl,hE4,rfl,r,rfl,hor⟩
   rcases hor with ⟨hC0,hr9⟩ | ⟨x,hx,rec2,hb2,hp2,hr9⟩
   ·subst hr9
    exact ⟨[pt yl (.loop rec),pt db (.deferred<|some []),pt b5 (cl [.slice vAq l.length vK,.map (some mb),ow,.int .i64 0,sv [],sv [],sv [],sv [],sv [],sv [],sv [],.int .i64 0] 116),pt b2 (cl [.slice none 0 0,.map none,.slice none 0 0,.int .i64 0,sv [],sv [],sv [],sv [],sv [],sv [],sv [],.int .i64 0] 116),pt b8 (cl [sv (ae l n).name,.bool (ae l n).dfd,ca,cb,ce,cf,ci] 44),VR ow 9 1 ((xs.take i).map nC),VR (.slice (some ⟨ab,ao,none⟩) xs.length wc) 9 1 (xs.map nC),Res.star (marks bs)]++[Y4,pt b9 (cl (eX (.slice vAq l.length vK) (.map<|some mb) (ae l n) da dbb de df di u (.map<|some bm) false) 206),mps mb m,mps bm bmp],λt=>xN (L:=[pt yl (.loop rec),pt db (.deferred<|some []),pt b5 (cl [.slice vAq l.length vK,.map (some mb),ow,.int .i64 0,sv [],sv [],sv [],sv [],sv [],sv [],sv [],.int .i64 0] 116),pt b2 (cl [.slice none 0 0,.map none,.slice none 0 0,.int .i64 0,sv [],sv [],sv [],sv [],sv [],sv [],sv [],.int .i64 0] 116),pt b8 (cl [sv (ae l n).name,.bool (ae l n).dfd,ca,cb,ce,cf,ci] 44),VR ow 9 1 ((xs.take i).map nC),VR (.slice (some ⟨ab,ao,none⟩) xs.length wc) 9 1 (xs.map nC),Res.star (marks bs)]) (A:=[Y4,pt b9 (cl (eX (.slice vAq l.length vK) (.map<|some mb) (ae l n) da dbb de df di u (.map<|some bm) false) 206),mps mb m,mps bm bmp]),Z,Y4,hE4,.inl ⟨hC0.symm,Z⟩⟩
   ·subst hr9
    exact ⟨[pt yl (.loop rec2),pt db (.deferred<|some []),pt b5 (cl [.slice vAq l.length vK,.map (some mb),ow,.int .i64 x.kind,sv x.cls,sv x.name,sv x.other,sv x.a.par,sv x.a.name,sv x.b.par,sv x.b.name,.int .i64 10] 116),pt b2 (cl [.slice vAq l.length vK,.map (some mb),ow,.int .i64 x.kind,sv x.cls,sv x.name,sv x.other,sv x.a.par,sv x.a.name,sv x.b.par,sv x.b.name,.int .i64 10] 116),pt b8 (cl [sv (ae l n).name,.bool (ae l n).dfd,ca,cb,ce,cf,ci] 44),VR ow 9 1 ((xs.take i).map nC),VR (.slice (some ⟨ab,ao,none⟩) xs.length wc) 9 1 (xs.map nC),Res.star (marks bs)]++[Y4,pt b9 (cl (eX (.slice vAq l.length vK) (.map<|some mb) (ae l n) da dbb de df di u (.map<|some bm) false) 206),mps mb m,mps bm bmp],λt=>xN (L:=[pt yl (.loop rec2),pt db (.deferred<|some []),pt b5 (cl [.slice vAq l.length vK,.map (some mb),ow,.int .i64 x.kind,sv x.cls,sv x.name,sv x.other,sv x.a.par,sv x.a.name,sv x.b.par,sv x.b.name,.int .i64 10] 116),pt b2 (cl [.slice vAq l.length vK,.map (some mb),ow,.int .i64 x.kind,sv x.cls,sv x.name,sv x.other,sv x.a.par,sv x.a.name,sv x.b.par,sv x.b.name,.int .i64 10] 116),pt b8 (cl [sv (ae l n).name,.bool (ae l n).dfd,ca,cb,ce,cf,ci] 44),VR ow 9 1 ((xs.take i).map nC),VR (.slice (some ⟨ab,ao,none⟩) xs.length wc) 9 1 (xs.map nC),Res.star (marks bs)]) (A:=[Y4,pt b9 (cl (eX (.slice vAq l.length vK) (.map<|some mb) (ae l n) da dbb de df di u (.map<|some bm) false) 206),mps mb m,mps bm bmp]),Z,Y4,hE4,.inr ⟨x,rec2,hx,hb2,hp2,Z⟩⟩
  ·rintro u9 h'' ⟨h0, ⟨rfl, Y4, hE4, (⟨rfl, rfl⟩ | ⟨x, rec2, hx, hb2, hp2, rfl⟩)⟩, rfl⟩
   ·simp only [lC,lN]
    refine ⟨rec,_,slq,(by rw [hst]; simp),?_⟩
    rw [hpe]
    dsimp only
    refine xB<|xT<|cS<|cQ<|sM Z ?_
    have hE4':=hE3'.trans hE4
    have hE24:=hE2.trans<|hE3.trans hE4
    have hms4:=hms.up<|hE3.trans hE4
    have hov:=Kl hms4
    dsimp only at hbl
    refine aY Z Z en59 Z (hov) ?_
    refine sK [2,5,7,8,9,20,21,22,45] Z<|cC Z (λhto=>?_)<|λhto=>?_
    ·rw [if_pos (show over (lJ l fs n)=true from hto)] at hbl
     refine cQ<|sV (vF Z vB Z)<|bf Z Z DV ?_
     refine sK [2,5,7,8,9,20,21,22] Z<|cQ<|sV (af Z lG Z ah) ?_
     have h12:([.slice vAq l.length vK,.map (some mb),ow,.int .i64 0,sv [],sv [],sv [],sv [],sv [],sv [],sv [],.int .i64 3]:List Value).all Value.oneCell'=true:=by simp only [List.all_cons,List.all_nil,how,Bool.and_true,Bool.true_and]; rfl
     refine ai Z Z ja Z h12 ?_
     refine sK [2] Z<|cT<|xR<|xW<|xR<|xR<|xW<|xR<|jl slq slq ?_
     rw [hbl]
     refine kr (bs:=db::bs) (k:=pt b2 (cl [.slice vAq l.length vK,.map (some mb),ow,.int .i64 0,sv [],sv [],sv [],sv [],sv [],sv [],sv [],.int .i64 3] 116)::([Y4,mps mb m,VR ow 9 1 ((xs.take i).map nC)]++hr)) Z (.cellN Z lG Z .here .nil) ⟨Y4,_,Z,hE4',mb,m,ow,xs.take i,Z,Z,(hm.up hE24),hfs.symm,how⟩ (Sub.cons<|Sub.refl _) ?_
     simp only [lC,lN]
     exact sbq
    ·have hto2:over (lJ l fs n)=false:=hto
     have hto':¬ over (lJ l fs n)=true:=by rw [hto2]; simp
     rw [if_neg hto'] at hbl
     have hsh:(lJ l fs n).length≤60:=by
      refine Nat.le_of_not_lt λh=>hto' ?_
      show over (lJ l fs n)=true
      unfold over
      rw [decide_eq_true h,Bool.true_or]
     have hrn:dJ (bn l) [(ae l n).name]=0:=d9.2 ⟨hR.sys,by
      intro k hk
      rw [List.mem_singleton] at hk
      subst hk
      rw [hcn]
      rw [dD]; exact hnm⟩
     have hab:=oh hR (by rw [hcn]; exact hnm:(bJ l (ae l n).name).isSome=true)
     have hfc:=Kw (fv:=.map<|some mb) (hl.up hE4') (Enc.up (hE24).rd hcr0) hms4 rfl hrn<|by omega
     refine cK<|xT<|cQ<|sV (vF Z D5 Z)<|sV (vY Z fI) ?_
     refine sM Z (ak (cells:=[sv n]) Z underlying40 fH Z Z Zz (ltn Z) λb50=>?_)
     have hil:((xs.take i).map nC).length≤24:=by rw [List.length_map,List.length_take]; exact Nat.le_trans (Nat.min_le_right _ _) hol
     refine dZ [[sv n]] Z Z underlying40 fH Z (by decide) (show Sel _ (VR ow 9 1<|(xs.take i).map nC) _ from slq) (by simp) Z (λj u2 hu2=>bT<|bV Zt) (by simp [sv,Value.oneCell']) (by omega) (by omega) (ltn Z) λw2 hw2 _=>?_
     refine sV (vF Z D5 Z)<|bf Z Z yU ?_
     refine sK [2,5,7,8,9,20,21,22] Z<|jk (ork [(0,2),(1,2),(2,1),(3,2),(4,2),(5,1),(6,1),(7,2),(8,0),(9,0)] .nil) (λi => !(Nat.beq i 9)) [pt b5 (cl [.slice vAq l.length vK,.map (some mb),w2,.int .i64 0,sv [],sv [],sv [],sv [],sv [],sv [],sv [],.int .i64 0] 116),pt b8 (cl [sv (ae l n).name,.bool (ae l n).dfd,ca,cb,ce,cf,ci] 44)] mixed Zz ?_
     refine dV Z (vF Z gL Z)<|dV Z (vF Z iJ Z)<|bu Z (vY Z p9) ?_
     refine dV Z (vM Z)<|dV Z (vF Z gL Z)<|bu Z (af Z gU Z<|bF (k:=0) ah (vs:=[.slice vAq l.length vK,.map (some mb)]) Z) ?_
     refine bu Z (af Z gG Z ah) ?_
     refine dV Z (vM Z)<|aV Z<|aH Z Z en60 Z (hfc) ?_
     rintro u9 h' ⟨Y5,k5,rfl,hE5,rfl,fus,rfl,hfr⟩
     simp only [lC,lN]
     refine aW ?_
     refine aV Z<|cz Z Z Z pY slq<|aW ?_
     refine bA<|nK [2,5,20,21,22] Z<|ax<|xB<|xT<|cR<|sV (aI Z Z Za)<|sM Z<|sN<|nK [2,5,20,21,22] Z<|ax<|jl slq slq ?_
     refine kY (Y5,eu m n (.agg fus.toArray),w2,i+1,fs++[(n,flatOf l (ae l n) (lJ l fs n))],db::bs) ⟨hE4'.trans hE5,hlt,hw2,(hm.up<|hE24.trans hE5).put hnew hfr,⟨hF.right,hF.flb.put hnew hsh hmok,hF.lists⟩,by rw [List.map_append,hfs,htk]; rfl,hbl⟩ (by show xs.length - (i+1)<xs.length - i; omega) Z ⟨Z,Z,Z,Z,Z,trivial⟩ ?_
     dsimp only
     rw [htk,List.map_append]
     exact sbq
   ·simp only [lC,lN]
    refine ⟨rec2,_,slq,hb2,?_⟩
    rw [hp2]
    dsimp only
    refine cT<|xW<|xR<|xW<|xR<|xR<|xW<|xR<|jl slq slq ?_
    obtain ⟨rest,rfl⟩:∃ rest,C=x::rest:=by
     cases C with
     | nil=>cases hx
     | cons y t=>cases hx; exact ⟨t,rfl⟩
    dsimp only at hbl
    rw [hbl]
    refine kr (bs:=db::bs) (k:=pt b2 (cl [.slice vAq l.length vK,.map (some mb),ow,.int .i64 x.kind,sv x.cls,sv x.name,sv x.other,sv x.a.par,sv x.a.name,sv x.b.par,sv x.b.name,.int .i64 10] 116)::([Y4,mps mb m,VR ow 9 1 ((xs.take i).map nC)]++hr)) Z (.cellN Z lG Z .here .nil) ⟨Y4,_,Z,hE3'.trans hE4,mb,m,ow,xs.take i,Z,Z,(hm.up<|hE2.trans<|hE3.trans hE4),hfs.symm,how⟩ (Sub.cons<|Sub.refl _) ?_
    simp only [lC,lN]
    exact sbq
 ·have hie:i=xs.length:=Nat.le_antisymm hi<|Nat.not_lt.1 Zx
  subst hie
  rw [List.drop_length] at hbl
  rw [List.take_length] at hfs
  have hbl2:lK l xs []=(fs,cf0,0):=hbl
  refine aB<|xE<|xE<|xY<|xT<|cQ<|sV (af Z lG Z ah) ?_
  have h12:([.slice vAq l.length vK,.map (some mb),ow,.int .i64 0,sv [],sv [],sv [],sv [],sv [],sv [],sv [],.int .i64 0]:List Value).all Value.oneCell'=true:=by simp only [List.all_cons,List.all_nil,how,Bool.and_true,Bool.true_and]; rfl
  refine ai Z Z ja Z h12 ?_
  refine sK [2] Z<|cT ?_
  rw [hbl2]
  rw [List.take_length]
  refine kr (bs:=bs) (k:=pt b2 (cl [.slice vAq l.length vK,.map (some mb),ow,.int .i64 0,sv [],sv [],sv [],sv [],sv [],sv [],sv [],.int .i64 0] 116)::([Y,mps mb m,VR ow 9 1 (xs.map nC)]++hr)) Z (.cellN Z lG Z .here .nil) ⟨Y,_,Z,hE,mb,m,ow,xs,Z,Z,hm,hfs.symm,how⟩ (Sub.cons<|Sub.refl _) ?_
  simp only [lC,lN]
  exact sbq
end
theorem Ls.take {α : Type} [Enc α] {X:Res} {a:Option Addr} {n cp k:Nat} {xs:List α} (h:Ls X (.slice a n cp) xs) (hk:k≤xs.length):Ls X (.slice a k cp) (xs.take k):=
 ⟨Row.take h.1 hk,Nat.le_trans (Nat.mul_le_mul_right _ (by rw [List.length_take]; exact Nat.min_le_right _ _)) h.2⟩
theorem Dq {xs:List Int} {i:Nat} (h:i<xs.length) (h0:∀ j (hj:j<xs.length),j<i->xs[j]=0) (hn:xs[i]≠0):mZ xs=xs[i]:=by
 unfold mZ
 rw [show xs.find? (· != 0)=some xs[i] from List.find?_eq_some_iff_getElem.2 ⟨Zk,i,h,rfl,λj hj=>by
  rw [h0 j (by omega) hj]; rfl⟩]
 rfl
theorem yP {xs:List Int} (h0:∀ j (hj:j<xs.length),xs[j]=0):mZ xs=0:=by
 unfold mZ
 rw [show xs.find? (· != 0)=none from List.find?_eq_none.2 λx hx=>by
  obtain ⟨j,hj,rfl⟩:=List.getElem_of_mem hx
  rw [h0 j hj]; decide]
 rfl
theorem Ov {α : Type} (xs:List α) (p : α -> Bool):(xs.find? p).isSome=xs.any p:=by
 rw [Bool.eq_iff_iff,List.find?_isSome,List.any_eq_true]
def oneK (f:Fe):Bool:=((decide (f.kind<1) || decide (3<f.kind)) || (decide (f.kind=1) && (decide ((0:Int)<(f.args.length:Nat)) || decide (f.ty.kind=0))))
theorem oneE_eq (fs:List Fe) (f:Fe) (i:Nat):xw fs (f,i)=if small f.name=false then 4 else if (fs.take i).any (λg=>g.name == f.name)=true then 6 else if oneK f=true then 2 else 0:=by
 unfold xw oneK
 congr 2
 have hl:(0:Int)<(f.args.length:Nat)↔f.args≠[]:=by
  cases f.args <;> simp
 simp only [Bool.or_eq_true,Bool.and_eq_true,decide_eq_true_eq,hl,or_assoc]
section
variable {X:Res}
theorem Hf (hX:Spc X) {uc:List Value} {c:FC} (hc:Enc.rep X uc c):Ctw prog 145 #[.agg uc.toArray] [X] λu h'=>u = .int .i64 (AB c)/\h'=[X]:=by
 have hml:maxLen=9223372036854775807:=rfl
 have hone0:=Enc.ones hc
 obtain ⟨ca,cb,ce,cf,ci,rfl,-,-,-,hcf,-⟩:=gp hc
 obtain ⟨fA,fK,rfl,hlc,hcm,_⟩:=id hcf.form
 unfold AB
 have hml2:(c.feats.zipIdx.map<|xw c.feats).length=c.feats.length:=by simp
 have hat:∀ j (hj:j<(c.feats.zipIdx.map<|xw c.feats).length),(c.feats.zipIdx.map<|xw c.feats)[j]=xw c.feats (c.feats[j]'(by rw [<- hml2]; exact hj),j):=λj hj=>by simp
 refine eG (n:=63) func145 Z Z (len Z) λhr w0 hw0=>?_
 refine cQ (aP Z Z λb1=>?_)
 refine sA Z<|sK [1,2] Z<|cS<|cQ<|sV (vF Z kv Z)<|sV (vY Z yX) ?_
 refine sV (aF Z underlying41)<|sV (cu Z Z)<|sK [1,2,10] Z<|cC Z (λhd=>?_)<|λhd=>?_
 ·rw [if_pos (show 60<c.feats.length by have h:(60:Int)<c.feats.length:=(by simpa using hd); omega)]
  refine cQ<|sA Z<|sK [2] Z<|cT<|xR ?_
  exact aj Z ⟨Z,Z⟩ sbq
 ·rw [if_neg (show ¬ 60<c.feats.length by have h:(c.feats.length:Int)≤60:=(by simpa using hd); omega)]
  refine cK<|xT<|cS<|cQ<|sV (vF Z kv Z)<|sV (vY Z yX) ?_
  refine sV (aF Z underlying41)<|sM Z<|sK [1,2,12,13,14] Z<|cB<|aX (σ := Nat) (λi=>[(1,.pointer (some ⟨b1,0,none⟩)),(12,.slice fA c.feats.length fK),(13,.int .i64 c.feats.length),(14,.int .i64 (i:Nat))]) (λi=>pt b1 (cl [sv c.name,.bool c.dfd,ca,cb,ce,.slice fA c.feats.length fK,ci] 44)::X::hr) (λi=>i≤c.feats.length/\∀ j (hj:j<c.feats.length),j<i->xw c.feats (c.feats[j],j)=0) (λi=>c.feats.length - i) 0 ⟨Nat.zero_le _,λj _ hj=>absurd hj<|Nat.not_lt_zero _⟩ ?_
  rintro i ⟨hi,hal⟩
  refine cQ<|sV (aN Z Z)<|sN<|nT<|cS<|cC Z (λhd=>?_)<|λhd=>?_
  ·have hlt:i<c.feats.length:=Zx
   obtain ⟨b,o,cap2,us,e1,hus,hrd,hre⟩:=hcf.at<|Zy hlt
   cases e1
   have hone:=Enc.ones hre
   have hbad:xw c.feats (c.feats[i],i)≠0->mZ (c.feats.zipIdx.map<|xw c.feats)=xw c.feats (c.feats[i],i):=λhne=>by
    rw [Dq (i:=i) (by rw [hml2]; exact hlt) (λj hj hji=>by rw [hat j hj]; exact hal j (by rw [<- hml2]; exact hj) hji) (by rw [hat]; exact hne),hat]
   have hoe:=oneE_eq c.feats c.feats[i] i
   have hcft:=Ls.take hcf hi
   have hfi:=iT (n:=c.feats[i].name) hcft
   rw [Ov] at hfi
   have hsm:=Ha hX c.feats[i].name
   generalize hfg:c.feats[i]=f at hre hone hbad hoe hfi hsm
   obtain ⟨x2,x3,y,x9,x10,x11,x12,x13,x14,rfl,-,hx3,-⟩:=nk hre
   unfold Bf at hus hrd hone
   obtain ⟨gA,gK,rfl,_⟩:=id hx3.form
   refine cK<|xT<|cS<|cB<|cQ<|sM Z<|sV (vI (k:=i) Z Z sl41 Z hlt Z)<|sV (af Z nR Z hrd) ?_
   refine au lH λb4=>?_
   refine sA Z<|ai Z Z jQ Z hone ?_
   refine sK [1,3,4,12,13,14] Z<|cS<|mM (ex:=.normal) (α := Unit) (λq=>[(1,.pointer (some ⟨b1,0,none⟩)),(4,.pointer (some ⟨b4,0,none⟩)),(6,.bool ((c.feats.take i).any λg=>g.name == f.name)),(12,.slice (some ⟨b,o,none⟩) c.feats.length fK),(13,.int .i64 c.feats.length),(14,.int .i64 (i:Nat))]) (λq=>pt b4 (cl [.int .i64 f.kind,sv f.name,x2,.slice gA f.args.length gK,.int .i64 f.ty.kind,sv f.ty.name,y,.bool f.ty.void,.bool f.ty.sep,x9,x10,x11,x12,x13,x14] 130)::pt b1 (cl [sv c.name,.bool c.dfd,ca,cb,ce,.slice (some ⟨b,o,none⟩) c.feats.length fK,ci] 44)::X::hr) (λhcont=>?_)<|λq=>?_
   ·refine jk (ork [(0,2),(1,1),(2,2),(3,1),(4,2),(5,1)]<|.two 6 (ork [(7,2),(8,2),(9,2),(10,0),(11,0),(12,2)] .nil) 10<|ork [(6,0),(7,2),(8,2),(9,2),(11,0),(12,2)] .nil) (λi => !(Nat.beq i 6 || Nat.beq i 11)) [pt b1 (cl [sv c.name,.bool c.dfd,ca,cb,ce,.slice (some ⟨b,o,none⟩) c.feats.length fK,ci] 44),pt b4 (cl [.int .i64 f.kind,sv f.name,x2,.slice gA f.args.length gK,.int .i64 f.ty.kind,sv f.ty.name,y,.bool f.ty.void,.bool f.ty.sep,x9,x10,x11,x12,x13,x14] 130)] mixed Zz ?_
    refine dV Z (vF Z kv Z)<|bu Z (vY Z yX) ?_
    refine dV Z (vM Z)<|bu Z (vW Z Z sl41 Z<|Nat.le_trans hi hlc)<|dV Z (vF Z oU Z)<|bu Z (vY Z ld9) ?_
    refine mR Z Z ?_ ?_
    ·refine aH Z Z yE Z (hfi) ?_
     rintro u h' ⟨rfl,gus,rfl,hgr⟩
     simp only [lC,lN]
     refine aW ?_
     have hgo:=Enc.ones hgr
     obtain ⟨z2,z3,zy,z9,z10,z11,z12,z13,z14,rfl,-⟩:=nk hgr
     unfold Bf at hgo ⊢
     refine dV Z (vM Z)<|dV Z (ag Z Z)<|dV Z (ag Z Z)<|aV Z (au lH λb5=>aW ?_)
     refine aV Z<|ai Z Z jQ Z hgo<|aW ?_
     refine dV Z (vA Z)<|bA<|nK [1,4,6,12,13,14] Z<|ax ?_
     exact hcont () _ _ ⟨Z,Z,Z,Z,Z,Z,trivial⟩ sbq
    ·refine au lH λb5=>aW ?_
     refine aV Z<|aH Z Z yE Z (hfi) ?_
     rintro u h' ⟨rfl,gus,rfl,hgr⟩
     simp only [lC,lN]
     refine aW ?_
     have hgo:=Enc.ones hgr
     obtain ⟨z2,z3,zy,z9,z10,z11,z12,z13,z14,rfl,-⟩:=nk hgr
     unfold Bf at hgo ⊢
     refine dV Z (vM Z)<|dV Z (ag Z Z)<|dV Z (ag Z Z)<|aV Z<|ai Z Z jQ Z hgo<|aW ?_
     refine dV Z (vA Z)<|bA<|nK [1,4,6,12,13,14] Z<|ax ?_
     exact hcont () _ _ ⟨Z,Z,Z,Z,Z,Z,trivial⟩ sbq
   refine xT<|cB<|cQ<|sV (vF Z oU Z)<|sV (vY Z ld9) ?_
   refine bM hw0 Z Z en147 Z (hsm) ?_
   rintro u h' ⟨rfl,rfl⟩
   simp only [lC,lN]
   refine sV (bg Z)<|sA Z<|sK [1,4,6,12,13,14,29] Z<|cC Z (λhs=>?_)<|λhs=>?_
   ·have hs:small f.name=false:=by simpa using hs
    rw [hs,if_pos rfl] at hoe
    rw [hbad (by rw [hoe]; decide),hoe]
    refine cQ<|sA Z<|sK [2] Z<|cT<|xW<|xW<|xR<|xR<|xW<|xR ?_
    exact aj Z ⟨Z,Z⟩ sbq
   ·have hs:small f.name=true:=by simpa using hs
    rw [hs,if_neg (by decide)] at hoe
    refine cQ<|sM Z<|sA Z<|sK [1,4,12,13,14,34] Z<|cC Z (λhv=>?_)<|λhv=>?_
    ·rw [if_pos (show _=true from hv)] at hoe
     rw [hbad (by rw [hoe]; decide),hoe]
     refine cQ<|sA Z<|sK [2] Z<|cT<|xW<|xW<|xR<|xR<|xW<|xR ?_
     exact aj Z ⟨Z,Z⟩ sbq
    ·have hv:(c.feats.take i).any (λg=>g.name == f.name)=false:=hv
     rw [hv,if_neg (by decide)] at hoe
     refine cQ<|sV (vF Z vC Z)<|sV (vY Z ld3) ?_
     refine sV (aN Z Z)<|sM Z<|bC (k:=8) (d:=44) (v:=.bool (decide (f.kind<1) || decide (3<f.kind))) (λhcut=>aM (b:=(decide (f.kind<1))) false (λhg=>?_)<|λhg=>?_) ?_
     ·refine aC Z Z hg ?_
      iterate 2 refine aC rfl rfl hg ?_
      refine sV (vQ (bO Z hg) Z) ?_
      exact hcut _ uG
     ·refine sG Z (bG Z hg) (vF Z vC Z)<|sG Z (bG Z hg) (vY Z ld3) ?_
      refine sG Z (bG Z hg) (cu Z Z)<|sV (vP (bO Z hg) Z) ?_
      exact hcut _ uG
     refine sM Z<|bC (k:=25) (d:=61) (v:=.bool ((decide (f.kind<1) || decide (3<f.kind)) || (decide (f.kind=1) && (decide ((0:Int)<(f.args.length:Nat)) || decide (f.ty.kind=0))))) (λhcut=>aM (b:=(decide (f.kind<1) || decide (3<f.kind))) false (λhg=>?_)<|λhg=>?_) ?_
     ·refine aC Z Z hg ?_
      iterate 3 refine aC rfl rfl hg ?_
      refine bS Z Z ?_
      refine bS Z Z ?_
      refine bS Z Z ?_
      refine bS Z Z ?_
      refine bS Z Z ?_
      refine bS Z Z ?_
      refine bS Z Z ?_
      refine bS Z Z ?_
      refine bS Z Z ?_
      refine bS Z Z ?_
      refine aC Z Z hg ?_
      refine sV (vQ (bO Z hg) Z) ?_
      exact hcut _ uG
     ·refine sG Z (bG Z hg) (vF Z vC Z)<|sG Z (bG Z hg) (vY Z ld3) ?_
      refine sG Z (bG Z hg) (dP Z Z)<|sG Z (bG Z hg) (vM Z)<|bC (k:=24) (d:=60) (v:=.bool (decide (f.kind=1) && (decide ((0:Int)<(f.args.length:Nat)) || decide (f.ty.kind=0)))) (λhcut=>aM (b:=(decide (f.kind=1))) true (λhg1=>?_)<|λhg1=>?_) ?_
      ·refine aC Z Z hg1 ?_
       iterate 4 refine aC rfl rfl hg1 ?_
       refine bS Z Z ?_
       refine bS Z Z ?_
       refine bS Z Z ?_
       refine bS Z Z ?_
       refine aC Z Z hg1 ?_
       refine sG Z (bG Z hg) (vP (bO Z hg1) Z) ?_
       exact hcut _<|uH (by first | rfl | (rw [hg1]; rfl) | simp_all)<|uS Z<|uS Z<|uS Z<|uS Z<|uS Z<|uS Z<|uS Z<|uS Z<|uS Z<|uS Z<|uR
      ·refine sG Z (bG Z hg1) (vF Z rQ Z)<|sG Z (bG Z hg1) (vY Z qJ) ?_
       refine sG Z (bG Z hg1) (aF Z underlying70)<|sG Z (bG Z hg1) (cu Z Z)<|sG Z (bG Z hg1) (vM Z)<|bC (k:=23) (d:=59) (v:=.bool (decide ((0:Int)<(f.args.length:Nat)) || decide (f.ty.kind=0))) (λhcut=>aM (b:=(decide ((0:Int)<(f.args.length:Nat)))) false (λhg2=>?_)<|λhg2=>?_) ?_
       ·refine aC Z Z hg2 ?_
        iterate 3 refine aC rfl rfl hg2 ?_
        refine sG Z (bG Z hg1) (vQ (bO Z hg2) Z) ?_
        exact hcut _<|uH (by first | rfl | (rw [hg2]; rfl) | simp_all)<|uS Z<|uS Z<|uS Z<|uS Z<|uR
       ·refine sG Z (bG Z hg2) (vF Z zg Z)<|sG Z (bG Z hg2) (vF Z qP Z)<|sG Z (bG Z hg2) (vY Z ld3) ?_
        refine sG Z (bG Z hg2) (dP Z Z)<|sG Z (bG Z hg1) (vP (bO Z hg2) Z) ?_
        exact hcut _<|uH (by first | rfl | (rw [hg2]; rfl) | simp_all)<|uS Z<|uS Z<|uS Z<|uS Z<|uR
       refine sG Z (bG Z hg) (vQ (bO Z hg1) Z) ?_
       exact hcut _<|uH (by first | rfl | (rw [hg1]; rfl) | simp_all) (by repeat (first | exact uR | refine uS Z ?_))
      refine sV (vP (bO Z hg) Z) ?_
      exact hcut _<|uH (by first | rfl | (rw [hg]; rfl) | simp_all) (by repeat (first | exact uR | refine uS Z ?_))
     refine sA Z<|sK [1,12,13,14,36] Z<|cC Z (λhk=>?_)<|λhk=>?_
     ·rw [if_pos (show oneK f=true from hk)] at hoe
      rw [hbad (by rw [hoe]; decide),hoe]
      refine cQ<|sA Z<|sK [2] Z<|cT<|xW<|xW<|xR<|xR<|xW<|xR ?_
      exact aj Z ⟨Z,Z⟩ sbq
     ·have hk:oneK f=false:=hk
      rw [hk,if_neg (by decide)] at hoe
      refine cK<|xB<|xB<|xT<|cR<|sV (aI Z Z Za)<|sM Z<|sN<|nK [1,12,13,14] Z<|ax ?_
      refine aJ (i+1) ⟨hlt,λj hj hji=>by
       by_cases h:j=i
       ·subst h; rw [hfg]; exact hoe
       ·exact hal j hj (by omega)⟩ (by show c.feats.length - (i+1)<c.feats.length - i; omega)
  ·have hie:i=c.feats.length:=Nat.le_antisymm hi<|Nat.not_lt.1 Zx
   subst hie
   rw [yP λj hj=>by rw [hat j hj]; exact hal j (by rw [<- hml2]; exact hj) (by rw [<- hml2]; exact hj)]
   refine aB<|xE<|xE<|xY<|xT<|cQ<|sA Z<|sK [2] Z<|cT ?_
   exact aj Z ⟨Z,Z⟩ sbq
end
section
variable {X:Res} {v:Value}
theorem Ji {xs:List Pn} {kf:FuncId} {cp:Array Value} {g:Pn->Bool} (hv:Ls X v xs) (hE:Ck.Enters prog kf) (hf:∀ a∈xs,∀ us,Enc.rep X us a->Ctw prog kf (#[]++([.agg us.toArray]:List Value).toArray++cp) [X] λu h'=>u = .bool (g a)/\h'=[X]):Ctw prog 153 #[v,.func (.func kf) #[] cp] [X] λu h'=>u = .int .i64 (ixI (xs.findIdx? g))/\h'=[X]:=by
 have hml:maxLen=9223372036854775807:=rfl
 obtain ⟨a,cap,rfl,hlc,hcm,_⟩:=id hv.form
 refine eG (n:=19) func153 Z Z (len Z) λhr w0 hw0=>?_
 refine cQ<|sA Z<|sN<|nT<|cS<|cQ<|sM Z<|sV (aF Z underlying86)<|sM Z<|sK [0,1,4,7,8] Z<|cB<|aX (σ := Nat) (λi=>[(0,.slice a xs.length cap),(1,.func (.func kf) #[] cp),(7,.int .i64 xs.length),(8,.int .i64 (i:Nat))]) (λ_=>X::hr) (λi=>i≤xs.length/\∀ j (hj:j<xs.length),j<i->g xs[j]=false) (λi=>xs.length - i) 0 ⟨Nat.zero_le _,λj _ hj=>absurd hj<|Nat.not_lt_zero _⟩ ?_
 rintro i ⟨hi,hal⟩
 refine cQ<|sV (aN Z Z)<|sN<|nT<|cS<|cC Z (λhd=>?_)<|λhd=>?_
 ·have hlt:i<xs.length:=Zx
  obtain ⟨b,o,cap2,us,e1,hus,hrd,hre⟩:=hv.at<|Zy hlt
  cases e1
  have hfx:=hf xs[i] (List.getElem_mem hlt) us hre
  refine cK<|xT<|cS<|cB<|cQ<|sM Z<|sA Z<|sK [0,1,5,7,8] Z<|cQ<|sM Z<|sM Z<|sM Z ?_
  refine sV (vI (k:=i) Z Z sl86 Z hlt Z)<|sV (af Z qL hus hrd) ?_
  refine bM hw0 Z Z hE Z (hfx) ?_
  rintro u h' ⟨rfl,rfl⟩
  simp only [lC,lN]
  refine sK [0,1,5,7,8,16] Z<|cC Z (λhe=>?_)<|λhe=>?_
  ·have he:g xs[i]=true:=he
   rw [show xs.findIdx? g=some i by
    rw [List.findIdx?_eq_some_iff_getElem]
    exact ⟨hlt,he,λj hj=>by rw [hal j (by omega) hj]; decide⟩]
   refine cQ<|sM Z<|sA Z<|sK [4] Z<|cT<|xW<|xR<|xR<|xW<|xR ?_
   exact aj Z ⟨Z,Z⟩ sbq
  ·have he:g xs[i]=false:=he
   refine cK<|xB<|xT<|cR<|sV (aI Z Z Za)<|sM Z<|sN<|nK [0,1,7,8] Z<|ax<|aJ (i+1) ⟨hlt,λj hj hj2=>?_⟩<|Nat.sub_lt_sub_left hlt<|Nat.lt_succ_self i
   by_cases hji:j=i
   ·subst hji; exact he
   ·exact hal j hj<|by omega
 ·have hil:i=xs.length:=Nat.le_antisymm hi<|Nat.not_lt.1 Zx
  rw [show xs.findIdx? g=none by
   rw [List.findIdx?_eq_none_iff]
   intro f hfm
   obtain ⟨j,hj,rfl⟩:=List.getElem_of_mem hfm
   exact hal j hj (by omega)]
  refine aB<|xE<|xE<|xY<|xT<|cQ<|sA Z<|sK [4] Z<|cT ?_
  exact aj Z ⟨Z,Z⟩ sbq
theorem LP {xs:List Pn} {kf:FuncId} {cp:Array Value} {g:Pn->Bool} (hv:Ls X v xs) (hE:Ck.Enters prog kf) (hf:∀ a∈xs,∀ us,Enc.rep X us a->Ctw prog kf (#[]++([.agg us.toArray]:List Value).toArray++cp) [X] λu h'=>u = .bool (g a)/\h'=[X]):Ctw prog 73 #[v,.func (.func kf) #[] cp] [X] λu h'=>u = .bool (xs.any g)/\h'=[X]:=by
 rw [<- pM]
 have hx:=Ji hv hE hf
 obtain ⟨a,cap,rfl,hlc,hcm,_⟩:=id hv.form
 refine eG (n:=9) func73 Z Z (len Z) λhr w0 hw0=>?_
 refine cQ<|sA Z<|sN<|nT<|cQ<|sM Z<|sM Z<|bM hw0 Z Z en153 Z (hx) ?_
 rintro u h' ⟨rfl,rfl⟩
 simp only [lC,lN]
 refine sV (nE Z Z)<|sA Z<|sK [4] Z<|cT ?_
 exact aj Z ⟨Z,Z⟩ sbq
theorem Jj (hX:Spc X) {us:List Value} {a:Pn} (h:Enc.rep X us a):Ctw prog 146 #[.agg us.toArray] [X] λu h'=>u = .bool (!small a.to)/\h'=[X]:=by
 have h:us=[sv a.fro,sv a.to]:=h
 subst h
 have hsm:=Ha hX a.to
 refine eG (n:=7) func146 Z Z (len Z) λhr w0 hw0=>?_
 refine cQ (aP Z Z λb1=>?_)
 refine sA Z<|sK [1,2] Z<|cQ<|sV (vF Z JV Z)<|sV (vY Z ld9) ?_
 refine bM hw0 Z Z en147 Z (hsm) ?_
 rintro u h' ⟨rfl,rfl⟩
 simp only [lC,lN]
 refine sV (bg Z)<|sA Z<|sK [2] Z<|cT ?_
 exact aj Z ⟨Z,Z⟩ sbq
theorem LQ (hX:Spc X) {l:FS} (hl:Ls X v l) {uc:List Value} {c:FC} (hc:Enc.rep X uc c):Ctw prog 64 #[v,.agg uc.toArray] [X] λu h'=>u = .int .i64 (kH l c)/\h'=[X]:=by
 have hml:maxLen=9223372036854775807:=rfl
 have hdc:=Hf hX hc
 obtain ⟨ca,cb,ce,cf,ci,rfl,hca,hcb,-⟩:=gp hc
 have hone0:=Enc.ones hc
 obtain ⟨pA,pK,rfl,hplc,hpcm,_⟩:=id hcb.form
 obtain ⟨fA,fK,rfl,_⟩:=id hca.form
 obtain ⟨vAq,vK,rfl,_⟩:=id hl.form
 have htw:=Gw hca
 have h146:∀ {xs:List Pn},∀ a∈xs,∀ us,Enc.rep X us a->Ctw prog 146 (#[]++([.agg us.toArray]:List Value).toArray ++ #[]) [X] λu h'=>u = .bool (!small a.to)/\h'=[X]:=λa _ us h=>Jj hX h
 unfold kH
 refine eG (n:=62) func64 Z Z (len Z) λhr w0 hw0=>?_
 refine cQ (aP Z Z λb3=>?_)
 refine sA Z<|sK [0,3,4] Z<|cS<|cB<|cQ<|sV (vF Z DY Z)<|sV (vY Z ld38) ?_
 refine sV (aF Z underlying38)<|sV (cu Z Z)<|sA Z<|sK [0,3,4,12] Z<|cC Z (λh3=>?_)<|λh3=>?_
 ·rw [if_pos (show 3<c.forms.length by have h:(3:Int)<c.forms.length:=(by simpa using h3); omega)]
  refine cQ<|sA Z<|sK [4] Z<|cT<|xW<|xR ?_
  exact aj Z ⟨Z,Z⟩ sbq
 ·rw [if_neg (show ¬ 3<c.forms.length by have h:(c.forms.length:Int)≤3:=(by simpa using h3); omega)]
  refine cQ<|sV (vF Z DY Z)<|sV (vY Z ld38) ?_
  refine aY Z Z en143 Z (htw) ?_
  refine sA Z<|sK [0,3,4,17] Z<|cC Z (λh6=>?_)<|λh6=>?_
  ·rw [if_pos (show ¬ (c.forms.map λf=>f.name).Nodup by simpa using h6)]
   refine cQ<|sA Z<|sK [4] Z<|cT<|xW<|xR ?_
   exact aj Z ⟨Z,Z⟩ sbq
  ·rw [if_neg (show ¬ ¬ (c.forms.map λf=>f.name).Nodup by simpa using h6)]
   refine cK<|xB<|xT<|cS<|cQ<|sV (vF Z eY Z)<|sV (vY Z lZ) ?_
   refine sV (aF Z underlying39)<|sM Z<|sK [0,3,4,22,23,24] Z<|cB<|aX (σ := Nat) (λi=>[(0,.slice vAq l.length vK),(3,.pointer (some ⟨b3,0,none⟩)),(22,.slice pA c.pars.length pK),(23,.int .i64 c.pars.length),(24,.int .i64 (i:Nat))]) (λ_=>pt b3 (cl [sv c.name,.bool c.dfd,.slice fA c.forms.length fK,.slice pA c.pars.length pK,ce,cf,ci] 44)::X::hr) (λi=>i≤c.pars.length/\∀ j (hj:j<c.pars.length),j<i->c.pars[j].args.length=(ae l c.pars[j].name).forms.length) (λi=>c.pars.length - i) 0 ⟨Nat.zero_le _,λj _ hj=>absurd hj<|Nat.not_lt_zero _⟩ ?_
   rintro i ⟨hi,hal⟩
   refine cQ<|sV (aN Z Z)<|sN<|nT<|cS<|cC Z (λhd=>?_)<|λhd=>?_
   ·have hlt:i<c.pars.length:=Zx
    obtain ⟨b,o,cap2,us,e1,hus,hrd,hre⟩:=hcb.at<|Zy hlt
    cases e1
    have hone:=Enc.ones hre
    have hmem:=List.getElem_mem hlt
    generalize hpg:c.pars[i]=p at hre hone hmem
    obtain ⟨qa,qb,qc,qd,qe,rfl,hqa,-⟩:=id hre
    obtain ⟨aA,aK,rfl,_⟩:=id hqa.form
    have hfi:=uh (n:=p.name) hl
    refine cK<|xT<|cS<|cB<|cQ<|sV (vI (k:=i) Z Z oL Z hlt Z)<|sV (af Z qp Z hrd) ?_
    refine au vD λb6=>?_
    refine ai Z Z r9 Z hone ?_
    refine sK [0,3,6,22,23,24] Z<|cQ<|sM Z<|sV (vF Z gH Z)<|sV (vY Z ld9) ?_
    refine aH Z Z en117 Z (hfi) ?_
    rintro u h' ⟨rfl,gus,rfl,hgr⟩
    simp only [lC,lN]
    have hgr:Enc.rep X gus (ae l p.name):=hgr
    have hgo:=Enc.ones hgr
    obtain ⟨ga,gb,ge,gf,gi,rfl,hga,-⟩:=gp hgr
    obtain ⟨gA,gK,rfl,_⟩:=id hga.form
    refine sM Z<|sV (ag Z Z)<|sV (ag Z Z) (au nS λb7=>?_)
    refine ai Z Z lY Z hgo ?_
    refine sA Z<|sK [0,3,6,7,22,23,24] Z<|cQ<|sV (vF Z xk Z)<|sV (vY Z oO) ?_
    refine sV (aF Z underlying71)<|sV (vF Z DY Z)<|sV (vY Z ld38) ?_
    refine sV (aF Z underlying38)<|sV (bP Z Z)<|sK [0,3,22,23,24,41] Z<|cC Z (λhne=>?_)<|λhne=>?_
    ·have hne:p.args.length≠(ae l p.name).forms.length:=by have h:(p.args.length:Int)≠(ae l p.name).forms.length:=Zv; omega
     rw [if_pos (List.any_eq_true.2 ⟨p,hmem,decide_eq_true hne⟩)]
     refine cQ<|sA Z<|sK [4] Z<|cT<|xW<|xR<|xR<|xW<|xR ?_
     exact aj Z ⟨Z,Z⟩ sbq
    ·have hne:p.args.length=(ae l p.name).forms.length:=by have h:(p.args.length:Int)=(ae l p.name).forms.length:=Zv; omega
     refine cK<|xB<|xT<|cR<|sV (aI Z Z Za)<|sM Z<|sN<|nK [0,3,22,23,24] Z<|ax<|aJ (i+1) ⟨hlt,λj hj hji=>?_⟩ (by show c.pars.length - (i+1)<c.pars.length - i; omega)
     by_cases h:j=i
     ·subst h; rw [hpg]; exact hne
     ·exact hal j hj<|by omega
   ·have hie:i=c.pars.length:=Nat.le_antisymm hi<|Nat.not_lt.1 Zx
    subst hie
    rw [if_neg (λh=>by
     obtain ⟨p,hp,h2⟩:=List.any_eq_true.1 h
     obtain ⟨j,hj,rfl⟩:=List.getElem_of_mem hp
     exact of_decide_eq_true h2 (hal j hj hj))]
    refine aB<|xE<|xE<|xY<|xT<|cS<|cQ<|sV (af Z gG Z ah) ?_
    refine bM hw0 Z Z en145 Z (hdc) ?_
    rintro u h' ⟨rfl,rfl⟩
    simp only [lC,lN]
    refine sA Z<|sK [3,9] Z<|cQ<|sM Z<|sV (bP Z Z)<|sK [3,9,46] Z<|cC Z (λhz=>?_)<|λhz=>?_
    ·rw [if_pos (show AB c≠0 by simpa using hz)]
     refine cQ<|sM Z<|sA Z<|sK [4] Z<|cT<|xR ?_
     exact aj Z ⟨Z,Z⟩ sbq
    ·rw [if_neg (show ¬ AB c≠0 by simpa using hz)]
     refine cK<|xT<|cS<|cQ<|sV (vF Z eY Z)<|sV (vY Z lZ) ?_
     refine sV (aF Z underlying39)<|sM Z<|sK [49,50,51] Z<|cB<|aX (σ := Nat) (λi=>[(49,.slice pA c.pars.length pK),(50,.int .i64 c.pars.length),(51,.int .i64 (i:Nat))]) (λ_=>X::hr) (λi=>i≤c.pars.length/\∀ j (hj:j<c.pars.length),j<i->FY c.pars[j]=0) (λi=>c.pars.length - i) 0 ⟨Nat.zero_le _,λj _ hj=>absurd hj<|Nat.not_lt_zero _⟩ ?_
     rintro i ⟨hi,hal⟩
     refine cQ<|sV (aN Z Z)<|sN<|nT<|cS<|cC Z (λhd=>?_)<|λhd=>?_
     ·have hlt:i<c.pars.length:=Zx
      obtain ⟨b,o,cap2,us,e1,hus,hrd,hre⟩:=hcb.at<|Zy hlt
      cases e1
      have hone:=Enc.ones hre
      have hbad:FY c.pars[i]≠0->mZ (c.pars.map FY)=FY c.pars[i]:=λhne=>by
       rw [Dq (i:=i) (by rw [List.length_map]; exact hlt) (λj hj hji=>by rw [List.getElem_map]; exact hal j Zg hji) (by rw [List.getElem_map]; exact hne),List.getElem_map]
      generalize hpg:c.pars[i]=p at hre hone hbad
      obtain ⟨qa,qb,qc,qd,qe,rfl,hqa,hqb,-⟩:=id hre
      have h73:Ctw prog 73 #[qb,.func (.func 146) #[] #[]] [X] λu h'=>u = .bool (p.ren.any λx => !small x.to)/\h'=[X]:=LP (kf:=146) (cp := #[]) (g:=λx => !small x.to) hqb en146 h146
      have h148:=Gx hqb
      have hrn:FY p=if (p.ren.any λx => !small x.to)=true then 4 else if (p.ren.map λx=>x.fro).Nodup then 0 else 6:=rfl
      refine cK<|xT<|cS<|cB<|cQ<|sV (vI (k:=i) Z Z oL Z hlt Z)<|sV (af Z qp Z hrd) ?_
      refine au vD λb11=>?_
      refine ai Z Z r9 Z hone ?_
      refine sK [11,49,50,51] Z<|cS<|cQ<|sV (vF Z Ai Z)<|sV (vY Z ld86) ?_
      refine bM hw0 Z Z en73 Z (h73) ?_
      rintro u h' ⟨rfl,rfl⟩
      simp only [lC,lN]
      refine sK [11,49,50,51,57] Z<|cC Z (λh4=>?_)<|λh4=>?_
      ·rw [if_pos (show _=true from h4)] at hrn
       rw [hbad (by rw [hrn]; decide),hrn]
       refine cQ<|sA Z<|sK [4] Z<|cT<|xR<|xW<|xR<|xR<|xW<|xR ?_
       exact aj Z ⟨Z,Z⟩ sbq
      ·have h4:(p.ren.any λx => !small x.to)=false:=h4
       rw [h4,if_neg (by decide)] at hrn
       refine cK<|xT<|cQ<|sV (vF Z Ai Z)<|sV (vY Z ld86) ?_
       refine aY Z Z en148 Z (h148) ?_
       refine sK [49,50,51,60] Z<|cC Z (λh5=>?_)<|λh5=>?_
       ·rw [if_neg (show ¬ (p.ren.map λx=>x.fro).Nodup by simpa using h5)] at hrn
        rw [hbad (by rw [hrn]; decide),hrn]
        refine cQ<|sA Z<|sK [4] Z<|cT<|xW<|xR<|xR<|xW<|xR ?_
        exact aj Z ⟨Z,Z⟩ sbq
       ·rw [if_pos (show (p.ren.map λx=>x.fro).Nodup by simpa using h5)] at hrn
        refine cK<|xB<|xT<|cR<|sV (aI Z Z Za)<|sM Z<|sN<|nK [49,50,51] Z<|ax<|aJ (i+1) ⟨hlt,λj hj hji=>?_⟩ (by show c.pars.length - (i+1)<c.pars.length - i; omega)
        by_cases h:j=i
        ·subst h; rw [hpg]; exact hrn
        ·exact hal j hj<|by omega
     ·have hie:i=c.pars.length:=Nat.le_antisymm hi<|Nat.not_lt.1 Zx
      subst hie
      rw [yP λj hj=>by rw [List.getElem_map]; exact hal j Zg Zg]
      refine aB<|xE<|xE<|xY<|xT<|cQ<|sA Z<|sK [4] Z<|cT ?_
      exact aj Z ⟨Z,Z⟩ sbq
end
theorem LU {l:FS} (h0:(check (bn l)).1=0) {i:Nat} (h:i<l.length) (hb:∀ j (hj:j<l.length),j<i->kH l l[j]=0) (hn:kH l l[i]≠0):bX l=(kH l l[i],l[i].name):=by
 unfold bX
 rw [if_neg (by rw [h0]; simp)]
 rw [show (l.map λc=>(kH l c,c.name)).find? (λe=>e.1 != 0)=some (kH l l[i],l[i].name) from List.find?_eq_some_iff_getElem.2 ⟨Zk,i,Zo,by simp,λj hj=>by
  rw [List.getElem_map,hb j (by omega) hj]; rfl⟩]
theorem Hg {l:FS} (h0:(check (bn l)).1=0) (hb:∀ j (hj:j<l.length),kH l l[j]=0):bX l=(0,[]):=by
 unfold bX
 rw [if_neg (by rw [h0]; simp)]
 rw [show (l.map λc=>(kH l c,c.name)).find? (λe=>e.1 != 0)=none from List.find?_eq_none.2 λx hx=>by
  obtain ⟨c,hc,rfl⟩:=List.mem_map.1 hx
  obtain ⟨j,hj,rfl⟩:=List.getElem_of_mem hc
  rw [hb j hj]; simp]
section
variable {X:Res} {v:Value}
theorem xP (hX:Spc X) {l:FS} (hl:Ls X v l):Ctw prog 16 #[v] [X] λu h'=>u = .tuple #[.int .i64 (bX l).1,sv (bX l).2]/\h'=[X]:=by
 have hml:maxLen=9223372036854775807:=rfl
 obtain ⟨vAq,vK,rfl,_⟩:=id hl.form
 have hck:=FJ<|tT hl
 have hz0:(check<|bn l).1≠0->bX l=check (bn l):=λh=>by unfold bX; rw [if_pos h]
 generalize hkk:check (bn l)=kk at hck hz0
 obtain ⟨k1,k2⟩:=kk
 dsimp only at hck hz0
 refine eG (n:=33) func16 Z Z (len Z) λhr w0 hw0=>?_
 refine cQ<|sA Z<|sA Z<|sN<|nT<|cS<|cQ<|sM Z<|aH Z Z en63 Z (hck) ?_
 rintro u h' ⟨rfl,rfl⟩
 simp only [lC,lN]
 refine sM Z<|sV (ag Z Z)<|sV (ag Z Z)<|sA Z<|sA Z<|sK [0,2,3,4,5] Z<|cQ<|sM Z<|sV (bP Z Z)<|sK [0,2,3,4,5,15] Z<|cC Z (λhz=>?_)<|λhz=>?_
 ·rw [hz0 Zn]
  refine cQ<|sM Z<|sM Z<|sA Z<|sA Z<|sK [2,3] Z<|cT<|xR ?_
  exact aj Z ⟨Z,Z⟩ sbq
 ·have hz:k1=0:=Zn
  have h0:(check<|bn l).1=0:=by rw [hkk]; exact hz
  refine cK<|xT<|cS<|cQ<|sM Z<|sV (aF Z underlying22)<|sM Z<|sK [0,2,3,18,19,20] Z<|cB<|aX (σ := Nat) (λi=>[(0,.slice vAq l.length vK),(18,.slice vAq l.length vK),(19,.int .i64 l.length),(20,.int .i64 (i:Nat))]) (λ_=>X::hr) (λi=>i≤l.length/\∀ j (hj:j<l.length),j<i->kH l l[j]=0) (λi=>l.length - i) 0 ⟨Nat.zero_le _,λj _ hj=>absurd hj<|Nat.not_lt_zero _⟩ ?_
  rintro i ⟨hi,hal⟩
  refine cQ<|sV (aN Z Z)<|sN<|nT<|cS<|cC Z (λhd=>?_)<|λhd=>?_
  ·have hlt:i<l.length:=Zx
   obtain ⟨b,o,cap2,us,e1,hus,hrd,hre⟩:=hl.at<|Zy hlt
   cases e1
   have hone:=Enc.ones hre
   have hbad:=LU h0 hlt hal
   have hfm:=LQ hX hl hre
   generalize hcg:l[i]=c at hre hone hbad hfm
   obtain ⟨ca,cb,ce,cf,ci,rfl,-⟩:=gp hre
   refine cK<|xT<|cS<|cB<|cQ<|sV (vI (k:=i) Z Z ve Z hlt Z)<|sV (af Z gG Z hrd) ?_
   refine au nS λb7=>?_
   refine ai Z Z lY Z hone ?_
   refine sK [0,7,18,19,20] Z<|cQ<|sM Z<|sV (af Z gG Z ah) ?_
   refine bM hw0 Z Z en64 Z (hfm) ?_
   rintro u h' ⟨rfl,rfl⟩
   simp only [lC,lN]
   refine sA Z<|sK [0,7,8,18,19,20] Z<|cQ<|sM Z<|sV (bP Z Z)<|sK [0,7,8,18,19,20,28] Z<|cC Z (λhne=>?_)<|λhne=>?_
   ·rw [hbad Zv]
    refine cS<|bB (ork [(0,2),(1,2),(2,1),(3,2),(4,2)] .nil) (λ_=>true) mixed Zz ?_
    refine dV Z (vM Z)<|dV Z (vF Z dN Z)<|bu Z (vY Z ld9) ?_
    refine dV Z (vA Z)<|dV Z (vA Z)<|bA<|nK [2,3] Z<|nT<|cT<|xW<|xR<|xR<|xW<|xR ?_
    exact aj Z ⟨Z,Z⟩ sbq
   ·have hne:kH l c=0:=Zv
    refine cK<|xB<|xT<|cR<|sV (aI Z Z Za)<|sM Z<|sN<|nK [0,18,19,20] Z<|ax<|aJ (i+1) ⟨hlt,λj hj hji=>?_⟩ (by show l.length - (i+1)<l.length - i; omega)
    by_cases h:j=i
    ·subst h; rw [hcg]; exact hne
    ·exact hal j hj<|by omega
  ·have hie:i=l.length:=Nat.le_antisymm hi<|Nat.not_lt.1 Zx
   subst hie
   rw [Hg h0 λj hj=>hal j hj hj]
   refine aB<|xE<|xE<|xY<|xT<|cQ<|sA Z<|sA Z<|sK [2,3] Z<|cT ?_
   exact aj Z ⟨Z,Z⟩ sbq
end
end Go.Fl
namespace Go.Fl
open Go Go.Hr
def oriP (l:FS) (c n:Nm):List Og×Int:=if (bL l [] c n).2≠0 then ([],(bL l [] c n).2) else
 ((if (feat (ae l c) n).isSome then [⟨[],n⟩] else [])++(under (comes (look (build l).1) l<|ae l c) n).map (λx=>x.og),0)
section
variable {l:FS}
theorem jM {ns:List Nm} (h:wholeE l ns=0):Good l/\∀ n∈ns,(bJ l n).isSome=true:=by
 unfold wholeE at h
 split at h
 ·rename_i h1; exact absurd h h1
 rename_i h1
 have h1:=Classical.not_not.1 h1
 split at h
 ·rename_i h2
  exact ⟨AL.1 ((AC h1).2.trans h),by simpa using h2⟩
 ·cases h
theorem Good.flb (h:Good l):FlB l (Fl.look (Fl.build l).1):=by
 rw [h.build]; exact Oe h.right λn hn=>h.ok n ((gW h.sys).1 hn)
theorem Good.ords (h:Good l):(Fl.build l).1.map (λp=>p.1)=order (bn l):=by
 rw [h.build]; simp [forms,List.map_map,Function.comp_def]
theorem Good.err (h:Good l):(Fl.build l).2=(cf0,0):=by rw [h.build]
theorem Good.flats2 (h:Good l):gI l=((order (bn l)).map λn=>Fl.look (Fl.build l).1 n,0):=by
 rw [h.flats]
 congr 1
 apply List.map_congr_left
 intro n hn
 exact (h.look ((gW h.sys).1 hn)).symm
theorem Good.ord_len (h:Good l):(order (bn l)).length≤24:=by
 have h1:(order<|bn l).length≤(nms<|bn l).length:=aT (jE h.sys.acyc h.sys.uniq).1.nodup λx hx=>((jE h.sys.acyc h.sys.uniq).2 x).1 hx
 have h2:(nms<|bn l).length=l.length:=by simp [nms,bn]
 have h3:=h.sys.len
 rw [jX] at h3
 omega
end
end Go.Fl
namespace Go.Fl
open Go Go.RowKit Go.Ck Go.Proofs Go.Proofs.Tryz Go.Proofs.YtknmacdbffgjgaaGreatDoor Fx Go.Hr
attribute [local irreducible] Go.Ck.Sub St Cd Xt Nx DrL LsW
theorem iB {v fv ow:Value} {x:Cf} {e:Int} (h1:v.oneCell'=true) (h2:fv.oneCell'=true) (h3:ow.oneCell'=true):([v,fv,ow,.int .i64 x.kind,sv x.cls,sv x.name,sv x.other,sv x.a.par,sv x.a.name,sv x.b.par,sv x.b.name,.int .i64 e]:List Value).all Value.oneCell'=true:=by
 simp only [List.all_cons,List.all_nil,h1,h2,h3,Bool.and_true,Bool.true_and]; rfl
section
variable {X:Res} {v nv:Value}
theorem vZ (hX : Spc X) {l : FS} (hl : Ls X v l) (hS : jg l) {ns : List Nm} (hn : Ls X nv ns) : dE prog 54 #[v, nv] X [] λu Y k' => ∃ v2 fv ow x e, u = .tuple #[.agg (sj v2 fv ow x e).toArray, .int .i64 (wholeE l ns)] /\ v2.oneCell' = true /\ fv.oneCell' = true /\ ow.oneCell' = true /\
  ((wholeE l ns≠0/\k'=[])∨(wholeE l ns=0/\∃ mb m names,v2=v/\fv = .map (some mb)/\x=cf0/\e=0/\k'=[mps mb m,VR ow 9 1 (names.map nC)]/\FlR Y m (look (build l).1)/\names=order (bn l))):=by
 have hml:maxLen=9223372036854775807:=rfl
 obtain ⟨vAq,vK,rfl,_⟩:=id hl.form
 obtain ⟨nA,nKq,rfl,_⟩:=id hn.form
 have hck:=xP hX hl
 unfold dE
 refine eG (n:=43) func54 Z Z (len Z) λhr w0 hw0=>?_
 refine cQ (au nU λb4=>?_)
 refine sA Z<|sN<|nT<|cS<|cQ<|sM Z<|bM hw0 Z Z en16 Z (hck) ?_
 rintro u h' ⟨rfl,rfl⟩
 simp only [lC,lN]
 refine sM Z<|sV (ag Z Z)<|sV (ag Z Z)<|sA Z<|sA Z<|sK [0,1,4,5,6] Z<|cQ<|sM Z<|sV (bP Z Z)<|sK [0,1,4,5,6,19] Z<|cC Z (λhz=>?_)<|λhz=>?_
 ·have hz:(bX l).1≠0:=Zn
  have hw:wholeE l ns=(bX l).1:=by unfold wholeE; rw [if_pos hz]
  refine cQ<|sV (aO (cells:=[.slice none 0 0,.map none,.slice none 0 0,.int .i64 0,sv [],sv [],sv [],sv [],sv [],sv [],sv [],.int .i64 0]) Z<|λ_=>Zz) ?_
  refine sM Z<|ai Z Z ja Z Z ?_
  refine sA Z<|sK [4,5] Z<|cT<|xR ?_
  rw [hw]
  exact bD (.cellN Z lG Z slq<|.tmp Z .nil) ⟨X,[],Z,Ext.refl X,.slice none 0 0,.map none,.slice none 0 0,cf0,0,Z,Z,Z,Z,.inl ⟨hz,Z⟩⟩ sbr
 ·have hz:(bX l).1=0:=Zn
  have hR:=je.1 hz
  refine cK<|xT<|cS<|cQ<|sM Z<|sV (aF Z underlying40)<|sM Z<|sK [0,4,5,22,23,24] Z<|cB<|aX (σ := Nat) (λi=>[(0,.slice vAq l.length vK),(22,.slice nA ns.length nKq),(23,.int .i64 ns.length),(24,.int .i64 (i:Nat)),(4,.pointer (some ⟨b4,0,none⟩))]) (λ_=>pt b4 (cl [.slice none 0 0,.map none,.slice none 0 0,.int .i64 0,sv [],sv [],sv [],sv [],sv [],sv [],sv [],.int .i64 0] 116)::X::hr) (λi=>i≤ns.length/\∀ j (hj:j<ns.length),j<i->(bJ l ns[j]).isSome=true) (λi=>ns.length - i) 0 ⟨Nat.zero_le _,λj _ hj=>absurd hj<|Nat.not_lt_zero _⟩ ?_
  rintro i ⟨hi,hal⟩
  try dsimp only
  refine cQ<|sV (aN Z Z)<|sN<|nT<|cS<|cC Z (λhd=>?_)<|λhd=>?_
  ·have hlt:i<ns.length:=Zx
   obtain ⟨b,o,cap2,us,e1,hus,hrd,hre⟩:=hn.at<|Zy hlt
   cases e1
   obtain rfl:us=[sv ns[i]]:=hre
   have hfi:=uh (n:=ns[i]) hl
   rw [show (l.find? λc=>c.name == ns[i])=bJ l ns[i] from rfl] at hfi
   have hnx:∀ hfs:(bJ l ns[i]).isSome=true,∀ j (hj:j<ns.length),j<i+1->(bJ l ns[j]).isSome=true:=λhfs j hj hji=>by
    by_cases h:j=i
    ·subst h; exact hfs
    ·exact hal j hj<|by omega
   have hbad:(bJ l ns[i]).isSome=false->wholeE l ns=5:=λhq=>by
    unfold wholeE
    rw [if_neg (by rw [hz]; simp),if_neg]
    intro h
    rw [List.all_eq_true.1 h _ (List.getElem_mem hlt)] at hq; cases hq
   generalize ns[i]=n at hrd hfi hnx hbad
   generalize hfs:(bJ l n).isSome=fs at hfi hnx hbad
   refine cK<|xT<|cS<|cB<|cQ<|sV (vI (k:=i) Z Z jm Z hlt Z)<|sV (vY Z ld9 (ha:=⟨X,_,slq,hrd 0<|by simp⟩)) ?_
   refine sA Z<|sK [0,4,9,22,23,24] Z<|cQ<|sM Z<|sM Z<|aH Z Z en117 Z (hfi) ?_
   rintro u h' ⟨rfl,us,rfl,hre2⟩
   simp only [lC,lN]
   have hone:=Enc.ones hre2
   obtain ⟨ca,cb,ce,cf,ci,rfl,-⟩:=gp hre2
   refine sM Z<|sV (ag Z Z)<|sV (ag Z Z) (au nS λb10=>?_)
   refine ai Z Z lY Z hone ?_
   refine sA Z<|sK [0,4,11,22,23,24] Z<|cQ<|sM Z<|sV (bg Z)<|sK [0,4,22,23,24,35] Z ?_
   cases fs with
   | false =>
    rw [hbad rfl]
    refine aQ Z ?_
    refine cQ<|sV (aO (cells:=[.slice none 0 0,.map none,.slice none 0 0,.int .i64 0,sv [],sv [],sv [],sv [],sv [],sv [],sv [],.int .i64 0]) Z<|λ_=>Zz) ?_
    refine ai Z Z ja Z Z ?_
    refine sA Z<|sK [4,5] Z<|cT<|xW<|xR<|xR<|xW<|xR ?_
    exact bD (.cellN Z lG Z slq<|.tmp Z .nil) ⟨X,[],Z,Ext.refl X,.slice none 0 0,.map none,.slice none 0 0,cf0,0,Z,Z,Z,Z,.inl ⟨by decide,Z⟩⟩ sbr
   | true =>
    refine aG Z ?_
    refine cK<|xB<|xT<|cR<|sV (aI Z Z Za)<|sM Z<|sN<|nK [0,4,22,23,24] Z<|ax ?_
    refine aJ (i+1) ⟨hlt,hnx Z⟩ (by show ns.length - (i+1)<ns.length - i; omega)
  ·have hie:i=ns.length:=Nat.le_antisymm hi<|Nat.not_lt.1 Zx
   subst hie
   refine aB<|xE<|xE<|xY<|xT<|cQ<|sM Z ?_
   have hbd:=He hl hR hS
   unfold dE at hbd
   have hall:ns.all (λn=>(bJ l n).isSome)=true:=List.all_eq_true.2 λn hn=>by
    obtain ⟨j,hj,rfl⟩:=List.getElem_of_mem hn
    exact hal j hj hj
   have hw:wholeE l ns=(build l).2.2:=by unfold wholeE; rw [if_neg (by rw [hz]; simp),if_pos hall]
   refine bM hw0 Z Z en53 Z (hbd) ?_
   rintro u h' ⟨Y,k',rfl,hE,mb,m,ow,names,rfl,rfl,hm,hnm,how⟩
   simp only [lC,lN]
   unfold sj
   have h12:=iB (v:=.slice vAq l.length vK) (fv:=.map<|some mb) (ow:=ow) (x:=(build l).2.1) (e:=(build l).2.2) rfl rfl how
   refine au nU λb12=>?_
   refine ai Z Z ja Z h12 ?_
   refine sK [4,12] Z<|cS<|jk (ork [(0,1),(1,2),(2,1),(3,0),(4,2)] .nil) (λ_=>true) [pt b12 (cl [.slice vAq l.length vK,.map (some mb),ow,.int .i64 (build l).2.1.kind,sv (build l).2.1.cls,sv (build l).2.1.name,sv (build l).2.1.other,sv (build l).2.1.a.par,sv (build l).2.1.a.name,sv (build l).2.1.b.par,sv (build l).2.1.b.name,.int .i64 (build l).2.2] 116)] mixed Zz ?_
   refine bu Z (af Z lG Z ah) ?_
   refine dV Z (vF Z vB Z)<|bu Z (vY Z BC) ?_
   refine aV Z<|ai Z Z ja Z h12 ?_
   refine aW ?_
   refine dV Z (vA Z)<|bA<|nK [4,5] Z<|nT<|cT ?_
   rw [<- hw]
   by_cases hw0:wholeE l ns=0
   ·have hg:=(jM hw0).1
    have hx:(build l).2.1=cf0:=by rw [hg.err]
    exact bD (.cellN Z lG Z slq<|.tmp Z .nil) ⟨Y,[mps mb m,VR ow 9 1 (names.map nC)],Z,hE,.slice vAq l.length vK,.map (some mb),ow,(build l).2.1,wholeE l ns,Z,Z,Z,how,.inr ⟨hw0,mb,m,names,Z,Z,hx,hw0,Z,hm,hnm.trans hg.ords⟩⟩ sbr
   ·exact bD (.cellN Z lG Z slq<|.tmp Z .nil) ⟨Y,[],Z,hE,.slice vAq l.length vK,.map (some mb),ow,(build l).2.1,wholeE l ns,Z,Z,Z,how,.inl ⟨hw0,Z⟩⟩ sbr
end
end Go.Fl
namespace Go.Fl
open Go Go.RowKit Go.Ck Go.Proofs Go.Proofs.Tryz Go.Proofs.YtknmacdbffgjgaaGreatDoor Fx Go.Hr
theorem rep_fl0 {X:Res}:Enc.rep X [sv [],.bool false,.slice none 0 0,.slice none 0 0] fl0:=⟨.slice none 0 0,.slice none 0 0,rfl,Ls.nil,Ls.nil⟩
theorem rws_nm {Y:Res} (xs:List Nm):Rws Y (xs.map nC) xs:=⟨by simp,λj us x h1 h2=>by
 rw [List.getElem?_map,h2] at h1
 cases h1; rfl⟩
theorem nm_ls {Y:Res} {w:Value} {xs:List Nm} (hok:∃ f,(VR w 9 1 (xs.map nC)).ok f) (hr:∀ p u,Rd (VR w 9 1 (xs.map nC)) p u->Rd Y p u) (hb:xs.length≤1000000000):Ls Y w xs :=
 Rws.ls (E:=9) (rws_nm xs) hok hr (by show xs.length * 16≤140737488351232; omega)
theorem Good.few {l:FS} (h:Good l) (n:Nm):(Fl.look (Fl.build l).1 n).mems.length≤60:=h.flb.few n
theorem Jk (ms:List Mb) (s:Sd):(aZ ms s).length≤ms.length:=by
 unfold aZ; rw [List.length_map]; exact List.length_filter_le _ _
attribute [local irreducible] Go.Ck.Sub St Cd Xt Nx DrL LsW
section
variable {X:Res} {v:Value} {l:FS}
theorem Ow (hX:Spc X) (hl:Ls X v l) (hS:jg l):dE prog 12 #[v] X [] λu Y k'=>k'=[]/\u = .tuple #[cfV (kw l).1,.bool (kw l).2.1,.int .i64 (kw l).2.2]:=by
 have hml:maxLen=9223372036854775807:=rfl
 obtain ⟨vAq,vK,rfl,_⟩:=id hl.form
 have hck:=xP hX hl
 unfold dE
 refine eG (n:=28) func12 Z Z (len Z) λhr w0 hw0=>?_
 refine cQ (au D9 λb2=>?_)
 refine sA Z<|sA Z<|sN<|nT<|cS<|cQ<|sM Z<|bM hw0 Z Z en16 Z (hck) ?_
 rintro u h' ⟨rfl,rfl⟩
 simp only [lC,lN]
 refine sM Z<|sV (ag Z Z)<|sV (ag Z Z)<|sA Z<|sA Z<|sK [0,2,3,4,5] Z<|cQ<|sM Z<|sV (bP Z Z)<|sK [0,2,3,4,5,14] Z<|cC Z (λhz=>?_)<|λhz=>?_
 ·have hz:(bX l).1≠0:=Zn
  have hp:kw l=(cf0,false,(bX l).1):=(CK hz).1
  rw [hp]
  refine cQ<|sV (aO (cells:=[.int .i64 0,sv [],sv [],sv [],sv [],sv [],sv [],sv []]) Z<|λ_=>Zz) ?_
  refine sM Z<|ai Z Z wZ Z Z ?_
  refine sA Z<|sA Z<|sK [2,3,4] Z<|cT<|xR ?_
  exact bD (.cellN Z tF Z slq<|.tmp Z<|.tmp Z .nil) ⟨X,[],Z,Ext.refl X,Z,Z⟩ sbr
 ·have hz:(bX l).1=0:=Zn
  have hR:=je.1 hz
  have hbd:=He hl hR hS
  unfold dE at hbd
  have hp:=(AC hz).1
  rw [hp]
  refine cK<|xT<|cQ<|sM Z<|bM hw0 Z Z en53 Z (hbd) ?_
  rintro u h' ⟨Y,k',rfl,hE,mb,m,ow,names,rfl,rfl,hm,hnm,how⟩
  simp only [lC,lN]
  unfold sj
  have h12:=iB (v:=.slice vAq l.length vK) (fv:=.map<|some mb) (ow:=ow) (x:=(build l).2.1) (e:=(build l).2.2) rfl rfl how
  generalize (build l).2.1=x at h12 ⊢
  generalize (build l).2.2=e at h12 ⊢
  refine au nU λb7=>?_
  refine ai Z Z ja Z h12 ?_
  refine sK [2,3,4,7] Z<|cS<|cQ<|sV (vF Z vB Z)<|sV (vY Z BC) ?_
  refine sV (dP Z Z)<|sK [2,3,4,7,21] Z<|cC Z (λhe=>?_)<|λhe=>?_
  ·have he:e=3:=Zj
   rw [if_pos he]
   refine cQ<|sV (aO (cells:=[.int .i64 0,sv [],sv [],sv [],sv [],sv [],sv [],sv []]) Z<|λ_=>Zz) ?_
   refine ai Z Z wZ Z Z ?_
   refine sA Z<|sA Z<|sK [2,3,4] Z<|cT<|xR ?_
   exact bD (.cellN Z tF Z slq<|.tmp Z<|.tmp Z .nil) ⟨Y,[],Z,hE,Z,Z⟩ sbr
  ·have he:e≠3:=Zj
   rw [if_neg he]
   refine cK<|xT<|cS<|jk (ork [(0,2),(1,1),(2,2),(3,1),(4,2),(5,0),(6,2),(7,2)] .nil) (λ_=>true) [pt b7 (cl [.slice vAq l.length vK,.map (some mb),ow,.int .i64 x.kind,sv x.cls,sv x.name,sv x.other,sv x.a.par,sv x.a.name,sv x.b.par,sv x.b.name,.int .i64 e] 116)] mixed Zz ?_
   refine dV Z (vF Z JR Z)<|bu Z (af Z tF Z<|bF (k:=3) ah (vs:=[.int .i64 x.kind,sv x.cls,sv x.name,sv x.other,sv x.a.par,sv x.a.name,sv x.b.par,sv x.b.name]) Z) ?_
   refine dV Z (vF Z vB Z)<|bu Z (vY Z BC) ?_
   refine dV Z (dP Z Z)<|aV Z<|ai Z Z wZ Z Z ?_
   refine aW ?_
   refine dV Z (vA Z)<|dV Z (vA Z)<|bA<|nK [2,3,4] Z<|nT<|cT ?_
   exact bD (.cellN Z tF Z slq<|.tmp Z<|.tmp Z .nil) ⟨Y,[],Z,hE,Z,congrArg (λb=>Value.tuple #[cfV x,.bool b,.int .i64 0])<|by rfl⟩ sbr

theorem Dr (hX:Spc X) (hl:Ls X v l) (hS:jg l) (n:Nm):dE prog 45 #[v,sv n] X [] λu Y k'=>k'=[]/\∃ us:List Value,u = .tuple #[.agg us.toArray,.int .i64 (eD l n).2]/\Enc.rep Y us (eD l n).1:=by
 have hml:maxLen=9223372036854775807:=rfl
 obtain ⟨vAq,vK,rfl,_⟩:=id hl.form
 unfold dE
 refine eG (n:=25) func45 Z Z (len Z) λhr w0 hw0=>?_
 refine cQ (au Fh λb4=>?_)
 refine sA Z<|sN<|nT<|cQ<|sM Z<|sM Z (ak (cells:=[sv n]) Z underlying40 fH Z Z Zz (ltn Z) λb11=>?_)
 refine pJ [pt b11 (cl [sv n] 9)] X λY0 hE0 hsel=>?_
 have hwh:=vZ (hX.up hE0) (hl.up hE0) hS<|jv (p:=n) (ux:=[sv n]) rfl (λi hi=>hsel _ _ .here _ _<|ah i hi)<|by decide
 unfold dE at hwh
 refine bM hw0 Z Z en54 Z (hwh) ?_
 rintro u h' ⟨Y,k',rfl,hE,v2,fv,ow,x,e,rfl,hv2,hfv,how,hor⟩
 simp only [lC,lN]
 unfold sj
 have h12:=iB (x:=x) (e:=e) hv2 hfv how
 replace hE:=hE0.trans hE
 refine sM Z<|sV (ag Z Z)<|sV (ag Z Z) (au nU λb6=>?_)
 refine ai Z Z ja Z h12 ?_
 refine sA Z<|sK [1,4,5,6,7] Z<|cS<|cQ<|sM Z<|sV (bP Z Z)<|sK [1,4,5,6,7,16] Z<|cC Z (λhq=>?_)<|λhq=>?_
 ·have hq:wholeE l [n]≠0:=Zu
  obtain ⟨-,rfl⟩:=hor.resolve_right λh=>hq h.1
  have hp:eD l n=(fl0,wholeE l [n]):=by unfold eD; rw [if_pos hq]
  rw [hp]
  refine cQ<|sV (aO (cells:=[sv [],.bool false,.slice none 0 0,.slice none 0 0]) Z<|λ_=>Zz) ?_
  refine sM Z<|ai Z Z Ab Z Z ?_
  refine sA Z<|sK [4,5] Z<|cT<|xR ?_
  exact bD (.cellN Z Fg Z slq<|.tmp Z .nil) ⟨Y,[],Z,hE,Z,[sv [],.bool false,.slice none 0 0,.slice none 0 0],Z,rep_fl0⟩ sbr
 ·have hq:wholeE l [n]=0:=Zu
  obtain ⟨-,mb,m,names,rfl,rfl,rfl,rfl,rfl,hm,rfl⟩:=hor.resolve_left λh=>h.1 hq
  have hp:eD l n=(look (build l).1 n,0):=by unfold eD; rw [if_neg (λh=>h hq)]
  rw [hp]
  simp only [lC,lN]
  obtain ⟨fus,hfl,hfr⟩:=hm n
  have hcp:=Da hfr
  refine cK<|xT<|cQ<|sV (vF Z gL Z)<|sV (vF Z iJ Z)<|sV (vY Z p9) ?_
  refine sM Z<|sV (gq hfl<|bI Z Z pY p8 slq) ?_
  refine aH Z Z en55 Z (hcp) ?_
  rintro u h' ⟨T,rfl,us,rfl,hre⟩
  simp only [lC,lN]
  have hone:=Enc.ones hre
  have hre0:=hre
  obtain ⟨x1,x2,rfl,hx1,hx2⟩:=hre
  refine ai Z Z Ab Z hone ?_
  refine sA Z<|sK [4,5] Z<|cT (gY [T] Y λY2 hE2 hsel2=>?_)
  exact bD (.cellN Z Fg Z slq<|.tmp Z .nil) ⟨Y2,[],Z,hE.trans hE2,Z,_,Z,Enc.up (hsel2 _ _ .here) hre0⟩ sbr

theorem Hl (hX:Spc X) (hl:Ls X v l) (hS:jg l) (n:Nm) (s:Sd):dE prog 35 #[v,sv n,.agg #[sv s.cls,sv s.name]] X [] λu Y k'=>k'=[]/\∃ w:Value,u = .tuple #[w,.int .i64 (fO l n s).2]/\Ls Y w (fO l n s).1:=by
 have hml:maxLen=9223372036854775807:=rfl
 obtain ⟨vAq,vK,rfl,_⟩:=id hl.form
 unfold dE
 refine eG (n:=33) func35 Z Z (len Z) λhr w0 hw0=>?_
 refine cQ (aP Z Z λb5=>?_)
 refine sA Z<|sA Z<|sK [0,1,5,6,7] Z<|cQ<|sM Z<|sM Z (ak (cells:=[sv n]) Z underlying40 fH Z Z Zz (ltn Z) λb14=>?_)
 refine pJ [pt b14 (cl [sv n] 9)] X λY0 hE0 hsel=>?_
 have hwh:=vZ (hX.up hE0) (hl.up hE0) hS<|jv (p:=n) (ux:=[sv n]) rfl (λi hi=>hsel _ _ .here _ _<|ah i hi)<|by decide
 unfold dE at hwh
 refine bM hw0 Z Z en54 Z (hwh) ?_
 rintro u h' ⟨Y,k',rfl,hE,v2,fv,ow,x,e,rfl,hv2,hfv,how,hor⟩
 simp only [lC,lN]
 unfold sj
 have h12:=iB (x:=x) (e:=e) hv2 hfv how
 replace hE:=hE0.trans hE
 refine sM Z<|sV (ag Z Z)<|sV (ag Z Z) (au nU λb8=>?_)
 refine ai Z Z ja Z h12 ?_
 refine sA Z<|sK [1,5,6,7,8,9] Z<|cS<|cQ<|sM Z<|sV (bP Z Z)<|sK [1,5,6,7,8,9,19] Z<|cC Z (λhq=>?_)<|λhq=>?_
 ·have hq:wholeE l [n]≠0:=Zu
  obtain ⟨-,rfl⟩:=hor.resolve_right λh=>hq h.1
  have hp:fO l n s=([],wholeE l [n]):=by unfold fO; rw [if_pos hq]
  rw [hp]
  refine cQ<|sM Z<|sA Z<|sA Z<|sK [6,7] Z<|cT<|xR ?_
  exact aj Z ⟨Y,[],Z,hE,Z,_,Z,Ls.nil⟩ sbq
 ·have hq:wholeE l [n]=0:=Zu
  obtain ⟨-,mb,m,names,rfl,rfl,rfl,rfl,rfl,hm,rfl⟩:=hor.resolve_left λh=>h.1 hq
  have hg:=(jM hq).1
  have hp:fO l n s=if aZ (look (build l).1 n).mems s=[] then ([],5) else (aZ (look (build l).1 n).mems s,0):=by unfold fO; rw [if_neg (λh=>h hq)]
  rw [hp]
  simp only [lC,lN]
  obtain ⟨fus,hfl,hfr⟩:=hm n
  obtain ⟨x1,x2,rfl,hx1,hx2⟩:=hfr
  have hna:=lI (s:=s) hx1
  have hln:=Jk (look (build l).1 n).mems s
  have hfw:=hg.few n
  generalize aZ (look (build l).1 n).mems s=xs at hna hln ⊢
  refine cK<|xT<|cQ<|sV (vF Z gL Z)<|sV (vF Z iJ Z)<|sV (vY Z p9) ?_
  refine sM Z<|sV (gq hfl<|bI Z Z pY p8 slq) ?_
  refine sV (iI (k:=2) Z underlying55 Z isAgg52 Z)<|sV (af Z il Z ah) ?_
  refine aH Z Z Fp Z (hna) ?_
  rintro u h' ⟨T,rfl,how2,rfl⟩
  simp only [lC,lN]
  unfold NR
  refine sA Z<|sK [6,7,10] Z<|cS<|cS (fZ (v:=u) (E:=9) (sz:=1) (rows:=xs.map nC) slq λwa wc hwf hwl hwm=>?_)
  rw [List.length_map] at hwf hwl
  subst hwf
  refine cR<|sM Z<|sV (aF Z underlying40)<|sV (dP Z Z)<|sK [6,7,10,31] Z<|cC Z (λhz=>?_)<|λhz=>?_
  ·have hz:xs=[]:=List.eq_nil_of_length_eq_zero Zn
   rw [if_pos hz]
   refine cQ<|sA Z<|sA Z<|sK [6,7] Z<|cT<|xR ?_
   exact aj Z ⟨Y,[],Z,hE,Z,_,Z,Ls.nil⟩ sbq
  ·have hz:xs≠[]:=λh=>by rw [h] at hz; simp at hz
   rw [if_neg hz]
   refine cK<|xT<|cQ<|sM Z<|sA Z<|sA Z<|sK [6,7] Z<|cT (dY (r:=VR (.slice wa xs.length wc) 9 1<|xs.map nC) slq λhok=>?_)
   refine gY [VR (.slice wa xs.length wc) 9 1 (xs.map nC)] Y λY2 hE2 hsel2=>?_
   exact aj Z ⟨Y2,[],Z,hE.trans hE2,Z,_,Z,nm_ls hok (hsel2 _ _ .here) (by show xs.length≤_; omega)⟩ sbq
end
end Go.Fl
