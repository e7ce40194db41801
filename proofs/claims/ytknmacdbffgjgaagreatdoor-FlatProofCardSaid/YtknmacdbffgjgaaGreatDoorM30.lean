/-
  The law FlatProof,walked. Conditions: what is read; the library's table of blanks.
-/
import Derived.Test.YtknmacdbffgjgaaGreatDoorRows
import Derived.Test.YtknmacdbffgjgaaGreatDoorM29
import Derived.Test.YtknmacdbffgjgaaGreatDoorM21
import Derived.ProofKit
import Derived.LaidMore
import Derived.OpenShut
import Derived.Stop.Joined
import Derived.MakeChecks
import Derived.Test.YtknmacdbffgjgaaGreatDoorM28
import Derived.Test.YtknmacdbffgjgaaGreatDoorM18
set_option linter.unusedVariables false
set_option linter.unusedSimpArgs false
set_option maxRecDepth 100000
set_option maxHeartbeats 16000000
namespace Go.Ck
open Go Go.RowKit Go.ChangeShapes Go.WideShapes
structure Kept0 (W w':World):Prop where
 os:w'.os=W.os
 output:w'.output=W.output
 fz:∀ a,a.block<W.heap.size->w'.frozen? a=W.frozen? a
 block:∀ b,b<W.heap.size->w'.heap[b]? = W.heap[b]?
theorem Kept0.frame {W w':World} (h:Kept0 W w') (may:MemPlace->Prop):W.keptBut w' may:=by
 refine ⟨h.os,h.output,λi hi=>?_⟩
 rw [h.block i hi]
 cases hq:W.heap[i]? with
 | none=>rfl
 | some o=>cases o <;> first | exact ⟨rfl,rfl,rfl,λ_ _=>rfl⟩ | exact Or.inr ⟨rfl,rfl⟩ | rfl
theorem MI {P:Program} {k:FuncId} {args:Array Value} {W:World} (h:eu P k args (old W) [] λu _ k'=>k'=[]/\u = .bool true):Calls P k args W λe w'=>e = .returned (.bool true)/\Kept0 W w' :=
 (h [] W<|by simpa using wE W).mono λe w' ⟨v,h',he,⟨Y,k',hh,hE,hk,hv⟩,hH,hS⟩=>by
  subst hk hv hh
  obtain ⟨T,hT⟩:=hE.vw
  have h1:=hT [] w'<|by simpa using hH
  have h2:Holds w' [old W,T]:=h1.perm<|.swap _ _ _
  exact ⟨he,hS.os,hS.output,hS.fz,h2.1⟩
section
variable {H:Type} {enc:TypeId×Value->H} {P:Program} {W W':World} {sp:Nat->Bool}
theorem MJ {f:Func} {s:ChangeSpec} {args:Array Value} {ds gs:List (DataW H)} {before:List MemPlace} {tb:TypeId} {tys:List Ty} (hW:DataW.Whole enc P f.params.toList s.vars false W args.toList ds gs before)
  (hv:s.vars=[]) (hr:f.resultTypes = #[tb]) (htb:P.underlying tb=some .bool) (hf:fitAll P tys f.params.toList=true) (hfn:s.fn H (ds++gs)={ results:=[.lit (.bool true)],args:=ds }) (hk:Kept0 W W') :
  s.post enc P f false true false false W args (.bool true) W':=by
 have hW':=hW
 obtain ⟨p,q,hA,hV,rfl,hfz,hnd⟩:=hW
 rw [hv] at hV
 obtain ⟨rfl,rfl⟩:=trodVars_none hV
 have hres:∀ (b:Nat) (sp:Nat->Bool) (hd:Bool),DataW.TrodAll enc P W' b sp hd f.resultTypes.toList ((Value.bool true).resultList f.resultTypes.size) (s.fn H (ds++[])).results []:=λb sp hd=>by
  rw [hr,hfn]
  exact trodAll_mk1<|shut_bool htb _
 have hargs:∀ sp:Nat->Bool,(∀ x∈p++[],sp x.block=true)->DataW.TrodAll enc P W' 0 sp true f.params.toList args.toList (s.fn H (ds++[])).args p:=λsp hsp=>by
  rw [hfn]
  exact Ci hk.block hf hA λx hx=>hsp x<|List.mem_append_left _ hx
 have hvars:∀ sp:Nat->Bool,DataW.TrodVars enc P W' sp s.vars (s.fn H (ds++[])).vars []:=λsp=>by rw [hv,hfn]; rfl
 have hold:∀ x∈p++[],(λb=>decide (b<W.heap.size)) x.block=true:=λx hx=>by simpa using hW'.lt x hx
 refine ⟨ds,[],p++[],[],p,[],hW',hres _ _ _,hargs _ hold,hvars _,World.keptBut_mono (λx hx=>⟨hx,.inr<|List.mem_append.1 hx⟩) (hk.frame (· ∈ p++[])),λ_=>?_⟩
 refine ⟨ok_one hr Z (okWide_bool_mk htb _),_,_,([]++p)++[],⟨[]++p,[],trodAll_append (hargs _ λ_ _=>rfl) (hres _ _ _),hvars _,Z,λb off hm=>?_,λha=>?_⟩,λx hx _=>by simpa using hx⟩
 ·have hm':MemPlace.cell b off∈p++[]:=by simpa using hm
  rw [hk.fz _ (show b<W.heap.size from of_decide_eq_true (hold _ hm'))]
  exact hfz b off hm'
 ·simpa using hnd ha
end
end Go.Ck
namespace Go.Fl
open Go Go.RowKit Go.ChangeShapes Go.WideShapes Go.Ck Go.Proofs Go.Proofs.Tryz Go.Proofs.YtknmacdbffgjgaaGreatDoor Fx Go.Hr
theorem gSpace : prog.globalNamed "strings.asciiSpace" = some 0 := Zz
theorem tSpace:(prog.globals[0]?).map (·.type)=some 335:=Zz
def HZ : List (String × DataW Unit) := [("unicode.White_Space", Rows.laid_unicode_White_Space), ("strings.asciiSpace", Rows.laid_strings_asciiSpace)]
theorem OV (os:Os) (args:Array Value):laidMetH prog HZ ((World.doorLaid prog 33 os).forCall (λ_ _=>0) ⟨#[],args,[]⟩).memory :=
 laidMetH_of_parts3 (fuel:=8) (laidMet_of_run' 8 Zz Zz) Zz Zz
def JI:List Int:=(List.range 256).map λc=>if Lib.isSp (UInt8.ofNat c) then 1 else 0
theorem OW:(Rows.laid_strings_asciiSpace:DataW Unit) = .agg (JI.map λk=>.lit (.int .u8 k)):=Zz
theorem lt_of_cell {W:World} {p:Addr} {v:Value} (h:W.cell? p=some v):p.block<W.heap.size:=by
 unfold World.cell? at h
 refine Nat.lt_of_not_le λhn=>?_
 rw [Array.getElem?_eq_none hn] at h
 cases h
theorem H5 {W:World} (h:laidMetH prog HZ W):Spc (old W):=by
 rw [MakeChecks.laidMetH_plain _ _ _ Zz] at h
 obtain ⟨ps,⟨g0,t0,cs0,f0,p0,q0,hg0,ht0,hv0,hd0,⟨g1,t1,cs1,f1,p1,q1,hg1,ht1,hv1,hd1,_,_⟩,_⟩,_,_⟩:=h
 obtain rfl:=Option.some.inj<|gSpace.symm.trans hg1
 obtain rfl:=Option.some.inj<|tSpace.symm.trans ht1
 rw [OW] at hd1
 obtain ⟨xs,m1,rfl,hx1,hlen,hn3,hel⟩:=DataW.trod_array underlying335 hd1
 have c5:prog.cellsOf 5=1:=Zz
 have hx1:=(DataW.agg.inj (Prod.mk.inj hx1).1)
 intro c hc
 have h0:=hel c hc
 rw [c5,Nat.mul_one] at h0
 have hxc:xs[c]? = some (xs[c]'(by omega)):=Zy<|by omega
 rw [hxc] at h0
 obtain ⟨k,e1,e2,_⟩:=DataW.trod_int underlying5 h0
 have h2:(xs.map λx=>x.1)[c]? = some (.lit<|.int .u8 k):=by
  rw [List.getElem?_map,hxc,Option.map_some,e2]
 rw [<- hx1,List.getElem?_map] at h2
 have h3:JI[c]? = some (if Lib.isSp (UInt8.ofNat c) then 1 else 0):=by
  unfold JI
  rw [List.getElem?_map,List.getElem?_range hc]; rfl
 rw [h3] at h2
 have hk:k=(if Lib.isSp (UInt8.ofNat c) then 1 else 0):=by
  have:=Option.some.inj h2
  simpa using this.symm
 subst hk
 have hcell:=World.var?_cell hg1 hv1 c
 have h4:cs1.toList[c]? = some (.int .u8 (if Lib.isSp (UInt8.ofNat c) then 1 else 0)):=by
  have h5:=congrArg List.head? e1
  rw [List.head?_take] at h5
  simpa [List.head?_drop] using h5
 have h6:W.cell? ⟨0,c,none⟩=some (.int .u8 (if Lib.isSp (UInt8.ofNat c) then 1 else 0)):=by
  rw [hcell,<- Array.getElem?_toList]; exact h4
 exact M3 (lt_of_cell h6) h6
end Go.Fl
namespace Go.Ck
open Go Go.RowKit
section
variable {P:Program} {e:Env} {h:SH} {ty:TypeId}
theorem v_sgeq {t t':TypeId} {x y:Operand} {a b:Bs} (hx:e.ev? x=some (sv a)) (hy:e.ev? y=some (sv b)):Vop P e h (.binOp .geq t x y t') ty (.bool (!(Op.bytesLess a b))):=
 ⟨by simp,by simp,λρ w d pos after g hρ _=>by simp [execOp,hρ x _ hx,hρ y _ hy,eqGuard,binOp,Op.stringOp,iG]⟩
end
end Go.Ck
namespace Go.Fl
open Go Go.RowKit Go.Ck Go.Proofs Go.Proofs.Tryz Go.Proofs.YtknmacdbffgjgaaGreatDoor Fx Go.Hr
theorem msrt_at {ms:List Mb} (h:qE ms) {i:Nat} (hi:i<ms.length) (h0:0<i):lt (ms[i - 1]'(by omega)).name ms[i].name=true :=
 List.pairwise_iff_getElem.1 h (i - 1) i (by omega) hi (by omega)
attribute [local irreducible] Go.Ck.Sub St Cd Xt Nx DrL LsW
section
variable {X:Res} {v:Value} {l:FS}
theorem ED (hX:Spc X) (hl:Ls X v l) (hcr:Cre X v l) {gv:Value} {g:List Fl} (hgl:Ls X gv g):eu prog 9 #[v,gv] X [] λu Y k'=>k'=[]/\u = .bool true:=by
 have hml:maxLen=9223372036854775807:=rfl
 have hsm:=Oo hcr hl
 have hsn:=λ(Y:Res) (hE:Ext X Y)=>Mx<|hX.up hE
 have hlaw:=Li (l:=l) g
 have hfl:=λ(hS:iW l)=>Ht hX hl hS
 have hcf:=λ(Y:Res) (hE:Ext X Y) (hS:iW l) (fv:Value) (fs:List Fl) (hf:Ls Y fv fs)=>Bh (hX.up hE) (hl.up hE) hS hf
 have hfo:=λ(Y:Res) (hE:Ext X Y) (hS:iW l) (n:Nm)=>xu (hX.up hE) (hl.up hE) hS n
 have hmo:=λ(Y:Res) (hE:Ext X Y) (hS:iW l) (c n:Nm)=>Hu (hX.up hE) (hl.up hE) hS c n
 obtain ⟨vAq,vK,rfl,_⟩:=id hl.form
 obtain ⟨gA,gK,rfl,_⟩:=id hgl.form
 unfold eu at *
 refine fw (n:=119) func9 Z Z (len Z) λhr w0 hw0=>?_
 refine cQ<|sA Z<|sN<|nT<|cS<|cQ<|sM Z<|aJ Z Z en10 Z (hsm) ?_
 rintro u h' ⟨ok,rfl,rfl,hok⟩
 simp only [lC,lN]
 refine sV (aZ Z)<|sM Z ?_
 cases ok with
 | false =>
  iterate 3 refine aB rfl rfl rfl ?_
  refine sV (vQ Z Z)<|sK [0,1,4,23] Z<|aQ Z ?_
  refine cQ<|bM hw0 Z Z en11 Z (hsn X<|Ext.refl X) ?_
  rintro u h' ⟨Y,k',rfl,hE,rfl,rfl⟩
  simp only [lC,lN]
  refine sA Z<|sK [4] Z<|cT<|xR ?_
  exact aj Z ⟨Y,[],Z,hE,Z,Z⟩ sbq
 | true =>
  have hS:=(hok rfl).short
  have hfl:=hfl hS
  have hcf:=λ(Y:Res) (hE:Ext X Y)=>hcf Y hE hS
  have hfo:=λ(Y:Res) (hE:Ext X Y)=>hfo Y hE hS
  have hmo:=λ(Y:Res) (hE:Ext X Y)=>hmo Y hE hS
  clear hok hsm hcr
  refine sG Z Z (vM Z)<|sG Z Z (aF Z underlying32)<|sG Z Z (bW Z Z)<|sV (vP Z Z)<|sK [0,1,4,23] Z<|cC Z (λhlg=>?_)<|λhlg=>?_
  ·refine cQ<|bM hw0 Z Z en11 Z (hsn X<|Ext.refl X) ?_
   rintro u h' ⟨Y,k',rfl,hE,rfl,rfl⟩
   simp only [lC,lN]
   refine sA Z<|sK [4] Z<|cT<|xR ?_
   exact aj Z ⟨Y,[],Z,hE,Z,Z⟩ sbq
  ·refine cK<|xT<|cQ<|sM Z<|bM hw0 Z Z en13 Z (hfl) ?_
   rintro u h' ⟨Y,k',rfl,hE,rfl,w,rfl,hw⟩
   simp only [lC,lN]
   obtain ⟨wA,wK,rfl,hwl,hwm,_⟩:=id hw.form
   have hc1:=hcf Y hE _ _<|hgl.up hE
   refine sM Z<|sV (ah Z Z)<|sV (ah Z Z)<|sA Z<|sA Z<|sK [0,1,4,5,6] Z<|cQ<|sM Z<|sM Z<|bM hw0 Z Z en44 Z (hc1) ?_
   rintro u h' ⟨Zq,k',rfl,hZ,rfl,rfl⟩
   simp only [lC,lN]
   have hEZ:=hE.trans hZ
   have hwZ:=hw.up hZ
   clear hc1 hw
   refine sV (dE Z Z)<|sA Z<|sK [0,1,4,5,6,7] Z<|cS<|cQ<|sM Z<|sV (bK Z Z)<|sK [0,1,4,5,7,35] Z<|cC Z (λhe=>?_)<|λhe=>?_
   ·have he:(dR l).2≠0:=Zj
    have h1:=hlaw.1 he
    refine cQ<|bM hw0 Z Z en11 Z (hsn Zq hEZ) ?_
    rintro u h' ⟨W,k',rfl,hW,rfl,rfl⟩
    simp only [lC,lN]
    refine sM Z<|sG Z Z (vM Z)<|sG Z Z (aZ Z)<|sV (vQ Z Z)<|sA Z<|sK [4] Z<|cT<|xR ?_
    rw [show (!(iJ l g == 0))=true by simpa using h1]
    exact aj Z ⟨W,[],Z,hEZ.trans hW,Z,Z⟩ sbq
   ·have he:(dR l).2=0:=Zj
    obtain ⟨h1,h2,h3⟩:=hlaw.2 he
    have hc2:=hcf Zq hEZ _ _ hwZ
    rw [h1] at hc2
    generalize (dR l).1=xs at hwZ hc2 h2 h3 hwl
    generalize hB:(iJ l g == 0)=B
    refine cK<|xT<|cS<|cS<|kX (ex:=.normal) (α := {q:Res // Ext X q/\Ls q (.slice wA xs.length wK) xs}) (λq=>[(0,.slice vAq l.length vK),(5,.slice wA xs.length wK),(53,.bool false)]) (λq=>q.1::hr) (λhcont=>?_)<|λq=>?_
    ·refine cR<|sM Z<|sM Z<|bM hw0 Z Z en44 Z (hc2) ?_
     rintro u h' ⟨W,k',rfl,hW,rfl,rfl⟩
     simp only [lC,lN]
     have hEW:=hEZ.trans hW
     have hwW:=hwZ.up hW
     have hgW:=hgl.up hEW
     clear hc2 hwZ hZ hE hW hEZ hlaw h1
     refine sV (bK Z Z)<|sM Z<|sG Z Z (vM Z)<|sG Z Z (vM Z) ?_
     cases B with
     | true =>
      have h2:=h2<|by simpa using hB
      have heq:=eq18_ct hwW hgW
      rw [decide_eq_true h2] at heq
      refine sG Z Z (vM Z)<|sG Z Z (vM Z)<|bJ Z Z Z Z en18 Z (heq) ?_
      refine sG Z Z (aZ Z)<|sG Z Z (vQ Z Z)<|sV (vP Z Z)<|sN<|nK [0,4,5,53] Z<|ax ?_
      exact hcont ⟨W,hEW,hwW⟩ _ _ ⟨Z,Z,Z,trivial⟩ sbq
     | false =>
      iterate 4 refine aB rfl rfl rfl ?_
      refine sG Z Z (vP Z Z)<|sV (vP Z Z)<|sN<|nK [0,4,5,53] Z<|ax ?_
      exact hcont ⟨W,hEW,hwW⟩ _ _ ⟨Z,Z,Z,trivial⟩ sbq
    obtain ⟨W,hEW,hwW⟩:=q
    dsimp only
    clear h2 hc2 hwZ hZ hE hEZ hlaw h1 hB
    refine xT<|aH Z ?_
    refine cK<|xT<|cS<|cQ<|sM Z<|sV (aF Z underlying32)<|sM Z<|sK [0,54,55,56] Z<|cB<|aW (σ := Res×Nat) (λq=>[(0,.slice vAq l.length vK),(54,.slice wA xs.length wK),(55,.int .i64 xs.length),(56,.int .i64 (q.2:Nat))]) (λq=>q.1::hr) (λq=>Ext W q.1/\q.2≤xs.length) (λq=>xs.length - q.2) (W,0) ⟨Ext.refl W,Nat.zero_le _⟩ ?_
    rintro ⟨Y,i⟩ ⟨hWY,hi⟩
    simp only at hWY hi
    dsimp only
    have hXY:=hEW.trans hWY
    refine cQ<|sV (aN Z Z)<|sN<|nT<|cS<|cC Z (λhd=>?_)<|λhd=>?_
    ·have hlt:i<xs.length:=Zx
     obtain ⟨fb,fo,fcap,fus,e1,hfus,hfrd,hfr⟩:=(hwW.up hWY).at<|Zy hlt
     obtain ⟨rfl,rfl⟩:wA=some ⟨fb,fo,none⟩/\wK=fcap:=by cases e1; exact ⟨rfl,rfl⟩
     obtain ⟨hf1,hf2,hf3⟩:=h3 _<|List.getElem_mem hlt
     generalize xs[i]=f at hfr hf1 hf2 hf3
     have hfo1:=Enc.ones hfr
     have hfr0:=hfr
     obtain ⟨fm,f3,rfl,hfm,hf3'⟩:=hfr
     obtain ⟨mA,mK,rfl,hml1,hmm1,_⟩:=id hfm.form
     have hfo2:=hfo Y hXY f.name
     rw [hf1] at hfo2
     refine cK<|xT<|cS<|cB<|cQ<|sV (vI (k:=i) Z Z sl32 Z hlt Z)<|sV (af Z tT Z hfrd) ?_
     refine ak A9 λb9=>?_
     refine ai Z Z wG Z hfo1 ?_
     refine sK [0,9,54,55,56] Z<|cQ<|sM Z<|sV (vF Z wH Z)<|sV (vY Z ld9) ?_
     refine bM hw0 Z Z en45 Z (hfo2) ?_
     rintro u h' ⟨Y2,k',rfl,hY2,rfl,us2,rfl,hr2⟩
     simp only [lC,lN]
     have hr2:Enc.rep Y2 us2 f:=hr2
     have hro2:=Enc.ones hr2
     have heq:=KG (Enc.up hY2.rd hfr0) hr2
     rw [decide_eq_true (rfl:f=f)] at heq
     obtain ⟨gm,g3,rfl,hgm,hg3⟩:=hr2
     refine sM Z<|sV (ah Z Z)<|sV (ah Z Z) (ak A9 λb10=>?_)
     refine ai Z Z wG Z hro2 ?_
     refine sA Z<|sK [0,9,10,11,54,55,56] Z<|cS<|cQ<|sM Z<|sV (bK Z Z)<|sM Z<|sG Z Z (af Z tT Z ag) ?_
     refine sG Z Z (af Z tT Z ag) ?_
     refine bJ Z Z Z Z en46 Z (heq) ?_
     refine sG Z Z (aZ Z)<|sV (vP Z Z)<|sK [0,9,54,55,56,74] Z<|aH Z ?_
     refine cK<|xT<|cQ<|sV (vF Z iO Z)<|sV (vY Z lK) ?_
     refine sV (aF Z underlying52)<|sM Z<|sK [0,9,54,55,56,76,77,78] Z<|cB ?_
     clear heq hfo2
     have hXY2:=hXY.trans hY2
     have hfm2:=hfm.up hY2
     refine aW (σ := Res×Nat) (λq=>[(0,.slice vAq l.length vK),(9,.pointer (some ⟨b9,0,none⟩)),(54,.slice (some ⟨fb,fo,none⟩) xs.length wK),(55,.int .i64 xs.length),(56,.int .i64 (i:Nat)),(76,.slice mA f.mems.length mK),(77,.int .i64 f.mems.length),(78,.int .i64 (q.2:Nat))]) (λq=>pt b9 (cl [sv f.name,.bool f.dfd,.slice mA f.mems.length mK,f3] 55)::q.1::hr) (λq=>Ext Y2 q.1/\q.2≤f.mems.length) (λq=>f.mems.length - q.2) (Y2,0) ⟨Ext.refl Y2,Nat.zero_le _⟩ ?_
     rintro ⟨V,j⟩ ⟨hYV,hj⟩
     simp only at hYV hj
     dsimp only
     have hXV:=hXY2.trans hYV
     refine cQ<|sV (aN Z Z)<|sN<|nT<|cS<|cC Z (λhd2=>?_)<|λhd2=>?_
     ·have hltj:j<f.mems.length:=Zw
      have hg:=Zy hltj
      obtain ⟨gb,go,gcap,gus,e2,hgus,hgrd,hgr⟩:=(hfm2.up hYV).at hg
      obtain ⟨rfl,rfl⟩:mA=some ⟨gb,go,none⟩/\mK=gcap:=by cases e2; exact ⟨rfl,rfl⟩
      have hm1:=hf3 _<|List.getElem_mem hltj
      have hprev:0<j->∃ n,Rd V ⟨gb,go+(j - 1) * 14+0,none⟩ (sv n)/\lt n f.mems[j].name=true:=λh0=>by
       have hlt1:j - 1<f.mems.length:=by omega
       obtain ⟨gb',go',gcap',gus',e3,_,hgrd',hgr'⟩:=(hfm2.up hYV).at<|Zy hlt1
       cases e3
       obtain ⟨y2,y5,yy,y11,y12,y13,rfl,-⟩:=bZ hgr'
       exact ⟨_,lT (k:=0) hgrd' Z,msrt_at hf2 hltj h0⟩
      generalize f.mems[j]=m at hgr hm1 hprev
      have hgo1:=Enc.ones hgr
      have hgr0:=hgr
      obtain ⟨x2,x5,xy,x11,x12,x13,rfl,-⟩:=bZ hgr
      have hmo2:=hmo V hXV f.name m.name
      rw [hm1] at hmo2
      unfold fI at *
      refine cK<|xT<|cS<|cB<|cQ<|sM Z<|sV (vI (k:=j) Z Z kQ Z hltj Z)<|sV (af Z dJ Z hgrd) ?_
      refine ak iR λb13=>?_
      refine sA Z<|ai Z Z gF Z hgo1 ?_
      refine sK [0,9,12,13,54,55,56,76,77,78] Z<|cQ<|sM Z<|sV (vF Z wH Z)<|sV (vY Z ld9) ?_
      refine sV (vF Z dC Z)<|sV (vY Z ld9) ?_
      refine bM hw0 Z Z en30 Z (hmo2) ?_
      rintro u h' ⟨V2,k',rfl,hV2,rfl,us3,rfl,hr3⟩
      simp only [lC,lN]
      have hr3:Enc.rep V2 us3 m:=hr3
      have hro3:=Enc.ones hr3
      have heq:=KF (Enc.up hV2.rd hgr0) hr3
      rw [decide_eq_true (rfl:m=m)] at heq
      obtain ⟨z2,z5,zy,z11,z12,z13,rfl,-⟩:=bZ hr3
      unfold fI at *
      refine sM Z<|sV (ah Z Z)<|sV (ah Z Z) (ak iR λb14=>?_)
      refine ai Z Z gF Z hro3 ?_
      refine sA Z<|sK [0,9,12,13,14,15,54,55,56,76,77,78] Z<|cS<|bB (ork [(0,2),(1,2),(2,2),(3,1),(4,1),(5,1),(6,2),(7,2),(8,2),(9,2),(10,2),(11,2),(12,2),(13,1),(14,2),(15,2),(16,2),(17,2),(18,1),(19,2),(20,1),(21,2),(22,2),(23,2)] .nil) (λ_=>true) mixed Zz ?_
      refine dV Z (vM Z)<|dV Z (bK Z Z)<|dV Z (vM Z)<|gX Z Z Z (af Z dJ Z ag) ?_
      refine gX Z Z Z (af Z dJ Z ag) ?_
      refine vg Z Z Z Z Z en47 Z (heq) ?_
      refine cu Z Z Z (aZ Z)<|dV Z (vP Z Z)<|dV Z (vM Z)<|cu Z Z Z (vM Z)<|cu Z Z Z (bW Z Z)<|cu Z Z Z (vM Z) ?_
      by_cases h0:0<j
      ·obtain ⟨pn,hpn,hpl⟩:=hprev h0
       have hpn:=hV2.rd _ _ hpn
       rw [show decide ((0:Int)<(j:Nat))=true from decide_eq_true (by omega)]
       refine cu Z Z Z (vF Z iO Z)<|gX Z Z Z (vY Z lK) ?_
       refine cu Z Z Z (vM Z)<|cu Z Z Z (zn Z Z Z0)<|cu Z Z Z (vI (k:=j - 1) Z Z kQ (by omega) (by omega) Z)<|cu Z Z Z (vF Z dC Z)<|gX Z Z Z (vY Z ld9 (ha:=⟨V2,_,slq,hpn⟩)) ?_
       refine cu Z Z Z (vF Z dC Z)<|gX Z Z Z (vY Z ld9) ?_
       refine cu Z Z Z (v_sgeq Z Z) ?_
       rw [show (!(Op.bytesLess pn m.name))=false by rw [show Op.bytesLess pn m.name=true from hpl]; rfl]
       refine cu Z Z Z (vQ Z Z)<|dV Z (vP Z Z)<|bA<|nK [0,9,54,55,56,76,77,78,115] Z<|nT<|aH Z ?_
       refine cK<|xB<|xT<|cR<|sV (aI Z Z Z0)<|sM Z<|sN<|nK [0,9,54,55,56,76,77,78] Z<|ax ?_
       refine aM (V2,j+1) ⟨hYV.trans hV2,hltj⟩ (by show f.mems.length - (j+1)<f.mems.length - j; omega)
      ·rw [show decide ((0:Int)<(j:Nat))=false from decide_eq_false (by omega)]
       refine gP Z Z Z Z ?_
       refine jh Z Z Z Z ?_
       iterate 4 refine gP rfl rfl rfl rfl ?_
       refine jh Z Z Z Z ?_
       refine gP Z Z Z Z ?_
       refine jh Z Z Z Z ?_
       refine gP Z Z Z Z ?_
       refine cu Z Z Z (vP Z Z)<|dV Z (vP Z Z)<|bA<|nK [0,9,54,55,56,76,77,78,115] Z<|nT<|aH Z ?_
       refine cK<|xB<|xT<|cR<|sV (aI Z Z Z0)<|sM Z<|sN<|nK [0,9,54,55,56,76,77,78] Z<|ax ?_
       refine aM (V2,j+1) ⟨hYV.trans hV2,hltj⟩ (by show f.mems.length - (j+1)<f.mems.length - j; omega)
     ·refine aC<|xE<|xE<|xY<|xB<|xT<|cR<|sV (aI Z Z Z0)<|sM Z<|sN<|nK [0,54,55,56] Z<|ax ?_
      refine aM (V,i+1) ⟨(hWY.trans hY2).trans hYV,hlt⟩ (by show xs.length - (i+1)<xs.length - i; omega)
    ·refine aC<|xE<|xE<|xY<|xT<|cQ<|bM hw0 Z Z en11 Z (hsn Y hXY) ?_
     rintro u h' ⟨V,k',rfl,hV,rfl,rfl⟩
     simp only [lC,lN]
     refine sA Z<|sK [4] Z<|cT ?_
     exact aj Z ⟨V,[],Z,hXY.trans hV,Z,Z⟩ sbq
end
end Go.Fl
