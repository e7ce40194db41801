/-
  The law FlatAllSeeds,walked. Conditions: what is read; the library's table of blanks.
-/
import Derived.Test.YtknmacdbffgjgaaGreatDoorRows
import Derived.Test.YtknmacdbffgjgaaGreatDoorP20
import Derived.Test.YtknmacdbffgjgaaGreatDoorP14
import Derived.ProofKit
import Derived.LaidMore
import Derived.OpenShut
import Derived.Stop.Joined
import Derived.MakeChecks
import Derived.Test.YtknmacdbffgjgaaGreatDoorP19
import Derived.Test.YtknmacdbffgjgaaGreatDoorP12
import Derived.Test.YtknmacdbffgjgaaGreatDoorP18
set_option linter.unusedVariables false
set_option linter.unusedSimpArgs false
set_option maxRecDepth 100000
set_option maxHeartbeats 16000000
namespace Go.Ck
open Go Go.RowKit Go.ChangeShapes Go.WideShapes
structure Kept0 (W w':World):Prop where
 os:w'.os=W.os
 output:w'.output=W.output
 fz:∀ a,a.block<W.heap.size->w'.frozen? a=W.frozen? a
 block:∀ b,b<W.heap.size->w'.heap[b]? = W.heap[b]?
theorem Kept0.frame {W w':World} (h:Kept0 W w') (may:MemPlace->Prop):W.keptBut w' may:=by
 refine ⟨h.os,h.output,λi hi=>?_⟩
 rw [h.block i hi]
 cases hq:W.heap[i]? with
 | none=>rfl
 | some o=>cases o <;> first | exact ⟨rfl,rfl,rfl,λ_ _=>rfl⟩ | exact Or.inr ⟨rfl,rfl⟩ | rfl
theorem LY {P:Program} {k:FuncId} {args:Array Value} {W:World} (h:dS P k args (old W) [] λu _ k'=>k'=[]/\u = .bool true):Calls P k args W λe w'=>e = .returned (.bool true)/\Kept0 W w' :=
 (h [] W<|by simpa using wm W).mono λe w' ⟨v,h',he,⟨Y,k',hh,hE,hk,hv⟩,hH,hS⟩=>by
  subst hk hv hh
  obtain ⟨T,hT⟩:=hE.vw
  have h1:=hT [] w'<|by simpa using hH
  have h2:Holds w' [old W,T]:=h1.perm<|.swap _ _ _
  exact ⟨he,hS.os,hS.output,hS.fz,h2.1⟩
section
variable {H:Type} {enc:TypeId×Value->H} {P:Program} {W W':World} {sp:Nat->Bool}
theorem LZ {f:Func} {s:ChangeSpec} {args:Array Value} {ds gs:List (DataW H)} {before:List MemPlace} {tb:TypeId} {tys:List Ty} (hW:DataW.Whole enc P f.params.toList s.vars false W args.toList ds gs before)
  (hv:s.vars=[]) (hr:f.resultTypes = #[tb]) (htb:P.underlying tb=some .bool) (hf:fitAll P tys f.params.toList=true) (hfn:s.fn H (ds++gs)={ results:=[.lit (.bool true)],args:=ds }) (hk:Kept0 W W') :
  s.post enc P f false true false false W args (.bool true) W':=by
 have hW':=hW
 obtain ⟨p,q,hA,hV,rfl,hfz,hnd⟩:=hW
 rw [hv] at hV
 obtain ⟨rfl,rfl⟩:=trodVars_none hV
 have hres:∀ (b:Nat) (sp:Nat->Bool) (hd:Bool),DataW.TrodAll enc P W' b sp hd f.resultTypes.toList ((Value.bool true).resultList f.resultTypes.size) (s.fn H (ds++[])).results []:=λb sp hd=>by
  rw [hr,hfn]
  exact trodAll_mk1<|shut_bool htb _
 have hargs:∀ sp:Nat->Bool,(∀ x∈p++[],sp x.block=true)->DataW.TrodAll enc P W' 0 sp true f.params.toList args.toList (s.fn H (ds++[])).args p:=λsp hsp=>by
  rw [hfn]
  exact BZ hk.block hf hA λx hx=>hsp x<|List.mem_append_left _ hx
 have hvars:∀ sp:Nat->Bool,DataW.TrodVars enc P W' sp s.vars (s.fn H (ds++[])).vars []:=λsp=>by rw [hv,hfn]; rfl
 have hold:∀ x∈p++[],(λb=>decide (b<W.heap.size)) x.block=true:=λx hx=>by simpa using hW'.lt x hx
 refine ⟨ds,[],p++[],[],p,[],hW',hres _ _ _,hargs _ hold,hvars _,World.keptBut_mono (λx hx=>⟨hx,.inr<|List.mem_append.1 hx⟩) (hk.frame (· ∈ p++[])),λ_=>?_⟩
 refine ⟨ok_one hr Z (okWide_bool_mk htb _),_,_,([]++p)++[],⟨[]++p,[],trodAll_append (hargs _ λ_ _=>rfl) (hres _ _ _),hvars _,Z,λb off hm=>?_,λha=>?_⟩,λx hx _=>by simpa using hx⟩
 ·have hm':MemPlace.cell b off∈p++[]:=by simpa using hm
  rw [hk.fz _ (show b<W.heap.size from of_decide_eq_true (hold _ hm'))]
  exact hfz b off hm'
 ·simpa using hnd ha
end
end Go.Ck
namespace Go.Fl
open Go Go.RowKit Go.ChangeShapes Go.WideShapes Go.Ck Go.Proofs Go.Proofs.Tryz Go.Proofs.YtknmacdbffgjgaaGreatDoor Fx Go.Hr
theorem gSpace : prog.globalNamed "strings.asciiSpace" = some 0 := Zz
theorem tSpace:(prog.globals[0]?).map (·.type)=some 335:=Zz
def G5 : List (String × DataW Unit) := [("unicode.White_Space", Rows.laid_unicode_White_Space), ("strings.asciiSpace", Rows.laid_strings_asciiSpace)]
theorem Oe (os:Os) (args:Array Value):laidMetH prog G5 ((World.doorLaid prog 33 os).forCall (λ_ _=>0) ⟨#[],args,[]⟩).memory :=
 laidMetH_of_parts3 (fuel:=8) (laidMet_of_run' 8 Zz Zz) Zz Zz
def Jd:List Int:=(List.range 256).map λc=>if Lib.isSp (UInt8.ofNat c) then 1 else 0
theorem Oh:(Rows.laid_strings_asciiSpace:DataW Unit) = .agg (Jd.map λk=>.lit (.int .u8 k)):=Zz
theorem lt_of_cell {W:World} {p:Addr} {v:Value} (h:W.cell? p=some v):p.block<W.heap.size:=by
 unfold World.cell? at h
 refine Nat.lt_of_not_le λhn=>?_
 rw [Array.getElem?_eq_none hn] at h
 cases h
theorem G6 {W:World} (h:laidMetH prog G5 W):Spc (old W):=by
 rw [MakeChecks.laidMetH_plain _ _ _ Zz] at h
 obtain ⟨ps,⟨g0,t0,cs0,f0,p0,q0,hg0,ht0,hv0,hd0,⟨g1,t1,cs1,f1,p1,q1,hg1,ht1,hv1,hd1,_,_⟩,_⟩,_,_⟩:=h
 obtain rfl:=Option.some.inj<|gSpace.symm.trans hg1
 obtain rfl:=Option.some.inj<|tSpace.symm.trans ht1
 rw [Oh] at hd1
 obtain ⟨xs,m1,rfl,hx1,hlen,hn3,hel⟩:=DataW.trod_array underlying335 hd1
 have c5:prog.cellsOf 5=1:=Zz
 have hx1:=(DataW.agg.inj (Prod.mk.inj hx1).1)
 intro c hc
 have h0:=hel c hc
 rw [c5,Nat.mul_one] at h0
 have hxc:xs[c]? = some (xs[c]'(by omega)):=Zy<|by omega
 rw [hxc] at h0
 obtain ⟨k,e1,e2,_⟩:=DataW.trod_int underlying5 h0
 have h2:(xs.map λx=>x.1)[c]? = some (.lit<|.int .u8 k):=by
  rw [List.getElem?_map,hxc,Option.map_some,e2]
 rw [<- hx1,List.getElem?_map] at h2
 have h3:Jd[c]? = some (if Lib.isSp (UInt8.ofNat c) then 1 else 0):=by
  unfold Jd
  rw [List.getElem?_map,List.getElem?_range hc]; rfl
 rw [h3] at h2
 have hk:k=(if Lib.isSp (UInt8.ofNat c) then 1 else 0):=by
  have:=Option.some.inj h2
  simpa using this.symm
 subst hk
 have hcell:=World.var?_cell hg1 hv1 c
 have h4:cs1.toList[c]? = some (.int .u8 (if Lib.isSp (UInt8.ofNat c) then 1 else 0)):=by
  have h5:=congrArg List.head? e1
  rw [List.head?_take] at h5
  simpa [List.head?_drop] using h5
 have h6:W.cell? ⟨0,c,none⟩=some (.int .u8 (if Lib.isSp (UInt8.ofNat c) then 1 else 0)):=by
  rw [hcell,<- Array.getElem?_toList]; exact h4
 exact Mm (lt_of_cell h6) h6
end Go.Fl
namespace Go.Fl
open Go Go.RowKit Go.Ck Go.Proofs Go.Proofs.Tryz Go.Proofs.YtknmacdbffgjgaaGreatDoor Fx Go.Hr
theorem Oi {l:FS} (h:Good l) {f:Fl} (hf:f∈(gQ l).1):(bK l f.name).isSome=true/\f.mems=msF l f.name:=by
 rw [h.flats] at hf
 obtain ⟨n,hn,rfl⟩:=List.mem_map.1 hf
 have hc:=(ic h.sys).1 hn
 obtain ⟨h1,h2,_⟩:=h.mems hc
 rw [h1]; exact ⟨hc,h2⟩
theorem L6 {l:FS} (h:Good l) (c:Nm) (s:Sd):(fQ l c s).1.length≤60:=by
 have h1:(aY (look (build l).1 c).mems s).length≤60:=by
  unfold aY
  rw [List.length_map]
  exact Nat.le_trans (List.length_filter_le _ _)<|h.flb.few c
 unfold fQ
 split
 ·simp
 ·split
  ·simp
  ·exact h1
attribute [local irreducible] Go.Ck.Sub St Cd Xt Nx DrL LsW
section
variable {X:Res} {v:Value} {l:FS}
theorem yJ (hX:Spc X) (hl:Ls X v l) (hcr:Cre X v l) (low mid high name:Nm):dS prog 8 #[v,sv low,sv mid,sv high,sv name] X [] λu Y k'=>k'=[]/\u = .bool true:=by
 have hml:maxLen=9223372036854775807:=rfl
 have hrb:reachBytes=140737488351232:=rfl
 have hsm:=NH hcr hl
 have hsn:=λ(Y:Res) (hE:Ext X Y)=>LU<|hX.up hE
 have hfl:=λ(hS:iJ l)=>Oc hX hl hS
 have hna:=λ(Y:Res) (hE:Ext X Y) (hS:iJ l) (n:Nm) (s:Sd)=>Bh (hX.up hE) (hl.up hE) hS n s
 have hse:=λ(Y:Res) (hE:Ext X Y) (hS:iJ l) (n:Nm) (s:Sd)=>SelA_ct (hX.up hE) (hl.up hE) hS n s
 have hve:=λ(Y:Res) (hE:Ext X Y) (hS:iJ l) (d c n:Nm)=>Bi (hX.up hE) (hl.up hE) hS d c n
 have hmo:=λ(Y:Res) (hE:Ext X Y) (hS:iJ l) (c n:Nm)=>GQ (hX.up hE) (hl.up hE) hS c n
 have hab:=λ(Y:Res) (hE:Ext X Y) (c:Nm)=>Am (tu<|hl.up hE) c
 obtain ⟨vAq,vK,rfl,_⟩:=id hl.form
 unfold dS at *
 refine fu (n:=234) func8 Z Z (len Z) λhr w0 hw0=>?_
 refine cQ<|sA Z<|sN<|nT<|cS<|cQ<|sM Z<|aH Z Z en10 Z (hsm) ?_
 rintro u h' ⟨ok,rfl,rfl,hok⟩
 simp only [lC,lN]
 refine sV (bn Z)<|sK [0,1,2,3,4,10,43] Z ?_
 cases ok with
 | false =>
  refine aT Z ?_
  refine cQ<|bF hw0 Z Z en11 Z (hsn X<|Ext.refl X) ?_
  rintro u h' ⟨V,k',rfl,hV,rfl,rfl⟩
  simp only [lC,lN]
  refine sA Z<|sK [10] Z<|cT<|xR ?_
  exact aj Z ⟨V,[],Z,hV,Z,Z⟩ sbq
 | true =>
  have hS:=(hok rfl).short
  have hfl:=hfl hS
  have hna:=λ(Y:Res) (hE:Ext X Y)=>hna Y hE hS
  have hse:=λ(Y:Res) (hE:Ext X Y)=>hse Y hE hS
  have hve:=λ(Y:Res) (hE:Ext X Y)=>hve Y hE hS
  have hmo:=λ(Y:Res) (hE:Ext X Y)=>hmo Y hE hS
  clear hok hsm hcr
  refine aG Z ?_
  refine cK<|xT<|cQ<|sM Z<|bF hw0 Z Z en13 Z (hfl) ?_
  rintro u h' ⟨Y,k',rfl,hE,rfl,w,rfl,hw⟩
  simp only [lC,lN]
  obtain ⟨wA,wK,rfl,hwl,hwm,_⟩:=id hw.form
  clear hfl
  refine sM Z<|sV (af Z Z)<|sV (af Z Z)<|sA Z<|sA Z<|sK [0,1,2,3,4,10,11,12] Z<|cS<|cQ<|sM Z<|sV (bP Z Z)<|sK [0,1,2,3,4,10,11,51] Z<|cC Z (λhe=>?_)<|λhe=>?_
  ·refine cQ<|bF hw0 Z Z en11 Z (hsn Y hE) ?_
   rintro u h' ⟨V,k',rfl,hV,rfl,rfl⟩
   simp only [lC,lN]
   refine sA Z<|sK [10] Z<|cT<|xR ?_
   exact aj Z ⟨V,[],Z,hE.trans hV,Z,Z⟩ sbq
  ·have he:(gQ l).2=0:=Zj
   have hg:=Aw.1 he
   have hfa:=λ(f:Fl) (hf:f∈(gQ l).1)=>Oi hg hf
   obtain ⟨hs1,hs2⟩:=KS hg
   generalize (gQ l).1=xs at hw hfa hwl
   refine cK<|xT<|cS<|cQ<|sM Z<|sV (aF Z underlying32)<|sM Z<|sK [0,1,2,3,4,10,11,53,54,55] Z<|cB<|aX (σ := Res×Nat) (λq=>[(0,.slice vAq l.length vK),(1,sv low),(2,sv mid),(3,sv high),(4,sv name),(11,.slice wA xs.length wK),(53,.slice wA xs.length wK),(54,.int .i64 xs.length),(55,.int .i64 (q.2:Nat))]) (λq=>q.1::hr) (λq=>Ext Y q.1/\q.2≤xs.length) (λq=>xs.length - q.2) (Y,0) ⟨Ext.refl Y,Nat.zero_le _⟩ ?_
   rintro ⟨Y1,i⟩ ⟨hY1,hi⟩
   simp only at hY1 hi
   dsimp only
   have hE1:=hE.trans hY1
   refine cQ<|sV (aN Z Z)<|sN<|nT<|cS<|cC Z (λhd=>?_)<|λhd=>?_
   ·have hlt:i<xs.length:=Zx
    obtain ⟨fb,fo,fcap,fus,e1,hfus,hfrd,hfr⟩:=(hw.up hY1).at<|Zy hlt
    obtain ⟨rfl,rfl⟩:wA=some ⟨fb,fo,none⟩/\wK=fcap:=by cases e1; exact ⟨rfl,rfl⟩
    obtain ⟨hfc,hfm⟩:=hfa _<|List.getElem_mem hlt
    generalize xs[i]=f at hfr hfc hfm
    have hfo1:=Enc.ones hfr
    obtain ⟨f2,f3,rfl,-⟩:=hfr
    have hab1:=hab Y1 hE1 f.name
    rw [show dJ (bi l) [f.name]=0 from d9.2 ⟨hg.sys,λk hk=>by rw [List.mem_singleton] at hk; subst hk; rw [dE]; exact hfc⟩] at hab1
    rw [show okL 0 (above (bi l) f.name)=above (bi l) f.name from rfl] at hab1
    have hal:=kX hg.right hfc
    refine cK<|xT<|cS<|cB<|cQ<|sV (vI (k:=i) Z Z sl32 Z hlt Z)<|sV (ag Z EQ Z hfrd) ?_
    refine au ES λb14=>?_
    refine ai Z Z zS Z hfo1 ?_
    refine sK [0,1,2,3,4,11,14,53,54,55] Z<|cQ<|sM Z<|sV (vF Z DD Z)<|sV (vY Z ld9) ?_
    refine aH Z Z en41 Z (hab1) ?_
    rintro u h' ⟨T,rfl,w,rfl,hwo,rfl⟩
    simp only [lC,lN]
    unfold NR
    refine mI (r:=VR w 9 1<|(above (bi l) f.name).map nC) slq λhok=>?_
    refine sM Z<|sV (af Z Z)<|sV (af Z Z)<|sA Z<|sA Z<|sK [0,1,2,3,4,11,14,15,16,53,54,55] Z<|cS<|cQ<|sM Z<|sV (bP Z Z)<|sK [0,1,2,3,4,11,14,15,53,54,55,67] Z<|aG Z ?_
    refine cK<|xT<|cQ<|sM Z<|sV (aF Z underlying32)<|sM Z<|sK [0,1,2,3,4,11,14,15,53,54,55,68,69,70] Z<|cB<|aX (σ := Res×Nat) (λq=>[(0,.slice vAq l.length vK),(1,sv low),(2,sv mid),(3,sv high),(4,sv name),(11,.slice (some ⟨fb,fo,none⟩) xs.length wK),(53,.slice (some ⟨fb,fo,none⟩) xs.length wK),(54,.int .i64 xs.length),(55,.int .i64 (i:Nat)),(14,.pointer (some ⟨b14,0,none⟩)),(15,w),(68,.slice (some ⟨fb,fo,none⟩) xs.length wK),(69,.int .i64 xs.length),(70,.int .i64 (q.2:Nat))]) (λq=>pt b14 (cl [sv f.name,.bool f.dfd,f2,f3] 55)::VR w 9 1 ((above (bi l) f.name).map nC)::q.1::hr) (λq=>Ext Y1 q.1/\q.2≤xs.length) (λq=>xs.length - q.2) (Y1,0) ⟨Ext.refl Y1,Nat.zero_le _⟩ ?_
    rintro ⟨Y2,j⟩ ⟨hY2,hj⟩
    simp only at hY2 hj
    dsimp only
    have hE2:=hE1.trans hY2
    refine cQ<|sV (aN Z Z)<|sN<|nT<|cS<|cC Z (λhd2=>?_)<|λhd2=>?_
    ·have hltj:j<xs.length:=Zw
     obtain ⟨ab,ao,acap,aus,e2,haus,hard,har⟩:=(hw.up<|hY1.trans hY2).at<|Zy hltj
     obtain ⟨h1,h2⟩:fb=ab/\fo=ao:=by cases e2; exact ⟨rfl,rfl⟩
     subst h1 h2
     obtain ⟨hac,ham⟩:=hfa _<|List.getElem_mem hltj
     generalize xs[j]=a at har hac ham
     have hao1:=Enc.ones har
     obtain ⟨am,a3,rfl,hamr,-⟩:=har
     obtain ⟨aA,aK,rfl,hal1,ham1,_⟩:=id hamr.form
     refine cK<|xT<|cS<|cB<|cQ<|sV (vI (k:=j) Z Z sl32 Z hltj Z)<|sV (ag Z EQ Z hard) ?_
     refine au ES λb18=>?_
     refine ai Z Z zS Z hao1 ?_
     refine sK [0,1,2,3,4,11,14,15,18,53,54,55,68,69,70] Z<|cS<|cQ<|sM Z<|sV (vF Z DD Z)<|sV (vY Z ld9) ?_
     refine bf Z Z Ab Z (dZ (iE hok) a.name<|by omega) ?_
     refine sV (bn Z)<|sK [0,1,2,3,4,11,14,15,18,53,54,55,68,69,70,78] Z<|cC Z (λhct=>?_)<|λhct=>?_
     ·refine aB<|xE<|xY<|xT<|cR<|sV (aI Z Z Za)<|sM Z<|sN<|nK [0,1,2,3,4,11,14,15,53,54,55,68,69,70] Z<|ax ?_
      refine aJ (Y2,j+1) ⟨hY2,hltj⟩ (by show xs.length - (j+1)<xs.length - j; omega)
     ·have hct:(above (bi l) f.name).contains a.name=true:=by rw [Bool.not_eq_false'] at hct; exact hct
      have hhas:=((iQ hg.sys.acyc f.name).2 a.name).1 Zf
      refine cK<|xT<|cQ<|sV (vF Z qG Z)<|sV (vY Z sQ) ?_
      refine sV (aF Z underlying52)<|sM Z<|sK [0,1,2,3,4,11,14,15,53,54,55,68,69,70,80,81,82] Z<|cB<|aX (σ := Res×Nat) (λq=>[(0,.slice vAq l.length vK),(1,sv low),(2,sv mid),(3,sv high),(4,sv name),(11,.slice (some ⟨fb,fo,none⟩) xs.length wK),(53,.slice (some ⟨fb,fo,none⟩) xs.length wK),(54,.int .i64 xs.length),(55,.int .i64 (i:Nat)),(14,.pointer (some ⟨b14,0,none⟩)),(15,w),(68,.slice (some ⟨fb,fo,none⟩) xs.length wK),(69,.int .i64 xs.length),(70,.int .i64 (j:Nat)),(80,.slice aA a.mems.length aK),(81,.int .i64 a.mems.length),(82,.int .i64 (q.2:Nat))]) (λq=>pt b14 (cl [sv f.name,.bool f.dfd,f2,f3] 55)::VR w 9 1 ((above (bi l) f.name).map nC)::q.1::hr) (λq=>Ext Y2 q.1/\q.2≤a.mems.length) (λq=>a.mems.length - q.2) (Y2,0) ⟨Ext.refl Y2,Nat.zero_le _⟩ ?_
      rintro ⟨Y3,k⟩ ⟨hY3,hk⟩
      simp only at hY3 hk
      dsimp only
      have hE3:=hE2.trans hY3
      refine cQ<|sV (aN Z Z)<|sN<|nT<|cS<|cC Z (λhd3=>?_)<|λhd3=>?_
      ·have hltk:k<a.mems.length:=Zt
       obtain ⟨mb,mo,mcap,mus,e3,hmus,hmrd,hmr⟩:=(hamr.up hY3).at<|Zy hltk
       obtain ⟨rfl,rfl⟩:aA=some ⟨mb,mo,none⟩/\aK=mcap:=by cases e3; exact ⟨rfl,rfl⟩
       have hmm:∀ m,m∈a.mems->m∈msF l a.name:=λm h=>by
        rw [<- ham]; exact h
       have hsd:=hs1 f.name a.name hfc hac hhas (a.mems[k])<|hmm _<|List.getElem_mem hltk
       clear hmm
       generalize a.mems[k]=m at hmr hsd
       have hmo1:=Enc.ones hmr
       obtain ⟨m2,m5,my,m11,m12,m13,rfl,hm2,-⟩:=dh hmr
       obtain ⟨sAq,sKq,rfl,hsl1,hsm1,_⟩:=id hm2.form
       unfold gz at *
       refine cK<|xT<|cS<|cB<|cQ<|sV (vI (k:=k) Z Z oP Z hltk Z)<|sV (ag Z eY Z hmrd) ?_
       refine au iT λb20=>?_
       refine ai Z Z gL Z hmo1 ?_
       refine sK [0,1,2,3,4,11,14,15,20,53,54,55,68,69,70,80,81,82] Z<|cQ<|sV (vF Z dI Z)<|sV (vY Z l8) ?_
       refine sV (aF Z underlying67)<|sM Z<|sK [0,1,2,3,4,11,14,15,53,54,55,68,69,70,80,81,82,87,88,89] Z<|cB<|aX (σ := Res×Nat) (λq=>[(0,.slice vAq l.length vK),(1,sv low),(2,sv mid),(3,sv high),(4,sv name),(11,.slice (some ⟨fb,fo,none⟩) xs.length wK),(53,.slice (some ⟨fb,fo,none⟩) xs.length wK),(54,.int .i64 xs.length),(55,.int .i64 (i:Nat)),(14,.pointer (some ⟨b14,0,none⟩)),(15,w),(68,.slice (some ⟨fb,fo,none⟩) xs.length wK),(69,.int .i64 xs.length),(70,.int .i64 (j:Nat)),(80,.slice (some ⟨mb,mo,none⟩) a.mems.length aK),(81,.int .i64 a.mems.length),(82,.int .i64 (k:Nat)),(87,.slice sAq m.seeds.length sKq),(88,.int .i64 m.seeds.length),(89,.int .i64 (q.2:Nat))]) (λq=>pt b14 (cl [sv f.name,.bool f.dfd,f2,f3] 55)::VR w 9 1 ((above (bi l) f.name).map nC)::q.1::hr) (λq=>Ext Y3 q.1/\q.2≤m.seeds.length) (λq=>m.seeds.length - q.2) (Y3,0) ⟨Ext.refl Y3,Nat.zero_le _⟩ ?_
       rintro ⟨Y4,p⟩ ⟨hY4,hp⟩
       simp only at hY4 hp
       dsimp only
       have hE4:=hE3.trans hY4
       refine cQ<|sV (aN Z Z)<|sN<|nT<|cS<|cC Z (λhd4=>?_)<|λhd4=>?_
       ·have hltp:p<m.seeds.length:=by simpa using hd4
        obtain ⟨cb,co,ccap,cus,e4,hcus,hcrd,hcr⟩:=(hm2.up hY4).at<|Zy hltp
        obtain ⟨rfl,rfl⟩:sAq=some ⟨cb,co,none⟩/\sKq=ccap:=by cases e4; exact ⟨rfl,rfl⟩
        obtain ⟨ns,sel,hn1,hn2,hn3⟩:=hsd _<|List.getElem_mem hltp
        generalize m.seeds[p]=s at hcr hn1 hn2
        obtain rfl:cus=[sv s.cls,sv s.name]:=hcr
        have hna1:=hna Y4 hE4 f.name s
        rw [hn1] at hna1
        refine cK<|xT<|cS<|cB<|cQ<|sV (vI (k:=p) Z Z nR Z hltp Z)<|sV (ag Z gN Z hcrd) ?_
        refine au al69 λb22=>?_
        refine ai Z Z sz69 Z Z ?_
        refine sK [0,1,2,3,4,11,14,15,22,53,54,55,68,69,70,80,81,82,87,88,89] Z<|cQ<|sM Z<|sV (vF Z DD Z)<|sV (vY Z ld9) ?_
        refine sV (ag Z gN Z ah) ?_
        refine bF hw0 Z Z en35 Z (hna1) ?_
        rintro u h' ⟨Y5,k',rfl,hY5,rfl,wn,rfl,hwn⟩
        simp only [lC,lN]
        have hwn:Ls Y5 wn ns:=hwn
        have hse1:=hse Y5 (hE4.trans hY5) f.name s
        rw [hn2] at hse1
        have hwno:=hwn.one
        refine sM Z<|sV (af Z Z)<|sV (af Z Z)<|sA Z<|sA Z<|sK [0,1,2,3,4,11,14,15,22,23,24,53,54,55,68,69,70,80,81,82,87,88,89] Z<|cQ<|sM Z<|sV (vF Z DD Z)<|sV (vY Z ld9) ?_
        refine sV (ag Z gN Z ah) ?_
        refine bF hw0 Z Z en43 Z (hse1) ?_
        rintro u h' ⟨Y6,k',rfl,hY6,rfl,rfl⟩
        simp only [lC,lN]
        have hnl:=L6 hg f.name s
        rw [hn1] at hnl
        have hnl:ns.length≤60:=hnl
        have hcon:=dZ (S:=Y6) (v:=wn) (hwn.up hY6).1 sel (by omega)
        rw [show ns.contains sel=true by simpa using hn3] at hcon
        refine sM Z<|sV (af Z Z)<|sV (af Z Z)<|sA Z<|sA Z<|sK [0,1,2,3,4,11,14,15,23,24,25,26,53,54,55,68,69,70,80,81,82,87,88,89] Z<|cQ<|sM Z<|sV (bP Z Z)<|sM Z<|sG Z Z (vM Z)<|sG Z Z (bP Z Z)<|sV (vP Z Z) ?_
        refine sM Z<|sG Z Z (vM Z)<|sG Z Z (vM Z)<|bT Z Z Z Z Ab Z (hcon) ?_
        refine sG Z Z (bn Z)<|sV (vP Z Z)<|sK [0,1,2,3,4,11,14,15,53,54,55,68,69,70,80,81,82,87,88,89,120] Z<|aG Z ?_
        refine cK<|xB<|xT<|cR<|sV (aI Z Z Za)<|sM Z<|sN<|nK [0,1,2,3,4,11,14,15,53,54,55,68,69,70,80,81,82,87,88,89] Z<|ax ?_
        refine aJ (Y6,p+1) ⟨(hY4.trans hY5).trans hY6,hltp⟩ (by show m.seeds.length - (p+1)<m.seeds.length - p; omega)
       ·refine aB<|xE<|xE<|xY<|xB<|xT<|cR<|sV (aI Z Z Za)<|sM Z<|sN<|nK [0,1,2,3,4,11,14,15,53,54,55,68,69,70,80,81,82] Z<|ax ?_
        refine aJ (Y4,k+1) ⟨hY3.trans hY4,hltk⟩ (by show a.mems.length - (k+1)<a.mems.length - k; omega)
      ·refine aB<|xE<|xE<|xY<|xB<|xT<|cR<|sV (aI Z Z Za)<|sM Z<|sN<|nK [0,1,2,3,4,11,14,15,53,54,55,68,69,70] Z<|ax ?_
       refine aJ (Y3,j+1) ⟨hY2.trans hY3,hltj⟩ (by show xs.length - (j+1)<xs.length - j; omega)
    ·refine aB<|xE<|xE<|xY<|xB<|xT<|cR<|sV (aI Z Z Za)<|sM Z<|sN<|nK [0,1,2,3,4,11,53,54,55] Z<|ax ?_
     refine aJ (Y2,i+1) ⟨hY1.trans hY2,hlt⟩ (by show xs.length - (i+1)<xs.length - i; omega)
   ·clear hw hfa hs1 hab hna
    refine aB<|xE<|xE<|xY<|xT<|cQ<|sM Z<|sM Z<|sM Z ?_
    have hmo1:=hmo Y1 hE1 high name
    generalize hP:bL l [] high name=P at hmo1
    obtain ⟨J,ej⟩:=P
    dsimp only at hmo1
    refine bF hw0 Z Z en30 Z (hmo1) ?_
    rintro u h' ⟨Y2,k',rfl,hY2,rfl,us,rfl,hr2⟩
    simp only [lC,lN]
    have hE2:=hE1.trans hY2
    have hone:=Enc.ones hr2
    obtain ⟨x2,x5,y,x11,x12,x13,rfl,hx2,-⟩:=dh hr2
    obtain ⟨sAq,sKq,rfl,hsl1,hsm1,_⟩:=id hx2.form
    have hve1:=hve Y2 hE2 mid high name
    generalize hV:eD l mid high name=V at hve1
    obtain ⟨a,ea⟩:=V
    dsimp only at hve1
    unfold gz at *
    refine sM Z<|sV (af Z Z)<|sV (af Z Z) (au iT λb27=>?_)
    refine ai Z Z gL Z hone ?_
    refine sA Z<|sK [0,1,2,3,4,27,28] Z<|cQ<|sM Z<|sM Z<|sM Z<|sM Z<|bF hw0 Z Z en29 Z (hve1) ?_
    rintro u h' ⟨Y3,k',rfl,hY3,rfl,rfl⟩
    simp only [lC,lN]
    have hE3:=hE2.trans hY3
    refine sM Z<|sV (af Z Z)<|sV (af Z Z)<|sA Z<|sA Z<|sK [0,1,2,3,4,27,28,29,30] Z<|cS<|cQ<|sM Z<|sV (bP Z Z)<|sM Z<|bD (k:=6) (d:=145) (v:=.bool ((ej != 0) || (ea != 0))) (λhcut=>aM (b:=(ej != 0)) false (λhg=>?_)<|λhg=>?_) ?_
    ·refine aC Z Z hg ?_
     refine aC Z Z hg ?_
     refine sV (vQ (bO Z hg) Z) ?_
     exact hcut _ uG
    ·refine sG Z (bG Z hg) (vM Z)<|sG Z (bG Z hg) (bP Z Z)<|sV (vP (bO Z hg) Z) ?_
     exact hcut _ uG
    refine sK [0,1,2,3,4,27,29,145] Z<|cC Z (λhq=>?_)<|λhq=>?_
    ·refine cQ<|bF hw0 Z Z en11 Z (hsn Y3 hE3) ?_
     rintro u h' ⟨V,k',rfl,hV,rfl,rfl⟩
     simp only [lC,lN]
     refine sA Z<|sK [10] Z<|cT<|xR ?_
     exact aj Z ⟨V,[],Z,hE3.trans hV,Z,Z⟩ sbq
    ·have hq:((ej != 0) || (ea != 0))=false:=hq
     simp only [Bool.or_eq_false_iff,bne_eq_false_iff_eq] at hq
     obtain ⟨rfl,rfl⟩:=hq
     obtain ⟨b,hb,hsne,⟨sel,hsel,hselv⟩,hch⟩:=hs2 low mid high name J a hP hV
     obtain ⟨s0,ss,hss⟩:=List.exists_cons_of_ne_nil hsne
     rw [show J.seeds.headD ⟨[],[]⟩=s0 by rw [hss]; rfl] at hsel
     have hls0:0<J.seeds.length:=by rw [hss]; simp
     have hmo2:=hmo Y3 hE3 mid a
     rw [hb] at hmo2
     clear hs2 hP hV
     refine cK<|xT<|cQ<|sM Z<|sM Z<|sM Z<|bF hw0 Z Z en30 Z (hmo2) ?_
     rintro u h' ⟨Y4,k',rfl,hY4,rfl,us,rfl,hr4⟩
     simp only [lC,lN]
     have hr4:Enc.rep Y4 us b:=hr4
     have hE4:=hE3.trans hY4
     have hone4:=Enc.ones hr4
     obtain ⟨z2,z5,zy,z11,z12,z13,rfl,hz2,-⟩:=dh hr4
     unfold gz at *
     have hve2:=hve Y4 hE4 low mid a
     generalize hV2:eD l low mid a=V at hve2
     obtain ⟨c,ec⟩:=V
     dsimp only at hve2
     refine sM Z<|sV (af Z Z)<|sV (af Z Z) (au iT λb31=>?_)
     refine ai Z Z gL Z hone4 ?_
     refine sA Z<|sK [0,1,2,3,4,27,29,31,32] Z<|cQ<|sM Z<|sM Z<|sM Z<|sM Z<|bF hw0 Z Z en29 Z (hve2) ?_
     rintro u h' ⟨Y5,k',rfl,hY5,rfl,rfl⟩
     simp only [lC,lN]
     have hE5:=hE4.trans hY5
     have hve3:=hve Y5 hE5 low high name
     generalize hV3:eD l low high name=V at hve3
     obtain ⟨d,ed⟩:=V
     dsimp only at hve3
     refine sM Z<|sV (af Z Z)<|sV (af Z Z)<|sA Z<|sA Z<|sK [0,1,3,4,27,31,32,33,34] Z<|cQ<|sM Z<|sM Z<|sM Z<|sM Z<|bF hw0 Z Z en29 Z (hve3) ?_
     rintro u h' ⟨Y6,k',rfl,hY6,rfl,rfl⟩
     simp only [lC,lN]
     have hE6:=hE5.trans hY6
     refine sM Z<|sV (af Z Z)<|sV (af Z Z)<|sA Z<|sA Z<|sK [0,3,4,27,31,32,33,34,35,36] Z<|cS<|cQ<|sM Z<|sV (bP Z Z)<|sM Z<|sG Z Z (vF Z dI Z)<|sG Z Z (vY Z l8) ?_
     refine sG Z Z (aF Z underlying67)<|sG Z Z (dG Z Z)<|sV (vP Z Z)<|sK [0,3,4,27,31,33,34,35,36,177] Z ?_
     rw [show (((J.seeds.length:Nat):Int) == 0)=false by rw [beq_eq_false_iff_ne]; omega]
     refine aG Z ?_
     refine cK<|xT<|cQ<|sM Z<|sM Z<|sM Z<|sM Z ?_
     have hve4:=hve Y6 hE6 high high name
     generalize hV4:eD l high high name=V at hve4
     obtain ⟨own,eo⟩:=V
     dsimp only at hve4
     refine bF hw0 Z Z en29 Z (hve4) ?_
     rintro u h' ⟨Y7,k',rfl,hY7,rfl,rfl⟩
     simp only [lC,lN]
     have hE7:=hE6.trans hY7
     have hse2:=hse Y7 hE7 high s0
     rw [hsel] at hse2
     obtain ⟨sb,so,scap,sus,e4,_,hsrd,hsr⟩:=hx2.at (i:=0) (a:=s0) (by rw [hss]; rfl)
     obtain ⟨rfl,rfl⟩:sAq=some ⟨sb,so,none⟩/\sKq=scap:=by cases e4; exact ⟨rfl,rfl⟩
     obtain rfl:sus=[sv s0.cls,sv s0.name]:=hsr
     have hsrd7:Rds Y7 sb (so+0 * 2) [sv s0.cls,sv s0.name]:=λi hi=>((((hY3.trans hY4).trans hY5).trans hY6).trans hY7).rd _ _<|hsrd i hi
     refine sM Z<|sV (af Z Z)<|sV (af Z Z)<|sA Z<|sA Z<|sK [0,3,4,27,31,33,34,35,36,37,38] Z<|cQ<|sM Z<|sM Z<|sV (vF Z dI Z)<|sV (vY Z l8) ?_
     refine sV (vI (k:=0) Z Z nR Z hls0 Z)<|sV (ag Z gN Z hsrd7) ?_
     refine bF hw0 Z Z en43 Z (hse2) ?_
     rintro u h' ⟨Y8,k',rfl,hY8,rfl,rfl⟩
     simp only [lC,lN]
     have hE8:=hE7.trans hY8
     refine sM Z<|sV (af Z Z)<|sV (af Z Z)<|sA Z<|sA Z<|sK [4,27,31,33,34,35,36,37,38,39,40] Z<|cS<|cS<|kK (ex:=.normal) (α := {q:Unit // True}) (λq=>[(27,.pointer (some ⟨b27,0,none⟩)),(31,.pointer (some ⟨b31,0,none⟩)),(33,sv c),(34,.int .i64 ec),(35,sv d),(36,.int .i64 ed),(211,.bool false)]) (λq=>pt b27 (cl [sv J.name,.int .i64 J.kind,.slice (some ⟨sb,so,none⟩) J.seeds.length sKq,sv J.impl.cls,sv J.impl.name,x5,.int .i64 J.ty.kind,sv J.ty.name,y,.bool J.ty.void,.bool J.ty.sep,x11,x12,x13] 75)::pt b31 (cl [sv b.name,.int .i64 b.kind,z2,sv b.impl.cls,sv b.impl.name,z5,.int .i64 b.ty.kind,sv b.ty.name,zy,.bool b.ty.void,.bool b.ty.sep,z11,z12,z13] 75)::Y8::hr) (λhcont=>?_)<|λq=>?_
     ·refine cR<|sM Z<|sV (bP Z Z)<|sM Z<|sG Z Z (vM Z)<|sG Z Z (vM Z)<|sG Z Z (gY Z Z)<|sG Z Z (vM Z) ?_
      generalize hB:(sel == name)=B
      cases B with
      | true =>
       have h9:=hselv<|by simpa using hB
       rw [hV4] at h9
       obtain ⟨rfl,rfl⟩:=Prod.mk.inj h9
       refine sG Z Z (vM Z)<|sG Z Z (bP Z Z)<|sG Z Z (vM Z)<|sG Z Z (vM Z)<|sG Z Z (vM Z)<|sG Z Z (zP Z Z)<|sG Z Z (vP Z Z)<|sG Z Z (vQ Z Z)<|sV (vP Z Z)<|sN<|nK [27,31,33,34,35,36,211] Z<|ax ?_
       rw [beq_self_eq_true,Bool.not_true]
       exact hcont ⟨(),trivial⟩ _ _ ⟨Z,Z,Z,Z,Z,Z,Z,trivial⟩ sbq
      | false =>
       iterate 3 refine aC rfl rfl rfl ?_
       refine bN Z Z ?_
       refine bN Z Z ?_
       refine bN Z Z ?_
       refine aC Z Z Z ?_
       refine sG Z Z (vP Z Z)<|sV (vP Z Z)<|sN<|nK [27,31,33,34,35,36,211] Z<|ax ?_
       exact hcont ⟨(),trivial⟩ _ _ ⟨Z,Z,Z,Z,Z,Z,Z,trivial⟩ sbq
     refine xT<|aG Z ?_
     refine cK<|xT<|cQ<|bF hw0 Z Z en11 Z (hsn Y8 hE8) ?_
     rintro u h' ⟨V,k',rfl,hV,rfl,rfl⟩
     simp only [lC,lN]
     have hF4:=((((hY5.trans hY6).trans hY7).trans hY8).trans hV)
     have hF2:=(hY3.trans hY4).trans hF4
     have heq:=AC (hx2.up hF2)<|hz2.up hF4
     refine sM Z<|sG Z Z (vF Z dI Z)<|sG Z Z (vY Z l8) ?_
     refine sG Z Z (vF Z dI Z)<|sG Z Z (vY Z l8) ?_
     refine bT Z Z Z Z en38 Z (heq) ?_
     refine sG Z Z (bn Z)<|sG Z Z (vM Z) ?_
     generalize hD:decide (J.seeds=b.seeds)=D
     cases D with
     | false =>
      iterate 2 refine aC rfl rfl rfl ?_
      refine sG Z Z (vQ Z Z)<|sG Z Z (vM Z)<|aC Z Z Z ?_
      iterate 2 refine aC rfl rfl rfl ?_
      refine bN Z Z ?_
      refine bN Z Z ?_
      refine bN Z Z ?_
      refine aC Z Z Z ?_
      refine sG Z Z (vQ Z Z)<|sV (vQ Z Z)<|sA Z<|sK [10] Z<|cT ?_
      exact aj Z ⟨V,[],Z,hE8.trans hV,Z,Z⟩ sbq
     | true =>
      refine sG Z Z (vM Z)<|sG Z Z (bP Z Z)<|sG Z Z (vP Z Z)<|sG Z Z (vM Z) ?_
      generalize hC:(ec != 0)=C
      cases C with
      | true =>
       iterate 3 refine aC rfl rfl rfl ?_
       refine bN Z Z ?_
       refine bN Z Z ?_
       refine bN Z Z ?_
       refine aC Z Z Z ?_
       refine sG Z Z (vQ Z Z)<|sV (vQ Z Z)<|sA Z<|sK [10] Z<|cT ?_
       exact aj Z ⟨V,[],Z,hE8.trans hV,Z,Z⟩ sbq
      | false =>
       have hec:ec=0:=by simpa using hC
       have h9:=hch (by simpa using hD) c (by rw [<- hec]; exact hV2)
       rw [hV3] at h9
       obtain ⟨rfl,rfl⟩:=Prod.mk.inj h9
       refine sG Z Z (vM Z)<|sG Z Z (dG Z Z)<|sG Z Z (vM Z)<|sG Z Z (vM Z)<|sG Z Z (vM Z)<|sG Z Z (gY Z Z)<|sG Z Z (vQ Z Z)<|sG Z Z (vP Z Z)<|sV (vQ Z Z)<|sA Z<|sK [10] Z<|cT ?_
       exact aj Z ⟨V,[],Z,hE8.trans hV,Z,by simp; rfl⟩ sbq
end
end Go.Fl
