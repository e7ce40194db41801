/-
  The law FlatContracts,walked. Conditions: what is read; the library's table of blanks.
-/
import Derived.Test.YtknmacdbffgjgaaGreatDoorRows
import Derived.Test.YtknmacdbffgjgaaGreatDoorM20
import Derived.Test.YtknmacdbffgjgaaGreatDoorM14
import Derived.ProofKit
import Derived.LaidMore
import Derived.OpenShut
import Derived.Stop.Joined
import Derived.MakeChecks
import Derived.Test.YtknmacdbffgjgaaGreatDoorM13
import Derived.Test.YtknmacdbffgjgaaGreatDoorM10
import Derived.Test.YtknmacdbffgjgaaGreatDoorM15
import Derived.Test.YtknmacdbffgjgaaGreatDoorM19
import Derived.Test.YtknmacdbffgjgaaGreatDoorM18
set_option linter.unusedVariables false
set_option linter.unusedSimpArgs false
set_option maxRecDepth 100000
set_option maxHeartbeats 16000000
namespace Go.Ck
open Go Go.RowKit Go.ChangeShapes Go.WideShapes
structure Kept0 (W w':World):Prop where
 os:w'.os=W.os
 output:w'.output=W.output
 fz:∀ a,a.block<W.heap.size->w'.frozen? a=W.frozen? a
 block:∀ b,b<W.heap.size->w'.heap[b]? = W.heap[b]?
theorem Kept0.frame {W w':World} (h:Kept0 W w') (may:MemPlace->Prop):W.keptBut w' may:=by
 refine ⟨h.os,h.output,λi hi=>?_⟩
 rw [h.block i hi]
 cases hq:W.heap[i]? with
 | none=>rfl
 | some o=>cases o <;> first | exact ⟨rfl,rfl,rfl,λ_ _=>rfl⟩ | exact Or.inr ⟨rfl,rfl⟩ | rfl
theorem Mh {P:Program} {k:FuncId} {args:Array Value} {W:World} (h:dE P k args (old W) [] λu _ k'=>k'=[]/\u = .bool true):Calls P k args W λe w'=>e = .returned (.bool true)/\Kept0 W w' :=
 (h [] W<|by simpa using wY W).mono λe w' ⟨v,h',he,⟨Y,k',hh,hE,hk,hv⟩,hH,hS⟩=>by
  subst hk hv hh
  obtain ⟨T,hT⟩:=hE.vw
  have h1:=hT [] w'<|by simpa using hH
  have h2:Holds w' [old W,T]:=h1.perm<|.swap _ _ _
  exact ⟨he,hS.os,hS.output,hS.fz,h2.1⟩
section
variable {H:Type} {enc:TypeId×Value->H} {P:Program} {W W':World} {sp:Nat->Bool}
theorem Mi {f:Func} {s:ChangeSpec} {args:Array Value} {ds gs:List (DataW H)} {before:List MemPlace} {tb:TypeId} {tys:List Ty} (hW:DataW.Whole enc P f.params.toList s.vars false W args.toList ds gs before)
  (hv:s.vars=[]) (hr:f.resultTypes = #[tb]) (htb:P.underlying tb=some .bool) (hf:fitAll P tys f.params.toList=true) (hfn:s.fn H (ds++gs)={ results:=[.lit (.bool true)],args:=ds }) (hk:Kept0 W W') :
  s.post enc P f false true false false W args (.bool true) W':=by
 have hW':=hW
 obtain ⟨p,q,hA,hV,rfl,hfz,hnd⟩:=hW
 rw [hv] at hV
 obtain ⟨rfl,rfl⟩:=trodVars_none hV
 have hres:∀ (b:Nat) (sp:Nat->Bool) (hd:Bool),DataW.TrodAll enc P W' b sp hd f.resultTypes.toList ((Value.bool true).resultList f.resultTypes.size) (s.fn H (ds++[])).results []:=λb sp hd=>by
  rw [hr,hfn]
  exact trodAll_mk1<|shut_bool htb _
 have hargs:∀ sp:Nat->Bool,(∀ x∈p++[],sp x.block=true)->DataW.TrodAll enc P W' 0 sp true f.params.toList args.toList (s.fn H (ds++[])).args p:=λsp hsp=>by
  rw [hfn]
  exact Cn hk.block hf hA λx hx=>hsp x<|List.mem_append_left _ hx
 have hvars:∀ sp:Nat->Bool,DataW.TrodVars enc P W' sp s.vars (s.fn H (ds++[])).vars []:=λsp=>by rw [hv,hfn]; rfl
 have hold:∀ x∈p++[],(λb=>decide (b<W.heap.size)) x.block=true:=λx hx=>by simpa using hW'.lt x hx
 refine ⟨ds,[],p++[],[],p,[],hW',hres _ _ _,hargs _ hold,hvars _,World.keptBut_mono (λx hx=>⟨hx,.inr<|List.mem_append.1 hx⟩) (hk.frame (· ∈ p++[])),λ_=>?_⟩
 refine ⟨ok_one hr Z (okWide_bool_mk htb _),_,_,([]++p)++[],⟨[]++p,[],trodAll_append (hargs _ λ_ _=>rfl) (hres _ _ _),hvars _,Z,λb off hm=>?_,λha=>?_⟩,λx hx _=>by simpa using hx⟩
 ·have hm':MemPlace.cell b off∈p++[]:=by simpa using hm
  rw [hk.fz _ (show b<W.heap.size from of_decide_eq_true (hold _ hm'))]
  exact hfz b off hm'
 ·simpa using hnd ha
end
end Go.Ck
namespace Go.Fl
open Go Go.RowKit Go.ChangeShapes Go.WideShapes Go.Ck Go.Proofs Go.Proofs.Tryz Go.Proofs.YtknmacdbffgjgaaGreatDoor Fx Go.Hr
theorem gSpace : prog.globalNamed "strings.asciiSpace" = some 0 := Zz
theorem tSpace:(prog.globals[0]?).map (·.type)=some 335:=Zz
def Hy : List (String × DataW Unit) := [("unicode.White_Space", Rows.laid_unicode_White_Space), ("strings.asciiSpace", Rows.laid_strings_asciiSpace)]
theorem OA (os:Os) (args:Array Value):laidMetH prog Hy ((World.doorLaid prog 33 os).forCall (λ_ _=>0) ⟨#[],args,[]⟩).memory :=
 laidMetH_of_parts3 (fuel:=8) (laidMet_of_run' 8 Zz Zz) Zz Zz
def Jy:List Int:=(List.range 256).map λc=>if Lib.isSp (UInt8.ofNat c) then 1 else 0
theorem OB:(Rows.laid_strings_asciiSpace:DataW Unit) = .agg (Jy.map λk=>.lit (.int .u8 k)):=Zz
theorem lt_of_cell {W:World} {p:Addr} {v:Value} (h:W.cell? p=some v):p.block<W.heap.size:=by
 unfold World.cell? at h
 refine Nat.lt_of_not_le λhn=>?_
 rw [Array.getElem?_eq_none hn] at h
 cases h
theorem Hz {W:World} (h:laidMetH prog Hy W):Spc (old W):=by
 rw [MakeChecks.laidMetH_plain _ _ _ Zz] at h
 obtain ⟨ps,⟨g0,t0,cs0,f0,p0,q0,hg0,ht0,hv0,hd0,⟨g1,t1,cs1,f1,p1,q1,hg1,ht1,hv1,hd1,_,_⟩,_⟩,_,_⟩:=h
 obtain rfl:=Option.some.inj<|gSpace.symm.trans hg1
 obtain rfl:=Option.some.inj<|tSpace.symm.trans ht1
 rw [OB] at hd1
 obtain ⟨xs,m1,rfl,hx1,hlen,hn3,hel⟩:=DataW.trod_array underlying335 hd1
 have c5:prog.cellsOf 5=1:=Zz
 have hx1:=(DataW.agg.inj (Prod.mk.inj hx1).1)
 intro c hc
 have h0:=hel c hc
 rw [c5,Nat.mul_one] at h0
 have hxc:xs[c]? = some (xs[c]'(by omega)):=Zy<|by omega
 rw [hxc] at h0
 obtain ⟨k,e1,e2,_⟩:=DataW.trod_int underlying5 h0
 have h2:(xs.map λx=>x.1)[c]? = some (.lit<|.int .u8 k):=by
  rw [List.getElem?_map,hxc,Option.map_some,e2]
 rw [<- hx1,List.getElem?_map] at h2
 have h3:Jy[c]? = some (if Lib.isSp (UInt8.ofNat c) then 1 else 0):=by
  unfold Jy
  rw [List.getElem?_map,List.getElem?_range hc]; rfl
 rw [h3] at h2
 have hk:k=(if Lib.isSp (UInt8.ofNat c) then 1 else 0):=by
  have:=Option.some.inj h2
  simpa using this.symm
 subst hk
 have hcell:=World.var?_cell hg1 hv1 c
 have h4:cs1.toList[c]? = some (.int .u8 (if Lib.isSp (UInt8.ofNat c) then 1 else 0)):=by
  have h5:=congrArg List.head? e1
  rw [List.head?_take] at h5
  simpa [List.head?_drop] using h5
 have h6:W.cell? ⟨0,c,none⟩=some (.int .u8 (if Lib.isSp (UInt8.ofNat c) then 1 else 0)):=by
  rw [hcell,<- Array.getElem?_toList]; exact h4
 exact MJ (lt_of_cell h6) h6
end Go.Fl
namespace Go.Fl
open Go Go.RowKit Go.Ck Go.Proofs Go.Proofs.Tryz Go.Proofs.YtknmacdbffgjgaaGreatDoor Fx Go.Hr
theorem anyG_in {xs:List Grp} {g:Grp}:(xs.any λx=>decide (g=x))=xs.contains g:=by
 rw [Bool.eq_iff_iff]; simp
theorem all_any {xs ys:List Grp}:(!(xs.any λx => !(ys.contains x)))=xs.all λx=>ys.contains x:=by
 induction xs with
 | nil=>rfl
 | cons x t ih=>rw [List.any_cons,List.all_cons,Bool.not_or,Bool.not_not,ih]
attribute [local irreducible] Go.Ck.Sub St Cd Xt Nx DrL LsW
section
variable {X:Res} {v v':Value}
theorem Mj {x y:Grp} {b2:Nat} {gs us:List Value} {L L':SH} (hs:Sel L (pt b2 (cl gs 170)) L') (hgl:gs.length=2) (h:Enc.rep (Res.star L) us y) (hg:Enc.rep (Res.star L) gs x):Reads prog 95 #[.agg us.toArray,.pointer (some ⟨b2,0,none⟩)] [Res.star L] (.bool (decide (x=y))):=by
 have hsm:=eq96_ct hg h
 have hrd:Rds (Res.star L) b2 0 gs:=λi hi=>oH hs<|ah i hi
 obtain ⟨z,rfl,_⟩:=h
 refine aL (n:=7) func95 Z Z (len Z) λhr w0=>?_
 refine cQ (aP Z Z λb2=>?_)
 refine sA Z<|sK [1,2,3] Z<|cQ<|sV (af Z qM hgl hrd) ?_
 refine sV (af Z qM Z ah) ?_
 refine aY Z Z en96 Z (hsm) ?_
 refine sA Z<|sK [3] Z<|cT ?_
 exact aj Z ⟨Z,Z⟩ sbq
theorem Mk {x:Grp} {ys:List Grp} {R:Res} {us:List Value} {b3:Nat} (h:Enc.rep R us x) (hb:Rd R ⟨b3,0,none⟩ v') (hy:Ls R v' ys):Reads prog 94 #[.agg us.toArray,.pointer (some ⟨b3,0,none⟩)] [R] (.bool (!(ys.contains x))):=by
 have hul:us.length=2:=Enc.len h
 have huo:=Enc.ones h
 have h0:=h
 obtain ⟨z,rfl,hz⟩:=h
 have htell:∀ b2,∀ a∈ys,∀ us',Enc.rep (Res.star [pt b2 (cl [sv x.cls,z] 170),R]) us' a->Reads prog 95 (#[]++([.agg us'.toArray]:List Value).toArray ++ #[.pointer (some ⟨b2,0,none⟩)]) [Res.star [pt b2 (cl [sv x.cls,z] 170),R]] (.bool<|decide (x=a)):=λb2 a _ us' hu=>Mj .here rfl hu<|Enc.up (bE<|.there .here) h0
 refine aL (n:=8) func94 Z Z (len Z) λhr w0=>?_
 refine cQ (aP Z Z λb2=>?_)
 refine sA Z<|sK [1,2,3] Z<|cQ<|sV (vY Z qo (ha:=⟨R,_,slq,hb⟩)) ?_
 refine sV (bQ Z Z)<|aY Z Z en93 Z ((dF<|AU (X:=Res.star [pt b2 (cl [sv x.cls,z] 170),R]) (hy.up'<|bE<|.there .here) en95<|htell b2)) ?_
 rw [anyG_in]
 refine sV (bg Z)<|sA Z<|sK [3] Z<|cT ?_
 exact aj Z ⟨Z,Z⟩ sbq
theorem Bv {xs ys:List Grp} (hx:Ls X v xs) (hy:Ls X v' ys):Reads prog 28 #[v,v'] [X] (.bool (xs.all λx=>ys.contains x)):=by
 obtain ⟨a',cap',rfl,_⟩:=id hy.form
 obtain ⟨a,cap,rfl,_⟩:=id hx.form
 have htell:∀ b3,∀ x∈xs,∀ us,Enc.rep (Res.star [pt b3 (cl [.slice a' ys.length cap'] 53),X]) us x->Reads prog 94 (#[]++([.agg us.toArray]:List Value).toArray ++ #[.pointer (some ⟨b3,0,none⟩)]) [Res.star [pt b3 (cl [.slice a' ys.length cap'] 53),X]] (.bool (!(ys.contains x))):=λb3 x _ us hu=>Mk hu (bE .here _ _<|bV rfl)<|hy.up'<|bE<|.there .here
 rw [<- all_any]
 refine aL (n:=9) func28 Z Z (len Z) λhr w0=>?_
 refine cQ (aP Z Z λb3=>?_)
 refine sA Z<|sK [0,3,4] Z<|cQ<|sM Z<|sV (bQ Z Z)<|aY Z Z en93 Z ((dF<|AU (X:=Res.star [pt b3 (cl [.slice a' ys.length cap'] 53),X]) (hx.up'<|bE<|.there .here) en94<|htell b3)) ?_
 refine sV (bg Z)<|sA Z<|sK [4] Z<|cT ?_
 exact aj Z ⟨Z,Z⟩ sbq
end
def RevI {α : Type} (rows rs:List α) (i:Nat):Prop:=rs.length=rows.length/\∀ k,k<rows.length->rs[k]? = if k<i∨rows.length - 1 - k<i then rows[rows.length - 1 - k]? else rows[k]?
theorem RevI.zero {α : Type} (rows:List α):RevI rows rows 0:=⟨rfl,λk _=>by rw [if_neg (by omega)]⟩
theorem RevI.step {α : Type} {rows rs:List α} {i:Nat} {a b : α} (h:RevI rows rs i) (hi:i+i+1<rows.length) (ha:rs[i]? = some a) (hb:rs[rows.length - 1 - i]? = some b):RevI rows ((rs.set i b).set (rows.length - 1 - i) a) (i+1):=by
 obtain ⟨h1,h2⟩:=h
 refine ⟨by simp [h1],λk hk=>?_⟩
 have e1:=h2 i<|by omega
 rw [if_neg (by omega),ha] at e1
 have e2:=h2 (rows.length - 1 - i)<|by omega
 rw [if_neg (by omega),hb] at e2
 by_cases k1:k=rows.length - 1 - i
 ·subst k1
  rw [List.getElem?_set_self (by simp; omega),if_pos (by omega),show rows.length - 1 - (rows.length - 1 - i)=i by omega,e1]
 ·rw [List.getElem?_set_ne (by omega)]
  by_cases k2:k=i
  ·subst k2
   rw [List.getElem?_set_self (by omega),if_pos (by omega),e2]
  ·rw [List.getElem?_set_ne (by omega),h2 k hk]
   by_cases k3:k<i∨rows.length - 1 - k<i
   ·rw [if_pos k3,if_pos (by omega)]
   ·rw [if_neg k3,if_neg (by omega)]
theorem RevI.done {α : Type} {rows rs:List α} {i:Nat} (h:RevI rows rs i) (hi:rows.length≤i+i+1):rs=rows.reverse:=by
 obtain ⟨h1,h2⟩:=h
 apply List.ext_getElem?
 intro k
 by_cases hk:k<rows.length
 ·rw [h2 k hk,List.getElem?_reverse hk]
  by_cases k1:k<i∨rows.length - 1 - k<i
  ·rw [if_pos k1]
  ·rw [if_neg k1]
   congr 1; omega
 ·rw [List.getElem?_eq_none (by omega),List.getElem?_eq_none (by rw [List.length_reverse]; omega)]
end Go.Fl
namespace Go.Ck
open Go Go.RowKit
theorem HV {P:Program} {k:FuncId} {args:Array Value} {X:Res} {L:SH} {R:Value->Prop} (h:dE P k args (Res.star (L++[X])) [] λu _ k'=>k'=[]/\R u):dE P k args X L λu _ k'=>k'=L/\R u:=λhr w hw=>by
 have hw':Holds w ([Res.star (L++[X])]++hr):=by
  refine bW.2<|hw.perm ?_
  show (X::L++hr).Perm (L++[X]++hr)
  rw [List.append_assoc]
  exact List.perm_middle.symm
 refine (h hr w hw').mono λe w' ⟨v,h',he,⟨Y,k',hh,hE,hk,hR⟩,hH,hs⟩=>?_
 subst hh hk
 obtain ⟨T,hT⟩:=hE
 refine ⟨v,Res.star [T,X]::L,he,⟨Res.star [T,X],L,Z,⟨T,λ_ _=>dx⟩,Z,hR⟩,?_,hs⟩
 have h1:Holds w' (T::Res.star (L++[X])::hr):=(hT _ hr).1 hH
 have h2:Holds w' (Res.star (L++[X])::T::hr):=h1.perm<|.swap _ _ _
 have h3:Holds w' ((L++[X])++(T::hr)):=bW.1 h2
 refine bW.2<|h3.perm ?_
 show ((L++[X])++(T::hr)).Perm ([T,X]++(L++hr))
 rw [List.append_assoc]
 refine List.perm_middle.trans ?_
 show (X::(L++(T::hr))).Perm (T::X::(L++hr))
 exact (List.perm_middle.cons X).trans<|.swap _ _ _
end Go.Ck
namespace Go.Fl
open Go Go.RowKit Go.Ck Go.Proofs Go.Proofs.Tryz Go.Proofs.YtknmacdbffgjgaaGreatDoor Fx Go.Hr
theorem OC {l:FS} (h:Good l) {f:Fl} (hf:f∈(gI l).1):(bJ l f.name).isSome=true/\f=FL l f.name/\f.mems=msF l f.name:=by
 rw [h.flats] at hf
 obtain ⟨n,hn,rfl⟩:=List.mem_map.1 hf
 have hc:=(gW h.sys).1 hn
 obtain ⟨h1,h2,_⟩:=h.mems hc
 rw [h1]; exact ⟨hc,rfl,h2⟩
def sevB (l:FS) (n:Nm) (s:Sd):Bool:=((fO l n s).2 != 0) || decide ((1:Int)<((fO l n s).1.length:Nat))
theorem sev_not {l:FS} {n:Nm} {ss:List Sd} (h:(ss.any λs=>sevB l n s)=false):∀ s∈ss,(fO l n s).2=0/\(fO l n s).1.length≤1:=λs hs=>by
 have h1:=List.any_eq_false.1 h s hs
 unfold sevB at h1
 simp only [Bool.or_eq_true,not_or,bne_iff_ne,ne_eq,Classical.not_not,decide_eq_true_eq] at h1
 exact ⟨h1.1,by omega⟩
attribute [local irreducible] Go.Ck.Sub St Cd Xt Nx DrL LsW
section
variable {X:Res} {v:Value} {l:FS}
theorem Jz {xs:List Sd} {kf:FuncId} {cp:Array Value} {g:Sd->Bool} (hv:Ls X v xs) (hE:Ck.Enters prog kf) (hf:∀ Y,Ext X Y->∀ a∈xs,∀ us,Enc.rep Y us a->dE prog kf (#[]++([.agg us.toArray]:List Value).toArray++cp) Y [] λu _ k'=>k'=[]/\u = .bool (g a)):dE prog 100 #[v,.func (.func kf) #[] cp] X [] λu _ k'=>k'=[]/\u = .int .i64 (ixI (xs.findIdx? g)):=by
 have hml:maxLen=9223372036854775807:=rfl
 obtain ⟨a,cap,rfl,hlc,hcm,_⟩:=id hv.form
 unfold dE at *
 refine eG (n:=19) func100 Z Z (len Z) λhr w0 hw0=>?_
 refine cQ<|sA Z<|sN<|nT<|cS<|cQ<|sM Z<|sV (aF Z underlying67)<|sM Z<|sK [0,1,4,7,8] Z<|cB<|aX (σ := Res×Nat) (λq=>[(0,.slice a xs.length cap),(1,.func (.func kf) #[] cp),(7,.int .i64 xs.length),(8,.int .i64 (q.2:Nat))]) (λq=>q.1::hr) (λq=>Ext X q.1/\q.2≤xs.length/\∀ j (hj:j<xs.length),j<q.2->g xs[j]=false) (λq=>xs.length - q.2) (X,0) ⟨Ext.refl X,Nat.zero_le _,λj _ hj=>absurd hj<|Nat.not_lt_zero _⟩ ?_
 rintro ⟨Y,i⟩ ⟨hY,hi,hal⟩
 simp only at hY hi hal
 dsimp only
 refine cQ<|sV (aN Z Z)<|sN<|nT<|cS<|cC Z (λhd=>?_)<|λhd=>?_
 ·have hlt:i<xs.length:=Zx
  obtain ⟨b,o,cap2,us,e1,hus,hrd,hre⟩:=(hv.up hY).at<|Zy hlt
  cases e1
  have hfx:=hf Y hY xs[i] (List.getElem_mem hlt) us hre
  refine cK<|xT<|cS<|cB<|cQ<|sM Z<|sA Z<|sK [0,1,5,7,8] Z<|cQ<|sM Z<|sM Z<|sM Z ?_
  refine sV (vI (k:=i) Z Z oN Z hlt Z)<|sV (af Z il hus hrd) ?_
  refine bM hw0 Z Z hE Z (hfx) ?_
  rintro u h' ⟨Zq,k',rfl,hZ,rfl,rfl⟩
  simp only [lC,lN]
  refine sK [0,1,5,7,8,16] Z<|cC Z (λhe=>?_)<|λhe=>?_
  ·have he:g xs[i]=true:=he
   rw [show xs.findIdx? g=some i by
    rw [List.findIdx?_eq_some_iff_getElem]
    exact ⟨hlt,he,λj hj=>by rw [hal j (by omega) hj]; decide⟩]
   refine cQ<|sM Z<|sA Z<|sK [4] Z<|cT<|xW<|xR<|xR<|xW<|xR ?_
   exact aj Z ⟨Zq,[],Z,hY.trans hZ,Z,Z⟩ sbq
  ·have he:g xs[i]=false:=he
   refine cK<|xB<|xT<|cR<|sV (aI Z Z Za)<|sM Z<|sN<|nK [0,1,7,8] Z<|ax<|aJ (Zq,i+1) ⟨hY.trans hZ,hlt,λj hj hj2=>?_⟩ (by show xs.length - (i+1)<xs.length - i; omega)
   by_cases hji:j=i
   ·subst hji; exact he
   ·exact hal j hj (by have:j<i+1:=hj2; omega)
 ·have hil:i=xs.length:=Nat.le_antisymm hi<|Nat.not_lt.1 Zx
  rw [show xs.findIdx? g=none by
   rw [List.findIdx?_eq_none_iff]
   intro f hfm
   obtain ⟨j,hj,rfl⟩:=List.getElem_of_mem hfm
   exact hal j hj (by omega)]
  refine aB<|xE<|xE<|xY<|xT<|cQ<|sA Z<|sK [4] Z<|cT ?_
  exact aj Z ⟨Y,[],Z,hY,Z,Z⟩ sbq
theorem Ml {xs:List Sd} {kf:FuncId} {cp:Array Value} {g:Sd->Bool} (hv:Ls X v xs) (hE:Ck.Enters prog kf) (hf:∀ Y,Ext X Y->∀ a∈xs,∀ us,Enc.rep Y us a->dE prog kf (#[]++([.agg us.toArray]:List Value).toArray++cp) Y [] λu _ k'=>k'=[]/\u = .bool (g a)):dE prog 31 #[v,.func (.func kf) #[] cp] X [] λu _ k'=>k'=[]/\u = .bool (xs.any g):=by
 rw [<- pM]
 have hx:=Jz hv hE hf
 obtain ⟨a,cap,rfl,hlc,hcm,_⟩:=id hv.form
 unfold dE at *
 refine eG (n:=9) func31 Z Z (len Z) λhr w0 hw0=>?_
 refine cQ<|sA Z<|sN<|nT<|cQ<|sM Z<|sM Z<|bM hw0 Z Z en100 Z (hx) ?_
 rintro u h' ⟨Zq,k',rfl,hZ,rfl,rfl⟩
 simp only [lC,lN]
 refine sV (nE Z Z)<|sA Z<|sK [4] Z<|cT ?_
 exact aj Z ⟨Zq,[],Z,hZ,Z,Z⟩ sbq
theorem Mm {R:Res} {us:List Value} {s:Sd} {ss:List Sd} {b15:Nat} {w:Value} (h:Enc.rep R us s) (hb:Rd R ⟨b15,2,none⟩ w) (hw:Ls R w ss):Reads prog 32 #[.agg us.toArray,.pointer (some ⟨b15,0,none⟩)] [R] (.bool (!(ss.contains s))):=by
 obtain rfl:us=[sv s.cls,sv s.name]:=h
 have hc:=rD (s:=s) hw
 obtain ⟨wA,wK,rfl,_⟩:=id hw.form
 refine aL (n:=9) func32 Z Z (len Z) λhr w0=>?_
 refine cQ (aP Z Z λb2=>?_)
 refine sA Z<|sK [1,2,3] Z<|cQ<|sV (vF Z dX Z)<|sV (vY Z nO (ha:=⟨R,_,slq,hb⟩)) ?_
 refine sV (af Z il Z ah) ?_
 refine aY Z Z en33 Z (hc) ?_
 refine sV (bg Z)<|sA Z<|sK [3] Z<|cT ?_
 exact aj Z ⟨Z,Z⟩ sbq
theorem Mo (hX:Spc X) (hl:Ls X v l) (hS:jg l) {us:List Value} {n:Nm} {s:Sd} {b1 b6:Nat} (h:Enc.rep X us s) (h1:Rd X ⟨b1,0,none⟩ v) (h6:Rd X ⟨b6,0,none⟩ (sv n)):dE prog 34 #[.agg us.toArray,.pointer (some ⟨b1,0,none⟩),.pointer (some ⟨b6,0,none⟩)] X [] λu _ k'=>k'=[]/\u = .bool (sevB l n s):=by
 obtain rfl:us=[sv s.cls,sv s.name]:=h
 have hna:=Hl hX hl hS n s
 obtain ⟨vAq,vK,rfl,_⟩:=id hl.form
 unfold dE sevB at *
 refine eG (n:=22) func34 Z Z (len Z) λhr w0 hw0=>?_
 refine cQ (aP Z Z λb3=>?_)
 refine sA Z<|sK [1,2,3,4] Z<|cQ<|sV (vY Z Af (ha:=⟨X,_,slq,h1⟩)) ?_
 refine sV (vF Z w9 Z)<|sV (vY Z ld9 (ha:=⟨X,_,slq,h6⟩)) ?_
 refine sV (af Z il Z ah) ?_
 refine bM hw0 Z Z en35 Z (hna) ?_
 rintro u h' ⟨Y,k',rfl,hY,rfl,w,rfl,hw⟩
 simp only [lC,lN]
 obtain ⟨wA,wK,rfl,_⟩:=id hw.form
 refine sM Z<|sV (ag Z Z)<|sV (ag Z Z)<|sA Z<|sA Z<|sK [4,5,6] Z<|cQ<|sM Z<|sV (bP Z Z)<|sM Z ?_
 generalize ((fO l n s).2 != 0)=B
 cases B with
 | true =>
  iterate 3 refine aC rfl rfl rfl ?_
  refine sV (vQ Z Z)<|sA Z<|sK [4] Z<|cT ?_
  exact aj Z ⟨Y,[],Z,hY,Z,Z⟩ sbq
 | false =>
  refine sG Z Z (vM Z)<|sG Z Z (aF Z underlying40)<|sG Z Z (cu Z Z)<|sV (vP Z Z)<|sA Z<|sK [4] Z<|cT ?_
  exact aj Z ⟨Y,[],Z,hY,Z,Z⟩ sbq
theorem en32:Ck.Enters prog 32:=enters_of func32 Zz rfl
theorem en34:Ck.Enters prog 34:=enters_of func34 Zz rfl
theorem xS (hX:Spc X) (hl:Ls X v l) (hcr:Cre X v l):dE prog 6 #[v] X [] λu Y k'=>k'=[]/\u = .bool true:=by
 have hml:maxLen=9223372036854775807:=rfl
 have hrb:reachBytes=140737488351232:=rfl
 have hsm:=NW hcr hl
 have hsn:=λ(Y:Res) (hE:Ext X Y)=>Md<|hX.up hE
 have hfl:=λ(hS:jg l)=>Oy hX hl hS
 have hve:=λ(Y:Res) (hE:Ext X Y) (hS:jg l) (d c n:Nm)=>Br (hX.up hE) (hl.up hE) hS d c n
 have hmo:=λ(Y:Res) (hE:Ext X Y) (hS:jg l) (c n:Nm)=>Hm (hX.up hE) (hl.up hE) hS c n
 have his:=λ(Y:Res) (hE:Ext X Y) (c x:Nm)=>Is_ct (tT<|hl.up hE) c x
 obtain ⟨vAq,vK,rfl,_⟩:=id hl.form
 unfold dE at *
 refine eG (n:=132) func6 Z Z (len Z) λhr w0 hw0=>?_
 refine cQ (aP Z Z λb1=>?_)
 refine sA Z<|sK [1,2] Z<|cS<|cQ<|sV (vY Z Af) ?_
 refine aH Z Z en10 Z (hsm) ?_
 rintro u h' ⟨ok,rfl,rfl,hok⟩
 simp only [lC,lN]
 refine sV (bg Z)<|sK [1,2,20] Z ?_
 cases ok with
 | false =>
  refine aQ Z ?_
  refine cQ<|bM hw0 Z Z en11 Z (hsn X<|Ext.refl X) ?_
  rintro u h' ⟨V,k',rfl,hV,rfl,rfl⟩
  simp only [lC,lN]
  refine sA Z<|sK [2] Z<|cT<|xR ?_
  exact aj Z ⟨V,[],Z,((Ext.refl X)).trans hV,Z,Z⟩ sbq
 | true =>
  have hS:=(hok rfl).short
  have hfl:=hfl hS
  have hve:=λ(Y:Res) (hE:Ext X Y)=>hve Y hE hS
  have hmo:=λ(Y:Res) (hE:Ext X Y)=>hmo Y hE hS
  clear hok hsm hcr
  refine aG Z ?_
  refine cK<|xT<|cQ<|sV (vY Z Af) ?_
  refine bM hw0 Z Z en13 Z (hfl) ?_
  rintro u h' ⟨Y,k',rfl,hE,rfl,w,rfl,hw⟩
  simp only [lC,lN]
  obtain ⟨wA,wK,rfl,hwl,hwm,_⟩:=id hw.form
  clear hfl
  refine sM Z<|sV (ag Z Z)<|sV (ag Z Z)<|sA Z<|sA Z<|sK [1,2,3,4] Z<|cS<|cQ<|sM Z<|sV (bP Z Z)<|sK [1,2,3,28] Z<|cC Z (λhe=>?_)<|λhe=>?_
  ·refine cQ<|bM hw0 Z Z en11 Z (hsn Y hE) ?_
   rintro u h' ⟨V,k',rfl,hV,rfl,rfl⟩
   simp only [lC,lN]
   refine sA Z<|sK [2] Z<|cT<|xR ?_
   exact aj Z ⟨V,[],Z,(hE).trans hV,Z,Z⟩ sbq
  ·have he:(gI l).2=0:=Zj
   have hg:=AL.1 he
   have hfa:=λ(f:Fl) (hf:f∈(gI l).1)=>OC hg hf
   generalize (gI l).1=xs at hw hfa hwl
   refine cK<|xT<|cS<|cQ<|sM Z<|sV (aF Z underlying32)<|sM Z<|sK [1,2,3,30,31,32] Z<|cB<|aX (σ := Res×Nat) (λq=>[(1,.pointer (some ⟨b1,0,none⟩)),(3,.slice wA xs.length wK),(30,.slice wA xs.length wK),(31,.int .i64 xs.length),(32,.int .i64 (q.2:Nat))]) (λq=>pt b1 (cl [.slice vAq l.length vK] 22)::q.1::hr) (λq=>Ext Y q.1/\q.2≤xs.length) (λq=>xs.length - q.2) (Y,0) ⟨Ext.refl Y,Nat.zero_le _⟩ ?_
   rintro ⟨Y1,i⟩ ⟨hY1,hi⟩
   simp only at hY1 hi
   dsimp only
   have hE1:=hE.trans hY1
   refine cQ<|sV (aN Z Z)<|sN<|nT<|cS<|cC Z (λhd=>?_)<|λhd=>?_
   ·have hlt:i<xs.length:=Zx
    obtain ⟨fb,fo,fcap,fus,e1,hfus,hfrd,hfr⟩:=(hw.up hY1).at<|Zy hlt
    obtain ⟨rfl,rfl⟩:wA=some ⟨fb,fo,none⟩/\wK=fcap:=by cases e1; exact ⟨rfl,rfl⟩
    obtain ⟨hfc,hfF,hfm⟩:=hfa _<|List.getElem_mem hlt
    generalize xs[i]=f at hfr hfc hfF hfm
    have hfo1:=Enc.ones hfr
    obtain ⟨f2,f3,rfl,hf2,hf3⟩:=hfr
    have hf2o:=hf2.one
    refine cK<|xT<|cS<|cB<|cQ<|sV (vI (k:=i) Z Z sl32 Z hlt Z)<|sV (af Z Fg Z hfrd) ?_
    refine au Fh λb6=>?_
    refine ai Z Z Ab Z hfo1 ?_
    refine sK [1,3,6,30,31,32] Z<|cQ<|sM Z<|sV (aF Z underlying32)<|sM Z<|sN<|nT<|cB<|aX (σ := Res×Nat) (λq=>[(1,.pointer (some ⟨b1,0,none⟩)),(3,.slice (some ⟨fb,fo,none⟩) xs.length wK),(30,.slice (some ⟨fb,fo,none⟩) xs.length wK),(31,.int .i64 xs.length),(32,.int .i64 (i:Nat)),(6,.pointer (some ⟨b6,0,none⟩)),(36,.slice (some ⟨fb,fo,none⟩) xs.length wK),(37,.int .i64 xs.length),(38,.int .i64 (q.2:Nat))]) (λq=>pt b6 (cl [sv f.name,.bool f.dfd,f2,f3] 55)::pt b1 (cl [.slice vAq l.length vK] 22)::q.1::hr) (λq=>Ext Y1 q.1/\q.2≤xs.length) (λq=>xs.length - q.2) (Y1,0) ⟨Ext.refl Y1,Nat.zero_le _⟩ ?_
    rintro ⟨Y2,j⟩ ⟨hY2,hj⟩
    simp only at hY2 hj
    dsimp only
    have hE2:=hE1.trans hY2
    refine cQ<|sV (aN Z Z)<|sN<|nT<|cS<|cC Z (λhd2=>?_)<|λhd2=>?_
    ·have hltj:j<xs.length:=Zw
     obtain ⟨ab,ao,acap,aus,e2,haus,hard,har⟩:=(hw.up<|hY1.trans hY2).at<|Zy hltj
     obtain ⟨h1,h2⟩:fb=ab/\fo=ao:=by cases e2; exact ⟨rfl,rfl⟩
     subst h1 h2
     obtain ⟨hac,haF,ham⟩:=hfa _<|List.getElem_mem hltj
     generalize xs[j]=a at har hac haF ham
     have hao1:=Enc.ones har
     obtain ⟨am,a3,rfl,hamr,ha3⟩:=har
     obtain ⟨aA,aK,rfl,hal1,ham1,_⟩:=id hamr.form
     have hi1:=his Y2 hE2 f.name a.name
     rw [show dJ (bn l) [f.name,a.name]=0 from d9.2 ⟨hg.sys,λk hk=>by
      rcases List.mem_cons.1 hk with rfl | hk
      ·rw [dD]; exact hfc
      ·rw [List.mem_singleton] at hk; subst hk; rw [dD]; exact hac⟩] at hi1
     rw [show (decide ((0:Int)=0) && has (bn l) f.name a.name)=has (bn l) f.name a.name by simp] at hi1
     have hla:=λ(h:has (bn l) f.name a.name=true)=>BG hg hfc hac h
     rw [<- hfF,<- haF,<- ham] at hla
     generalize has (bn l) f.name a.name=H at hi1 hla
     have hasI:=Bv ha3<|hf3.up hY2
     refine cK<|xT<|cS<|cB<|cQ<|sV (vI (k:=j) Z Z sl32 Z hltj Z)<|sV (af Z Fg Z hard) ?_
     refine au Fh λb8=>?_
     refine ai Z Z Ab Z hao1 ?_
     refine sK [1,3,6,8,30,31,32,36,37,38] Z<|cQ<|sV (vY Z Af) ?_
     refine sV (vF Z w9 Z)<|sV (vY Z ld9) ?_
     refine sV (vF Z w9 Z)<|sV (vY Z ld9) ?_
     refine aH Z Z en27 Z (hi1) ?_
     rintro u h' ⟨rfl,rfl⟩
     simp only [lC,lN]
     refine sM Z<|sV (ag Z Z)<|sV (ag Z Z)<|sA Z<|sA Z<|sK [1,3,6,8,9,10,30,31,32,36,37,38] Z<|cS<|cQ<|sM Z<|sV (bP Z Z)<|sK [1,3,6,8,9,30,31,32,36,37,38,52] Z<|aG Z ?_
     refine cK<|xT<|cS<|cQ<|sM Z<|sV (bg Z)<|sK [1,3,6,8,30,31,32,36,37,38,54] Z ?_
     cases H with
     | false =>
      refine aQ Z ?_
      refine aB<|xE<|xY<|xT<|cR<|sV (aI Z Z Za)<|sM Z<|sN<|nK [1,3,6,30,31,32,36,37,38] Z<|ax ?_
      refine aJ (Y2,j+1) ⟨hY2,hltj⟩ (by show xs.length - (j+1)<xs.length - j; omega)
     | true =>
      obtain ⟨hla1,hla2⟩:=hla rfl
      rw [show (a.inv.all λx=>f.inv.contains x)=true from List.all_eq_true.2 λx hx=>by simpa using hla1 x hx] at hasI
      refine aG Z ?_
      refine cK<|xT<|cS<|cQ<|sV (vF Z xe Z)<|sV (vY Z qo) ?_
      refine sV (vF Z xe Z)<|sV (vY Z qo) ?_
      refine aY Z Z en28 Z (hasI) ?_
      refine sV (bg Z)<|sK [1,3,6,8,30,31,32,36,37,38,60] Z<|aG Z ?_
      refine cK<|xT<|cQ<|sV (vF Z qO Z)<|sV (vY Z tJ) ?_
      refine sV (aF Z underlying52)<|sM Z<|sK [1,3,6,8,30,31,32,36,37,38,62,63,64] Z<|cB<|aX (σ := Res×Nat) (λq=>[(1,.pointer (some ⟨b1,0,none⟩)),(3,.slice (some ⟨fb,fo,none⟩) xs.length wK),(30,.slice (some ⟨fb,fo,none⟩) xs.length wK),(31,.int .i64 xs.length),(32,.int .i64 (i:Nat)),(6,.pointer (some ⟨b6,0,none⟩)),(36,.slice (some ⟨fb,fo,none⟩) xs.length wK),(37,.int .i64 xs.length),(38,.int .i64 (j:Nat)),(8,.pointer (some ⟨b8,0,none⟩)),(62,.slice aA a.mems.length aK),(63,.int .i64 a.mems.length),(64,.int .i64 (q.2:Nat))]) (λq=>pt b8 (cl [sv a.name,.bool a.dfd,.slice aA a.mems.length aK,a3] 55)::pt b6 (cl [sv f.name,.bool f.dfd,f2,f3] 55)::pt b1 (cl [.slice vAq l.length vK] 22)::q.1::hr) (λq=>Ext Y2 q.1/\q.2≤a.mems.length) (λq=>a.mems.length - q.2) (Y2,0) ⟨Ext.refl Y2,Nat.zero_le _⟩ ?_
      rintro ⟨Y3,k⟩ ⟨hY3,hk⟩
      simp only at hY3 hk
      dsimp only
      have hE3:=hE2.trans hY3
      refine cQ<|sV (aN Z Z)<|sN<|nT<|cS<|cC Z (λhd3=>?_)<|λhd3=>?_
      ·have hltk:k<a.mems.length:=Zr
       obtain ⟨mb,mo,mcap,mus,e3,hmus,hmrd,hmr⟩:=(hamr.up hY3).at<|Zy hltk
       obtain ⟨rfl,rfl⟩:aA=some ⟨mb,mo,none⟩/\aK=mcap:=by cases e3; exact ⟨rfl,rfl⟩
       have hmm:=hla2 (a.mems[k])<|List.getElem_mem hltk
       generalize a.mems[k]=m at hmr hmm
       have hmo1:=Enc.ones hmr
       obtain ⟨m2,m5,my,m11,m12,m13,rfl,hm2,hm5,-,-,hm12,hm13⟩:=dh hmr
       obtain ⟨sAq,sKq,rfl,_⟩:=id hm2.form
       obtain ⟨gA,gK,rfl,_⟩:=id hm5.form
       have hm12o:=hm12.one
       have hm13o:=hm13.one
       have hve1:=hve Y3 hE3 f.name a.name m.name
       generalize hV:iH l f.name a.name m.name=V at hve1
       obtain ⟨v1,e1⟩:=V
       dsimp only at hve1
       unfold gz at *
       refine cK<|xT<|cS<|cB<|cQ<|sV (vI (k:=k) Z Z oM Z hltk Z)<|sV (af Z eU Z hmrd) ?_
       refine au ji λb12=>?_
       refine ai Z Z gP Z hmo1 ?_
       refine sK [1,3,6,8,12,30,31,32,36,37,38,62,63,64] Z<|cQ<|sV (vY Z Af) ?_
       refine sV (vF Z w9 Z)<|sV (vY Z ld9) ?_
       refine sV (vF Z w9 Z)<|sV (vY Z ld9) ?_
       refine sV (vF Z eB Z)<|sV (vY Z ld9) ?_
       refine bM hw0 Z Z en29 Z (hve1) ?_
       rintro u h' ⟨Y4,k',rfl,hY4,rfl,rfl⟩
       simp only [lC,lN]
       have hE4:=hE3.trans hY4
       refine sM Z<|sV (ag Z Z)<|sV (ag Z Z)<|sA Z<|sA Z<|sK [1,3,6,8,12,13,14,30,31,32,36,37,38,62,63,64] Z<|cS<|cQ<|sM Z<|sV (bP Z Z)<|sK [1,3,6,8,12,13,30,31,32,36,37,38,62,63,64,80] Z<|cC Z (λhz=>?_)<|λhz=>?_
       ·refine aB<|xE<|xY<|xT<|cR<|sV (aI Z Z Za)<|sM Z<|sN<|nK [1,3,6,8,30,31,32,36,37,38,62,63,64] Z<|ax ?_
        refine aJ (Y4,k+1) ⟨hY3.trans hY4,hltk⟩ (by show a.mems.length - (k+1)<a.mems.length - k; omega)
       ·have hz:e1=0:=Zn
        subst hz
        obtain ⟨x,hx,hlen,hsub,hgr⟩:=hmm v1 hV
        have hmo2:=hmo Y4 hE4 f.name v1
        rw [hx] at hmo2
        refine cK<|xT<|cQ<|sV (vY Z Af) ?_
        refine sV (vF Z w9 Z)<|sV (vY Z ld9) ?_
        refine sM Z<|bM hw0 Z Z en30 Z (hmo2) ?_
        rintro u h' ⟨Y5,k',rfl,hY5,rfl,us,rfl,hr5⟩
        simp only [lC,lN]
        have hr5:Enc.rep Y5 us x:=hr5
        have hE5:=hE4.trans hY5
        have hxo1:=Enc.ones hr5
        obtain ⟨x2,x5,xy,x11,x12,x13,rfl,hx2,hx5,-,-,hx12,hx13⟩:=dh hr5
        obtain ⟨tA,tK,rfl,_⟩:=id hx2.form
        obtain ⟨uA,uK,rfl,_⟩:=id hx5.form
        have hx12o:=hx12.one
        have hx13o:=hx13.one
        unfold gz at *
        refine sM Z<|sV (ag Z Z)<|sV (ag Z Z) (au ji λb15=>?_)
        refine ai Z Z gP Z hxo1 ?_
        have hpk:=Ext.packs Y5 [pt b15 (cl [sv x.name,.int .i64 x.kind,.slice tA x.seeds.length tK,sv x.impl.cls,sv x.impl.name,.slice uA x.args.length uK,.int .i64 x.ty.kind,sv x.ty.name,xy,.bool x.ty.void,.bool x.ty.sep,x11,x12,x13] 75)]
        have hm25:=hm2.up<|hY4.trans hY5
        have hany:=F7 (X:=Res.star ([pt b15 (cl [sv x.name,.int .i64 x.kind,.slice tA x.seeds.length tK,sv x.impl.cls,sv x.impl.name,.slice uA x.args.length uK,.int .i64 x.ty.kind,sv x.ty.name,xy,.bool x.ty.void,.bool x.ty.sep,x11,x12,x13] 75)]++[Y5])) (hm25.up hpk) en32 (cp := #[.pointer (some ⟨b15,0,none⟩)]) (g:=λs => !(x.seeds.contains s)) λs hs us h=>Mm h (fP .here _ _<|bV rfl)<|hx2.up hpk
        rw [show (m.seeds.any λs => !(x.seeds.contains s))=false from List.any_eq_false.2 λs hs=>by simpa using hsub s hs] at hany
        refine sA Z<|sK [1,3,6,8,12,15,16,30,31,32,36,37,38,62,63,64] Z<|cS<|cQ<|sM Z<|sV (bP Z Z)<|sM Z<|sG Z Z (vF Z jH Z)<|sG Z Z (vY Z qJ) ?_
        refine sG Z Z (aF Z underlying70)<|sG Z Z (vF Z jH Z)<|sG Z Z (vY Z qJ) ?_
        refine sG Z Z (aF Z underlying70)<|sG Z Z (bP Z Z)<|sV (vP Z Z)<|sM Z ?_
        rw [show (((m.args.length:Nat):Int) != ((x.args.length:Nat):Int))=false by rw [hlen]; exact bne_self_eq_false _]
        refine sG Z Z (vF Z dX Z)<|sG Z Z (vY Z nO) ?_
        refine sG Z Z (bQ Z Z)<|ku Z Z<|aH Z Z en31 Z ((dF hany)) ?_
        rintro u h' ⟨rfl,rfl⟩
        simp only [lC,lN]
        refine sV (vP Z Z)<|sK [1,3,6,8,12,15,30,31,32,36,37,38,62,63,64,105] Z<|aG Z ?_
        refine cK<|xT<|cQ<|sV (vF Z dX Z)<|sV (vY Z nO) ?_
        refine sV (bQ Z Z) ?_
        have hq1:=Ext.packs Y5 [pt b6 (cl [sv f.name,.bool f.dfd,f2,f3] 55),pt b1 (cl [.slice vAq l.length vK] 22)]
        have hsev:=Ml (X:=Res.star ([pt b6 (cl [sv f.name,.bool f.dfd,f2,f3] 55),pt b1 (cl [.slice vAq l.length vK] 22)]++[Y5])) (hm25.up hq1) en34 (cp := #[.pointer (some ⟨b1,0,none⟩),.pointer (some ⟨b6,0,none⟩)]) (g:=λs=>sevB l f.name s) λZq hZ s hs us h=>Mo (hX.up<|hE5.trans<|hq1.trans hZ) (hl.up<|hE5.trans<|hq1.trans hZ) hS h (hZ.rd _ _<|fP (.there .here) _ _<|bV rfl)<|hZ.rd _ _<|fP .here _ _<|bV rfl
        have hsev:=HV hsev
        unfold dE at hsev
        refine bM hw0 Z Z en31 Z (hsev) ?_
        rintro u h' ⟨Y6,k',rfl,hY6,rfl,rfl⟩
        simp only [lC,lN]
        have hY56:=hY5.trans hY6
        have hh1:=Bv ((hm12.up hY4).up hY56)<|hx12.up hY6
        have hh2:=Bv ((hm13.up hY4).up hY56)<|hx13.up hY6
        generalize hB:(m.seeds.any λs=>sevB l f.name s)=B
        refine sA Z<|sK [1,3,6,8,12,15,17,30,31,32,36,37,38,62,63,64] Z<|cQ<|sM Z<|sV (bg Z)<|sM Z ?_
        cases B with
        | true =>
         iterate 7 refine aC rfl rfl rfl ?_
         refine bS Z Z ?_
         refine bS Z Z ?_
         refine bS Z Z ?_
         refine bS Z Z ?_
         refine bS Z Z ?_
         refine bS Z Z ?_
         refine aC Z Z Z ?_
         refine sV (vP Z Z)<|sK [1,3,6,8,30,31,32,36,37,38,62,63,64,127] Z<|aG Z ?_
         refine cK<|xB<|xT<|cR<|sV (aI Z Z Za)<|sM Z<|sN<|nK [1,3,6,8,30,31,32,36,37,38,62,63,64] Z<|ax ?_
         refine aJ (Y6,k+1) ⟨(hY3.trans hY4).trans hY56,hltk⟩ (by show a.mems.length - (k+1)<a.mems.length - k; omega)
        | false =>
         obtain ⟨hg1,hg2⟩:=hgr<|sev_not hB
         rw [show (m.pre.all λg=>x.pre.contains g)=true from List.all_eq_true.2 λg hg=>by simpa using hg1 g hg] at hh1
         rw [show (m.post.all λg=>x.post.contains g)=true from List.all_eq_true.2 λg hg=>by simpa using hg2 g hg] at hh2
         refine sG Z Z (vF Z iO Z)<|sG Z Z (vY Z qo) ?_
         refine sG Z Z (vF Z iO Z)<|sG Z Z (vY Z qo) ?_
         refine bU Z Z Z Z en28 Z (hh1) ?_
         refine sG Z Z (bg Z)<|sG Z Z (vM Z)<|sG Z Z (vF Z iP Z)<|sG Z Z (vY Z qo) ?_
         refine sG Z Z (vF Z iP Z)<|sG Z Z (vY Z qo) ?_
         refine bU Z Z Z Z en28 Z (hh2) ?_
         refine sG Z Z (bg Z)<|sG Z Z (vP Z Z)<|sV (vQ Z Z)<|sK [1,3,6,8,30,31,32,36,37,38,62,63,64,127] Z<|aG Z ?_
         refine cK<|xB<|xT<|cR<|sV (aI Z Z Za)<|sM Z<|sN<|nK [1,3,6,8,30,31,32,36,37,38,62,63,64] Z<|ax ?_
         refine aJ (Y6,k+1) ⟨(hY3.trans hY4).trans hY56,hltk⟩ (by show a.mems.length - (k+1)<a.mems.length - k; omega)
      ·refine aB<|xE<|xE<|xY<|xB<|xT<|cR<|sV (aI Z Z Za)<|sM Z<|sN<|nK [1,3,6,30,31,32,36,37,38] Z<|ax ?_
       refine aJ (Y3,j+1) ⟨hY2.trans hY3,hltj⟩ (by show xs.length - (j+1)<xs.length - j; omega)
    ·refine aB<|xE<|xE<|xY<|xB<|xT<|cR<|sV (aI Z Z Za)<|sM Z<|sN<|nK [1,3,30,31,32] Z<|ax ?_
     refine aJ (Y2,i+1) ⟨hY1.trans hY2,hlt⟩ (by show xs.length - (i+1)<xs.length - i; omega)
   ·refine aB<|xE<|xE<|xY<|xT<|cQ<|bM hw0 Z Z en11 Z (hsn Y1 hE1) ?_
    rintro u h' ⟨V,k',rfl,hV,rfl,rfl⟩
    simp only [lC,lN]
    refine sA Z<|sK [2] Z<|cT ?_
    exact aj Z ⟨V,[],Z,(hE1).trans hV,Z,Z⟩ sbq
end
end Go.Fl
