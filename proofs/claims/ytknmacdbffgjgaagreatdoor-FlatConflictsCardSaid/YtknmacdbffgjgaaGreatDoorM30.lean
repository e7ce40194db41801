/-
  Laws over listed variables: the library's table of blanks lies in memory; from a weak contract to what a statement of a law asks. No condition.
-/
import Derived.Test.YtknmacdbffgjgaaGreatDoorRows
import Derived.Test.YtknmacdbffgjgaaGreatDoorM29
import Derived.Test.YtknmacdbffgjgaaGreatDoorM20
import Derived.ProofKit
import Derived.LaidMore
import Derived.OpenShut
import Derived.Stop.Joined
import Derived.MakeChecks
set_option linter.unusedVariables false
set_option linter.unusedSimpArgs false
set_option maxRecDepth 100000
set_option maxHeartbeats 16000000
namespace Go.Ck
open Go Go.RowKit Go.ChangeShapes Go.WideShapes
structure Kept0 (W w':World):Prop where
 os:w'.os=W.os
 output:w'.output=W.output
 fz:∀ a,a.block<W.heap.size→w'.frozen? a=W.frozen? a
 block:∀ b,b<W.heap.size→w'.heap[b]? = W.heap[b]?
theorem Kept0.frame {W w':World} (h:Kept0 W w') (may:MemPlace→Prop):W.keptBut w' may:=by
 refine ⟨h.os,h.output,fun i hi=>?_⟩
 rw [h.block i hi]
 cases hq:W.heap[i]? with
 | none=>rfl
 | some o=>cases o <;> first | exact ⟨rfl,rfl,rfl,fun _ _=>rfl⟩ | exact Or.inr ⟨rfl,rfl⟩ | rfl
theorem Ma {P:Program} {k:FuncId} {args:Array Value} {W:World} (h:eG P k args (old W) [] fun u _ k'=>k'=[]∧u = .bool true):Calls P k args W fun e w'=>e = .returned (.bool true)∧Kept0 W w' :=
 (h [] W (by simpa using wS W)).mono fun e w' ⟨v,h',he,⟨Y,k',hh,hE,hk,hv⟩,hH,hS⟩=>by
  subst hk hv hh
  obtain ⟨T,hT⟩:=hE.vw
  have h1:=hT [] w' (by simpa using hH)
  have h2:Holds w' [old W,T]:=h1.perm (.swap _ _ _)
  exact ⟨he,hS.os,hS.output,hS.fz,h2.1⟩
section
variable {H:Type} {enc:TypeId×Value→H} {P:Program} {W W':World} {sp:Nat→Bool}
theorem Mc {f:Func} {s:ChangeSpec} {args:Array Value} {ds gs:List (DataW H)} {before:List MemPlace} {tb:TypeId} {tys:List Ty} (hW:DataW.Whole enc P f.params.toList s.vars false W args.toList ds gs before)
  (hv:s.vars=[]) (hr:f.resultTypes = #[tb]) (htb:P.underlying tb=some .bool) (hf:fitAll P tys f.params.toList=true) (hfn:s.fn H (ds++gs)={ results:=[.lit (.bool true)],args:=ds }) (hk:Kept0 W W') :
  s.post enc P f false true false false W args (.bool true) W':=by
 have hW':=hW
 obtain ⟨p,q,hA,hV,rfl,hfz,hnd⟩:=hW
 rw [hv] at hV
 obtain ⟨rfl,rfl⟩:=trodVars_none hV
 have hres:∀ (b:Nat) (sp:Nat→Bool) (hd:Bool),DataW.TrodAll enc P W' b sp hd f.resultTypes.toList ((Value.bool true).resultList f.resultTypes.size) (s.fn H (ds++[])).results []:=fun b sp hd=>by
  rw [hr,hfn]
  exact trodAll_mk1 (shut_bool htb _)
 have hargs:∀ sp:Nat→Bool,(∀ x∈p++[],sp x.block=true)→DataW.TrodAll enc P W' 0 sp true f.params.toList args.toList (s.fn H (ds++[])).args p:=fun sp hsp=>by
  rw [hfn]
  exact BS hk.block hf hA fun x hx=>hsp x (List.mem_append_left _ hx)
 have hvars:∀ sp:Nat→Bool,DataW.TrodVars enc P W' sp s.vars (s.fn H (ds++[])).vars []:=fun sp=>by rw [hv,hfn]; rfl
 have hold:∀ x∈p++[],(fun b=>decide (b<W.heap.size)) x.block=true:=fun x hx=>by simpa using hW'.lt x hx
 refine ⟨ds,[],p++[],[],p,[],hW',hres _ _ _,hargs _ hold,hvars _,World.keptBut_mono (fun x hx=>⟨hx,.inr (List.mem_append.1 hx)⟩) (hk.frame (· ∈ p++[])),fun _=>?_⟩
 refine ⟨ok_one hr Z (okWide_bool_mk htb _),_,_,([]++p)++[],⟨[]++p,[],trodAll_append (hargs _ fun _ _=>rfl) (hres _ _ _),hvars _,Z,fun b off hm=>?_,fun ha=>?_⟩,fun x hx _=>by simpa using hx⟩
 ·have hm':MemPlace.cell b off∈p++[]:=by simpa using hm
  rw [hk.fz _ (show b<W.heap.size from of_decide_eq_true (hold _ hm'))]
  exact hfz b off hm'
 ·simpa using hnd ha
end
end Go.Ck
namespace Go.Fl
open Go Go.RowKit Go.ChangeShapes Go.WideShapes Go.Ck Go.Proofs Go.Proofs.Tryz Go.Proofs.YtknmacdbffgjgaaGreatDoor Fx Go.Hr
theorem gSpace : prog.globalNamed "strings.asciiSpace" = some 0 := by kernel_rfl
theorem tSpace:(prog.globals[0]?).map (·.type)=some 335:=by kernel_rfl
def GQ : List (String × DataW Unit) := [("unicode.White_Space", Rows.laid_unicode_White_Space), ("strings.asciiSpace", Rows.laid_strings_asciiSpace)]
theorem Om (os:Os) (args:Array Value):laidMetH prog GQ ((World.doorLaid prog 33 os).forCall (fun _ _=>0) ⟨#[],args,[]⟩).memory :=
 laidMetH_of_parts3 (fuel:=8) (laidMet_of_run' 8 (by kernel_rfl) (by kernel_rfl)) (by kernel_rfl) (by kernel_rfl)
def Je:List Int:=(List.range 256).map fun c=>if Lib.isSp (UInt8.ofNat c) then 1 else 0
theorem Oo:(Rows.laid_strings_asciiSpace:DataW Unit) = .agg (Je.map fun k=>.lit (.int .u8 k)):=by kernel_rfl
theorem lt_of_cell {W:World} {p:Addr} {v:Value} (h:W.cell? p=some v):p.block<W.heap.size:=by
 unfold World.cell? at h
 refine Nat.lt_of_not_le fun hn=>?_
 rw [Array.getElem?_eq_none hn] at h
 cases h
theorem GR {W:World} (h:laidMetH prog GQ W):Spc (old W):=by
 rw [MakeChecks.laidMetH_plain _ _ _ (by kernel_rfl)] at h
 obtain ⟨ps,⟨g0,t0,cs0,f0,p0,q0,hg0,ht0,hv0,hd0,⟨g1,t1,cs1,f1,p1,q1,hg1,ht1,hv1,hd1,_,_⟩,_⟩,_,_⟩:=h
 obtain rfl:=Option.some.inj (gSpace.symm.trans hg1)
 obtain rfl:=Option.some.inj (tSpace.symm.trans ht1)
 rw [Oo] at hd1
 obtain ⟨xs,m1,rfl,hx1,hlen,hn3,hel⟩:=DataW.trod_array underlying335 hd1
 have c5:prog.cellsOf 5=1:=by kernel_rfl
 have hx1:=(DataW.agg.inj (Prod.mk.inj hx1).1)
 intro c hc
 have h0:=hel c hc
 rw [c5,Nat.mul_one] at h0
 have hxc:xs[c]? = some (xs[c]'(by omega)):=List.getElem?_eq_getElem (by omega)
 rw [hxc] at h0
 obtain ⟨k,e1,e2,_⟩:=DataW.trod_int underlying5 h0
 have h2:(xs.map fun x=>x.1)[c]? = some (.lit (.int .u8 k)):=by
  rw [List.getElem?_map,hxc,Option.map_some,e2]
 rw [← hx1,List.getElem?_map] at h2
 have h3:Je[c]? = some (if Lib.isSp (UInt8.ofNat c) then 1 else 0):=by
  unfold Je
  rw [List.getElem?_map,List.getElem?_range hc]; rfl
 rw [h3] at h2
 have hk:k=(if Lib.isSp (UInt8.ofNat c) then 1 else 0):=by
  have:=Option.some.inj h2
  simpa using this.symm
 subst hk
 have hcell:=World.var?_cell hg1 hv1 c
 have h4:cs1.toList[c]? = some (.int .u8 (if Lib.isSp (UInt8.ofNat c) then 1 else 0)):=by
  have h5:=congrArg List.head? e1
  rw [List.head?_take] at h5
  simpa [List.head?_drop] using h5
 have h6:W.cell? ⟨0,c,none⟩=some (.int .u8 (if Lib.isSp (UInt8.ofNat c) then 1 else 0)):=by
  rw [hcell,← Array.getElem?_toList]; exact h4
 exact Ms (lt_of_cell h6) h6
end Go.Fl
