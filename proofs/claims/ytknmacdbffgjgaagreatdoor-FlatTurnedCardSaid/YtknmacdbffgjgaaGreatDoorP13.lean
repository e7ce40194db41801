/-
  The law FlatTurned,walked. Conditions: what is read; the library's table of blanks.
-/
import Derived.Test.YtknmacdbffgjgaaGreatDoorRows
import Derived.Test.YtknmacdbffgjgaaGreatDoorP12
import Derived.Test.YtknmacdbffgjgaaGreatDoorP9
import Derived.ProofKit
import Derived.LaidMore
import Derived.OpenShut
import Derived.Stop.Joined
import Derived.MakeChecks
import Derived.Test.YtknmacdbffgjgaaGreatDoorP10
import Derived.Test.YtknmacdbffgjgaaGreatDoorP6
import Derived.Test.YtknmacdbffgjgaaGreatDoorP7
import Derived.Test.YtknmacdbffgjgaaGreatDoorP11
import Derived.Test.YtknmacdbffgjgaaGreatDoorP5
set_option linter.unusedVariables false
set_option linter.unusedSimpArgs false
set_option maxRecDepth 100000
set_option maxHeartbeats 16000000
namespace Go.Ck
open Go Go.RowKit Go.ChangeShapes Go.WideShapes
structure Kept0 (W w':World):Prop where
 os:w'.os=W.os
 output:w'.output=W.output
 fz:∀ a,a.block<W.heap.size->w'.frozen? a=W.frozen? a
 block:∀ b,b<W.heap.size->w'.heap[b]? = W.heap[b]?
theorem Kept0.frame {W w':World} (h:Kept0 W w') (may:MemPlace->Prop):W.keptBut w' may:=by
 refine ⟨h.os,h.output,λi hi=>?_⟩
 rw [h.block i hi]
 cases hq:W.heap[i]? with
 | none=>rfl
 | some o=>cases o <;> first | exact ⟨rfl,rfl,rfl,λ_ _=>rfl⟩ | exact Or.inr ⟨rfl,rfl⟩ | rfl
theorem M4 {P:Program} {k:FuncId} {args:Array Value} {W:World} (h:eZ P k args (old W) [] λu _ k'=>k'=[]/\u = .bool true):Calls P k args W λe w'=>e = .returned (.bool true)/\Kept0 W w' :=
 (h [] W<|by simpa using wO W).mono λe w' ⟨v,h',he,⟨Y,k',hh,hE,hk,hv⟩,hH,hS⟩=>by
  subst hk hv hh
  obtain ⟨T,hT⟩:=hE.vw
  have h1:=hT [] w'<|by simpa using hH
  have h2:Holds w' [old W,T]:=h1.perm<|.swap _ _ _
  exact ⟨he,hS.os,hS.output,hS.fz,h2.1⟩
section
variable {H:Type} {enc:TypeId×Value->H} {P:Program} {W W':World} {sp:Nat->Bool}
theorem M5 {f:Func} {s:ChangeSpec} {args:Array Value} {ds gs:List (DataW H)} {before:List MemPlace} {tb:TypeId} {tys:List Ty} (hW:DataW.Whole enc P f.params.toList s.vars false W args.toList ds gs before)
  (hv:s.vars=[]) (hr:f.resultTypes = #[tb]) (htb:P.underlying tb=some .bool) (hf:fitAll P tys f.params.toList=true) (hfn:s.fn H (ds++gs)={ results:=[.lit (.bool true)],args:=ds }) (hk:Kept0 W W') :
  s.post enc P f false true false false W args (.bool true) W':=by
 have hW':=hW
 obtain ⟨p,q,hA,hV,rfl,hfz,hnd⟩:=hW
 rw [hv] at hV
 obtain ⟨rfl,rfl⟩:=trodVars_none hV
 have hres:∀ (b:Nat) (sp:Nat->Bool) (hd:Bool),DataW.TrodAll enc P W' b sp hd f.resultTypes.toList ((Value.bool true).resultList f.resultTypes.size) (s.fn H (ds++[])).results []:=λb sp hd=>by
  rw [hr,hfn]
  exact trodAll_mk1<|shut_bool htb _
 have hargs:∀ sp:Nat->Bool,(∀ x∈p++[],sp x.block=true)->DataW.TrodAll enc P W' 0 sp true f.params.toList args.toList (s.fn H (ds++[])).args p:=λsp hsp=>by
  rw [hfn]
  exact Dc hk.block hf hA λx hx=>hsp x<|List.mem_append_left _ hx
 have hvars:∀ sp:Nat->Bool,DataW.TrodVars enc P W' sp s.vars (s.fn H (ds++[])).vars []:=λsp=>by rw [hv,hfn]; rfl
 have hold:∀ x∈p++[],(λb=>decide (b<W.heap.size)) x.block=true:=λx hx=>by simpa using hW'.lt x hx
 refine ⟨ds,[],p++[],[],p,[],hW',hres _ _ _,hargs _ hold,hvars _,World.keptBut_mono (λx hx=>⟨hx,.inr<|List.mem_append.1 hx⟩) (hk.frame (· ∈ p++[])),λ_=>?_⟩
 refine ⟨ok_one hr Z (okWide_bool_mk htb _),_,_,([]++p)++[],⟨[]++p,[],trodAll_append (hargs _ λ_ _=>rfl) (hres _ _ _),hvars _,Z,λb off hm=>?_,λha=>?_⟩,λx hx _=>by simpa using hx⟩
 .have hm':MemPlace.cell b off∈p++[]:=by simpa using hm
  rw [hk.fz _ (show b<W.heap.size from of_decide_eq_true (hold _ hm'))]
  exact hfz b off hm'
 .simpa using hnd ha
end
end Go.Ck
namespace Go.Fl
open Go Go.RowKit Go.ChangeShapes Go.WideShapes Go.Ck Go.Proofs Go.Proofs.Tryz Go.Proofs.YtknmacdbffgjgaaGreatDoor Fx Go.Hr
theorem gSpace : prog.globalNamed "strings.asciiSpace" = some 0 := Zz
theorem tSpace:(prog.globals[0]?).map (·.type)=some 335:=Zz
def IC : List (String × DataW Unit) := [("unicode.White_Space", Rows.laid_unicode_White_Space), ("strings.asciiSpace", Rows.laid_strings_asciiSpace)]
theorem Ph (os:Os) (args:Array Value):laidMetH prog IC ((World.doorLaid prog 33 os).forCall (λ_ _=>0) ⟨#[],args,[]⟩).memory :=
 laidMetH_of_parts3 (fuel:=8) (laidMet_of_run' 8 Zz Zz) Zz Zz
def Ka:List Int:=(List.range 256).map λc=>if Lib.isSp (UInt8.ofNat c) then 1 else 0
theorem Pi:(Rows.laid_strings_asciiSpace:DataW Unit) = .agg (Ka.map λk=>.lit (.int .u8 k)):=Zz
theorem lt_of_cell {W:World} {p:Addr} {v:Value} (h:W.cell? p=some v):p.block<W.heap.size:=by
 unfold World.cell? at h
 refine Nat.lt_of_not_le λhn=>?_
 rw [Array.getElem?_eq_none hn] at h
 cases h
theorem IE {W:World} (h:laidMetH prog IC W):Spc (old W):=by
 rw [MakeChecks.laidMetH_plain _ _ _ Zz] at h
 obtain ⟨ps,⟨g0,t0,cs0,f0,p0,q0,hg0,ht0,hv0,hd0,⟨g1,t1,cs1,f1,p1,q1,hg1,ht1,hv1,hd1,_,_⟩,_⟩,_,_⟩:=h
 obtain rfl:=Option.some.inj<|gSpace.symm.trans hg1
 obtain rfl:=Option.some.inj<|tSpace.symm.trans ht1
 rw [Pi] at hd1
 obtain ⟨xs,m1,rfl,hx1,hlen,hn3,hel⟩:=DataW.trod_array underlying335 hd1
 have c5:prog.cellsOf 5=1:=Zz
 have hx1:=(DataW.agg.inj (Prod.mk.inj hx1).1)
 intro c hc
 have h0:=hel c hc
 rw [c5,Nat.mul_one] at h0
 have hxc:xs[c]? = some (xs[c]'(by omega)):=Zy<|by omega
 rw [hxc] at h0
 obtain ⟨k,e1,e2,_⟩:=DataW.trod_int underlying5 h0
 have h2:(xs.map λx=>x.1)[c]? = some (.lit<|.int .u8 k):=by
  rw [List.getElem?_map,hxc,Option.map_some,e2]
 rw [<- hx1,List.getElem?_map] at h2
 have h3:Ka[c]? = some (if Lib.isSp (UInt8.ofNat c) then 1 else 0):=by
  unfold Ka
  rw [List.getElem?_map,List.getElem?_range hc]; rfl
 rw [h3] at h2
 have hk:k=(if Lib.isSp (UInt8.ofNat c) then 1 else 0):=by
  have:=Option.some.inj h2
  simpa using this.symm
 subst hk
 have hcell:=World.var?_cell hg1 hv1 c
 have h4:cs1.toList[c]? = some (.int .u8 (if Lib.isSp (UInt8.ofNat c) then 1 else 0)):=by
  have h5:=congrArg List.head? e1
  rw [List.head?_take] at h5
  simpa [List.head?_drop] using h5
 have h6:W.cell? ⟨0,c,none⟩=some (.int .u8 (if Lib.isSp (UInt8.ofNat c) then 1 else 0)):=by
  rw [hcell,<- Array.getElem?_toList]; exact h4
 exact Np (lt_of_cell h6) h6
end Go.Fl
namespace Go.Ck
open Go Go.RowKit
section
variable {P:Program} {e:Env} {h:SH} {ty:TypeId}
end
theorem Rws.set {α : Type} [Enc α] {X:Res} {rows:List (List Value)} {xs:List α} {us:List Value} {a : α} (h:Rws X rows xs) (i:Nat) (ha:Enc.rep X us a):Rws X (rows.set i us) (xs.set i a):=by
 refine ⟨by simp [h.1],λj vs x h1 h2=>?_⟩
 by_cases hj:i=j
 .subst hj
  have hl:=(List.getElem?_eq_some_iff.1 h1).1
  have hl2:=(List.getElem?_eq_some_iff.1 h2).1
  rw [List.length_set] at hl hl2
  rw [List.getElem?_set_self hl] at h1
  rw [List.getElem?_set_self hl2] at h2
  cases h1; cases h2; exact ha
 .rw [List.getElem?_set_ne hj] at h1 h2
  exact h.2 j vs x h1 h2
end Go.Ck
namespace Go.Fl
open Go Go.RowKit Go.Ck Go.Proofs Go.Proofs.YtknmacdbffgjgaaGreatDoor Fx Go.Hr
attribute [local irreducible] Go.Ck.Sub St Cd Xt Nx DrL LsW
section
variable {X:Res} {v:Value} {l:FS}
def pkC (us:List Value) (k:Nat):Prop:=us=[.int .u8 (k:Nat)]/\k<256
end
end Go.Fl
namespace Go.Fl
open Go Go.RowKit Go.Ck Go.Proofs Go.Proofs.Tryz Go.Proofs.YtknmacdbffgjgaaGreatDoor Fx Go.Hr
theorem anyG_in {xs:List Grp} {g:Grp}:(xs.any λx=>decide (g=x))=xs.contains g:=by
 rw [Bool.eq_iff_iff]; simp
theorem all_any {xs ys:List Grp}:(!(xs.any λx => !(ys.contains x)))=xs.all λx=>ys.contains x:=by
 induction xs with
 | nil=>rfl
 | cons x t ih=>rw [List.any_cons,List.all_cons,Bool.not_or,Bool.not_not,ih]
attribute [local irreducible] Go.Ck.Sub St Cd Xt Nx DrL LsW
section
variable {X:Res} {v v':Value}
theorem M6 {x y:Grp} {b2:Nat} {gs us:List Value} {L L':SH} (hs:Sel L (pt b2 (cl gs 170)) L') (hgl:gs.length=2) (h:Enc.rep (Res.star L) us y) (hg:Enc.rep (Res.star L) gs x):Reads prog 95 #[.agg us.toArray,.pointer (some ⟨b2,0,none⟩)] [Res.star L] (.bool (decide (x=y))):=by
 have hsm:=eq96_ct hg h
 have hrd:Rds (Res.star L) b2 0 gs:=λi hi=>pM hs<|ag i hi
 obtain ⟨z,rfl,_⟩:=h
 refine aJ (n:=7) func95 Z Z (len Z) λhr w0=>?_
 refine cQ (aV Z Z λb2=>?_)
 refine sA Z<|sK [1,2,3] Z<|cQ<|sV (af Z rH hgl hrd) ?_
 refine sV (af Z rH Z ag) ?_
 refine bf Z Z en96 Z (hsm) ?_
 refine sA Z<|sK [3] Z<|cT ?_
 exact aj Z ⟨Z,Z⟩ sbq
theorem M7 {x:Grp} {ys:List Grp} {R:Res} {us:List Value} {b3:Nat} (h:Enc.rep R us x) (hb:Rd R ⟨b3,0,none⟩ v') (hy:Ls R v' ys):Reads prog 94 #[.agg us.toArray,.pointer (some ⟨b3,0,none⟩)] [R] (.bool (!(ys.contains x))):=by
 have hul:us.length=2:=Enc.len h
 have huo:=Enc.ones h
 have h0:=h
 obtain ⟨z,rfl,hz⟩:=h
 have htell:∀ b2,∀ a∈ys,∀ us',Enc.rep (Res.star [pt b2 (cl [sv x.cls,z] 170),R]) us' a->Reads prog 95 (#[]++([.agg us'.toArray]:List Value).toArray ++ #[.pointer (some ⟨b2,0,none⟩)]) [Res.star [pt b2 (cl [sv x.cls,z] 170),R]] (.bool<|decide (x=a)):=λb2 a _ us' hu=>M6 .here rfl hu<|Enc.up (bL<|.there .here) h0
 refine aJ (n:=8) func94 Z Z (len Z) λhr w0=>?_
 refine cQ (aV Z Z λb2=>?_)
 refine sA Z<|sK [1,2,3] Z<|cQ<|sV (vY Z oO (ha:=⟨R,_,slq,hb⟩)) ?_
 refine sV (bX Z Z)<|bf Z Z en93 Z ((dS<|AQ (X:=Res.star [pt b2 (cl [sv x.cls,z] 170),R]) (hy.up'<|bL<|.there .here) en95<|htell b2)) ?_
 rw [anyG_in]
 refine sV (bg Z)<|sA Z<|sK [3] Z<|cT ?_
 exact aj Z ⟨Z,Z⟩ sbq
theorem wE {xs ys:List Grp} (hx:Ls X v xs) (hy:Ls X v' ys):Reads prog 28 #[v,v'] [X] (.bool (xs.all λx=>ys.contains x)):=by
 obtain ⟨a',cap',rfl,_⟩:=id hy.form
 obtain ⟨a,cap,rfl,_⟩:=id hx.form
 have htell:∀ b3,∀ x∈xs,∀ us,Enc.rep (Res.star [pt b3 (cl [.slice a' ys.length cap'] 53),X]) us x->Reads prog 94 (#[]++([.agg us.toArray]:List Value).toArray ++ #[.pointer (some ⟨b3,0,none⟩)]) [Res.star [pt b3 (cl [.slice a' ys.length cap'] 53),X]] (.bool (!(ys.contains x))):=λb3 x _ us hu=>M7 hu (bL .here _ _<|bZ rfl)<|hy.up'<|bL<|.there .here
 rw [<- all_any]
 refine aJ (n:=9) func28 Z Z (len Z) λhr w0=>?_
 refine cQ (aV Z Z λb3=>?_)
 refine sA Z<|sK [0,3,4] Z<|cQ<|sM Z<|sV (bX Z Z)<|bf Z Z en93 Z ((dS<|AQ (X:=Res.star [pt b3 (cl [.slice a' ys.length cap'] 53),X]) (hx.up'<|bL<|.there .here) en94<|htell b3)) ?_
 refine sV (bg Z)<|sA Z<|sK [4] Z<|cT ?_
 exact aj Z ⟨Z,Z⟩ sbq
end
def FJ {α : Type} (rows rs:List α) (i:Nat):Prop:=rs.length=rows.length/\∀ k,k<rows.length->rs[k]? = if k<i\/rows.length - 1 - k<i then rows[rows.length - 1 - k]? else rows[k]?
theorem FJ.zero {α : Type} (rows:List α):FJ rows rows 0:=⟨rfl,λk _=>by rw [if_neg (by omega)]⟩
theorem FJ.step {α : Type} {rows rs:List α} {i:Nat} {a b : α} (h:FJ rows rs i) (hi:i+i+1<rows.length) (ha:rs[i]? = some a) (hb:rs[rows.length - 1 - i]? = some b):FJ rows ((rs.set i b).set (rows.length - 1 - i) a) (i+1):=by
 obtain ⟨h1,h2⟩:=h
 refine ⟨by simp [h1],λk hk=>?_⟩
 have e1:=h2 i<|by omega
 rw [if_neg (by omega),ha] at e1
 have e2:=h2 (rows.length - 1 - i)<|by omega
 rw [if_neg (by omega),hb] at e2
 by_cases k1:k=rows.length - 1 - i
 .subst k1
  rw [List.getElem?_set_self (by simp; omega),if_pos (by omega),show rows.length - 1 - (rows.length - 1 - i)=i by omega,e1]
 .rw [List.getElem?_set_ne (by omega)]
  by_cases k2:k=i
  .subst k2
   rw [List.getElem?_set_self (by omega),if_pos (by omega),e2]
  .rw [List.getElem?_set_ne (by omega),h2 k hk]
   by_cases k3:k<i\/rows.length - 1 - k<i
   .rw [if_pos k3,if_pos (by omega)]
   .rw [if_neg k3,if_neg (by omega)]
theorem FJ.done {α : Type} {rows rs:List α} {i:Nat} (h:FJ rows rs i) (hi:rows.length<=i+i+1):rs=rows.reverse:=by
 obtain ⟨h1,h2⟩:=h
 apply List.ext_getElem?
 intro k
 by_cases hk:k<rows.length
 .rw [h2 k hk,List.getElem?_reverse hk]
  by_cases k1:k<i\/rows.length - 1 - k<i
  .rw [if_pos k1]
  .rw [if_neg k1]
   congr 1; omega
 .rw [List.getElem?_eq_none (by omega),List.getElem?_eq_none (by rw [List.length_reverse]; omega)]
theorem Kb {v:Value} {rows:List (List Value)} (hln:∀ r∈rows,r.length=6) (hone:∀ r∈rows,r.all Value.oneCell'=true):Ct prog 37 #[v] [VR v 88 6 rows] λu h'=>u = .tuple #[]/\h'=[VR v 88 6 rows.reverse]:=by
 have hml:maxLen=9223372036854775807:=rfl
 refine aJ (n:=28) func37 Z Z (len Z) λhr w0=>?_
 refine cS (fO (v:=v) (E:=88) (sz:=6) (rows:=rows) slq λwa wc hwf hwl hwm=>?_)
 subst hwf
 refine cR<|sM Z<|sV (aC Z underlying39)<|sV (xP Z Z Z0)<|sA Z<|sA Z<|sK [0,2,3] Z<|cB ?_
 rw [show ((rows.length:Int) - 1)=(rows.length:Int) - 1 - ((0:Nat):Int) by simp]
 refine aY (σ := List (List Value)×Nat) (λq=>[(0,.slice wa rows.length wc),(2,.int .i64 (q.2:Nat)),(3,.int .i64 ((rows.length:Int) - 1 - (q.2:Nat)))]) (λq=>VR (.slice wa rows.length wc) 88 6 q.1::hr) (λq=>q.2<=rows.length/\FJ rows q.1 q.2/\(∀ r∈q.1,r.length=6)/\∀ r∈q.1,r.all Value.oneCell'=true) (λq=>rows.length - q.2) (rows,0) ⟨Nat.zero_le _,FJ.zero rows,hln,hone⟩ ?_
 rintro ⟨rs,i⟩ ⟨hi,hri,hrn,hro⟩
 simp only at hi hri hrn hro
 dsimp only
 refine cS<|cQ<|sM Z<|sM Z<|sV (aO Z Z)<|sK [0,2,3,9] Z<|cC Z (λhd=>?_)<|λhd=>?_
 .have hlt:i+i+1<rows.length:=by
   have:((i:Nat):Int)<(rows.length:Int) - 1 - (i:Nat):=Zx
   omega
  obtain ⟨j,hj⟩:∃ j,rows.length - 1 - i=j:=⟨_,rfl⟩
  have hje:(rows.length:Int) - 1 - (i:Nat)=((j:Nat):Int):=by omega
  rw [hje]
  have hrl:=hri.1
  have hjl:j<rows.length:=by omega
  have hil:i<rows.length:=by omega
  refine fD (r:=VR (.slice wa rows.length wc) 88 6 rs) slq λhok=>?_
  obtain ⟨ab,ao,rfl⟩:∃ ab ao,wa=some ⟨ab,ao,none⟩:=by
   obtain ⟨f0,hf0⟩:=hok
   rcases VR.form hf0 with ⟨h3,h4⟩ | ⟨b,o,cp,h3,-⟩
   .rw [h4] at hrl; simp at hrl; omega
   .exact ⟨b,o,(Value.slice.inj h3).1⟩
  have ga:=Zy (show i<rs.length by omega)
  have gb:=Zy (show j<rs.length by omega)
  have la:=hrn _<|List.getElem_mem (show i<rs.length by omega)
  have lb:=hrn _<|List.getElem_mem (show j<rs.length by omega)
  have oa:=hro _<|List.getElem_mem (show i<rs.length by omega)
  have ob:=hro _<|List.getElem_mem (show j<rs.length by omega)
  have hst:=hri.step hlt ga (by rw [hj]; exact gb)
  rw [hj] at hst
  generalize rs[i]=ua at ga la oa hst
  generalize rs[j]=ub at gb lb ob hst
  refine cK<|xT<|cS<|cB<|bC (ork [(0,2),(1,2),(2,2),(3,2),(4,2),(5,2),(6,2),(7,1),(8,2),(9,2),(10,2),(11,1),(12,2),(13,0),(14,2),(15,0)] .nil) (λi => !(Nat.beq i 13 || Nat.beq i 15)) mixed Zz ?_
  refine dV Z (vM Z)<|dV Z (vM Z)<|dV Z (vM Z)<|dV Z (vM Z)<|dV Z (vM Z)<|dV Z (vM Z)<|dV Z (vI (k:=j) Z Z lY Z hjl Z)<|bu Z (af Z oP lb<|dU gb) ?_
  refine dV Z (vM Z)<|dV Z (vM Z)<|dV Z (vI (k:=i) Z Z lY Z hil Z)<|bu Z (af Z oP la<|dU ga) ?_
  refine dV Z (vI (k:=i) Z Z lY Z hil Z)<|aT Z<|A8 Z Z qU lb (List.all_eq_true.1 ob) (show i<rs.length by omega) slq<|aW ?_
  refine dV Z (vI (k:=j) Z Z lY Z hjl Z)<|aT Z<|A8 Z Z qU la (List.all_eq_true.1 oa) (show j<(rs.set i ub).length by rw [List.length_set]; omega) slq<|aW ?_
  refine bB<|nK [0,2,3] Z<|ax<|xB<|xT<|cR<|sM Z<|sV (aI Z Z Z0)<|sM Z<|sV (xP Z Z Z0)<|sA Z<|sA Z<|sN<|nK [0,2,3] Z<|ax ?_
  rw [show ((j:Nat):Int) - 1=(rows.length:Int) - 1 - ((i+1:Nat):Int) by omega]
  refine aL ((rs.set i ub).set j ua,i+1) ⟨by omega,hst,λr hr=>?_,λr hr=>?_⟩ (by show rows.length - (i+1)<rows.length - i; omega)
  .rcases List.mem_or_eq_of_mem_set hr with hr | rfl
   .rcases List.mem_or_eq_of_mem_set hr with hr | rfl
    .exact hrn r hr
    .exact lb
   .exact la
  .rcases List.mem_or_eq_of_mem_set hr with hr | rfl
   .rcases List.mem_or_eq_of_mem_set hr with hr | rfl
    .exact hro r hr
    .exact ob
   .exact oa
 .have hrv:=hri.done (by
   have:¬ ((i:Nat):Int)<(rows.length:Int) - 1 - (i:Nat):=Zx
   omega)
  subst hrv
  refine aB<|xE<|xE<|xY ?_
  exact xV Z ⟨Z,Z⟩ sbq
end Go.Fl
namespace Go.Ck
open Go Go.RowKit
theorem Rws.reverse {α : Type} [Enc α] {X:Res} {rows:List (List Value)} {xs:List α} (h:Rws X rows xs):Rws X rows.reverse xs.reverse:=by
 refine ⟨by simp [h.1],λj us x h1 h2=>?_⟩
 have hl:=(List.getElem?_eq_some_iff.1 h1).1
 rw [List.length_reverse] at hl
 rw [List.getElem?_reverse hl] at h1
 rw [List.getElem?_reverse (by rw [<- h.1]; exact hl),<- h.1] at h2
 exact h.2 _ us x h1 h2
theorem Rws.onesR {α : Type} [Enc α] {X:Res} {rows:List (List Value)} {xs:List α} (h:Rws X rows xs):∀ r∈rows,r.all Value.oneCell'=true:=λr hr=>by
 obtain ⟨j,hj,rfl⟩:=List.getElem_of_mem hr
 exact Enc.ones<|h.2 j _ _ (Zy hj)<|Zy (by rw [<- h.1]; exact hj)
end Go.Ck
namespace Go.Fl
open Go Go.RowKit Go.Ck Go.Proofs Go.Proofs.Tryz Go.Proofs.YtknmacdbffgjgaaGreatDoor Fx Go.Hr
theorem tl_step {l:FS} {i:Nat} {c:FC} (h:l[i]? = some c):((l.take i).map rv++l.drop i).set i (rv c)=(l.take (i+1)).map rv++l.drop (i+1):=by
 obtain ⟨hi,rfl⟩:=List.getElem?_eq_some_iff.1 h
 rw [List.set_append_right _ _ (by simp; omega)]
 rw [show i - (List.map rv<|List.take i l).length=0 by simp; omega]
 rw [List.drop_eq_getElem_cons hi,List.set_cons_zero]
 rw [List.take_add_one,Zy hi,List.map_append]
 show _=(List.map rv (List.take i l)++[rv l[i]])++_
 rw [List.append_assoc]; rfl
theorem jQ.tl {l:FS} (h:jQ l):jQ (Go.Fl.tl l):=λc hc p hp=>by
 obtain ⟨d,hd,rfl⟩:=List.mem_map.1 hc
 exact h d hd p<|List.mem_reverse.1 hp
theorem tl_at {l:FS} {i:Nat} (hi:i<l.length):((l.take i).map rv++l.drop i)[i]? = some l[i]:=by
 rw [List.getElem?_append_right (by simp; omega)]
 rw [show i - (List.map rv<|List.take i l).length=0 by simp; omega]
 rw [List.drop_eq_getElem_cons hi]; rfl
attribute [local irreducible] Go.Ck.Sub St Cd Xt Nx DrL LsW
section
variable {X:Res} {v:Value} {l:FS}
theorem Cr (hX:Spc X) (hl:Ls X v l) (hcr:Cre X v l):eZ prog 7 #[v] X [] λu Y k'=>k'=[]/\u = .bool true:=by
 have hml:maxLen=9223372036854775807:=rfl
 have hrb:reachBytes=140737488351232:=rfl
 have hsm:=OP hcr hl
 have hsn:=λ(Y:Res) (hE:Ext X Y)=>MX<|hX.up hE
 have hfl:=λ(hS:jQ l)=>Iu hX hl hS
 have hcn:=λ(Y:Res) (hE:Ext X Y)=>Jl<|hl.up hE
 have hsz:=hl.sizes
 obtain ⟨vAq,vK,rfl,_⟩:=id hl.form
 unfold eZ at *
 refine gF (n:=194) func7 Z Z (len Z) λhr w0 hw0=>?_
 refine cQ<|sA Z<|sN<|nT<|cS<|cQ<|sM Z<|aH Z Z en10 Z (hsm) ?_
 rintro u h' ⟨ok,rfl,rfl,hok⟩
 simp only [lC,lN]
 refine sV (bg Z)<|sK [0,2,15] Z ?_
 cases ok with
 | false =>
  refine aQ Z ?_
  refine cQ<|bW hw0 Z Z en11 Z (hsn X<|Ext.refl X) ?_
  rintro u h' ⟨V,k',rfl,hV,rfl,rfl⟩
  simp only [lC,lN]
  refine sA Z<|sK [2] Z<|cT<|xR ?_
  exact aj Z ⟨V,[],Z,((Ext.refl X)).trans hV,Z,Z⟩ sbq
 | true =>
  have hS:=(hok rfl).short
  have hfl:=hfl hS
  clear hok hsm hcr
  refine aG Z ?_
  refine cK<|xT<|cQ<|sM Z<|bW hw0 Z Z en13 Z (hfl) ?_
  rintro u h' ⟨Y,k',rfl,hE,rfl,w,rfl,hw⟩
  simp only [lC,lN]
  obtain ⟨wA,wK,rfl,hwl,hwm,_⟩:=id hw.form
  clear hfl
  refine sM Z<|sV (ah Z Z)<|sV (ah Z Z)<|sA Z<|sA Z<|sK [0,2,3,4] Z<|cS<|cQ<|sM Z<|sV (bT Z Z)<|sK [0,2,3,23] Z<|cC Z (λhe=>?_)<|λhe=>?_
  .refine cQ<|bW hw0 Z Z en11 Z (hsn Y hE) ?_
   rintro u h' ⟨V,k',rfl,hV,rfl,rfl⟩
   simp only [lC,lN]
   refine sA Z<|sK [2] Z<|cT<|xR ?_
   exact aj Z ⟨V,[],Z,(hE).trans hV,Z,Z⟩ sbq
  .have he:(fF l).2=0:=Zj
   obtain ⟨hz0,hlen,hall⟩:=I9<|AB.1 he
   generalize (fF l).1=xs at hw hwl hlen hall
   have hcl:=hcn Y hE
   refine cK<|xT<|cQ<|sM Z<|aH Z Z en19 Z (hcl) ?_
   rintro u h' ⟨T,rfl,rows,rfl,hu,hro⟩
   simp only [lC,lN]
   have hrl:=hro.1
   refine sA Z<|sK [2,3,5] Z<|cS<|cS (fO (v:=u) (E:=44) (sz:=7) (rows:=rows) slq λua uc hwf hwl2 hwm2=>?_)
   rw [hrl] at hwf hwl2
   subst hwf
   refine cR<|sM Z<|sV (aC Z underlying22)<|sM Z<|sK [2,3,5,28,29] Z<|cB<|aY (σ := Res×List (List Value)×Nat) (λq=>[(3,.slice wA xs.length wK),(5,.slice ua l.length uc),(28,.int .i64 l.length),(29,.int .i64 (q.2.2:Nat))]) (λq=>VR (.slice ua l.length uc) 44 7 q.2.1::q.1::hr) (λq=>Ext Y q.1/\q.2.2<=l.length/\Rws q.1 q.2.1 ((l.take q.2.2).map rv++l.drop q.2.2)) (λq=>l.length - q.2.2) (Y,rows,0) ⟨Ext.refl Y,Nat.zero_le _,by simpa using hro⟩ ?_
   rintro ⟨Y1,rs,i⟩ ⟨hY1,hi,hrs⟩
   simp only at hY1 hi hrs
   dsimp only
   have hrln:rs.length=l.length:=by rw [hrs.1]; simp; omega
   refine cQ<|sV (aO Z Z)<|sN<|nT<|cS<|cC Z (λhd=>?_)<|λhd=>?_
   .have hlt:i<l.length:=Zx
    refine fD (r:=VR (.slice ua l.length uc) 44 7 rs) slq λhok=>?_
    obtain ⟨ab,ao,rfl⟩:∃ ab ao,ua=some ⟨ab,ao,none⟩:=by
     obtain ⟨f0,hf0⟩:=hok
     rcases VR.form hf0 with ⟨h3,h4⟩ | ⟨b,o,cp,h3,-⟩
     .rw [h4] at hrln; simp at hrln; omega
     .exact ⟨b,o,(Value.slice.inj h3).1⟩
    have ga:=Zy (show i<rs.length by omega)
    have hre:=hrs.2 i _ _ ga<|tl_at hlt
    have hst:=tl_step<|Zy hlt
    generalize rs[i]=us at ga hre
    generalize l[i]=c at hre hst
    obtain ⟨ca,cb,ce,cf,ci,rfl,hca,hcb,hce,hcf,hci⟩:=gB hre
    obtain ⟨pA,pK,rfl,_⟩:=id hcb.form
    have hcl36:=Jk hcb
    refine cK<|xT<|cS<|cB<|cQ<|sM Z<|sA Z<|sK [3,5,6,28,29] Z<|cQ<|sM Z<|sM Z<|sM Z ?_
    refine sM Z<|sV (vI (k:=i) Z Z rE Z hlt Z)<|sV (vF Z eP Z)<|sV (vY Z lD (ha:=⟨VR (.slice (some ⟨ab,ao,none⟩) l.length uc) 44 7 rs,_,slq,dU ga 3<|by simp⟩)) ?_
    refine aH Z Z en36 Z (hcl36) ?_
    rintro u2 h' ⟨T,rfl,prows,rfl,hu2,hpr⟩
    simp only [lC,lN]
    have ga2:(rs.set i [sv c.name,.bool c.dfd,ca,u2,ce,cf,ci])[i]? = some [sv c.name,.bool c.dfd,ca,u2,ce,cf,ci]:=List.getElem?_set_self<|by omega
    refine sV (vI (k:=i) Z Z rE Z hlt Z)<|sV (vF Z eP Z)<|st_vr (rows':=rs.set i [sv c.name,.bool c.dfd,ca,u2,ce,cf,ci]) Z Z sz39 hu2 ga (by decide) Z slq ?_
    refine sK [3,5,6,28,29] Z<|cR<|sM Z<|sM Z<|sV (vI (k:=i) Z Z rE Z hlt Z)<|sV (vF Z eP Z)<|sV (vY Z lD (ha:=⟨VR (.slice (some ⟨ab,ao,none⟩) l.length uc) 44 7 (rs.set i [sv c.name,.bool c.dfd,ca,u2,ce,cf,ci]),_,slq,dU ga2 3<|by simp⟩)) ?_
    refine aH Z Z en37 Z (Kb (v:=u2) (rows:=prows) hpr.lens hpr.onesR) ?_
    rintro u h' ⟨rfl,rfl⟩
    simp only [lC,lN]
    refine ni (r:=VR u2 88 6 prows.reverse) slq λhok2=>?_
    refine oh [VR u2 88 6 prows.reverse] Y1 λY2 hY2 hsel=>?_
    have hls:Ls Y2 u2 c.pars.reverse:=Rws.ls (E:=88) (hpr.reverse.up hY2) hok2 (hsel _ _ .here) (by rw [List.length_reverse]; exact hcb.sizes)
    have hrc:Enc.rep Y2 [sv c.name,.bool c.dfd,ca,u2,ce,cf,ci] (rv c):=⟨ca,u2,ce,cf,ci,rfl,hca.up hY2,hls,hce,hcf.up hY2,hci.up hY2⟩
    refine sN<|nK [3,5,28,29] Z<|ax<|xB<|xT<|cR<|sV (aI Z Z Z0)<|sM Z<|sN<|nK [3,5,28,29] Z<|ax ?_
    refine aL (Y2,rs.set i [sv c.name,.bool c.dfd,ca,u2,ce,cf,ci],i+1) ⟨hY1.trans hY2,hlt,by rw [<- hst]; exact (hrs.up hY2).set i hrc⟩ (by show l.length - (i+1)<l.length - i; omega)
   .have hil:i=l.length:=Nat.le_antisymm hi<|Nat.not_lt.1 Zx
    subst hil
    have hrs2:Rws Y1 rs (tl l):=by simpa [tl] using hrs
    have hE1:=hE.trans hY1
    refine fD (r:=VR (.slice ua l.length uc) 44 7 rs) slq λhok=>?_
    refine E5 [VR (.slice ua l.length uc) 44 7 rs] Y1 λY2 hY2 hsel=>?_
    have hls:Ls Y2 (.slice ua l.length uc) (tl l):=Rws.ls (E:=44) (hrs2.up hY2) hok (hsel _ _ .here) (by rw [EU]; exact hsz)
    have hq:=Iu (hX.up<|hE1.trans hY2) hls hS.tl
    unfold eZ at hq
    rw [hz0] at hq
    generalize (fF<|tl l).1=ys at hq hlen hall
    refine aB<|xE<|xE<|xY<|xT<|cQ<|sM Z<|bW hw0 Z Z en13 Z (hq) ?_
    rintro u h' ⟨Y3,k',rfl,hY3,rfl,z,rfl,hz⟩
    simp only [lC,lN]
    have hz:Ls Y3 z ys:=hz
    have hE3:=(hE1.trans hY2).trans hY3
    have hw3:=hw.up<|(hY1.trans hY2).trans hY3
    obtain ⟨zA,zK,rfl,hzl,hzm,_⟩:=id hz.form
    refine sM Z<|sV (ah Z Z)<|sV (ah Z Z)<|sA Z<|sA Z<|sK [3,7,8] Z<|cS<|cQ<|sM Z<|sV (bT Z Z)<|sM Z<|sG Z Z (vM Z)<|sG Z Z (aC Z underlying32) ?_
    refine sG Z Z (vM Z)<|sG Z Z (aC Z underlying32)<|sG Z Z (bT Z Z)<|sV (vP Z Z)<|sK [3,7,62] Z ?_
    rw [show (((xs.length:Nat):Int) != ((ys.length:Nat):Int))=false by rw [hlen]; exact bne_self_eq_false _]
    refine aG Z ?_
    refine cK<|xT<|cS<|cQ<|sM Z<|sV (aC Z underlying32)<|sM Z<|sK [3,7,64,65] Z<|cB<|aY (σ := Nat) (λq=>[(3,.slice wA xs.length wK),(7,.slice zA ys.length zK),(64,.int .i64 xs.length),(65,.int .i64 (q:Nat))]) (λq=>Y3::hr) (λq=>q<=xs.length) (λq=>xs.length - q) 0 (Nat.zero_le _) ?_
    rintro i hi
    refine cQ<|sV (aO Z Z)<|sN<|nT<|cS<|cC Z (λhd2=>?_)<|λhd2=>?_
    .have hlt:i<xs.length:=Zw
     have hlty:i<ys.length:=by omega
     obtain ⟨hnm,hML⟩:=hall i _ _ (Zy hlt)<|Zy hlty
     obtain ⟨fb,fo,fcap,fus,e1,hfus,hfrd,hfr⟩:=hw3.at<|Zy hlt
     obtain ⟨rfl,rfl⟩:wA=some ⟨fb,fo,none⟩/\wK=fcap:=by cases e1; exact ⟨rfl,rfl⟩
     obtain ⟨gb,go,gcap,gus,e2,hgus,hgrd,hgr⟩:=hz.at<|Zy hlty
     obtain ⟨rfl,rfl⟩:zA=some ⟨gb,go,none⟩/\zK=gcap:=by cases e2; exact ⟨rfl,rfl⟩
     generalize xs[i]=a at hfr hnm hML
     generalize ys[i]=b at hgr hnm hML
     have hmlen:=hML.len
     obtain ⟨am,a3,rfl,ham,-⟩:=hfr
     obtain ⟨bm,b3,rfl,hbm,-⟩:=hgr
     obtain ⟨aA,aK,rfl,_⟩:=id ham.form
     obtain ⟨bA,bK,rfl,_⟩:=id hbm.form
     refine cK<|xT<|cS<|cB<|cQ<|sM Z<|sA Z<|sK [3,7,9,64,65] Z<|cS<|cS<|bC (ork [(0,2),(1,2),(2,2),(3,2),(4,1),(5,2),(6,2),(7,2),(8,2),(9,1),(10,1),(11,2),(12,2),(13,2),(14,2),(15,2),(16,1),(17,2),(18,2),(19,2),(20,2),(21,2),(22,1),(23,2),(24,2),(25,2)] .nil) (λ_=>true) mixed Zz ?_
     refine dV Z (vM Z)<|dV Z (vM Z)<|dV Z (vI (k:=i) Z Z sl32 Z hlt Z)<|dV Z (vF Z NL Z)<|bu Z (vY Z ld9 (ha:=⟨Y3,_,slq,hfrd 0<|by simp⟩)) ?_
     refine dV Z (vM Z)<|dV Z (vM Z)<|dV Z (vI (k:=i) Z Z sl32 Z hlty Z)<|dV Z (vF Z NL Z)<|bu Z (vY Z ld9 (ha:=⟨Y3,_,slq,hgrd 0<|by simp⟩)) ?_
     refine bu Z (pV Z Z)<|dV Z (vM Z) ?_
     rw [show (!(a.name == b.name))=false by rw [hnm,beq_self_eq_true]; rfl]
     refine dC Z Z Z (vM Z)<|dC Z Z Z (vM Z)<|dC Z Z Z (vI (k:=i) Z Z sl32 Z hlt Z)<|dC Z Z Z (vF Z l9 Z)<|jl Z Z Z (vY Z qX (ha:=⟨Y3,_,slq,hfrd 2<|by simp⟩)) ?_
     refine dC Z Z Z (aC Z underlying52)<|dC Z Z Z (vM Z)<|dC Z Z Z (vM Z)<|dC Z Z Z (vI (k:=i) Z Z sl32 Z hlty Z)<|dC Z Z Z (vF Z l9 Z)<|jl Z Z Z (vY Z qX (ha:=⟨Y3,_,slq,hgrd 2<|by simp⟩)) ?_
     refine dC Z Z Z (aC Z underlying52)<|dC Z Z Z (bT Z Z)<|dV Z (vP Z Z)<|bB<|nK [3,7,9,64,65,93] Z<|nT ?_
     rw [show (((a.mems.length:Nat):Int) != ((b.mems.length:Nat):Int))=false by rw [hmlen]; exact bne_self_eq_false _]
     refine aG Z ?_
     refine cK<|xT<|cQ<|sM Z<|sM Z<|sV (vI (k:=i) Z Z sl32 Z hlt Z)<|sV (vF Z l9 Z)<|sV (vY Z qX (ha:=⟨Y3,_,slq,hfrd 2<|by simp⟩)) ?_
     refine sV (aC Z underlying52)<|sM Z<|sK [3,7,9,64,65,98,99,100] Z<|cB<|aY (σ := Nat) (λq=>[(3,.slice (some ⟨fb,fo,none⟩) xs.length wK),(7,.slice (some ⟨gb,go,none⟩) ys.length zK),(64,.int .i64 xs.length),(65,.int .i64 (i:Nat)),(9,.int .i64 (i:Nat)),(98,.slice aA a.mems.length aK),(99,.int .i64 a.mems.length),(100,.int .i64 (q:Nat))]) (λq=>Y3::hr) (λq=>q<=a.mems.length) (λq=>a.mems.length - q) 0 (Nat.zero_le _) ?_
     rintro k hk
     refine cQ<|sV (aO Z Z)<|sN<|nT<|cS<|cC Z (λhd3=>?_)<|λhd3=>?_
     .have hltk:k<a.mems.length:=Zr
      have hltk2:k<b.mems.length:=by omega
      have hmr:=hML.at k _ _ (Zy hltk)<|Zy hltk2
      obtain ⟨mb1,mo1,mcap1,mus1,e3,hmus1,hmrd1,hmr1⟩:=ham.at<|Zy hltk
      obtain ⟨rfl,rfl⟩:aA=some ⟨mb1,mo1,none⟩/\aK=mcap1:=by cases e3; exact ⟨rfl,rfl⟩
      obtain ⟨mb2,mo2,mcap2,mus2,e4,hmus2,hmrd2,hmr2⟩:=hbm.at<|Zy hltk2
      obtain ⟨rfl,rfl⟩:bA=some ⟨mb2,mo2,none⟩/\bK=mcap2:=by cases e4; exact ⟨rfl,rfl⟩
      generalize a.mems[k]=p at hmr hmr1
      generalize b.mems[k]=q at hmr hmr2
      obtain ⟨en,ek,es,ea,et,ei,ep,eq⟩:=hmr
      have ho1:=Enc.ones hmr1
      have ho2:=Enc.ones hmr2
      obtain ⟨x2,x5,xy,x11,x12,x13,rfl,hx2,hx5,hxy,hx11,hx12,hx13⟩:=dN hmr1
      obtain ⟨y2,y5,yy,y11,y12,y13,rfl,hy2,hy5,hyy,hy11,hy12,hy13⟩:=dN hmr2
      have hty:=Jw (gI (t:=p.ty) rfl hxy)<|gI (t:=q.ty) rfl hyy
      have hsd:=AR hx2 hy2
      have hvr:=eq39_ct hx5 hy5
      have hp1:=wE hx12 hy12
      have hp2:=wE hy12 hx12
      have hp3:=wE hx13 hy13
      have hp4:=wE hy13 hx13
      rw [decide_eq_true et] at hty
      rw [decide_eq_true es] at hsd
      rw [decide_eq_true ea] at hvr
      rw [show (p.pre.all λg=>q.pre.contains g)=true from List.all_eq_true.2 λg hg=>by simpa using (ep g).1 hg] at hp1
      rw [show (q.pre.all λg=>p.pre.contains g)=true from List.all_eq_true.2 λg hg=>by simpa using (ep g).2 hg] at hp2
      rw [show (p.post.all λg=>q.post.contains g)=true from List.all_eq_true.2 λg hg=>by simpa using (eq g).1 hg] at hp3
      rw [show (q.post.all λg=>p.post.contains g)=true from List.all_eq_true.2 λg hg=>by simpa using (eq g).2 hg] at hp4
      obtain ⟨pS,pQ,rfl,_⟩:=id hx2.form
      obtain ⟨qS,qQ,rfl,_⟩:=id hy2.form
      have hx12o:=hx12.one
      have hx13o:=hx13.one
      have hy12o:=hy12.one
      have hy13o:=hy13.one
      have hx5o:=hx5.one
      have hy5o:=hy5.one
      unfold iC tyC at *
      refine cK<|xT<|cS<|cB<|cQ<|sM Z<|sV (vI (k:=k) Z Z oM Z hltk Z)<|sV (af Z fE Z hmrd1) ?_
      refine au jR λb11=>?_
      refine sA Z<|ai Z Z iH Z ho1 ?_
      refine sK [3,7,9,10,11,64,65,98,99,100] Z<|cQ<|sM Z<|sM Z<|sV (vI (k:=i) Z Z sl32 Z hlty Z)<|sV (vF Z l9 Z)<|sV (vY Z qX (ha:=⟨Y3,_,slq,hgrd 2<|by simp⟩)) ?_
      refine sM Z<|sV (vI (k:=k) Z Z oM Z hltk2 Z)<|sV (af Z fE Z hmrd2) ?_
      refine au jR λb12=>?_
      refine ai Z Z iH Z ho2 ?_
      refine sK [3,7,9,11,12,64,65,98,99,100] Z<|cS<|cQ<|sV (vF Z eQ Z)<|sV (vY Z ld9) ?_
      refine sV (vF Z eQ Z)<|sV (vY Z ld9) ?_
      refine sV (pV Z Z)<|sM Z ?_
      rw [show (!(p.name == q.name))=false by rw [en,beq_self_eq_true]; rfl]
      refine sG Z Z (vF Z rO Z)<|sG Z Z (vY Z ld3) ?_
      refine sG Z Z (vF Z rO Z)<|sG Z Z (vY Z ld3) ?_
      refine sG Z Z (bT Z Z)<|sV (vP Z Z)<|sM Z ?_
      rw [show (p.kind != q.kind)=false by rw [ek]; exact bne_self_eq_false _]
      refine sG Z Z (vF Z eT Z)<|sG Z Z (vY Z pW) ?_
      refine sG Z Z (vF Z eT Z)<|sG Z Z (vY Z pW) ?_
      refine bS Z Z Z Z en38 Z (hsd) ?_
      refine sG Z Z (bg Z)<|sV (vP Z Z)<|sM Z<|sG Z Z (vF Z jW Z)<|sG Z Z (vY Z rF) ?_
      refine sG Z Z (vF Z jW Z)<|sG Z Z (vY Z rF) ?_
      refine bS Z Z Z Z en39 Z (hvr) ?_
      refine sG Z Z (bg Z)<|sV (vP Z Z)<|sM Z<|sG Z Z (vF Z rO Z)<|sG Z Z (vY Z ld3) ?_
      refine sG Z Z (bT Z Z)<|sG Z Z (vM Z)<|bH (k:=39) (d:=151) (v:=.bool false) (λhcut=>aM (b:=(p.kind != 3)) true (λhg=>?_)<|λhg=>?_) ?_
      .refine aF Z Z hg ?_
       iterate 4 refine aF rfl rfl hg ?_
       refine sG Z Z (vP (bO Z hg) Z) ?_
       exact hcut _ uG
      .have him:p.impl=q.impl:=ei Za
       refine sG Z (bG Z hg) (vF Z wS Z)<|sG Z (bG Z hg) (af Z iN Z<|bF (us:=[sv p.name,.int .i64 p.kind,.slice pS p.seeds.length pQ,sv p.impl.cls,sv p.impl.name,x5,.int .i64 p.ty.kind,sv p.ty.name,xy,.bool p.ty.void,.bool p.ty.sep,x11,x12,x13]) (vs:=[sv p.impl.cls,sv p.impl.name]) (k:=3) ag Z) ?_
       refine sG Z (bG Z hg) (vF Z wS Z)<|sG Z (bG Z hg) (af Z iN Z<|bF (us:=[sv q.name,.int .i64 q.kind,.slice qS q.seeds.length qQ,sv q.impl.cls,sv q.impl.name,y5,.int .i64 q.ty.kind,sv q.ty.name,yy,.bool q.ty.void,.bool q.ty.sep,y11,y12,y13]) (vs:=[sv q.impl.cls,sv q.impl.name]) (k:=3) ag Z) ?_
       refine sG Z (bG Z hg) (wX yw Z Z) ?_
       rw [show (!([p.impl.cls,p.impl.name] == [q.impl.cls,q.impl.name]))=false by rw [him,beq_self_eq_true]; rfl]
       refine sG Z Z (vQ (bO Z hg) Z) ?_
       exact hcut _ uG
      refine sV (vP Z Z)<|sK [3,7,9,11,12,64,65,98,99,100,152] Z<|aG Z ?_
      refine cK<|xT<|cQ<|sV (vF Z nR Z)<|sV (af Z fM Z<|bF (us:=[sv p.name,.int .i64 p.kind,.slice pS p.seeds.length pQ,sv p.impl.cls,sv p.impl.name,x5,.int .i64 p.ty.kind,sv p.ty.name,xy,.bool p.ty.void,.bool p.ty.sep,x11,x12,x13]) (k:=6) ag (vs:=[.int .i64 p.ty.kind,sv p.ty.name,xy,.bool p.ty.void,.bool p.ty.sep]) Z) ?_
      refine sV (vF Z nR Z)<|sV (af Z fM Z<|bF (us:=[sv q.name,.int .i64 q.kind,.slice qS q.seeds.length qQ,sv q.impl.cls,sv q.impl.name,y5,.int .i64 q.ty.kind,sv q.ty.name,yy,.bool q.ty.void,.bool q.ty.sep,y11,y12,y13]) (k:=6) ag (vs:=[.int .i64 q.ty.kind,sv q.ty.name,yy,.bool q.ty.void,.bool q.ty.sep]) Z) ?_
      refine bf Z Z en40 Z (hty) ?_
      refine sV (bg Z)<|sM Z<|sG Z Z (vF Z il Z)<|sG Z Z (vY Z oO) ?_
      refine sG Z Z (vF Z il Z)<|sG Z Z (vY Z oO) ?_
      refine bS Z Z Z Z en28 Z (hp1) ?_
      refine sG Z Z (bg Z)<|sV (vP Z Z)<|sM Z<|sG Z Z (vF Z il Z)<|sG Z Z (vY Z oO) ?_
      refine sG Z Z (vF Z il Z)<|sG Z Z (vY Z oO) ?_
      refine bS Z Z Z Z en28 Z (hp2) ?_
      refine sG Z Z (bg Z)<|sV (vP Z Z)<|sM Z<|sG Z Z (vF Z iq Z)<|sG Z Z (vY Z oO) ?_
      refine sG Z Z (vF Z iq Z)<|sG Z Z (vY Z oO) ?_
      refine bS Z Z Z Z en28 Z (hp3) ?_
      refine sG Z Z (bg Z)<|sV (vP Z Z)<|sM Z<|sG Z Z (vF Z iq Z)<|sG Z Z (vY Z oO) ?_
      refine sG Z Z (vF Z iq Z)<|sG Z Z (vY Z oO) ?_
      refine bS Z Z Z Z en28 Z (hp4) ?_
      refine sG Z Z (bg Z)<|sV (vP Z Z)<|sK [3,7,9,64,65,98,99,100,190] Z<|aG Z ?_
      refine cK<|xB<|xT<|cR<|sV (aI Z Z Z0)<|sM Z<|sN<|nK [3,7,9,64,65,98,99,100] Z<|ax ?_
      refine aL (k+1) hltk (by show a.mems.length - (k+1)<a.mems.length - k; omega)
     .refine aB<|xE<|xE<|xY<|xB<|xT<|cR<|sV (aI Z Z Z0)<|sM Z<|sN<|nK [3,7,64,65] Z<|ax ?_
      refine aL (i+1) hlt (by show xs.length - (i+1)<xs.length - i; omega)
    .refine aB<|xE<|xE<|xY<|xT<|cQ<|bW hw0 Z Z en11 Z (hsn Y3 hE3) ?_
     rintro u h' ⟨V,k',rfl,hV,rfl,rfl⟩
     simp only [lC,lN]
     refine sA Z<|sK [2] Z<|cT ?_
     exact aj Z ⟨V,[],Z,(hE3).trans hV,Z,Z⟩ sbq
end
end Go.Fl
