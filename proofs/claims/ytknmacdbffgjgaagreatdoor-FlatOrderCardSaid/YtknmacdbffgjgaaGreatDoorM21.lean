/-
  FlatOrder's picks,as an argument. No condition.
-/
import Derived.Test.YtknmacdbffgjgaaGreatDoorRows
import Derived.Test.YtknmacdbffgjgaaGreatDoorM20
import Derived.Test.YtknmacdbffgjgaaGreatDoorM15
import Derived.ProofKit
import Derived.LaidMore
import Derived.OpenShut
import Derived.Stop.Joined
import Derived.MakeChecks
import Derived.Test.YtknmacdbffgjgaaGreatDoorM18
import Derived.Test.YtknmacdbffgjgaaGreatDoorM10
import Derived.Test.YtknmacdbffgjgaaGreatDoorM19
import Derived.Test.YtknmacdbffgjgaaGreatDoorM13
import Derived.Test.YtknmacdbffgjgaaGreatDoorM14
import Derived.Test.YtknmacdbffgjgaaGreatDoorM8
set_option linter.unusedVariables false
set_option linter.unusedSimpArgs false
set_option maxRecDepth 100000
set_option maxHeartbeats 16000000
namespace Go.Ck
open Go Go.RowKit Go.ChangeShapes Go.WideShapes
structure Kept0 (W w':World):Prop where
 os:w'.os=W.os
 output:w'.output=W.output
 fz:∀ a,a.block<W.heap.size->w'.frozen? a=W.frozen? a
 block:∀ b,b<W.heap.size->w'.heap[b]? = W.heap[b]?
theorem Kept0.frame {W w':World} (h:Kept0 W w') (may:MemPlace->Prop):W.keptBut w' may:=by
 refine ⟨h.os,h.output,λi hi=>?_⟩
 rw [h.block i hi]
 cases hq:W.heap[i]? with
 | none=>rfl
 | some o=>cases o <;> first | exact ⟨rfl,rfl,rfl,λ_ _=>rfl⟩ | exact Or.inr ⟨rfl,rfl⟩ | rfl
theorem ME {P:Program} {k:FuncId} {args:Array Value} {W:World} (h:dQ P k args (old W) [] λu _ k'=>k'=[]/\u = .bool true):Calls P k args W λe w'=>e = .returned (.bool true)/\Kept0 W w' :=
 (h [] W<|by simpa using wD W).mono λe w' ⟨v,h',he,⟨Y,k',hh,hE,hk,hv⟩,hH,hS⟩=>by
  subst hk hv hh
  obtain ⟨T,hT⟩:=hE.vw
  have h1:=hT [] w'<|by simpa using hH
  have h2:Holds w' [old W,T]:=h1.perm<|.swap _ _ _
  exact ⟨he,hS.os,hS.output,hS.fz,h2.1⟩
section
variable {H:Type} {enc:TypeId×Value->H} {P:Program} {W W':World} {sp:Nat->Bool}
theorem MF {f:Func} {s:ChangeSpec} {args:Array Value} {ds gs:List (DataW H)} {before:List MemPlace} {tb:TypeId} {tys:List Ty} (hW:DataW.Whole enc P f.params.toList s.vars false W args.toList ds gs before)
  (hv:s.vars=[]) (hr:f.resultTypes = #[tb]) (htb:P.underlying tb=some .bool) (hf:fitAll P tys f.params.toList=true) (hfn:s.fn H (ds++gs)={ results:=[.lit (.bool true)],args:=ds }) (hk:Kept0 W W') :
  s.post enc P f false true false false W args (.bool true) W':=by
 have hW':=hW
 obtain ⟨p,q,hA,hV,rfl,hfz,hnd⟩:=hW
 rw [hv] at hV
 obtain ⟨rfl,rfl⟩:=trodVars_none hV
 have hres:∀ (b:Nat) (sp:Nat->Bool) (hd:Bool),DataW.TrodAll enc P W' b sp hd f.resultTypes.toList ((Value.bool true).resultList f.resultTypes.size) (s.fn H (ds++[])).results []:=λb sp hd=>by
  rw [hr,hfn]
  exact trodAll_mk1<|shut_bool htb _
 have hargs:∀ sp:Nat->Bool,(∀ x∈p++[],sp x.block=true)->DataW.TrodAll enc P W' 0 sp true f.params.toList args.toList (s.fn H (ds++[])).args p:=λsp hsp=>by
  rw [hfn]
  exact Cv hk.block hf hA λx hx=>hsp x<|List.mem_append_left _ hx
 have hvars:∀ sp:Nat->Bool,DataW.TrodVars enc P W' sp s.vars (s.fn H (ds++[])).vars []:=λsp=>by rw [hv,hfn]; rfl
 have hold:∀ x∈p++[],(λb=>decide (b<W.heap.size)) x.block=true:=λx hx=>by simpa using hW'.lt x hx
 refine ⟨ds,[],p++[],[],p,[],hW',hres _ _ _,hargs _ hold,hvars _,World.keptBut_mono (λx hx=>⟨hx,.inr<|List.mem_append.1 hx⟩) (hk.frame (· ∈ p++[])),λ_=>?_⟩
 refine ⟨ok_one hr Z (okWide_bool_mk htb _),_,_,([]++p)++[],⟨[]++p,[],trodAll_append (hargs _ λ_ _=>rfl) (hres _ _ _),hvars _,Z,λb off hm=>?_,λha=>?_⟩,λx hx _=>by simpa using hx⟩
 ·have hm':MemPlace.cell b off∈p++[]:=by simpa using hm
  rw [hk.fz _ (show b<W.heap.size from of_decide_eq_true (hold _ hm'))]
  exact hfz b off hm'
 ·simpa using hnd ha
end
end Go.Ck
namespace Go.Fl
open Go Go.RowKit Go.ChangeShapes Go.WideShapes Go.Ck Go.Proofs Go.Proofs.Tryz Go.Proofs.YtknmacdbffgjgaaGreatDoor Fx Go.Hr
theorem gSpace : prog.globalNamed "strings.asciiSpace" = some 0 := Zz
theorem tSpace:(prog.globals[0]?).map (·.type)=some 335:=Zz
def H9 : List (String × DataW Unit) := [("unicode.White_Space", Rows.laid_unicode_White_Space), ("strings.asciiSpace", Rows.laid_strings_asciiSpace)]
theorem OY (os:Os) (args:Array Value):laidMetH prog H9 ((World.doorLaid prog 33 os).forCall (λ_ _=>0) ⟨#[],args,[]⟩).memory :=
 laidMetH_of_parts3 (fuel:=8) (laidMet_of_run' 8 Zz Zz) Zz Zz
def JR:List Int:=(List.range 256).map λc=>if Lib.isSp (UInt8.ofNat c) then 1 else 0
theorem OZ:(Rows.laid_strings_asciiSpace:DataW Unit) = .agg (JR.map λk=>.lit (.int .u8 k)):=Zz
theorem lt_of_cell {W:World} {p:Addr} {v:Value} (h:W.cell? p=some v):p.block<W.heap.size:=by
 unfold World.cell? at h
 refine Nat.lt_of_not_le λhn=>?_
 rw [Array.getElem?_eq_none hn] at h
 cases h
theorem Ia {W:World} (h:laidMetH prog H9 W):Spc (old W):=by
 rw [MakeChecks.laidMetH_plain _ _ _ Zz] at h
 obtain ⟨ps,⟨g0,t0,cs0,f0,p0,q0,hg0,ht0,hv0,hd0,⟨g1,t1,cs1,f1,p1,q1,hg1,ht1,hv1,hd1,_,_⟩,_⟩,_,_⟩:=h
 obtain rfl:=Option.some.inj<|gSpace.symm.trans hg1
 obtain rfl:=Option.some.inj<|tSpace.symm.trans ht1
 rw [OZ] at hd1
 obtain ⟨xs,m1,rfl,hx1,hlen,hn3,hel⟩:=DataW.trod_array underlying335 hd1
 have c5:prog.cellsOf 5=1:=Zz
 have hx1:=(DataW.agg.inj (Prod.mk.inj hx1).1)
 intro c hc
 have h0:=hel c hc
 rw [c5,Nat.mul_one] at h0
 have hxc:xs[c]? = some (xs[c]'(by omega)):=Zy<|by omega
 rw [hxc] at h0
 obtain ⟨k,e1,e2,_⟩:=DataW.trod_int underlying5 h0
 have h2:(xs.map λx=>x.1)[c]? = some (.lit<|.int .u8 k):=by
  rw [List.getElem?_map,hxc,Option.map_some,e2]
 rw [<- hx1,List.getElem?_map] at h2
 have h3:JR[c]? = some (if Lib.isSp (UInt8.ofNat c) then 1 else 0):=by
  unfold JR
  rw [List.getElem?_map,List.getElem?_range hc]; rfl
 rw [h3] at h2
 have hk:k=(if Lib.isSp (UInt8.ofNat c) then 1 else 0):=by
  have:=Option.some.inj h2
  simpa using this.symm
 subst hk
 have hcell:=World.var?_cell hg1 hv1 c
 have h4:cs1.toList[c]? = some (.int .u8 (if Lib.isSp (UInt8.ofNat c) then 1 else 0)):=by
  have h5:=congrArg List.head? e1
  rw [List.head?_take] at h5
  simpa [List.head?_drop] using h5
 have h6:W.cell? ⟨0,c,none⟩=some (.int .u8 (if Lib.isSp (UInt8.ofNat c) then 1 else 0)):=by
  rw [hcell,<- Array.getElem?_toList]; exact h4
 exact M3 (lt_of_cell h6) h6
end Go.Fl
namespace Go.Ck
open Go Go.RowKit
section
variable {P:Program} {e:Env} {h:SH} {ty:TypeId}
theorem O0 {t t':TypeId} {x y:Operand} {a b:Nat} (hx:e.ev? x=some (.int .i64 (a:Nat))) (hy:e.ev? y=some (.int .i64 (b:Nat))) (hb:0<b) (hr:b≤9223372036854775807):Vop P e h (.binOp .rem t x y t') ty (.int .i64 ((a % b:Nat):Int)):=
 ⟨by simp,by simp,λρ w d pos after g hρ _=>by
  have h1:((a:Nat):Int).tmod b=((a % b:Nat):Int):=by rw [Int.tmod_eq_emod_of_nonneg (by omega)]; rfl
  have h2:a % b<b:=Nat.mod_lt _ hb
  have h3:IntKind.i64.wrap ((a % b:Nat):Int)=((a % b:Nat):Int):=I64.wrap (by unfold I64; omega)
  have h4:¬ b=0:=by omega
  simp [execOp,hρ x _ hx,hρ y _ hy,eqGuard_rem,binOp_rem,Op.intDiv,h4,h1,h3]⟩
theorem v_conv {src dst:TypeId} {x:Operand} {q q' k:IntKind} {n m:Int} (hx:e.ev? x=some (.int q n)) (hs:P.underlying src=some (.int q')) (hd:P.underlying dst=some (.int k)) (hw:k.wrap n=m):Vop P e h (.convert src dst x) ty (.int k m):=
 ⟨by simp,by simp,λρ w d pos after g hρ _=>by
  simp [execOp,hρ x _ hx,Go.convert,Sem.run_bind,run_underlying hs,run_underlying hd,Result.andThen_ok,Conv.intToInt,hw]⟩
end
theorem Rws.set {α : Type} [Enc α] {X:Res} {rows:List (List Value)} {xs:List α} {us:List Value} {a : α} (h:Rws X rows xs) (i:Nat) (ha:Enc.rep X us a):Rws X (rows.set i us) (xs.set i a):=by
 refine ⟨by simp [h.1],λj vs x h1 h2=>?_⟩
 by_cases hj:i=j
 ·subst hj
  have hl:=(List.getElem?_eq_some_iff.1 h1).1
  have hl2:=(List.getElem?_eq_some_iff.1 h2).1
  rw [List.length_set] at hl hl2
  rw [List.getElem?_set_self hl] at h1
  rw [List.getElem?_set_self hl2] at h2
  cases h1; cases h2; exact ha
 ·rw [List.getElem?_set_ne hj] at h1 h2
  exact h.2 j vs x h1 h2
end Go.Ck
namespace Go.Fl
open Go Go.RowKit Go.Ck Go.Proofs Go.Proofs.Tryz Go.Proofs.YtknmacdbffgjgaaGreatDoor Fx Go.Hr
attribute [local irreducible] Go.Ck.Sub St Cd Xt Nx DrL LsW
section
variable {X:Res} {v:Value} {l:FS}
theorem MG (hX:Spc X) (hl:Ls X v l) (hS:iL l):dQ prog 13 #[v] X [] λu Y k'=>∃ (w:Value) (rows:List (List Value)),k'=[VR w 55 4 rows]/\u = .tuple #[w,.int .i64 (bY l).2]/\w.oneCell'=true/\Rws Y rows (bY l).1:=by
 have hml:maxLen=9223372036854775807:=rfl
 have hrb:reachBytes=140737488351232:=rfl
 obtain ⟨vAq,vK,rfl,_⟩:=id hl.form
 have hwh:=rO hX hl hS (nv:=.slice none 0 0) (ns:=[]) Ls.nil
 unfold dQ at hwh ⊢
 refine fQ (n:=35) func13 Z Z (len Z) λhr w0 hw0=>?_
 refine cQ<|sA Z<|sA Z<|sN<|nT<|cQ<|sM Z<|bL hw0 Z Z en54 Z (hwh) ?_
 rintro u h' ⟨Y,k',rfl,hE,v2,fv,ow,x,e,rfl,hv2,hfv,how,hor⟩
 simp only [lC,lN]
 unfold sI
 have h12:=iH (x:=x) (e:=e) hv2 hfv how
 refine sM Z<|sV (ag Z Z)<|sV (ag Z Z) (ax oz λb4=>?_)
 refine ai Z Z jk Z h12 ?_
 refine sA Z<|sK [2,3,4,5] Z<|cS<|cQ<|sM Z<|sV (bM Z Z)<|sK [2,3,4,5,15] Z<|cC Z (λhq=>?_)<|λhq=>?_
 ·have hq:wholeE l []≠0:=Zu
  obtain ⟨-,rfl⟩:=hor.resolve_right λh=>hq h.1
  have hp:bY l=([],wholeE l []):=by unfold bY; rw [if_pos hq]
  rw [hp]
  refine dJ (cO 55 4)<|cQ<|sM Z<|sA Z<|sA Z<|sK [2,3] Z<|cT<|xR ?_
  exact aj Z ⟨Y,_,Z,hE,_,_,Z,Z,Z,Rws.nil⟩ sbq
 ·have hq:wholeE l []=0:=Zu
  obtain ⟨-,mb,m,names,rfl,rfl,rfl,rfl,rfl,hm,rfl⟩:=hor.resolve_left λh=>h.1 hq
  have hg:=(jd hq).1
  have hol:=hg.ord_len
  rw [hg.flats2]
  simp only [lC,lN]
  generalize order (aO l)=names at hol ⊢
  clear hor hwh
  refine fq (v:=ow) (E:=9) (sz:=1) (rows:=names.map nC) slq λwa wc hwf hwl hwm=>?_
  rw [List.length_map] at hwf hwl
  subst hwf
  refine dJ (cO 55 4)<|cK<|xT<|cQ<|sA Z<|sK [2,3,4,6] Z<|cS<|cQ<|sV (vF Z yJ Z)<|sV (vY Z fG) ?_
  refine sV (aF Z underlying40)<|sM Z<|sK [2,3,4,6,18,19,20] Z<|cB<|aZ (σ := Value×List (List Value)×Res×Nat) (λq=>[(4,.pointer (some ⟨b4,0,none⟩)),(6,q.1),(18,.slice wa names.length wc),(19,.int .i64 names.length),(20,.int .i64 (q.2.2.2:Nat))]) (λq=>VR q.1 55 4 q.2.1::q.2.2.1::mps mb m::VR (.slice wa names.length wc) 9 1 (names.map nC)::pt b4 (cl [.slice vAq l.length vK,.map (some mb),.slice wa names.length wc,.int .i64 cf0.kind,sv cf0.cls,sv cf0.name,sv cf0.other,sv cf0.a.par,sv cf0.a.name,sv cf0.b.par,sv cf0.b.name,.int .i64 0] 116)::hr) (λq=>q.1.oneCell'=true/\Ext Y q.2.2.1/\q.2.2.2≤names.length/\Rws q.2.2.1 q.2.1 ((names.take q.2.2.2).map λn=>look (build l).1 n)) (λq=>names.length - q.2.2.2) (.slice none 0 0,[],Y,0) ⟨Z,Ext.refl Y,Nat.zero_le _,Rws.nil⟩ ?_
  rintro ⟨w,rows,Zq,i⟩ ⟨hw,hEZ,hi,hro⟩
  simp only at hw hEZ hi hro
  dsimp only
  refine cQ<|sV (aN Z Z)<|sN<|nT<|cS<|cC Z (λhd=>?_)<|λhd=>?_
  ·have hlt:i<names.length:=Zx
   have htk:=bV hlt
   have hrl:rows.length≤i:=by
    rw [hro.1,List.length_map,List.length_take]; exact Nat.min_le_left _ _
   have hnx:(names.map nC)[i]? = some [sv names[i]]:=by rw [List.getElem?_map,Zy hlt]; rfl
   refine fw (r:=VR (.slice wa names.length wc) 9 1<|names.map nC) slq λhok=>?_
   obtain ⟨ab,ao,rfl⟩:∃ ab ao,wa=some ⟨ab,ao,none⟩:=by
    obtain ⟨f0,hf0⟩:=hok
    rcases VR.form hf0 with ⟨h3,h4⟩ | ⟨b,o,cp,h3,-⟩
    ·have:=List.map_eq_nil_iff.1 h4
     rw [this] at hlt; simp at hlt
    ·rw [List.length_map] at h3; cases h3; exact ⟨b,o,rfl⟩
   generalize names[i]=n at hnx htk
   obtain ⟨fus,hfl,hfr⟩:=(hm.up hEZ) n
   have hcp:=wV hfr
   generalize hJ:look (build l).1 n=J at hcp
   refine cK<|xT<|cS<|cB<|cQ<|sV (vI (k:=i) Z Z jv Z hlt Z)<|sV (vY Z ld9 (ha:=⟨_,_,slq,dN hnx 0<|by simp⟩)) ?_
   refine sA Z<|sK [4,6,8,18,19,20] Z<|cR<|sM Z<|sV (vF Z gI Z)<|sV (vF Z iG Z)<|sV (vY Z oh) ?_
   refine sM Z<|sV (gG hfl<|bI Z Z nY kL slq) ?_
   refine aH Z Z en55 Z (hcp) ?_
   rintro u h' ⟨T,rfl,us,rfl,hre⟩
   simp only [lC,lN]
   refine kI [T] Zq λZ2 hE2 hsel2=>?_
   have hre:=Enc.up (hsel2 _ _ .here) hre
   have hone:=Enc.ones hre
   have hre0:=hre
   obtain ⟨x1,x2,rfl,hx1,hx2⟩:=hre
   refine ak (cells:=[sv J.name,.bool J.dfd,x1,x2]) Z underlying32 kL Z Z Zz (ltn Z) λb31=>?_
   refine dF [[sv J.name,.bool J.dfd,x1,x2]] Z Z underlying32 kL Z (by decide) (show Sel _ (VR w 55 4 rows) _ from slq) (by simp) Z (λj u2 hu2=>bQ<|bU Zt) Z0 (by omega) (by omega) (ltn Z) λw2 hw2 _=>?_
   refine sA Z<|sN<|nK [4,6,18,19,20] Z<|au<|xB<|xT<|cR<|sV (aI Z Z Z6)<|sM Z<|sN<|nK [4,6,18,19,20] Z<|au ?_
   refine aM (w2,rows++[[sv J.name,.bool J.dfd,x1,x2]],Z2,i+1) ⟨hw2,hEZ.trans hE2,hlt,by rw [htk,List.map_append]; exact (hro.up hE2).snoc (show Enc.rep Z2 _ (look (build l).1 n) from by rw [hJ]; exact hre0)⟩ (by show names.length - (i+1)<names.length - i; omega)
  ·have hie:i=names.length:=Nat.le_antisymm hi<|Nat.not_lt.1 Zx
   subst hie
   rw [List.take_length] at hro
   refine aB<|xE<|xE<|xY<|xT<|cQ<|sM Z<|sA Z<|sA Z<|sK [2,3] Z<|cT ?_
   exact aj Z ⟨Zq,_,Z,hE.trans hEZ,_,_,Z,Z,hw,hro⟩ sbq

def pkC (us:List Value) (k:Nat):Prop:=us=[.int .u8 (k:Nat)]/\k<256
theorem MH (hl:Ls X v l) {pv:Value} {ps:List Nat} (hp:Row X 1 pkC pv ps):CtX prog 17 #[v,pv] X [] λu Y k'=>k'=[]/\∃ m:FS,m.Perm l/\Ls Y u m:=by
 have hml:maxLen=9223372036854775807:=rfl
 have hsz:=hl.sizes
 have hcl:=Am hl
 obtain ⟨vAq,vK,rfl,_⟩:=id hl.form
 obtain ⟨pA,pK,rfl,hpl,hpm,hpn,_⟩:=id hp
 unfold CtX
 refine aL (n:=47) func17 Z Z (len Z) λhr w0=>?_
 refine cQ<|sA Z<|sN<|nT<|cQ<|sM Z<|aH Z Z en19 Z (hcl) ?_
 rintro u h' ⟨T,rfl,rows,rfl,hu,hro⟩
 simp only [lC,lN]
 have hrl:=hro.1
 refine sA Z<|sK [1,4,5] Z<|cS<|cS (fq (v:=u) (E:=44) (sz:=7) (rows:=rows) slq λwa wc hwf hwl hwm=>?_)
 rw [hrl] at hwf hwl
 subst hwf
 refine cR<|sM Z<|sV (aF Z underlying37)<|sM Z<|sK [4,5,12,13,14] Z<|cB<|aZ (σ := List (List Value)×FS×Nat) (λq=>[(5,.slice wa l.length wc),(12,.slice pA ps.length pK),(13,.int .i64 ps.length),(14,.int .i64 (q.2.2:Nat))]) (λq=>VR (.slice wa l.length wc) 44 7 q.1::X::hr) (λq=>q.2.2≤ps.length/\q.2.1.Perm l/\Rws X q.1 q.2.1) (λq=>ps.length - q.2.2) (rows,l,0) ⟨Nat.zero_le _,.refl _,hro⟩ ?_
 rintro ⟨rs,m,i⟩ ⟨hi,hpm2,hrm⟩
 simp only at hi hpm2 hrm
 dsimp only
 have hmlen:=hpm2.length_eq
 have hrlen:=hrm.1
 refine cQ<|sV (aN Z Z)<|sN<|nT<|cS<|cC Z (λhd=>?_)<|λhd=>?_
 ·have hlt:i<ps.length:=Zx
  obtain ⟨gb,go,gcap,gus,e1,hgus,hgrd,hgr⟩:=Row.at hp<|Zy hlt
  obtain ⟨rfl,rfl⟩:pA=some ⟨gb,go,none⟩/\pK=gcap:=by cases e1; exact ⟨rfl,rfl⟩
  generalize ps[i]=k at hgr
  obtain ⟨rfl,hk⟩:=hgr
  have hkw:IntKind.i64.wrap ((k:Nat):Int)=((k:Nat):Int):=I64.wrap (by unfold I64; omega)
  refine cK<|xT<|cS<|cB<|cQ<|sM Z<|sV (vI (k:=i) Z Z sl37 Z hlt Z)<|sV (vY Z ld5 (ha:=⟨X,_,slq,hgrd 0<|by simp⟩)) ?_
  refine sA Z<|sA Z<|sK [5,6,7,12,13,14] Z<|cQ<|sM Z<|sV (aF Z underlying22)<|sV (bZ Z Z)<|sK [5,6,7,12,13,14,21] Z<|cC Z (λhn=>?_)<|λhn=>?_
  ·have hn:0<l.length:=Zk
   have ha:i % l.length<l.length:=Nat.mod_lt _ hn
   have hb:k % l.length<l.length:=Nat.mod_lt _ hn
   refine fw (r:=VR (.slice wa l.length wc) 44 7 rs) slq λhok=>?_
   obtain ⟨ab,ao,rfl⟩:∃ ab ao,wa=some ⟨ab,ao,none⟩:=by
    obtain ⟨f0,hf0⟩:=hok
    rcases VR.form hf0 with ⟨h3,h4⟩ | ⟨b,o,cp,h3,-⟩
    ·rw [h4] at hrlen; simp at hrlen; omega
    ·exact ⟨b,o,(Value.slice.inj h3).1⟩
   obtain ⟨a,hae⟩:∃ a,i % l.length=a:=⟨_,rfl⟩
   obtain ⟨b,hbe⟩:∃ b,k % l.length=b:=⟨_,rfl⟩
   rw [hae] at ha
   rw [hbe] at hb
   have ga:=Zy (show a<rs.length by omega)
   have gb':=Zy (show b<rs.length by omega)
   have xa:=Zy (show a<m.length by omega)
   have xb:=Zy (show b<m.length by omega)
   have ra:=hrm.2 a _ _ ga xa
   have rb:=hrm.2 b _ _ gb' xb
   have hsp:((m.set a m[b]).set b m[a]).Perm l:=(List.set_set_perm (show a<m.length by omega) (show b<m.length by omega)).trans hpm2
   generalize m[a]=ma at ra hsp
   generalize m[b]=mb at rb hsp
   generalize rs[a]=ua at ga ra
   generalize rs[b]=ub at gb' rb
   have la:ua.length=7:=Enc.len ra
   have lb:ub.length=7:=Enc.len rb
   have oa:=Enc.ones ra
   have ob:=Enc.ones rb
   refine cS<|bB (ork [(0,2),(1,2),(2,2),(3,2),(4,2),(5,1),(6,2),(7,2),(8,2),(9,2),(10,2)] .nil) (λ_=>true) mixed Zz ?_
   refine dV Z (vM Z)<|dV Z (vM Z)<|dV Z (aF Z underlying22)<|dV Z (O0 Z Z hn<|by omega) ?_
   rw [hae]
   refine dV Z (vM Z)<|bg Z (v_conv Z underlying5 underlying3 hkw)<|dV Z (vM Z)<|dV Z (aF Z underlying22)<|dV Z (O0 Z Z hn<|by omega) ?_
   rw [hbe]
   refine dV Z (vA Z)<|dV Z (vA Z)<|bA<|nK [5,8,9,12,13,14] Z<|nT<|bB (ork [(0,2),(1,2),(2,2),(3,2),(4,2),(5,2),(6,2),(7,1),(8,2),(9,2),(10,2),(11,1),(12,2),(13,0),(14,2),(15,0)] .nil) (λi => !(Nat.beq i 13 || Nat.beq i 15)) mixed Zz ?_
   refine dV Z (vM Z)<|dV Z (vM Z)<|dV Z (vM Z)<|dV Z (vM Z)<|dV Z (vM Z)<|dV Z (vM Z)<|dV Z (vI (k:=b) Z Z qy Z hb Z)<|bg Z (af Z gp lb<|dN gb') ?_
   refine dV Z (vM Z)<|dV Z (vM Z)<|dV Z (vI (k:=a) Z Z qy Z ha Z)<|bg Z (af Z gp la<|dN ga) ?_
   refine dV Z (vI (k:=a) Z Z qy Z ha Z)<|aP Z<|wW Z Z kW lb (List.all_eq_true.1 ob) (show a<rs.length by omega) slq<|aX ?_
   refine dV Z (vI (k:=b) Z Z qy Z hb Z)<|aP Z<|wW Z Z kW la (List.all_eq_true.1 oa) (show b<(rs.set a ub).length by rw [List.length_set]; omega) slq<|aX ?_
   refine bA<|nK [5,12,13,14] Z<|au<|xB<|xT<|cR<|sV (aI Z Z Z6)<|sM Z<|sN<|nK [5,12,13,14] Z<|au ?_
   refine aM ((rs.set a ub).set b ua,(m.set a mb).set b ma,i+1) ⟨hlt,hsp,(hrm.set a rb).set b ra⟩ (by show ps.length - (i+1)<ps.length - i; omega)
  ·refine cK<|xB<|xT<|cR<|sV (aI Z Z Z6)<|sM Z<|sN<|nK [5,12,13,14] Z<|au ?_
   refine aM (rs,m,i+1) ⟨hlt,hpm2,hrm⟩ (by show ps.length - (i+1)<ps.length - i; omega)
 ·have hb:m.length * Enc.by' FC≤reachBytes:=by rw [hmlen]; exact hsz
  refine aB<|xE<|xE<|xY<|xT<|cQ<|sM Z<|sA Z<|sK [4] Z<|cT (dR (r:=VR (.slice wa l.length wc) 44 7 rs) slq λhok=>?_)
  refine iy [VR (.slice wa l.length wc) 44 7 rs] X λY hE hsel=>?_
  exact aj Z ⟨Y,[],Z,hE,Z,m,hpm2,Rws.ls (E:=44) (hrm.up hE) hok (hsel _ _ .here) hb⟩ sbq
end
end Go.Fl
namespace Go.Ck
open Go Go.RowKit
theorem Ctw.okd {P:Program} {k:FuncId} {args:Array Value} {r:Res} {A:SH} {R:Value->SH->Prop} (h:∀ f,r.ok f->Ctw P k args (r::A) R):Ctw P k args (r::A) R:=λhr w hh=>h _ hh.1 hr w hh
end Go.Ck
namespace Go.Fl
open Go Go.RowKit Go.Ck Go.Proofs Go.Proofs.Tryz Go.Proofs.YtknmacdbffgjgaaGreatDoor Fx Go.Hr
section
variable {e:Env} {h:SH} {ty:TypeId}
theorem v_neqC {t':TypeId} {x y:Operand} {a b:Cf} (hx:e.ev? x=some (cfV a)) (hy:e.ev? y=some (cfV b)):Vop prog e h (.binOp .neq 26 x y t') ty (.bool (!(decide (a=b)))):=
 ⟨by simp,by simp,λρ w dd pos after g hρ _=>by
  have hq:=eqC w a b
  unfold cfV at *
  simp only [execOp,hρ x _ hx,hρ y _ hy,Sem.run_bind,run_eqGuard_agg w .neq 26 x y _ _ gd26,Result.andThen_ok,run_neq_struct,hq,Sem.run_pure]⟩
end
theorem iL.perm {l m:FS} (h:iL l) (hp:m.Perm l):iL m:=λc hc=>h c<|hp.mem_iff.1 hc
theorem iL.snoc {l:FS} {c:FC} (h:iL l) (hc:SmC c):iL (l++[c]):=λd hd p hp=>by
 rcases List.mem_append.1 hd with hd | hd
 ·exact h d hd p hp
 ·rw [List.mem_singleton] at hd
  subst hd
  have:=hc.par p hp
  exact ⟨this.ren,this.und,this.red,this.sel⟩
theorem MI {l:FS} (h:(bY l).2=0):(bY l).1.length≤24:=by
 have hg:=uh.1 h
 rw [hg.flats2]
 show (List.map _ _).length≤24
 rw [List.length_map]
 exact hg.ord_len
attribute [local irreducible] Go.Ck.Sub St Cd Xt Nx DrL LsW
section
variable {X:Res} {v:Value} {l:FS}
theorem DF {R:Res} {us:List Value} {f:Fl} {b5:Nat} {n:Nm} (hf:Enc.rep R us f) (hb:Rd R ⟨b5,0,none⟩ (sv n)):Reads prog 21 #[.agg us.toArray,.pointer (some ⟨b5,0,none⟩)] [R] (.bool (f.name == n)):=by
 obtain ⟨x1,x2,rfl,-⟩:=hf
 refine aL (n:=9) func21 Z Z (len Z) λhr w0=>?_
 refine cQ (aV Z Z λb2=>?_)
 refine sA Z<|sK [1,2,3] Z<|cQ<|sV (vF Z Ip Z)<|sV (vY Z ld9) ?_
 refine sV (vF Z dK Z)<|sV (vY Z ld9 (ha:=⟨R,_,slq,hb⟩)) ?_
 refine sV (gQ Z Z)<|sA Z<|sK [3] Z<|cT ?_
 exact aj Z ⟨Z,Z⟩ sbq
theorem en21:Ck.Enters prog 21:=enters_of func21 Zz rfl
theorem EM (hX:Spc X) (hl:Ls X v l) (hcr:Cre X v l) {pv:Value} {ps:List Nat} (hp:Row X 1 pkC pv ps) {us:List Value} {c:FC} (hc:Enc.rep X us c) (hcc:Crt X us):dQ prog 4 #[v,pv,.agg us.toArray] X [] λu Y k'=>k'=[]/\u = .bool true:=by
 have hml:maxLen=9223372036854775807:=rfl
 have hrb:reachBytes=140737488351232:=rfl
 have hsm:=Ow hcr hl
 have hsc:=Di hc hcc
 have hsn:=λ(Y:Res) (hE:Ext X Y)=>Mw<|hX.up hE
 have hck:=sD hX hl
 have htu:=MH hl hp
 have hcn:=λ(Y:Res) (hE:Ext X Y)=>Am<|hl.up hE
 obtain ⟨vAq,vK,rfl,_⟩:=id hl.form
 obtain ⟨pA,pK,rfl,hpl,hpm,hpn,_⟩:=id hp
 have hc0:=hc
 have hco:=Enc.ones hc
 obtain ⟨ca,cb,ce,cf,ci,rfl,-⟩:=gB hc
 unfold CtX at htu
 unfold dQ at *
 refine fQ (n:=118) func4 Z Z (len Z) λhr w0 hw0=>?_
 refine cQ (aV Z Z λb5=>?_)
 refine sA Z<|sK [0,1,5,6] Z<|cS<|cS<|kY (ex:=.normal) (α := {q:Bool // q=false->SmL l/\SmC c}) (λq=>[(0,.slice vAq l.length vK),(1,.slice pA ps.length pK),(5,.pointer (some ⟨b5,0,none⟩)),(34,.bool q.1)]) (λq=>pt b5 (cl [sv c.name,.bool c.dfd,ca,cb,ce,cf,ci] 44)::X::hr) (λhcont=>?_)<|λq=>?_
 ·refine cR<|sM Z<|aH Z Z en10 Z (hsm) ?_
  rintro u h' ⟨ok,rfl,rfl,hok⟩
  simp only [lC,lN]
  refine sV (bi Z)<|sM Z ?_
  cases ok with
  | false =>
   iterate 3 refine aC rfl rfl rfl ?_
   refine sV (vQ Z Z)<|sM Z<|aC Z Z Z ?_
   iterate 2 refine aC rfl rfl rfl ?_
   refine sV (vQ Z Z)<|sN<|nK [0,1,5,6,34] Z<|au ?_
   exact hcont ⟨true,λh=>by cases h⟩ _ _ ⟨rfl,rfl,rfl,rfl,trivial⟩ sbq
  | true =>
   refine sG Z Z (vM Z)<|sG Z Z (aF Z underlying37)<|sG Z Z (bZ Z Z)<|sV (vP Z Z)<|sM Z ?_
   generalize decide ((40:Int)<(ps.length:Nat))=B
   cases B with
   | true =>
    iterate 3 refine aC rfl rfl rfl ?_
    refine sV (vQ Z Z)<|sN<|nK [0,1,5,6,34] Z<|au ?_
    exact hcont ⟨true,λh=>by cases h⟩ _ _ ⟨rfl,rfl,rfl,rfl,trivial⟩ sbq
   | false =>
    refine sG Z Z (af Z gp Z ah) ?_
    refine kF Z Z<|aH Z Z en15 Z (hsc) ?_
    rintro u h' ⟨ok2,rfl,rfl,hok2⟩
    simp only [lC,lN]
    refine sG Z Z (bi Z)<|sV (vP Z Z)<|sN<|nK [0,1,5,6,34] Z<|au ?_
    cases ok2 with
    | false =>
     exact hcont ⟨true,λh=>by cases h⟩ _ _ ⟨rfl,rfl,rfl,rfl,trivial⟩ sbq
    | true =>
     exact hcont ⟨false,λ_=>⟨hok Z,hok2 Z⟩⟩ _ _ ⟨Z,Z,Z,Z,trivial⟩ sbq
 obtain ⟨qb,hq⟩:=q
 dsimp only at hq ⊢
 clear hsm hsc hcr
 refine xT ?_
 cases qb with
 | true =>
  refine aT Z ?_
  refine cQ<|bL hw0 Z Z en11 Z (hsn X<|Ext.refl X) ?_
  rintro u h' ⟨V,k',rfl,hV,rfl,rfl⟩
  simp only [lC,lN]
  refine sA Z<|sK [6] Z<|cT<|xR ?_
  exact aj Z ⟨V,[],Z,((Ext.refl X)).trans hV,Z,Z⟩ sbq
 | false =>
  obtain ⟨hsl,hscc⟩:=hq rfl
  have hS:=hsl.short
  refine aG Z ?_
  refine cK<|xT<|cS<|cQ<|sM Z<|bL hw0 Z Z en16 Z (hck) ?_
  rintro u h' ⟨rfl,rfl⟩
  simp only [lC,lN]
  clear hck hq
  refine sM Z<|sV (ag Z Z)<|sV (ag Z Z)<|sA Z<|sA Z<|sK [0,1,5,7] Z<|cQ<|sM Z<|sV (bM Z Z)<|sK [0,1,5,42] Z<|cC Z (λhz=>?_)<|λhz=>?_
  ·refine cQ<|bL hw0 Z Z en11 Z (hsn X<|Ext.refl X) ?_
   rintro u h' ⟨V,k',rfl,hV,rfl,rfl⟩
   simp only [lC,lN]
   refine sA Z<|sK [6] Z<|cT<|xR ?_
   exact aj Z ⟨V,[],Z,((Ext.refl X)).trans hV,Z,Z⟩ sbq
  ·have hz:(bP l).1=0:=Zn
   refine cK<|xT<|cQ<|sM Z<|sM Z<|aH Z Z en17 Z (htu) ?_
   rintro u h' ⟨Y,k',rfl,hE,rfl,m,hpm2,hlm⟩
   simp only [lC,lN]
   have hSm:=hS.perm hpm2
   obtain ⟨hlw1,hlw2⟩:=IL hpm2.symm hz
   obtain ⟨uA,uK,rfl,_⟩:=id hlm.form
   clear htu
   have hq1:=AX (hX.up hE) (hl.up hE) hS
   unfold dQ cfV cfC at hq1
   refine sA Z<|sK [0,5,9] Z<|cQ<|sM Z<|bL hw0 Z Z en12 Z (hq1) ?_
   rintro u h' ⟨Y1,k',rfl,hE1,rfl,rfl⟩
   simp only [lC,lN]
   clear hq1
   refine sM Z<|sV (ag Z Z)<|sV (ag Z Z)<|sV (ag Z Z) (ax zQ λb10=>?_)
   refine ai Z Z tK Z Z ?_
   have hq2:=AX (hX.up<|hE.trans hE1) (hlm.up hE1) hSm
   rw [hlw1] at hq2
   unfold dQ cfV cfC at hq2
   refine sA Z<|sA Z<|sK [0,5,9,10,11,12] Z<|cQ<|sM Z<|bL hw0 Z Z en12 Z (hq2) ?_
   rintro u h' ⟨Y2,k',rfl,hE2,rfl,rfl⟩
   simp only [lC,lN]
   clear hq2
   refine sM Z<|sV (ag Z Z)<|sV (ag Z Z)<|sV (ag Z Z) (ax zQ λb13=>?_)
   refine ai Z Z tK Z Z ?_
   have hEY2:=(hE.trans hE1).trans hE2
   have hq3:=HY (hX.up hEY2) (hl.up hEY2) hS
   unfold dQ at hq3
   refine sA Z<|sA Z<|sK [0,5,9,10,11,12,13,14,15] Z<|cQ<|sM Z<|bL hw0 Z Z en13 Z (hq3) ?_
   rintro u h' ⟨Y3,k',rfl,hE3,rfl,w1,rfl,hw1⟩
   simp only [lC,lN]
   clear hq3
   have hw1o:=hw1.one
   have hEY3:=hEY2.trans hE3
   have hq4:=HY (hX.up hEY3) (hlm.up<|(hE1.trans hE2).trans hE3) hSm
   rw [hlw2] at hq4
   unfold dQ at hq4
   refine sM Z<|sV (ag Z Z)<|sV (ag Z Z)<|sA Z<|sA Z<|sK [0,5,9,10,11,12,13,14,15,16,17] Z<|cQ<|sM Z<|bL hw0 Z Z en13 Z (hq4) ?_
   rintro u h' ⟨Y4,k',rfl,hE4,rfl,w2,rfl,hw2⟩
   simp only [lC,lN]
   clear hq4
   have hw2o:=hw2.one
   have hEY4:=hEY3.trans hE4
   have hw14:=hw1.up hE4
   have heq:=EE hw14 hw2
   rw [decide_eq_true (rfl:(bY l).1=(bY l).1)] at heq
   have hol:=λ(hk:(bY (l++[c])).2=0)=>IM (c:=c) hz hk
   clear hlw1 hlw2 hw1 hw2 hlm hSm hpm2
   generalize (il l).1=x
   generalize (il l).2.1=b
   generalize (il l).2.2=e
   generalize (bY l).1=xs at hw14 heq hol
   generalize (bY l).2=f at hol
   refine sM Z<|sV (ag Z Z)<|sV (ag Z Z)<|sA Z<|sA Z<|sK [0,5,10,11,12,13,14,15,16,17,18,19] Z<|cS<|cQ<|sV (af Z qP Z ah) ?_
   refine sV (af Z qP Z ah) ?_
   refine sV (v_neqC (a:=x) (b:=x) Z Z) ?_
   rw [show (!(decide (x=x)))=false by rw [decide_eq_true (rfl:x=x)]; rfl]
   refine sM Z<|sG Z Z (vM Z)<|sG Z Z (vM Z)<|sG Z Z (oQ underlying4 Z Z) ?_
   rw [show (!(b == b))=false by rw [beq_self_eq_true]; rfl]
   refine sV (vP Z Z)<|sM Z<|sG Z Z (vM Z)<|sG Z Z (vM Z)<|sG Z Z (bM Z Z) ?_
   rw [show (e != e)=false from bne_self_eq_false e]
   refine sV (vP Z Z)<|sM Z<|sG Z Z (vM Z)<|sG Z Z (vM Z)<|sG Z Z (bM Z Z) ?_
   rw [show (f != f)=false from bne_self_eq_false f]
   refine sV (vP Z Z)<|sM Z<|sG Z Z (vM Z)<|sG Z Z (vM Z)<|bR Z Z Z Z en18 Z (heq) ?_
   refine sG Z Z (bi Z)<|sV (vP Z Z)<|sK [0,5,16,17,92] Z<|aG Z ?_
   clear heq
   have hcl9:=hcn Y4 hEY4
   have hsz:=(hl.up hEY4).sizes
   have hl30:=hsl.len
   have hq5:∀ (w5:Value) (rows:List (List Value)),Rws Y4 rows l->Ctw prog 13 #[w5] [VR w5 44 7 (rows++[[sv c.name,.bool c.dfd,ca,cb,ce,cf,ci]]),pt b5 (cl [sv c.name,.bool c.dfd,ca,cb,ce,cf,ci] 44),Y4] λu h'=>∃ Zq k',h'=Zq::k'/\Ext (Res.star ([VR w5 44 7 (rows++[[sv c.name,.bool c.dfd,ca,cb,ce,cf,ci]]),pt b5 (cl [sv c.name,.bool c.dfd,ca,cb,ce,cf,ci] 44)]++[Y4])) Zq/\∃ (w:Value) (zrows:List (List Value)),k'=[VR w 55 4 zrows]/\u = .tuple #[w,.int .i64 (bY (l++[c])).2]/\w.oneCell'=true/\Rws Zq zrows (bY (l++[c])).1:=λw5 rows hro=>Ctw.okd λf hf=>by
    have hZ:=Ext.packs Y4 [VR w5 44 7 (rows++[[sv c.name,.bool c.dfd,ca,cb,ce,cf,ci]]),pt b5 (cl [sv c.name,.bool c.dfd,ca,cb,ce,cf,ci] 44)]
    have hEZ:=hEY4.trans hZ
    have hlc:Ls (Res.star ([VR w5 44 7 (rows++[[sv c.name,.bool c.dfd,ca,cb,ce,cf,ci]]),pt b5 (cl [sv c.name,.bool c.dfd,ca,cb,ce,cf,ci] 44)]++[Y4])) w5 (l++[c]):=Rws.ls (E:=44) ((hro.up hZ).snoc<|Enc.up hEZ.rd hc0) ⟨f,hf⟩ (λ_ _ h=>gz .here _ _ h) (by rw [List.length_append]; show (l.length+1) * 144≤reachBytes; omega)
    have h5:=MG (hX.up hEZ) hlc<|hS.snoc hscc
    unfold dQ at h5
    exact Ctw.star (A:=[]) h5
   have hflz:=λ(h:(bY (l++[c])).2=0)=>MI h
   generalize (bY (l++[c])).1=zs at hq5 hol hflz
   generalize (bY (l++[c])).2=kz at hq5 hol hflz
   refine cK<|xT<|cS<|iR (ork [(0,2),(2,1)]<|.two 1 (ork [(3,0),(4,0),(5,0),(6,2),(7,2),(8,2),(9,2),(10,2)] .nil) 3<|ork [(1,0),(4,0),(5,0),(6,2),(7,2),(8,2),(9,2),(10,2)] .nil) (λi => !(Nat.beq i 3 || Nat.beq i 4 || Nat.beq i 5)) [pt b5 (cl [sv c.name,.bool c.dfd,ca,cb,ce,cf,ci] 44)] mixed Zz ?_
   refine dV Z (vM Z)<|bg Z (af Z gp Z ah) ?_
   refine lH Z Z ?_ ?_
   ·refine aH Z Z en19 Z (hcl9) ?_
    rintro u h' ⟨T,rfl,rows,rfl,hu9,hro⟩
    simp only [lC,lN]
    refine aX ?_
    refine aP Z (ak (cells:=[sv c.name,.bool c.dfd,ca,cb,ce,cf,ci]) Z underlying22 zL Z Z Zz (ltn Z) λb97=>aX ?_)
    have hrl:rows.length=l.length:=hro.1
    refine aP Z (dF [[sv c.name,.bool c.dfd,ca,cb,ce,cf,ci]] Z Z underlying22 zL Z (by decide) (show Sel _ (VR u 44 7 rows) _ from slq) (by simp) Z (λj u2 hu2=>⟨_,_,slq,bU (T:=44) (b:=b97) Zt⟩) (by simpa using hco) (by omega) (by omega) (ltn Z) λw5 hw5 _=>aX ?_)
    refine aP Z<|bL hw0 Z Z en13 Z ((hq5 w5 rows hro)) ?_
    rintro u9 h' ⟨Z2,k',rfl,hZ2,wz,zrows,rfl,rfl,hwz,hzro⟩
    simp only [lC,lN]
    have hEZ:=hEY4.trans<|(Ext.packs Y4 _).trans hZ2
    have hb5:Rd Z2 ⟨b5,0,none⟩ (sv c.name):=hZ2.rd _ _<|gz (.there .here) _ _<|bU rfl
    have hYZ:=(Ext.packs Y4 [VR w5 44 7 (rows++[[sv c.name,.bool c.dfd,ca,cb,ce,cf,ci]]),pt b5 (cl [sv c.name,.bool c.dfd,ca,cb,ce,cf,ci] 44)]).trans hZ2
    refine aX ?_
    refine dV Z (vM Z)<|dV Z (ag Z Z)<|dV Z (ag Z Z)<|dV Z (vA Z)<|dV Z (vA Z)<|bA<|nK [5,16,17,20,21] Z<|nT<|cS<|cQ<|sM Z<|sV (bM Z Z)<|sK [5,16,17,20,103] Z<|cC Z (λhkz=>?_)<|λhkz=>?_
    ·refine cQ<|bL hw0 Z Z en11 Z (hsn Z2 hEZ) ?_
     rintro u h' ⟨V,k',rfl,hV,rfl,rfl⟩
     simp only [lC,lN]
     refine sA Z<|sK [6] Z<|cT<|xR ?_
     exact aj Z ⟨V,[],Z,(hEZ).trans hV,Z,Z⟩ sbq
    ·have hkz:kz=0:=by simpa using hkz
     obtain ⟨hf0,hxs⟩:=hol hkz
     have hzl:=hflz hkz
     have hdel:=G7 (v:=wz) (kf:=21) (cp := #[.pointer (some ⟨b5,0,none⟩)]) (g:=λf=>f.name == c.name) hzro (by omega) en21<|λR hR a _ us h=>DF h<|hR _ _ hb5
     refine cK<|xT<|cQ<|sM Z<|sV (bW Z Z)<|aH Z Z en20 Z (hdel) ?_
     rintro u h' ⟨rows5,hu5,hro5,rfl⟩
     simp only [lC,lN]
     refine sA Z<|sK [16,17,20] Z<|cQ ?_
     have hXZ2:=hEZ
     refine bL hw0 Z Z en11 Z (hsn Z2 hXZ2) ?_
     rintro u6 h' ⟨V,k',rfl,hV,rfl,rfl⟩
     simp only [lC,lN]
     subst hf0
     refine lM (r:=VR u 55 4 rows5) slq λhok5=>?_
     refine kI [VR u 55 4 rows5] V λV2 hV2 hsel5=>?_
     have hls5:Ls V2 u (zs.filter λx => !(x.name == c.name)):=Rws.ls (E:=55) (hro5.up<|hV.trans hV2) hok5 (hsel5 _ _ .here) (by
      have:=List.length_filter_le (λx => !(x.name == c.name)) zs
      show _ * 72≤reachBytes; omega)
     have heq5:=EE (hw14.up<|hYZ.trans<|hV.trans hV2) hls5
     rw [decide_eq_true (show xs=zs.filter λx => !(x.name == c.name) from hxs)] at heq5
     refine sM Z<|sG Z Z (vM Z)<|sG Z Z (dD Z Z)<|sV (vQ Z Z)<|sM Z<|sG Z Z (vM Z)<|sG Z Z (vM Z)<|bR Z Z Z Z en18 Z (heq5) ?_
     refine sV (vQ Z Z)<|sA Z<|sK [6] Z<|cT ?_
     exact aj Z ⟨V2,[],Z,(hXZ2.trans hV).trans hV2,Z,Z⟩ sbq
   ·refine ak (cells:=[sv c.name,.bool c.dfd,ca,cb,ce,cf,ci]) Z underlying22 zL Z Z Zz (ltn Z) λb97=>aX ?_
    refine aP Z<|aH Z Z en19 Z (hcl9) ?_
    rintro u h' ⟨T,rfl,rows,rfl,hu9,hro⟩
    simp only [lC,lN]
    refine aX ?_
    have hrl:rows.length=l.length:=hro.1
    refine aP Z (dF [[sv c.name,.bool c.dfd,ca,cb,ce,cf,ci]] Z Z underlying22 zL Z (by decide) (show Sel _ (VR u 44 7 rows) _ from slq) (by simp) Z (λj u2 hu2=>⟨_,_,slq,bU (T:=44) (b:=b97) Zt⟩) (by simpa using hco) (by omega) (by omega) (ltn Z) λw5 hw5 _=>aX ?_)
    refine aP Z<|bL hw0 Z Z en13 Z ((hq5 w5 rows hro)) ?_
    rintro u9 h' ⟨Z2,k',rfl,hZ2,wz,zrows,rfl,rfl,hwz,hzro⟩
    simp only [lC,lN]
    have hEZ:=hEY4.trans<|(Ext.packs Y4 _).trans hZ2
    have hb5:Rd Z2 ⟨b5,0,none⟩ (sv c.name):=hZ2.rd _ _<|gz (.there .here) _ _<|bU rfl
    have hYZ:=(Ext.packs Y4 [VR w5 44 7 (rows++[[sv c.name,.bool c.dfd,ca,cb,ce,cf,ci]]),pt b5 (cl [sv c.name,.bool c.dfd,ca,cb,ce,cf,ci] 44)]).trans hZ2
    refine aX ?_
    refine dV Z (vM Z)<|dV Z (ag Z Z)<|dV Z (ag Z Z)<|dV Z (vA Z)<|dV Z (vA Z)<|bA<|nK [5,16,17,20,21] Z<|nT<|cS<|cQ<|sM Z<|sV (bM Z Z)<|sK [5,16,17,20,103] Z<|cC Z (λhkz=>?_)<|λhkz=>?_
    ·refine cQ<|bL hw0 Z Z en11 Z (hsn Z2 hEZ) ?_
     rintro u h' ⟨V,k',rfl,hV,rfl,rfl⟩
     simp only [lC,lN]
     refine sA Z<|sK [6] Z<|cT<|xR ?_
     exact aj Z ⟨V,[],Z,(hEZ).trans hV,Z,Z⟩ sbq
    ·have hkz:kz=0:=by simpa using hkz
     obtain ⟨hf0,hxs⟩:=hol hkz
     have hzl:=hflz hkz
     have hdel:=G7 (v:=wz) (kf:=21) (cp := #[.pointer (some ⟨b5,0,none⟩)]) (g:=λf=>f.name == c.name) hzro (by omega) en21<|λR hR a _ us h=>DF h<|hR _ _ hb5
     refine cK<|xT<|cQ<|sM Z<|sV (bW Z Z)<|aH Z Z en20 Z (hdel) ?_
     rintro u h' ⟨rows5,hu5,hro5,rfl⟩
     simp only [lC,lN]
     refine sA Z<|sK [16,17,20] Z<|cQ ?_
     have hXZ2:=hEZ
     refine bL hw0 Z Z en11 Z (hsn Z2 hXZ2) ?_
     rintro u6 h' ⟨V,k',rfl,hV,rfl,rfl⟩
     simp only [lC,lN]
     subst hf0
     refine lM (r:=VR u 55 4 rows5) slq λhok5=>?_
     refine kI [VR u 55 4 rows5] V λV2 hV2 hsel5=>?_
     have hls5:Ls V2 u (zs.filter λx => !(x.name == c.name)):=Rws.ls (E:=55) (hro5.up<|hV.trans hV2) hok5 (hsel5 _ _ .here) (by
      have:=List.length_filter_le (λx => !(x.name == c.name)) zs
      show _ * 72≤reachBytes; omega)
     have heq5:=EE (hw14.up<|hYZ.trans<|hV.trans hV2) hls5
     rw [decide_eq_true (show xs=zs.filter λx => !(x.name == c.name) from hxs)] at heq5
     refine sM Z<|sG Z Z (vM Z)<|sG Z Z (dD Z Z)<|sV (vQ Z Z)<|sM Z<|sG Z Z (vM Z)<|sG Z Z (vM Z)<|bR Z Z Z Z en18 Z (heq5) ?_
     refine sV (vQ Z Z)<|sA Z<|sK [6] Z<|cT ?_
     exact aj Z ⟨V2,[],Z,(hXZ2.trans hV).trans hV2,Z,Z⟩ sbq
end
end Go.Fl
namespace Go.Fl
open Go Go.RowKit Go.ChangeShapes Go.WideShapes Go.Ck Go.Proofs Go.Proofs.Tryz Go.Proofs.YtknmacdbffgjgaaGreatDoor Go.Hr
section
variable {H:Type} {enc:TypeId×Value->H} {W:World}
theorem gd_u8 {n:Nat} {cs:List Value} (h:Gd enc prog W n 5 cs):∃ k:Nat,pkC cs k:=by
 obtain ⟨x,h,_⟩:=h
 cases n with
 | zero=>simp [DataW.trod] at h
 | succ n =>
  obtain ⟨q,rfl,_,hw⟩:=DataW.trod_int underlying5 h
  obtain ⟨h1,h2⟩:=wf_u8 hw
  obtain ⟨k,rfl⟩:=Int.eq_ofNat_of_zero_le h1
  exact ⟨k,Z,by omega⟩
theorem MJ {n:Nat} {v:Value} (h:Gd enc prog W n 37 [v]):∃ ps:List Nat,Row (old W) 1 pkC v ps:=by
 obtain ⟨ps,hr,_⟩:=AZ (X:=pkC) h underlying37 (by rw [cl5]; decide) λm us _ hg=>gd_u8 hg
 rw [cl5] at hr
 exact ⟨ps,hr⟩
end
end Go.Fl
