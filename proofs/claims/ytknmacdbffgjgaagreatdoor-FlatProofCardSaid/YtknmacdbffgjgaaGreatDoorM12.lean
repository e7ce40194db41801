/-
  Package flat: whether types,variables,expressions,groups,members,flat forms are equal. Conditions: what is read.
-/
import Derived.Test.YtknmacdbffgjgaaGreatDoorM11
import Derived.Test.YtknmacdbffgjgaaGreatDoorM9
set_option linter.unusedVariables false
set_option linter.unusedSimpArgs false
set_option maxRecDepth 100000
set_option maxHeartbeats 16000000
namespace Go.Fl
open Go Go.RowKit Go.Ck Go.Proofs Go.Proofs.Tryz Go.Proofs.YtknmacdbffgjgaaGreatDoor Fx Go.Hr
attribute [local irreducible] Go.Ck.Sub St Cd Xt Nx DrL LsW
theorem tu:EqS prog 69 2:=EqS.of underlying69 Zz Zz Zz rfl
section
variable {X:Res} {v v':Value}
theorem kV {α : Type} {az bz:List α} {i:Nat} {a b : α} (h1:az[i]? = some a) (h2:bz[i]? = some b) (h:a≠b):az≠bz:=λe=>by
 rw [e,h2] at h1; exact h (Option.some.inj h1).symm
theorem kW {α : Type} {az bz:List α} {i:Nat} (h:az.take i=bz.take i) {a b : α} (h1:az[i]? = some a) (h2:bz[i]? = some b) (hs:a=b):az.take (i+1)=bz.take (i+1):=by
 subst hs
 obtain ⟨g1,rfl⟩:=List.getElem?_eq_some_iff.1 h1
 obtain ⟨g2,g3⟩:=List.getElem?_eq_some_iff.1 h2
 rw [List.take_succ_eq_append_getElem g1,List.take_succ_eq_append_getElem g2,h,g3]
theorem N7 {x y:Sd} (h:(!([x.cls,x.name] == [y.cls,y.name]))=true):x≠y:=by
 rw [Kr] at h; intro e; subst e; simp at h
theorem N8 {x y:Sd} (h:(!([x.cls,x.name] == [y.cls,y.name]))=false):x=y:=by
 rw [Kr] at h; cases x; cases y; simp at h; simp [h]
theorem LG {az bz:List Kt} {kf:FuncId} (hE:Ck.Enters prog kf) (hv:Ls X v az) (hv':Ls X v' bz) (hF:∀ (a b:Kt) us us',a∈az->Enc.rep X us a->Enc.rep X us' b->Reads prog kf #[.agg us.toArray,.agg us'.toArray] [X] (.bool (decide (a=b)))):Reads prog 296 #[v,v',.func (.func kf) #[] #[]] [X] (.bool (decide (az=bz))):=by
 have hml:maxLen=9223372036854775807:=rfl
 obtain ⟨a,cap,rfl,hlc,hcm,hnone⟩:=hv.form
 obtain ⟨a',cap',rfl,hlc',hcm',hnone'⟩:=hv'.form
 refine aL (n:=32) func296 Z Z (len Z) λhr w0=>?_
 refine cQ<|sA Z<|sN<|nT<|cS<|cQ<|sM Z<|sV (aF Z underlying71)<|sM Z<|sV (aF Z underlying71)<|sV (bK Z Z)<|sK [0,1,2,6,14] Z<|cC Z (λhl=>?_)<|λhl=>?_
 ·have hl:¬ az.length=bz.length:=by
   have:¬ (az.length:Int)=bz.length:=Zt
   omega
  rw [show decide (az=bz)=false from decide_eq_false λe=>hl (by rw [e])]
  refine cQ<|sA Z<|sK [6] Z<|cT<|xR ?_
  exact aj Z ⟨Z,Z⟩ sbq
 ·have hl:az.length=bz.length:=by
   have:(az.length:Int)=bz.length:=Zt
   omega
  refine cK<|xT<|cS<|cQ<|sM Z<|sV (aF Z underlying71)<|sM Z<|sK [1,2,6,15,16,17] Z<|cB<|aW (σ := Nat) (λi=>[(1,.slice a' bz.length cap'),(2,.func (.func kf) #[] #[]),(15,.slice a az.length cap),(16,.int .i64 az.length),(17,.int .i64 (i:Nat))]) (λ_=>X::hr) (λi=>i≤az.length/\az.take i=bz.take i) (λi=>az.length - i) 0 ⟨Nat.zero_le _,Z⟩ ?_
  rintro i ⟨hi,hal⟩
  refine cQ<|sV (aN Z Z)<|sN<|nT<|cS<|cC Z (λhd=>?_)<|λhd=>?_
  ·have hlt:i<az.length:=Zx
   have hlt':i<bz.length:=by omega
   have hg:=Zy hlt
   have hg':=Zy hlt'
   have hmem:=List.getElem_mem hlt
   obtain ⟨b,o,cap2,us,e1,hus,hrd,ht⟩:=hv.at hg
   cases e1
   obtain ⟨b',o',cap2',us',e1,hus',hrd',ht'⟩:=hv'.at hg'
   cases e1
   generalize az[i]=x at hg hmem ht
   generalize bz[i]=y at hg' ht'
   have hone:=Enc.ones ht
   have hone':=Enc.ones ht'
   refine cK<|xT<|cS<|cB<|cQ<|sM Z<|sV (vI (k:=i) Z Z yt Z hlt Z)<|sV (af Z fD hus hrd) ?_
   refine ak zM λb8=>?_
   refine sA Z<|ai (hl:=by rw [hus]; rfl) Z Z nY hus hone ?_
   refine sK [1,2,7,8,15,16,17] Z<|cQ<|sM Z<|sM Z<|sV (vI (k:=i) Z Z yt Z hlt' Z)<|sV (af Z fD hus' hrd') ?_
   refine ak zM λb9=>?_
   refine ai (hl:=by rw [hus']; rfl) Z Z nY hus' hone' ?_
   refine sK [1,2,8,9,15,16,17] Z<|cQ<|sM Z<|sV (af Z fD hus ag) ?_
   refine sV (af Z fD hus' ag) ?_
   refine aX Z Z hE Z ((hF x y us us' hmem ht ht')) ?_
   refine sV (aZ Z)<|sK [1,2,15,16,17,30] Z<|cC Z (λhne=>?_)<|λhne=>?_
   ·have hne:x≠y:=Zv
    rw [show decide (az=bz)=false from decide_eq_false (kV hg hg' hne)]
    refine cQ<|sA Z<|sK [6] Z<|cT<|xW<|xR<|xR<|xW<|xR ?_
    exact aj Z ⟨Z,Z⟩ sbq
   ·have hne:x=y:=Zv
    refine cK<|xB<|xT<|cR<|sV (aI Z Z Z0)<|sM Z<|sN<|nK [1,2,15,16,17] Z<|ax ?_
    refine aM (i+1) ⟨hlt,kW hal hg hg' hne⟩<|Nat.sub_lt_sub_left hlt<|Nat.lt_succ_self i
  ·have hil:i=az.length:=by
    have:¬ i<az.length:=Zx
    omega
   rw [show decide (az=bz)=true from decide_eq_true (by
    have:=hal
    rw [hil,List.take_length,hl,List.take_length] at this
    exact this)]
   refine aC<|xE<|xE<|xY<|xT<|cQ<|sA Z<|sK [6] Z<|cT ?_
   exact aj Z ⟨Z,Z⟩ sbq
theorem CS {az bz:List Vr} {kf:FuncId} (hE:Ck.Enters prog kf) (hv:Ls X v az) (hv':Ls X v' bz) (hF:∀ (a b:Vr) us us',a∈az->Enc.rep X us a->Enc.rep X us' b->Reads prog kf #[.agg us.toArray,.agg us'.toArray] [X] (.bool (decide (a=b)))):Reads prog 215 #[v,v',.func (.func kf) #[] #[]] [X] (.bool (decide (az=bz))):=by
 have hml:maxLen=9223372036854775807:=rfl
 obtain ⟨a,cap,rfl,hlc,hcm,hnone⟩:=hv.form
 obtain ⟨a',cap',rfl,hlc',hcm',hnone'⟩:=hv'.form
 refine aL (n:=32) func215 Z Z (len Z) λhr w0=>?_
 refine cQ<|sA Z<|sN<|nT<|cS<|cQ<|sM Z<|sV (aF Z underlying70)<|sM Z<|sV (aF Z underlying70)<|sV (bK Z Z)<|sK [0,1,2,6,14] Z<|cC Z (λhl=>?_)<|λhl=>?_
 ·have hl:¬ az.length=bz.length:=by
   have:¬ (az.length:Int)=bz.length:=Zt
   omega
  rw [show decide (az=bz)=false from decide_eq_false λe=>hl (by rw [e])]
  refine cQ<|sA Z<|sK [6] Z<|cT<|xR ?_
  exact aj Z ⟨Z,Z⟩ sbq
 ·have hl:az.length=bz.length:=by
   have:(az.length:Int)=bz.length:=Zt
   omega
  refine cK<|xT<|cS<|cQ<|sM Z<|sV (aF Z underlying70)<|sM Z<|sK [1,2,6,15,16,17] Z<|cB<|aW (σ := Nat) (λi=>[(1,.slice a' bz.length cap'),(2,.func (.func kf) #[] #[]),(15,.slice a az.length cap),(16,.int .i64 az.length),(17,.int .i64 (i:Nat))]) (λ_=>X::hr) (λi=>i≤az.length/\az.take i=bz.take i) (λi=>az.length - i) 0 ⟨Nat.zero_le _,Z⟩ ?_
  rintro i ⟨hi,hal⟩
  refine cQ<|sV (aN Z Z)<|sN<|nT<|cS<|cC Z (λhd=>?_)<|λhd=>?_
  ·have hlt:i<az.length:=Zx
   have hlt':i<bz.length:=by omega
   have hg:=Zy hlt
   have hg':=Zy hlt'
   have hmem:=List.getElem_mem hlt
   obtain ⟨b,o,cap2,us,e1,hus,hrd,ht⟩:=hv.at hg
   cases e1
   obtain ⟨b',o',cap2',us',e1,hus',hrd',ht'⟩:=hv'.at hg'
   cases e1
   generalize az[i]=x at hg hmem ht
   generalize bz[i]=y at hg' ht'
   have hone:=Enc.ones ht
   have hone':=Enc.ones ht'
   refine cK<|xT<|cS<|cB<|cQ<|sM Z<|sV (vI (k:=i) Z Z zH Z hlt Z)<|sV (af Z vC hus hrd) ?_
   refine ak J6 λb8=>?_
   refine sA Z<|ai (hl:=by rw [hus]; rfl) Z Z Cj hus hone ?_
   refine sK [1,2,7,8,15,16,17] Z<|cQ<|sM Z<|sM Z<|sV (vI (k:=i) Z Z zH Z hlt' Z)<|sV (af Z vC hus' hrd') ?_
   refine ak J6 λb9=>?_
   refine ai (hl:=by rw [hus']; rfl) Z Z Cj hus' hone' ?_
   refine sK [1,2,8,9,15,16,17] Z<|cQ<|sM Z<|sV (af Z vC hus ag) ?_
   refine sV (af Z vC hus' ag) ?_
   refine aX Z Z hE Z ((hF x y us us' hmem ht ht')) ?_
   refine sV (aZ Z)<|sK [1,2,15,16,17,30] Z<|cC Z (λhne=>?_)<|λhne=>?_
   ·have hne:x≠y:=Zv
    rw [show decide (az=bz)=false from decide_eq_false (kV hg hg' hne)]
    refine cQ<|sA Z<|sK [6] Z<|cT<|xW<|xR<|xR<|xW<|xR ?_
    exact aj Z ⟨Z,Z⟩ sbq
   ·have hne:x=y:=Zv
    refine cK<|xB<|xT<|cR<|sV (aI Z Z Z0)<|sM Z<|sN<|nK [1,2,15,16,17] Z<|ax ?_
    refine aM (i+1) ⟨hlt,kW hal hg hg' hne⟩<|Nat.sub_lt_sub_left hlt<|Nat.lt_succ_self i
  ·have hil:i=az.length:=by
    have:¬ i<az.length:=Zx
    omega
   rw [show decide (az=bz)=true from decide_eq_true (by
    have:=hal
    rw [hil,List.take_length,hl,List.take_length] at this
    exact this)]
   refine aC<|xE<|xE<|xY<|xT<|cQ<|sA Z<|sK [6] Z<|cT ?_
   exact aj Z ⟨Z,Z⟩ sbq
theorem LH {az bz:List Ex} {kf:FuncId} (hE:Ck.Enters prog kf) (hv:Ls X v az) (hv':Ls X v' bz) (hF:∀ (a b:Ex) us us',a∈az->Enc.rep X us a->Enc.rep X us' b->Reads prog kf #[.agg us.toArray,.agg us'.toArray] [X] (.bool (decide (a=b)))):Reads prog 279 #[v,v',.func (.func kf) #[] #[]] [X] (.bool (decide (az=bz))):=by
 have hml:maxLen=9223372036854775807:=rfl
 obtain ⟨a,cap,rfl,hlc,hcm,hnone⟩:=hv.form
 obtain ⟨a',cap',rfl,hlc',hcm',hnone'⟩:=hv'.form
 refine aL (n:=32) func279 Z Z (len Z) λhr w0=>?_
 refine cQ<|sA Z<|sN<|nT<|cS<|cQ<|sM Z<|sV (aF Z underlying214)<|sM Z<|sV (aF Z underlying214)<|sV (bK Z Z)<|sK [0,1,2,6,14] Z<|cC Z (λhl=>?_)<|λhl=>?_
 ·have hl:¬ az.length=bz.length:=by
   have:¬ (az.length:Int)=bz.length:=Zt
   omega
  rw [show decide (az=bz)=false from decide_eq_false λe=>hl (by rw [e])]
  refine cQ<|sA Z<|sK [6] Z<|cT<|xR ?_
  exact aj Z ⟨Z,Z⟩ sbq
 ·have hl:az.length=bz.length:=by
   have:(az.length:Int)=bz.length:=Zt
   omega
  refine cK<|xT<|cS<|cQ<|sM Z<|sV (aF Z underlying214)<|sM Z<|sK [1,2,6,15,16,17] Z<|cB<|aW (σ := Nat) (λi=>[(1,.slice a' bz.length cap'),(2,.func (.func kf) #[] #[]),(15,.slice a az.length cap),(16,.int .i64 az.length),(17,.int .i64 (i:Nat))]) (λ_=>X::hr) (λi=>i≤az.length/\az.take i=bz.take i) (λi=>az.length - i) 0 ⟨Nat.zero_le _,Z⟩ ?_
  rintro i ⟨hi,hal⟩
  refine cQ<|sV (aN Z Z)<|sN<|nT<|cS<|cC Z (λhd=>?_)<|λhd=>?_
  ·have hlt:i<az.length:=Zx
   have hlt':i<bz.length:=by omega
   have hg:=Zy hlt
   have hg':=Zy hlt'
   have hmem:=List.getElem_mem hlt
   obtain ⟨b,o,cap2,us,e1,hus,hrd,ht⟩:=hv.at hg
   cases e1
   obtain ⟨b',o',cap2',us',e1,hus',hrd',ht'⟩:=hv'.at hg'
   cases e1
   generalize az[i]=x at hg hmem ht
   generalize bz[i]=y at hg' ht'
   have hone:=Enc.ones ht
   have hone':=Enc.ones ht'
   refine cK<|xT<|cS<|cB<|cQ<|sM Z<|sV (vI (k:=i) Z Z Co Z hlt Z)<|sV (af Z jY hus hrd) ?_
   refine ak J7 λb8=>?_
   refine sA Z<|ai (hl:=by rw [hus]; rfl) Z Z zG hus hone ?_
   refine sK [1,2,7,8,15,16,17] Z<|cQ<|sM Z<|sM Z<|sV (vI (k:=i) Z Z Co Z hlt' Z)<|sV (af Z jY hus' hrd') ?_
   refine ak J7 λb9=>?_
   refine ai (hl:=by rw [hus']; rfl) Z Z zG hus' hone' ?_
   refine sK [1,2,8,9,15,16,17] Z<|cQ<|sM Z<|sV (af Z jY hus ag) ?_
   refine sV (af Z jY hus' ag) ?_
   refine aX Z Z hE Z ((hF x y us us' hmem ht ht')) ?_
   refine sV (aZ Z)<|sK [1,2,15,16,17,30] Z<|cC Z (λhne=>?_)<|λhne=>?_
   ·have hne:x≠y:=Zv
    rw [show decide (az=bz)=false from decide_eq_false (kV hg hg' hne)]
    refine cQ<|sA Z<|sK [6] Z<|cT<|xW<|xR<|xR<|xW<|xR ?_
    exact aj Z ⟨Z,Z⟩ sbq
   ·have hne:x=y:=Zv
    refine cK<|xB<|xT<|cR<|sV (aI Z Z Z0)<|sM Z<|sN<|nK [1,2,15,16,17] Z<|ax ?_
    refine aM (i+1) ⟨hlt,kW hal hg hg' hne⟩<|Nat.sub_lt_sub_left hlt<|Nat.lt_succ_self i
  ·have hil:i=az.length:=by
    have:¬ i<az.length:=Zx
    omega
   rw [show decide (az=bz)=true from decide_eq_true (by
    have:=hal
    rw [hil,List.take_length,hl,List.take_length] at this
    exact this)]
   refine aC<|xE<|xE<|xY<|xT<|cQ<|sA Z<|sK [6] Z<|cT ?_
   exact aj Z ⟨Z,Z⟩ sbq
theorem LJ {az bz:List Cla} {kf:FuncId} (hE:Ck.Enters prog kf) (hv:Ls X v az) (hv':Ls X v' bz) (hF:∀ (a b:Cla) us us',a∈az->Enc.rep X us a->Enc.rep X us' b->Reads prog kf #[.agg us.toArray,.agg us'.toArray] [X] (.bool (decide (a=b)))):Reads prog 244 #[v,v',.func (.func kf) #[] #[]] [X] (.bool (decide (az=bz))):=by
 have hml:maxLen=9223372036854775807:=rfl
 obtain ⟨a,cap,rfl,hlc,hcm,hnone⟩:=hv.form
 obtain ⟨a',cap',rfl,hlc',hcm',hnone'⟩:=hv'.form
 refine aL (n:=32) func244 Z Z (len Z) λhr w0=>?_
 refine cQ<|sA Z<|sN<|nT<|cS<|cQ<|sM Z<|sV (aF Z underlying42)<|sM Z<|sV (aF Z underlying42)<|sV (bK Z Z)<|sK [0,1,2,6,14] Z<|cC Z (λhl=>?_)<|λhl=>?_
 ·have hl:¬ az.length=bz.length:=by
   have:¬ (az.length:Int)=bz.length:=Zt
   omega
  rw [show decide (az=bz)=false from decide_eq_false λe=>hl (by rw [e])]
  refine cQ<|sA Z<|sK [6] Z<|cT<|xR ?_
  exact aj Z ⟨Z,Z⟩ sbq
 ·have hl:az.length=bz.length:=by
   have:(az.length:Int)=bz.length:=Zt
   omega
  refine cK<|xT<|cS<|cQ<|sM Z<|sV (aF Z underlying42)<|sM Z<|sK [1,2,6,15,16,17] Z<|cB<|aW (σ := Nat) (λi=>[(1,.slice a' bz.length cap'),(2,.func (.func kf) #[] #[]),(15,.slice a az.length cap),(16,.int .i64 az.length),(17,.int .i64 (i:Nat))]) (λ_=>X::hr) (λi=>i≤az.length/\az.take i=bz.take i) (λi=>az.length - i) 0 ⟨Nat.zero_le _,Z⟩ ?_
  rintro i ⟨hi,hal⟩
  refine cQ<|sV (aN Z Z)<|sN<|nT<|cS<|cC Z (λhd=>?_)<|λhd=>?_
  ·have hlt:i<az.length:=Zx
   have hlt':i<bz.length:=by omega
   have hg:=Zy hlt
   have hg':=Zy hlt'
   have hmem:=List.getElem_mem hlt
   obtain ⟨b,o,cap2,us,e1,hus,hrd,ht⟩:=hv.at hg
   cases e1
   obtain ⟨b',o',cap2',us',e1,hus',hrd',ht'⟩:=hv'.at hg'
   cases e1
   generalize az[i]=x at hg hmem ht
   generalize bz[i]=y at hg' ht'
   have hone:=Enc.ones ht
   have hone':=Enc.ones ht'
   refine cK<|xT<|cS<|cB<|cQ<|sM Z<|sV (vI (k:=i) Z Z Fq Z hlt Z)<|sV (af Z xL hus hrd) ?_
   refine ak J8 λb8=>?_
   refine sA Z<|ai (hl:=by rw [hus]; rfl) Z Z Cn hus hone ?_
   refine sK [1,2,7,8,15,16,17] Z<|cQ<|sM Z<|sM Z<|sV (vI (k:=i) Z Z Fq Z hlt' Z)<|sV (af Z xL hus' hrd') ?_
   refine ak J8 λb9=>?_
   refine ai (hl:=by rw [hus']; rfl) Z Z Cn hus' hone' ?_
   refine sK [1,2,8,9,15,16,17] Z<|cQ<|sM Z<|sV (af Z xL hus ag) ?_
   refine sV (af Z xL hus' ag) ?_
   refine aX Z Z hE Z ((hF x y us us' hmem ht ht')) ?_
   refine sV (aZ Z)<|sK [1,2,15,16,17,30] Z<|cC Z (λhne=>?_)<|λhne=>?_
   ·have hne:x≠y:=Zv
    rw [show decide (az=bz)=false from decide_eq_false (kV hg hg' hne)]
    refine cQ<|sA Z<|sK [6] Z<|cT<|xW<|xR<|xR<|xW<|xR ?_
    exact aj Z ⟨Z,Z⟩ sbq
   ·have hne:x=y:=Zv
    refine cK<|xB<|xT<|cR<|sV (aI Z Z Z0)<|sM Z<|sN<|nK [1,2,15,16,17] Z<|ax ?_
    refine aM (i+1) ⟨hlt,kW hal hg hg' hne⟩<|Nat.sub_lt_sub_left hlt<|Nat.lt_succ_self i
  ·have hil:i=az.length:=by
    have:¬ i<az.length:=Zx
    omega
   rw [show decide (az=bz)=true from decide_eq_true (by
    have:=hal
    rw [hil,List.take_length,hl,List.take_length] at this
    exact this)]
   refine aC<|xE<|xE<|xY<|xT<|cQ<|sA Z<|sK [6] Z<|cT ?_
   exact aj Z ⟨Z,Z⟩ sbq
theorem wU {az bz:List Grp} {kf:FuncId} (hE:Ck.Enters prog kf) (hv:Ls X v az) (hv':Ls X v' bz) (hF:∀ (a b:Grp) us us',a∈az->Enc.rep X us a->Enc.rep X us' b->Reads prog kf #[.agg us.toArray,.agg us'.toArray] [X] (.bool (decide (a=b)))):Reads prog 181 #[v,v',.func (.func kf) #[] #[]] [X] (.bool (decide (az=bz))):=by
 have hml:maxLen=9223372036854775807:=rfl
 obtain ⟨a,cap,rfl,hlc,hcm,hnone⟩:=hv.form
 obtain ⟨a',cap',rfl,hlc',hcm',hnone'⟩:=hv'.form
 refine aL (n:=32) func181 Z Z (len Z) λhr w0=>?_
 refine cQ<|sA Z<|sN<|nT<|cS<|cQ<|sM Z<|sV (aF Z underlying53)<|sM Z<|sV (aF Z underlying53)<|sV (bK Z Z)<|sK [0,1,2,6,14] Z<|cC Z (λhl=>?_)<|λhl=>?_
 ·have hl:¬ az.length=bz.length:=by
   have:¬ (az.length:Int)=bz.length:=Zt
   omega
  rw [show decide (az=bz)=false from decide_eq_false λe=>hl (by rw [e])]
  refine cQ<|sA Z<|sK [6] Z<|cT<|xR ?_
  exact aj Z ⟨Z,Z⟩ sbq
 ·have hl:az.length=bz.length:=by
   have:(az.length:Int)=bz.length:=Zt
   omega
  refine cK<|xT<|cS<|cQ<|sM Z<|sV (aF Z underlying53)<|sM Z<|sK [1,2,6,15,16,17] Z<|cB<|aW (σ := Nat) (λi=>[(1,.slice a' bz.length cap'),(2,.func (.func kf) #[] #[]),(15,.slice a az.length cap),(16,.int .i64 az.length),(17,.int .i64 (i:Nat))]) (λ_=>X::hr) (λi=>i≤az.length/\az.take i=bz.take i) (λi=>az.length - i) 0 ⟨Nat.zero_le _,Z⟩ ?_
  rintro i ⟨hi,hal⟩
  refine cQ<|sV (aN Z Z)<|sN<|nT<|cS<|cC Z (λhd=>?_)<|λhd=>?_
  ·have hlt:i<az.length:=Zx
   have hlt':i<bz.length:=by omega
   have hg:=Zy hlt
   have hg':=Zy hlt'
   have hmem:=List.getElem_mem hlt
   obtain ⟨b,o,cap2,us,e1,hus,hrd,ht⟩:=hv.at hg
   cases e1
   obtain ⟨b',o',cap2',us',e1,hus',hrd',ht'⟩:=hv'.at hg'
   cases e1
   generalize az[i]=x at hg hmem ht
   generalize bz[i]=y at hg' ht'
   have hone:=Enc.ones ht
   have hone':=Enc.ones ht'
   refine cK<|xT<|cS<|cB<|cQ<|sM Z<|sV (vI (k:=i) Z Z Fs Z hlt Z)<|sV (af Z lQ hus hrd) ?_
   refine ak Fv λb8=>?_
   refine sA Z<|ai (hl:=by rw [hus]; rfl) Z Z zF hus hone ?_
   refine sK [1,2,7,8,15,16,17] Z<|cQ<|sM Z<|sM Z<|sV (vI (k:=i) Z Z Fs Z hlt' Z)<|sV (af Z lQ hus' hrd') ?_
   refine ak Fv λb9=>?_
   refine ai (hl:=by rw [hus']; rfl) Z Z zF hus' hone' ?_
   refine sK [1,2,8,9,15,16,17] Z<|cQ<|sM Z<|sV (af Z lQ hus ag) ?_
   refine sV (af Z lQ hus' ag) ?_
   refine aX Z Z hE Z ((hF x y us us' hmem ht ht')) ?_
   refine sV (aZ Z)<|sK [1,2,15,16,17,30] Z<|cC Z (λhne=>?_)<|λhne=>?_
   ·have hne:x≠y:=Zv
    rw [show decide (az=bz)=false from decide_eq_false (kV hg hg' hne)]
    refine cQ<|sA Z<|sK [6] Z<|cT<|xW<|xR<|xR<|xW<|xR ?_
    exact aj Z ⟨Z,Z⟩ sbq
   ·have hne:x=y:=Zv
    refine cK<|xB<|xT<|cR<|sV (aI Z Z Z0)<|sM Z<|sN<|nK [1,2,15,16,17] Z<|ax ?_
    refine aM (i+1) ⟨hlt,kW hal hg hg' hne⟩<|Nat.sub_lt_sub_left hlt<|Nat.lt_succ_self i
  ·have hil:i=az.length:=by
    have:¬ i<az.length:=Zx
    omega
   rw [show decide (az=bz)=true from decide_eq_true (by
    have:=hal
    rw [hil,List.take_length,hl,List.take_length] at this
    exact this)]
   refine aC<|xE<|xE<|xY<|xT<|cQ<|sA Z<|sK [6] Z<|cT ?_
   exact aj Z ⟨Z,Z⟩ sbq
theorem LK {az bz:List Mb} {kf:FuncId} (hE:Ck.Enters prog kf) (hv:Ls X v az) (hv':Ls X v' bz) (hF:∀ (a b:Mb) us us',a∈az->Enc.rep X us a->Enc.rep X us' b->Reads prog kf #[.agg us.toArray,.agg us'.toArray] [X] (.bool (decide (a=b)))):Reads prog 179 #[v,v',.func (.func kf) #[] #[]] [X] (.bool (decide (az=bz))):=by
 have hml:maxLen=9223372036854775807:=rfl
 obtain ⟨a,cap,rfl,hlc,hcm,hnone⟩:=hv.form
 obtain ⟨a',cap',rfl,hlc',hcm',hnone'⟩:=hv'.form
 refine aL (n:=32) func179 Z Z (len Z) λhr w0=>?_
 refine cQ<|sA Z<|sN<|nT<|cS<|cQ<|sM Z<|sV (aF Z underlying52)<|sM Z<|sV (aF Z underlying52)<|sV (bK Z Z)<|sK [0,1,2,6,14] Z<|cC Z (λhl=>?_)<|λhl=>?_
 ·have hl:¬ az.length=bz.length:=by
   have:¬ (az.length:Int)=bz.length:=Zt
   omega
  rw [show decide (az=bz)=false from decide_eq_false λe=>hl (by rw [e])]
  refine cQ<|sA Z<|sK [6] Z<|cT<|xR ?_
  exact aj Z ⟨Z,Z⟩ sbq
 ·have hl:az.length=bz.length:=by
   have:(az.length:Int)=bz.length:=Zt
   omega
  refine cK<|xT<|cS<|cQ<|sM Z<|sV (aF Z underlying52)<|sM Z<|sK [1,2,6,15,16,17] Z<|cB<|aW (σ := Nat) (λi=>[(1,.slice a' bz.length cap'),(2,.func (.func kf) #[] #[]),(15,.slice a az.length cap),(16,.int .i64 az.length),(17,.int .i64 (i:Nat))]) (λ_=>X::hr) (λi=>i≤az.length/\az.take i=bz.take i) (λi=>az.length - i) 0 ⟨Nat.zero_le _,Z⟩ ?_
  rintro i ⟨hi,hal⟩
  refine cQ<|sV (aN Z Z)<|sN<|nT<|cS<|cC Z (λhd=>?_)<|λhd=>?_
  ·have hlt:i<az.length:=Zx
   have hlt':i<bz.length:=by omega
   have hg:=Zy hlt
   have hg':=Zy hlt'
   have hmem:=List.getElem_mem hlt
   obtain ⟨b,o,cap2,us,e1,hus,hrd,ht⟩:=hv.at hg
   cases e1
   obtain ⟨b',o',cap2',us',e1,hus',hrd',ht'⟩:=hv'.at hg'
   cases e1
   generalize az[i]=x at hg hmem ht
   generalize bz[i]=y at hg' ht'
   have hone:=Enc.ones ht
   have hone':=Enc.ones ht'
   refine cK<|xT<|cS<|cB<|cQ<|sM Z<|sV (vI (k:=i) Z Z kQ Z hlt Z)<|sV (af Z dJ hus hrd) ?_
   refine ak iR λb8=>?_
   refine sA Z<|ai (hl:=by rw [hus]; rfl) Z Z gF hus hone ?_
   refine sK [1,2,7,8,15,16,17] Z<|cQ<|sM Z<|sM Z<|sV (vI (k:=i) Z Z kQ Z hlt' Z)<|sV (af Z dJ hus' hrd') ?_
   refine ak iR λb9=>?_
   refine ai (hl:=by rw [hus']; rfl) Z Z gF hus' hone' ?_
   refine sK [1,2,8,9,15,16,17] Z<|cQ<|sM Z<|sV (af Z dJ hus ag) ?_
   refine sV (af Z dJ hus' ag) ?_
   refine aX Z Z hE Z ((hF x y us us' hmem ht ht')) ?_
   refine sV (aZ Z)<|sK [1,2,15,16,17,30] Z<|cC Z (λhne=>?_)<|λhne=>?_
   ·have hne:x≠y:=Zv
    rw [show decide (az=bz)=false from decide_eq_false (kV hg hg' hne)]
    refine cQ<|sA Z<|sK [6] Z<|cT<|xW<|xR<|xR<|xW<|xR ?_
    exact aj Z ⟨Z,Z⟩ sbq
   ·have hne:x=y:=Zv
    refine cK<|xB<|xT<|cR<|sV (aI Z Z Z0)<|sM Z<|sN<|nK [1,2,15,16,17] Z<|ax ?_
    refine aM (i+1) ⟨hlt,kW hal hg hg' hne⟩<|Nat.sub_lt_sub_left hlt<|Nat.lt_succ_self i
  ·have hil:i=az.length:=by
    have:¬ i<az.length:=Zx
    omega
   rw [show decide (az=bz)=true from decide_eq_true (by
    have:=hal
    rw [hil,List.take_length,hl,List.take_length] at this
    exact this)]
   refine aC<|xE<|xE<|xY<|xT<|cQ<|sA Z<|sK [6] Z<|cT ?_
   exact aj Z ⟨Z,Z⟩ sbq
theorem LM {az bz:List Fl} {kf:FuncId} (hE:Ck.Enters prog kf) (hv:Ls X v az) (hv':Ls X v' bz) (hF:∀ (a b:Fl) us us',a∈az->Enc.rep X us a->Enc.rep X us' b->Reads prog kf #[.agg us.toArray,.agg us'.toArray] [X] (.bool (decide (a=b)))):Reads prog 105 #[v,v',.func (.func kf) #[] #[]] [X] (.bool (decide (az=bz))):=by
 have hml:maxLen=9223372036854775807:=rfl
 obtain ⟨a,cap,rfl,hlc,hcm,hnone⟩:=hv.form
 obtain ⟨a',cap',rfl,hlc',hcm',hnone'⟩:=hv'.form
 refine aL (n:=32) func105 Z Z (len Z) λhr w0=>?_
 refine cQ<|sA Z<|sN<|nT<|cS<|cQ<|sM Z<|sV (aF Z underlying32)<|sM Z<|sV (aF Z underlying32)<|sV (bK Z Z)<|sK [0,1,2,6,14] Z<|cC Z (λhl=>?_)<|λhl=>?_
 ·have hl:¬ az.length=bz.length:=by
   have:¬ (az.length:Int)=bz.length:=Zt
   omega
  rw [show decide (az=bz)=false from decide_eq_false λe=>hl (by rw [e])]
  refine cQ<|sA Z<|sK [6] Z<|cT<|xR ?_
  exact aj Z ⟨Z,Z⟩ sbq
 ·have hl:az.length=bz.length:=by
   have:(az.length:Int)=bz.length:=Zt
   omega
  refine cK<|xT<|cS<|cQ<|sM Z<|sV (aF Z underlying32)<|sM Z<|sK [1,2,6,15,16,17] Z<|cB<|aW (σ := Nat) (λi=>[(1,.slice a' bz.length cap'),(2,.func (.func kf) #[] #[]),(15,.slice a az.length cap),(16,.int .i64 az.length),(17,.int .i64 (i:Nat))]) (λ_=>X::hr) (λi=>i≤az.length/\az.take i=bz.take i) (λi=>az.length - i) 0 ⟨Nat.zero_le _,Z⟩ ?_
  rintro i ⟨hi,hal⟩
  refine cQ<|sV (aN Z Z)<|sN<|nT<|cS<|cC Z (λhd=>?_)<|λhd=>?_
  ·have hlt:i<az.length:=Zx
   have hlt':i<bz.length:=by omega
   have hg:=Zy hlt
   have hg':=Zy hlt'
   have hmem:=List.getElem_mem hlt
   obtain ⟨b,o,cap2,us,e1,hus,hrd,ht⟩:=hv.at hg
   cases e1
   obtain ⟨b',o',cap2',us',e1,hus',hrd',ht'⟩:=hv'.at hg'
   cases e1
   generalize az[i]=x at hg hmem ht
   generalize bz[i]=y at hg' ht'
   have hone:=Enc.ones ht
   have hone':=Enc.ones ht'
   refine cK<|xT<|cS<|cB<|cQ<|sM Z<|sV (vI (k:=i) Z Z sl32 Z hlt Z)<|sV (af Z tT hus hrd) ?_
   refine ak A9 λb8=>?_
   refine sA Z<|ai (hl:=by rw [hus]; rfl) Z Z wG hus hone ?_
   refine sK [1,2,7,8,15,16,17] Z<|cQ<|sM Z<|sM Z<|sV (vI (k:=i) Z Z sl32 Z hlt' Z)<|sV (af Z tT hus' hrd') ?_
   refine ak A9 λb9=>?_
   refine ai (hl:=by rw [hus']; rfl) Z Z wG hus' hone' ?_
   refine sK [1,2,8,9,15,16,17] Z<|cQ<|sM Z<|sV (af Z tT hus ag) ?_
   refine sV (af Z tT hus' ag) ?_
   refine aX Z Z hE Z ((hF x y us us' hmem ht ht')) ?_
   refine sV (aZ Z)<|sK [1,2,15,16,17,30] Z<|cC Z (λhne=>?_)<|λhne=>?_
   ·have hne:x≠y:=Zv
    rw [show decide (az=bz)=false from decide_eq_false (kV hg hg' hne)]
    refine cQ<|sA Z<|sK [6] Z<|cT<|xW<|xR<|xR<|xW<|xR ?_
    exact aj Z ⟨Z,Z⟩ sbq
   ·have hne:x=y:=Zv
    refine cK<|xB<|xT<|cR<|sV (aI Z Z Z0)<|sM Z<|sN<|nK [1,2,15,16,17] Z<|ax ?_
    refine aM (i+1) ⟨hlt,kW hal hg hg' hne⟩<|Nat.sub_lt_sub_left hlt<|Nat.lt_succ_self i
  ·have hil:i=az.length:=by
    have:¬ i<az.length:=Zx
    omega
   rw [show decide (az=bz)=true from decide_eq_true (by
    have:=hal
    rw [hil,List.take_length,hl,List.take_length] at this
    exact this)]
   refine aC<|xE<|xE<|xY<|xT<|cQ<|sA Z<|sK [6] Z<|cT ?_
   exact aj Z ⟨Z,Z⟩ sbq
theorem Af {az bz:List Sd} (hv:Ls X v az) (hv':Ls X v' bz):Reads prog 38 #[v,v'] [X] (.bool (decide (az=bz))):=by
 have hml:maxLen=9223372036854775807:=rfl
 obtain ⟨a,cap,rfl,hlc,hcm,hnone⟩:=hv.form
 obtain ⟨a',cap',rfl,hlc',hcm',hnone'⟩:=hv'.form
 refine aL (n:=26) func38 Z Z (len Z) λhr w0=>?_
 refine cQ<|sA Z<|sN<|nT<|cS<|cQ<|sM Z<|sV (aF Z underlying67)<|sM Z<|sV (aF Z underlying67)<|sV (bK Z Z)<|sK [0,1,4,10] Z<|cC Z (λhl=>?_)<|λhl=>?_
 ·have hl:¬ az.length=bz.length:=by
   have:¬ (az.length:Int)=bz.length:=Zt
   omega
  rw [show decide (az=bz)=false from decide_eq_false λe=>hl (by rw [e])]
  refine cQ<|sA Z<|sK [4] Z<|cT<|xR ?_
  exact aj Z ⟨Z,Z⟩ sbq
 ·have hl:az.length=bz.length:=by
   have:(az.length:Int)=bz.length:=Zt
   omega
  refine cK<|xT<|cS<|cQ<|sM Z<|sV (aF Z underlying67)<|sM Z<|sK [0,1,4,12,13] Z<|cB<|aW (σ := Nat) (λi=>[(0,.slice a az.length cap),(1,.slice a' bz.length cap'),(12,.int .i64 az.length),(13,.int .i64 (i:Nat))]) (λ_=>X::hr) (λi=>i≤az.length/\az.take i=bz.take i) (λi=>az.length - i) 0 ⟨Nat.zero_le _,Z⟩ ?_
  rintro i ⟨hi,hal⟩
  refine cQ<|sV (aN Z Z)<|sN<|nT<|cS<|cC Z (λhd=>?_)<|λhd=>?_
  ·have hlt:i<az.length:=Zx
   have hlt':i<bz.length:=by omega
   have hg:=Zy hlt
   have hg':=Zy hlt'
   obtain ⟨b,o,cap2,us,e1,hus,hrd,ht⟩:=hv.at hg
   cases e1
   obtain ⟨b',o',cap2',us',e1,hus',hrd',ht'⟩:=hv'.at hg'
   cases e1
   generalize az[i]=x at hg ht
   generalize bz[i]=y at hg' ht'
   have ht:us=[sv x.cls,sv x.name]:=ht
   have ht':us'=[sv y.cls,sv y.name]:=ht'
   subst ht ht'
   refine cK<|xT<|cS<|cB<|cQ<|sM Z<|sA Z<|sK [0,1,5,12,13] Z<|cS<|bB (ork [(0,2),(1,2),(2,2),(3,1),(4,2),(5,2),(6,2),(7,1),(8,1)] .nil) (λ_=>true) mixed Zz ?_
   refine dV Z (vM Z)<|dV Z (vM Z)<|dV Z (vI (k:=i) Z Z oh Z hlt Z)<|bi Z (af Z gM Z hrd) ?_
   refine dV Z (vM Z)<|dV Z (vM Z)<|dV Z (vI (k:=i) Z Z oh Z hlt' Z)<|bi Z (af Z gM Z hrd') ?_
   refine bi Z (wQ tu Z Z)<|bA<|nK [0,1,12,13,24] Z<|nT<|cC Z (λhne=>?_)<|λhne=>?_
   ·have hne:x≠y:=by exact N7 hne
    rw [show decide (az=bz)=false from decide_eq_false (kV hg hg' hne)]
    refine cQ<|sA Z<|sK [4] Z<|cT<|xW<|xR<|xR<|xW<|xR ?_
    exact aj Z ⟨Z,Z⟩ sbq
   ·have hne:x=y:=by exact N8 hne
    refine cK<|xB<|xT<|cR<|sV (aI Z Z Z0)<|sM Z<|sN<|nK [0,1,12,13] Z<|ax ?_
    refine aM (i+1) ⟨hlt,kW hal hg hg' hne⟩<|Nat.sub_lt_sub_left hlt<|Nat.lt_succ_self i
  ·have hil:i=az.length:=by
    have:¬ i<az.length:=Zx
    omega
   rw [show decide (az=bz)=true from decide_eq_true (by
    have:=hal
    rw [hil,List.take_length,hl,List.take_length] at this
    exact this)]
   refine aC<|xE<|xE<|xY<|xT<|cQ<|sA Z<|sK [4] Z<|cT ?_
   exact aj Z ⟨Z,Z⟩ sbq
theorem Gf {az bz:List Nm} (hv:Ls X v az) (hv':Ls X v' bz):Reads prog 243 #[v,v'] [X] (.bool (decide (az=bz))):=by
 have hml:maxLen=9223372036854775807:=rfl
 obtain ⟨a,cap,rfl,hlc,hcm,hnone⟩:=hv.form
 obtain ⟨a',cap',rfl,hlc',hcm',hnone'⟩:=hv'.form
 refine aL (n:=26) func243 Z Z (len Z) λhr w0=>?_
 refine cQ<|sA Z<|sN<|nT<|cS<|cQ<|sM Z<|sV (aF Z underlying40)<|sM Z<|sV (aF Z underlying40)<|sV (bK Z Z)<|sK [0,1,4,10] Z<|cC Z (λhl=>?_)<|λhl=>?_
 ·have hl:¬ az.length=bz.length:=by
   have:¬ (az.length:Int)=bz.length:=Zt
   omega
  rw [show decide (az=bz)=false from decide_eq_false λe=>hl (by rw [e])]
  refine cQ<|sA Z<|sK [4] Z<|cT<|xR ?_
  exact aj Z ⟨Z,Z⟩ sbq
 ·have hl:az.length=bz.length:=by
   have:(az.length:Int)=bz.length:=Zt
   omega
  refine cK<|xT<|cS<|cQ<|sM Z<|sV (aF Z underlying40)<|sM Z<|sK [0,1,4,12,13] Z<|cB<|aW (σ := Nat) (λi=>[(0,.slice a az.length cap),(1,.slice a' bz.length cap'),(12,.int .i64 az.length),(13,.int .i64 (i:Nat))]) (λ_=>X::hr) (λi=>i≤az.length/\az.take i=bz.take i) (λi=>az.length - i) 0 ⟨Nat.zero_le _,Z⟩ ?_
  rintro i ⟨hi,hal⟩
  refine cQ<|sV (aN Z Z)<|sN<|nT<|cS<|cC Z (λhd=>?_)<|λhd=>?_
  ·have hlt:i<az.length:=Zx
   have hlt':i<bz.length:=by omega
   have hg:=Zy hlt
   have hg':=Zy hlt'
   obtain ⟨b,o,cap2,us,e1,hus,hrd,ht⟩:=hv.at hg
   cases e1
   obtain ⟨b',o',cap2',us',e1,hus',hrd',ht'⟩:=hv'.at hg'
   cases e1
   generalize az[i]=x at hg ht
   generalize bz[i]=y at hg' ht'
   have ht:us=[sv x]:=ht
   have ht':us'=[sv y]:=ht'
   subst ht ht'
   have hrd:Rd X ⟨b,o+i * 1,none⟩ (sv x):=hrd 0<|by simp
   have hrd':Rd X ⟨b',o'+i * 1,none⟩ (sv y):=hrd' 0<|by simp
   refine cK<|xT<|cS<|cB<|cQ<|sM Z<|sA Z<|sK [0,1,5,12,13] Z<|cS<|bB (ork [(0,2),(1,2),(2,2),(3,1),(4,2),(5,2),(6,2),(7,1),(8,1)] .nil) (λ_=>true) mixed Zz ?_
   refine dV Z (vM Z)<|dV Z (vM Z)<|dV Z (vI (k:=i) Z Z iZ Z hlt Z)<|bi Z (vY Z ld9) ?_
   refine dV Z (vM Z)<|dV Z (vM Z)<|dV Z (vI (k:=i) Z Z iZ Z hlt' Z)<|bi Z (vY Z ld9) ?_
   refine bi Z (oV Z Z)<|bA<|nK [0,1,12,13,24] Z<|nT<|cC Z (λhne=>?_)<|λhne=>?_
   ·have hne:x≠y:=Zv
    rw [show decide (az=bz)=false from decide_eq_false (kV hg hg' hne)]
    refine cQ<|sA Z<|sK [4] Z<|cT<|xW<|xR<|xR<|xW<|xR ?_
    exact aj Z ⟨Z,Z⟩ sbq
   ·have hne:x=y:=Zv
    refine cK<|xB<|xT<|cR<|sV (aI Z Z Z0)<|sM Z<|sN<|nK [0,1,12,13] Z<|ax ?_
    refine aM (i+1) ⟨hlt,kW hal hg hg' hne⟩<|Nat.sub_lt_sub_left hlt<|Nat.lt_succ_self i
  ·have hil:i=az.length:=by
    have:¬ i<az.length:=Zx
    omega
   rw [show decide (az=bz)=true from decide_eq_true (by
    have:=hal
    rw [hil,List.take_length,hl,List.take_length] at this
    exact this)]
   refine aC<|xE<|xE<|xY<|xT<|cQ<|sA Z<|sK [4] Z<|cT ?_
   exact aj Z ⟨Z,Z⟩ sbq
end
section
variable {X:Res} {v v':Value} {us us':List Value}
theorem Ei {a:Vr} (h:Enc.rep X us a):∃ y,us=[sv a.name,.int .i64 a.ty.kind,sv a.ty.name,y,.bool a.ty.void,.bool a.ty.sep]/\Tys X y a.ty.args:=by
 obtain ⟨ts,rfl,ht⟩:=h
 obtain ⟨y,rfl,hy⟩:=ek ht
 exact ⟨y,Z,hy⟩
theorem Ej {a:Cla} (h:Enc.rep X us a):∃ y,us=[sv a.tag,.int .i64 a.ex.kind,sv a.ex.name,.int .i64 a.ex.num,y]/\Ls X y a.ex.kids:=by
 obtain ⟨ts,rfl,ht⟩:=h
 obtain ⟨y,rfl,hy⟩:=l8 ht
 exact ⟨y,Z,hy⟩
def fI (m:Mb) (x2 x5 y x11 x12 x13:Value):List Value:=[sv m.name,.int .i64 m.kind,x2,sv m.impl.cls,sv m.impl.name,x5,.int .i64 m.ty.kind,sv m.ty.name,y,.bool m.ty.void,.bool m.ty.sep,x11,x12,x13]
def mbL (X:Res) (m:Mb) (x2 x5 y x11 x12 x13:Value):Prop:=Ls X x2 m.seeds/\Ls X x5 m.args/\Tys X y m.ty.args/\Ls X x11 m.clients/\Ls X x12 m.pre/\Ls X x13 m.post
theorem bZ {m:Mb} (h:Enc.rep X us m):∃ x2 x5 y x11 x12 x13,us=fI m x2 x5 y x11 x12 x13/\mbL X m x2 x5 y x11 x12 x13:=by
 obtain ⟨x2,x5,ts,x11,x12,x13,rfl,h1,h2,h3,h4⟩:=h
 obtain ⟨y,rfl,hy⟩:=ek h3
 exact ⟨x2,x5,y,x11,x12,x13,Z,h1,h2,hy,h4⟩
theorem mV {m:Mb} {x2 x5 y x11 x12 x13:Value} (h:mbL X m x2 x5 y x11 x12 x13):Enc.rep X (fI m x2 x5 y x11 x12 x13) m:=by
 obtain ⟨h1,h2,h3,h4⟩:=h
 exact ⟨x2,x5,tyC m.ty y,x11,x12,x13,Z,h1,h2,fZ Z h3,h4⟩
theorem CU {s t:Kt}:decide (s=t)=((((s.kind == t.kind && s.name == t.name) && s.void == t.void) && s.sep == t.sep) && decide (s.args=t.args)):=by
 obtain ⟨k,n,az,w,p⟩:=s
 obtain ⟨k',n',az',w',p'⟩:=t
 rw [Bool.eq_iff_iff]
 simp only [Kt.kind,Kt.name,Kt.void,Kt.sep,Kt.args,Bool.and_eq_true,beq_iff_eq,decide_eq_true_eq,Kt.mk.injEq]
 constructor
 ·rintro ⟨h1,h2,h3,h4,h5⟩; exact ⟨⟨⟨⟨h1,h2⟩,h4⟩,h5⟩,decide_eq_true h3⟩
 ·rintro ⟨⟨⟨⟨h1,h2⟩,h4⟩,h5⟩,h3⟩; exact ⟨h1,h2,of_decide_eq_true h3,h4,h5⟩
theorem CV {s t:Ex}:decide (s=t)=(((s.kind == t.kind && s.name == t.name) && s.num == t.num) && decide (s.kids=t.kids)):=by
 obtain ⟨k,n,i,l⟩:=s
 obtain ⟨k',n',i',l'⟩:=t
 rw [Bool.eq_iff_iff]
 simp only [Ex.kind,Ex.name,Ex.num,Ex.kids,Bool.and_eq_true,beq_iff_eq,decide_eq_true_eq,Ex.mk.injEq]
 constructor
 ·rintro ⟨h1,h2,h3,h4⟩; exact ⟨⟨⟨h1,h2⟩,h3⟩,decide_eq_true h4⟩
 ·rintro ⟨⟨⟨h1,h2⟩,h3⟩,h4⟩; exact ⟨h1,h2,h3,of_decide_eq_true h4⟩
theorem LP {s t:Vr}:decide (s=t)=(s.name == t.name && decide (s.ty=t.ty)):=by
 cases s; cases t; rw [Bool.eq_iff_iff]; simp
theorem LQ {s t:Cla}:decide (s=t)=(s.tag == t.tag && decide (s.ex=t.ex)):=by
 cases s; cases t; rw [Bool.eq_iff_iff]; simp
theorem CW {s t:Grp}:decide (s=t)=(s.cls == t.cls && decide (s.cs=t.cs)):=by
 cases s; cases t; rw [Bool.eq_iff_iff]; simp
theorem su {s t:Sd}:decide (s=t)=([s.cls,s.name] == [t.cls,t.name]):=by
 cases s; cases t; rw [Bool.eq_iff_iff]; simp
theorem CX {s t:Fl}:decide (s=t)=(((s.name == t.name && s.dfd == t.dfd) && decide (s.mems=t.mems)) && decide (s.inv=t.inv)):=by
 cases s; cases t; rw [Bool.eq_iff_iff]; simp [and_assoc]
theorem LU {s t:Mb}:decide (s=t)=(((((((s.name == t.name && s.kind == t.kind) && ([s.impl.cls,s.impl.name] == [t.impl.cls,t.impl.name])) && decide (s.seeds=t.seeds)) && Sk.sameTy s t) && decide (s.clients=t.clients)) && decide (s.pre=t.pre)) && decide (s.post=t.post)):=by
 rw [<- su]
 obtain ⟨a1,a2,a3,a4,a5,a6,a7,a8,a9⟩:=s
 obtain ⟨b1,b2,b3,b4,b5,b6,b7,b8,b9⟩:=t
 rw [Bool.eq_iff_iff]
 simp only [Sk.sameTy,Bool.and_eq_true,beq_iff_eq,decide_eq_true_eq,Mb.mk.injEq]
 constructor
 ·rintro ⟨h1,h2,h3,h4,h5,h6,h7,h8,h9⟩; exact ⟨⟨⟨⟨⟨⟨⟨h1,h2⟩,h4⟩,h3⟩,h5,h6⟩,h7⟩,h8⟩,h9⟩
 ·rintro ⟨⟨⟨⟨⟨⟨⟨h1,h2⟩,h4⟩,h3⟩,h5,h6⟩,h7⟩,h8⟩,h9⟩; exact ⟨h1,h2,h3,h4,h5,h6,h7,h8,h9⟩
theorem Gg : ∀ (d : Nat) (s t : Kt) (us us' : List Value), s.depth ≤ d -> Ty X us s -> Ty X us' t -> Reads prog 267 #[.agg us.toArray, .agg us'.toArray] [X] (.bool (decide (s = t)))
 | 0,s,_,_,_,hd,_,_=>by cases s; simp [Kt.depth] at hd
 | d+1,s,t,us,us',hd,hs,ht=>by
  obtain ⟨x,rfl,hx⟩:=ek hs
  obtain ⟨y,rfl,hy⟩:=ek ht
  have hF:∀ (a b:Kt) us us',a∈s.args->Ty X us a->Ty X us' b->Reads prog 267 #[.agg us.toArray,.agg us'.toArray] [X] (.bool<|decide (a=b)):=λa b us us' ha h1 h2=>Gg d a b us us' (by have:=jM ha; omega) h1 h2
  rw [CU]
  unfold tyC
  refine aL (n:=38) func267 Z Z (len Z) λhr w0=>?_
  refine cQ (aP Z Z λb2=>?_)
  refine aP Z Z λb3=>?_
  refine sA Z<|sK [2,3,4] Z<|cQ<|sV (vF Z qY Z)<|sV (vY Z ld3) ?_
  refine sV (vF Z qY Z)<|sV (vY Z ld3) ?_
  refine sV (dE Z Z)<|sM Z<|bf (k:=12) (d:=16) (v:=.bool ((s.kind == t.kind) && s.name == t.name)) (λhcut=>aG (b:=(s.kind == t.kind)) true (λhg=>?_)<|λhg=>?_) ?_
  ·refine aB Z Z hg ?_
   iterate 4 refine aB rfl rfl hg ?_
   refine sV (vP (bO Z hg) Z) ?_
   exact hcut _ uG
  ·refine sG Z (bG Z hg) (vF Z zJ Z)<|sG Z (bG Z hg) (vY Z ld9) ?_
   refine sG Z (bG Z hg) (vF Z zJ Z)<|sG Z (bG Z hg) (vY Z ld9) ?_
   refine sG Z (bG Z hg) (gq Z Z)<|sV (vQ (bO Z hg) Z) ?_
   exact hcut _ uG
  refine sM Z<|bf (k:=19) (d:=23) (v:=.bool (((s.kind == t.kind) && s.name == t.name) && s.void == t.void)) (λhcut=>aG (b:=((s.kind == t.kind) && s.name == t.name)) true (λhg=>?_)<|λhg=>?_) ?_
  ·refine aB Z Z hg ?_
   iterate 4 refine aB rfl rfl hg ?_
   refine sV (vP (bO Z hg) Z) ?_
   exact hcut _ uG
  ·refine sG Z (bG Z hg) (vF Z o5 Z)<|sG Z (bG Z hg) (vY Z ld4) ?_
   refine sG Z (bG Z hg) (vF Z o5 Z)<|sG Z (bG Z hg) (vY Z ld4) ?_
   refine sG Z (bG Z hg) (lH underlying4 Z Z)<|sV (vQ (bO Z hg) Z) ?_
   exact hcut _ uG
  refine sM Z<|bf (k:=26) (d:=30) (v:=.bool ((((s.kind == t.kind) && s.name == t.name) && s.void == t.void) && s.sep == t.sep)) (λhcut=>aG (b:=(((s.kind == t.kind) && s.name == t.name) && s.void == t.void)) true (λhg=>?_)<|λhg=>?_) ?_
  ·refine aB Z Z hg ?_
   iterate 4 refine aB rfl rfl hg ?_
   refine sV (vP (bO Z hg) Z) ?_
   exact hcut _ uG
  ·refine sG Z (bG Z hg) (vF Z o6 Z)<|sG Z (bG Z hg) (vY Z ld4) ?_
   refine sG Z (bG Z hg) (vF Z o6 Z)<|sG Z (bG Z hg) (vY Z ld4) ?_
   refine sG Z (bG Z hg) (lH underlying4 Z Z)<|sV (vQ (bO Z hg) Z) ?_
   exact hcut _ uG
  refine sM Z<|bf (k:=33) (d:=37) (v:=.bool (((((s.kind == t.kind) && s.name == t.name) && s.void == t.void) && s.sep == t.sep) && decide (s.args=t.args))) (λhcut=>aG (b:=((((s.kind == t.kind) && s.name == t.name) && s.void == t.void) && s.sep == t.sep)) true (λhg=>?_)<|λhg=>?_) ?_
  ·refine aB Z Z hg ?_
   iterate 4 refine aB rfl rfl hg ?_
   refine sV (vP (bO Z hg) Z) ?_
   exact hcut _ uG
  ·refine sG Z (bG Z hg) (vF Z ja Z)<|sG Z (bG Z hg) (vY Z oZ) ?_
   refine sG Z (bG Z hg) (vF Z ja Z)<|sG Z (bG Z hg) (vY Z oZ) ?_
   refine bJ Z (bG Z hg) Z Z en296 Z (LG en267 hx hy hF) ?_
   refine sV (vQ (bO Z hg) Z) ?_
   exact hcut _ uG
  refine sA Z<|sK [4] Z<|cT ?_
  exact aj Z ⟨Z,Z⟩ sbq
theorem Gh {s t:Kt} (hs:Ty X us s) (ht:Ty X us' t):Reads prog 267 #[.agg us.toArray,.agg us'.toArray] [X] (.bool (decide (s=t))):=Gg s.depth s t us us' (Nat.le_refl _) hs ht
theorem Gi {s t:Vr} (hs:Enc.rep X us s) (ht:Enc.rep X us' t):Reads prog 216 #[.agg us.toArray,.agg us'.toArray] [X] (.bool (decide (s=t))):=by
 obtain ⟨x,rfl,hx⟩:=Ei hs
 obtain ⟨y,rfl,hy⟩:=Ei ht
 rw [LP]
 refine aL (n:=17) func216 Z Z (len Z) λhr w0=>?_
 refine cQ (aP Z Z λb2=>?_)
 refine aP Z Z λb3=>?_
 refine sA Z<|sK [2,3,4] Z<|cQ<|sV (vF Z yJ Z)<|sV (vY Z ld9) ?_
 refine sV (vF Z yJ Z)<|sV (vY Z ld9) ?_
 refine sV (gq Z Z)<|sM Z<|bf (k:=12) (d:=16) (v:=.bool ((s.name == t.name) && decide (s.ty=t.ty))) (λhcut=>aG (b:=(s.name == t.name)) true (λhg=>?_)<|λhg=>?_) ?_
 ·refine aB Z Z hg ?_
  iterate 4 refine aB rfl rfl hg ?_
  refine sV (vP (bO Z hg) Z) ?_
  exact hcut _ uG
 ·refine sG Z (bG Z hg) (vF Z jV Z)<|sG Z (bG Z hg) (af Z fD Z<|bD (us:=[sv s.name,.int .i64 s.ty.kind,sv s.ty.name,x,.bool s.ty.void,.bool s.ty.sep]) (vs:=tyC s.ty x) (k:=1) ag Z) ?_
  refine sG Z (bG Z hg) (vF Z jV Z)<|sG Z (bG Z hg) (af Z fD Z<|bD (us:=[sv t.name,.int .i64 t.ty.kind,sv t.ty.name,y,.bool t.ty.void,.bool t.ty.sep]) (vs:=tyC t.ty y) (k:=1) ag Z) ?_
  refine bJ Z (bG Z hg) Z Z en267 Z (Gh (fZ Z hx)<|fZ Z hy) ?_
  refine sV (vQ (bO Z hg) Z) ?_
  exact hcut _ uG
 refine sA Z<|sK [4] Z<|cT ?_
 exact aj Z ⟨Z,Z⟩ sbq
theorem Gj : ∀ (d : Nat) (s t : Ex) (us us' : List Value), s.depth ≤ d -> Enc.rep X us s -> Enc.rep X us' t -> Reads prog 246 #[.agg us.toArray, .agg us'.toArray] [X] (.bool (decide (s = t)))
 | 0,s,_,_,_,hd,_,_=>by cases s; simp [Ex.depth] at hd
 | d+1,s,t,us,us',hd,hs,ht=>by
  obtain ⟨x,rfl,hx⟩:=l8 hs
  obtain ⟨y,rfl,hy⟩:=l8 ht
  have hF:∀ (a b:Ex) us us',a∈s.kids->Enc.rep X us a->Enc.rep X us' b->Reads prog 246 #[.agg us.toArray,.agg us'.toArray] [X] (.bool<|decide (a=b)):=λa b us us' ha h1 h2=>Gj d a b us us' (by have:=pI ha; omega) h1 h2
  rw [CV]
  unfold exC
  refine aL (n:=31) func246 Z Z (len Z) λhr w0=>?_
  refine cQ (aP Z Z λb2=>?_)
  refine aP Z Z λb3=>?_
  refine sA Z<|sK [2,3,4] Z<|cQ<|sV (vF Z yN Z)<|sV (vY Z ld3) ?_
  refine sV (vF Z yN Z)<|sV (vY Z ld3) ?_
  refine sV (dE Z Z)<|sM Z<|bf (k:=12) (d:=16) (v:=.bool ((s.kind == t.kind) && s.name == t.name)) (λhcut=>aG (b:=(s.kind == t.kind)) true (λhg=>?_)<|λhg=>?_) ?_
  ·refine aB Z Z hg ?_
   iterate 4 refine aB rfl rfl hg ?_
   refine sV (vP (bO Z hg) Z) ?_
   exact hcut _ uG
  ·refine sG Z (bG Z hg) (vF Z yO Z)<|sG Z (bG Z hg) (vY Z ld9) ?_
   refine sG Z (bG Z hg) (vF Z yO Z)<|sG Z (bG Z hg) (vY Z ld9) ?_
   refine sG Z (bG Z hg) (gq Z Z)<|sV (vQ (bO Z hg) Z) ?_
   exact hcut _ uG
  refine sM Z<|bf (k:=19) (d:=23) (v:=.bool (((s.kind == t.kind) && s.name == t.name) && s.num == t.num)) (λhcut=>aG (b:=((s.kind == t.kind) && s.name == t.name)) true (λhg=>?_)<|λhg=>?_) ?_
  ·refine aB Z Z hg ?_
   iterate 4 refine aB rfl rfl hg ?_
   refine sV (vP (bO Z hg) Z) ?_
   exact hcut _ uG
  ·refine sG Z (bG Z hg) (vF Z yP Z)<|sG Z (bG Z hg) (vY Z ld3) ?_
   refine sG Z (bG Z hg) (vF Z yP Z)<|sG Z (bG Z hg) (vY Z ld3) ?_
   refine sG Z (bG Z hg) (dE Z Z)<|sV (vQ (bO Z hg) Z) ?_
   exact hcut _ uG
  refine sM Z<|bf (k:=26) (d:=30) (v:=.bool ((((s.kind == t.kind) && s.name == t.name) && s.num == t.num) && decide (s.kids=t.kids))) (λhcut=>aG (b:=(((s.kind == t.kind) && s.name == t.name) && s.num == t.num)) true (λhg=>?_)<|λhg=>?_) ?_
  ·refine aB Z Z hg ?_
   iterate 4 refine aB rfl rfl hg ?_
   refine sV (vP (bO Z hg) Z) ?_
   exact hcut _ uG
  ·refine sG Z (bG Z hg) (vF Z jA Z)<|sG Z (bG Z hg) (vY Z sU) ?_
   refine sG Z (bG Z hg) (vF Z jA Z)<|sG Z (bG Z hg) (vY Z sU) ?_
   refine bJ Z (bG Z hg) Z Z en279 Z (LH en246 hx hy hF) ?_
   refine sV (vQ (bO Z hg) Z) ?_
   exact hcut _ uG
  refine sA Z<|sK [4] Z<|cT ?_
  exact aj Z ⟨Z,Z⟩ sbq
theorem N9 {s t:Ex} (hs:Enc.rep X us s) (ht:Enc.rep X us' t):Reads prog 246 #[.agg us.toArray,.agg us'.toArray] [X] (.bool (decide (s=t))):=Gj s.depth s t us us' (Nat.le_refl _) hs ht
theorem Oa {s t:Cla} (hs:Enc.rep X us s) (ht:Enc.rep X us' t):Reads prog 245 #[.agg us.toArray,.agg us'.toArray] [X] (.bool (decide (s=t))):=by
 obtain ⟨x,rfl,hx⟩:=Ej hs
 obtain ⟨y,rfl,hy⟩:=Ej ht
 rw [LQ]
 refine aL (n:=17) func245 Z Z (len Z) λhr w0=>?_
 refine cQ (aP Z Z λb2=>?_)
 refine aP Z Z λb3=>?_
 refine sA Z<|sK [2,3,4] Z<|cQ<|sV (vF Z yQ Z)<|sV (vY Z ld9) ?_
 refine sV (vF Z yQ Z)<|sV (vY Z ld9) ?_
 refine sV (gq Z Z)<|sM Z<|bf (k:=12) (d:=16) (v:=.bool ((s.tag == t.tag) && decide (s.ex=t.ex))) (λhcut=>aG (b:=(s.tag == t.tag)) true (λhg=>?_)<|λhg=>?_) ?_
 ·refine aB Z Z hg ?_
  iterate 4 refine aB rfl rfl hg ?_
  refine sV (vP (bO Z hg) Z) ?_
  exact hcut _ uG
 ·refine sG Z (bG Z hg) (vF Z pE Z)<|sG Z (bG Z hg) (af Z jY Z<|bD (us:=[sv s.tag,.int .i64 s.ex.kind,sv s.ex.name,.int .i64 s.ex.num,x]) (vs:=exC s.ex x) (k:=1) ag Z) ?_
  refine sG Z (bG Z hg) (vF Z pE Z)<|sG Z (bG Z hg) (af Z jY Z<|bD (us:=[sv t.tag,.int .i64 t.ex.kind,sv t.ex.name,.int .i64 t.ex.num,y]) (vs:=exC t.ex y) (k:=1) ag Z) ?_
  refine bJ Z (bG Z hg) Z Z en246 Z (N9 (CP Z hx)<|CP Z hy) ?_
  refine sV (vQ (bO Z hg) Z) ?_
  exact hcut _ uG
 refine sA Z<|sK [4] Z<|cT ?_
 exact aj Z ⟨Z,Z⟩ sbq
theorem vV {s t:Grp} (hs:Enc.rep X us s) (ht:Enc.rep X us' t):Reads prog 182 #[.agg us.toArray,.agg us'.toArray] [X] (.bool (decide (s=t))):=by
 obtain ⟨x,rfl,hx⟩:=hs
 obtain ⟨y,rfl,hy⟩:=ht
 rw [CW]
 refine aL (n:=17) func182 Z Z (len Z) λhr w0=>?_
 refine cQ (aP Z Z λb2=>?_)
 refine aP Z Z λb3=>?_
 refine sA Z<|sK [2,3,4] Z<|cQ<|sV (vF Z yL Z)<|sV (vY Z ld9) ?_
 refine sV (vF Z yL Z)<|sV (vY Z ld9) ?_
 refine sV (gq Z Z)<|sM Z<|bf (k:=12) (d:=16) (v:=.bool ((s.cls == t.cls) && decide (s.cs=t.cs))) (λhcut=>aG (b:=(s.cls == t.cls)) true (λhg=>?_)<|λhg=>?_) ?_
 ·refine aB Z Z hg ?_
  iterate 4 refine aB rfl rfl hg ?_
  refine sV (vP (bO Z hg) Z) ?_
  exact hcut _ uG
 ·refine sG Z (bG Z hg) (vF Z rW Z)<|sG Z (bG Z hg) (vY Z tQ) ?_
  refine sG Z (bG Z hg) (vF Z rW Z)<|sG Z (bG Z hg) (vY Z tQ) ?_
  refine bJ Z (bG Z hg) Z Z en244 Z (LJ en245 hx hy λ_ _ _ _ _ h1 h2=>Oa h1 h2) ?_
  refine sV (vQ (bO Z hg) Z) ?_
  exact hcut _ uG
 refine sA Z<|sK [4] Z<|cT ?_
 exact aj Z ⟨Z,Z⟩ sbq
theorem sw {s t:Mb} (hs:Enc.rep X us s) (ht:Enc.rep X us' t):Reads prog 214 #[.agg us.toArray,.agg us'.toArray] [X] (.bool (Sk.sameTy s t)):=by
 obtain ⟨x2,x5,xy,x11,x12,x13,rfl,hx2,hx5,hxy,hx11,hx12,hx13⟩:=bZ hs
 obtain ⟨y2,y5,yy,y11,y12,y13,rfl,hy2,hy5,hyy,hy11,hy12,hy13⟩:=bZ ht
 unfold Sk.sameTy fI
 refine aL (n:=17) func214 Z Z (len Z) λhr w0=>?_
 refine cQ (aP Z Z λb2=>?_)
 refine aP Z Z λb3=>?_
 refine sA Z<|sK [2,3,4] Z<|cQ<|sV (vF Z jL Z)<|sV (vY Z qU) ?_
 refine sV (vF Z jL Z)<|sV (vY Z qU) ?_
 refine aX Z Z en215 Z (CS en216 hx5 hy5 λ_ _ _ _ _ h1 h2=>Gi h1 h2) ?_
 refine sM Z<|bf (k:=12) (d:=16) (v:=.bool ((decide (s.args=t.args)) && decide (s.ty=t.ty))) (λhcut=>aG (b:=(decide (s.args=t.args))) true (λhg=>?_)<|λhg=>?_) ?_
 ·refine aB Z Z hg ?_
  iterate 4 refine aB rfl rfl hg ?_
  refine sV (vP (bO Z hg) Z) ?_
  exact hcut _ uG
 ·refine sG Z (bG Z hg) (vF Z nD Z)<|sG Z (bG Z hg) (af Z fD Z<|bD (us:=fI s x2 x5 xy x11 x12 x13) (vs:=tyC s.ty xy) (k:=6) ag Z) ?_
  refine sG Z (bG Z hg) (vF Z nD Z)<|sG Z (bG Z hg) (af Z fD Z<|bD (us:=fI t y2 y5 yy y11 y12 y13) (vs:=tyC t.ty yy) (k:=6) ag Z) ?_
  refine bJ Z (bG Z hg) Z Z en267 Z (Gh (fZ Z hxy)<|fZ Z hyy) ?_
  refine sV (vQ (bO Z hg) Z) ?_
  exact hcut _ uG
 refine sA Z<|sK [4] Z<|cT ?_
 exact aj Z ⟨Z,Z⟩ sbq
theorem same_ct {s t:Mb} (hs:Enc.rep X us s) (ht:Enc.rep X us' t):Reads prog 218 #[.agg us.toArray,.agg us'.toArray] [X] (.bool (Sk.same s t)):=by
 obtain ⟨x2,x5,xy,x11,x12,x13,rfl,hx2,hx5,hxy,hx11,hx12,hx13⟩:=bZ hs
 obtain ⟨y2,y5,yy,y11,y12,y13,rfl,hy2,hy5,hyy,hy11,hy12,hy13⟩:=bZ ht
 have hst:=sw (mV ⟨hx2,hx5,hxy,hx11,hx12,hx13⟩)<|mV ⟨hy2,hy5,hyy,hy11,hy12,hy13⟩
 unfold Sk.same
 rw [su]
 unfold fI at *
 refine aL (n:=22) func218 Z Z (len Z) λhr w0=>?_
 refine cQ (aP Z Z λb2=>?_)
 refine aP Z Z λb3=>?_
 refine sA Z<|sK [2,3,4] Z<|cQ<|sV (vF Z qZ Z)<|sV (af Z gM Z<|bD (us:=fI s x2 x5 xy x11 x12 x13) (vs:=[sv s.impl.cls,sv s.impl.name]) (k:=3) ag Z) ?_
 refine sV (vF Z qZ Z)<|sV (af Z gM Z<|bD (us:=fI t y2 y5 yy y11 y12 y13) (vs:=[sv t.impl.cls,sv t.impl.name]) (k:=3) ag Z) ?_
 refine sV (iH tu Z Z)<|sM Z<|bf (k:=12) (d:=16) (v:=.bool (([s.impl.cls,s.impl.name] == [t.impl.cls,t.impl.name]) && decide (s.seeds=t.seeds))) (λhcut=>aG (b:=([s.impl.cls,s.impl.name] == [t.impl.cls,t.impl.name])) true (λhg=>?_)<|λhg=>?_) ?_
 ·refine aB Z Z hg ?_
  iterate 4 refine aB rfl rfl hg ?_
  refine sV (vP (bO Z hg) Z) ?_
  exact hcut _ uG
 ·refine sG Z (bG Z hg) (vF Z dP Z)<|sG Z (bG Z hg) (vY Z nz) ?_
  refine sG Z (bG Z hg) (vF Z dP Z)<|sG Z (bG Z hg) (vY Z nz) ?_
  refine bJ Z (bG Z hg) Z Z en38 Z (Af hx2 hy2) ?_
  refine sV (vQ (bO Z hg) Z) ?_
  exact hcut _ uG
 refine sM Z<|bf (k:=17) (d:=21) (v:=.bool ((([s.impl.cls,s.impl.name] == [t.impl.cls,t.impl.name]) && decide (s.seeds=t.seeds)) && Sk.sameTy s t)) (λhcut=>aG (b:=(([s.impl.cls,s.impl.name] == [t.impl.cls,t.impl.name]) && decide (s.seeds=t.seeds))) true (λhg=>?_)<|λhg=>?_) ?_
 ·refine aB Z Z hg ?_
  iterate 2 refine aB rfl rfl hg ?_
  refine sV (vP (bO Z hg) Z) ?_
  exact hcut _ uG
 ·refine sG Z (bG Z hg) (af Z dJ Z ag) ?_
  refine sG Z (bG Z hg) (af Z dJ Z ag) ?_
  refine bJ Z (bG Z hg) Z Z FD Z (hst) ?_
  refine sV (vQ (bO Z hg) Z) ?_
  exact hcut _ uG
 refine sA Z<|sK [4] Z<|cT ?_
 exact aj Z ⟨Z,Z⟩ sbq
theorem Ob {s t:Mb} (hs:Enc.rep X us s) (ht:Enc.rep X us' t):Reads prog 180 #[.agg us.toArray,.agg us'.toArray] [X] (.bool (decide (s=t))):=by
 obtain ⟨x2,x5,xy,x11,x12,x13,rfl,hx2,hx5,hxy,hx11,hx12,hx13⟩:=bZ hs
 obtain ⟨y2,y5,yy,y11,y12,y13,rfl,hy2,hy5,hyy,hy11,hy12,hy13⟩:=bZ ht
 have hst:=sw (mV ⟨hx2,hx5,hxy,hx11,hx12,hx13⟩)<|mV ⟨hy2,hy5,hyy,hy11,hy12,hy13⟩
 rw [LU]
 unfold fI at *
 refine aL (n:=57) func180 Z Z (len Z) λhr w0=>?_
 refine cQ (aP Z Z λb2=>?_)
 refine aP Z Z λb3=>?_
 refine sA Z<|sK [2,3,4] Z<|cQ<|sV (vF Z dC Z)<|sV (vY Z ld9) ?_
 refine sV (vF Z dC Z)<|sV (vY Z ld9) ?_
 refine sV (gq Z Z)<|sM Z<|bf (k:=12) (d:=16) (v:=.bool ((s.name == t.name) && s.kind == t.kind)) (λhcut=>aG (b:=(s.name == t.name)) true (λhg=>?_)<|λhg=>?_) ?_
 ·refine aB Z Z hg ?_
  iterate 4 refine aB rfl rfl hg ?_
  refine sV (vP (bO Z hg) Z) ?_
  exact hcut _ uG
 ·refine sG Z (bG Z hg) (vF Z o7 Z)<|sG Z (bG Z hg) (vY Z ld3) ?_
  refine sG Z (bG Z hg) (vF Z o7 Z)<|sG Z (bG Z hg) (vY Z ld3) ?_
  refine sG Z (bG Z hg) (dE Z Z)<|sV (vQ (bO Z hg) Z) ?_
  exact hcut _ uG
 refine sM Z<|bf (k:=19) (d:=23) (v:=.bool (((s.name == t.name) && s.kind == t.kind) && ([s.impl.cls,s.impl.name] == [t.impl.cls,t.impl.name]))) (λhcut=>aG (b:=((s.name == t.name) && s.kind == t.kind)) true (λhg=>?_)<|λhg=>?_) ?_
 ·refine aB Z Z hg ?_
  iterate 4 refine aB rfl rfl hg ?_
  refine sV (vP (bO Z hg) Z) ?_
  exact hcut _ uG
 ·refine sG Z (bG Z hg) (vF Z qZ Z)<|sG Z (bG Z hg) (af Z gM Z<|bD (us:=fI s x2 x5 xy x11 x12 x13) (vs:=[sv s.impl.cls,sv s.impl.name]) (k:=3) ag Z) ?_
  refine sG Z (bG Z hg) (vF Z qZ Z)<|sG Z (bG Z hg) (af Z gM Z<|bD (us:=fI t y2 y5 yy y11 y12 y13) (vs:=[sv t.impl.cls,sv t.impl.name]) (k:=3) ag Z) ?_
  refine sG Z (bG Z hg) (iH tu Z Z)<|sV (vQ (bO Z hg) Z) ?_
  exact hcut _ uG
 refine sM Z<|bf (k:=26) (d:=30) (v:=.bool ((((s.name == t.name) && s.kind == t.kind) && ([s.impl.cls,s.impl.name] == [t.impl.cls,t.impl.name])) && decide (s.seeds=t.seeds))) (λhcut=>aG (b:=(((s.name == t.name) && s.kind == t.kind) && ([s.impl.cls,s.impl.name] == [t.impl.cls,t.impl.name]))) true (λhg=>?_)<|λhg=>?_) ?_
 ·refine aB Z Z hg ?_
  iterate 4 refine aB rfl rfl hg ?_
  refine sV (vP (bO Z hg) Z) ?_
  exact hcut _ uG
 ·refine sG Z (bG Z hg) (vF Z dP Z)<|sG Z (bG Z hg) (vY Z nz) ?_
  refine sG Z (bG Z hg) (vF Z dP Z)<|sG Z (bG Z hg) (vY Z nz) ?_
  refine bJ Z (bG Z hg) Z Z en38 Z (Af hx2 hy2) ?_
  refine sV (vQ (bO Z hg) Z) ?_
  exact hcut _ uG
 refine sM Z<|bf (k:=31) (d:=35) (v:=.bool (((((s.name == t.name) && s.kind == t.kind) && ([s.impl.cls,s.impl.name] == [t.impl.cls,t.impl.name])) && decide (s.seeds=t.seeds)) && Sk.sameTy s t)) (λhcut=>aG (b:=((((s.name == t.name) && s.kind == t.kind) && ([s.impl.cls,s.impl.name] == [t.impl.cls,t.impl.name])) && decide (s.seeds=t.seeds))) true (λhg=>?_)<|λhg=>?_) ?_
 ·refine aB Z Z hg ?_
  iterate 2 refine aB rfl rfl hg ?_
  refine sV (vP (bO Z hg) Z) ?_
  exact hcut _ uG
 ·refine sG Z (bG Z hg) (af Z dJ Z ag) ?_
  refine sG Z (bG Z hg) (af Z dJ Z ag) ?_
  refine bJ Z (bG Z hg) Z Z FD Z (hst) ?_
  refine sV (vQ (bO Z hg) Z) ?_
  exact hcut _ uG
 refine sM Z<|bf (k:=38) (d:=42) (v:=.bool ((((((s.name == t.name) && s.kind == t.kind) && ([s.impl.cls,s.impl.name] == [t.impl.cls,t.impl.name])) && decide (s.seeds=t.seeds)) && Sk.sameTy s t) && decide (s.clients=t.clients))) (λhcut=>aG (b:=(((((s.name == t.name) && s.kind == t.kind) && ([s.impl.cls,s.impl.name] == [t.impl.cls,t.impl.name])) && decide (s.seeds=t.seeds)) && Sk.sameTy s t)) true (λhg=>?_)<|λhg=>?_) ?_
 ·refine aB Z Z hg ?_
  iterate 4 refine aB rfl rfl hg ?_
  refine sV (vP (bO Z hg) Z) ?_
  exact hcut _ uG
 ·refine sG Z (bG Z hg) (vF Z wL Z)<|sG Z (bG Z hg) (vY Z fq) ?_
  refine sG Z (bG Z hg) (vF Z wL Z)<|sG Z (bG Z hg) (vY Z fq) ?_
  refine bJ Z (bG Z hg) Z Z en243 Z (Gf hx11 hy11) ?_
  refine sV (vQ (bO Z hg) Z) ?_
  exact hcut _ uG
 refine sM Z<|bf (k:=45) (d:=49) (v:=.bool (((((((s.name == t.name) && s.kind == t.kind) && ([s.impl.cls,s.impl.name] == [t.impl.cls,t.impl.name])) && decide (s.seeds=t.seeds)) && Sk.sameTy s t) && decide (s.clients=t.clients)) && decide (s.pre=t.pre))) (λhcut=>aG (b:=((((((s.name == t.name) && s.kind == t.kind) && ([s.impl.cls,s.impl.name] == [t.impl.cls,t.impl.name])) && decide (s.seeds=t.seeds)) && Sk.sameTy s t) && decide (s.clients=t.clients))) true (λhg=>?_)<|λhg=>?_) ?_
 ·refine aB Z Z hg ?_
  iterate 4 refine aB rfl rfl hg ?_
  refine sV (vP (bO Z hg) Z) ?_
  exact hcut _ uG
 ·refine sG Z (bG Z hg) (vF Z ig Z)<|sG Z (bG Z hg) (vY Z lL) ?_
  refine sG Z (bG Z hg) (vF Z ig Z)<|sG Z (bG Z hg) (vY Z lL) ?_
  refine bJ Z (bG Z hg) Z Z en181 Z (wU Kg hx12 hy12 λ_ _ _ _ _ h1 h2=>vV h1 h2) ?_
  refine sV (vQ (bO Z hg) Z) ?_
  exact hcut _ uG
 refine sM Z<|bf (k:=52) (d:=56) (v:=.bool ((((((((s.name == t.name) && s.kind == t.kind) && ([s.impl.cls,s.impl.name] == [t.impl.cls,t.impl.name])) && decide (s.seeds=t.seeds)) && Sk.sameTy s t) && decide (s.clients=t.clients)) && decide (s.pre=t.pre)) && decide (s.post=t.post))) (λhcut=>aG (b:=(((((((s.name == t.name) && s.kind == t.kind) && ([s.impl.cls,s.impl.name] == [t.impl.cls,t.impl.name])) && decide (s.seeds=t.seeds)) && Sk.sameTy s t) && decide (s.clients=t.clients)) && decide (s.pre=t.pre))) true (λhg=>?_)<|λhg=>?_) ?_
 ·refine aB Z Z hg ?_
  iterate 4 refine aB rfl rfl hg ?_
  refine sV (vP (bO Z hg) Z) ?_
  exact hcut _ uG
 ·refine sG Z (bG Z hg) (vF Z ik Z)<|sG Z (bG Z hg) (vY Z lL) ?_
  refine sG Z (bG Z hg) (vF Z ik Z)<|sG Z (bG Z hg) (vY Z lL) ?_
  refine bJ Z (bG Z hg) Z Z en181 Z (wU Kg hx13 hy13 λ_ _ _ _ _ h1 h2=>vV h1 h2) ?_
  refine sV (vQ (bO Z hg) Z) ?_
  exact hcut _ uG
 refine sA Z<|sK [4] Z<|cT ?_
 exact aj Z ⟨Z,Z⟩ sbq
theorem Oc {s t:Fl} (hs:Enc.rep X us s) (ht:Enc.rep X us' t):Reads prog 106 #[.agg us.toArray,.agg us'.toArray] [X] (.bool (decide (s=t))):=by
 obtain ⟨x,x',rfl,hx,hx'⟩:=hs
 obtain ⟨y,y',rfl,hy,hy'⟩:=ht
 rw [CX]
 refine aL (n:=31) func106 Z Z (len Z) λhr w0=>?_
 refine cQ (aP Z Z λb2=>?_)
 refine aP Z Z λb3=>?_
 refine sA Z<|sK [2,3,4] Z<|cQ<|sV (vF Z wH Z)<|sV (vY Z ld9) ?_
 refine sV (vF Z wH Z)<|sV (vY Z ld9) ?_
 refine sV (gq Z Z)<|sM Z<|bf (k:=12) (d:=16) (v:=.bool ((s.name == t.name) && s.dfd == t.dfd)) (λhcut=>aG (b:=(s.name == t.name)) true (λhg=>?_)<|λhg=>?_) ?_
 ·refine aB Z Z hg ?_
  iterate 4 refine aB rfl rfl hg ?_
  refine sV (vP (bO Z hg) Z) ?_
  exact hcut _ uG
 ·refine sG Z (bG Z hg) (vF Z DU Z)<|sG Z (bG Z hg) (vY Z ld4) ?_
  refine sG Z (bG Z hg) (vF Z DU Z)<|sG Z (bG Z hg) (vY Z ld4) ?_
  refine sG Z (bG Z hg) (lH underlying4 Z Z)<|sV (vQ (bO Z hg) Z) ?_
  exact hcut _ uG
 refine sM Z<|bf (k:=19) (d:=23) (v:=.bool (((s.name == t.name) && s.dfd == t.dfd) && decide (s.mems=t.mems))) (λhcut=>aG (b:=((s.name == t.name) && s.dfd == t.dfd)) true (λhg=>?_)<|λhg=>?_) ?_
 ·refine aB Z Z hg ?_
  iterate 4 refine aB rfl rfl hg ?_
  refine sV (vP (bO Z hg) Z) ?_
  exact hcut _ uG
 ·refine sG Z (bG Z hg) (vF Z iO Z)<|sG Z (bG Z hg) (vY Z lK) ?_
  refine sG Z (bG Z hg) (vF Z iO Z)<|sG Z (bG Z hg) (vY Z lK) ?_
  refine bJ Z (bG Z hg) Z Z en179 Z (LK en180 hx hy λ_ _ _ _ _ h1 h2=>Ob h1 h2) ?_
  refine sV (vQ (bO Z hg) Z) ?_
  exact hcut _ uG
 refine sM Z<|bf (k:=26) (d:=30) (v:=.bool ((((s.name == t.name) && s.dfd == t.dfd) && decide (s.mems=t.mems)) && decide (s.inv=t.inv))) (λhcut=>aG (b:=(((s.name == t.name) && s.dfd == t.dfd) && decide (s.mems=t.mems))) true (λhg=>?_)<|λhg=>?_) ?_
 ·refine aB Z Z hg ?_
  iterate 4 refine aB rfl rfl hg ?_
  refine sV (vP (bO Z hg) Z) ?_
  exact hcut _ uG
 ·refine sG Z (bG Z hg) (vF Z qX Z)<|sG Z (bG Z hg) (vY Z lL) ?_
  refine sG Z (bG Z hg) (vF Z qX Z)<|sG Z (bG Z hg) (vY Z lL) ?_
  refine bJ Z (bG Z hg) Z Z en181 Z (wU Kg hx' hy' λ_ _ _ _ _ h1 h2=>vV h1 h2) ?_
  refine sV (vQ (bO Z hg) Z) ?_
  exact hcut _ uG
 refine sA Z<|sK [4] Z<|cT ?_
 exact aj Z ⟨Z,Z⟩ sbq
theorem eqFl_ct {xs ys:List Fl} (hv:Ls X v xs) (hv':Ls X v' ys):Reads prog 105 #[v,v',.func (.func 106) #[] #[]] [X] (.bool (decide (xs=ys))):=LM en106 hv hv' λ_ _ _ _ _ h1 h2=>Oc h1 h2
end
end Go.Fl
