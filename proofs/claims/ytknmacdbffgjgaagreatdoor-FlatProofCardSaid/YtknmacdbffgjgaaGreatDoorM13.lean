/-
  Package flat: formals replaced,parts,over; seeds contained,their order. Conditions: what is read.
-/
import Derived.Test.YtknmacdbffgjgaaGreatDoorM12
import Derived.Test.YtknmacdbffgjgaaGreatDoorM11
set_option linter.unusedVariables false
set_option linter.unusedSimpArgs false
set_option maxRecDepth 100000
set_option maxHeartbeats 16000000
namespace Go.Fl
open Go Go.RowKit Go.Ck Go.Proofs Go.Proofs.Tryz Go.Proofs.YtknmacdbffgjgaaGreatDoor Fx Go.Hr
attribute [local irreducible] Go.Ck.Sub St Cd Xt Nx DrL LsW
def Cpy (α : Type) [Enc α] (K:FuncId):Prop:=∀ (X:Res) (a : α) (us:List Value),Enc.rep X us a->CtN prog K #[.agg us.toArray] [X] λu T=>∃ us':List Value,u = .agg us'.toArray/\Enc.rep T us' a

theorem len2 {l:List Value} (h:l.length=2):∃ c0 c1,l=[c0,c1]:=by
 match l,h with
 | [c0,c1],_=>exact ⟨c0,c1,rfl⟩
theorem len4 {l:List Value} (h:l.length=4):∃ c0 c1 c2 c3,l=[c0,c1,c2,c3]:=by
 match l,h with
 | [c0,c1,c2,c3],_=>exact ⟨c0,c1,c2,c3,rfl⟩
theorem len5 {l:List Value} (h:l.length=5):∃ c0 c1 c2 c3 c4,l=[c0,c1,c2,c3,c4]:=by
 match l,h with
 | [c0,c1,c2,c3,c4],_=>exact ⟨c0,c1,c2,c3,c4,rfl⟩
theorem len6 {l:List Value} (h:l.length=6):∃ c0 c1 c2 c3 c4 c5,l=[c0,c1,c2,c3,c4,c5]:=by
 match l,h with
 | [c0,c1,c2,c3,c4,c5],_=>exact ⟨c0,c1,c2,c3,c4,c5,rfl⟩
theorem len14 {l:List Value} (h:l.length=14):∃ c0 c1 c2 c3 c4 c5 c6 c7 c8 c9 c10 c11 c12 c13,l=[c0,c1,c2,c3,c4,c5,c6,c7,c8,c9,c10,c11,c12,c13]:=by
 match l,h with
 | [c0,c1,c2,c3,c4,c5,c6,c7,c8,c9,c10,c11,c12,c13],_=>exact ⟨c0,c1,c2,c3,c4,c5,c6,c7,c8,c9,c10,c11,c12,c13,rfl⟩
section
variable {X:Res} {v v':Value} {us us':List Value}
theorem IE {xs:List Kt} {kf:FuncId} (hE:Ck.Enters prog kf) (hv:Ls X v xs) (hF:∀ a∈xs,∀ us,Enc.rep X us a->CtN prog kf #[.agg us.toArray] [X] λu T=>∃ us':List Value,u = .agg us'.toArray/\Enc.rep T us' a):CtN prog 184 #[v,.func (.func kf) #[] #[]] [X] λu T=>Ls T u xs:=by
 have hml:maxLen=9223372036854775807:=rfl
 have hrb:reachBytes=140737488351232:=rfl
 have hsz:xs.length * 56≤reachBytes:=hv.sizes
 obtain ⟨a,cap,rfl,hlc,hcm,hnone⟩:=hv.form
 refine aL (n:=22) func184 Z Z (len Z) λhr w0=>?_
 refine cQ<|sA Z<|sN<|nT<|cQ<|sA Z<|sN<|nT<|cS<|cQ<|sM Z<|sV (aF Z underlying71)<|sM Z ?_
 refine sK [1,4,5,8,9,10] Z<|cB<|dK (cZ 73 5)<|dK (eQ (L:=[]))<|aW (σ := Value×List (List Value)×Res×Nat) (λq=>[(1,.func (.func kf) #[] #[]),(5,q.1),(8,.slice a xs.length cap),(9,.int .i64 xs.length),(10,.int .i64 (q.2.2.2:Nat))]) (λq=>VR q.1 73 5 q.2.1::q.2.2.1::X::hr) (λq=>q.2.2.2≤xs.length/\q.1.oneCell'=true/\Rws q.2.2.1 q.2.1 (xs.take q.2.2.2)) (λq=>xs.length - q.2.2.2) (.slice none 0 0,[],Res.star [],0) ⟨Nat.zero_le _,Z,Rws.nil⟩ ?_
 rintro ⟨w,rows,T,i⟩ ⟨hi,hw,hro⟩
 simp only at hi hw hro
 dsimp only
 refine cQ<|sV (aN Z Z)<|sN<|nT<|cS<|cC Z (λhd=>?_)<|λhd=>?_
 ·have hlt:i<xs.length:=Zx
  have hg:=Zy hlt
  have hmem:=List.getElem_mem hlt
  have hsn:xs.take (i+1)=xs.take i++[xs[i]]:=List.take_succ_eq_append_getElem hlt
  obtain ⟨b,o,cap2,us,e1,hus,hrd,ht⟩:=hv.at hg
  cases e1
  generalize xs[i]=x at hg hmem ht hsn
  have hone:=Enc.ones ht
  have hrl:rows.length=i:=by rw [hro.1,List.length_take]; omega
  refine cK<|xT<|cS<|cB<|cQ<|sV (vI (k:=i) Z Z yt Z hlt Z)<|sV (af Z fD hus hrd) ?_
  refine ak zM λb7=>?_
  refine ai (hl:=by rw [hus]; rfl) Z Z nY hus hone ?_
  refine sK [1,5,7,8,9,10] Z<|cR<|sM Z<|sM Z<|sV (af Z fD hus ag) ?_
  refine aJ Z Z hE Z ((hF x hmem us ht)) ?_
  rintro u h' ⟨T2,rfl,us2,rfl,hT2⟩
  simp only [lC,lN]
  have hl2:us2.length=5:=Enc.len hT2
  have ho2:=Enc.ones hT2
  obtain ⟨c0,c1,c2,c3,c4,rfl⟩:=len5 hl2
  refine au (cells:=[c0,c1,c2,c3,c4]) Z underlying71 JX Z Z Zz (ltn Z) λb62=>?_
  refine d9 [[c0,c1,c2,c3,c4]] Z Z underlying71 JX Z (by decide) (show Sel _ (VR w 73 5 rows) _ from slq) (by simp) Z (λj u2 hu2=>bS<|bU Zr) Za (by rw [hrl]; omega) (by rw [hrl]; omega) (ltn Z) λw2 hw2 _=>?_
  refine sA Z<|sN<|nK [1,5,8,9,10] Z<|ax<|xB<|xT<|cR<|sV (aI Z Z Z0)<|sM Z<|sN<|nK [1,5,8,9,10] Z<|ax<|kK (fE (L:=[T,T2])) ?_
  simp only [lC,lN]
  refine aM (w2,rows++[[c0,c1,c2,c3,c4]],Res.star [T,T2],i+1) ⟨hlt,hw2,by rw [hsn]; exact Rws.snoc ⟨hro.1,λj us x h1 h2=>Enc.up (bH .here)<|hro.2 j us x h1 h2⟩ (Enc.up (bH<|.there .here) hT2)⟩<|Nat.sub_lt_sub_left hlt<|Nat.lt_succ_self i
 ·have hil:i=xs.length:=by
   have:¬ i<xs.length:=Zx
   omega
  subst hil
  rw [List.take_length] at hro
  refine aC<|xE<|xE<|xY<|xT<|cQ<|sM Z<|sA Z<|sK [4] Z<|cT (dZ (r:=VR w 73 5 rows) slq λhok=>?_)
  refine kK (fE (L:=[VR w 73 5 rows,T])) ?_
  simp only [lC,lN]
  have hls:Ls (Res.star [VR w 73 5 rows,T]) w xs:=Rws.ls (E:=73) ⟨hro.1,λj us x h1 h2=>Enc.up (bH<|.there .here)<|hro.2 j us x h1 h2⟩ hok (bH .here) hsz
  exact aj Z ⟨Res.star [VR w 73 5 rows,T],Z,hls⟩ sbq
theorem IG {xs:List Vr} {kf:FuncId} (hE:Ck.Enters prog kf) (hv:Ls X v xs) (hF:∀ a∈xs,∀ us,Enc.rep X us a->CtN prog kf #[.agg us.toArray] [X] λu T=>∃ us':List Value,u = .agg us'.toArray/\Enc.rep T us' a):CtN prog 175 #[v,.func (.func kf) #[] #[]] [X] λu T=>Ls T u xs:=by
 have hml:maxLen=9223372036854775807:=rfl
 have hrb:reachBytes=140737488351232:=rfl
 have hsz:xs.length * 72≤reachBytes:=hv.sizes
 obtain ⟨a,cap,rfl,hlc,hcm,hnone⟩:=hv.form
 refine aL (n:=22) func175 Z Z (len Z) λhr w0=>?_
 refine cQ<|sA Z<|sN<|nT<|cQ<|sA Z<|sN<|nT<|cS<|cQ<|sM Z<|sV (aF Z underlying70)<|sM Z ?_
 refine sK [1,4,5,8,9,10] Z<|cB<|dK (cZ 132 6)<|dK (eQ (L:=[]))<|aW (σ := Value×List (List Value)×Res×Nat) (λq=>[(1,.func (.func kf) #[] #[]),(5,q.1),(8,.slice a xs.length cap),(9,.int .i64 xs.length),(10,.int .i64 (q.2.2.2:Nat))]) (λq=>VR q.1 132 6 q.2.1::q.2.2.1::X::hr) (λq=>q.2.2.2≤xs.length/\q.1.oneCell'=true/\Rws q.2.2.1 q.2.1 (xs.take q.2.2.2)) (λq=>xs.length - q.2.2.2) (.slice none 0 0,[],Res.star [],0) ⟨Nat.zero_le _,Z,Rws.nil⟩ ?_
 rintro ⟨w,rows,T,i⟩ ⟨hi,hw,hro⟩
 simp only at hi hw hro
 dsimp only
 refine cQ<|sV (aN Z Z)<|sN<|nT<|cS<|cC Z (λhd=>?_)<|λhd=>?_
 ·have hlt:i<xs.length:=Zx
  have hg:=Zy hlt
  have hmem:=List.getElem_mem hlt
  have hsn:xs.take (i+1)=xs.take i++[xs[i]]:=List.take_succ_eq_append_getElem hlt
  obtain ⟨b,o,cap2,us,e1,hus,hrd,ht⟩:=hv.at hg
  cases e1
  generalize xs[i]=x at hg hmem ht hsn
  have hone:=Enc.ones ht
  have hrl:rows.length=i:=by rw [hro.1,List.length_take]; omega
  refine cK<|xT<|cS<|cB<|cQ<|sV (vI (k:=i) Z Z zH Z hlt Z)<|sV (af Z vC hus hrd) ?_
  refine ak J6 λb7=>?_
  refine ai (hl:=by rw [hus]; rfl) Z Z Cj hus hone ?_
  refine sK [1,5,7,8,9,10] Z<|cR<|sM Z<|sM Z<|sV (af Z vC hus ag) ?_
  refine aJ Z Z hE Z ((hF x hmem us ht)) ?_
  rintro u h' ⟨T2,rfl,us2,rfl,hT2⟩
  simp only [lC,lN]
  have hl2:us2.length=6:=Enc.len hT2
  have ho2:=Enc.ones hT2
  obtain ⟨c0,c1,c2,c3,c4,c5,rfl⟩:=len6 hl2
  refine au (cells:=[c0,c1,c2,c3,c4,c5]) Z underlying70 DN Z Z Zz (ltn Z) λb62=>?_
  refine d9 [[c0,c1,c2,c3,c4,c5]] Z Z underlying70 DN Z (by decide) (show Sel _ (VR w 132 6 rows) _ from slq) (by simp) Z (λj u2 hu2=>bS<|bU Zr) Za (by rw [hrl]; omega) (by rw [hrl]; omega) (ltn Z) λw2 hw2 _=>?_
  refine sA Z<|sN<|nK [1,5,8,9,10] Z<|ax<|xB<|xT<|cR<|sV (aI Z Z Z0)<|sM Z<|sN<|nK [1,5,8,9,10] Z<|ax<|kK (fE (L:=[T,T2])) ?_
  simp only [lC,lN]
  refine aM (w2,rows++[[c0,c1,c2,c3,c4,c5]],Res.star [T,T2],i+1) ⟨hlt,hw2,by rw [hsn]; exact Rws.snoc ⟨hro.1,λj us x h1 h2=>Enc.up (bH .here)<|hro.2 j us x h1 h2⟩ (Enc.up (bH<|.there .here) hT2)⟩<|Nat.sub_lt_sub_left hlt<|Nat.lt_succ_self i
 ·have hil:i=xs.length:=by
   have:¬ i<xs.length:=Zx
   omega
  subst hil
  rw [List.take_length] at hro
  refine aC<|xE<|xE<|xY<|xT<|cQ<|sM Z<|sA Z<|sK [4] Z<|cT (dZ (r:=VR w 132 6 rows) slq λhok=>?_)
  refine kK (fE (L:=[VR w 132 6 rows,T])) ?_
  simp only [lC,lN]
  have hls:Ls (Res.star [VR w 132 6 rows,T]) w xs:=Rws.ls (E:=132) ⟨hro.1,λj us x h1 h2=>Enc.up (bH<|.there .here)<|hro.2 j us x h1 h2⟩ hok (bH .here) hsz
  exact aj Z ⟨Res.star [VR w 132 6 rows,T],Z,hls⟩ sbq
theorem II {xs:List Ex} {kf:FuncId} (hE:Ck.Enters prog kf) (hv:Ls X v xs) (hF:∀ a∈xs,∀ us,Enc.rep X us a->CtN prog kf #[.agg us.toArray] [X] λu T=>∃ us':List Value,u = .agg us'.toArray/\Enc.rep T us' a):CtN prog 280 #[v,.func (.func kf) #[] #[]] [X] λu T=>Ls T u xs:=by
 have hml:maxLen=9223372036854775807:=rfl
 have hrb:reachBytes=140737488351232:=rfl
 have hsz:xs.length * 56≤reachBytes:=hv.sizes
 obtain ⟨a,cap,rfl,hlc,hcm,hnone⟩:=hv.form
 refine aL (n:=22) func280 Z Z (len Z) λhr w0=>?_
 refine cQ<|sA Z<|sN<|nT<|cQ<|sA Z<|sN<|nT<|cS<|cQ<|sM Z<|sV (aF Z underlying214)<|sM Z ?_
 refine sK [1,4,5,8,9,10] Z<|cB<|dK (cZ 216 4)<|dK (eQ (L:=[]))<|aW (σ := Value×List (List Value)×Res×Nat) (λq=>[(1,.func (.func kf) #[] #[]),(5,q.1),(8,.slice a xs.length cap),(9,.int .i64 xs.length),(10,.int .i64 (q.2.2.2:Nat))]) (λq=>VR q.1 216 4 q.2.1::q.2.2.1::X::hr) (λq=>q.2.2.2≤xs.length/\q.1.oneCell'=true/\Rws q.2.2.1 q.2.1 (xs.take q.2.2.2)) (λq=>xs.length - q.2.2.2) (.slice none 0 0,[],Res.star [],0) ⟨Nat.zero_le _,Z,Rws.nil⟩ ?_
 rintro ⟨w,rows,T,i⟩ ⟨hi,hw,hro⟩
 simp only at hi hw hro
 dsimp only
 refine cQ<|sV (aN Z Z)<|sN<|nT<|cS<|cC Z (λhd=>?_)<|λhd=>?_
 ·have hlt:i<xs.length:=Zx
  have hg:=Zy hlt
  have hmem:=List.getElem_mem hlt
  have hsn:xs.take (i+1)=xs.take i++[xs[i]]:=List.take_succ_eq_append_getElem hlt
  obtain ⟨b,o,cap2,us,e1,hus,hrd,ht⟩:=hv.at hg
  cases e1
  generalize xs[i]=x at hg hmem ht hsn
  have hone:=Enc.ones ht
  have hrl:rows.length=i:=by rw [hro.1,List.length_take]; omega
  refine cK<|xT<|cS<|cB<|cQ<|sV (vI (k:=i) Z Z Co Z hlt Z)<|sV (af Z jY hus hrd) ?_
  refine ak J7 λb7=>?_
  refine ai (hl:=by rw [hus]; rfl) Z Z zG hus hone ?_
  refine sK [1,5,7,8,9,10] Z<|cR<|sM Z<|sM Z<|sV (af Z jY hus ag) ?_
  refine aJ Z Z hE Z ((hF x hmem us ht)) ?_
  rintro u h' ⟨T2,rfl,us2,rfl,hT2⟩
  simp only [lC,lN]
  have hl2:us2.length=4:=Enc.len hT2
  have ho2:=Enc.ones hT2
  obtain ⟨c0,c1,c2,c3,rfl⟩:=len4 hl2
  refine au (cells:=[c0,c1,c2,c3]) Z underlying214 Nl Z Z Zz (ltn Z) λb62=>?_
  refine d9 [[c0,c1,c2,c3]] Z Z underlying214 Nl Z (by decide) (show Sel _ (VR w 216 4 rows) _ from slq) (by simp) Z (λj u2 hu2=>bS<|bU Zr) Za (by rw [hrl]; omega) (by rw [hrl]; omega) (ltn Z) λw2 hw2 _=>?_
  refine sA Z<|sN<|nK [1,5,8,9,10] Z<|ax<|xB<|xT<|cR<|sV (aI Z Z Z0)<|sM Z<|sN<|nK [1,5,8,9,10] Z<|ax<|kK (fE (L:=[T,T2])) ?_
  simp only [lC,lN]
  refine aM (w2,rows++[[c0,c1,c2,c3]],Res.star [T,T2],i+1) ⟨hlt,hw2,by rw [hsn]; exact Rws.snoc ⟨hro.1,λj us x h1 h2=>Enc.up (bH .here)<|hro.2 j us x h1 h2⟩ (Enc.up (bH<|.there .here) hT2)⟩<|Nat.sub_lt_sub_left hlt<|Nat.lt_succ_self i
 ·have hil:i=xs.length:=by
   have:¬ i<xs.length:=Zx
   omega
  subst hil
  rw [List.take_length] at hro
  refine aC<|xE<|xE<|xY<|xT<|cQ<|sM Z<|sA Z<|sK [4] Z<|cT (dZ (r:=VR w 216 4 rows) slq λhok=>?_)
  refine kK (fE (L:=[VR w 216 4 rows,T])) ?_
  simp only [lC,lN]
  have hls:Ls (Res.star [VR w 216 4 rows,T]) w xs:=Rws.ls (E:=216) ⟨hro.1,λj us x h1 h2=>Enc.up (bH<|.there .here)<|hro.2 j us x h1 h2⟩ hok (bH .here) hsz
  exact aj Z ⟨Res.star [VR w 216 4 rows,T],Z,hls⟩ sbq
theorem IJ {xs:List Cla} {kf:FuncId} (hE:Ck.Enters prog kf) (hv:Ls X v xs) (hF:∀ a∈xs,∀ us,Enc.rep X us a->CtN prog kf #[.agg us.toArray] [X] λu T=>∃ us':List Value,u = .agg us'.toArray/\Enc.rep T us' a):CtN prog 191 #[v,.func (.func kf) #[] #[]] [X] λu T=>Ls T u xs:=by
 have hml:maxLen=9223372036854775807:=rfl
 have hrb:reachBytes=140737488351232:=rfl
 have hsz:xs.length * 72≤reachBytes:=hv.sizes
 obtain ⟨a,cap,rfl,hlc,hcm,hnone⟩:=hv.form
 refine aL (n:=22) func191 Z Z (len Z) λhr w0=>?_
 refine cQ<|sA Z<|sN<|nT<|cQ<|sA Z<|sN<|nT<|cS<|cQ<|sM Z<|sV (aF Z underlying42)<|sM Z ?_
 refine sK [1,4,5,8,9,10] Z<|cB<|dK (cZ 218 5)<|dK (eQ (L:=[]))<|aW (σ := Value×List (List Value)×Res×Nat) (λq=>[(1,.func (.func kf) #[] #[]),(5,q.1),(8,.slice a xs.length cap),(9,.int .i64 xs.length),(10,.int .i64 (q.2.2.2:Nat))]) (λq=>VR q.1 218 5 q.2.1::q.2.2.1::X::hr) (λq=>q.2.2.2≤xs.length/\q.1.oneCell'=true/\Rws q.2.2.1 q.2.1 (xs.take q.2.2.2)) (λq=>xs.length - q.2.2.2) (.slice none 0 0,[],Res.star [],0) ⟨Nat.zero_le _,Z,Rws.nil⟩ ?_
 rintro ⟨w,rows,T,i⟩ ⟨hi,hw,hro⟩
 simp only at hi hw hro
 dsimp only
 refine cQ<|sV (aN Z Z)<|sN<|nT<|cS<|cC Z (λhd=>?_)<|λhd=>?_
 ·have hlt:i<xs.length:=Zx
  have hg:=Zy hlt
  have hmem:=List.getElem_mem hlt
  have hsn:xs.take (i+1)=xs.take i++[xs[i]]:=List.take_succ_eq_append_getElem hlt
  obtain ⟨b,o,cap2,us,e1,hus,hrd,ht⟩:=hv.at hg
  cases e1
  generalize xs[i]=x at hg hmem ht hsn
  have hone:=Enc.ones ht
  have hrl:rows.length=i:=by rw [hro.1,List.length_take]; omega
  refine cK<|xT<|cS<|cB<|cQ<|sV (vI (k:=i) Z Z Fq Z hlt Z)<|sV (af Z xL hus hrd) ?_
  refine ak J8 λb7=>?_
  refine ai (hl:=by rw [hus]; rfl) Z Z Cn hus hone ?_
  refine sK [1,5,7,8,9,10] Z<|cR<|sM Z<|sM Z<|sV (af Z xL hus ag) ?_
  refine aJ Z Z hE Z ((hF x hmem us ht)) ?_
  rintro u h' ⟨T2,rfl,us2,rfl,hT2⟩
  simp only [lC,lN]
  have hl2:us2.length=5:=Enc.len hT2
  have ho2:=Enc.ones hT2
  obtain ⟨c0,c1,c2,c3,c4,rfl⟩:=len5 hl2
  refine au (cells:=[c0,c1,c2,c3,c4]) Z underlying42 Nn Z Z Zz (ltn Z) λb62=>?_
  refine d9 [[c0,c1,c2,c3,c4]] Z Z underlying42 Nn Z (by decide) (show Sel _ (VR w 218 5 rows) _ from slq) (by simp) Z (λj u2 hu2=>bS<|bU Zr) Za (by rw [hrl]; omega) (by rw [hrl]; omega) (ltn Z) λw2 hw2 _=>?_
  refine sA Z<|sN<|nK [1,5,8,9,10] Z<|ax<|xB<|xT<|cR<|sV (aI Z Z Z0)<|sM Z<|sN<|nK [1,5,8,9,10] Z<|ax<|kK (fE (L:=[T,T2])) ?_
  simp only [lC,lN]
  refine aM (w2,rows++[[c0,c1,c2,c3,c4]],Res.star [T,T2],i+1) ⟨hlt,hw2,by rw [hsn]; exact Rws.snoc ⟨hro.1,λj us x h1 h2=>Enc.up (bH .here)<|hro.2 j us x h1 h2⟩ (Enc.up (bH<|.there .here) hT2)⟩<|Nat.sub_lt_sub_left hlt<|Nat.lt_succ_self i
 ·have hil:i=xs.length:=by
   have:¬ i<xs.length:=Zx
   omega
  subst hil
  rw [List.take_length] at hro
  refine aC<|xE<|xE<|xY<|xT<|cQ<|sM Z<|sA Z<|sK [4] Z<|cT (dZ (r:=VR w 218 5 rows) slq λhok=>?_)
  refine kK (fE (L:=[VR w 218 5 rows,T])) ?_
  simp only [lC,lN]
  have hls:Ls (Res.star [VR w 218 5 rows,T]) w xs:=Rws.ls (E:=218) ⟨hro.1,λj us x h1 h2=>Enc.up (bH<|.there .here)<|hro.2 j us x h1 h2⟩ hok (bH .here) hsz
  exact aj Z ⟨Res.star [VR w 218 5 rows,T],Z,hls⟩ sbq
theorem uu {xs:List Grp} {kf:FuncId} (hE:Ck.Enters prog kf) (hv:Ls X v xs) (hF:∀ a∈xs,∀ us,Enc.rep X us a->CtN prog kf #[.agg us.toArray] [X] λu T=>∃ us':List Value,u = .agg us'.toArray/\Enc.rep T us' a):CtN prog 120 #[v,.func (.func kf) #[] #[]] [X] λu T=>Ls T u xs:=by
 have hml:maxLen=9223372036854775807:=rfl
 have hrb:reachBytes=140737488351232:=rfl
 have hsz:xs.length * 40≤reachBytes:=hv.sizes
 obtain ⟨a,cap,rfl,hlc,hcm,hnone⟩:=hv.form
 refine aL (n:=22) func120 Z Z (len Z) λhr w0=>?_
 refine cQ<|sA Z<|sN<|nT<|cQ<|sA Z<|sN<|nT<|cS<|cQ<|sM Z<|sV (aF Z underlying53)<|sM Z ?_
 refine sK [1,4,5,8,9,10] Z<|cB<|dK (cZ 170 2)<|dK (eQ (L:=[]))<|aW (σ := Value×List (List Value)×Res×Nat) (λq=>[(1,.func (.func kf) #[] #[]),(5,q.1),(8,.slice a xs.length cap),(9,.int .i64 xs.length),(10,.int .i64 (q.2.2.2:Nat))]) (λq=>VR q.1 170 2 q.2.1::q.2.2.1::X::hr) (λq=>q.2.2.2≤xs.length/\q.1.oneCell'=true/\Rws q.2.2.1 q.2.1 (xs.take q.2.2.2)) (λq=>xs.length - q.2.2.2) (.slice none 0 0,[],Res.star [],0) ⟨Nat.zero_le _,Z,Rws.nil⟩ ?_
 rintro ⟨w,rows,T,i⟩ ⟨hi,hw,hro⟩
 simp only at hi hw hro
 dsimp only
 refine cQ<|sV (aN Z Z)<|sN<|nT<|cS<|cC Z (λhd=>?_)<|λhd=>?_
 ·have hlt:i<xs.length:=Zx
  have hg:=Zy hlt
  have hmem:=List.getElem_mem hlt
  have hsn:xs.take (i+1)=xs.take i++[xs[i]]:=List.take_succ_eq_append_getElem hlt
  obtain ⟨b,o,cap2,us,e1,hus,hrd,ht⟩:=hv.at hg
  cases e1
  generalize xs[i]=x at hg hmem ht hsn
  have hone:=Enc.ones ht
  have hrl:rows.length=i:=by rw [hro.1,List.length_take]; omega
  refine cK<|xT<|cS<|cB<|cQ<|sV (vI (k:=i) Z Z Fs Z hlt Z)<|sV (af Z lQ hus hrd) ?_
  refine ak Fv λb7=>?_
  refine ai (hl:=by rw [hus]; rfl) Z Z zF hus hone ?_
  refine sK [1,5,7,8,9,10] Z<|cR<|sM Z<|sM Z<|sV (af Z lQ hus ag) ?_
  refine aJ Z Z hE Z ((hF x hmem us ht)) ?_
  rintro u h' ⟨T2,rfl,us2,rfl,hT2⟩
  simp only [lC,lN]
  have hl2:us2.length=2:=Enc.len hT2
  have ho2:=Enc.ones hT2
  obtain ⟨c0,c1,rfl⟩:=len2 hl2
  refine au (cells:=[c0,c1]) Z underlying53 nu Z Z Zz (ltn Z) λb62=>?_
  refine d9 [[c0,c1]] Z Z underlying53 nu Z (by decide) (show Sel _ (VR w 170 2 rows) _ from slq) (by simp) Z (λj u2 hu2=>bS<|bU Zr) Za (by rw [hrl]; omega) (by rw [hrl]; omega) (ltn Z) λw2 hw2 _=>?_
  refine sA Z<|sN<|nK [1,5,8,9,10] Z<|ax<|xB<|xT<|cR<|sV (aI Z Z Z0)<|sM Z<|sN<|nK [1,5,8,9,10] Z<|ax<|kK (fE (L:=[T,T2])) ?_
  simp only [lC,lN]
  refine aM (w2,rows++[[c0,c1]],Res.star [T,T2],i+1) ⟨hlt,hw2,by rw [hsn]; exact Rws.snoc ⟨hro.1,λj us x h1 h2=>Enc.up (bH .here)<|hro.2 j us x h1 h2⟩ (Enc.up (bH<|.there .here) hT2)⟩<|Nat.sub_lt_sub_left hlt<|Nat.lt_succ_self i
 ·have hil:i=xs.length:=by
   have:¬ i<xs.length:=Zx
   omega
  subst hil
  rw [List.take_length] at hro
  refine aC<|xE<|xE<|xY<|xT<|cQ<|sM Z<|sA Z<|sK [4] Z<|cT (dZ (r:=VR w 170 2 rows) slq λhok=>?_)
  refine kK (fE (L:=[VR w 170 2 rows,T])) ?_
  simp only [lC,lN]
  have hls:Ls (Res.star [VR w 170 2 rows,T]) w xs:=Rws.ls (E:=170) ⟨hro.1,λj us x h1 h2=>Enc.up (bH<|.there .here)<|hro.2 j us x h1 h2⟩ hok (bH .here) hsz
  exact aj Z ⟨Res.star [VR w 170 2 rows,T],Z,hls⟩ sbq
theorem IK {xs:List Mb} {kf:FuncId} (hE:Ck.Enters prog kf) (hv:Ls X v xs) (hF:∀ a∈xs,∀ us,Enc.rep X us a->CtN prog kf #[.agg us.toArray] [X] λu T=>∃ us':List Value,u = .agg us'.toArray/\Enc.rep T us' a):CtN prog 119 #[v,.func (.func kf) #[] #[]] [X] λu T=>Ls T u xs:=by
 have hml:maxLen=9223372036854775807:=rfl
 have hrb:reachBytes=140737488351232:=rfl
 have hsz:xs.length * 232≤reachBytes:=hv.sizes
 obtain ⟨a,cap,rfl,hlc,hcm,hnone⟩:=hv.form
 refine aL (n:=22) func119 Z Z (len Z) λhr w0=>?_
 refine cQ<|sA Z<|sN<|nT<|cQ<|sA Z<|sN<|nT<|cS<|cQ<|sM Z<|sV (aF Z underlying52)<|sM Z ?_
 refine sK [1,4,5,8,9,10] Z<|cB<|dK (cZ 75 14)<|dK (eQ (L:=[]))<|aW (σ := Value×List (List Value)×Res×Nat) (λq=>[(1,.func (.func kf) #[] #[]),(5,q.1),(8,.slice a xs.length cap),(9,.int .i64 xs.length),(10,.int .i64 (q.2.2.2:Nat))]) (λq=>VR q.1 75 14 q.2.1::q.2.2.1::X::hr) (λq=>q.2.2.2≤xs.length/\q.1.oneCell'=true/\Rws q.2.2.1 q.2.1 (xs.take q.2.2.2)) (λq=>xs.length - q.2.2.2) (.slice none 0 0,[],Res.star [],0) ⟨Nat.zero_le _,Z,Rws.nil⟩ ?_
 rintro ⟨w,rows,T,i⟩ ⟨hi,hw,hro⟩
 simp only at hi hw hro
 dsimp only
 refine cQ<|sV (aN Z Z)<|sN<|nT<|cS<|cC Z (λhd=>?_)<|λhd=>?_
 ·have hlt:i<xs.length:=Zx
  have hg:=Zy hlt
  have hmem:=List.getElem_mem hlt
  have hsn:xs.take (i+1)=xs.take i++[xs[i]]:=List.take_succ_eq_append_getElem hlt
  obtain ⟨b,o,cap2,us,e1,hus,hrd,ht⟩:=hv.at hg
  cases e1
  generalize xs[i]=x at hg hmem ht hsn
  have hone:=Enc.ones ht
  have hrl:rows.length=i:=by rw [hro.1,List.length_take]; omega
  refine cK<|xT<|cS<|cB<|cQ<|sV (vI (k:=i) Z Z kQ Z hlt Z)<|sV (af Z dJ hus hrd) ?_
  refine ak iR λb7=>?_
  refine ai (hl:=by rw [hus]; rfl) Z Z gF hus hone ?_
  refine sK [1,5,7,8,9,10] Z<|cR<|sM Z<|sM Z<|sV (af Z dJ hus ag) ?_
  refine aJ Z Z hE Z ((hF x hmem us ht)) ?_
  rintro u h' ⟨T2,rfl,us2,rfl,hT2⟩
  simp only [lC,lN]
  have hl2:us2.length=14:=Enc.len hT2
  have ho2:=Enc.ones hT2
  obtain ⟨c0,c1,c2,c3,c4,c5,c6,c7,c8,c9,c10,c11,c12,c13,rfl⟩:=len14 hl2
  refine au (cells:=[c0,c1,c2,c3,c4,c5,c6,c7,c8,c9,c10,c11,c12,c13]) Z underlying52 vB Z Z Zz (ltn Z) λb62=>?_
  refine d9 [[c0,c1,c2,c3,c4,c5,c6,c7,c8,c9,c10,c11,c12,c13]] Z Z underlying52 vB Z (by decide) (show Sel _ (VR w 75 14 rows) _ from slq) (by simp) Z (λj u2 hu2=>bS<|bU Zr) Za (by rw [hrl]; omega) (by rw [hrl]; omega) (ltn Z) λw2 hw2 _=>?_
  refine sA Z<|sN<|nK [1,5,8,9,10] Z<|ax<|xB<|xT<|cR<|sV (aI Z Z Z0)<|sM Z<|sN<|nK [1,5,8,9,10] Z<|ax<|kK (fE (L:=[T,T2])) ?_
  simp only [lC,lN]
  refine aM (w2,rows++[[c0,c1,c2,c3,c4,c5,c6,c7,c8,c9,c10,c11,c12,c13]],Res.star [T,T2],i+1) ⟨hlt,hw2,by rw [hsn]; exact Rws.snoc ⟨hro.1,λj us x h1 h2=>Enc.up (bH .here)<|hro.2 j us x h1 h2⟩ (Enc.up (bH<|.there .here) hT2)⟩<|Nat.sub_lt_sub_left hlt<|Nat.lt_succ_self i
 ·have hil:i=xs.length:=by
   have:¬ i<xs.length:=Zx
   omega
  subst hil
  rw [List.take_length] at hro
  refine aC<|xE<|xE<|xY<|xT<|cQ<|sM Z<|sA Z<|sK [4] Z<|cT (dZ (r:=VR w 75 14 rows) slq λhok=>?_)
  refine kK (fE (L:=[VR w 75 14 rows,T])) ?_
  simp only [lC,lN]
  have hls:Ls (Res.star [VR w 75 14 rows,T]) w xs:=Rws.ls (E:=75) ⟨hro.1,λj us x h1 h2=>Enc.up (bH<|.there .here)<|hro.2 j us x h1 h2⟩ hok (bH .here) hsz
  exact aj Z ⟨Res.star [VR w 75 14 rows,T],Z,hls⟩ sbq
theorem Gl:∀ (d:Nat) (X:Res) (t:Kt) (us:List Value),t.depth≤d->Ty X us t->CtN prog 114 #[.agg us.toArray] [X] λu T=>∃ us':List Value,u = .agg us'.toArray/\Ty T us' t
 | 0,_,s,_,hd,_=>by cases s; simp [Kt.depth] at hd
 | d+1,X,t,us,hd,hs=>by
  obtain ⟨x,rfl,hx⟩:=ek hs
  have hF:∀ a∈t.args,∀ us,Ty X us a->CtN prog 114 #[.agg us.toArray] [X] λu T=>∃ us':List Value,u = .agg us'.toArray/\Ty T us' a:=λa ha us h=>Gl d X a us (by have:=jM ha; omega) h
  obtain ⟨xa,xc,rfl,_⟩:=id hx.form
  unfold tyC
  refine aL (n:=8) func114 Z Z (len Z) λhr w0=>?_
  refine cQ (aP Z Z λb1=>?_)
  refine ak zM λb2=>?_
  refine sK [1,2] Z<|cQ<|sV (vF Z ja Z)<|sV (vY Z oZ) ?_
  refine aJ Z Z en184 Z (IE Ka hx hF) ?_
  rintro u h' ⟨T,rfl,hT⟩
  simp only [lC,lN]
  obtain ⟨ua,uc,rfl,_⟩:=id hT.form
  refine sV (vF Z ja Z)<|bg Z Z sz71 ?_
  refine sK [1,2] Z<|cQ<|sV (af Z fD Z ag) ?_
  refine ai Z Z nY Z Z ?_
  refine sK [2] Z<|cT ?_
  exact bE (.cellN Z fD Z slq .nil) ⟨T,Z,_,Z,fZ (t:=t) Z hT⟩ sbr
theorem Ag {t:Kt} (h:Ty X us t):CtN prog 114 #[.agg us.toArray] [X] λu T=>∃ us':List Value,u = .agg us'.toArray/\Ty T us' t:=Gl t.depth X t us (Nat.le_refl _) h
theorem Gm:∀ (d:Nat) (X:Res) (t:Ex) (us:List Value),t.depth≤d->Enc.rep X us t->CtN prog 247 #[.agg us.toArray] [X] λu T=>∃ us':List Value,u = .agg us'.toArray/\Enc.rep T us' t
 | 0,_,s,_,hd,_=>by cases s; simp [Ex.depth] at hd
 | d+1,X,t,us,hd,hs=>by
  obtain ⟨x,rfl,hx⟩:=l8 hs
  have hF:∀ a∈t.kids,∀ us,Enc.rep X us a->CtN prog 247 #[.agg us.toArray] [X] λu T=>∃ us':List Value,u = .agg us'.toArray/\Enc.rep T us' a:=λa ha us h=>Gm d X a us (by have:=pI ha; omega) h
  obtain ⟨xa,xc,rfl,_⟩:=id hx.form
  unfold exC
  refine aL (n:=8) func247 Z Z (len Z) λhr w0=>?_
  refine cQ (aP Z Z λb1=>?_)
  refine ak J7 λb2=>?_
  refine sK [1,2] Z<|cQ<|sV (vF Z jA Z)<|sV (vY Z sU) ?_
  refine aJ Z Z en280 Z (II en247 hx hF) ?_
  rintro u h' ⟨T,rfl,hT⟩
  simp only [lC,lN]
  obtain ⟨ua,uc,rfl,_⟩:=id hT.form
  refine sV (vF Z jA Z)<|bg Z Z sz214 ?_
  refine sK [1,2] Z<|cQ<|sV (af Z jY Z ag) ?_
  refine ai Z Z zG Z Z ?_
  refine sK [2] Z<|cT ?_
  exact bE (.cellN Z jY Z slq .nil) ⟨T,Z,_,Z,CP (t:=t) Z hT⟩ sbr
theorem Od {t:Ex} (h:Enc.rep X us t):CtN prog 247 #[.agg us.toArray] [X] λu T=>∃ us':List Value,u = .agg us'.toArray/\Enc.rep T us' t:=Gm t.depth X t us (Nat.le_refl _) h
theorem Oe {a:Vr} (h:Enc.rep X us a):CtN prog 176 #[.agg us.toArray] [X] λu T=>∃ us':List Value,u = .agg us'.toArray/\Enc.rep T us' a:=by
 obtain ⟨x,rfl,hx⟩:=Ei h
 obtain ⟨xa,xc,rfl,_⟩:=id hx.form
 have hc:=Ag<|fZ (t:=a.ty) rfl hx
 unfold tyC at hc
 refine aL (n:=8) func176 Z Z (len Z) λhr w0=>?_
 refine cQ (aP Z Z λb1=>?_)
 refine ak J6 λb2=>?_
 refine sK [1,2] Z<|cQ<|sV (vF Z jV Z)<|sV (af Z fD Z<|bD (us:=[sv a.name,.int .i64 a.ty.kind,sv a.ty.name,.slice xa a.ty.args.length xc,.bool a.ty.void,.bool a.ty.sep]) (vs:=[.int .i64 a.ty.kind,sv a.ty.name,.slice xa a.ty.args.length xc,.bool a.ty.void,.bool a.ty.sep]) (k:=1) ag Z) ?_
 refine aJ Z Z Ka Z (hc) ?_
 rintro u h' ⟨T,rfl,us',rfl,hT⟩
 simp only [lC,lN]
 obtain ⟨y,rfl,hy⟩:=ek hT
 obtain ⟨ya,yc,rfl,_⟩:=id hy.form
 unfold tyC
 refine sV (vF rfl jV rfl)<|iF rfl rfl nY rfl (λu hu=>by simp at hu; rcases hu with rfl | rfl | rfl | rfl | rfl <;> rfl) (show Sel _ (pt b1<|cl [sv a.name,.int .i64 a.ty.kind,sv a.ty.name,.slice xa a.ty.args.length xc,.bool a.ty.void,.bool a.ty.sep] 132) _ from slq) (by simp) ?_
 rw [show splice [sv a.name,.int .i64 a.ty.kind,sv a.ty.name,.slice xa a.ty.args.length xc,.bool a.ty.void,.bool a.ty.sep] (0+1) [.int .i64 a.ty.kind,sv a.ty.name,.slice ya a.ty.args.length yc,.bool a.ty.void,.bool a.ty.sep]=[sv a.name,.int .i64 a.ty.kind,sv a.ty.name,.slice ya a.ty.args.length yc,.bool a.ty.void,.bool a.ty.sep] from rfl]
 refine sK [1,2] Z<|cQ<|sV (af Z vC Z ag) ?_
 refine ai Z Z Cj Z Z ?_
 refine sK [2] Z<|cT ?_
 exact bE (.cellN Z vC Z slq .nil) ⟨T,Z,_,Z,_,Z,fZ (t:=a.ty) Z hy⟩ sbr
theorem Oh {a:Cla} (h:Enc.rep X us a):CtN prog 192 #[.agg us.toArray] [X] λu T=>∃ us':List Value,u = .agg us'.toArray/\Enc.rep T us' a:=by
 obtain ⟨x,rfl,hx⟩:=Ej h
 obtain ⟨xa,xc,rfl,_⟩:=id hx.form
 have hc:=Od<|CP (t:=a.ex) rfl hx
 unfold exC at hc
 refine aL (n:=8) func192 Z Z (len Z) λhr w0=>?_
 refine cQ (aP Z Z λb1=>?_)
 refine ak J8 λb2=>?_
 refine sK [1,2] Z<|cQ<|sV (vF Z pE Z)<|sV (af Z jY Z<|bD (us:=[sv a.tag,.int .i64 a.ex.kind,sv a.ex.name,.int .i64 a.ex.num,.slice xa a.ex.kids.length xc]) (vs:=[.int .i64 a.ex.kind,sv a.ex.name,.int .i64 a.ex.num,.slice xa a.ex.kids.length xc]) (k:=1) ag Z) ?_
 refine aJ Z Z en247 Z (hc) ?_
 rintro u h' ⟨T,rfl,us',rfl,hT⟩
 simp only [lC,lN]
 obtain ⟨y,rfl,hy⟩:=l8 hT
 obtain ⟨ya,yc,rfl,_⟩:=id hy.form
 unfold exC
 refine sV (vF rfl pE rfl)<|iF rfl rfl zG rfl (λu hu=>by simp at hu; rcases hu with rfl | rfl | rfl | rfl <;> rfl) (show Sel _ (pt b1<|cl [sv a.tag,.int .i64 a.ex.kind,sv a.ex.name,.int .i64 a.ex.num,.slice xa a.ex.kids.length xc] 218) _ from slq) (by simp) ?_
 rw [show splice [sv a.tag,.int .i64 a.ex.kind,sv a.ex.name,.int .i64 a.ex.num,.slice xa a.ex.kids.length xc] (0+1) [.int .i64 a.ex.kind,sv a.ex.name,.int .i64 a.ex.num,.slice ya a.ex.kids.length yc]=[sv a.tag,.int .i64 a.ex.kind,sv a.ex.name,.int .i64 a.ex.num,.slice ya a.ex.kids.length yc] from rfl]
 refine sK [1,2] Z<|cQ<|sV (af Z xL Z ag) ?_
 refine ai Z Z Cn Z Z ?_
 refine sK [2] Z<|cT ?_
 exact bE (.cellN Z xL Z slq .nil) ⟨T,Z,_,Z,_,Z,CP (t:=a.ex) Z hy⟩ sbr
theorem Ah {a:Grp} (h:Enc.rep X us a):CtN prog 121 #[.agg us.toArray] [X] λu T=>∃ us':List Value,u = .agg us'.toArray/\Enc.rep T us' a:=by
 obtain ⟨x,rfl,hx⟩:=h
 obtain ⟨xa,xc,rfl,_⟩:=id hx.form
 refine aL (n:=8) func121 Z Z (len Z) λhr w0=>?_
 refine cQ (aP Z Z λb1=>?_)
 refine ak Fv λb2=>?_
 refine sK [1,2] Z<|cQ<|sV (vF Z rW Z)<|sV (vY Z tQ) ?_
 refine aJ Z Z en191 Z (IJ en192 hx λ_ _ _ h=>Oh h) ?_
 rintro u h' ⟨T,rfl,hT⟩
 simp only [lC,lN]
 obtain ⟨ya,yc,rfl,_⟩:=id hT.form
 refine sV (vF Z rW Z)<|bg Z Z sz42 ?_
 refine sK [1,2] Z<|cQ<|sV (af Z lQ Z ag) ?_
 refine ai Z Z zF Z Z ?_
 refine sK [2] Z<|cT ?_
 exact bE (.cellN Z lQ Z slq .nil) ⟨T,Z,_,Z,_,Z,hT⟩ sbr
theorem Gn {xs:List Sd} (hv:Ls X v xs):CtN prog 163 #[v] [X] λu T=>∃ rows,T=VR u 69 2 rows/\u.oneCell'=true/\Rws X rows xs:=by
 have hrb:reachBytes=140737488351232:=rfl
 have hsz:xs.length * 32≤reachBytes:=hv.sizes
 obtain ⟨a,cap,rfl,hlc,hcm,hnone⟩:=hv.form
 refine aL (n:=8) func163 Z Z (len Z) λhr w0=>?_
 refine cQ<|sA Z<|sN<|nT<|cS<|cQ<|sM Z<|sV (dH Z Z underlying67)<|sK [0,2,4] Z ?_
 cases a with
 | none =>
  refine aQ Z ?_
  refine cQ<|sA Z<|sK [2] Z<|cT<|xR<|jG (cZ 69 2) ?_
  have hx0:xs=[]:=List.eq_nil_of_length_eq_zero (by have:=hnone rfl; omega)
  exact aj Z ⟨_,Z,[],Z,Z,by rw [hx0]; exact Rws.nil⟩ sbq
 | some a =>
  refine aH Z ?_
  refine cK<|xT<|cQ (zQ underlying67 Cr λb5=>?_)
  refine sM Z (rH hv.1 Z Z underlying67 Cr Z (by decide) (show Sel _ (VR (.slice (some ⟨b5,0,none⟩) 0 0) 69 2 []) _ from slq) (show Sel _ X _ from slq) (λus x _ h=>List.all_eq_true.1<|Enc.ones h) (by simp <;> omega) (by simp <;> omega) (ltn Z) λv7 n1 hv7 q1 q2 q3=>?_)
  refine sA Z<|sK [2] Z<|cT ?_
  exact aj Z ⟨_,Z,n1,Z,hv7,q1,q3⟩ sbq
theorem mW {xs:List Nm} (hv:Ls X v xs):CtN prog 174 #[v] [X] λu T=>∃ rows,T=VR u 9 1 rows/\u.oneCell'=true/\Rws X rows xs:=by
 have hrb:reachBytes=140737488351232:=rfl
 have hsz:xs.length * 16≤reachBytes:=hv.sizes
 obtain ⟨a,cap,rfl,hlc,hcm,hnone⟩:=hv.form
 refine aL (n:=8) func174 Z Z (len Z) λhr w0=>?_
 refine cQ<|sA Z<|sN<|nT<|cS<|cQ<|sM Z<|sV (dH Z Z underlying40)<|sK [0,2,4] Z ?_
 cases a with
 | none =>
  refine aQ Z ?_
  refine cQ<|sA Z<|sK [2] Z<|cT<|xR<|jG (cZ 9 1) ?_
  have hx0:xs=[]:=List.eq_nil_of_length_eq_zero (by have:=hnone rfl; omega)
  exact aj Z ⟨_,Z,[],Z,Z,by rw [hx0]; exact Rws.nil⟩ sbq
 | some a =>
  refine aH Z ?_
  refine cK<|xT<|cQ (zQ underlying40 fP λb5=>?_)
  refine sM Z (rH hv.1 Z Z underlying40 fP Z (by decide) (show Sel _ (VR (.slice (some ⟨b5,0,none⟩) 0 0) 9 1 []) _ from slq) (show Sel _ X _ from slq) (λus x _ h=>List.all_eq_true.1<|Enc.ones h) (by simp <;> omega) (by simp <;> omega) (ltn Z) λv7 n1 hv7 q1 q2 q3=>?_)
  refine sA Z<|sK [2] Z<|cT ?_
  exact aj Z ⟨_,Z,n1,Z,hv7,q1,q3⟩ sbq
theorem rJ {xs:List Vr} (hv:Ls X v xs):CtN prog 200 #[v] [X] λu T=>∃ rows,T=VR u 132 6 rows/\u.oneCell'=true/\Rws X rows xs:=by
 have hrb:reachBytes=140737488351232:=rfl
 have hsz:xs.length * 72≤reachBytes:=hv.sizes
 obtain ⟨a,cap,rfl,hlc,hcm,hnone⟩:=hv.form
 refine aL (n:=8) func200 Z Z (len Z) λhr w0=>?_
 refine cQ<|sA Z<|sN<|nT<|cS<|cQ<|sM Z<|sV (dH Z Z underlying70)<|sK [0,2,4] Z ?_
 cases a with
 | none =>
  refine aQ Z ?_
  refine cQ<|sA Z<|sK [2] Z<|cT<|xR<|jG (cZ 132 6) ?_
  have hx0:xs=[]:=List.eq_nil_of_length_eq_zero (by have:=hnone rfl; omega)
  exact aj Z ⟨_,Z,[],Z,Z,by rw [hx0]; exact Rws.nil⟩ sbq
 | some a =>
  refine aH Z ?_
  refine cK<|xT<|cQ (zQ underlying70 DN λb5=>?_)
  refine sM Z (rH hv.1 Z Z underlying70 DN Z (by decide) (show Sel _ (VR (.slice (some ⟨b5,0,none⟩) 0 0) 132 6 []) _ from slq) (show Sel _ X _ from slq) (λus x _ h=>List.all_eq_true.1<|Enc.ones h) (by simp <;> omega) (by simp <;> omega) (ltn Z) λv7 n1 hv7 q1 q2 q3=>?_)
  refine sA Z<|sK [2] Z<|cT ?_
  exact aj Z ⟨_,Z,n1,Z,hv7,q1,q3⟩ sbq
theorem Gp {xs:List Cm} (hv:Ls X v xs):CtN prog 262 #[v] [X] λu T=>∃ rows,T=VR u 191 18 rows/\u.oneCell'=true/\Rws X rows xs:=by
 have hrb:reachBytes=140737488351232:=rfl
 have hsz:xs.length * 280≤reachBytes:=hv.sizes
 obtain ⟨a,cap,rfl,hlc,hcm,hnone⟩:=hv.form
 refine aL (n:=8) func262 Z Z (len Z) λhr w0=>?_
 refine cQ<|sA Z<|sN<|nT<|cS<|cQ<|sM Z<|sV (dH Z Z underlying187)<|sK [0,2,4] Z ?_
 cases a with
 | none =>
  refine aQ Z ?_
  refine cQ<|sA Z<|sK [2] Z<|cT<|xR<|jG (cZ 191 18) ?_
  have hx0:xs=[]:=List.eq_nil_of_length_eq_zero (by have:=hnone rfl; omega)
  exact aj Z ⟨_,Z,[],Z,Z,by rw [hx0]; exact Rws.nil⟩ sbq
 | some a =>
  refine aH Z ?_
  refine cK<|xT<|cQ (zQ underlying187 zI λb5=>?_)
  refine sM Z (rH hv.1 Z Z underlying187 zI Z (by decide) (show Sel _ (VR (.slice (some ⟨b5,0,none⟩) 0 0) 191 18 []) _ from slq) (show Sel _ X _ from slq) (λus x _ h=>List.all_eq_true.1<|Enc.ones h) (by simp <;> omega) (by simp <;> omega) (ltn Z) λv7 n1 hv7 q1 q2 q3=>?_)
  refine sA Z<|sK [2] Z<|cT ?_
  exact aj Z ⟨_,Z,n1,Z,hv7,q1,q3⟩ sbq
theorem Gq {xs:List Mb} (hv:Ls X v xs):CtN prog 160 #[v] [X] λu T=>∃ rows,T=VR u 75 14 rows/\u.oneCell'=true/\Rws X rows xs:=by
 have hrb:reachBytes=140737488351232:=rfl
 have hsz:xs.length * 232≤reachBytes:=hv.sizes
 obtain ⟨a,cap,rfl,hlc,hcm,hnone⟩:=hv.form
 refine aL (n:=8) func160 Z Z (len Z) λhr w0=>?_
 refine cQ<|sA Z<|sN<|nT<|cS<|cQ<|sM Z<|sV (dH Z Z underlying52)<|sK [0,2,4] Z ?_
 cases a with
 | none =>
  refine aQ Z ?_
  refine cQ<|sA Z<|sK [2] Z<|cT<|xR<|jG (cZ 75 14) ?_
  have hx0:xs=[]:=List.eq_nil_of_length_eq_zero (by have:=hnone rfl; omega)
  exact aj Z ⟨_,Z,[],Z,Z,by rw [hx0]; exact Rws.nil⟩ sbq
 | some a =>
  refine aH Z ?_
  refine cK<|xT<|cQ (zQ underlying52 vB λb5=>?_)
  refine sM Z (rH hv.1 Z Z underlying52 vB Z (by decide) (show Sel _ (VR (.slice (some ⟨b5,0,none⟩) 0 0) 75 14 []) _ from slq) (show Sel _ X _ from slq) (λus x _ h=>List.all_eq_true.1<|Enc.ones h) (by simp <;> omega) (by simp <;> omega) (ltn Z) λv7 n1 hv7 q1 q2 q3=>?_)
  refine sA Z<|sK [2] Z<|cT ?_
  exact aj Z ⟨_,Z,n1,Z,hv7,q1,q3⟩ sbq
end
section
variable {X:Res} {v v':Value} {us us':List Value}
theorem Gs {m:Mb} (h:Enc.rep X us m):CtN prog 99 #[.agg us.toArray] [X] λu T=>∃ us':List Value,u = .agg us'.toArray/\Enc.rep T us' m:=by
 obtain ⟨x2,x5,xy,x11,x12,x13,rfl,hx2,hx5,hxy,hx11,hx12,hx13⟩:=bZ h
 obtain ⟨a2,k2,rfl,_⟩:=id hx2.form
 obtain ⟨a5,k5,rfl,_⟩:=id hx5.form
 obtain ⟨ay,ky,rfl,_⟩:=id hxy.form
 obtain ⟨a11,k11,rfl,_⟩:=id hx11.form
 obtain ⟨a12,k12,rfl,_⟩:=id hx12.form
 obtain ⟨a13,k13,rfl,_⟩:=id hx13.form
 have hc:=Ag<|fZ (t:=m.ty) rfl hxy
 unfold tyC at hc
 unfold fI
 refine aL (n:=28) func99 Z Z (len Z) λhr w0=>?_
 refine cQ (aP Z Z λb1=>?_)
 refine ak iR λb2=>?_
 refine sK [1,2] Z<|cS<|bB (ork [(0,2),(1,1),(3,2),(4,1),(6,2),(7,1),(9,2),(10,1),(2,0),(12,2),(5,0),(8,0),(11,0),(13,0),(14,2),(15,0),(16,2),(17,0),(18,2),(19,0)] .nil) (λi => !(Nat.beq i 11 || Nat.beq i 13 || Nat.beq i 15 || Nat.beq i 17 || Nat.beq i 19)) mixed Zz ?_
 refine dV Z (vF Z dP Z)<|bi Z (vY Z nz) ?_
 refine dV Z (vF Z wL Z)<|bi Z (vY Z fq) ?_
 refine dV Z (vF Z jL Z)<|bi Z (vY Z qU) ?_
 refine dV Z (vF Z nD Z)<|bi Z (af Z fD Z<|bD (us:=[sv m.name,.int .i64 m.kind,.slice a2 m.seeds.length k2,sv m.impl.cls,sv m.impl.name,.slice a5 m.args.length k5,.int .i64 m.ty.kind,sv m.ty.name,.slice ay m.ty.args.length ky,.bool m.ty.void,.bool m.ty.sep,.slice a11 m.clients.length k11,.slice a12 m.pre.length k12,.slice a13 m.post.length k13]) (vs:=[.int .i64 m.ty.kind,sv m.ty.name,.slice ay m.ty.args.length ky,.bool m.ty.void,.bool m.ty.sep]) (k:=6) ag Z) ?_
 refine aV Z<|aJ Z Z en163 Z (Gn hx2) ?_
 rintro u1 h' ⟨T1,rfl,r1,rfl,o1,w1⟩
 simp only [lC,lN]
 refine aY ?_
 refine dV Z (vF Z dP Z)<|aV Z<|aJ Z Z Ke Z (mW hx11) ?_
 rintro u2 h' ⟨T2,rfl,r2,rfl,o2,w2⟩
 simp only [lC,lN]
 refine aY ?_
 refine aV Z<|aJ Z Z en175 Z (IG en176 hx5 λ_ _ _ h=>Oe h) ?_
 rintro u3 h' ⟨T3,rfl,hT3⟩
 simp only [lC,lN]
 refine aY ?_
 refine aV Z<|aJ Z Z Ka Z (hc) ?_
 rintro u4 h' ⟨T4,rfl,us4,rfl,hT4⟩
 simp only [lC,lN]
 obtain ⟨y,rfl,hy⟩:=ek hT4
 obtain ⟨ya,yc,rfl,_⟩:=id hy.form
 unfold tyC
 obtain ⟨a3,k3,rfl,_⟩:=id hT3.form
 refine aY ?_
 refine aV Z<|bg Z Z Fp<|aY ?_
 refine dV Z (vF Z wL Z)<|aV Z<|bg Z Z yn<|aY ?_
 refine dV Z (vF Z jL Z)<|aV Z<|bg Z Z sz70<|aY ?_
 refine dV rfl (vF rfl nD rfl)<|aV rfl<|iF rfl rfl nY rfl (λu hu=>by simp at hu; rcases hu with rfl | rfl | rfl | rfl | rfl <;> rfl) (show Sel _ (pt b1<|cl [sv m.name,.int .i64 m.kind,u1,sv m.impl.cls,sv m.impl.name,.slice a3 m.args.length k3,.int .i64 m.ty.kind,sv m.ty.name,.slice ay m.ty.args.length ky,.bool m.ty.void,.bool m.ty.sep,u2,.slice a12 m.pre.length k12,.slice a13 m.post.length k13] 75) _ from slq) (by simp)<|aY ?_
 rw [show splice [sv m.name,.int .i64 m.kind,u1,sv m.impl.cls,sv m.impl.name,.slice a3 m.args.length k3,.int .i64 m.ty.kind,sv m.ty.name,.slice ay m.ty.args.length ky,.bool m.ty.void,.bool m.ty.sep,u2,.slice a12 m.pre.length k12,.slice a13 m.post.length k13] (0+6) [.int .i64 m.ty.kind,sv m.ty.name,.slice ya m.ty.args.length yc,.bool m.ty.void,.bool m.ty.sep]=[sv m.name,.int .i64 m.kind,u1,sv m.impl.cls,sv m.impl.name,.slice a3 m.args.length k3,.int .i64 m.ty.kind,sv m.ty.name,.slice ya m.ty.args.length yc,.bool m.ty.void,.bool m.ty.sep,u2,.slice a12 m.pre.length k12,.slice a13 m.post.length k13] from rfl]
 refine bA<|nK [1,2] Z<|nT<|cS<|bB (ork [(0,2),(1,1),(3,2),(4,1),(2,0),(6,2),(5,0),(7,0),(8,2),(9,0)] .nil) (λi => !(Nat.beq i 5 || Nat.beq i 7 || Nat.beq i 9)) mixed Zz ?_
 refine dV Z (vF Z ig Z)<|bi Z (vY Z lL) ?_
 refine dV Z (vF Z ik Z)<|bi Z (vY Z lL) ?_
 refine aV Z<|aJ Z Z en120 Z (uu en121 hx12 λ_ _ _ h=>Ah h) ?_
 rintro u5 h' ⟨T5,rfl,hT5⟩
 simp only [lC,lN]
 obtain ⟨a6,k6,rfl,_⟩:=id hT5.form
 refine aY ?_
 refine dV Z (vF Z ig Z)<|aV Z<|aJ Z Z en120 Z (uu en121 hx13 λ_ _ _ h=>Ah h) ?_
 rintro u7 h' ⟨T7,rfl,hT7⟩
 simp only [lC,lN]
 obtain ⟨a8,k8,rfl,_⟩:=id hT7.form
 refine aY ?_
 refine aV Z<|bg Z Z nk<|aY ?_
 refine dV Z (vF Z ik Z)<|aV Z<|bg Z Z nk<|aY ?_
 refine bA<|nK [1,2] Z<|nT<|cQ<|sV (af Z dJ Z ag) ?_
 have hone2:([sv m.name,.int .i64 m.kind,u1,sv m.impl.cls,sv m.impl.name,.slice a3 m.args.length k3,.int .i64 m.ty.kind,sv m.ty.name,.slice ya m.ty.args.length yc,.bool m.ty.void,.bool m.ty.sep,u2,.slice a6 m.pre.length k6,.slice a8 m.post.length k8]:List Value).all Value.oneCell'=true:=by simp only [List.all_cons,List.all_nil,o1,o2,Bool.and_true,Bool.true_and]; rfl
 refine ai Z Z gF Z hone2 ?_
 refine sK [2] Z<|cT (dZ (r:=VR u1 69 2 r1) slq λhok1=>?_)
 refine dZ (r:=VR u2 9 1 r2) slq λhok2=>?_
 refine kK (fE (L:=[VR u1 69 2 r1,VR u2 9 1 r2,T3,T4,T5,T7])) ?_
 simp only [lC,lN]
 exact bE (.cellN Z dJ Z slq .nil) ⟨Res.star [VR u1 69 2 r1,VR u2 9 1 r2,T3,T4,T5,T7],Z,_,Z,mV ⟨Rws.ls (E:=69) w1 hok1 (bH slq) hx2.sizes,hT3.up' (bH slq),hy.up' (bH slq),Rws.ls (E:=9) w2 hok2 (bH slq) hx11.sizes,hT5.up' (bH slq),hT7.up'<|bH slq⟩⟩ sbr
theorem CY {f:Fl} (h:Enc.rep X us f):CtN prog 55 #[.agg us.toArray] [X] λu T=>∃ us':List Value,u = .agg us'.toArray/\Enc.rep T us' f:=by
 obtain ⟨x,y,rfl,hx,hy⟩:=h
 obtain ⟨xa,xc,rfl,_⟩:=id hx.form
 obtain ⟨ya,yc,rfl,_⟩:=id hy.form
 refine aL (n:=12) func55 Z Z (len Z) λhr w0=>?_
 refine cQ (aP Z Z λb1=>?_)
 refine ak A9 λb2=>?_
 refine sK [1,2] Z<|cS<|bB (ork [(0,2),(1,1),(3,2),(4,1),(2,0),(6,2),(5,0),(7,0),(8,2),(9,0)] .nil) (λi => !(Nat.beq i 5 || Nat.beq i 7 || Nat.beq i 9)) mixed Zz ?_
 refine dV Z (vF Z iO Z)<|bi Z (vY Z lK) ?_
 refine dV Z (vF Z qX Z)<|bi Z (vY Z lL) ?_
 refine aV Z<|aJ Z Z en119 Z (IK en99 hx λ_ _ _ h=>Gs h) ?_
 rintro u5 h' ⟨T5,rfl,hT5⟩
 simp only [lC,lN]
 obtain ⟨a6,k6,rfl,_⟩:=id hT5.form
 refine aY ?_
 refine dV Z (vF Z iO Z)<|aV Z<|aJ Z Z en120 Z (uu en121 hy λ_ _ _ h=>Ah h) ?_
 rintro u7 h' ⟨T7,rfl,hT7⟩
 simp only [lC,lN]
 obtain ⟨a8,k8,rfl,_⟩:=id hT7.form
 refine aY ?_
 refine aV Z<|bg Z Z sz52<|aY ?_
 refine dV Z (vF Z qX Z)<|aV Z<|bg Z Z nk<|aY ?_
 refine bA<|nK [1,2] Z<|nT<|cQ<|sV (af Z tT Z ag) ?_
 refine ai Z Z wG Z Z ?_
 refine sK [2] Z<|cT<|kK (fE (L:=[T5,T7])) ?_
 simp only [lC,lN]
 exact bE (.cellN Z tT Z slq .nil) ⟨Res.star [T5,T7],Z,_,Z,_,_,Z,hT5.up' (bH slq),hT7.up'<|bH slq⟩ sbr
theorem Ai {x:Cm} (h:Enc.rep X us x):Reads prog 195 #[.agg us.toArray] [] (.bool x.dfd):=by
 obtain ⟨ms,rfl,hm⟩:=h
 obtain ⟨x2,x5,xy,x11,x12,x13,rfl,_⟩:=bZ hm
 unfold fI
 refine aL (n:=7) func195 Z Z (len Z) λhr w0=>?_
 refine cQ (aP Z Z λb1=>?_)
 refine sA Z<|sK [1,2] Z<|cQ<|sV (vF Z dW Z)<|sV (vF Z o7 Z)<|sV (vY Z ld3) ?_
 refine sV (dE Z Z)<|sA Z<|sK [2] Z<|cT ?_
 exact aj Z ⟨Z,Z⟩ sbq
theorem l9 {l:FS} {fv:Value} {n:Nm} (hv:Ls X v l) (hf:fv.oneCell'=true):Ct prog 56 #[.agg #[v,fv],sv n] [X] λu h'=>h'=[X]/\∃ us,u = .agg us.toArray/\Enc.rep X us (ae l n):=by
 obtain ⟨a,cap,rfl,_⟩:=id hv.form
 refine aL (n:=15) func56 Z Z (len Z) λhr w0=>?_
 refine cQ (aP Z Z λb2=>?_)
 refine ak oz λb4=>?_
 refine sK [1,2,4] Z<|cQ<|sV (vF Z J2 Z)<|sV (vY Z ld22) ?_
 refine sM Z<|aJ Z Z en117 Z (uq (n:=n) hv) ?_
 rintro u h' ⟨rfl,us,rfl,hr⟩
 simp only [lC,lN]
 have hl:us.length=7:=Enc.len hr
 have ho:=Enc.ones hr
 refine sM Z<|sV (ah Z Z)<|sV (ah Z Z) (ak oz λb5=>?_)
 refine ai (hl:=by rw [hl]; rfl) Z Z mq hl ho ?_
 refine sA Z<|sK [4,5] Z<|cQ<|sV (af Z gL hl ag) ?_
 refine ai (hl:=by rw [hl]; rfl) Z Z mq hl ho ?_
 refine sK [4] Z<|cT ?_
 exact bE (.cellN Z gL hl slq .nil) ⟨Z,us,Z,hr⟩ sbr
theorem uw {p:Pt} {n:Nm} (h:Enc.rep X us p):Ct prog 173 #[.agg us.toArray,sv n] [X] λu h'=>h'=[X]/\u=sv (bN p n):=by
 obtain ⟨x1,x2,x3,x4,x5,rfl,h1,h2,h3,h4,h5⟩:=h
 obtain ⟨a,cap,rfl,_⟩:=id h2.form
 refine aL (n:=18) func173 Z Z (len Z) λhr w0=>?_
 refine cQ (aP Z Z λb2=>?_)
 refine sA Z<|sK [1,2,4] Z<|cS<|cQ<|sV (vF Z zK Z)<|sV (vY Z ld86) ?_
 refine sM Z<|aJ Z Z en241 Z (IC (n:=n) h2) ?_
 rintro u h' ⟨rfl,us,rfl,hr⟩
 simp only [lC,lN]
 have hu:us=[sv ((p.ren.find? λc=>c.fro == n).getD pn0).fro,sv ((p.ren.find? λc=>c.fro == n).getD pn0).to]:=hr
 subst hu
 unfold bN
 refine sM Z<|sV (ah Z Z)<|sV (ah Z Z) (ak Fu λb5=>?_)
 refine ai Z Z zD Z Z ?_
 cases p.ren.find? λc=>c.fro == n with
 | none =>
  refine sA Z<|sK [1,4,5,6] Z<|cQ<|sM Z<|sK [1,4,5,14] Z<|aH Z ?_
  refine cK<|xT<|cQ<|sM Z<|sA Z<|sK [4] Z<|cT ?_
  exact aj Z ⟨Z,Z⟩ sbq
 | some x =>
  refine sA Z<|sK [1,4,5,6] Z<|cQ<|sM Z<|sK [1,4,5,14] Z<|aQ Z ?_
  refine cQ<|sV (vF Z J5 Z)<|sV (vY Z ld9) ?_
  refine sA Z<|sK [4] Z<|cT<|xR ?_
  exact aj Z ⟨Z,Z⟩ sbq
end
section
variable {X:Res} {v v':Value} {us us':List Value}
theorem IL {f:Fm} {b3:Nat} {t:Kt} {x:Value} (h:Enc.rep X us f):Reads prog 186 #[.agg us.toArray,.pointer (some ⟨b3,0,none⟩)] [pt b3 (cl (tyC t x) 73)] (.bool (f.name == t.name)):=by
 have h:us=[sv f.name,sv f.bound]:=h
 subst h
 unfold tyC
 refine aL (n:=9) func186 Z Z (len Z) λhr w0=>?_
 refine cQ (aP Z Z λb2=>?_)
 refine sA Z<|sK [1,2,3] Z<|cQ<|sV (vF Z JZ Z)<|sV (vY Z ld9) ?_
 refine sV (vF Z zJ Z)<|sV (vY Z ld9) ?_
 refine sV (gq Z Z)<|sA Z<|sK [3] Z<|cT ?_
 exact aj Z ⟨Z,Z⟩ sbq
theorem Oi {F:List Fm} {A:List Kt} {k:Int} {n:Nm} {az:List Kt} {w p:Bool}:dh F A (.mk k n az w p)=match (if k=4 then oD F A n else none) with
  | some t=>t.flag w p
  | none=>.mk k n (az.map (dh F A)) w p:=by
 rw [dh,Cw]; rfl
theorem xU {F:List Fm} {A:List Kt} (hl:F.length=A.length) (n:Nm):(D6 F n=none/\oD F A n=none)∨∃ i a,D6 F n=some i/\A[i]? = some a/\oD F A n=some a/\i<A.length:=by
 cases h:D6 F n with
 | none=>left; exact ⟨rfl,by unfold oD; rw [h]; rfl⟩
 | some i =>
  right
  have hi:i<F.length:=(List.findIdx?_eq_some_iff_getElem.1 h).1
  have hi':i<A.length:=by omega
  exact ⟨i,A[i],Z,Zy hi',by unfold oD; rw [h,Option.bind_some,Zy hi'],hi'⟩
theorem ixI_ge {o:Option Nat}:decide ((0:Int)≤ixI o)=o.isSome:=by
 cases o with
 | none=>rfl
 | some i=>exact decide_eq_true (Int.natCast_nonneg i)
theorem IM {L k:SH} {T:Res} {L':SH} (s:Sel L T L') (p:Addr) (u:Value) (h:Rd (Res.star (T::k)) p u):Rd (Res.star (Res.star L::k)) p u:=λw hw=>by
 have h1:bu (hp w) (L++k):=dD.1 hw
 have h2:bu (hp w) ((T::L')++k):=(bu.perm<|s.perm.append_right k).1 h1
 have h3:bu (hp w) (L'++(T::k)):=(bu.perm (List.perm_middle (l₁ := L')).symm).1 h2
 exact h w (bu.append.1 h3).2.1
theorem Gt {F : List Fm} {A : List Kt} {fv av : Value} (hl : F.length = A.length) (hF : Ls X fv F) (hA : Ls X av A) : ∀ (d : Nat) (t : Kt) (us : List Value), t.depth ≤ d -> Ty X us t ->
  CtN prog 115 #[.agg us.toArray,fv,av] [X] λu T=>∃ us':List Value,u = .agg us'.toArray/\Ty (Res.star [T,X]) us' (dh F A t)
 | 0,s,_,hd,_=>by cases s; simp [Kt.depth] at hd
 | d + 1, .mk k n az w p, us, hd, hs => by
  obtain ⟨x,rfl,hx⟩:=ek hs
  have hx:Tys X x az:=hx
  have hR:∀ a∈az,∀ us,Ty X us a->CtN prog 115 #[.agg us.toArray,fv,av] [X] λu T=>∃ us':List Value,u = .agg us'.toArray/\Ty (Res.star [T,X]) us' (dh F A a):=λa ha us h=>Gt hl hF hA d a us (by have:=jM (t:=.mk k n az w p) ha; omega) h
  have hml:maxLen=9223372036854775807:=rfl
  have hrb:reachBytes=140737488351232:=rfl
  obtain ⟨xa,xc,rfl,hlc,hcm,hnone⟩:=id hx.form
  obtain ⟨fa,fc,hfv,_⟩:=id hF.form
  obtain ⟨aa,ac,hav,_⟩:=id hA.form
  have hbb:az.length * 56≤reachBytes:=hx.sizes
  have htell:∀ b3:Nat,∀ f∈F,∀ us,Enc.rep (Res.star [pt b3 (cl (tyC (.mk k n az w p)<|.slice xa az.length xc) 73),X]) us f->Reads prog 186 (#[]++([.agg us.toArray]:List Value).toArray ++ #[.pointer (some ⟨b3,0,none⟩)]) [Res.star [pt b3 (cl (tyC (.mk k n az w p)<|.slice xa az.length xc) 73),X]] (.bool (f.name == n)):=λb3 f _ us h =>
   lq (Reads.more (IL (b3:=b3) (t:=.mk k n az w p) h)<|.cons .here .nil)
  rw [Oi]
  show CtN _ _ #[.agg #[.int .i64 k,sv n,.slice xa az.length xc,.bool w,.bool p],_,_] _ _
  have htell:∀ b3:Nat,∀ f∈F,∀ us,Enc.rep (Res.star [pt b3 (cl [.int .i64 k,sv n,.slice xa az.length xc,.bool w,.bool p] 73),X]) us f->Reads prog 186 (#[]++([.agg us.toArray]:List Value).toArray ++ #[.pointer (some ⟨b3,0,none⟩)]) [Res.star [pt b3 (cl [.int .i64 k,sv n,.slice xa az.length xc,.bool w,.bool p] 73),X]] (.bool (f.name == n)):=htell
  refine aL (n:=69) func115 Z Z (len Z) λhr w0=>?_
  refine cQ (aP Z Z λb3=>?_)
  refine ak zM λb6=>?_
  refine sK [1,2,3,6] Z<|cS<|cQ<|sM Z<|sV (cz Z Z)<|aX Z Z en185 Z ((eU<|Lx (X:=Res.star [pt b3 (cl [.int .i64 k,sv n,.slice xa az.length xc,.bool w,.bool p] 73),X]) (g:=λf:Fm=>f.name == n) (hF.up'<|bH<|.there .here) en186<|htell b3)) ?_
  rw [show List.findIdx? (λf:Fm=>f.name == n) F=D6 F n from rfl]
  refine sA Z<|sK [1,2,3,6,7] Z<|cQ<|sV (vF Z qY Z)<|sV (vY Z ld3) ?_
  refine sV (dE Z Z)<|sM Z<|bf (k:=7) (d:=21) (v:=.bool (k == 4 && decide ((0:Int)≤ixI (D6 F n)))) (λhcut=>aG (b:=(k == 4)) true (λhg=>?_)<|λhg=>?_) ?_
  ·refine aB Z Z hg ?_
   refine aB Z Z hg ?_
   refine sV (vP (bO Z hg) Z) ?_
   exact hcut _ uG
  ·refine sG Z (bG Z hg) (vM Z)<|sG Z (bG Z hg) (qh Z Z)<|sV (vQ (bO Z hg) Z) ?_
   exact hcut _ uG
  rw [ixI_ge]
  by_cases hq:k=4/\(oD F A n).isSome=true
  ·obtain ⟨hk,hac⟩:=hq
   rcases xU hl n with ⟨_,h2⟩ | ⟨j,a,hj,haj,hac2,hlt⟩
   ·rw [h2] at hac; cases hac
   rw [if_pos hk,hac2,hj]
   rw [show (k == 4 && (some j).isSome)=true by rw [hk]; rfl]
   obtain ⟨b,o,cap2,us,e1,hus,hrd,hta⟩:=hA.at haj
   rw [hav] at e1
   obtain ⟨rfl,rfl⟩:aa=some ⟨b,o,none⟩/\ac=cap2:=by cases e1; exact ⟨rfl,rfl⟩
   have hone:=Enc.ones hta
   obtain ⟨y,rfl,hya⟩:=ek hta
   obtain ⟨ya,yc,rfl,_⟩:=id hya.form
   unfold tyC at hrd hone
   refine sK [1,2,3,6,7,21] Z<|aQ Z ?_
   refine cQ<|sM Z<|sM Z<|sV (vI (k:=j) (congrArg some hav) Z yt Z hlt Z)<|sV (af Z fD Z hrd) ?_
   refine ak zM λb8=>?_
   refine ai Z Z nY Z hone ?_
   refine sK [1,2,3,6,8] Z<|cS<|jr (ork [(0,2),(6,2)]<|.two 1 (ork [(2,2),(3,2),(4,1),(5,2),(7,0),(8,2),(9,2),(10,1),(11,2),(12,2),(13,0),(14,2),(15,0)] .nil) 7<|ork [(1,0),(2,2),(3,2),(4,1),(5,2),(8,2),(9,2),(10,1),(11,2),(12,2),(13,0),(14,2),(15,0)] .nil) (λi => !(Nat.beq i 1 || Nat.beq i 15)) [pt b3 (cl [.int .i64 k,sv n,.slice xa az.length xc,.bool w,.bool p] 73)] mixed Zz ?_
   refine dV Z (vF Z o5 Z)<|dV Z (vF Z o6 Z)<|mZ Z Z ?_ ?_
   ·refine sV (vY Z ld4)<|aY ?_
    refine dV Z (vM Z)<|DC (k:=3) (d:=31) (v:=.bool (a.void || w)) (λhcut=>aG (b:=(a.void)) false (λhg=>?_)<|λhg=>?_) ?_
    ·refine gP Z Z Z hg ?_
     refine jh Z Z Z hg ?_
     refine dV Z (vQ (bO Z hg) Z) ?_
     exact hcut _ uG
    ·refine cu Z Z (bG Z hg) (vF Z o5 Z)<|gX Z Z (bG Z hg) (vY Z ld4) ?_
     refine dV Z (vP (bO Z hg) Z) ?_
     exact hcut _ uG
    refine aV Z<|sV (vY Z ld4)<|aY ?_
    refine dV Z (vM Z)<|DC (k:=3) (d:=37) (v:=.bool (a.sep || p)) (λhcut=>aG (b:=(a.sep)) false (λhg=>?_)<|λhg=>?_) ?_
    ·refine gP Z Z Z hg ?_
     refine jh Z Z Z hg ?_
     refine dV Z (vQ (bO Z hg) Z) ?_
     exact hcut _ uG
    ·refine cu Z Z (bG Z hg) (vF Z o6 Z)<|gX Z Z (bG Z hg) (vY Z ld4) ?_
     refine dV Z (vP (bO Z hg) Z) ?_
     exact hcut _ uG
    refine dV Z (vF Z o5 Z)<|aV Z<|bg Z Z sz4 ?_
    refine aY ?_
    refine dV Z (vF Z o6 Z)<|aV Z<|bg Z Z sz4<|aY ?_
    refine bA<|nK [1,2,3,6,8] Z<|nT<|cQ<|sV (af Z fD Z ag) ?_
    refine ai Z Z nY Z Z ?_
    refine sK [6] Z<|cT<|xR<|jG (eQ (L:=[])) ?_
    exact bE (.cellN Z fD Z slq .nil) ⟨Res.star [],Z,_,Z,fZ (t:=a.flag w p) Z<|hya.up'<|bH slq⟩ sbr
   ·refine sV (vY Z ld4)<|aY ?_
    refine aV Z<|sV (vY Z ld4)<|aY ?_
    refine dV Z (vM Z)<|DC (k:=3) (d:=31) (v:=.bool (a.void || w)) (λhcut=>aG (b:=(a.void)) false (λhg=>?_)<|λhg=>?_) ?_
    ·refine gP Z Z Z hg ?_
     refine jh Z Z Z hg ?_
     refine dV Z (vQ (bO Z hg) Z) ?_
     exact hcut _ uG
    ·refine cu Z Z (bG Z hg) (vF Z o5 Z)<|gX Z Z (bG Z hg) (vY Z ld4) ?_
     refine dV Z (vP (bO Z hg) Z) ?_
     exact hcut _ uG
    refine dV Z (vM Z)<|DC (k:=3) (d:=37) (v:=.bool (a.sep || p)) (λhcut=>aG (b:=(a.sep)) false (λhg=>?_)<|λhg=>?_) ?_
    ·refine gP Z Z Z hg ?_
     refine jh Z Z Z hg ?_
     refine dV Z (vQ (bO Z hg) Z) ?_
     exact hcut _ uG
    ·refine cu Z Z (bG Z hg) (vF Z o6 Z)<|gX Z Z (bG Z hg) (vY Z ld4) ?_
     refine dV Z (vP (bO Z hg) Z) ?_
     exact hcut _ uG
    refine dV Z (vF Z o5 Z)<|aV Z<|bg Z Z sz4 ?_
    refine aY ?_
    refine dV Z (vF Z o6 Z)<|aV Z<|bg Z Z sz4<|aY ?_
    refine bA<|nK [1,2,3,6,8] Z<|nT<|cQ<|sV (af Z fD Z ag) ?_
    refine ai Z Z nY Z Z ?_
    refine sK [6] Z<|cT<|xR<|jG (eQ (L:=[])) ?_
    exact bE (.cellN Z fD Z slq .nil) ⟨Res.star [],Z,_,Z,fZ (t:=a.flag w p) Z<|hya.up'<|bH slq⟩ sbr
  ·have hne:(k == 4 && (D6 F n).isSome)=false:=by
    rcases xU hl n with ⟨h1,h2⟩ | ⟨j,a,hj,haj,hac2,hlt⟩
    ·rw [h1]; simp
    ·rw [hac2] at hq
     have hk:k≠4:=λe=>hq ⟨e,rfl⟩
     simp [hk]
   have hm:(match (if k=4 then oD F A n else none) with
     | some t=>t.flag w p
     | none=>Kt.mk k n (az.map (dh F A)) w p) = .mk k n (az.map (dh F A)) w p:=by
    by_cases hk:k=4
    ·rw [if_pos hk]
     cases hac:oD F A n with
     | none=>rfl
     | some t=>rw [hac] at hq; exact absurd ⟨hk,rfl⟩ hq
    ·rw [if_neg hk]
   rw [hm,hne]
   refine sK [1,2,3,6,7,21] Z<|aH Z ?_
   refine cK<|xT<|cQ<|sV (vF Z ja Z)<|sV (vY Z oZ) ?_
   refine sV (aF Z underlying71) ?_
   have hsn:∀ i (h:i<az.length),(az.take (i+1)).map (dh F A)=(az.take i).map (dh F A)++[dh F A az[i]]:=λi h=>by rw [List.take_add_one,Zy h,List.map_append]; rfl
   refine NL (n:=az.length) Z Z Z underlying71 JX Z (by decide) (by omega) (by omega) (ltn Z) λb9=>?_
   refine sA Z<|sK [1,2,3,6,9] Z<|cS<|cQ<|sV (vF Z ja Z)<|sV (vY Z oZ) ?_
   refine sV (aF Z underlying71)<|sM Z<|sK [1,2,3,6,9,46,47,48] Z<|cB<|dK (eQ (L:=[]))<|aW (σ := List (List Value)×Res×Nat) (λq=>[(1,fv),(2,av),(3,.pointer (some ⟨b3,0,none⟩)),(6,.pointer (some ⟨b6,0,none⟩)),(9,.slice (some ⟨b9,0,none⟩) az.length az.length),(46,.slice xa az.length xc),(47,.int .i64 az.length),(48,.int .i64 (q.2.2:Nat))]) (λq=>pt b9 (cl q.1.flatten 73)::q.2.1::X::pt b3 (cl [.int .i64 k,sv n,.slice xa az.length xc,.bool w,.bool p] 73)::pt b6 (cl [.int .i64 0,sv [],.slice none 0 0,.bool false,.bool false] 73)::hr) (λq=>q.2.2≤az.length/\q.1.length=az.length/\(∀ r∈q.1,r.length=5)/\∀ (j:Nat) us (hj:j<az.length),j<q.2.2->q.1[j]? = some us->Ty (Res.star [q.2.1,X]) us (dh F A az[j])) (λq=>az.length - q.2.2) (List.replicate az.length [.int .i64 0,sv [],.slice none 0 0,.bool false,.bool false],Res.star [],0) ⟨Nat.zero_le _,by simp,λr hr=>by rw [List.eq_of_mem_replicate hr]; rfl,λj us _ hj=>absurd hj<|Nat.not_lt_zero _⟩ ?_
   rintro ⟨rows,T,i⟩ ⟨hi,hrl,hr5,hpc⟩
   simp only at hi hrl hr5 hpc
   dsimp only
   refine cQ<|sV (aN Z Z)<|sN<|nT<|cS<|cC Z (λhd=>?_)<|λhd=>?_
   ·have hlt:i<az.length:=Zx
    have hmem:=List.getElem_mem hlt
    obtain ⟨b,o,cap2,us,e1,hus,hrd,hta⟩:=hx.at<|Zy hlt
    cases e1
    have hus:us.length=5:=hus
    have hone:=Enc.ones hta
    have hca:=hR _ hmem us hta
    refine cK<|xT<|cS<|cB<|cQ<|sM Z<|sV (vI (k:=i) Z Z yt Z hlt Z)<|sV (af Z fD hus hrd) ?_
    refine ak zM λb11=>?_
    refine sA Z<|ai (hl:=by rw [hus]; rfl) Z Z nY hus hone ?_
    refine sK [1,2,3,6,9,10,11,46,47,48] Z<|cR<|sM Z<|sM Z<|sV (af Z fD hus ag) ?_
    refine sM Z<|sM Z<|aJ Z Z Kb Z (hca) ?_
    rintro u h' ⟨T2,rfl,us2,rfl,hT2⟩
    simp only [lC,lN]
    have h5:us2.length=5:=Enc.len hT2
    have h1:=Enc.ones hT2
    refine sV (vI (k:=i) Z Z yt Z hlt Z)<|iF Z Z nY h5 (ones h1) (show Sel _ (pt b9<|cl rows.flatten 73) _ from slq) (by rw [zX hr5,hrl,h5]; omega) ?_
    rw [show 0+i * 5=i * 5 by omega,mR h5 hr5 (by omega)]
    refine sN<|nK [1,2,3,6,9,46,47,48] Z<|ax<|xB<|xT<|cR<|sV (aI Z Z Z0)<|sM Z<|sN<|nK [1,2,3,6,9,46,47,48] Z<|ax<|kK (fE (L:=[T,T2])) ?_
    simp only [lC,lN]
    refine aM (rows.set i us2,Res.star [T,T2],i+1) ⟨hlt,by simp [hrl],λr hr=>?_,λj us3 hjl hj g1=>?_⟩<|Nat.sub_lt_sub_left hlt<|Nat.lt_succ_self i
    ·rcases List.mem_or_eq_of_mem_set hr with h | h
     ·exact hr5 r h
     ·rw [h]; exact h5
    ·by_cases hji:j=i
     ·subst hji
      rw [List.getElem?_set_self (by omega)] at g1
      cases g1
      exact Enc.up (λp u h=>IM (.there .here) p u h) hT2
     ·rw [List.getElem?_set_ne (Ne.symm hji)] at g1
      have hj:j<i+1:=hj
      exact Enc.up (λp u h=>IM .here p u h)<|hpc j us3 hjl (by omega) g1
   ·have hie:i=az.length:=by
     have:¬ i<az.length:=Zx
     omega
    subst hie
    refine aC<|xE<|xE<|xY<|xT<|cQ<|sM Z<|sM Z<|sV (aF Z underlying71)<|sM Z<|sV (aF Z underlying71)<|zR (zS (b:=b9) (n:=az.length) (sz:=5) (E:=73) rows Z hr5 hrl<|by omega) ?_
    simp only [lC,lN]
    refine oF (r:=VR (.slice (some ⟨b9,0,none⟩) az.length az.length) 73 5 rows) slq λhok=>?_
    refine zR (fE (L:=[VR (.slice (some ⟨b9,0,none⟩) az.length az.length) 73 5 rows,T])) ?_
    simp only [lC,lN]
    have hls:Tys (Res.star [Res.star [VR (.slice (some ⟨b9,0,none⟩) az.length az.length) 73 5 rows,T],X]) (.slice (some ⟨b9,0,none⟩) az.length az.length) (az.map<|dh F A):=Rws.ls (E:=73) (rows:=rows) ⟨by simp [hrl],λj us x h1 h2=>by
     have hjl:j<az.length:=by have:=(List.getElem?_eq_some_iff.1 h1).1; omega
     rw [List.getElem?_map,Zy hjl] at h2
     cases h2
     exact Enc.up (λp u h=>IM (.there .here) p u h) (hpc j us hjl hjl h1)⟩ hok (λp u h=>bH .here p u (bH .here p u h)) (by rw [List.length_map]; exact hbb)
    refine sV (Ae (hi:=az.length) (mx:=az.length) Z Z Z yt Z Z (Nat.le_refl _)<|Nat.le_refl _)<|sV (vF Z ja Z)<|bg Z Z sz71 ?_
    refine sK [3,6] Z<|cQ<|sV (af Z fD Z ag) ?_
    refine ai Z Z nY Z Z ?_
    refine sK [6] Z<|cT ?_
    exact bE (.cellN Z fD Z slq .nil) ⟨Res.star [VR (.slice (some ⟨b9,0,none⟩) az.length az.length) 73 5 rows,T],Z,_,Z,fZ (t:=.mk k n (az.map<|dh F A) w p) Z (by rw [show (Kt.mk k n (az.map<|dh F A) w p).args=az.map (dh F A) from Z]; simpa using hls)⟩ sbr
theorem Aj {F:List Fm} {A:List Kt} {fv av:Value} {t:Kt} (hl:F.length=A.length) (hF:Ls X fv F) (hA:Ls X av A) (h:Ty X us t) :
  CtN prog 115 #[.agg us.toArray,fv,av] [X] λu T=>∃ us':List Value,u = .agg us'.toArray/\Ty (Res.star [T,X]) us' (dh F A t):=Gt hl hF hA t.depth t us (Nat.le_refl _) h
theorem tpw_unf (t:Kt):tpw t=tpws 1 t.args:=by cases t; rfl
theorem Gu : ∀ (d : Nat) (X : Res) (t : Kt) (us : List Value), t.depth ≤ d -> Ty X us t -> Reads prog 134 #[.agg us.toArray] [X] (.int .i64 (tpw t))
 | 0,_,s,_,hd,_=>by cases s; simp [Kt.depth] at hd
 | d + 1, X, t, us, hd, hs => by
  obtain ⟨x,rfl,hx⟩:=ek hs
  have hR:∀ a∈t.args,∀ us,Ty X us a->Reads prog 134 #[.agg us.toArray] [X] (.int .i64<|tpw a):=λa ha us h=>Gu d X a us (by have:=jM ha; omega) h
  have hml:maxLen=9223372036854775807:=rfl
  obtain ⟨xa,xc,rfl,hlc,hcm,_⟩:=id hx.form
  rw [tpw_unf]
  unfold tyC
  refine aL (n:=19) func134 Z Z (len Z) λhr w0=>?_
  refine cQ (aP Z Z λb1=>?_)
  refine sA Z<|sK [1,2] Z<|cQ<|sA Z<|sN<|nT<|cS<|cQ<|sV (vF Z ja Z)<|sV (vY Z oZ) ?_
  refine sV (aF Z underlying71)<|sM Z<|sK [2,3,7,8,9] Z<|cB<|aW (σ := Int×Nat) (λq=>[(3,.int .i64 q.1),(7,.slice xa t.args.length xc),(8,.int .i64 t.args.length),(9,.int .i64 (q.2:Nat))]) (λ_=>X::hr) (λq=>q.2≤t.args.length/\tpws q.1 (t.args.drop q.2)=tpws 1 t.args) (λq=>t.args.length - q.2) (1,0) ⟨Nat.zero_le _,Z⟩ ?_
  rintro ⟨n,i⟩ ⟨hi,hn⟩
  simp only at hi hn
  dsimp only
  refine cQ<|sV (aN Z Z)<|sN<|nT<|cS<|cC Z (λhd2=>?_)<|λhd2=>?_
  ·have hlt:i<t.args.length:=Zw
   obtain ⟨b,o,cap2,us,e1,hus,hrd,ht⟩:=hx.at<|Zy hlt
   cases e1
   have hus:us.length=5:=hus
   have hone:=Enc.ones ht
   have hca:=hR _ (List.getElem_mem hlt) us ht
   have hdr:t.args.drop i=t.args[i]::t.args.drop (i+1):=by rw [List.getElem_cons_drop]
   rw [hdr,tpws] at hn
   refine cK<|xT<|cS<|cB<|cQ<|sV (vI (k:=i) Z Z yt Z hlt Z)<|sV (af Z fD hus hrd) ?_
   refine ak zM λb5=>?_
   refine ai (hl:=by rw [hus]; rfl) Z Z nY hus hone ?_
   refine sK [3,5,7,8,9] Z<|cR<|sM Z<|sV (af Z fD hus ag) ?_
   refine aX Z Z en134 Z (hca) ?_
   refine sV (Dw Z Z)<|sA Z<|sN<|nK [3,7,8,9] Z<|ax<|xB<|xT<|cR<|sV (aI Z Z (by unfold I64; omega)) ?_
   refine sM Z<|sN<|nK [3,7,8,9] Z<|ax ?_
   refine aM (IntKind.i64.wrap (n+tpw t.args[i]),i+1) ⟨hlt,hn⟩<|Nat.sub_lt_sub_left hlt<|Nat.lt_succ_self i
  ·have hil:i=t.args.length:=by
    have:¬ i<t.args.length:=Zw
    omega
   rw [hil,List.drop_length,tpws] at hn
   rw [<- hn]
   refine aC<|xE<|xE<|xY<|xT<|cQ<|sM Z<|sA Z<|sK [2] Z<|cT ?_
   exact aj Z ⟨Z,Z⟩ sbq
theorem Gv {t:Kt} (h:Ty X us t):Reads prog 134 #[.agg us.toArray] [X] (.int .i64 (tpw t)):=Gu t.depth X t us (Nat.le_refl _) h
theorem IP {a:Vr} (h:Enc.rep X us a):Reads prog 136 #[.agg us.toArray] [X] (.bool (decide (400<tpw a.ty))):=by
 obtain ⟨x,rfl,hx⟩:=Ei h
 have hp:=Gv<|fZ (t:=a.ty) rfl hx
 unfold tyC at hp
 refine aL (n:=7) func136 Z Z (len Z) λhr w0=>?_
 refine cQ (aP Z Z λb1=>?_)
 refine sA Z<|sK [1,2] Z<|cQ<|sV (vF Z jV Z)<|sV (af Z fD Z<|bD (us:=[sv a.name,.int .i64 a.ty.kind,sv a.ty.name,x,.bool a.ty.void,.bool a.ty.sep]) (vs:=[.int .i64 a.ty.kind,sv a.ty.name,x,.bool a.ty.void,.bool a.ty.sep]) (k:=1) ag Z) ?_
 refine aX Z Z en134 Z (hp) ?_
 refine sV (bW Z Z)<|sA Z<|sK [2] Z<|cT ?_
 exact aj Z ⟨Z,Z⟩ sbq
theorem IQ {m:Mb} (h:Enc.rep X us m):Reads prog 133 #[.agg us.toArray] [X] (.bool (decide (400<tpw m.ty) || m.args.any λv=>decide (400<tpw v.ty))):=by
 obtain ⟨x2,x5,xy,x11,x12,x13,rfl,hx2,hx5,hxy,hx11,hx12,hx13⟩:=bZ h
 have hp:=Gv<|fZ (t:=m.ty) rfl hxy
 unfold tyC at hp
 unfold fI
 refine aL (n:=12) func133 Z Z (len Z) λhr w0=>?_
 refine cQ (aP Z Z λb1=>?_)
 refine sA Z<|sK [1,2] Z<|cQ<|sV (vF Z nD Z)<|sV (af Z fD Z<|bD (us:=fI m x2 x5 xy x11 x12 x13) (vs:=[.int .i64 m.ty.kind,sv m.ty.name,xy,.bool m.ty.void,.bool m.ty.sep]) (k:=6) ag Z) ?_
 refine aX Z Z en134 Z (hp) ?_
 refine sV (bW Z Z)<|sM Z<|bf (k:=9) (d:=11) (v:=.bool (decide (400<tpw m.ty) || m.args.any λv=>decide (400<tpw v.ty))) (λhcut=>aG (b:=(decide (400<tpw m.ty))) false (λhg=>?_)<|λhg=>?_) ?_
 ·refine aB Z Z hg ?_
  iterate 2 refine aB rfl rfl hg ?_
  refine sV (vQ (bO Z hg) Z) ?_
  exact hcut _ uG
 ·refine sG Z (bG Z hg) (vF Z jL Z)<|sG Z (bG Z hg) (vY Z qU) ?_
  refine bJ Z (bG Z hg) Z Z en135 Z (LF hx5 en136<|λ_ _ _ h=>IP h) ?_
  refine sV (vP (bO Z hg) Z) ?_
  exact hcut _ uG
 refine sA Z<|sK [2] Z<|cT ?_
 exact aj Z ⟨Z,Z⟩ sbq
theorem Ky {ms:List Mb} (hv:Ls X v ms):Reads prog 59 #[v] [X] (.bool (over ms)):=by
 obtain ⟨a,cap,rfl,hlc,hcm,_⟩:=id hv.form
 have hov:over ms=(decide ((60:Int)<(ms.length:Nat)) || ms.any λm=>decide (400<tpw m.ty) || m.args.any λv=>decide (400<tpw v.ty)):=by
  unfold over
  rw [show decide (60<ms.length)=decide ((60:Int)<(ms.length:Nat)) by rw [Bool.eq_iff_iff]; simp; omega]
 rw [hov]
 refine aL (n:=10) func59 Z Z (len Z) λhr w0=>?_
 refine cQ<|sA Z<|sN<|nT<|cQ<|sM Z<|sV (aF Z underlying52)<|sV (bW Z Z)<|sM Z<|bf (k:=7) (d:=9) (v:=.bool (decide ((60:Int)<(ms.length:Nat)) || ms.any λm=>decide (400<tpw m.ty) || m.args.any λv=>decide (400<tpw v.ty))) (λhcut=>aG (b:=(decide ((60:Int)<(ms.length:Nat)))) false (λhg=>?_)<|λhg=>?_) ?_
 ·refine aB Z Z hg ?_
  refine aB Z Z hg ?_
  refine sV (vQ (bO Z hg) Z) ?_
  exact hcut _ uG
 ·refine sG Z (bG Z hg) (vM Z)<|bJ Z (bG Z hg) Z Z en132 Z (LD hv en133<|λ_ _ _ h=>IQ h) ?_
  refine sV (vP (bO Z hg) Z) ?_
  exact hcut _ uG
 refine sA Z<|sK [2] Z<|cT ?_
 exact aj Z ⟨Z,Z⟩ sbq
end
end Go.Fl
