/-
  Package flat,Go's library: slices.Compact and slices.SortFunc at seeds. Conditions: the row is owned.
-/
import Derived.Test.YtknmacdbffgjgaaGreatDoorP5
import Derived.Test.YtknmacdbffgjgaaGreatDoorP3
import Derived.Shelf.SlSortCmp.NoneTotal
set_option linter.unusedVariables false
set_option linter.unusedSimpArgs false
set_option maxRecDepth 100000
set_option maxHeartbeats 16000000
namespace Go.Fl
open Go Go.RowKit Go.Ck Go.Proofs Go.Proofs.Tryz Go.Proofs.YtknmacdbffgjgaaGreatDoor Fx Go.Hr
attribute [local irreducible] Go.Ck.Sub St Cd Xt Nx DrL LsW
def Cpy (α : Type) [Enc α] (K:FuncId):Prop:=∀ (X:Res) (a : α) (us:List Value),Enc.rep X us a->CtN prog K #[.agg us.toArray] [X] λu T=>∃ us':List Value,u = .agg us'.toArray/\Enc.rep T us' a

theorem len2 {l:List Value} (h:l.length=2):∃ c0 c1,l=[c0,c1]:=by
 match l,h with
 | [c0,c1],_=>exact ⟨c0,c1,rfl⟩
theorem len4 {l:List Value} (h:l.length=4):∃ c0 c1 c2 c3,l=[c0,c1,c2,c3]:=by
 match l,h with
 | [c0,c1,c2,c3],_=>exact ⟨c0,c1,c2,c3,rfl⟩
theorem len5 {l:List Value} (h:l.length=5):∃ c0 c1 c2 c3 c4,l=[c0,c1,c2,c3,c4]:=by
 match l,h with
 | [c0,c1,c2,c3,c4],_=>exact ⟨c0,c1,c2,c3,c4,rfl⟩
theorem len6 {l:List Value} (h:l.length=6):∃ c0 c1 c2 c3 c4 c5,l=[c0,c1,c2,c3,c4,c5]:=by
 match l,h with
 | [c0,c1,c2,c3,c4,c5],_=>exact ⟨c0,c1,c2,c3,c4,c5,rfl⟩
theorem len14 {l:List Value} (h:l.length=14):∃ c0 c1 c2 c3 c4 c5 c6 c7 c8 c9 c10 c11 c12 c13,l=[c0,c1,c2,c3,c4,c5,c6,c7,c8,c9,c10,c11,c12,c13]:=by
 match l,h with
 | [c0,c1,c2,c3,c4,c5,c6,c7,c8,c9,c10,c11,c12,c13],_=>exact ⟨c0,c1,c2,c3,c4,c5,c6,c7,c8,c9,c10,c11,c12,c13,rfl⟩
section
variable {X:Res} {v v':Value} {us us':List Value}
theorem Jf {xs:List Kt} {kf:FuncId} (hE:Ck.Enters prog kf) (hv:Ls X v xs) (hF:∀ a∈xs,∀ us,Enc.rep X us a->CtN prog kf #[.agg us.toArray] [X] λu T=>∃ us':List Value,u = .agg us'.toArray/\Enc.rep T us' a):CtN prog 184 #[v,.func (.func kf) #[] #[]] [X] λu T=>Ls T u xs:=by
 have hml:maxLen=9223372036854775807:=rfl
 have hrb:reachBytes=140737488351232:=rfl
 have hsz:xs.length * 56<=reachBytes:=hv.sizes
 obtain ⟨a,cap,rfl,hlc,hcm,hnone⟩:=hv.form
 refine aJ (n:=22) func184 Z Z (len Z) λhr w0=>?_
 refine cQ<|sA Z<|sN<|nT<|cQ<|sA Z<|sN<|nT<|cS<|cQ<|sM Z<|sV (aC Z underlying71)<|sM Z ?_
 refine sK [1,4,5,8,9,10] Z<|cB<|dY (dn 73 5)<|dY (fw (L:=[]))<|aY (σ := Value×List (List Value)×Res×Nat) (λq=>[(1,.func (.func kf) #[] #[]),(5,q.1),(8,.slice a xs.length cap),(9,.int .i64 xs.length),(10,.int .i64 (q.2.2.2:Nat))]) (λq=>VR q.1 73 5 q.2.1::q.2.2.1::X::hr) (λq=>q.2.2.2<=xs.length/\q.1.oneCell'=true/\Rws q.2.2.1 q.2.1 (xs.take q.2.2.2)) (λq=>xs.length - q.2.2.2) (.slice none 0 0,[],Res.star [],0) ⟨Nat.zero_le _,Z,Rws.nil⟩ ?_
 rintro ⟨w,rows,T,i⟩ ⟨hi,hw,hro⟩
 simp only at hi hw hro
 dsimp only
 refine cQ<|sV (aO Z Z)<|sN<|nT<|cS<|cC Z (λhd=>?_)<|λhd=>?_
 .have hlt:i<xs.length:=Zx
  have hg:=Zy hlt
  have hmem:=List.getElem_mem hlt
  have hsn:xs.take (i+1)=xs.take i++[xs[i]]:=List.take_succ_eq_append_getElem hlt
  obtain ⟨b,o,cap2,us,e1,hus,hrd,ht⟩:=hv.at hg
  cases e1
  generalize xs[i]=x at hg hmem ht hsn
  have hone:=Enc.ones ht
  have hrl:rows.length=i:=by rw [hro.1,List.length_take]; omega
  refine cK<|xT<|cS<|cB<|cQ<|sV (vI (k:=i) Z Z yJ Z hlt Z)<|sV (af Z fM hus hrd) ?_
  refine au Af λb7=>?_
  refine ai (hl:=by rw [hus]; rfl) Z Z oK hus hone ?_
  refine sK [1,5,7,8,9,10] Z<|cR<|sM Z<|sM Z<|sV (af Z fM hus ag) ?_
  refine aH Z Z hE Z ((hF x hmem us ht)) ?_
  rintro u h' ⟨T2,rfl,us2,rfl,hT2⟩
  simp only [lC,lN]
  have hl2:us2.length=5:=Enc.len hT2
  have ho2:=Enc.ones hT2
  obtain ⟨c0,c1,c2,c3,c4,rfl⟩:=len5 hl2
  refine ak (cells:=[c0,c1,c2,c3,c4]) Z underlying71 Kv Z Z Zz (ltn Z) λb62=>?_
  refine eG [[c0,c1,c2,c3,c4]] Z Z underlying71 Kv Z (by decide) (show Sel _ (VR w 73 5 rows) _ from slq) (by simp) Z (λj u2 hu2=>bV<|bZ Zt) Zb (by rw [hrl]; omega) (by rw [hrl]; omega) (ltn Z) λw2 hw2 _=>?_
  refine sA Z<|sN<|nK [1,5,8,9,10] Z<|ax<|xB<|xT<|cR<|sV (aI Z Z Z0)<|sM Z<|sN<|nK [1,5,8,9,10] Z<|ax<|lm (fP (L:=[T,T2])) ?_
  simp only [lC,lN]
  refine aL (w2,rows++[[c0,c1,c2,c3,c4]],Res.star [T,T2],i+1) ⟨hlt,hw2,by rw [hsn]; exact Rws.snoc ⟨hro.1,λj us x h1 h2=>Enc.up (bL .here)<|hro.2 j us x h1 h2⟩ (Enc.up (bL<|.there .here) hT2)⟩<|Nat.sub_lt_sub_left hlt<|Nat.lt_succ_self i
 .have hil:i=xs.length:=by
   have:¬ i<xs.length:=Zx
   omega
  subst hil
  rw [List.take_length] at hro
  refine aB<|xE<|xE<|xY<|xT<|cQ<|sM Z<|sA Z<|sK [4] Z<|cT (eF (r:=VR w 73 5 rows) slq λhok=>?_)
  refine lm (fP (L:=[VR w 73 5 rows,T])) ?_
  simp only [lC,lN]
  have hls:Ls (Res.star [VR w 73 5 rows,T]) w xs:=Rws.ls (E:=73) ⟨hro.1,λj us x h1 h2=>Enc.up (bL<|.there .here)<|hro.2 j us x h1 h2⟩ hok (bL .here) hsz
  exact aj Z ⟨Res.star [VR w 73 5 rows,T],Z,hls⟩ sbq
theorem Jg {xs:List Vr} {kf:FuncId} (hE:Ck.Enters prog kf) (hv:Ls X v xs) (hF:∀ a∈xs,∀ us,Enc.rep X us a->CtN prog kf #[.agg us.toArray] [X] λu T=>∃ us':List Value,u = .agg us'.toArray/\Enc.rep T us' a):CtN prog 175 #[v,.func (.func kf) #[] #[]] [X] λu T=>Ls T u xs:=by
 have hml:maxLen=9223372036854775807:=rfl
 have hrb:reachBytes=140737488351232:=rfl
 have hsz:xs.length * 72<=reachBytes:=hv.sizes
 obtain ⟨a,cap,rfl,hlc,hcm,hnone⟩:=hv.form
 refine aJ (n:=22) func175 Z Z (len Z) λhr w0=>?_
 refine cQ<|sA Z<|sN<|nT<|cQ<|sA Z<|sN<|nT<|cS<|cQ<|sM Z<|sV (aC Z underlying70)<|sM Z ?_
 refine sK [1,4,5,8,9,10] Z<|cB<|dY (dn 132 6)<|dY (fw (L:=[]))<|aY (σ := Value×List (List Value)×Res×Nat) (λq=>[(1,.func (.func kf) #[] #[]),(5,q.1),(8,.slice a xs.length cap),(9,.int .i64 xs.length),(10,.int .i64 (q.2.2.2:Nat))]) (λq=>VR q.1 132 6 q.2.1::q.2.2.1::X::hr) (λq=>q.2.2.2<=xs.length/\q.1.oneCell'=true/\Rws q.2.2.1 q.2.1 (xs.take q.2.2.2)) (λq=>xs.length - q.2.2.2) (.slice none 0 0,[],Res.star [],0) ⟨Nat.zero_le _,Z,Rws.nil⟩ ?_
 rintro ⟨w,rows,T,i⟩ ⟨hi,hw,hro⟩
 simp only at hi hw hro
 dsimp only
 refine cQ<|sV (aO Z Z)<|sN<|nT<|cS<|cC Z (λhd=>?_)<|λhd=>?_
 .have hlt:i<xs.length:=Zx
  have hg:=Zy hlt
  have hmem:=List.getElem_mem hlt
  have hsn:xs.take (i+1)=xs.take i++[xs[i]]:=List.take_succ_eq_append_getElem hlt
  obtain ⟨b,o,cap2,us,e1,hus,hrd,ht⟩:=hv.at hg
  cases e1
  generalize xs[i]=x at hg hmem ht hsn
  have hone:=Enc.ones ht
  have hrl:rows.length=i:=by rw [hro.1,List.length_take]; omega
  refine cK<|xT<|cS<|cB<|cQ<|sV (vI (k:=i) Z Z Aa Z hlt Z)<|sV (af Z vH hus hrd) ?_
  refine au KE λb7=>?_
  refine ai (hl:=by rw [hus]; rfl) Z Z De hus hone ?_
  refine sK [1,5,7,8,9,10] Z<|cR<|sM Z<|sM Z<|sV (af Z vH hus ag) ?_
  refine aH Z Z hE Z ((hF x hmem us ht)) ?_
  rintro u h' ⟨T2,rfl,us2,rfl,hT2⟩
  simp only [lC,lN]
  have hl2:us2.length=6:=Enc.len hT2
  have ho2:=Enc.ones hT2
  obtain ⟨c0,c1,c2,c3,c4,c5,rfl⟩:=len6 hl2
  refine ak (cells:=[c0,c1,c2,c3,c4,c5]) Z underlying70 Ez Z Z Zz (ltn Z) λb62=>?_
  refine eG [[c0,c1,c2,c3,c4,c5]] Z Z underlying70 Ez Z (by decide) (show Sel _ (VR w 132 6 rows) _ from slq) (by simp) Z (λj u2 hu2=>bV<|bZ Zt) Zb (by rw [hrl]; omega) (by rw [hrl]; omega) (ltn Z) λw2 hw2 _=>?_
  refine sA Z<|sN<|nK [1,5,8,9,10] Z<|ax<|xB<|xT<|cR<|sV (aI Z Z Z0)<|sM Z<|sN<|nK [1,5,8,9,10] Z<|ax<|lm (fP (L:=[T,T2])) ?_
  simp only [lC,lN]
  refine aL (w2,rows++[[c0,c1,c2,c3,c4,c5]],Res.star [T,T2],i+1) ⟨hlt,hw2,by rw [hsn]; exact Rws.snoc ⟨hro.1,λj us x h1 h2=>Enc.up (bL .here)<|hro.2 j us x h1 h2⟩ (Enc.up (bL<|.there .here) hT2)⟩<|Nat.sub_lt_sub_left hlt<|Nat.lt_succ_self i
 .have hil:i=xs.length:=by
   have:¬ i<xs.length:=Zx
   omega
  subst hil
  rw [List.take_length] at hro
  refine aB<|xE<|xE<|xY<|xT<|cQ<|sM Z<|sA Z<|sK [4] Z<|cT (eF (r:=VR w 132 6 rows) slq λhok=>?_)
  refine lm (fP (L:=[VR w 132 6 rows,T])) ?_
  simp only [lC,lN]
  have hls:Ls (Res.star [VR w 132 6 rows,T]) w xs:=Rws.ls (E:=132) ⟨hro.1,λj us x h1 h2=>Enc.up (bL<|.there .here)<|hro.2 j us x h1 h2⟩ hok (bL .here) hsz
  exact aj Z ⟨Res.star [VR w 132 6 rows,T],Z,hls⟩ sbq
theorem Jh {xs:List Ex} {kf:FuncId} (hE:Ck.Enters prog kf) (hv:Ls X v xs) (hF:∀ a∈xs,∀ us,Enc.rep X us a->CtN prog kf #[.agg us.toArray] [X] λu T=>∃ us':List Value,u = .agg us'.toArray/\Enc.rep T us' a):CtN prog 280 #[v,.func (.func kf) #[] #[]] [X] λu T=>Ls T u xs:=by
 have hml:maxLen=9223372036854775807:=rfl
 have hrb:reachBytes=140737488351232:=rfl
 have hsz:xs.length * 56<=reachBytes:=hv.sizes
 obtain ⟨a,cap,rfl,hlc,hcm,hnone⟩:=hv.form
 refine aJ (n:=22) func280 Z Z (len Z) λhr w0=>?_
 refine cQ<|sA Z<|sN<|nT<|cQ<|sA Z<|sN<|nT<|cS<|cQ<|sM Z<|sV (aC Z underlying214)<|sM Z ?_
 refine sK [1,4,5,8,9,10] Z<|cB<|dY (dn 216 4)<|dY (fw (L:=[]))<|aY (σ := Value×List (List Value)×Res×Nat) (λq=>[(1,.func (.func kf) #[] #[]),(5,q.1),(8,.slice a xs.length cap),(9,.int .i64 xs.length),(10,.int .i64 (q.2.2.2:Nat))]) (λq=>VR q.1 216 4 q.2.1::q.2.2.1::X::hr) (λq=>q.2.2.2<=xs.length/\q.1.oneCell'=true/\Rws q.2.2.1 q.2.1 (xs.take q.2.2.2)) (λq=>xs.length - q.2.2.2) (.slice none 0 0,[],Res.star [],0) ⟨Nat.zero_le _,Z,Rws.nil⟩ ?_
 rintro ⟨w,rows,T,i⟩ ⟨hi,hw,hro⟩
 simp only at hi hw hro
 dsimp only
 refine cQ<|sV (aO Z Z)<|sN<|nT<|cS<|cC Z (λhd=>?_)<|λhd=>?_
 .have hlt:i<xs.length:=Zx
  have hg:=Zy hlt
  have hmem:=List.getElem_mem hlt
  have hsn:xs.take (i+1)=xs.take i++[xs[i]]:=List.take_succ_eq_append_getElem hlt
  obtain ⟨b,o,cap2,us,e1,hus,hrd,ht⟩:=hv.at hg
  cases e1
  generalize xs[i]=x at hg hmem ht hsn
  have hone:=Enc.ones ht
  have hrl:rows.length=i:=by rw [hro.1,List.length_take]; omega
  refine cK<|xT<|cS<|cB<|cQ<|sV (vI (k:=i) Z Z Dg Z hlt Z)<|sV (af Z kF hus hrd) ?_
  refine au KF λb7=>?_
  refine ai (hl:=by rw [hus]; rfl) Z Z z8 hus hone ?_
  refine sK [1,5,7,8,9,10] Z<|cR<|sM Z<|sM Z<|sV (af Z kF hus ag) ?_
  refine aH Z Z hE Z ((hF x hmem us ht)) ?_
  rintro u h' ⟨T2,rfl,us2,rfl,hT2⟩
  simp only [lC,lN]
  have hl2:us2.length=4:=Enc.len hT2
  have ho2:=Enc.ones hT2
  obtain ⟨c0,c1,c2,c3,rfl⟩:=len4 hl2
  refine ak (cells:=[c0,c1,c2,c3]) Z underlying214 NG Z Z Zz (ltn Z) λb62=>?_
  refine eG [[c0,c1,c2,c3]] Z Z underlying214 NG Z (by decide) (show Sel _ (VR w 216 4 rows) _ from slq) (by simp) Z (λj u2 hu2=>bV<|bZ Zt) Zb (by rw [hrl]; omega) (by rw [hrl]; omega) (ltn Z) λw2 hw2 _=>?_
  refine sA Z<|sN<|nK [1,5,8,9,10] Z<|ax<|xB<|xT<|cR<|sV (aI Z Z Z0)<|sM Z<|sN<|nK [1,5,8,9,10] Z<|ax<|lm (fP (L:=[T,T2])) ?_
  simp only [lC,lN]
  refine aL (w2,rows++[[c0,c1,c2,c3]],Res.star [T,T2],i+1) ⟨hlt,hw2,by rw [hsn]; exact Rws.snoc ⟨hro.1,λj us x h1 h2=>Enc.up (bL .here)<|hro.2 j us x h1 h2⟩ (Enc.up (bL<|.there .here) hT2)⟩<|Nat.sub_lt_sub_left hlt<|Nat.lt_succ_self i
 .have hil:i=xs.length:=by
   have:¬ i<xs.length:=Zx
   omega
  subst hil
  rw [List.take_length] at hro
  refine aB<|xE<|xE<|xY<|xT<|cQ<|sM Z<|sA Z<|sK [4] Z<|cT (eF (r:=VR w 216 4 rows) slq λhok=>?_)
  refine lm (fP (L:=[VR w 216 4 rows,T])) ?_
  simp only [lC,lN]
  have hls:Ls (Res.star [VR w 216 4 rows,T]) w xs:=Rws.ls (E:=216) ⟨hro.1,λj us x h1 h2=>Enc.up (bL<|.there .here)<|hro.2 j us x h1 h2⟩ hok (bL .here) hsz
  exact aj Z ⟨Res.star [VR w 216 4 rows,T],Z,hls⟩ sbq
theorem Ji {xs:List Cla} {kf:FuncId} (hE:Ck.Enters prog kf) (hv:Ls X v xs) (hF:∀ a∈xs,∀ us,Enc.rep X us a->CtN prog kf #[.agg us.toArray] [X] λu T=>∃ us':List Value,u = .agg us'.toArray/\Enc.rep T us' a):CtN prog 191 #[v,.func (.func kf) #[] #[]] [X] λu T=>Ls T u xs:=by
 have hml:maxLen=9223372036854775807:=rfl
 have hrb:reachBytes=140737488351232:=rfl
 have hsz:xs.length * 72<=reachBytes:=hv.sizes
 obtain ⟨a,cap,rfl,hlc,hcm,hnone⟩:=hv.form
 refine aJ (n:=22) func191 Z Z (len Z) λhr w0=>?_
 refine cQ<|sA Z<|sN<|nT<|cQ<|sA Z<|sN<|nT<|cS<|cQ<|sM Z<|sV (aC Z underlying42)<|sM Z ?_
 refine sK [1,4,5,8,9,10] Z<|cB<|dY (dn 218 5)<|dY (fw (L:=[]))<|aY (σ := Value×List (List Value)×Res×Nat) (λq=>[(1,.func (.func kf) #[] #[]),(5,q.1),(8,.slice a xs.length cap),(9,.int .i64 xs.length),(10,.int .i64 (q.2.2.2:Nat))]) (λq=>VR q.1 218 5 q.2.1::q.2.2.1::X::hr) (λq=>q.2.2.2<=xs.length/\q.1.oneCell'=true/\Rws q.2.2.1 q.2.1 (xs.take q.2.2.2)) (λq=>xs.length - q.2.2.2) (.slice none 0 0,[],Res.star [],0) ⟨Nat.zero_le _,Z,Rws.nil⟩ ?_
 rintro ⟨w,rows,T,i⟩ ⟨hi,hw,hro⟩
 simp only at hi hw hro
 dsimp only
 refine cQ<|sV (aO Z Z)<|sN<|nT<|cS<|cC Z (λhd=>?_)<|λhd=>?_
 .have hlt:i<xs.length:=Zx
  have hg:=Zy hlt
  have hmem:=List.getElem_mem hlt
  have hsn:xs.take (i+1)=xs.take i++[xs[i]]:=List.take_succ_eq_append_getElem hlt
  obtain ⟨b,o,cap2,us,e1,hus,hrd,ht⟩:=hv.at hg
  cases e1
  generalize xs[i]=x at hg hmem ht hsn
  have hone:=Enc.ones ht
  have hrl:rows.length=i:=by rw [hro.1,List.length_take]; omega
  refine cK<|xT<|cS<|cB<|cQ<|sV (vI (k:=i) Z Z F9 Z hlt Z)<|sV (af Z yf hus hrd) ?_
  refine au KG λb7=>?_
  refine ai (hl:=by rw [hus]; rfl) Z Z Df hus hone ?_
  refine sK [1,5,7,8,9,10] Z<|cR<|sM Z<|sM Z<|sV (af Z yf hus ag) ?_
  refine aH Z Z hE Z ((hF x hmem us ht)) ?_
  rintro u h' ⟨T2,rfl,us2,rfl,hT2⟩
  simp only [lC,lN]
  have hl2:us2.length=5:=Enc.len hT2
  have ho2:=Enc.ones hT2
  obtain ⟨c0,c1,c2,c3,c4,rfl⟩:=len5 hl2
  refine ak (cells:=[c0,c1,c2,c3,c4]) Z underlying42 NH Z Z Zz (ltn Z) λb62=>?_
  refine eG [[c0,c1,c2,c3,c4]] Z Z underlying42 NH Z (by decide) (show Sel _ (VR w 218 5 rows) _ from slq) (by simp) Z (λj u2 hu2=>bV<|bZ Zt) Zb (by rw [hrl]; omega) (by rw [hrl]; omega) (ltn Z) λw2 hw2 _=>?_
  refine sA Z<|sN<|nK [1,5,8,9,10] Z<|ax<|xB<|xT<|cR<|sV (aI Z Z Z0)<|sM Z<|sN<|nK [1,5,8,9,10] Z<|ax<|lm (fP (L:=[T,T2])) ?_
  simp only [lC,lN]
  refine aL (w2,rows++[[c0,c1,c2,c3,c4]],Res.star [T,T2],i+1) ⟨hlt,hw2,by rw [hsn]; exact Rws.snoc ⟨hro.1,λj us x h1 h2=>Enc.up (bL .here)<|hro.2 j us x h1 h2⟩ (Enc.up (bL<|.there .here) hT2)⟩<|Nat.sub_lt_sub_left hlt<|Nat.lt_succ_self i
 .have hil:i=xs.length:=by
   have:¬ i<xs.length:=Zx
   omega
  subst hil
  rw [List.take_length] at hro
  refine aB<|xE<|xE<|xY<|xT<|cQ<|sM Z<|sA Z<|sK [4] Z<|cT (eF (r:=VR w 218 5 rows) slq λhok=>?_)
  refine lm (fP (L:=[VR w 218 5 rows,T])) ?_
  simp only [lC,lN]
  have hls:Ls (Res.star [VR w 218 5 rows,T]) w xs:=Rws.ls (E:=218) ⟨hro.1,λj us x h1 h2=>Enc.up (bL<|.there .here)<|hro.2 j us x h1 h2⟩ hok (bL .here) hsz
  exact aj Z ⟨Res.star [VR w 218 5 rows,T],Z,hls⟩ sbq
theorem uF {xs:List Grp} {kf:FuncId} (hE:Ck.Enters prog kf) (hv:Ls X v xs) (hF:∀ a∈xs,∀ us,Enc.rep X us a->CtN prog kf #[.agg us.toArray] [X] λu T=>∃ us':List Value,u = .agg us'.toArray/\Enc.rep T us' a):CtN prog 120 #[v,.func (.func kf) #[] #[]] [X] λu T=>Ls T u xs:=by
 have hml:maxLen=9223372036854775807:=rfl
 have hrb:reachBytes=140737488351232:=rfl
 have hsz:xs.length * 40<=reachBytes:=hv.sizes
 obtain ⟨a,cap,rfl,hlc,hcm,hnone⟩:=hv.form
 refine aJ (n:=22) func120 Z Z (len Z) λhr w0=>?_
 refine cQ<|sA Z<|sN<|nT<|cQ<|sA Z<|sN<|nT<|cS<|cQ<|sM Z<|sV (aC Z underlying53)<|sM Z ?_
 refine sK [1,4,5,8,9,10] Z<|cB<|dY (dn 170 2)<|dY (fw (L:=[]))<|aY (σ := Value×List (List Value)×Res×Nat) (λq=>[(1,.func (.func kf) #[] #[]),(5,q.1),(8,.slice a xs.length cap),(9,.int .i64 xs.length),(10,.int .i64 (q.2.2.2:Nat))]) (λq=>VR q.1 170 2 q.2.1::q.2.2.1::X::hr) (λq=>q.2.2.2<=xs.length/\q.1.oneCell'=true/\Rws q.2.2.1 q.2.1 (xs.take q.2.2.2)) (λq=>xs.length - q.2.2.2) (.slice none 0 0,[],Res.star [],0) ⟨Nat.zero_le _,Z,Rws.nil⟩ ?_
 rintro ⟨w,rows,T,i⟩ ⟨hi,hw,hro⟩
 simp only at hi hw hro
 dsimp only
 refine cQ<|sV (aO Z Z)<|sN<|nT<|cS<|cC Z (λhd=>?_)<|λhd=>?_
 .have hlt:i<xs.length:=Zx
  have hg:=Zy hlt
  have hmem:=List.getElem_mem hlt
  have hsn:xs.take (i+1)=xs.take i++[xs[i]]:=List.take_succ_eq_append_getElem hlt
  obtain ⟨b,o,cap2,us,e1,hus,hrd,ht⟩:=hv.at hg
  cases e1
  generalize xs[i]=x at hg hmem ht hsn
  have hone:=Enc.ones ht
  have hrl:rows.length=i:=by rw [hro.1,List.length_take]; omega
  refine cK<|xT<|cS<|cB<|cQ<|sV (vI (k:=i) Z Z sl53 Z hlt Z)<|sV (af Z rH hus hrd) ?_
  refine au al170 λb7=>?_
  refine ai (hl:=by rw [hus]; rfl) Z Z F8 hus hone ?_
  refine sK [1,5,7,8,9,10] Z<|cR<|sM Z<|sM Z<|sV (af Z rH hus ag) ?_
  refine aH Z Z hE Z ((hF x hmem us ht)) ?_
  rintro u h' ⟨T2,rfl,us2,rfl,hT2⟩
  simp only [lC,lN]
  have hl2:us2.length=2:=Enc.len hT2
  have ho2:=Enc.ones hT2
  obtain ⟨c0,c1,rfl⟩:=len2 hl2
  refine ak (cells:=[c0,c1]) Z underlying53 nO Z Z Zz (ltn Z) λb62=>?_
  refine eG [[c0,c1]] Z Z underlying53 nO Z (by decide) (show Sel _ (VR w 170 2 rows) _ from slq) (by simp) Z (λj u2 hu2=>bV<|bZ Zt) Zb (by rw [hrl]; omega) (by rw [hrl]; omega) (ltn Z) λw2 hw2 _=>?_
  refine sA Z<|sN<|nK [1,5,8,9,10] Z<|ax<|xB<|xT<|cR<|sV (aI Z Z Z0)<|sM Z<|sN<|nK [1,5,8,9,10] Z<|ax<|lm (fP (L:=[T,T2])) ?_
  simp only [lC,lN]
  refine aL (w2,rows++[[c0,c1]],Res.star [T,T2],i+1) ⟨hlt,hw2,by rw [hsn]; exact Rws.snoc ⟨hro.1,λj us x h1 h2=>Enc.up (bL .here)<|hro.2 j us x h1 h2⟩ (Enc.up (bL<|.there .here) hT2)⟩<|Nat.sub_lt_sub_left hlt<|Nat.lt_succ_self i
 .have hil:i=xs.length:=by
   have:¬ i<xs.length:=Zx
   omega
  subst hil
  rw [List.take_length] at hro
  refine aB<|xE<|xE<|xY<|xT<|cQ<|sM Z<|sA Z<|sK [4] Z<|cT (eF (r:=VR w 170 2 rows) slq λhok=>?_)
  refine lm (fP (L:=[VR w 170 2 rows,T])) ?_
  simp only [lC,lN]
  have hls:Ls (Res.star [VR w 170 2 rows,T]) w xs:=Rws.ls (E:=170) ⟨hro.1,λj us x h1 h2=>Enc.up (bL<|.there .here)<|hro.2 j us x h1 h2⟩ hok (bL .here) hsz
  exact aj Z ⟨Res.star [VR w 170 2 rows,T],Z,hls⟩ sbq
theorem Jj {xs:List Mb} {kf:FuncId} (hE:Ck.Enters prog kf) (hv:Ls X v xs) (hF:∀ a∈xs,∀ us,Enc.rep X us a->CtN prog kf #[.agg us.toArray] [X] λu T=>∃ us':List Value,u = .agg us'.toArray/\Enc.rep T us' a):CtN prog 119 #[v,.func (.func kf) #[] #[]] [X] λu T=>Ls T u xs:=by
 have hml:maxLen=9223372036854775807:=rfl
 have hrb:reachBytes=140737488351232:=rfl
 have hsz:xs.length * 232<=reachBytes:=hv.sizes
 obtain ⟨a,cap,rfl,hlc,hcm,hnone⟩:=hv.form
 refine aJ (n:=22) func119 Z Z (len Z) λhr w0=>?_
 refine cQ<|sA Z<|sN<|nT<|cQ<|sA Z<|sN<|nT<|cS<|cQ<|sM Z<|sV (aC Z underlying52)<|sM Z ?_
 refine sK [1,4,5,8,9,10] Z<|cB<|dY (dn 75 14)<|dY (fw (L:=[]))<|aY (σ := Value×List (List Value)×Res×Nat) (λq=>[(1,.func (.func kf) #[] #[]),(5,q.1),(8,.slice a xs.length cap),(9,.int .i64 xs.length),(10,.int .i64 (q.2.2.2:Nat))]) (λq=>VR q.1 75 14 q.2.1::q.2.2.1::X::hr) (λq=>q.2.2.2<=xs.length/\q.1.oneCell'=true/\Rws q.2.2.1 q.2.1 (xs.take q.2.2.2)) (λq=>xs.length - q.2.2.2) (.slice none 0 0,[],Res.star [],0) ⟨Nat.zero_le _,Z,Rws.nil⟩ ?_
 rintro ⟨w,rows,T,i⟩ ⟨hi,hw,hro⟩
 simp only at hi hw hro
 dsimp only
 refine cQ<|sV (aO Z Z)<|sN<|nT<|cS<|cC Z (λhd=>?_)<|λhd=>?_
 .have hlt:i<xs.length:=Zx
  have hg:=Zy hlt
  have hmem:=List.getElem_mem hlt
  have hsn:xs.take (i+1)=xs.take i++[xs[i]]:=List.take_succ_eq_append_getElem hlt
  obtain ⟨b,o,cap2,us,e1,hus,hrd,ht⟩:=hv.at hg
  cases e1
  generalize xs[i]=x at hg hmem ht hsn
  have hone:=Enc.ones ht
  have hrl:rows.length=i:=by rw [hro.1,List.length_take]; omega
  refine cK<|xT<|cS<|cB<|cQ<|sV (vI (k:=i) Z Z oM Z hlt Z)<|sV (af Z fE hus hrd) ?_
  refine au jR λb7=>?_
  refine ai (hl:=by rw [hus]; rfl) Z Z iH hus hone ?_
  refine sK [1,5,7,8,9,10] Z<|cR<|sM Z<|sM Z<|sV (af Z fE hus ag) ?_
  refine aH Z Z hE Z ((hF x hmem us ht)) ?_
  rintro u h' ⟨T2,rfl,us2,rfl,hT2⟩
  simp only [lC,lN]
  have hl2:us2.length=14:=Enc.len hT2
  have ho2:=Enc.ones hT2
  obtain ⟨c0,c1,c2,c3,c4,c5,c6,c7,c8,c9,c10,c11,c12,c13,rfl⟩:=len14 hl2
  refine ak (cells:=[c0,c1,c2,c3,c4,c5,c6,c7,c8,c9,c10,c11,c12,c13]) Z underlying52 vG Z Z Zz (ltn Z) λb62=>?_
  refine eG [[c0,c1,c2,c3,c4,c5,c6,c7,c8,c9,c10,c11,c12,c13]] Z Z underlying52 vG Z (by decide) (show Sel _ (VR w 75 14 rows) _ from slq) (by simp) Z (λj u2 hu2=>bV<|bZ Zt) Zb (by rw [hrl]; omega) (by rw [hrl]; omega) (ltn Z) λw2 hw2 _=>?_
  refine sA Z<|sN<|nK [1,5,8,9,10] Z<|ax<|xB<|xT<|cR<|sV (aI Z Z Z0)<|sM Z<|sN<|nK [1,5,8,9,10] Z<|ax<|lm (fP (L:=[T,T2])) ?_
  simp only [lC,lN]
  refine aL (w2,rows++[[c0,c1,c2,c3,c4,c5,c6,c7,c8,c9,c10,c11,c12,c13]],Res.star [T,T2],i+1) ⟨hlt,hw2,by rw [hsn]; exact Rws.snoc ⟨hro.1,λj us x h1 h2=>Enc.up (bL .here)<|hro.2 j us x h1 h2⟩ (Enc.up (bL<|.there .here) hT2)⟩<|Nat.sub_lt_sub_left hlt<|Nat.lt_succ_self i
 .have hil:i=xs.length:=by
   have:¬ i<xs.length:=Zx
   omega
  subst hil
  rw [List.take_length] at hro
  refine aB<|xE<|xE<|xY<|xT<|cQ<|sM Z<|sA Z<|sK [4] Z<|cT (eF (r:=VR w 75 14 rows) slq λhok=>?_)
  refine lm (fP (L:=[VR w 75 14 rows,T])) ?_
  simp only [lC,lN]
  have hls:Ls (Res.star [VR w 75 14 rows,T]) w xs:=Rws.ls (E:=75) ⟨hro.1,λj us x h1 h2=>Enc.up (bL<|.there .here)<|hro.2 j us x h1 h2⟩ hok (bL .here) hsz
  exact aj Z ⟨Res.star [VR w 75 14 rows,T],Z,hls⟩ sbq
theorem GZ:∀ (d:Nat) (X:Res) (t:Kt) (us:List Value),t.depth<=d->Ty X us t->CtN prog 114 #[.agg us.toArray] [X] λu T=>∃ us':List Value,u = .agg us'.toArray/\Ty T us' t
 | 0,_,s,_,hd,_=>by cases s; simp [Kt.depth] at hd
 | d+1,X,t,us,hd,hs=>by
  obtain ⟨x,rfl,hx⟩:=eH hs
  have hF:∀ a∈t.args,∀ us,Ty X us a->CtN prog 114 #[.agg us.toArray] [X] λu T=>∃ us':List Value,u = .agg us'.toArray/\Ty T us' a:=λa ha us h=>GZ d X a us (by have:=jX ha; omega) h
  obtain ⟨xa,xc,rfl,_⟩:=id hx.form
  unfold tyC
  refine aJ (n:=8) func114 Z Z (len Z) λhr w0=>?_
  refine cQ (aV Z Z λb1=>?_)
  refine au Af λb2=>?_
  refine sK [1,2] Z<|cQ<|sV (vF Z ja Z)<|sV (vY Z pX) ?_
  refine aH Z Z en184 Z (Jf KI hx hF) ?_
  rintro u h' ⟨T,rfl,hT⟩
  simp only [lC,lN]
  obtain ⟨ua,uc,rfl,_⟩:=id hT.form
  refine sV (vF Z ja Z)<|bi Z Z sz71 ?_
  refine sK [1,2] Z<|cQ<|sV (af Z fM Z ag) ?_
  refine ai Z Z oK Z Z ?_
  refine sK [2] Z<|cT ?_
  exact bM (.cellN Z fM Z slq .nil) ⟨T,Z,_,Z,gI (t:=t) Z hT⟩ sbr
theorem AU {t:Kt} (h:Ty X us t):CtN prog 114 #[.agg us.toArray] [X] λu T=>∃ us':List Value,u = .agg us'.toArray/\Ty T us' t:=GZ t.depth X t us (Nat.le_refl _) h
theorem G5:∀ (d:Nat) (X:Res) (t:Ex) (us:List Value),t.depth<=d->Enc.rep X us t->CtN prog 247 #[.agg us.toArray] [X] λu T=>∃ us':List Value,u = .agg us'.toArray/\Enc.rep T us' t
 | 0,_,s,_,hd,_=>by cases s; simp [Ex.depth] at hd
 | d+1,X,t,us,hd,hs=>by
  obtain ⟨x,rfl,hx⟩:=mF hs
  have hF:∀ a∈t.kids,∀ us,Enc.rep X us a->CtN prog 247 #[.agg us.toArray] [X] λu T=>∃ us':List Value,u = .agg us'.toArray/\Enc.rep T us' a:=λa ha us h=>G5 d X a us (by have:=qj ha; omega) h
  obtain ⟨xa,xc,rfl,_⟩:=id hx.form
  unfold exC
  refine aJ (n:=8) func247 Z Z (len Z) λhr w0=>?_
  refine cQ (aV Z Z λb1=>?_)
  refine au KF λb2=>?_
  refine sK [1,2] Z<|cQ<|sV (vF Z jI Z)<|sV (vY Z tK) ?_
  refine aH Z Z en280 Z (Jh en247 hx hF) ?_
  rintro u h' ⟨T,rfl,hT⟩
  simp only [lC,lN]
  obtain ⟨ua,uc,rfl,_⟩:=id hT.form
  refine sV (vF Z jI Z)<|bi Z Z sz214 ?_
  refine sK [1,2] Z<|cQ<|sV (af Z kF Z ag) ?_
  refine ai Z Z z8 Z Z ?_
  refine sK [2] Z<|cT ?_
  exact bM (.cellN Z kF Z slq .nil) ⟨T,Z,_,Z,DC (t:=t) Z hT⟩ sbr
theorem OE {t:Ex} (h:Enc.rep X us t):CtN prog 247 #[.agg us.toArray] [X] λu T=>∃ us':List Value,u = .agg us'.toArray/\Enc.rep T us' t:=G5 t.depth X t us (Nat.le_refl _) h
theorem OG {a:Vr} (h:Enc.rep X us a):CtN prog 176 #[.agg us.toArray] [X] λu T=>∃ us':List Value,u = .agg us'.toArray/\Enc.rep T us' a:=by
 obtain ⟨x,rfl,hx⟩:=E8 h
 obtain ⟨xa,xc,rfl,_⟩:=id hx.form
 have hc:=AU<|gI (t:=a.ty) rfl hx
 unfold tyC at hc
 refine aJ (n:=8) func176 Z Z (len Z) λhr w0=>?_
 refine cQ (aV Z Z λb1=>?_)
 refine au KE λb2=>?_
 refine sK [1,2] Z<|cQ<|sV (vF Z kw Z)<|sV (af Z fM Z<|bF (us:=[sv a.name,.int .i64 a.ty.kind,sv a.ty.name,.slice xa a.ty.args.length xc,.bool a.ty.void,.bool a.ty.sep]) (vs:=[.int .i64 a.ty.kind,sv a.ty.name,.slice xa a.ty.args.length xc,.bool a.ty.void,.bool a.ty.sep]) (k:=1) ag Z) ?_
 refine aH Z Z KI Z (hc) ?_
 rintro u h' ⟨T,rfl,us',rfl,hT⟩
 simp only [lC,lN]
 obtain ⟨y,rfl,hy⟩:=eH hT
 obtain ⟨ya,yc,rfl,_⟩:=id hy.form
 unfold tyC
 refine sV (vF rfl kw rfl)<|iG rfl rfl oK rfl (λu hu=>by simp at hu; rcases hu with rfl | rfl | rfl | rfl | rfl <;> rfl) (show Sel _ (pt b1<|cl [sv a.name,.int .i64 a.ty.kind,sv a.ty.name,.slice xa a.ty.args.length xc,.bool a.ty.void,.bool a.ty.sep] 132) _ from slq) (by simp) ?_
 rw [show splice [sv a.name,.int .i64 a.ty.kind,sv a.ty.name,.slice xa a.ty.args.length xc,.bool a.ty.void,.bool a.ty.sep] (0+1) [.int .i64 a.ty.kind,sv a.ty.name,.slice ya a.ty.args.length yc,.bool a.ty.void,.bool a.ty.sep]=[sv a.name,.int .i64 a.ty.kind,sv a.ty.name,.slice ya a.ty.args.length yc,.bool a.ty.void,.bool a.ty.sep] from rfl]
 refine sK [1,2] Z<|cQ<|sV (af Z vH Z ag) ?_
 refine ai Z Z De Z Z ?_
 refine sK [2] Z<|cT ?_
 exact bM (.cellN Z vH Z slq .nil) ⟨T,Z,_,Z,_,Z,gI (t:=a.ty) Z hy⟩ sbr
theorem OH {a:Cla} (h:Enc.rep X us a):CtN prog 192 #[.agg us.toArray] [X] λu T=>∃ us':List Value,u = .agg us'.toArray/\Enc.rep T us' a:=by
 obtain ⟨x,rfl,hx⟩:=E9 h
 obtain ⟨xa,xc,rfl,_⟩:=id hx.form
 have hc:=OE<|DC (t:=a.ex) rfl hx
 unfold exC at hc
 refine aJ (n:=8) func192 Z Z (len Z) λhr w0=>?_
 refine cQ (aV Z Z λb1=>?_)
 refine au KG λb2=>?_
 refine sK [1,2] Z<|cQ<|sV (vF Z qh Z)<|sV (af Z kF Z<|bF (us:=[sv a.tag,.int .i64 a.ex.kind,sv a.ex.name,.int .i64 a.ex.num,.slice xa a.ex.kids.length xc]) (vs:=[.int .i64 a.ex.kind,sv a.ex.name,.int .i64 a.ex.num,.slice xa a.ex.kids.length xc]) (k:=1) ag Z) ?_
 refine aH Z Z en247 Z (hc) ?_
 rintro u h' ⟨T,rfl,us',rfl,hT⟩
 simp only [lC,lN]
 obtain ⟨y,rfl,hy⟩:=mF hT
 obtain ⟨ya,yc,rfl,_⟩:=id hy.form
 unfold exC
 refine sV (vF rfl qh rfl)<|iG rfl rfl z8 rfl (λu hu=>by simp at hu; rcases hu with rfl | rfl | rfl | rfl <;> rfl) (show Sel _ (pt b1<|cl [sv a.tag,.int .i64 a.ex.kind,sv a.ex.name,.int .i64 a.ex.num,.slice xa a.ex.kids.length xc] 218) _ from slq) (by simp) ?_
 rw [show splice [sv a.tag,.int .i64 a.ex.kind,sv a.ex.name,.int .i64 a.ex.num,.slice xa a.ex.kids.length xc] (0+1) [.int .i64 a.ex.kind,sv a.ex.name,.int .i64 a.ex.num,.slice ya a.ex.kids.length yc]=[sv a.tag,.int .i64 a.ex.kind,sv a.ex.name,.int .i64 a.ex.num,.slice ya a.ex.kids.length yc] from rfl]
 refine sK [1,2] Z<|cQ<|sV (af Z yf Z ag) ?_
 refine ai Z Z Df Z Z ?_
 refine sK [2] Z<|cT ?_
 exact bM (.cellN Z yf Z slq .nil) ⟨T,Z,_,Z,_,Z,DC (t:=a.ex) Z hy⟩ sbr
theorem AV {a:Grp} (h:Enc.rep X us a):CtN prog 121 #[.agg us.toArray] [X] λu T=>∃ us':List Value,u = .agg us'.toArray/\Enc.rep T us' a:=by
 obtain ⟨x,rfl,hx⟩:=h
 obtain ⟨xa,xc,rfl,_⟩:=id hx.form
 refine aJ (n:=8) func121 Z Z (len Z) λhr w0=>?_
 refine cQ (aV Z Z λb1=>?_)
 refine au al170 λb2=>?_
 refine sK [1,2] Z<|cQ<|sV (vF Z sI Z)<|sV (vY Z ui) ?_
 refine aH Z Z en191 Z (Ji en192 hx λ_ _ _ h=>OH h) ?_
 rintro u h' ⟨T,rfl,hT⟩
 simp only [lC,lN]
 obtain ⟨ya,yc,rfl,_⟩:=id hT.form
 refine sV (vF Z sI Z)<|bi Z Z sz42 ?_
 refine sK [1,2] Z<|cQ<|sV (af Z rH Z ag) ?_
 refine ai Z Z F8 Z Z ?_
 refine sK [2] Z<|cT ?_
 exact bM (.cellN Z rH Z slq .nil) ⟨T,Z,_,Z,_,Z,hT⟩ sbr
theorem G6 {xs:List Sd} (hv:Ls X v xs):CtN prog 163 #[v] [X] λu T=>∃ rows,T=VR u 69 2 rows/\u.oneCell'=true/\Rws X rows xs:=by
 have hrb:reachBytes=140737488351232:=rfl
 have hsz:xs.length * 32<=reachBytes:=hv.sizes
 obtain ⟨a,cap,rfl,hlc,hcm,hnone⟩:=hv.form
 refine aJ (n:=8) func163 Z Z (len Z) λhr w0=>?_
 refine cQ<|sA Z<|sN<|nT<|cS<|cQ<|sM Z<|sV (dA Z Z underlying67)<|sK [0,2,4] Z ?_
 cases a with
 | none =>
  refine aQ Z ?_
  refine cQ<|sA Z<|sK [2] Z<|cT<|xR<|jq (dn 69 2) ?_
  have hx0:xs=[]:=List.eq_nil_of_length_eq_zero (by have:=hnone rfl; omega)
  exact aj Z ⟨_,Z,[],Z,Z,by rw [hx0]; exact Rws.nil⟩ sbq
 | some a =>
  refine aG Z ?_
  refine cK<|xT<|cQ (uj underlying67 Dh λb5=>?_)
  refine sM Z (om hv.1 Z Z underlying67 Dh Z (by decide) (show Sel _ (VR (.slice (some ⟨b5,0,none⟩) 0 0) 69 2 []) _ from slq) (show Sel _ X _ from slq) (λus x _ h=>List.all_eq_true.1<|Enc.ones h) (by simp <;> omega) (by simp <;> omega) (ltn Z) λv7 n1 hv7 q1 q2 q3=>?_)
  refine sA Z<|sK [2] Z<|cT ?_
  exact aj Z ⟨_,Z,n1,Z,hv7,q1,q3⟩ sbq
theorem nD {xs:List Nm} (hv:Ls X v xs):CtN prog 174 #[v] [X] λu T=>∃ rows,T=VR u 9 1 rows/\u.oneCell'=true/\Rws X rows xs:=by
 have hrb:reachBytes=140737488351232:=rfl
 have hsz:xs.length * 16<=reachBytes:=hv.sizes
 obtain ⟨a,cap,rfl,hlc,hcm,hnone⟩:=hv.form
 refine aJ (n:=8) func174 Z Z (len Z) λhr w0=>?_
 refine cQ<|sA Z<|sN<|nT<|cS<|cQ<|sM Z<|sV (dA Z Z underlying40)<|sK [0,2,4] Z ?_
 cases a with
 | none =>
  refine aQ Z ?_
  refine cQ<|sA Z<|sK [2] Z<|cT<|xR<|jq (dn 9 1) ?_
  have hx0:xs=[]:=List.eq_nil_of_length_eq_zero (by have:=hnone rfl; omega)
  exact aj Z ⟨_,Z,[],Z,Z,by rw [hx0]; exact Rws.nil⟩ sbq
 | some a =>
  refine aG Z ?_
  refine cK<|xT<|cQ (uj underlying40 gp λb5=>?_)
  refine sM Z (om hv.1 Z Z underlying40 gp Z (by decide) (show Sel _ (VR (.slice (some ⟨b5,0,none⟩) 0 0) 9 1 []) _ from slq) (show Sel _ X _ from slq) (λus x _ h=>List.all_eq_true.1<|Enc.ones h) (by simp <;> omega) (by simp <;> omega) (ltn Z) λv7 n1 hv7 q1 q2 q3=>?_)
  refine sA Z<|sK [2] Z<|cT ?_
  exact aj Z ⟨_,Z,n1,Z,hv7,q1,q3⟩ sbq
theorem r9 {xs:List Vr} (hv:Ls X v xs):CtN prog 200 #[v] [X] λu T=>∃ rows,T=VR u 132 6 rows/\u.oneCell'=true/\Rws X rows xs:=by
 have hrb:reachBytes=140737488351232:=rfl
 have hsz:xs.length * 72<=reachBytes:=hv.sizes
 obtain ⟨a,cap,rfl,hlc,hcm,hnone⟩:=hv.form
 refine aJ (n:=8) func200 Z Z (len Z) λhr w0=>?_
 refine cQ<|sA Z<|sN<|nT<|cS<|cQ<|sM Z<|sV (dA Z Z underlying70)<|sK [0,2,4] Z ?_
 cases a with
 | none =>
  refine aQ Z ?_
  refine cQ<|sA Z<|sK [2] Z<|cT<|xR<|jq (dn 132 6) ?_
  have hx0:xs=[]:=List.eq_nil_of_length_eq_zero (by have:=hnone rfl; omega)
  exact aj Z ⟨_,Z,[],Z,Z,by rw [hx0]; exact Rws.nil⟩ sbq
 | some a =>
  refine aG Z ?_
  refine cK<|xT<|cQ (uj underlying70 Ez λb5=>?_)
  refine sM Z (om hv.1 Z Z underlying70 Ez Z (by decide) (show Sel _ (VR (.slice (some ⟨b5,0,none⟩) 0 0) 132 6 []) _ from slq) (show Sel _ X _ from slq) (λus x _ h=>List.all_eq_true.1<|Enc.ones h) (by simp <;> omega) (by simp <;> omega) (ltn Z) λv7 n1 hv7 q1 q2 q3=>?_)
  refine sA Z<|sK [2] Z<|cT ?_
  exact aj Z ⟨_,Z,n1,Z,hv7,q1,q3⟩ sbq
theorem G7 {xs:List Cm} (hv:Ls X v xs):CtN prog 262 #[v] [X] λu T=>∃ rows,T=VR u 191 18 rows/\u.oneCell'=true/\Rws X rows xs:=by
 have hrb:reachBytes=140737488351232:=rfl
 have hsz:xs.length * 280<=reachBytes:=hv.sizes
 obtain ⟨a,cap,rfl,hlc,hcm,hnone⟩:=hv.form
 refine aJ (n:=8) func262 Z Z (len Z) λhr w0=>?_
 refine cQ<|sA Z<|sN<|nT<|cS<|cQ<|sM Z<|sV (dA Z Z underlying187)<|sK [0,2,4] Z ?_
 cases a with
 | none =>
  refine aQ Z ?_
  refine cQ<|sA Z<|sK [2] Z<|cT<|xR<|jq (dn 191 18) ?_
  have hx0:xs=[]:=List.eq_nil_of_length_eq_zero (by have:=hnone rfl; omega)
  exact aj Z ⟨_,Z,[],Z,Z,by rw [hx0]; exact Rws.nil⟩ sbq
 | some a =>
  refine aG Z ?_
  refine cK<|xT<|cQ (uj underlying187 Ab λb5=>?_)
  refine sM Z (om hv.1 Z Z underlying187 Ab Z (by decide) (show Sel _ (VR (.slice (some ⟨b5,0,none⟩) 0 0) 191 18 []) _ from slq) (show Sel _ X _ from slq) (λus x _ h=>List.all_eq_true.1<|Enc.ones h) (by simp <;> omega) (by simp <;> omega) (ltn Z) λv7 n1 hv7 q1 q2 q3=>?_)
  refine sA Z<|sK [2] Z<|cT ?_
  exact aj Z ⟨_,Z,n1,Z,hv7,q1,q3⟩ sbq
theorem G8 {xs:List Mb} (hv:Ls X v xs):CtN prog 160 #[v] [X] λu T=>∃ rows,T=VR u 75 14 rows/\u.oneCell'=true/\Rws X rows xs:=by
 have hrb:reachBytes=140737488351232:=rfl
 have hsz:xs.length * 232<=reachBytes:=hv.sizes
 obtain ⟨a,cap,rfl,hlc,hcm,hnone⟩:=hv.form
 refine aJ (n:=8) func160 Z Z (len Z) λhr w0=>?_
 refine cQ<|sA Z<|sN<|nT<|cS<|cQ<|sM Z<|sV (dA Z Z underlying52)<|sK [0,2,4] Z ?_
 cases a with
 | none =>
  refine aQ Z ?_
  refine cQ<|sA Z<|sK [2] Z<|cT<|xR<|jq (dn 75 14) ?_
  have hx0:xs=[]:=List.eq_nil_of_length_eq_zero (by have:=hnone rfl; omega)
  exact aj Z ⟨_,Z,[],Z,Z,by rw [hx0]; exact Rws.nil⟩ sbq
 | some a =>
  refine aG Z ?_
  refine cK<|xT<|cQ (uj underlying52 vG λb5=>?_)
  refine sM Z (om hv.1 Z Z underlying52 vG Z (by decide) (show Sel _ (VR (.slice (some ⟨b5,0,none⟩) 0 0) 75 14 []) _ from slq) (show Sel _ X _ from slq) (λus x _ h=>List.all_eq_true.1<|Enc.ones h) (by simp <;> omega) (by simp <;> omega) (ltn Z) λv7 n1 hv7 q1 q2 q3=>?_)
  refine sA Z<|sK [2] Z<|cT ?_
  exact aj Z ⟨_,Z,n1,Z,hv7,q1,q3⟩ sbq
theorem Jk {xs:List Pt} (hv:Ls X v xs):CtN prog 36 #[v] [X] λu T=>∃ rows,T=VR u 88 6 rows/\u.oneCell'=true/\Rws X rows xs:=by
 have hrb:reachBytes=140737488351232:=rfl
 have hsz:xs.length * 136<=reachBytes:=hv.sizes
 obtain ⟨a,cap,rfl,hlc,hcm,hnone⟩:=hv.form
 refine aJ (n:=8) func36 Z Z (len Z) λhr w0=>?_
 refine cQ<|sA Z<|sN<|nT<|cS<|cQ<|sM Z<|sV (dA Z Z underlying39)<|sK [0,2,4] Z ?_
 cases a with
 | none =>
  refine aQ Z ?_
  refine cQ<|sA Z<|sK [2] Z<|cT<|xR<|jq (dn 88 6) ?_
  have hx0:xs=[]:=List.eq_nil_of_length_eq_zero (by have:=hnone rfl; omega)
  exact aj Z ⟨_,Z,[],Z,Z,by rw [hx0]; exact Rws.nil⟩ sbq
 | some a =>
  refine aG Z ?_
  refine cK<|xT<|cQ (uj underlying39 Ga λb5=>?_)
  refine sM Z (om hv.1 Z Z underlying39 Ga Z (by decide) (show Sel _ (VR (.slice (some ⟨b5,0,none⟩) 0 0) 88 6 []) _ from slq) (show Sel _ X _ from slq) (λus x _ h=>List.all_eq_true.1<|Enc.ones h) (by simp <;> omega) (by simp <;> omega) (ltn Z) λv7 n1 hv7 q1 q2 q3=>?_)
  refine sA Z<|sK [2] Z<|cT ?_
  exact aj Z ⟨_,Z,n1,Z,hv7,q1,q3⟩ sbq
theorem Jl {xs:List FC} (hv:Ls X v xs):CtN prog 19 #[v] [X] λu T=>∃ rows,T=VR u 44 7 rows/\u.oneCell'=true/\Rws X rows xs:=by
 have hrb:reachBytes=140737488351232:=rfl
 have hsz:xs.length * 144<=reachBytes:=hv.sizes
 obtain ⟨a,cap,rfl,hlc,hcm,hnone⟩:=hv.form
 refine aJ (n:=8) func19 Z Z (len Z) λhr w0=>?_
 refine cQ<|sA Z<|sN<|nT<|cS<|cQ<|sM Z<|sV (dA Z Z underlying22)<|sK [0,2,4] Z ?_
 cases a with
 | none =>
  refine aQ Z ?_
  refine cQ<|sA Z<|sK [2] Z<|cT<|xR<|jq (dn 44 7) ?_
  have hx0:xs=[]:=List.eq_nil_of_length_eq_zero (by have:=hnone rfl; omega)
  exact aj Z ⟨_,Z,[],Z,Z,by rw [hx0]; exact Rws.nil⟩ sbq
 | some a =>
  refine aG Z ?_
  refine cK<|xT<|cQ (uj underlying22 inf44 λb5=>?_)
  refine sM Z (om hv.1 Z Z underlying22 inf44 Z (by decide) (show Sel _ (VR (.slice (some ⟨b5,0,none⟩) 0 0) 44 7 []) _ from slq) (show Sel _ X _ from slq) (λus x _ h=>List.all_eq_true.1<|Enc.ones h) (by simp <;> omega) (by simp <;> omega) (ltn Z) λv7 n1 hv7 q1 q2 q3=>?_)
  refine sA Z<|sK [2] Z<|cT ?_
  exact aj Z ⟨_,Z,n1,Z,hv7,q1,q3⟩ sbq
end
section
variable {X:Res} {v v':Value} {us us':List Value}
theorem OI {m:Mb} (h:Enc.rep X us m):CtN prog 99 #[.agg us.toArray] [X] λu T=>∃ us':List Value,u = .agg us'.toArray/\Enc.rep T us' m:=by
 obtain ⟨x2,x5,xy,x11,x12,x13,rfl,hx2,hx5,hxy,hx11,hx12,hx13⟩:=dN h
 obtain ⟨a2,k2,rfl,_⟩:=id hx2.form
 obtain ⟨a5,k5,rfl,_⟩:=id hx5.form
 obtain ⟨ay,ky,rfl,_⟩:=id hxy.form
 obtain ⟨a11,k11,rfl,_⟩:=id hx11.form
 obtain ⟨a12,k12,rfl,_⟩:=id hx12.form
 obtain ⟨a13,k13,rfl,_⟩:=id hx13.form
 have hc:=AU<|gI (t:=m.ty) rfl hxy
 unfold tyC at hc
 unfold iC
 refine aJ (n:=28) func99 Z Z (len Z) λhr w0=>?_
 refine cQ (aV Z Z λb1=>?_)
 refine au jR λb2=>?_
 refine sK [1,2] Z<|cS<|bC (ork [(0,2),(1,1),(3,2),(4,1),(6,2),(7,1),(9,2),(10,1),(2,0),(12,2),(5,0),(8,0),(11,0),(13,0),(14,2),(15,0),(16,2),(17,0),(18,2),(19,0)] .nil) (λi => !(Nat.beq i 11 || Nat.beq i 13 || Nat.beq i 15 || Nat.beq i 17 || Nat.beq i 19)) mixed Zz ?_
 refine dV Z (vF Z eT Z)<|bu Z (vY Z pW) ?_
 refine dV Z (vF Z NM Z)<|bu Z (vY Z gq) ?_
 refine dV Z (vF Z jW Z)<|bu Z (vY Z rF) ?_
 refine dV Z (vF Z nR Z)<|bu Z (af Z fM Z<|bF (us:=[sv m.name,.int .i64 m.kind,.slice a2 m.seeds.length k2,sv m.impl.cls,sv m.impl.name,.slice a5 m.args.length k5,.int .i64 m.ty.kind,sv m.ty.name,.slice ay m.ty.args.length ky,.bool m.ty.void,.bool m.ty.sep,.slice a11 m.clients.length k11,.slice a12 m.pre.length k12,.slice a13 m.post.length k13]) (vs:=[.int .i64 m.ty.kind,sv m.ty.name,.slice ay m.ty.args.length ky,.bool m.ty.void,.bool m.ty.sep]) (k:=6) ag Z) ?_
 refine aT Z<|aH Z Z en163 Z (G6 hx2) ?_
 rintro u1 h' ⟨T1,rfl,r1,rfl,o1,w1⟩
 simp only [lC,lN]
 refine aW ?_
 refine dV Z (vF Z eT Z)<|aT Z<|aH Z Z KM Z (nD hx11) ?_
 rintro u2 h' ⟨T2,rfl,r2,rfl,o2,w2⟩
 simp only [lC,lN]
 refine aW ?_
 refine aT Z<|aH Z Z en175 Z (Jg en176 hx5 λ_ _ _ h=>OG h) ?_
 rintro u3 h' ⟨T3,rfl,hT3⟩
 simp only [lC,lN]
 refine aW ?_
 refine aT Z<|aH Z Z KI Z (hc) ?_
 rintro u4 h' ⟨T4,rfl,us4,rfl,hT4⟩
 simp only [lC,lN]
 obtain ⟨y,rfl,hy⟩:=eH hT4
 obtain ⟨ya,yc,rfl,_⟩:=id hy.form
 unfold tyC
 obtain ⟨a3,k3,rfl,_⟩:=id hT3.form
 refine aW ?_
 refine aT Z<|bi Z Z F7<|aW ?_
 refine dV Z (vF Z NM Z)<|aT Z<|bi Z Z yI<|aW ?_
 refine dV Z (vF Z jW Z)<|aT Z<|bi Z Z sz70<|aW ?_
 refine dV rfl (vF rfl nR rfl)<|aT rfl<|iG rfl rfl oK rfl (λu hu=>by simp at hu; rcases hu with rfl | rfl | rfl | rfl | rfl <;> rfl) (show Sel _ (pt b1<|cl [sv m.name,.int .i64 m.kind,u1,sv m.impl.cls,sv m.impl.name,.slice a3 m.args.length k3,.int .i64 m.ty.kind,sv m.ty.name,.slice ay m.ty.args.length ky,.bool m.ty.void,.bool m.ty.sep,u2,.slice a12 m.pre.length k12,.slice a13 m.post.length k13] 75) _ from slq) (by simp)<|aW ?_
 rw [show splice [sv m.name,.int .i64 m.kind,u1,sv m.impl.cls,sv m.impl.name,.slice a3 m.args.length k3,.int .i64 m.ty.kind,sv m.ty.name,.slice ay m.ty.args.length ky,.bool m.ty.void,.bool m.ty.sep,u2,.slice a12 m.pre.length k12,.slice a13 m.post.length k13] (0+6) [.int .i64 m.ty.kind,sv m.ty.name,.slice ya m.ty.args.length yc,.bool m.ty.void,.bool m.ty.sep]=[sv m.name,.int .i64 m.kind,u1,sv m.impl.cls,sv m.impl.name,.slice a3 m.args.length k3,.int .i64 m.ty.kind,sv m.ty.name,.slice ya m.ty.args.length yc,.bool m.ty.void,.bool m.ty.sep,u2,.slice a12 m.pre.length k12,.slice a13 m.post.length k13] from rfl]
 refine bB<|nK [1,2] Z<|nT<|cS<|bC (ork [(0,2),(1,1),(3,2),(4,1),(2,0),(6,2),(5,0),(7,0),(8,2),(9,0)] .nil) (λi => !(Nat.beq i 5 || Nat.beq i 7 || Nat.beq i 9)) mixed Zz ?_
 refine dV Z (vF Z il Z)<|bu Z (vY Z oO) ?_
 refine dV Z (vF Z iq Z)<|bu Z (vY Z oO) ?_
 refine aT Z<|aH Z Z en120 Z (uF en121 hx12 λ_ _ _ h=>AV h) ?_
 rintro u5 h' ⟨T5,rfl,hT5⟩
 simp only [lC,lN]
 obtain ⟨a6,k6,rfl,_⟩:=id hT5.form
 refine aW ?_
 refine dV Z (vF Z il Z)<|aT Z<|aH Z Z en120 Z (uF en121 hx13 λ_ _ _ h=>AV h) ?_
 rintro u7 h' ⟨T7,rfl,hT7⟩
 simp only [lC,lN]
 obtain ⟨a8,k8,rfl,_⟩:=id hT7.form
 refine aW ?_
 refine aT Z<|bi Z Z nN<|aW ?_
 refine dV Z (vF Z iq Z)<|aT Z<|bi Z Z nN<|aW ?_
 refine bB<|nK [1,2] Z<|nT<|cQ<|sV (af Z fE Z ag) ?_
 have hone2:([sv m.name,.int .i64 m.kind,u1,sv m.impl.cls,sv m.impl.name,.slice a3 m.args.length k3,.int .i64 m.ty.kind,sv m.ty.name,.slice ya m.ty.args.length yc,.bool m.ty.void,.bool m.ty.sep,u2,.slice a6 m.pre.length k6,.slice a8 m.post.length k8]:List Value).all Value.oneCell'=true:=by simp only [List.all_cons,List.all_nil,o1,o2,Bool.and_true,Bool.true_and]; rfl
 refine ai Z Z iH Z hone2 ?_
 refine sK [2] Z<|cT (eF (r:=VR u1 69 2 r1) slq λhok1=>?_)
 refine eF (r:=VR u2 9 1 r2) slq λhok2=>?_
 refine lm (fP (L:=[VR u1 69 2 r1,VR u2 9 1 r2,T3,T4,T5,T7])) ?_
 simp only [lC,lN]
 exact bM (.cellN Z fE Z slq .nil) ⟨Res.star [VR u1 69 2 r1,VR u2 9 1 r2,T3,T4,T5,T7],Z,_,Z,qP ⟨Rws.ls (E:=69) w1 hok1 (bL slq) hx2.sizes,hT3.up' (bL slq),hy.up' (bL slq),Rws.ls (E:=9) w2 hok2 (bL slq) hx11.sizes,hT5.up' (bL slq),hT7.up'<|bL slq⟩⟩ sbr
theorem DL {f:Fl} (h:Enc.rep X us f):CtN prog 55 #[.agg us.toArray] [X] λu T=>∃ us':List Value,u = .agg us'.toArray/\Enc.rep T us' f:=by
 obtain ⟨x,y,rfl,hx,hy⟩:=h
 obtain ⟨xa,xc,rfl,_⟩:=id hx.form
 obtain ⟨ya,yc,rfl,_⟩:=id hy.form
 refine aJ (n:=12) func55 Z Z (len Z) λhr w0=>?_
 refine cQ (aV Z Z λb1=>?_)
 refine au al55 λb2=>?_
 refine sK [1,2] Z<|cS<|bC (ork [(0,2),(1,1),(3,2),(4,1),(2,0),(6,2),(5,0),(7,0),(8,2),(9,0)] .nil) (λi => !(Nat.beq i 5 || Nat.beq i 7 || Nat.beq i 9)) mixed Zz ?_
 refine dV Z (vF Z l9 Z)<|bu Z (vY Z qX) ?_
 refine dV Z (vF Z EC Z)<|bu Z (vY Z oO) ?_
 refine aT Z<|aH Z Z en119 Z (Jj en99 hx λ_ _ _ h=>OI h) ?_
 rintro u5 h' ⟨T5,rfl,hT5⟩
 simp only [lC,lN]
 obtain ⟨a6,k6,rfl,_⟩:=id hT5.form
 refine aW ?_
 refine dV Z (vF Z l9 Z)<|aT Z<|aH Z Z en120 Z (uF en121 hy λ_ _ _ h=>AV h) ?_
 rintro u7 h' ⟨T7,rfl,hT7⟩
 simp only [lC,lN]
 obtain ⟨a8,k8,rfl,_⟩:=id hT7.form
 refine aW ?_
 refine aT Z<|bi Z Z sz52<|aW ?_
 refine dV Z (vF Z EC Z)<|aT Z<|bi Z Z nN<|aW ?_
 refine bB<|nK [1,2] Z<|nT<|cQ<|sV (af Z ld55 Z ag) ?_
 refine ai Z Z Ey Z Z ?_
 refine sK [2] Z<|cT<|lm (fP (L:=[T5,T7])) ?_
 simp only [lC,lN]
 exact bM (.cellN Z ld55 Z slq .nil) ⟨Res.star [T5,T7],Z,_,Z,_,_,Z,hT5.up' (bL slq),hT7.up'<|bL slq⟩ sbr
theorem AX {x:Cm} (h:Enc.rep X us x):Reads prog 195 #[.agg us.toArray] [] (.bool x.dfd):=by
 obtain ⟨ms,rfl,hm⟩:=h
 obtain ⟨x2,x5,xy,x11,x12,x13,rfl,_⟩:=dN hm
 unfold iC
 refine aJ (n:=7) func195 Z Z (len Z) λhr w0=>?_
 refine cQ (aV Z Z λb1=>?_)
 refine sA Z<|sK [1,2] Z<|cQ<|sV (vF Z ed Z)<|sV (vF Z rO Z)<|sV (vY Z ld3) ?_
 refine sV (dX Z Z)<|sA Z<|sK [2] Z<|cT ?_
 exact aj Z ⟨Z,Z⟩ sbq
theorem mG {l:FS} {fv:Value} {n:Nm} (hv:Ls X v l) (hf:fv.oneCell'=true):Ct prog 56 #[.agg #[v,fv],sv n] [X] λu h'=>h'=[X]/\∃ us,u = .agg us.toArray/\Enc.rep X us (ae l n):=by
 obtain ⟨a,cap,rfl,_⟩:=id hv.form
 refine aJ (n:=15) func56 Z Z (len Z) λhr w0=>?_
 refine cQ (aV Z Z λb2=>?_)
 refine au oU λb4=>?_
 refine sK [1,2,4] Z<|cQ<|sV (vF Z Kz Z)<|sV (vY Z ld22) ?_
 refine sM Z<|aH Z Z en117 Z (uD (n:=n) hv) ?_
 rintro u h' ⟨rfl,us,rfl,hr⟩
 simp only [lC,lN]
 have hl:us.length=7:=Enc.len hr
 have ho:=Enc.ones hr
 refine sM Z<|sV (ah Z Z)<|sV (ah Z Z) (au oU λb5=>?_)
 refine ai (hl:=by rw [hl]; rfl) Z Z mP hl ho ?_
 refine sA Z<|sK [4,5] Z<|cQ<|sV (af Z gU hl ag) ?_
 refine ai (hl:=by rw [hl]; rfl) Z Z mP hl ho ?_
 refine sK [4] Z<|cT ?_
 exact bM (.cellN Z gU hl slq .nil) ⟨Z,us,Z,hr⟩ sbr
theorem uI {p:Pt} {n:Nm} (h:Enc.rep X us p):Ct prog 173 #[.agg us.toArray,sv n] [X] λu h'=>h'=[X]/\u=sv (bJ p n):=by
 obtain ⟨x1,x2,x3,x4,x5,rfl,h1,h2,h3,h4,h5⟩:=h
 obtain ⟨a,cap,rfl,_⟩:=id h2.form
 refine aJ (n:=18) func173 Z Z (len Z) λhr w0=>?_
 refine cQ (aV Z Z λb2=>?_)
 refine sA Z<|sK [1,2,4] Z<|cS<|cQ<|sV (vF Z Ad Z)<|sV (vY Z ld86) ?_
 refine sM Z<|aH Z Z en241 Z (Je (n:=n) h2) ?_
 rintro u h' ⟨rfl,us,rfl,hr⟩
 simp only [lC,lN]
 have hu:us=[sv ((p.ren.find? λc=>c.fro == n).getD pn0).fro,sv ((p.ren.find? λc=>c.fro == n).getD pn0).to]:=hr
 subst hu
 unfold bJ
 refine sM Z<|sV (ah Z Z)<|sV (ah Z Z) (au Gb λb5=>?_)
 refine ai Z Z zZ Z Z ?_
 cases p.ren.find? λc=>c.fro == n with
 | none =>
  refine sA Z<|sK [1,4,5,6] Z<|cQ<|sM Z<|sK [1,4,5,14] Z<|aG Z ?_
  refine cK<|xT<|cQ<|sM Z<|sA Z<|sK [4] Z<|cT ?_
  exact aj Z ⟨Z,Z⟩ sbq
 | some x =>
  refine sA Z<|sK [1,4,5,6] Z<|cQ<|sM Z<|sK [1,4,5,14] Z<|aQ Z ?_
  refine cQ<|sV (vF Z KD Z)<|sV (vY Z ld9) ?_
  refine sA Z<|sK [4] Z<|cT<|xR ?_
  exact aj Z ⟨Z,Z⟩ sbq
end
section
variable {X:Res} {v v':Value} {us us':List Value}
theorem Jm {f:Fm} {b3:Nat} {t:Kt} {x:Value} (h:Enc.rep X us f):Reads prog 186 #[.agg us.toArray,.pointer (some ⟨b3,0,none⟩)] [pt b3 (cl (tyC t x) 73)] (.bool (f.name == t.name)):=by
 have h:us=[sv f.name,sv f.bound]:=h
 subst h
 unfold tyC
 refine aJ (n:=9) func186 Z Z (len Z) λhr w0=>?_
 refine cQ (aV Z Z λb2=>?_)
 refine sA Z<|sK [1,2,3] Z<|cQ<|sV (vF Z Ky Z)<|sV (vY Z ld9) ?_
 refine sV (vF Z Ac Z)<|sV (vY Z ld9) ?_
 refine sV (iM Z Z)<|sA Z<|sK [3] Z<|cT ?_
 exact aj Z ⟨Z,Z⟩ sbq
theorem OJ {F:List Fm} {A:List Kt} {k:Int} {n:Nm} {az:List Kt} {w p:Bool}:dD F A (.mk k n az w p)=match (if k=4 then oV F A n else none) with
  | some t=>t.flag w p
  | none=>.mk k n (az.map (dD F A)) w p:=by
 rw [dD,Dl]; rfl
theorem yx {F:List Fm} {A:List Kt} (hl:F.length=A.length) (n:Nm):(EJ F n=none/\oV F A n=none)\/∃ i a,EJ F n=some i/\A[i]? = some a/\oV F A n=some a/\i<A.length:=by
 cases h:EJ F n with
 | none=>left; exact ⟨rfl,by unfold oV; rw [h]; rfl⟩
 | some i =>
  right
  have hi:i<F.length:=(List.findIdx?_eq_some_iff_getElem.1 h).1
  have hi':i<A.length:=by omega
  exact ⟨i,A[i],Z,Zy hi',by unfold oV; rw [h,Option.bind_some,Zy hi'],hi'⟩
theorem ixI_ge {o:Option Nat}:decide ((0:Int)<=ixI o)=o.isSome:=by
 cases o with
 | none=>rfl
 | some i=>exact decide_eq_true (Int.natCast_nonneg i)
theorem Jn {L k:SH} {T:Res} {L':SH} (s:Sel L T L') (p:Addr) (u:Value) (h:Rd (Res.star (T::k)) p u):Rd (Res.star (Res.star L::k)) p u:=λw hw=>by
 have h1:bn (hp w) (L++k):=dL.1 hw
 have h2:bn (hp w) ((T::L')++k):=(bn.perm<|s.perm.append_right k).1 h1
 have h3:bn (hp w) (L'++(T::k)):=(bn.perm (List.perm_middle (l₁ := L')).symm).1 h2
 exact h w (bn.append.1 h3).2.1
theorem G9 {F : List Fm} {A : List Kt} {fv av : Value} (hl : F.length = A.length) (hF : Ls X fv F) (hA : Ls X av A) : ∀ (d : Nat) (t : Kt) (us : List Value), t.depth <= d -> Ty X us t ->
  CtN prog 115 #[.agg us.toArray,fv,av] [X] λu T=>∃ us':List Value,u = .agg us'.toArray/\Ty (Res.star [T,X]) us' (dD F A t)
 | 0,s,_,hd,_=>by cases s; simp [Kt.depth] at hd
 | d + 1, .mk k n az w p, us, hd, hs => by
  obtain ⟨x,rfl,hx⟩:=eH hs
  have hx:Tys X x az:=hx
  have hR:∀ a∈az,∀ us,Ty X us a->CtN prog 115 #[.agg us.toArray,fv,av] [X] λu T=>∃ us':List Value,u = .agg us'.toArray/\Ty (Res.star [T,X]) us' (dD F A a):=λa ha us h=>G9 hl hF hA d a us (by have:=jX (t:=.mk k n az w p) ha; omega) h
  have hml:maxLen=9223372036854775807:=rfl
  have hrb:reachBytes=140737488351232:=rfl
  obtain ⟨xa,xc,rfl,hlc,hcm,hnone⟩:=id hx.form
  obtain ⟨fa,fc,hfv,_⟩:=id hF.form
  obtain ⟨aa,ac,hav,_⟩:=id hA.form
  have hbb:az.length * 56<=reachBytes:=hx.sizes
  have htell:∀ b3:Nat,∀ f∈F,∀ us,Enc.rep (Res.star [pt b3 (cl (tyC (.mk k n az w p)<|.slice xa az.length xc) 73),X]) us f->Reads prog 186 (#[]++([.agg us.toArray]:List Value).toArray ++ #[.pointer (some ⟨b3,0,none⟩)]) [Res.star [pt b3 (cl (tyC (.mk k n az w p)<|.slice xa az.length xc) 73),X]] (.bool (f.name == n)):=λb3 f _ us h =>
   lM (Reads.more (Jm (b3:=b3) (t:=.mk k n az w p) h)<|.cons .here .nil)
  rw [OJ]
  show CtN _ _ #[.agg #[.int .i64 k,sv n,.slice xa az.length xc,.bool w,.bool p],_,_] _ _
  have htell:∀ b3:Nat,∀ f∈F,∀ us,Enc.rep (Res.star [pt b3 (cl [.int .i64 k,sv n,.slice xa az.length xc,.bool w,.bool p] 73),X]) us f->Reads prog 186 (#[]++([.agg us.toArray]:List Value).toArray ++ #[.pointer (some ⟨b3,0,none⟩)]) [Res.star [pt b3 (cl [.int .i64 k,sv n,.slice xa az.length xc,.bool w,.bool p] 73),X]] (.bool (f.name == n)):=htell
  refine aJ (n:=69) func115 Z Z (len Z) λhr w0=>?_
  refine cQ (aV Z Z λb3=>?_)
  refine au Af λb6=>?_
  refine sK [1,2,3,6] Z<|cS<|cQ<|sM Z<|sV (bX Z Z)<|bf Z Z en185 Z ((dS<|L9 (X:=Res.star [pt b3 (cl [.int .i64 k,sv n,.slice xa az.length xc,.bool w,.bool p] 73),X]) (g:=λf:Fm=>f.name == n) (hF.up'<|bL<|.there .here) en186<|htell b3)) ?_
  rw [show List.findIdx? (λf:Fm=>f.name == n) F=EJ F n from rfl]
  refine sA Z<|sK [1,2,3,6,7] Z<|cQ<|sV (vF Z rM Z)<|sV (vY Z ld3) ?_
  refine sV (dX Z Z)<|sM Z<|bH (k:=7) (d:=21) (v:=.bool (k == 4 && decide ((0:Int)<=ixI (EJ F n)))) (λhcut=>aM (b:=(k == 4)) true (λhg=>?_)<|λhg=>?_) ?_
  .refine aF Z Z hg ?_
   refine aF Z Z hg ?_
   refine sV (vP (bO Z hg) Z) ?_
   exact hcut _ uG
  .refine sG Z (bG Z hg) (vM Z)<|sG Z (bG Z hg) (qE Z Z)<|sV (vQ (bO Z hg) Z) ?_
   exact hcut _ uG
  rw [ixI_ge]
  by_cases hq:k=4/\(oV F A n).isSome=true
  .obtain ⟨hk,hac⟩:=hq
   rcases yx hl n with ⟨_,h2⟩ | ⟨j,a,hj,haj,hac2,hlt⟩
   .rw [h2] at hac; cases hac
   rw [if_pos hk,hac2,hj]
   rw [show (k == 4 && (some j).isSome)=true by rw [hk]; rfl]
   obtain ⟨b,o,cap2,us,e1,hus,hrd,hta⟩:=hA.at haj
   rw [hav] at e1
   obtain ⟨rfl,rfl⟩:aa=some ⟨b,o,none⟩/\ac=cap2:=by cases e1; exact ⟨rfl,rfl⟩
   have hone:=Enc.ones hta
   obtain ⟨y,rfl,hya⟩:=eH hta
   obtain ⟨ya,yc,rfl,_⟩:=id hya.form
   unfold tyC at hrd hone
   refine sK [1,2,3,6,7,21] Z<|aQ Z ?_
   refine cQ<|sM Z<|sM Z<|sV (vI (k:=j) (congrArg some hav) Z yJ Z hlt Z)<|sV (af Z fM Z hrd) ?_
   refine au Af λb8=>?_
   refine ai Z Z oK Z hone ?_
   refine sK [1,2,3,6,8] Z<|cS<|jC (ork [(0,2),(6,2)]<|.two 1 (ork [(2,2),(3,2),(4,1),(5,2),(7,0),(8,2),(9,2),(10,1),(11,2),(12,2),(13,0),(14,2),(15,0)] .nil) 7<|ork [(1,0),(2,2),(3,2),(4,1),(5,2),(8,2),(9,2),(10,1),(11,2),(12,2),(13,0),(14,2),(15,0)] .nil) (λi => !(Nat.beq i 1 || Nat.beq i 15)) [pt b3 (cl [.int .i64 k,sv n,.slice xa az.length xc,.bool w,.bool p] 73)] mixed Zz ?_
   refine dV Z (vF Z pY Z)<|dV Z (vF Z p8 Z)<|nJ Z Z ?_ ?_
   .refine sV (vY Z ld4)<|aW ?_
    refine dV Z (vM Z)<|Ep (k:=3) (d:=31) (v:=.bool (a.void || w)) (λhcut=>aM (b:=(a.void)) false (λhg=>?_)<|λhg=>?_) ?_
    .refine jm Z Z Z hg ?_
     refine kC Z Z Z hg ?_
     refine dV Z (vQ (bO Z hg) Z) ?_
     exact hcut _ uG
    .refine dC Z Z (bG Z hg) (vF Z pY Z)<|jl Z Z (bG Z hg) (vY Z ld4) ?_
     refine dV Z (vP (bO Z hg) Z) ?_
     exact hcut _ uG
    refine aT Z<|sV (vY Z ld4)<|aW ?_
    refine dV Z (vM Z)<|Ep (k:=3) (d:=37) (v:=.bool (a.sep || p)) (λhcut=>aM (b:=(a.sep)) false (λhg=>?_)<|λhg=>?_) ?_
    .refine jm Z Z Z hg ?_
     refine kC Z Z Z hg ?_
     refine dV Z (vQ (bO Z hg) Z) ?_
     exact hcut _ uG
    .refine dC Z Z (bG Z hg) (vF Z p8 Z)<|jl Z Z (bG Z hg) (vY Z ld4) ?_
     refine dV Z (vP (bO Z hg) Z) ?_
     exact hcut _ uG
    refine dV Z (vF Z pY Z)<|aT Z<|bi Z Z sz4 ?_
    refine aW ?_
    refine dV Z (vF Z p8 Z)<|aT Z<|bi Z Z sz4<|aW ?_
    refine bB<|nK [1,2,3,6,8] Z<|nT<|cQ<|sV (af Z fM Z ag) ?_
    refine ai Z Z oK Z Z ?_
    refine sK [6] Z<|cT<|xR<|jq (fw (L:=[])) ?_
    exact bM (.cellN Z fM Z slq .nil) ⟨Res.star [],Z,_,Z,gI (t:=a.flag w p) Z<|hya.up'<|bL slq⟩ sbr
   .refine sV (vY Z ld4)<|aW ?_
    refine aT Z<|sV (vY Z ld4)<|aW ?_
    refine dV Z (vM Z)<|Ep (k:=3) (d:=31) (v:=.bool (a.void || w)) (λhcut=>aM (b:=(a.void)) false (λhg=>?_)<|λhg=>?_) ?_
    .refine jm Z Z Z hg ?_
     refine kC Z Z Z hg ?_
     refine dV Z (vQ (bO Z hg) Z) ?_
     exact hcut _ uG
    .refine dC Z Z (bG Z hg) (vF Z pY Z)<|jl Z Z (bG Z hg) (vY Z ld4) ?_
     refine dV Z (vP (bO Z hg) Z) ?_
     exact hcut _ uG
    refine dV Z (vM Z)<|Ep (k:=3) (d:=37) (v:=.bool (a.sep || p)) (λhcut=>aM (b:=(a.sep)) false (λhg=>?_)<|λhg=>?_) ?_
    .refine jm Z Z Z hg ?_
     refine kC Z Z Z hg ?_
     refine dV Z (vQ (bO Z hg) Z) ?_
     exact hcut _ uG
    .refine dC Z Z (bG Z hg) (vF Z p8 Z)<|jl Z Z (bG Z hg) (vY Z ld4) ?_
     refine dV Z (vP (bO Z hg) Z) ?_
     exact hcut _ uG
    refine dV Z (vF Z pY Z)<|aT Z<|bi Z Z sz4 ?_
    refine aW ?_
    refine dV Z (vF Z p8 Z)<|aT Z<|bi Z Z sz4<|aW ?_
    refine bB<|nK [1,2,3,6,8] Z<|nT<|cQ<|sV (af Z fM Z ag) ?_
    refine ai Z Z oK Z Z ?_
    refine sK [6] Z<|cT<|xR<|jq (fw (L:=[])) ?_
    exact bM (.cellN Z fM Z slq .nil) ⟨Res.star [],Z,_,Z,gI (t:=a.flag w p) Z<|hya.up'<|bL slq⟩ sbr
  .have hne:(k == 4 && (EJ F n).isSome)=false:=by
    rcases yx hl n with ⟨h1,h2⟩ | ⟨j,a,hj,haj,hac2,hlt⟩
    .rw [h1]; simp
    .rw [hac2] at hq
     have hk:k≠4:=λe=>hq ⟨e,rfl⟩
     simp [hk]
   have hm:(match (if k=4 then oV F A n else none) with
     | some t=>t.flag w p
     | none=>Kt.mk k n (az.map (dD F A)) w p) = .mk k n (az.map (dD F A)) w p:=by
    by_cases hk:k=4
    .rw [if_pos hk]
     cases hac:oV F A n with
     | none=>rfl
     | some t=>rw [hac] at hq; exact absurd ⟨hk,rfl⟩ hq
    .rw [if_neg hk]
   rw [hm,hne]
   refine sK [1,2,3,6,7,21] Z<|aG Z ?_
   refine cK<|xT<|cQ<|sV (vF Z ja Z)<|sV (vY Z pX) ?_
   refine sV (aC Z underlying71) ?_
   have hsn:∀ i (h:i<az.length),(az.take (i+1)).map (dD F A)=(az.take i).map (dD F A)++[dD F A az[i]]:=λi h=>by rw [List.take_add_one,Zy h,List.map_append]; rfl
   refine Oh (n:=az.length) Z Z Z underlying71 Kv Z (by decide) (by omega) (by omega) (ltn Z) λb9=>?_
   refine sA Z<|sK [1,2,3,6,9] Z<|cS<|cQ<|sV (vF Z ja Z)<|sV (vY Z pX) ?_
   refine sV (aC Z underlying71)<|sM Z<|sK [1,2,3,6,9,46,47,48] Z<|cB<|dY (fw (L:=[]))<|aY (σ := List (List Value)×Res×Nat) (λq=>[(1,fv),(2,av),(3,.pointer (some ⟨b3,0,none⟩)),(6,.pointer (some ⟨b6,0,none⟩)),(9,.slice (some ⟨b9,0,none⟩) az.length az.length),(46,.slice xa az.length xc),(47,.int .i64 az.length),(48,.int .i64 (q.2.2:Nat))]) (λq=>pt b9 (cl q.1.flatten 73)::q.2.1::X::pt b3 (cl [.int .i64 k,sv n,.slice xa az.length xc,.bool w,.bool p] 73)::pt b6 (cl [.int .i64 0,sv [],.slice none 0 0,.bool false,.bool false] 73)::hr) (λq=>q.2.2<=az.length/\q.1.length=az.length/\(∀ r∈q.1,r.length=5)/\∀ (j:Nat) us (hj:j<az.length),j<q.2.2->q.1[j]? = some us->Ty (Res.star [q.2.1,X]) us (dD F A az[j])) (λq=>az.length - q.2.2) (List.replicate az.length [.int .i64 0,sv [],.slice none 0 0,.bool false,.bool false],Res.star [],0) ⟨Nat.zero_le _,by simp,λr hr=>by rw [List.eq_of_mem_replicate hr]; rfl,λj us _ hj=>absurd hj<|Nat.not_lt_zero _⟩ ?_
   rintro ⟨rows,T,i⟩ ⟨hi,hrl,hr5,hpc⟩
   simp only at hi hrl hr5 hpc
   dsimp only
   refine cQ<|sV (aO Z Z)<|sN<|nT<|cS<|cC Z (λhd=>?_)<|λhd=>?_
   .have hlt:i<az.length:=Zx
    have hmem:=List.getElem_mem hlt
    obtain ⟨b,o,cap2,us,e1,hus,hrd,hta⟩:=hx.at<|Zy hlt
    cases e1
    have hus:us.length=5:=hus
    have hone:=Enc.ones hta
    have hca:=hR _ hmem us hta
    refine cK<|xT<|cS<|cB<|cQ<|sM Z<|sV (vI (k:=i) Z Z yJ Z hlt Z)<|sV (af Z fM hus hrd) ?_
    refine au Af λb11=>?_
    refine sA Z<|ai (hl:=by rw [hus]; rfl) Z Z oK hus hone ?_
    refine sK [1,2,3,6,9,10,11,46,47,48] Z<|cR<|sM Z<|sM Z<|sV (af Z fM hus ag) ?_
    refine sM Z<|sM Z<|aH Z Z KJ Z (hca) ?_
    rintro u h' ⟨T2,rfl,us2,rfl,hT2⟩
    simp only [lC,lN]
    have h5:us2.length=5:=Enc.len hT2
    have h1:=Enc.ones hT2
    refine sV (vI (k:=i) Z Z yJ Z hlt Z)<|iG Z Z oK h5 (ones h1) (show Sel _ (pt b9<|cl rows.flatten 73) _ from slq) (by rw [Au hr5,hrl,h5]; omega) ?_
    rw [show 0+i * 5=i * 5 by omega,nu h5 hr5 (by omega)]
    refine sN<|nK [1,2,3,6,9,46,47,48] Z<|ax<|xB<|xT<|cR<|sV (aI Z Z Z0)<|sM Z<|sN<|nK [1,2,3,6,9,46,47,48] Z<|ax<|lm (fP (L:=[T,T2])) ?_
    simp only [lC,lN]
    refine aL (rows.set i us2,Res.star [T,T2],i+1) ⟨hlt,by simp [hrl],λr hr=>?_,λj us3 hjl hj g1=>?_⟩<|Nat.sub_lt_sub_left hlt<|Nat.lt_succ_self i
    .rcases List.mem_or_eq_of_mem_set hr with h | h
     .exact hr5 r h
     .rw [h]; exact h5
    .by_cases hji:j=i
     .subst hji
      rw [List.getElem?_set_self (by omega)] at g1
      cases g1
      exact Enc.up (λp u h=>Jn (.there .here) p u h) hT2
     .rw [List.getElem?_set_ne (Ne.symm hji)] at g1
      have hj:j<i+1:=hj
      exact Enc.up (λp u h=>Jn .here p u h)<|hpc j us3 hjl (by omega) g1
   .have hie:i=az.length:=by
     have:¬ i<az.length:=Zx
     omega
    subst hie
    refine aB<|xE<|xE<|xY<|xT<|cQ<|sM Z<|sM Z<|sV (aC Z underlying71)<|sM Z<|sV (aC Z underlying71)<|Aj (Ak (b:=b9) (n:=az.length) (sz:=5) (E:=73) rows Z hr5 hrl<|by omega) ?_
    simp only [lC,lN]
    refine ni (r:=VR (.slice (some ⟨b9,0,none⟩) az.length az.length) 73 5 rows) slq λhok=>?_
    refine Aj (fP (L:=[VR (.slice (some ⟨b9,0,none⟩) az.length az.length) 73 5 rows,T])) ?_
    simp only [lC,lN]
    have hls:Tys (Res.star [Res.star [VR (.slice (some ⟨b9,0,none⟩) az.length az.length) 73 5 rows,T],X]) (.slice (some ⟨b9,0,none⟩) az.length az.length) (az.map<|dD F A):=Rws.ls (E:=73) (rows:=rows) ⟨by simp [hrl],λj us x h1 h2=>by
     have hjl:j<az.length:=by have:=(List.getElem?_eq_some_iff.1 h1).1; omega
     rw [List.getElem?_map,Zy hjl] at h2
     cases h2
     exact Enc.up (λp u h=>Jn (.there .here) p u h) (hpc j us hjl hjl h1)⟩ hok (λp u h=>bL .here p u (bL .here p u h)) (by rw [List.length_map]; exact hbb)
    refine sV (AP (hi:=az.length) (mx:=az.length) Z Z Z yJ Z Z (Nat.le_refl _)<|Nat.le_refl _)<|sV (vF Z ja Z)<|bi Z Z sz71 ?_
    refine sK [3,6] Z<|cQ<|sV (af Z fM Z ag) ?_
    refine ai Z Z oK Z Z ?_
    refine sK [6] Z<|cT ?_
    exact bM (.cellN Z fM Z slq .nil) ⟨Res.star [VR (.slice (some ⟨b9,0,none⟩) az.length az.length) 73 5 rows,T],Z,_,Z,gI (t:=.mk k n (az.map<|dD F A) w p) Z (by rw [show (Kt.mk k n (az.map<|dD F A) w p).args=az.map (dD F A) from Z]; simpa using hls)⟩ sbr
theorem AY {F:List Fm} {A:List Kt} {fv av:Value} {t:Kt} (hl:F.length=A.length) (hF:Ls X fv F) (hA:Ls X av A) (h:Ty X us t) :
  CtN prog 115 #[.agg us.toArray,fv,av] [X] λu T=>∃ us':List Value,u = .agg us'.toArray/\Ty (Res.star [T,X]) us' (dD F A t):=G9 hl hF hA t.depth t us (Nat.le_refl _) h
theorem tpw_unf (t:Kt):tpw t=tpws 1 t.args:=by cases t; rfl
theorem Ha : ∀ (d : Nat) (X : Res) (t : Kt) (us : List Value), t.depth <= d -> Ty X us t -> Reads prog 134 #[.agg us.toArray] [X] (.int .i64 (tpw t))
 | 0,_,s,_,hd,_=>by cases s; simp [Kt.depth] at hd
 | d + 1, X, t, us, hd, hs => by
  obtain ⟨x,rfl,hx⟩:=eH hs
  have hR:∀ a∈t.args,∀ us,Ty X us a->Reads prog 134 #[.agg us.toArray] [X] (.int .i64<|tpw a):=λa ha us h=>Ha d X a us (by have:=jX ha; omega) h
  have hml:maxLen=9223372036854775807:=rfl
  obtain ⟨xa,xc,rfl,hlc,hcm,_⟩:=id hx.form
  rw [tpw_unf]
  unfold tyC
  refine aJ (n:=19) func134 Z Z (len Z) λhr w0=>?_
  refine cQ (aV Z Z λb1=>?_)
  refine sA Z<|sK [1,2] Z<|cQ<|sA Z<|sN<|nT<|cS<|cQ<|sV (vF Z ja Z)<|sV (vY Z pX) ?_
  refine sV (aC Z underlying71)<|sM Z<|sK [2,3,7,8,9] Z<|cB<|aY (σ := Int×Nat) (λq=>[(3,.int .i64 q.1),(7,.slice xa t.args.length xc),(8,.int .i64 t.args.length),(9,.int .i64 (q.2:Nat))]) (λ_=>X::hr) (λq=>q.2<=t.args.length/\tpws q.1 (t.args.drop q.2)=tpws 1 t.args) (λq=>t.args.length - q.2) (1,0) ⟨Nat.zero_le _,Z⟩ ?_
  rintro ⟨n,i⟩ ⟨hi,hn⟩
  simp only at hi hn
  dsimp only
  refine cQ<|sV (aO Z Z)<|sN<|nT<|cS<|cC Z (λhd2=>?_)<|λhd2=>?_
  .have hlt:i<t.args.length:=Zw
   obtain ⟨b,o,cap2,us,e1,hus,hrd,ht⟩:=hx.at<|Zy hlt
   cases e1
   have hus:us.length=5:=hus
   have hone:=Enc.ones ht
   have hca:=hR _ (List.getElem_mem hlt) us ht
   have hdr:t.args.drop i=t.args[i]::t.args.drop (i+1):=by rw [List.getElem_cons_drop]
   rw [hdr,tpws] at hn
   refine cK<|xT<|cS<|cB<|cQ<|sV (vI (k:=i) Z Z yJ Z hlt Z)<|sV (af Z fM hus hrd) ?_
   refine au Af λb5=>?_
   refine ai (hl:=by rw [hus]; rfl) Z Z oK hus hone ?_
   refine sK [3,5,7,8,9] Z<|cR<|sM Z<|sV (af Z fM hus ag) ?_
   refine bf Z Z en134 Z (hca) ?_
   refine sV (El Z Z)<|sA Z<|sN<|nK [3,7,8,9] Z<|ax<|xB<|xT<|cR<|sV (aI Z Z (by unfold I64; omega)) ?_
   refine sM Z<|sN<|nK [3,7,8,9] Z<|ax ?_
   refine aL (IntKind.i64.wrap (n+tpw t.args[i]),i+1) ⟨hlt,hn⟩<|Nat.sub_lt_sub_left hlt<|Nat.lt_succ_self i
  .have hil:i=t.args.length:=by
    have:¬ i<t.args.length:=Zw
    omega
   rw [hil,List.drop_length,tpws] at hn
   rw [<- hn]
   refine aB<|xE<|xE<|xY<|xT<|cQ<|sM Z<|sA Z<|sK [2] Z<|cT ?_
   exact aj Z ⟨Z,Z⟩ sbq
theorem Hd {t:Kt} (h:Ty X us t):Reads prog 134 #[.agg us.toArray] [X] (.int .i64 (tpw t)):=Ha t.depth X t us (Nat.le_refl _) h
theorem Jo {a:Vr} (h:Enc.rep X us a):Reads prog 136 #[.agg us.toArray] [X] (.bool (decide (400<tpw a.ty))):=by
 obtain ⟨x,rfl,hx⟩:=E8 h
 have hp:=Hd<|gI (t:=a.ty) rfl hx
 unfold tyC at hp
 refine aJ (n:=7) func136 Z Z (len Z) λhr w0=>?_
 refine cQ (aV Z Z λb1=>?_)
 refine sA Z<|sK [1,2] Z<|cQ<|sV (vF Z kw Z)<|sV (af Z fM Z<|bF (us:=[sv a.name,.int .i64 a.ty.kind,sv a.ty.name,x,.bool a.ty.void,.bool a.ty.sep]) (vs:=[.int .i64 a.ty.kind,sv a.ty.name,x,.bool a.ty.void,.bool a.ty.sep]) (k:=1) ag Z) ?_
 refine bf Z Z en134 Z (hp) ?_
 refine sV (dh Z Z)<|sA Z<|sK [2] Z<|cT ?_
 exact aj Z ⟨Z,Z⟩ sbq
theorem Jp {m:Mb} (h:Enc.rep X us m):Reads prog 133 #[.agg us.toArray] [X] (.bool (decide (400<tpw m.ty) || m.args.any λv=>decide (400<tpw v.ty))):=by
 obtain ⟨x2,x5,xy,x11,x12,x13,rfl,hx2,hx5,hxy,hx11,hx12,hx13⟩:=dN h
 have hp:=Hd<|gI (t:=m.ty) rfl hxy
 unfold tyC at hp
 unfold iC
 refine aJ (n:=12) func133 Z Z (len Z) λhr w0=>?_
 refine cQ (aV Z Z λb1=>?_)
 refine sA Z<|sK [1,2] Z<|cQ<|sV (vF Z nR Z)<|sV (af Z fM Z<|bF (us:=iC m x2 x5 xy x11 x12 x13) (vs:=[.int .i64 m.ty.kind,sv m.ty.name,xy,.bool m.ty.void,.bool m.ty.sep]) (k:=6) ag Z) ?_
 refine bf Z Z en134 Z (hp) ?_
 refine sV (dh Z Z)<|sM Z<|bH (k:=9) (d:=11) (v:=.bool (decide (400<tpw m.ty) || m.args.any λv=>decide (400<tpw v.ty))) (λhcut=>aM (b:=(decide (400<tpw m.ty))) false (λhg=>?_)<|λhg=>?_) ?_
 .refine aF Z Z hg ?_
  iterate 2 refine aF rfl rfl hg ?_
  refine sV (vQ (bO Z hg) Z) ?_
  exact hcut _ uG
 .refine sG Z (bG Z hg) (vF Z jW Z)<|sG Z (bG Z hg) (vY Z rF) ?_
  refine bS Z (bG Z hg) Z Z en135 Z (Mf hx5 en136<|λ_ _ _ h=>Jo h) ?_
  refine sV (vP (bO Z hg) Z) ?_
  exact hcut _ uG
 refine sA Z<|sK [2] Z<|cT ?_
 exact aj Z ⟨Z,Z⟩ sbq
theorem K4 {ms:List Mb} (hv:Ls X v ms):Reads prog 59 #[v] [X] (.bool (over ms)):=by
 obtain ⟨a,cap,rfl,hlc,hcm,_⟩:=id hv.form
 have hov:over ms=(decide ((60:Int)<(ms.length:Nat)) || ms.any λm=>decide (400<tpw m.ty) || m.args.any λv=>decide (400<tpw v.ty)):=by
  unfold over
  rw [show decide (60<ms.length)=decide ((60:Int)<(ms.length:Nat)) by rw [Bool.eq_iff_iff]; simp; omega]
 rw [hov]
 refine aJ (n:=10) func59 Z Z (len Z) λhr w0=>?_
 refine cQ<|sA Z<|sN<|nT<|cQ<|sM Z<|sV (aC Z underlying52)<|sV (dh Z Z)<|sM Z<|bH (k:=7) (d:=9) (v:=.bool (decide ((60:Int)<(ms.length:Nat)) || ms.any λm=>decide (400<tpw m.ty) || m.args.any λv=>decide (400<tpw v.ty))) (λhcut=>aM (b:=(decide ((60:Int)<(ms.length:Nat)))) false (λhg=>?_)<|λhg=>?_) ?_
 .refine aF Z Z hg ?_
  refine aF Z Z hg ?_
  refine sV (vQ (bO Z hg) Z) ?_
  exact hcut _ uG
 .refine sG Z (bG Z hg) (vM Z)<|bS Z (bG Z hg) Z Z en132 Z (Me hv en133<|λ_ _ _ h=>Jp h) ?_
  refine sV (vP (bO Z hg) Z) ?_
  exact hcut _ uG
 refine sA Z<|sK [2] Z<|cT ?_
 exact aj Z ⟨Z,Z⟩ sbq
end
instance encL {α : Type} [Enc α]:Enc (List α) where
 sz:=1
 by':=24
 rep S us xs:=∃ u,us=[u]/\Ls S u xs
 len h:=by obtain ⟨u,rfl,_⟩:=h; rfl
 ones h:=by obtain ⟨u,rfl,h2⟩:=h; simp [h2.one]
 up hr h:=by obtain ⟨u,h1,h2⟩:=h; exact ⟨u,h1,h2.up' hr⟩
theorem vw_full {a : Option Addr} {n cp : Nat} {E : TypeId} {sz : Nat} {rows : List (List Value)} {h : SH} : Vw (VR (.slice a n cp) E sz rows :: h) (VR (.slice a rows.length rows.length) E sz rows :: h) := λw ⟨h1, h2, h3⟩ => by
 refine ⟨?_,λb ⟨o,m,c,hb⟩=>?_,h3⟩
 .refine ⟨h1.1,?_⟩
  rcases h1.2 with ⟨g1,g2⟩ | ⟨b,o,c,pre,j,g1,g2,g3,g4,g5,g6⟩
  .cases g1; subst g2; exact .inl ⟨rfl,rfl⟩
  .cases g1
   refine .inr ⟨b,o,rows.length,pre,j,Z,g2,g3,Nat.le_refl _,by omega,?_⟩
   exact Nat.le_trans (Nat.mul_le_mul_right _ g4) g6
 .rcases h1.2 with ⟨g1,g2⟩ | ⟨b',o',c',pre,j,g1,g2,g3,g4,g5,g6⟩
  .cases g1; cases hb
  .cases g1; cases hb
   exact h2 b ⟨_,_,_,Z⟩
section
variable {X:Res} {v v':Value} {us us':List Value}
theorem He {xs:List Sd} {s:Sd} (hv:Ls X v xs):Reads prog 101 #[v,.agg #[sv s.cls,sv s.name]] [X] (.int .i64 (ixI (xs.findIdx? λx=>decide (x=s)))):=by
 have hml:maxLen=9223372036854775807:=rfl
 obtain ⟨a,cap,rfl,hlc,hcm,_⟩:=id hv.form
 refine aJ (n:=19) func101 Z Z (len Z) λhr w0=>?_
 refine cQ (aV Z Z λb3=>?_)
 refine sA Z<|sK [0,3,4] Z<|cS<|cQ<|sM Z<|sV (aC Z underlying67)<|sM Z<|sK [0,3,4,7,8] Z<|cB<|aY (σ := Nat) (λi=>[(0,.slice a xs.length cap),(3,.pointer (some ⟨b3,0,none⟩)),(7,.int .i64 xs.length),(8,.int .i64 (i:Nat))]) (λ_=>X::pt b3 (cl [sv s.cls,sv s.name] 69)::hr) (λi=>i<=xs.length/\∀ j (hj:j<xs.length),j<i->xs[j]≠s) (λi=>xs.length - i) 0 ⟨Nat.zero_le _,λj _ hj=>absurd hj<|Nat.not_lt_zero _⟩ ?_
 rintro i ⟨hi,hal⟩
 refine cQ<|sV (aO Z Z)<|sN<|nT<|cS<|cC Z (λhd=>?_)<|λhd=>?_
 .have hlt:i<xs.length:=Zx
  obtain ⟨b,o,cap2,us,e1,hus,hrd,hre⟩:=hv.at<|Zy hlt
  cases e1
  have hre:us=[sv (xs[i]).cls,sv (xs[i]).name]:=hre
  subst hre
  refine cK<|xT<|cS<|cB<|cQ<|sM Z<|sA Z<|sK [0,3,5,7,8] Z<|cS<|bC (ork [(0,1),(1,2),(2,2),(3,2),(4,1),(5,1)] .nil) (λ_=>true) mixed Zz ?_
  refine bu Z (af Z iN Z ag) ?_
  refine dV Z (vM Z)<|dV Z (vM Z)<|dV Z (vI (k:=i) Z Z qV Z hlt Z)<|bu Z (af Z iN Z hrd) ?_
  refine bu Z (jY yw Z Z)<|bB<|nK [0,3,5,7,8,16] Z<|nT ?_
  rw [<- xn]
  refine cC Z (λhe=>?_)<|λhe=>?_
  .have he:s=xs[i]:=of_decide_eq_true he
   rw [show xs.findIdx? (λx=>decide (x=s))=some i by
    rw [List.findIdx?_eq_some_iff_getElem]
    exact ⟨hlt,by simp [he],λj hj=>by simpa using hal j (by omega) hj⟩]
   refine cQ<|sM Z<|sA Z<|sK [4] Z<|cT<|xW<|xR<|xR<|xW<|xR ?_
   exact aj Z ⟨Z,Z⟩ sbq
  .have he:s≠xs[i]:=of_decide_eq_false he
   refine cK<|xB<|xT<|cR<|sV (aI Z Z Z0)<|sM Z<|sN<|nK [0,3,7,8] Z<|ax<|aL (i+1) ⟨hlt,λj hj hj2=>?_⟩<|Nat.sub_lt_sub_left hlt<|Nat.lt_succ_self i
   by_cases hji:j=i
   .subst hji; exact λe=>he e.symm
   .exact hal j hj<|by omega
 .have hil:i=xs.length:=by
   have:¬ i<xs.length:=Zx
   omega
  rw [show xs.findIdx? (λx=>decide (x=s))=none by
   rw [List.findIdx?_eq_none_iff]
   intro f hfm
   obtain ⟨j,hj,rfl⟩:=List.getElem_of_mem hfm
   simpa using hal j hj (by omega)]
  refine aB<|xE<|xE<|xY<|xT<|cQ<|sA Z<|sK [4] Z<|cT ?_
  exact aj Z ⟨Z,Z⟩ sbq
theorem Fb {xs:List Sd} {s:Sd}:(xs.any λx=>decide (x=s))=xs.contains s:=by
 rw [Bool.eq_iff_iff]; simp
theorem ww {xs:List Sd} {s:Sd} (hv:Ls X v xs):Reads prog 33 #[v,.agg #[sv s.cls,sv s.name]] [X] (.bool (xs.contains s)):=by
 rw [<- Fb,<- sW]
 obtain ⟨a,cap,rfl,hlc,hcm,_⟩:=id hv.form
 refine aJ (n:=9) func33 Z Z (len Z) λhr w0=>?_
 refine cQ (aV Z Z λb3=>?_)
 refine sA Z<|sK [0,3,4] Z<|cQ<|sM Z<|sV (af Z iN Z ag) ?_
 refine bf Z Z en101 Z (He hv) ?_
 refine sV (qE Z Z)<|sA Z<|sK [4] Z<|cT ?_
 exact aj Z ⟨Z,Z⟩ sbq
theorem mi {ms:List Mb} {s:Sd} (hv:Ls X v ms):CtN prog 102 #[v,.agg #[sv s.cls,sv s.name]] [X] λu T=>u.oneCell'=true/\T=NR u (aX ms s):=by
 have hml:maxLen=9223372036854775807:=rfl
 have hrb:reachBytes=140737488351232:=rfl
 have hsz:ms.length * 232<=reachBytes:=hv.sizes
 obtain ⟨a,cap,rfl,hlc,hcm,_⟩:=id hv.form
 have hsn:∀ i (h:i<ms.length),aX (ms.take (i+1)) s=aX (ms.take i) s++(if (ms[i]).seeds.contains s then [(ms[i]).name] else []):=λi h=>by
  unfold aX
  rw [List.take_succ_eq_append_getElem h,List.filter_append,List.map_append]
  congr 1
  rw [List.filter_cons,List.filter_nil]
  split <;> simp
 have hle:∀ i,(aX (ms.take i) s).length<=i:=λi=>by
  unfold aX
  rw [List.length_map]
  exact Nat.le_trans (List.length_filter_le _ _) (by rw [List.length_take]; omega)
 refine aJ (n:=25) func102 Z Z (len Z) λhr w0=>?_
 refine cQ (aV Z Z λb3=>?_)
 refine sA Z<|sK [0,3,4] Z<|cQ<|sA Z<|sN<|nT<|cS<|cQ<|sM Z<|sV (aC Z underlying52)<|sM Z<|sK [3,4,5,8,9,10] Z<|cB ?_
 refine dY (dn 9 1)<|aY (σ := Value×Nat) (λq=>[(3,.pointer (some ⟨b3,0,none⟩)),(5,q.1),(8,.slice a ms.length cap),(9,.int .i64 ms.length),(10,.int .i64 (q.2:Nat))]) (λq=>NR q.1 (aX (ms.take q.2) s)::X::pt b3 (cl [sv s.cls,sv s.name] 69)::hr) (λq=>q.2<=ms.length/\q.1.oneCell'=true) (λq=>ms.length - q.2) (.slice none 0 0,0) ⟨Nat.zero_le _,Z⟩ ?_
 rintro ⟨w,i⟩ ⟨hi,hw⟩
 simp only at hi hw
 dsimp only
 refine cQ<|sV (aO Z Z)<|sN<|nT<|cS<|cC Z (λhd=>?_)<|λhd=>?_
 .have hlt:i<ms.length:=Zx
  obtain ⟨b,o,cap2,us,e1,hus,hrd,ht⟩:=hv.at<|Zy hlt
  cases e1
  have hsn:=hsn i hlt
  have hle:=hle i
  generalize ms[i]=m at ht hsn
  have hone:=Enc.ones ht
  obtain ⟨x2,x5,xy,x11,x12,x13,rfl,hx2,hx5,hxy,hx11,hx12,hx13⟩:=dN ht
  unfold iC at hrd hone
  refine cK<|xT<|cS<|cB<|cQ<|sV (vI (k:=i) Z Z oM Z hlt Z)<|sV (af Z fE Z hrd) ?_
  refine au jR λb7=>?_
  refine ai Z Z iH Z hone ?_
  refine sK [3,5,7,8,9,10] Z<|cQ<|sV (vF Z eT Z)<|sV (vY Z pW) ?_
  refine sV (af Z iN Z ag) ?_
  refine bf Z Z en33 Z (ww hx2) ?_
  refine sK [3,5,7,8,9,10,17] Z<|cC Z (λhc=>?_)<|λhc=>?_
  .have hc:m.seeds.contains s=true:=hc
   rw [hc,if_pos rfl] at hsn
   refine cR<|sM Z<|sV (vF Z eQ Z)<|sV (vY Z ld9) ?_
   refine ak (cells:=[sv m.name]) Z underlying40 gp Z Z Zz (ltn Z) λb62=>?_
   refine eG [[sv m.name]] Z Z underlying40 gp Z (by decide) (show Sel _ (VR w 9 1<|(aX (ms.take i) s).map nC) _ from slq) (by simp) Z (λj u2 hu2=>bV<|bZ Zt) (by simp; rfl) (by rw [List.length_map]; omega) (by rw [List.length_map]; omega) (ltn Z) λw2 hw2 _=>?_
   refine sA Z<|sN<|nK [3,5,8,9,10] Z<|ax<|xB<|xT<|cR<|sV (aI Z Z Z0)<|sM Z<|sN<|nK [3,5,8,9,10] Z<|ax ?_
   rw [show (aX (ms.take i) s).map nC++[[sv m.name]]=(aX (ms.take (i+1)) s).map nC by rw [hsn,List.map_append]; rfl]
   refine aL (w2,i+1) ⟨hlt,hw2⟩<|Nat.sub_lt_sub_left hlt<|Nat.lt_succ_self i
  .have hc:m.seeds.contains s=false:=hc
   rw [hc,if_neg (by decide),List.append_nil] at hsn
   refine cK<|xB<|xT<|cR<|sV (aI Z Z Z0)<|sM Z<|sN<|nK [3,5,8,9,10] Z<|ax ?_
   rw [<- hsn]
   refine aL (w,i+1) ⟨hlt,hw⟩<|Nat.sub_lt_sub_left hlt<|Nat.lt_succ_self i
 .have hil:i=ms.length:=by
   have:¬ i<ms.length:=Zx
   omega
  rw [hil,List.take_length]
  refine aB<|xE<|xE<|xY<|xT<|cQ<|sM Z<|sA Z<|sK [4] Z<|cT ?_
  exact aj Z ⟨_,Z,hw,Z⟩ sbq
end
section
variable {X:Res} {v v':Value} {us us':List Value}
def Hf (a b:Sd):Int:=orI [rT a.cls b.cls,rT a.name b.name]
theorem Ff (a b:Sd):Reads prog 198 #[.agg #[sv a.cls,sv a.name],.agg #[sv b.cls,sv b.name]] [] (.int .i64 (Hf a b)):=by
 refine aJ (n:=17) func198 Z Z (len Z) λhr w0=>?_
 refine cQ (aV Z Z λb2=>?_)
 refine aV Z Z λb3=>?_
 refine sA Z<|sK [2,3,4] Z<|cS<|bC (ork [(0,2),(1,1),(2,2),(3,1),(4,1),(5,2),(6,1),(7,2),(8,1),(9,1),(10,0),(11,0),(12,2)] .nil) (λi => !(Nat.beq i 10 || Nat.beq i 11)) mixed Zz ?_
 refine dV Z (vF Z wQ Z)<|bu Z (vY Z ld9) ?_
 refine dV Z (vF Z wQ Z)<|bu Z (vY Z ld9) ?_
 refine jE Z Z Z KL Z (zk a.cls b.cls) ?_
 refine dV Z (vF Z wR Z)<|bu Z (vY Z ld9) ?_
 refine dV Z (vF Z wR Z)<|bu Z (vY Z ld9) ?_
 refine jE Z Z Z KL Z (zk a.name b.name) ?_
 refine aT Z (ak (cells:=[.int .i64 (rT a.cls b.cls),.int .i64 (rT a.name b.name)]) Z underlying333 oN Z Z Zz (ltn Z) λb51=>aW ?_)
 refine aT Z<|aH Z Z en227 Z (Or_ct (xs:=[rT a.cls b.cls,rT a.name b.name]) KU<|by simp) ?_
 rintro u h' ⟨rfl,rfl⟩
 simp only [lC,lN]
 refine aW ?_
 refine dV Z (vA Z)<|bB<|nK [4] Z<|nT<|cT ?_
 exact aj Z ⟨Z,Z⟩ sbq
theorem Ml {F:List Fm} {A:List Kt} {fv av:Value} {t:Kt} (hF:Ls X fv F) (hA:Ls X av A) (h:Ty X us t) :
  CtN prog 52 #[.agg us.toArray,fv,av] [X] λu T=>∃ us':List Value,u = .tuple #[.agg us'.toArray,.int .i64 (if F.length=A.length then 0 else 2)]/\Ty T us' (if F.length=A.length then dD F A t else .mk 0 [] [] false false):=by
 obtain ⟨x,rfl,hx⟩:=eH h
 obtain ⟨xa,xc,rfl,_⟩:=id hx.form
 obtain ⟨fa,fc,hfv,_⟩:=id hF.form
 obtain ⟨aa,ac,hav,_⟩:=id hA.form
 by_cases hl:F.length=A.length
 .have hc:=AY hl hF hA h
  rw [if_pos hl,if_pos hl]
  unfold tyC at hc ⊢
  subst hfv hav
  refine aJ (n:=19) func52 Z Z (len Z) λhr w0=>?_
  refine cQ (aV Z Z λb3=>?_)
  refine au Af λb6=>?_
  refine sA Z<|sK [1,2,3,6,7] Z<|cS<|cQ<|sM Z<|sV (aC Z underlying38)<|sM Z<|sV (aC Z underlying71)<|sV (bT Z Z)<|sK [1,2,3,6,7,12] Z ?_
  rw [show ((F.length:Int) != A.length)=false by rw [hl]; simp]
  refine aG Z ?_
  refine cK<|xT<|cQ<|sV (af Z fM Z ag) ?_
  refine sM Z<|sM Z<|aH Z Z KJ Z (hc) ?_
  rintro u h' ⟨T,rfl,us2,rfl,hT⟩
  simp only [lC,lN]
  have hcp:=kH<|AU hT
  refine aH Z Z KI Z (hcp) ?_
  rintro u h' ⟨T2,rfl,us3,rfl,hT2⟩
  simp only [lC,lN]
  have h5:us3.length=5:=Enc.len hT2
  have h1:=Enc.ones hT2
  refine ai (hl:=by rw [h5]; rfl) Z Z oK h5 h1 ?_
  refine sA Z<|sK [6,7] Z<|cT ?_
  exact bM (.cellN Z fM h5 slq<|.tmp Z .nil) ⟨T2,Z,us3,Z,hT2⟩ sbr
 .rw [if_neg hl,if_neg hl]
  unfold tyC
  subst hfv hav
  refine aJ (n:=19) func52 Z Z (len Z) λhr w0=>?_
  refine cQ (aV Z Z λb3=>?_)
  refine au Af λb6=>?_
  refine sA Z<|sK [1,2,3,6,7] Z<|cS<|cQ<|sM Z<|sV (aC Z underlying38)<|sM Z<|sV (aC Z underlying71)<|sV (bT Z Z)<|sK [1,2,3,6,7,12] Z ?_
  rw [show ((F.length:Int) != A.length)=true by simp; omega]
  refine aQ Z ?_
  refine cQ<|sV (aP (cells:=[.int .i64 0,sv [],.slice none 0 0,.bool false,.bool false]) Z<|λ_=>Zz) ?_
  refine ai Z Z oK Z Z ?_
  refine sA Z<|sK [6,7] Z<|cT<|xR<|jq (fw (L:=[])) ?_
  exact bM (.cellN Z fM Z slq<|.tmp Z .nil) ⟨Res.star [],Z,_,Z,gI (t:=.mk 0 [] [] false false) Z Ls.nil⟩ sbr
theorem Hg {x g:Grp} {b7:Nat} {gs:List Value} {L L':SH} (hs:Sel L (pt b7 (cl gs 170)) L') (hgl:gs.length=2) (h:Enc.rep (Res.star L) us x) (hg:Enc.rep (Res.star L) gs g):Reads prog 248 #[.agg us.toArray,.pointer (some ⟨b7,0,none⟩)] [Res.star L] (.bool (decide (x=g))):=by
 have hsm:=OD h hg
 have hrd:Rds (Res.star L) b7 0 gs:=λi hi=>pM hs<|ag i hi
 obtain ⟨y,rfl,_⟩:=h
 refine aJ (n:=7) func248 Z Z (len Z) λhr w0=>?_
 refine cQ (aV Z Z λb2=>?_)
 refine sA Z<|sK [1,2,3] Z<|cQ<|sV (af Z rH Z ag) ?_
 refine sV (af Z rH hgl hrd) ?_
 refine bf Z Z en182 Z (hsm) ?_
 refine sA Z<|sK [3] Z<|cT ?_
 exact aj Z ⟨Z,Z⟩ sbq
theorem Ch {xs:List Grp} {g:Grp}:(xs.any λx=>decide (x=g))=xs.contains g:=by
 rw [Bool.eq_iff_iff]; simp
theorem Hl (xs:List Grp):∀ o,(rV o xs).length<=o.length+xs.length:=by
 induction xs with
 | nil=>intro o; exact Nat.le_refl _
 | cons g t ih =>
  intro o
  have h1:(vT o g).length<=o.length+1:=by unfold vT; split <;> simp
  have:=ih<|vT o g
  show (rV (vT o g) t).length<=_
  simp only [List.length_cons]; omega
theorem Mm (o xs:List Grp) (g:Grp):rV o (xs++[g])=vT (rV o xs) g:=by simp [rV]
theorem Hm (ls:List (List Grp)) (xs:List Grp):groups (ls++[xs])=rV (groups ls) xs:=by simp [groups]
theorem mH (ls:List (List Grp)):(groups ls).length<=ls.flatten.length:=by
 have key:∀ (ls:List (List Grp)) (o:List Grp),(ls.foldl rV o).length<=o.length+ls.flatten.length:=by
  intro ls
  induction ls with
  | nil=>intro o; simp
  | cons a t ih =>
   intro o
   have h1:=Hl a o
   have h2:=ih<|rV o a
   rw [List.foldl_cons,List.flatten_cons,List.length_append]; omega
 simpa [groups] using key ls []
theorem sZ {ls:List (List Grp)} (hv:Ls X v ls) (hb:ls.flatten.length * 40<=reachBytes):CtN prog 196 #[v] [X] λu T=>u.oneCell'=true/\∃ rows,T=VR u 170 2 rows/\Rws X rows (groups ls):=by
 have hml:maxLen=9223372036854775807:=rfl
 have hrb:reachBytes=140737488351232:=rfl
 have hsz:ls.length * 24<=reachBytes:=hv.sizes
 obtain ⟨a,cap,rfl,hlc,hcm,_⟩:=id hv.form
 refine aJ (n:=36) func196 Z Z (len Z) λhr w0=>?_
 refine cQ<|sA Z<|sN<|nT<|cQ<|sA Z<|sN<|nT<|cS<|cQ<|sM Z<|sV (aC Z underlying312)<|sM Z ?_
 refine sK [2,3,8,9,10] Z<|cB<|dY (dn 170 2)<|aY (σ := Value×List (List Value)×Nat) (λq=>[(3,q.1),(8,.slice a ls.length cap),(9,.int .i64 ls.length),(10,.int .i64 (q.2.2:Nat))]) (λq=>VR q.1 170 2 q.2.1::X::hr) (λq=>q.2.2<=ls.length/\q.1.oneCell'=true/\Rws X q.2.1 (groups<|ls.take q.2.2)) (λq=>ls.length - q.2.2) (.slice none 0 0,[],0) ⟨Nat.zero_le _,Z,Rws.nil⟩ ?_
 rintro ⟨w,rows,i⟩ ⟨hi,hw,hro⟩
 simp only at hi hw hro
 dsimp only
 refine fO (v:=w) (E:=170) (sz:=2) (rows:=rows) slq λwa wc hwf hwl hwm=>?_
 subst hwf
 refine cQ<|sV (aO Z Z)<|sN<|nT<|cS<|cC Z (λhd=>?_)<|λhd=>?_
 .have hlt:i<ls.length:=Zx
  obtain ⟨b,o,cap2,us,e1,hus,hrd,u1,rfl,hu1⟩:=hv.at<|Zy hlt
  cases e1
  have hrd1:Rd X ⟨b,o+i * 1,none⟩ u1:=hrd 0<|by simp
  have htk:ls.take (i+1)=ls.take i++[ls[i]]:=List.take_succ_eq_append_getElem hlt
  have hfl:(ls.take i).flatten.length+(ls[i]).length<=ls.flatten.length:=by
   have h1:ls=ls.take i++ls[i]::ls.drop (i+1):=by rw [List.getElem_cons_drop,List.take_append_drop]
   have h2:=congrArg (λx=>x.flatten.length) h1
   simp only [List.flatten_append,List.flatten_cons,List.length_append] at h2
   omega
  have hgl:=mH<|ls.take i
  generalize hxs:ls[i]=xs at hu1 htk hfl
  obtain ⟨a2,k2,rfl,hlc2,hcm2,_⟩:=id hu1.form
  refine cK<|xT<|cS<|cB<|cQ<|sV (vI (k:=i) Z Z sl312 Z hlt Z)<|sV (vY Z oO) ?_
  refine sA Z<|sK [3,5,8,9,10] Z<|cQ<|sM Z<|sV (aC Z underlying53)<|sM Z<|sK [3,8,9,10,14,15,16] Z<|cB<|aY (σ := Value×List (List Value)×Nat) (λq=>[(3,q.1),(8,.slice (some ⟨b,o,none⟩) ls.length cap),(9,.int .i64 ls.length),(10,.int .i64 (i:Nat)),(14,.slice a2 xs.length k2),(15,.int .i64 xs.length),(16,.int .i64 (q.2.2:Nat))]) (λq=>VR q.1 170 2 q.2.1::X::hr) (λq=>q.2.2<=xs.length/\q.1.oneCell'=true/\Rws X q.2.1 (rV (groups<|ls.take i)<|xs.take q.2.2)) (λq=>xs.length - q.2.2) (.slice wa rows.length wc,rows,0) ⟨Nat.zero_le _,hw,hro⟩ ?_
  rintro ⟨w,rows,j⟩ ⟨hj,hw,hro⟩
  simp only at hj hw hro
  dsimp only
  refine cQ<|sV (aO Z Z)<|sN<|nT<|cS<|cC Z (λhd2=>?_)<|λhd2=>?_
  .have hltj:j<xs.length:=Zw
   obtain ⟨b2,o2,cap3,gs,e2,hgs,hrdg,hg⟩:=hu1.at<|Zy hltj
   cases e2
   have hgs:gs.length=2:=hgs
   have htj:xs.take (j+1)=xs.take j++[xs[j]]:=List.take_succ_eq_append_getElem hltj
   have hrl:rows.length<=(ls.take i).flatten.length+j:=by
    rw [hro.1]
    have:=Hl (xs.take j)<|groups<|ls.take i
    rw [List.length_take] at this
    omega
   have hgsn:=Mm (groups<|ls.take i) (xs.take j) xs[j]
   rw [<- htj] at hgsn
   generalize xs[j]=g at hg hgsn
   generalize ho:rV (groups<|ls.take i) (xs.take j)=out at hro hgsn
   have hone:=Enc.ones hg
   refine cK<|xT<|cS<|cB<|cQ<|sV (vI (k:=j) Z Z sl53 Z hltj Z)<|sV (af Z rH hgs hrdg) ?_
   refine au al170 λb7=>?_
   refine ai (hl:=by rw [hgs]; rfl) Z Z F8 hgs hone ?_
   refine ni (r:=VR w 170 2 rows) slq λhok=>?_
   have hlo:out.length * 40<=reachBytes:=by
    rw [<- hro.1]
    have h9:rows.length<=ls.flatten.length:=by omega
    exact Nat.le_trans (Nat.mul_le_mul_right _ h9) hb
   have hsX:∀ p u,Rd X p u->Rd (Res.star [pt b7 (cl gs 170),VR w 170 2 rows,X]) p u:=bL<|.there<|.there .here
   have hlsw:Ls (Res.star [pt b7 (cl gs 170),VR w 170 2 rows,X]) w out:=Rws.ls (E:=170) ⟨hro.1,λj us x h1 h2=>Enc.up hsX<|hro.2 j us x h1 h2⟩ hok (bL<|.there .here) hlo
   have htell:∀ x∈out,∀ us,Enc.rep (Res.star [pt b7 (cl gs 170),VR w 170 2 rows,X]) us x->Reads prog 248 (#[]++([.agg us.toArray]:List Value).toArray ++ #[.pointer (some ⟨b7,0,none⟩)]) [Res.star [pt b7 (cl gs 170),VR w 170 2 rows,X]] (.bool<|decide (x=g)):=λx _ us h=>Hg .here hgs h<|Enc.up hsX hg
   refine sK [3,7,8,9,10,14,15,16] Z<|cQ<|sM Z<|sV (bX Z Z)<|bf Z Z en93 Z ((dS<|AQ (X:=Res.star [pt b7 (cl gs 170),VR w 170 2 rows,X]) hlsw en248 htell)) ?_
   rw [Ch]
   refine sV (bg Z)<|sK [3,7,8,9,10,14,15,16,23] Z<|cC Z (λhc=>?_)<|λhc=>?_
   .have hc:out.contains g=false:=Zm
    have hga:vT out g=out++[g]:=by unfold vT; rw [hc,if_neg (by decide)]
    have hb1:(rows.length+1) * 40<=reachBytes:=Nat.le_trans (Nat.mul_le_mul_right 40 (show rows.length+1<=ls.flatten.length by omega)) hb
    obtain ⟨g0,g1,rfl⟩:=len2 hgs
    refine cR<|sM Z<|sV (af Z rH Z ag) ?_
    refine ak (cells:=[g0,g1]) Z underlying53 nO Z Z Zz (ltn Z) λb62=>?_
    refine eG [[g0,g1]] Z Z underlying53 nO Z (by decide) (show Sel _ (VR w 170 2 rows) _ from slq) (by simp) Z (λj u2 hu2=>bV<|bZ Zt) (by simpa using hone) (by omega) (by omega) (ltn Z) λw2 hw2 _=>?_
    refine sA Z<|sN<|nK [3,8,9,10,14,15,16] Z<|ax<|xB<|xT<|cR<|sV (aI Z Z Z0)<|sM Z<|sN<|nK [3,8,9,10,14,15,16] Z<|ax ?_
    refine aL (w2,rows++[[g0,g1]],j+1) ⟨hltj,hw2,by rw [hgsn,hga]; exact hro.snoc hg⟩<|Nat.sub_lt_sub_left hltj<|Nat.lt_succ_self j
   .have hc:out.contains g=true:=Zm
    have hga:vT out g=out:=by unfold vT; rw [hc,if_pos rfl]
    refine cK<|xB<|xT<|cR<|sV (aI Z Z Z0)<|sM Z<|sN<|nK [3,8,9,10,14,15,16] Z<|ax ?_
    refine aL (w,rows,j+1) ⟨hltj,hw,by rw [hgsn,hga]; exact hro⟩<|Nat.sub_lt_sub_left hltj<|Nat.lt_succ_self j
  .have hil:j=xs.length:=by
    have:¬ j<xs.length:=Zw
    omega
   rw [hil,List.take_length,<- Hm,<- htk] at hro
   refine aB<|xE<|xE<|xY<|xB<|xT<|cR<|sV (aI Z Z Z0)<|sM Z<|sN<|nK [3,8,9,10] Z<|ax ?_
   refine aL (w,rows,i+1) ⟨hlt,hw,hro⟩<|Nat.sub_lt_sub_left hlt<|Nat.lt_succ_self i
 .have hil:i=ls.length:=by
   have:¬ i<ls.length:=Zx
   omega
  rw [hil,List.take_length] at hro
  refine aB<|xE<|xE<|xY<|xT<|cQ<|sM Z<|sM Z<|sV (aC Z underlying53)<|sM Z<|sV (aC Z underlying53)<|sV (AP (hi:=rows.length) (mx:=rows.length) Z Z Z sl53 Z Z (Nat.le_refl _) hwl)<|sA Z ?_
  refine sK [2] Z<|cT<|jq (Vw.sel (r:=VR (.slice wa rows.length wc) 170 2 rows) slq vw_full) ?_
  exact aj Z ⟨_,Z,Z,rows,Z,hro⟩ sbq
end
theorem DN {xs:List Nm} {i:Nat} (h:i<xs.length) (hc:(xs.take i).contains xs[i]=true):¬ xs.Nodup:=λhn=>by
 obtain ⟨j,hj,he⟩:=List.mem_take_iff_getElem.1<|List.contains_iff_mem.1 hc
 have:=(List.getElem_inj hn).1 he
 omega
theorem AZ {xs:List Nm} {i:Nat} (h:i<xs.length) (hn:(xs.take i).Nodup) (hc:(xs.take i).contains xs[i]=false):(xs.take (i+1)).Nodup:=by
 rw [List.take_succ_eq_append_getElem h]
 refine List.nodup_append.2 ⟨hn,by simp,λa ha b hb e=>?_⟩
 rw [List.mem_singleton] at hb
 subst hb; subst e
 rw [List.contains_iff_mem.2 ha] at hc; cases hc
section
variable {X:Res} {v:Value}
theorem Ho {cs:List Fm} (hv:Ls X v cs):Reads prog 143 #[v,.func (.func 144) #[] #[]] [X] (.bool (!decide (cs.map λc=>c.name).Nodup)):=by
 have hml:maxLen=9223372036854775807:=rfl
 obtain ⟨a,cap,rfl,hlc,hcm,_⟩:=id hv.form
 generalize hxs:(cs.map λc=>c.name)=xs
 have hlen:xs.length=cs.length:=by rw [<- hxs,List.length_map]
 refine aJ (n:=25) func143 Z Z (len Z) λhr w0=>?_
 refine cQ<|sA Z<|sN<|nT<|cQ (fq (ltn Z) λb8=>?_)
 refine sA Z<|sK [0,1,4,5] Z<|cS<|cQ<|sM Z<|sV (aC Z underlying38)<|sM Z<|sK [1,4,5,9,10,11] Z<|cB<|aY (σ := Nat×List (Nm×Unit)) (λq=>[(1,.func (.func 144) #[] #[]),(5,.map (some b8)),(9,.slice a cs.length cap),(10,.int .i64 cs.length),(11,.int .i64 (q.1:Nat))]) (λq=>mps b8 (mvG tV q.2)::X::hr) (λq=>q.1<=cs.length/\(xs.take q.1).Nodup/\tN (xs.take q.1) q.2) (λq=>cs.length - q.1) (0,[]) ⟨Nat.zero_le _,List.nodup_nil,λ_=>rfl⟩ ?_
 rintro ⟨i,D⟩ ⟨hi,hn,hD⟩
 simp only at hi hn hD
 dsimp only
 refine cQ<|sV (aO Z Z)<|sN<|nT<|cS<|cC Z (λhd=>?_)<|λhd=>?_
 .have hlt:i<cs.length:=Zx
  have hlt2:i<xs.length:=by rw [hlen]; exact hlt
  obtain ⟨b,o,cap2,us,e1,hus,hrd,hre⟩:=hv.at<|Zy hlt
  cases e1
  have hus2:us=[sv cs[i].name,sv cs[i].bound]:=hre
  subst hus2
  have hnm:Reads prog 144 #[.agg [sv cs[i].name,sv cs[i].bound].toArray] [] (sv xs[i]):=by rw [show xs[i]=cs[i].name by simp [<- hxs]]; exact Ox hre
  have hone:=Enc.ones hre
  refine cK<|xT<|cS<|cB<|cQ<|sV (vI (k:=i) Z Z sl38 Z hlt Z)<|sV (af Z Kw Z hrd) ?_
  refine au al111 λb7=>?_
  refine ai Z Z sz111 Z hone ?_
  refine sK [1,5,7,9,10,11] Z<|cS<|cQ<|sM Z<|sM Z<|sV (af Z Kw Z ag) ?_
  refine bf Z Z en144 Z (hnm) ?_
  refine sV (gM (hD.look xs[i])<|bP Z Z xZ inf4 slq) ?_
  refine sK [1,5,7,9,10,11,19] Z<|cC Z (λhf=>?_)<|λhf=>?_
  .have hno:=DN hlt2 hf
   rw [decide_eq_false hno]
   refine cQ<|sA Z<|sK [4] Z<|cT<|xR<|xW<|xR<|xR<|xW<|xR ?_
   exact aj Z ⟨Z,Z⟩ sbq
  .refine cK<|xT<|cR<|sM Z<|sM Z<|sV (af Z Kw Z ag) ?_
   refine bf Z Z en144 Z (hnm) ?_
   refine dB Z Z Z xZ slq ?_
   refine sN<|nK [1,5,9,10,11] Z<|ax<|xB<|xT<|cR<|sV (aI Z Z Z0)<|sM Z<|sN<|nK [1,5,9,10,11] Z<|ax ?_
   rw [show eU (mvG tV D) xs[i] (.bool true)=mvG tV (gG D xs[i] ()) from o5 tV _ _ ()]
   refine aL (i+1,gG D xs[i] ()) ⟨hlt,AZ hlt2 hn hf,by rw [List.take_succ_eq_append_getElem hlt2]; exact hD.next _⟩ (by show cs.length - (i+1)<cs.length - i; omega)
 .have hil:i=cs.length:=Nat.le_antisymm hi<|Nat.not_lt.1 Zx
  rw [hil,<- hlen,List.take_length] at hn
  rw [decide_eq_true hn]
  refine aB<|xE<|xE<|xY<|xT<|cQ<|sA Z<|sK [4] Z<|cT ?_
  exact aj Z ⟨Z,Z⟩ sbq
theorem Hq {cs:List Pn} (hv:Ls X v cs):Reads prog 148 #[v,.func (.func 149) #[] #[]] [X] (.bool (!decide (cs.map λc=>c.fro).Nodup)):=by
 have hml:maxLen=9223372036854775807:=rfl
 obtain ⟨a,cap,rfl,hlc,hcm,_⟩:=id hv.form
 generalize hxs:(cs.map λc=>c.fro)=xs
 have hlen:xs.length=cs.length:=by rw [<- hxs,List.length_map]
 refine aJ (n:=25) func148 Z Z (len Z) λhr w0=>?_
 refine cQ<|sA Z<|sN<|nT<|cQ (fq (ltn Z) λb8=>?_)
 refine sA Z<|sK [0,1,4,5] Z<|cS<|cQ<|sM Z<|sV (aC Z underlying86)<|sM Z<|sK [1,4,5,9,10,11] Z<|cB<|aY (σ := Nat×List (Nm×Unit)) (λq=>[(1,.func (.func 149) #[] #[]),(5,.map (some b8)),(9,.slice a cs.length cap),(10,.int .i64 cs.length),(11,.int .i64 (q.1:Nat))]) (λq=>mps b8 (mvG tV q.2)::X::hr) (λq=>q.1<=cs.length/\(xs.take q.1).Nodup/\tN (xs.take q.1) q.2) (λq=>cs.length - q.1) (0,[]) ⟨Nat.zero_le _,List.nodup_nil,λ_=>rfl⟩ ?_
 rintro ⟨i,D⟩ ⟨hi,hn,hD⟩
 simp only at hi hn hD
 dsimp only
 refine cQ<|sV (aO Z Z)<|sN<|nT<|cS<|cC Z (λhd=>?_)<|λhd=>?_
 .have hlt:i<cs.length:=Zx
  have hlt2:i<xs.length:=by rw [hlen]; exact hlt
  obtain ⟨b,o,cap2,us,e1,hus,hrd,hre⟩:=hv.at<|Zy hlt
  cases e1
  have hus2:us=[sv cs[i].fro,sv cs[i].to]:=hre
  subst hus2
  have hnm:Reads prog 149 #[.agg [sv cs[i].fro,sv cs[i].to].toArray] [] (sv xs[i]):=by rw [show xs[i]=cs[i].fro by simp [<- hxs]]; exact GR hre
  have hone:=Enc.ones hre
  refine cK<|xT<|cS<|cB<|cQ<|sV (vI (k:=i) Z Z sl86 Z hlt Z)<|sV (af Z rG Z hrd) ?_
  refine au Gb λb7=>?_
  refine ai Z Z zZ Z hone ?_
  refine sK [1,5,7,9,10,11] Z<|cS<|cQ<|sM Z<|sM Z<|sV (af Z rG Z ag) ?_
  refine bf Z Z en149 Z (hnm) ?_
  refine sV (gM (hD.look xs[i])<|bP Z Z xZ inf4 slq) ?_
  refine sK [1,5,7,9,10,11,19] Z<|cC Z (λhf=>?_)<|λhf=>?_
  .have hno:=DN hlt2 hf
   rw [decide_eq_false hno]
   refine cQ<|sA Z<|sK [4] Z<|cT<|xR<|xW<|xR<|xR<|xW<|xR ?_
   exact aj Z ⟨Z,Z⟩ sbq
  .refine cK<|xT<|cR<|sM Z<|sM Z<|sV (af Z rG Z ag) ?_
   refine bf Z Z en149 Z (hnm) ?_
   refine dB Z Z Z xZ slq ?_
   refine sN<|nK [1,5,9,10,11] Z<|ax<|xB<|xT<|cR<|sV (aI Z Z Z0)<|sM Z<|sN<|nK [1,5,9,10,11] Z<|ax ?_
   rw [show eU (mvG tV D) xs[i] (.bool true)=mvG tV (gG D xs[i] ()) from o5 tV _ _ ()]
   refine aL (i+1,gG D xs[i] ()) ⟨hlt,AZ hlt2 hn hf,by rw [List.take_succ_eq_append_getElem hlt2]; exact hD.next _⟩ (by show cs.length - (i+1)<cs.length - i; omega)
 .have hil:i=cs.length:=Nat.le_antisymm hi<|Nat.not_lt.1 Zx
  rw [hil,<- hlen,List.take_length] at hn
  rw [decide_eq_true hn]
  refine aB<|xE<|xE<|xY<|xT<|cQ<|sA Z<|sK [4] Z<|cT ?_
  exact aj Z ⟨Z,Z⟩ sbq
end
end Go.Fl
namespace Go.Ck
open Go Go.RowKit Go.Proofs Go.Shelf
theorem bU {P : Program} {f : FuncId} {B : Func} (nm : String) (h1 : (nm == "runtime.NumGoroutine") = false) (h2 : P.funcs[f]? = some { B with name := nm }) : Bears P f B := ⟨nm, h1, h2⟩
theorem grow_of {P : Program} {g : FuncId} {args : Array Value} {v : Value} (h : Ct P g args [] λu h' => u = v /\ h' = []) (w : World) :
  Calls P g args w λe w'=>e = .returned v/\∃ q os',w'=Sort.grow (w.drewN q) os':=by
 refine (h [old w] w<|wO w).mono ?_
 rintro e w' ⟨u,h',rfl,⟨rfl,rfl⟩,hh,hs⟩
 refine ⟨Z,w'.drawn - w.drawn,w'.heap.extract w.heap.size w'.heap.size,?_⟩
 have ho:∀ b,b<w.heap.size->w'.heap[b]? = w.heap[b]? := hh.1
 have hd:=hs.dw
 have hz:=hs.size
 have h1 : w'.heap = w.heap ++ w'.heap.extract w.heap.size w'.heap.size := by
  apply Array.ext
  .simp; omega
  .intro i hi1 hi2
   by_cases hi:i<w.heap.size
   .have:=ho i hi
    rw [Array.getElem?_eq_getElem hi1,Array.getElem?_eq_getElem hi] at this
    rw [Array.getElem_append_left hi]
    exact Option.some.inj this
   .rw [Array.getElem_append_right (by omega),Array.getElem_extract]
    congr 1; omega
 obtain ⟨e1,e2,e3⟩:=(⟨hs.os,hs.tape,hs.output⟩:w'.os=w.os/\w'.tape=w.tape/\w'.output=w.output)
 unfold Sort.grow World.drewN
 cases w' with
 | mk hp' tp dr os ou =>
  simp only at h1 e1 e2 e3 hd ⊢
  rw [<- h1,e1,e2,e3]
  congr 1
  omega
theorem A7 {α : Type} [Inhabited α] {enc : α -> List Value} {k:Nat} (hk:∀ x,(enc x).length=k) (xs:List α):Sort.flatK enc k xs.toArray=(xs.map enc).flatten.toArray:=by
 have hl:(xs.map enc).flatten.length=xs.length * k:=by
  induction xs with
  | nil=>simp
  | cons x t ih=>rw [List.map_cons,List.flatten_cons,List.length_append,hk,ih,List.length_cons,Nat.add_mul]; omega
 refine Sort.ext_get! (by rw [Sort.size_flatK,List.size_toArray,List.size_toArray,hl]) λt ht=>?_
 have ht':t<xs.length * k:=by simpa using ht
 have k0:0<k:=Nat.pos_of_ne_zero λh=>by rw [h] at ht'; simp at ht'
 have hq:t / k<xs.length:=Nat.div_lt_of_lt_mul (by rw [Nat.mul_comm]; exact ht')
 rw [Sort.get_flatK _ _ _ t (by simpa using ht')]
 have e1:xs.toArray[t / k]! = xs[t / k]:=by rw [getElem!_pos xs.toArray _ Zu]; simp
 have hr:t % k<(enc xs[t / k]).length:=by rw [hk]; exact Nat.mod_lt _ k0
 rw [e1]
 have h3:=mh (rows:=xs.map enc) (sz:=k) (m:=t / k) (k:=t % k) (r:=enc xs[t / k]) (x:=(enc xs[t / k])[t % k]) (by simp only [List.mem_map]; rintro r ⟨x,-,rfl⟩; exact hk x) (by rw [List.getElem?_map,Zy hq]; rfl)<|Zy hr
 rw [Nat.div_add_mod' t k] at h3
 have h4:t<(xs.map enc).flatten.length:=by rw [hl]; exact ht'
 rw [Zy h4] at h3
 rw [getElem!_pos (enc xs[t / k]) _ hr,getElem!_pos _ t (by simpa using h4)]
 simpa using (Option.some.inj h3).symm
theorem Jq {F X:List Value} {pre j:List Value} (hl:F.length=X.length):Sort.putCells id pre.length F.toArray (pre++(X++j)).toArray=(pre++(F++j)).toArray:=by
 apply Array.ext
 .simp [Sort.putCells,hl]
 .intro k h1 h2
  simp only [Sort.putCells,Array.getElem_mapIdx,List.size_toArray,List.getElem_toArray,List.getElem_append]
  by_cases hk:k<pre.length
  .have h3:¬ (pre.length<=k/\k<pre.length+F.length):=by omega
   simp only [hk,h3,dite_true,if_false]
  .by_cases hk2:k - pre.length<F.length
   .have h3:pre.length<=k/\k<pre.length+F.length:=by omega
    simp only [hk,h3,hk2,dite_true,dite_false,if_true,and_self]
    rw [getElem!_pos F.toArray _ (by simpa using hk2)]
    simp
   .have h3:¬ (pre.length<=k/\k<pre.length+F.length):=by omega
    have h4:¬ k - pre.length<X.length:=by omega
    simp only [hk,h4,dite_false,hl]
    rw [hl] at h3
    rw [if_neg h3]
theorem Ht {P : Program} {ρ : Ren} {α : Type} [Inhabited α] (L : SlLaysF0.n6 P ρ) {k : Nat} {E : TypeId} (aE : ∀ w, (isAgg (ρ.t 24)).run P w = .ok true w) (zE : ∀ w, (Go.sizeOf (ρ.t 24)).run P w = .ok k w) {enc : α -> List Value} (hk : ∀ x, (enc x).length = k) (h1 : ∀ x, ∀ v ∈ enc x, v.oneCell' = true) {cf : α -> α -> Int} (hO : Sort.SWO (ltOf cf)) {g : FuncId} (eg : Enters P g)
  (hc:∀ x y,Ct P g #[.agg (enc x).toArray,.agg (enc y).toArray] [] λu h'=>u = .int .i64 (cf x y)/\h'=[]) {v:Value} {xs:List α} (hl:xs.length<=1099511627776) :
  Ct P (ρ.f 6) #[v,.func (.func g) #[] #[]] [VR v E k (xs.map enc)] λu h'=>u = .tuple #[]/\∃ ys:List α,ys.Perm xs/\ys.Pairwise (λa b=>cf b a<0->False)/\h'=[VR v E k (ys.map enc)]:=by
 intro hr w hh
 have hv:=hh.1
 rcases hv.2 with ⟨rfl,h0⟩ | ⟨b,o,cp,pre,j,rfl,hb,hpre,hc1,hc2,hc3⟩
 .have hx:xs=[]:=List.map_eq_nil_iff.1 h0
  subst hx
  exact (AnyF.slices_SortFunc_none L none 0 _ w).mono λe w' ⟨h1,h2⟩=>⟨.tuple #[],_,h1,⟨Z,[],.nil,.nil,Z⟩,by rw [h2]; exact hh,by rw [h2]; exact Same.refl w⟩
 .have hb : w.heap[b]? = some (cl (pre ++ ((xs.map enc).flatten ++ j)) E) := hb
  have hlt:b<w.heap.size:=(Array.getElem?_eq_some_iff.1 hb).1
  have hH:Sort.HoldsK enc k w b o xs.toArray:=by
   unfold Sort.HoldsK
   rw [A7 hk]
   intro i hi
   have hi:i<(xs.map enc).flatten.length:=Zi
   refine ⟨?_,by simp [World.frozen?,hb,cl]⟩
   rw [getElem!_pos _ i Zi]
   simp only [World.cell?,hb,cl,Option.isSome_none,Bool.false_eq_true,if_false,List.getElem?_toArray]
   rw [<- hpre,List.getElem?_append_right (by omega),Nat.add_sub_cancel_left,List.getElem?_append_left hi,Zy hi]
   rfl
  rw [show (xs.map enc).length=xs.toArray.size by simp]
  have hc:=AnyQ.slices_SortFunc L k aE zE enc hk h1 cf hO g #[] b o cp xs.toArray w eg (λm os dk _ x y=>grow_of (hc x y) _) hH hlt (by simp; omega)
  refine Calls.mono hc λe w' ⟨h1,d',n,os,hp,hs,h2⟩=>?_
  obtain ⟨ys,rfl⟩:∃ ys:List α,d'=ys.toArray:=⟨d'.toList,by simp⟩
  have hsz:ys.length=xs.length:=by simpa using hp.1
  have hperm:ys.Perm xs:=by
   have:=hp.2.2
   simp only [List.size_toArray,List.extract_toArray,List.extract_eq_take_drop] at this
   rw [<- hsz] at this
   simp only [List.drop_zero,Nat.sub_zero,List.take_length] at this
   rwa [hsz,List.take_length] at this
  have hpair:ys.Pairwise (λa b=>cf b a<0->False):=by
   rw [List.pairwise_iff_getElem]
   intro i j hi hj hij hlt0
   have:=hs i j (Nat.zero_le _) hij (by simp; omega)
   rw [getElem!_pos ys.toArray i Zi,getElem!_pos ys.toArray j Zg] at this
   simp only [List.getElem_toArray,ltOf,decide_eq_false_iff_not] at this
   exact this hlt0
  have hF:(ys.map enc).flatten.length=(xs.map enc).flatten.length:=by
   have e1:∀ zs:List α,(zs.map enc).flatten.length=zs.length * k:=λzs=>by
    induction zs with
    | nil=>simp
    | cons x t ih=>rw [List.map_cons,List.flatten_cons,List.length_append,hk,ih,List.length_cons,Nat.add_mul]; omega
   rw [e1,e1,hsz]
  have hheap:w'.heap=(w.heap.modify b<|Sort.onCells<|Sort.putCells id o (ys.map enc).flatten.toArray)++os:=by
   rw [h2,<- A7 hk]; rfl
  have hb':w'.heap[b]? = some (cl (pre++((ys.map enc).flatten++j)) E):=by
   rw [hheap,Array.getElem?_append_left (by simpa using hlt),Array.getElem?_modify,if_pos rfl,hb]
   simp only [Option.map_some,Sort.onCells,cl]
   rw [<- hpre,Jq hF]
  have ho:∀ c,c≠b->c<w.heap.size->w'.heap[c]? = w.heap[c]? := λc hc hlt2=>by
   rw [hheap,Array.getElem?_append_left (by simpa using hlt2),Array.getElem?_modify,if_neg (λe=>hc e.symm)]
  refine ⟨.tuple #[],_,h1,⟨Z,ys,hperm,hpair,Z⟩,⟨⟨?_,.inr ⟨b,o,cp,pre,j,by simp [hsz],hb',hpre,by simpa [hsz] using hc1,hc2,by rw [List.length_append,hF,<- List.length_append]; exact hc3⟩⟩,λc ⟨o',m',cp',he⟩=>?_,bn.loc hh.2.2 λc hc=>?_⟩,⟨by rw [h2]; rfl,by rw [h2]; rfl,by rw [h2]; rfl,by rw [h2]; exact Nat.le_add_right _ _,by rw [hheap]; simp,λa ha=>?_⟩⟩
  .simp only [List.mem_map]; rintro r ⟨x,-,rfl⟩; exact hk x
  .cases he
   exact hh.2.1 b ⟨o,_,cp,Z⟩
  .exact (ho c (λe=>hh.2.1 b ⟨o,_,cp,Z⟩ (e ▸ hc))<|Holds.lt (h:=hr) hh.2.2 hc).symm
  .unfold World.frozen?
   by_cases hab:a.block=b
   .rw [hab,hb',hb]; rfl
   .rw [ho _ hab ha]
end Go.Ck
namespace Go.Ck
open Go Go.RowKit
theorem mI {pre R j vs:List Value} {k:Nat} (hk:k+vs.length<=R.length):splice (pre++(R++j)) (pre.length+k) vs=pre++(splice R k vs++j):=by
 unfold splice
 rw [List.take_length_add_append,List.take_append_of_le_length (by omega),show pre.length+k+vs.length=pre.length+(k+vs.length) by omega,List.drop_length_add_append,List.drop_append_of_le_length hk]
 simp only [List.append_assoc]
theorem kN {sz:Nat} {rows:List (List Value)} (h:∀ r∈rows,r.length=sz):rows.flatten.length=rows.length * sz:=by
 induction rows with
 | nil=>simp
 | cons r t ih =>
  rw [List.flatten_cons,List.length_append,ih λq hq=>h q (by simp [hq]),h r (by simp),List.length_cons,Nat.add_mul]
  omega
section
variable {c:Cx} {ops:Array Oper} {K:Act->World->Prop} {rest:List Oper} {e:Env} {h h' hr:SH}
theorem A8 {T E : TypeId} {x y : Operand} {ty : TypeId} {pos : String} {after : Array Edge} {b o n cp m sz : Nat} {rows : List (List Value)} {vs : List Value}
  (hx:e.ev? x=some (.pointer<|some ⟨b,o+m * sz,none⟩)) (hy:e.ev? y=some (.agg vs.toArray)) (hT:Sz c.P T sz) (hn:vs.length=sz) (h1:∀ v∈vs,v.oneCell'=true) (hm:m<rows.length) (hs:Sel h (VR (.slice (some ⟨b,o,none⟩) n cp) E sz rows) h')
  (hnx:St c ops K rest e (VR (.slice (some ⟨b,o,none⟩) n cp) E sz (rows.set m vs)::h')) :
  St c ops K (⟨none,.store T x y,ty,pos,after,none⟩::rest) e h:=λa w hk hh hs'=>by
 obtain ⟨⟨g1,g2⟩,hd,ht⟩:=hh.sel hs
 rcases g2 with ⟨h3,_⟩ | ⟨b',o',cp',pre,j,h3,hb,hp,hc1,hc2,hc3⟩
 .cases h3
 .cases h3
  have hfl:=kN g1
  have hle:m * sz+sz<=rows.flatten.length:=by
   rw [hfl]
   have:=Nat.mul_le_mul_right sz (show m+1<=rows.length from hm)
   rw [Nat.add_mul] at this; omega
  have hpt:Holds w (pt b (cl (pre++(rows.flatten++j)) E)::h'):=⟨hb,λc hc=>by rw [show c=b from hc]; exact hd b ⟨o,_,cp,rfl⟩,ht⟩
  refine iG (h:=pt b (cl (pre++(rows.flatten++j)) E)::h') hx hy hT hn h1 .here (by simp only [List.length_append]; omega) ?_ a w hk hpt hs'
  subst hp
  rw [mI (by omega),nu hn g1 hm]
  intro a w hk hh hw
  refine hnx a w hk ⟨⟨λq hq=>?_,.inr ⟨b,pre.length,cp,pre,j,by rw [List.length_set],hh.1,Z,by rw [List.length_set]; exact hc1,hc2,?_⟩⟩,λc hc=>?_,hh.2.2⟩ hw
  .rcases List.mem_or_eq_of_mem_set hq with hq | rfl
   .exact g1 q hq
   .exact hn
  .have:(rows.set m vs).flatten.length=rows.flatten.length:=by
    rw [kN (sz:=sz) λq hq=>?_,hfl,List.length_set]
    rcases List.mem_or_eq_of_mem_set hq with hq | rfl
    .exact g1 q hq
    .exact hn
   rw [List.length_append,this,<- List.length_append]; exact hc3
  .obtain ⟨o2,_,cp2,h4⟩:=hc
   cases h4
   exact hh.2.1 b Z
theorem DR {z:Array Value} {sz n:Nat} (hz:z.size=sz):(Builtin.zeroCells z n).toList=(List.replicate n z.toList).flatten:=by
 have hl:(List.replicate n z.toList).flatten.length=n * sz:=by simp [hz]
 apply List.ext_getElem
 .rw [hl]; simp [Builtin.zeroCells,hz]
 .intro i h1 h2
  have h3:i<n * sz:=by rw [hl] at h2; exact h2
  have s0:0<sz:=Nat.pos_of_ne_zero λh=>by rw [h] at h3; simp at h3
  have hm:i / sz<n:=Nat.div_lt_of_lt_mul (by rw [Nat.mul_comm]; exact h3)
  have hk:i % sz<z.toList.length:=by simp [hz]; exact Nat.mod_lt _ s0
  have h4:=mh (rows:=List.replicate n z.toList) (sz:=sz) (m:=i / sz) (k:=i % sz) (r:=z.toList) (x:=z.toList[i % sz]) (λr hr=>by rw [List.eq_of_mem_replicate hr]; simpa using hz) (by rw [List.getElem?_replicate,if_pos hm])<|Zy hk
  rw [Nat.div_add_mod' i sz,Zy h2] at h4
  rw [Option.some.inj h4]
  simp [Builtin.zeroCells,hz]
  exact getElem!_pos z _ _
theorem uJ {T E ty S : TypeId} {x : Operand} {pos : String} {after : Array Edge} {z : Value} {bytes b o n cp cp' m sz : Nat} {rows : List (List Value)} (hx : e.ev? x = some (.slice (some ⟨b, o + m * sz, none⟩) (rows.length - m) cp')) (hT : c.P.underlying T = some (.slice E)) (hE : Inf c.P E z sz bytes)
  (hz:z.cells.size=sz) (hz1:∀ v∈z.cells.toList,v.oneCell'=true) (hm:m<rows.length) (hs:Sel h (VR (.slice (some ⟨b,o,none⟩) n cp) S sz rows) h')
  (hnx:St c ops K rest e (VR (.slice (some ⟨b,o,none⟩) n cp) S sz (rows.take m++List.replicate (rows.length - m) z.cells.toList)::h')) :
  St c ops K (⟨none,.call { callee:=.builtin .clear,args := #[x],argTypes := #[T] },ty,pos,after,none⟩::rest) e h:=by
 refine eD (by simp) λa w hk hh hw=>?_
 obtain ⟨⟨g1,g2⟩,hd,ht⟩:=hh.sel hs
 rcases g2 with ⟨h3,_⟩ | ⟨b',o',cp2,pre,j,h3,hb,hp,hc1,hc2,hc3⟩
 .cases h3
 .cases h3
  obtain ⟨ie,h1,h2,h3,h4⟩:=hE.parts
  have hfl:=kN g1
  have hpt:Holds w (pt b (cl (pre++(rows.flatten++j)) S)::h'):=⟨hb,λc hc=>by rw [show c=b from hc]; exact hd b ⟨o,_,cp,rfl⟩,ht⟩
  have hg:w.heap[b]? = some (.cells (pre++(rows.flatten++j)).toArray S (0,0)):=hb
  have hzero:(zeroValue E).run c.P w = .ok z w:=by simp [zeroValue,typeInfo,h1,h2]
  have hR:∀ r∈rows.take m++List.replicate (rows.length - m) z.cells.toList,r.length=sz:=by
   intro r hr
   rcases List.mem_append.1 hr with hr | hr
   .exact g1 r<|List.mem_of_mem_take hr
   .rw [List.eq_of_mem_replicate hr]; simpa using hz
  have hRl:(rows.take m++List.replicate (rows.length - m) z.cells.toList).length=rows.length:=by
   rw [List.length_append,List.length_take,List.length_replicate]; omega
  have hzc:=DR (n:=rows.length - m) hz
  have hzl:(Builtin.zeroCells z.cells (rows.length - m)).toList.length=(rows.length - m) * sz:=by rw [hzc]; simp [hz]
  have hms:m * sz+(rows.length - m) * sz=rows.length * sz:=by rw [<- Nat.add_mul]; congr 1; omega
  have hsp:splice (pre++(rows.flatten++j)) (o+m * sz) (Builtin.zeroCells z.cells (rows.length - m)).toList=pre++((rows.take m++List.replicate (rows.length - m) z.cells.toList).flatten++j):=by
   rw [<- hp,mI (by rw [hzl,hfl]; omega)]
   unfold splice
   rw [hzl,hms,<- hfl,List.drop_length,List.append_nil,hzc,List.flatten_append]
   congr 3
   have h5:rows.flatten=(rows.take m).flatten++(rows.drop m).flatten:=by rw [<- List.flatten_append,List.take_append_drop]
   have h6:(rows.take m).flatten.length=m * sz:=by
    rw [kN (sz:=sz) λr hr=>g1 r (List.mem_of_mem_take hr),List.length_take,Nat.min_eq_left (by omega)]
   rw [h5,List.take_append_of_le_length (by omega),<- h6,List.take_length]
  have hst:=run_storeCells_at c.P b (o+m * sz) S (Builtin.zeroCells z.cells (rows.length - m)).toList 0 (pre++(rows.flatten++j)).toArray w hg (by simp only [List.size_toArray,List.length_append]; omega) (λv hv=>by
   rw [hzc] at hv
   obtain ⟨r,hr,hv⟩:=List.mem_flatten.1 hv
   rw [List.eq_of_mem_replicate hr] at hv
   exact hz1 v hv)
  simp only [Nat.add_zero] at hst
  have hcl:(Builtin.clear_ #[T] ty #[.slice (some ⟨b,o+m * sz,none⟩) (rows.length - m) cp']).run c.P w = .ok (.tuple #[]) (w.setRow b (splice (pre++(rows.flatten++j)) (o+m * sz) (Builtin.zeroCells z.cells (rows.length - m)).toList).toArray):=by
   unfold Builtin.clear_
   generalize hq:rows.length - m=q at hst hzl ⊢
   cases q with
   | zero=>omega
   | succ q=>simp [run_underlying hT,hzero,hst,splice]
  simp only [execOp,resolve,invoke,builtin,hk.ev hx,Sem.run_bind,Sem.run_pure,Result.andThen_ok,List.map_toArray,List.map_cons,List.map_nil,hcl]
  have hH:=Holds.setRow hpt<|splice (pre++(rows.flatten++j)) (o+m * sz) (Builtin.zeroCells z.cells (rows.length - m)).toList
  rw [hsp] at hH ⊢
  refine hnx _ _ hk ⟨⟨hR,.inr ⟨b,o,cp,pre,j,by rw [hRl],hH.1,hp,by rw [hRl]; exact hc1,hc2,?_⟩⟩,λc hc=>?_,hH.2.2⟩<|hw.trans<|Same.setRow _ _ _ hb
  .rw [List.length_append,kN hR,hRl,<- hfl,<- List.length_append]; exact hc3
  .obtain ⟨o2,_,cp2,h4⟩:=hc
   cases h4
   exact hH.2.1 b Z
end
theorem Fg {L K:SH} {a X:Res} (s:Sel L a K) (p:Addr) (u:Value) (h:Rd (Res.star [a,X]) p u):Rd (Res.star (L++[X])) p u:=λw hw=>by
 have h1:bn (hp w) ((L++[X])++[]):=dL.1 ⟨hw,λb _ hb=>hb,trivial⟩
 have h2:(L++[X]).Perm ([a,X]++K):=by
  have h3:(L++[X]).Perm ((a::K)++[X]):=s.perm.append_right [X]
  refine h3.trans ?_
  show (a::(K++[X])).Perm (a::(X::K))
  exact .cons _<|List.perm_append_comm (l₁ := K) (l₂ := [X])
 rw [List.append_nil] at h1
 have h4:=(bn.perm h2).1 h1
 have h5:bn (hp w) (Res.star [a,X]::K):=dL.2 h4
 exact h w h5.1
section
variable {c:Cx} {ops:Array Oper} {K:Act->World->Prop} {rest:List Oper} {e:Env} {h h' hr:SH} {Q:Exit->Act->World->Prop} {x:Code} {ex:Exit} {X:Res}
theorem qx (L:SH) (X:Res) (hn:∀ Y,Ext X Y->(∀ r L',Sel L r L'->∀ p u,Rd r p u->Rd Y p u)->(∀ r L',Sel L r L'->∀ p u,Rd (Res.star [r,X]) p u->Rd Y p u)->Xt c ex Q e (Y::hr)) (p:Pk h (L++[X]) hr:=by repeat (first | exact Pk.nil | (apply Pk.cons; (repeat (first | exact Sel.here | apply Sel.there))))):Xt c ex Q e h :=
 jq (uC p) (hn _ (Ext.packs X L) (λ_ _ s p u h=>iT s p u h) λ_ _ s p u h=>Fg s p u h)
theorem cd_abs2 (L:SH) (X:Res) (hn:∀ Y,Ext X Y->(∀ r L',Sel L r L'->∀ p u,Rd r p u->Rd Y p u)->(∀ r L',Sel L r L'->∀ p u,Rd (Res.star [r,X]) p u->Rd Y p u)->Cd c x Q e (Y::hr)) (p:Pk h (L++[X]) hr:=by repeat (first | exact Pk.nil | (apply Pk.cons; (repeat (first | exact Sel.here | apply Sel.there))))):Cd c x Q e h :=
 dY (uC p) (hn _ (Ext.packs X L) (λ_ _ s p u h=>iT s p u h) λ_ _ s p u h=>Fg s p u h)
theorem K5 (L:SH) (X:Res) (hn:∀ Y,Ext X Y->(∀ r L',Sel L r L'->∀ p u,Rd r p u->Rd Y p u)->(∀ r L',Sel L r L'->∀ p u,Rd (Res.star [r,X]) p u->Rd Y p u)->St c ops K rest e (Y::hr)) (p:Pk h (L++[X]) hr:=by repeat (first | exact Pk.nil | (apply Pk.cons; (repeat (first | exact Sel.here | apply Sel.there))))):St c ops K rest e h :=
 rQ (uC p) (hn _ (Ext.packs X L) (λ_ _ s p u h=>iT s p u h) λ_ _ s p u h=>Fg s p u h)
end
theorem nE {α : Type} {c:Cx} {x:Code} {ex:Exit} {Q:Exit->Act->World->Prop} {e:Env} {h:SH} (E : α -> Env) (H : α -> SH) (h1:(∀ q e' h',Env.sub (E q) e'->Sub (H q) h'->Xt c ex Q e' h')->Cd c x Q e h) (h2:∀ q,Xt c ex Q (E q) (H q)):Cd c x Q e h :=
 h1 λq _ _ s1 s2 a w hk hh hw=>h2 q a w (hk.weaken s1) (hh.sub s2) hw
section
variable {c:Cx} {ops:Array Oper} {K:Act->World->Prop} {rest:List Oper} {e:Env} {h h' hr:SH}
theorem st_vrS {T E : TypeId} {x y : Operand} {ty : TypeId} {pos : String} {after : Array Edge} {b o n cp m sz k k0 : Nat} {rows : List (List Value)} {r vs : List Value}
  (hx:e.ev? x=some (.pointer<|some ⟨b,o+m * sz+k,none⟩)) (hy:e.ev? y=some (.agg vs.toArray)) (hT:Sz c.P T k0) (hn:vs.length=k0) (h1:∀ v∈vs,v.oneCell'=true) (hr:rows[m]? = some r) (hk:k+k0<=sz) (hs:Sel h (VR (.slice (some ⟨b,o,none⟩) n cp) E sz rows) h')
  (hnx:St c ops K rest e (VR (.slice (some ⟨b,o,none⟩) n cp) E sz (rows.set m<|splice r k vs)::h')) :
  St c ops K (⟨none,.store T x y,ty,pos,after,none⟩::rest) e h:=λa w hk' hh hs'=>by
 obtain ⟨⟨g1,g2⟩,hd,ht⟩:=hh.sel hs
 rcases g2 with ⟨h3,_⟩ | ⟨b',o',cp',pre,j,h3,hb,hp,hc1,hc2,hc3⟩
 .cases h3
 .cases h3
  have hfl:=kN g1
  obtain ⟨hm,hrm⟩:=List.getElem?_eq_some_iff.1 hr
  have hrl:r.length=sz:=g1 r<|List.mem_of_getElem? hr
  have hle:m * sz+sz<=rows.flatten.length:=by
   rw [hfl]
   have:=Nat.mul_le_mul_right sz (show m+1<=rows.length from hm)
   rw [Nat.add_mul] at this; omega
  have hpt:Holds w (pt b (cl (pre++(rows.flatten++j)) E)::h'):=⟨hb,λc hc=>by rw [show c=b from hc]; exact hd b ⟨o,_,cp,rfl⟩,ht⟩
  have hsl:(splice r k vs).length=sz:=by unfold splice; simp; omega
  have hsp:splice rows.flatten (m * sz+k) vs=(rows.set m<|splice r k vs).flatten:=by
   rw [<- nu hsl g1 hm]
   have e1:rows.flatten=(rows.take m).flatten++(r++(rows.drop (m+1)).flatten):=by
    have:rows=rows.take m++r::rows.drop (m+1):=by rw [<- hrm,List.getElem_cons_drop,List.take_append_drop]
    have h5:=congrArg List.flatten this
    rwa [List.flatten_append,List.flatten_cons] at h5
   have e2:(rows.take m).flatten.length=m * sz:=by
    rw [kN (sz:=sz) λq hq=>g1 q (List.mem_of_mem_take hq),List.length_take,Nat.min_eq_left (by omega)]
   rw [e1,<- e2,mI (by omega)]
   have e3:splice ((rows.take m).flatten++(r++(rows.drop (m+1)).flatten)) (rows.take m).flatten.length (splice r k vs)=(rows.take m).flatten++(splice r 0 (splice r k vs)++(rows.drop (m+1)).flatten):=mI (k:=0)<|by omega
   have e4:splice r 0 (splice r k vs)=splice r k vs:=by
    have:splice r 0 (splice r k vs)=r.take 0++splice r k vs++r.drop (0+(splice r k vs).length):=rfl
    rw [this,Nat.zero_add,hsl,<- hrl,List.drop_length,List.take_zero,List.nil_append,List.append_nil]
   rw [e3,e4]
  refine iG (h:=pt b (cl (pre++(rows.flatten++j)) E)::h') hx hy hT hn h1 .here (by simp only [List.length_append]; omega) ?_ a w hk' hpt hs'
  subst hp
  rw [Nat.add_assoc,mI (by omega),hsp]
  intro a w hk hh hw
  have hG:∀ q∈rows.set m (splice r k vs),q.length=sz:=λq hq=>by
   rcases List.mem_or_eq_of_mem_set hq with hq | rfl
   .exact g1 q hq
   .exact hsl
  refine hnx a w hk ⟨⟨hG,.inr ⟨b,pre.length,cp,pre,j,by rw [List.length_set],hh.1,Z,by rw [List.length_set]; exact hc1,hc2,?_⟩⟩,λc hc=>?_,hh.2.2⟩ hw
  .have:(rows.set m<|splice r k vs).flatten.length=rows.flatten.length:=by
    rw [kN hG,hfl,List.length_set]
   rw [List.length_append,this,<- List.length_append]; exact hc3
  .obtain ⟨o2,_,cp2,h4⟩:=hc
   cases h4
   exact hh.2.1 b Z
end
end Go.Ck
namespace Go.Fl
open Go Go.RowKit Go.Ck Go.Proofs Go.Proofs.Tryz Go.Proofs.YtknmacdbffgjgaaGreatDoor Fx Go.Hr

def cpS (xs:List Sd):List Sd:=xs.foldl (λo x=>if o.getLast? = some x then o else o++[x]) []
theorem mJ (xs:List Sd) (x:Sd):cpS (xs++[x])=if (cpS xs).getLast? = some x then cpS xs else cpS xs++[x]:=by unfold cpS; rw [List.foldl_append]; rfl
theorem zq {P:List Sd->Prop} (h0:P []) (hs:∀ xs x,P xs->P (xs++[x])) (xs:List Sd):P xs:=by
 have:∀ ys:List Sd,P ys.reverse:=λys=>by
  induction ys with
  | nil=>exact h0
  | cons y t ih=>rw [List.reverse_cons]; exact hs _ _ ih
 simpa using this xs.reverse
theorem si (xs:List Sd):(cpS xs).getLast? = xs.getLast? := by
 refine zq (P:=λxs=>(cpS xs).getLast? = xs.getLast?) Z (λxs x ih=>?_) xs
 rw [mJ]
 by_cases h:(cpS xs).getLast? = some x
 .rw [if_pos h,h]; simp
 .rw [if_neg h]; simp
theorem K6 {x:Sd} (xs:List Sd):x∈cpS xs↔x∈xs:=by
 refine zq (P:=λxs=>x∈cpS xs↔x∈xs) (by simp [cpS]) (λxs y ih=>?_) xs
 rw [mJ]
 by_cases h:(cpS xs).getLast? = some y
 .rw [if_pos h,ih]
  have hy:y∈xs:=by rw [si] at h; exact List.mem_of_getLast? h
  simp only [List.mem_append,List.mem_singleton]
  exact ⟨Or.inl,λh=>h.elim id λe=>e ▸ hy⟩
 .rw [if_neg h]; simp [ih]
theorem Jr {xs:List Sd} (h:xs.Pairwise λa b=>slt b a=false):yO (cpS xs):=by
 revert h
 refine zq (P:=λxs=>(xs.Pairwise λa b=>slt b a=false)->yO (cpS xs)) (λ_=>.nil) (λxs x ih h=>?_) xs
 obtain ⟨h1,-,h2⟩:=List.pairwise_append.1 h
 have h2:∀ y∈xs,slt x y=false:=λy hy=>h2 y hy x<|by simp
 rw [mJ]
 by_cases hl:(cpS xs).getLast? = some x
 .rw [if_pos hl]; exact ih h1
 .rw [if_neg hl]
  refine List.pairwise_append.2 ⟨ih h1,List.pairwise_singleton _ _,λy hy z hz=>?_⟩
  rw [List.mem_singleton.1 hz]
  have hy':=(K6 xs).1 hy
  rcases sQ y x with h3 | h3 | h3
  .exact h3
  .exfalso
   subst h3
   rw [si] at hl
   obtain ⟨zs,hz⟩:∃ zs w,xs=zs++[w]:=⟨xs.dropLast,_,(List.dropLast_concat_getLast<|List.ne_nil_of_mem hy').symm⟩
   obtain ⟨w,rfl⟩:=hz
   have hw:slt y w=false:=h2 w<|by simp
   rw [List.getLast?_append,List.getLast?_singleton] at hl
   have hne:w≠y:=λe=>hl<|by simp [e]
   have hwy:slt w y=false:=by
    rcases List.mem_append.1 hy' with h4 | h4
    .exact (List.pairwise_append.1 h1).2.2 y h4 w (by simp)
    .exact absurd (List.mem_singleton.1 h4).symm hne
   rcases sQ w y with h5 | h5 | h5
   .rw [hwy] at h5; cases h5
   .exact hne h5
   .rw [hw] at h5; cases h5
  .rw [h2 y hy'] at h3; cases h3
theorem OL {xs ys:List Sd} (hp:ys.Perm xs) (h:ys.Pairwise λa b=>slt b a=false):cpS ys=nX xs :=
 yt (Jr h) (fG xs).1 λm=>by rw [K6,(fG xs).2,hp.mem_iff]
theorem DT (a b:Sd):(Hf a b<0)↔slt a b=true:=by
 unfold Hf orI rT slt
 rcases eu a.cls b.cls with h | h | h
 .simp [h]
 .rw [h]
  simp only [lt_irrefl,Bool.false_eq_true,if_false,beq_self_eq_true,Bool.true_and,Bool.false_or]
  rcases eu a.name b.name with g | g | g
  .simp [g]
  .rw [g]; simp [lt_irrefl]
  .simp [g,iQ g]
 .have h2:¬ a.cls=b.cls:=λe=>by rw [e,lt_irrefl] at h; cases h
  simp [h,iQ h,h2]
theorem swoSd:Sort.SWO (ltOf Hf):=by
 have key:∀ x y,ltOf Hf x y=slt x y:=λx y=>by
  unfold ltOf
  rw [Bool.eq_iff_iff,decide_eq_true_iff,DT]
 refine ⟨λx=>by rw [key,qp],λx y z h1 h2=>by rw [key] at *; exact sP h1 h2,λx y z h1 h2=>?_⟩
 rw [key] at *
 cases h3:slt x z with
 | false=>rfl
 | true =>
  rcases sQ x y with h4 | h4 | h4
  .rw [h1] at h4; cases h4
  .rw [h4,h2] at h3; cases h3
  .rw [sP h4 h3] at h2; cases h2
def sdC (s:Sd):List Value:=[sv s.cls,sv s.name]
instance:Inhabited Sd:=⟨⟨[],[]⟩⟩
def Js:Go.Shelf.Ren:={
 f:=λ| 6=>197 | 15=>202 | 14=>249 | 28=>258 | 29=>259 | 20=>281 | 21=>282 | 22=>283 | 23=>284 | 24=>285 | 25=>286 | 26=>287 | 27=>288 | 46=>301 | 47=>290 | 48=>291 | 49=>302 | 50=>303 | 57=>316 | n=>n
 t:=λ| 22=>67 | 24=>69 | 25=>272 | 3=>3 | 39=>275 | 0=>0 | 53=>322 | 55=>324 | 4=>4 | 46=>316 | 45=>315 | 50=>222 | 5=>5 | 9=>9 | 66=>345 | 70=>349 | 76=>365 | 77=>366 | n=>n
 g:=λn=>n }
theorem laysSd:Go.Proofs.SlLaysF0.n6 prog Js:={
 mixed:=rfl
 f6 := bU "slices.SortFunc[[]cosigner/api.Seed,cosigner/api.Seed]" rfl (func197.trans (congrArg some Zz))
 f14 := bU "slices.pdqsortCmpFunc[cosigner/api.Seed]" rfl (func249.trans (congrArg some Zz))
 f15:=func202.trans<|congrArg some Zz
 f20 := bU "slices.insertionSortCmpFunc[cosigner/api.Seed]" rfl (func281.trans (congrArg some Zz))
 f21 := bU "slices.heapSortCmpFunc[cosigner/api.Seed]" rfl (func282.trans (congrArg some Zz))
 f22 := bU "slices.breakPatternsCmpFunc[cosigner/api.Seed]" rfl (func283.trans (congrArg some Zz))
 f23 := bU "slices.choosePivotCmpFunc[cosigner/api.Seed]" rfl (func284.trans (congrArg some Zz))
 f24 := bU "slices.reverseRangeCmpFunc[cosigner/api.Seed]" rfl (func285.trans (congrArg some Zz))
 f25 := bU "slices.partialInsertionSortCmpFunc[cosigner/api.Seed]" rfl (func286.trans (congrArg some Zz))
 f26 := bU "slices.partitionEqualCmpFunc[cosigner/api.Seed]" rfl (func287.trans (congrArg some Zz))
 f27 := bU "slices.partitionCmpFunc[cosigner/api.Seed]" rfl (func288.trans (congrArg some Zz))
 f28:=func258.trans<|congrArg some Zz
 f29:=func259.trans<|congrArg some Zz
 f46 := bU "slices.siftDownCmpFunc[cosigner/api.Seed]" rfl (func301.trans (congrArg some Zz))
 f47:=func290.trans<|congrArg some Zz
 f48:=func291.trans<|congrArg some Zz
 f49 := bU "slices.medianAdjacentCmpFunc[cosigner/api.Seed]" rfl (func302.trans (congrArg some Zz))
 f50 := bU "slices.medianCmpFunc[cosigner/api.Seed]" rfl (func303.trans (congrArg some Zz))
 f57 := bU "slices.order2CmpFunc[cosigner/api.Seed]" rfl (func316.trans (congrArg some Zz))
 t0:=underlying0
 a0:=isAgg0
 z0:=sizeOf0
 v0:=zeroValue0
 t3:=underlying3
 a3:=isAgg3
 z3:=sizeOf3
 v3:=zeroValue3
 t4:=underlying4
 a4:=isAgg4
 z4:=sizeOf4
 v4:=zeroValue4
 t5:=underlying5
 a5:=isAgg5
 z5:=sizeOf5
 v5:=zeroValue5
 t9:=underlying9
 a9:=isAgg9
 z9:=sizeOf9
 v9:=zeroValue9
 t22:=underlying67
 a22:=isAgg67
 z22:=sizeOf67
 v22:=zeroValue67
 t25:=underlying272
 a25:=isAgg272
 z25:=sizeOf272
 v25:=zeroValue272
 t39:=underlying275
 a39:=isAgg275
 z39:=sizeOf275
 v39:=zeroValue275
 t45:=underlying315
 a45:=isAgg315
 z45:=sizeOf315
 v45:=zeroValue315
 t46:=underlying316
 a46:=isAgg316
 z46:=sizeOf316
 v46:=zeroValue316
 t50:=underlying222
 a50:=isAgg222
 z50:=sizeOf222
 v50:=zeroValue222
 t53:=underlying322
 a53:=isAgg322
 z53:=sizeOf322
 v53:=zeroValue322
 t55:=underlying324
 a55:=isAgg324
 z55:=sizeOf324
 v55:=zeroValue324
 t66:=underlying345
 a66:=isAgg345
 z66:=sizeOf345
 v66:=zeroValue345
 t70:=underlying349
 a70:=isAgg349
 z70:=sizeOf349
 v70:=zeroValue349
 t76:=underlying365
 a76:=isAgg365
 z76:=sizeOf365
 v76:=zeroValue365
 t77:=underlying366
 a77:=isAgg366
 z77:=sizeOf366
 v77:=zeroValue366 }
theorem A9 {v:Value} {xs:List Sd} (hl:xs.length<=1099511627776):Ct prog 197 #[v,.func (.func 198) #[] #[]] [VR v 69 2 (xs.map sdC)] λu h'=>u = .tuple #[]/\∃ ys:List Sd,ys.Perm xs/\cpS ys=nX xs/\h'=[VR v 69 2 (ys.map sdC)]:=by
 have h:=Ht (E:=69) (v:=v) laysSd (k:=2) isAgg69 sizeOf69 (enc:=sdC) (λ_=>rfl) (λx v hv=>by simp [sdC] at hv; rcases hv with rfl | rfl <;> rfl) swoSd (g:=198) (enters_of func198 Zz rfl) (λx y=>Ff x y) hl
 refine Ct.mono h ?_
 rintro u h' ⟨rfl,ys,hp,hs,rfl⟩
 refine ⟨Z,ys,hp,OL hp (hs.imp λ{a b} hab=>?_),Z⟩
 cases h3:slt b a with
 | false=>rfl
 | true=>exact (hab ((DT b a).2 h3)).elim
attribute [local irreducible] Go.Ck.Sub St Cd Xt Nx DrL LsW
section
variable {X:Res} {v v':Value} {us us':List Value}
theorem Fh {xs:List Sd} {i:Nat} (h:i<xs.length):(xs.map sdC)[i]? = some [sv (xs[i]).cls,sv (xs[i]).name]:=by rw [List.getElem?_map,Zy h]; rfl
theorem cz {α : Type} {xs:List α} {i:Nat} (h:i<xs.length):xs.take (i+1)=xs.take i++[xs[i]]:=List.take_succ_eq_append_getElem h
theorem xu {xs:List Sd} {i:Nat} (h:i<xs.length):(xs.take (i+1)).getLast? = some xs[i]:=by rw [cz h,List.getLast?_append,List.getLast?_singleton]; rfl
theorem Ba {v:Value} {xs:List Sd}:Ct prog 199 #[v] [VR v 69 2 (xs.map sdC)] λu h'=>u.oneCell'=true/\h'=[VR u 69 2 ((cpS xs).map sdC)]:=by
 have hml:maxLen=9223372036854775807:=rfl
 refine aJ (n:=61) func199 Z Z (len Z) λhr w0=>?_
 refine fD (r:=VR v 69 2<|xs.map sdC) slq λhok=>?_
 have ho:=VR.one hok.choose_spec
 refine fO (v:=v) (E:=69) (sz:=2) (rows:=xs.map sdC) slq λwa wc hwf hwl hwm=>?_
 rw [List.length_map] at hwf hwl
 subst hwf
 refine cQ<|sA Z<|sN<|nT<|cS<|cQ<|sM Z<|sV (aC Z underlying67)<|sV (aO Z Z)<|sK [0,2,8] Z<|cC Z (λh2=>?_)<|λh2=>?_
 .have h2:xs.length<2:=by
   have:(xs.length:Int)<2:=Zo
   omega
  have hc:cpS xs=xs:=by
   match xs,h2 with
   | [],_=>rfl
   | [x],_=>rfl
  rw [hc]
  refine cQ<|sM Z<|sA Z<|sK [2] Z<|cT<|xR ?_
  exact aj Z ⟨ho,Z⟩ sbq
 .have h2:2<=xs.length:=by
   have:¬ (xs.length:Int)<2:=Zo
   omega
  obtain ⟨b,o,rfl⟩:∃ b o,wa=some ⟨b,o,none⟩:=by
   obtain ⟨f,hf⟩:=hok
   rcases VR.form hf with ⟨h3,h4⟩ | ⟨b,o,cp,h3,-⟩
   .rw [List.map_eq_nil_iff] at h4; subst h4; simp at h2
   .rw [List.length_map] at h3; cases h3; exact ⟨b,o,rfl⟩
  refine cK<|xT<|cS<|cQ<|sA Z<|sK [0,2,3] Z<|cB<|aY (σ := Nat) (λk=>[(0,.slice (some ⟨b,o,none⟩) xs.length wc),(3,.int .i64 (k:Nat))]) (λ_=>VR (.slice (some ⟨b,o,none⟩) xs.length wc) 69 2 (xs.map sdC)::hr) (λk=>1<=k/\k<=xs.length/\cpS (xs.take k)=xs.take k) (λk=>xs.length - k) 1 ⟨Nat.le_refl _,by omega,?_⟩ ?_
  .match xs,h2 with
   | x::y::t,_=>rfl
  rintro k ⟨hk1,hkn,hcp⟩
  refine cS<|cQ<|sM Z<|sM Z<|sV (aC Z underlying67)<|sV (aO Z Z)<|sK [0,3,13] Z<|cC Z (λhd=>?_)<|λhd=>?_
  .have hlt:k<xs.length:=Zx
   have hlt1:k - 1<xs.length:=by omega
   have hr1:=Fh hlt
   have hr0:=Fh hlt1
   have hsub:((k:Int) - 1)=((k - 1:Nat):Int):=by omega
   refine cK<|xT<|cS<|cB<|cS<|bC (ork [(0,2),(1,2),(2,2),(3,1),(4,2),(5,2),(6,2),(7,2),(8,1),(9,1)] .nil) (λ_=>true) mixed Zz ?_
   refine dV Z (vM Z)<|dV Z (vM Z)<|dV Z (vI (k:=k) Z Z qV Z hlt Z)<|bu Z (af Z iN Z<|dU hr1) ?_
   refine dV Z (vM Z)<|dV Z (vM Z)<|dV Z (xP Z Z Z0)<|dV Z (vI (k:=k - 1) Z Z qV hsub hlt1 Z)<|bu Z (af Z iN Z<|dU hr0) ?_
   refine bu Z (jY yw Z Z)<|bB<|nK [0,3,25] Z<|nT ?_
   rw [<- xn]
   refine cC Z (λhe=>?_)<|λhe=>?_
   .have he:xs[k]=xs[k - 1]:=of_decide_eq_true he
    refine cQ<|sM Z<|sM Z<|sV (gM (show Value.slice (some ⟨b,if wc=k then o else o+k * 2,none⟩) (xs.length - k) (wc - k)=Value.slice (some ⟨b,o+k * 2,none⟩) (xs.length - k) (wc - k) by rw [if_neg (by omega)])<|ng (lo:=k) Z Z qV Z (by omega)<|by omega) ?_
    refine sA Z<|sK [0,3,4] Z<|cS<|cQ<|sA Z<|sN<|nT<|cB ?_
    have hcp1:cpS (xs.take (k+1))=xs.take k:=by
     rw [cz hlt,mJ,si,if_pos,hcp]
     have:=xu hlt1
     rw [show k - 1+1=k by omega] at this
     rw [this,he]
    have hnk:((xs.length:Int) - (k:Int))=((xs.length - k:Nat):Int):=by omega
    refine aY (σ := Nat×Nat×List (List Value)) (λq=>[(0,.slice (some ⟨b,o,none⟩) xs.length wc),(3,.int .i64 (q.1:Nat)),(4,.slice (some ⟨b,o+k * 2,none⟩) (xs.length - k) (wc - k)),(5,.int .i64 (q.2.1:Nat))]) (λq=>VR (.slice (some ⟨b,o,none⟩) xs.length wc) 69 2 q.2.2::hr) (λq=>1<=q.2.1/\k+q.2.1<=xs.length/\q.1<k+q.2.1/\q.2.2.length=xs.length/\q.2.2.take q.1=(cpS<|xs.take (k+q.2.1)).map sdC/\∀ j,k+q.2.1<=j+1->q.2.2[j]? = (xs.map sdC)[j]?) (λq=>xs.length - k - q.2.1) (k,1,xs.map sdC) ⟨Nat.le_refl _,by dsimp only; omega,by dsimp only; omega,by simp,by rw [hcp1,List.map_take],λ_ _=>rfl⟩ ?_
    rintro ⟨m,p,rows⟩ ⟨hp1,hpn,hmp,hrl,htk,hrest⟩
    simp only at hp1 hpn hmp hrl htk hrest
    dsimp only
    refine cS<|cQ<|sM Z<|sM Z<|sV (aC Z underlying67)<|sV (aO Z Z)<|sK [0,3,4,5,32] Z<|cC Z (λhd2=>?_)<|λhd2=>?_
    .have hltp:p<xs.length - k:=Zw
     have hq:k+p<xs.length:=by omega
     have hq1:k+p - 1<xs.length:=by omega
     have hr2:rows[k+p]? = some [sv (xs[k+p]).cls,sv (xs[k+p]).name]:=(hrest _<|by omega).trans<|Fh hq
     have hr3:rows[k+p - 1]? = some [sv (xs[k+p - 1]).cls,sv (xs[k+p - 1]).name]:=(hrest _<|by omega).trans<|Fh hq1
     have hsub2:((p:Int) - 1)=((p - 1:Nat):Int):=by omega
     have hrd2:=dU (b:=b) (o:=o) (n:=xs.length) (cp:=wc) (E:=69) (sz:=2) hr2
     have hrd3:=dU (b:=b) (o:=o) (n:=xs.length) (cp:=wc) (E:=69) (sz:=2) hr3
     rw [show o+(k+p) * 2=o+k * 2+p * 2 by omega] at hrd2
     rw [show o+(k+p - 1) * 2=o+k * 2+(p - 1) * 2 by omega] at hrd3
     have hcs:cpS (xs.take (k+(p+1)))=if xs[k+p - 1]=xs[k+p] then cpS (xs.take (k+p)) else cpS (xs.take (k+p))++[xs[k+p]]:=by
      rw [show k+(p+1)=k+p+1 by omega,cz hq,mJ,si]
      have:=xu hq1
      rw [show k+p - 1+1=k+p by omega] at this
      rw [this]
      simp only [Option.some.injEq]
     refine cK<|xT<|cS<|cB<|cS<|bC (ork [(0,2),(1,2),(2,2),(3,1),(4,2),(5,2),(6,2),(7,2),(8,1),(9,1)] .nil) (λ_=>true) mixed Zz ?_
     refine dV Z (vM Z)<|dV Z (vM Z)<|dV Z (vI (k:=p) Z Z qV Z hltp Z)<|bu Z (af Z iN Z hrd2) ?_
     refine dV Z (vM Z)<|dV Z (vM Z)<|dV Z (xP Z Z Z0)<|dV Z (vI (k:=p - 1) Z Z qV hsub2 (by omega) Z)<|bu Z (af Z iN Z hrd3) ?_
     refine bu Z (wX yw Z Z)<|bB<|nK [0,3,4,5,44] Z<|nT<|cC Z (λhne=>?_)<|λhne=>?_
     .have hne:xs[k+p]≠xs[k+p - 1]:=by exact Oz hne
      rw [if_neg λe=>hne e.symm] at hcs
      refine cQ<|sM Z<|sM Z<|sM Z<|sM Z<|sV (vI (k:=p) Z Z qV Z hltp Z)<|sV (af Z iN Z hrd2) ?_
      refine sV (vI (k:=m) rfl rfl qV rfl (by omega) rfl)<|A8 (m:=m) (rows:=rows) (vs:=[sv (xs[k+p]).cls,sv (xs[k+p]).name]) rfl rfl sz69 rfl (λu hu=>by simp at hu; rcases hu with rfl | rfl <;> rfl) (by omega) slq ?_
      refine sK [0,3,4,5] Z<|cR<|sM Z<|sV (aI Z Z Z0)<|sA Z<|sN<|nK [0,3,4,5] Z<|ax<|xB<|xT<|cR<|sM Z<|sV (aI Z Z Z0)<|sA Z<|sN<|nK [0,3,4,5] Z<|ax<|aL (m+1,p+1,rows.set m [sv (xs[k+p]).cls,sv (xs[k+p]).name]) ⟨by dsimp only; omega,by dsimp only; omega,by dsimp only; omega,by rw [List.length_set]; exact hrl,?_,λj hj=>?_⟩ (by dsimp only; omega)
      .rw [hcs,List.map_append,<- htk,cz (by rw [List.length_set]; omega),List.take_set_of_le (Nat.le_refl _),List.getElem_set_self]; rfl
      .have hj:k+(p+1)<=j+1:=hj
       rw [List.getElem?_set_ne (by omega)]; exact hrest j (by omega)
     .have hne:xs[k+p]=xs[k+p - 1]:=by exact OA hne
      rw [if_pos hne.symm] at hcs
      refine cK<|xB<|xT<|cR<|sM Z<|sV (aI Z Z Z0)<|sA Z<|sN<|nK [0,3,4,5] Z<|ax ?_
      refine aL (m,p+1,rows) ⟨by dsimp only; omega,by dsimp only; omega,by dsimp only; omega,hrl,by rw [hcs]; exact htk,λj hj=>hrest j (by dsimp only at hj; omega)⟩ (by dsimp only; omega)
    .have hpe:k+p=xs.length:=by
      have:¬ p<xs.length - k:=Zw
      omega
     rw [hpe,List.take_length] at htk
     refine aB<|xE<|xE<|xY<|xT<|cQ<|sM Z<|sM Z<|sV (gM (show Value.slice (some ⟨b,if wc=m then o else o+m * 2,none⟩) (xs.length - m) (wc - m)=Value.slice (some ⟨b,o+m * 2,none⟩) (rows.length - m) (wc - m) by rw [if_neg (by omega),hrl])<|ng (lo:=m) Z Z qV Z (by omega)<|by omega) ?_
     refine uJ (m:=m) (rows:=rows) rfl underlying67 Dh rfl (λv hv=>by simp [Value.cells] at hv; rcases hv with rfl | rfl <;> rfl) (by omega) slq ?_
     refine sK [0,3] Z<|cQ<|sM Z<|sM Z<|sV (kI (hi:=m) Z Z qV Z<|by omega)<|rQ (zi (m:=m) ?_) ?_
     .rw [List.length_append,List.length_take,List.length_replicate]; omega
     rw [List.take_append_of_le_length (by rw [List.length_take]; omega),List.take_take,Nat.min_self,htk]
     refine sA Z<|sK [2] Z<|cT<|xW<|xR<|xR<|xW<|xR ?_
     exact aj Z ⟨Z,Z⟩ sbq
   .have he:xs[k]≠xs[k - 1]:=of_decide_eq_false he
    refine cK<|xB<|xT<|cR<|sM Z<|sV (aI Z Z Z0)<|sA Z<|sN<|nK [0,3] Z<|ax<|aL (k+1) ⟨by omega,by omega,?_⟩ (by show _ - _<_ - _; omega)
    rw [cz hlt,mJ,si,if_neg,hcp]
    have:=xu hlt1
    rw [show k - 1+1=k by omega] at this
    rw [this]
    simp only [Option.some.injEq]
    exact λe=>he e.symm
  .have hke:k=xs.length:=by
    have:¬ k<xs.length:=Zx
    omega
   subst hke
   rw [List.take_length] at hcp
   rw [hcp]
   refine aB<|xE<|xE<|xY<|xT<|cQ<|sM Z<|sA Z<|sK [2] Z<|cT ?_
   exact aj Z ⟨Z,Z⟩ sbq
end
end Go.Fl
