/-
  Package flat: copies of members and flat forms; class,bK,deferred; seeds contained. Conditions: what is read.
-/
import Derived.Test.YtknmacdbffgjgaaGreatDoorM12
import Derived.Test.YtknmacdbffgjgaaGreatDoorM11
set_option linter.unusedVariables false
set_option linter.unusedSimpArgs false
set_option maxRecDepth 100000
set_option maxHeartbeats 16000000
namespace Go.Fl
open Go Go.RowKit Go.Ck Go.Proofs Go.Proofs.Tryz Go.Proofs.YtknmacdbffgjgaaGreatDoor Fx Go.Hr
attribute [local irreducible] Go.Ck.Sub St Cd Xt Nx DrL LsW
def Cpy (α : Type) [Enc α] (K:FuncId):Prop:=∀ (X:Res) (a : α) (us:List Value),Enc.rep X us a→CtN prog K #[.agg us.toArray] [X] fun u T=>∃ us':List Value,u = .agg us'.toArray∧Enc.rep T us' a

theorem len2 {l:List Value} (h:l.length=2):∃ c0 c1,l=[c0,c1]:=by
 match l,h with
 | [c0,c1],_=>exact ⟨c0,c1,rfl⟩
theorem len4 {l:List Value} (h:l.length=4):∃ c0 c1 c2 c3,l=[c0,c1,c2,c3]:=by
 match l,h with
 | [c0,c1,c2,c3],_=>exact ⟨c0,c1,c2,c3,rfl⟩
theorem len5 {l:List Value} (h:l.length=5):∃ c0 c1 c2 c3 c4,l=[c0,c1,c2,c3,c4]:=by
 match l,h with
 | [c0,c1,c2,c3,c4],_=>exact ⟨c0,c1,c2,c3,c4,rfl⟩
theorem len6 {l:List Value} (h:l.length=6):∃ c0 c1 c2 c3 c4 c5,l=[c0,c1,c2,c3,c4,c5]:=by
 match l,h with
 | [c0,c1,c2,c3,c4,c5],_=>exact ⟨c0,c1,c2,c3,c4,c5,rfl⟩
theorem len14 {l:List Value} (h:l.length=14):∃ c0 c1 c2 c3 c4 c5 c6 c7 c8 c9 c10 c11 c12 c13,l=[c0,c1,c2,c3,c4,c5,c6,c7,c8,c9,c10,c11,c12,c13]:=by
 match l,h with
 | [c0,c1,c2,c3,c4,c5,c6,c7,c8,c9,c10,c11,c12,c13],_=>exact ⟨c0,c1,c2,c3,c4,c5,c6,c7,c8,c9,c10,c11,c12,c13,rfl⟩
section
variable {X:Res} {v v':Value} {us us':List Value}
theorem H9 {xs:List Kt} {kf:FuncId} (hE:Ck.Enters prog kf) (hv:Ls X v xs) (hF:∀ a∈xs,∀ us,Enc.rep X us a→CtN prog kf #[.agg us.toArray] [X] fun u T=>∃ us':List Value,u = .agg us'.toArray∧Enc.rep T us' a):CtN prog 184 #[v,.func (.func kf) #[] #[]] [X] fun u T=>Ls T u xs:=by
 have hml:maxLen=9223372036854775807:=rfl
 have hrb:reachBytes=140737488351232:=rfl
 have hsz:xs.length * 56≤reachBytes:=hv.sizes
 obtain ⟨a,cap,rfl,hlc,hcm,hnone⟩:=hv.form
 refine aL (n:=22) func184 Z Z (len Z) fun hr w0=>?_
 refine cQ (sV (vA9 Z) (sN (nT (cQ (sV (vA9 Z) (sN (nT (cS (cQ (sM Z (sV (aF Z underlying71) (sM Z ?_))))))))))))
 refine sN (nK9 [1,4,5,8,9,10] Z (nT (cB (dK (cz 73 5) (dK (eD (L:=[])) (aZ (σ := Value×List (List Value)×Res×Nat) (fun q=>[(1,.func (.func kf) #[] #[]),(5,q.1),(8,.slice a xs.length cap),(9,.int .i64 xs.length),(10,.int .i64 (q.2.2.2:Nat))]) (fun q=>VR q.1 73 5 q.2.1::q.2.2.1::X::hr) (fun q=>q.2.2.2≤xs.length∧q.1.oneCell'=true∧Rws q.2.2.1 q.2.1 (xs.take q.2.2.2)) (fun q=>xs.length - q.2.2.2) (.slice none 0 0,[],Res.star [],0) ⟨Nat.zero_le _,Z,Rws.nil⟩ ?_))))))
 rintro ⟨w,rows,T,i⟩ ⟨hi,hw,hro⟩
 simp only at hi hw hro
 dsimp only
 refine cQ (sV (aO Z Z) (sN (nT (cS (cC Z (fun hd=>?_) (fun hd=>?_))))))
 ·have hlt:i<xs.length:=by simpa using hd
  have hg:=List.getElem?_eq_getElem hlt
  have hmem:=List.getElem_mem hlt
  have hsn:xs.take (i+1)=xs.take i++[xs[i]]:=List.take_succ_eq_append_getElem hlt
  obtain ⟨b,o,cap2,us,e1,hus,hrd,ht⟩:=hv.at hg
  cases e1
  generalize xs[i]=x at hg hmem ht hsn
  have hone:=Enc.ones ht
  have hrl:rows.length=i:=by rw [hro.1,List.length_take]; omega
  refine cK9 (xT (cS (cB (cQ (sV (vI (k:=i) Z Z yR Z hlt Z) (sV (ag Z fQ hus hrd) ?_))))))
  refine au Aa fun b7=>?_
  refine ai (hl:=by rw [hus]; rfl) Z Z nD hus hone ?_
  refine sN (nK9 [1,5,7,8,9,10] Z (nT (cR (sM Z (sM Z (sV (ag Z fQ hus af) ?_))))))
  refine aH Z Z hE Z ((hF x hmem us ht)) ?_
  rintro u h' ⟨T2,rfl,us2,rfl,hT2⟩
  simp only [lC,lN]
  have hl2:us2.length=5:=Enc.len hT2
  have ho2:=Enc.ones hT2
  obtain ⟨c0,c1,c2,c3,c4,rfl⟩:=len5 hl2
  refine ak (cells:=[c0,c1,c2,c3,c4]) Z underlying71 Jt Z Z (by kernel_rfl) (ltn Z) fun b62=>?_
  refine dU [[c0,c1,c2,c3,c4]] Z Z underlying71 Jt Z (by decide) (show Sel _ (VR w 73 5 rows) _ from slq) (by simp) Z (fun j u2 hu2=>bP (bU (by simpa using hu2))) (by simpa using ho2) (by rw [hrl]; omega) (by rw [hrl]; omega) (ltn Z) fun w2 hw2 _=>?_
  refine sV (vA9 Z) (sN (nK9 [1,5,8,9,10] Z (ax (xB (xT (cR (sV (aI Z Z (by unfold I64 at *; omega)) (sM Z (sN (nK9 [1,5,8,9,10] Z (ax (kz (fq (L:=[T,T2])) ?_))))))))))))
  simp only [lC,lN]
  refine aJ (w2,rows++[[c0,c1,c2,c3,c4]],Res.star [T,T2],i+1) ⟨hlt,hw2,by rw [hsn]; exact Rws.snoc ⟨hro.1,fun j us x h1 h2=>Enc.up (bH .here) (hro.2 j us x h1 h2)⟩ (Enc.up (bH (.there .here)) hT2)⟩ (Nat.sub_lt_sub_left hlt (Nat.lt_succ_self i))
 ·have hil:i=xs.length:=by
   have:¬ i<xs.length:=by simpa using hd
   omega
  subst hil
  rw [List.take_length] at hro
  refine aB (xE (xE (xY (xT (cQ (sM Z (sV (vA9 Z) (sN (nK9 [4] Z (nT (cT (dS (r:=VR w 73 5 rows) slq fun hok=>?_))))))))))))
  refine kz (fq (L:=[VR w 73 5 rows,T])) ?_
  simp only [lC,lN]
  have hls:Ls (Res.star [VR w 73 5 rows,T]) w xs:=Rws.ls (E:=73) ⟨hro.1,fun j us x h1 h2=>Enc.up (bH (.there .here)) (hro.2 j us x h1 h2)⟩ hok (bH .here) hsz
  exact aj Z ⟨Res.star [VR w 73 5 rows,T],Z,hls⟩ sbq
theorem Ia {xs:List Vr} {kf:FuncId} (hE:Ck.Enters prog kf) (hv:Ls X v xs) (hF:∀ a∈xs,∀ us,Enc.rep X us a→CtN prog kf #[.agg us.toArray] [X] fun u T=>∃ us':List Value,u = .agg us'.toArray∧Enc.rep T us' a):CtN prog 175 #[v,.func (.func kf) #[] #[]] [X] fun u T=>Ls T u xs:=by
 have hml:maxLen=9223372036854775807:=rfl
 have hrb:reachBytes=140737488351232:=rfl
 have hsz:xs.length * 72≤reachBytes:=hv.sizes
 obtain ⟨a,cap,rfl,hlc,hcm,hnone⟩:=hv.form
 refine aL (n:=22) func175 Z Z (len Z) fun hr w0=>?_
 refine cQ (sV (vA9 Z) (sN (nT (cQ (sV (vA9 Z) (sN (nT (cS (cQ (sM Z (sV (aF Z underlying70) (sM Z ?_))))))))))))
 refine sN (nK9 [1,4,5,8,9,10] Z (nT (cB (dK (cz 132 6) (dK (eD (L:=[])) (aZ (σ := Value×List (List Value)×Res×Nat) (fun q=>[(1,.func (.func kf) #[] #[]),(5,q.1),(8,.slice a xs.length cap),(9,.int .i64 xs.length),(10,.int .i64 (q.2.2.2:Nat))]) (fun q=>VR q.1 132 6 q.2.1::q.2.2.1::X::hr) (fun q=>q.2.2.2≤xs.length∧q.1.oneCell'=true∧Rws q.2.2.1 q.2.1 (xs.take q.2.2.2)) (fun q=>xs.length - q.2.2.2) (.slice none 0 0,[],Res.star [],0) ⟨Nat.zero_le _,Z,Rws.nil⟩ ?_))))))
 rintro ⟨w,rows,T,i⟩ ⟨hi,hw,hro⟩
 simp only at hi hw hro
 dsimp only
 refine cQ (sV (aO Z Z) (sN (nT (cS (cC Z (fun hd=>?_) (fun hd=>?_))))))
 ·have hlt:i<xs.length:=by simpa using hd
  have hg:=List.getElem?_eq_getElem hlt
  have hmem:=List.getElem_mem hlt
  have hsn:xs.take (i+1)=xs.take i++[xs[i]]:=List.take_succ_eq_append_getElem hlt
  obtain ⟨b,o,cap2,us,e1,hus,hrd,ht⟩:=hv.at hg
  cases e1
  generalize xs[i]=x at hg hmem ht hsn
  have hone:=Enc.ones ht
  have hrl:rows.length=i:=by rw [hro.1,List.length_take]; omega
  refine cK9 (xT (cS (cB (cQ (sV (vI (k:=i) Z Z sl70 Z hlt Z) (sV (ag Z uP hus hrd) ?_))))))
  refine au JH fun b7=>?_
  refine ai (hl:=by rw [hus]; rfl) Z Z BU hus hone ?_
  refine sN (nK9 [1,5,7,8,9,10] Z (nT (cR (sM Z (sM Z (sV (ag Z uP hus af) ?_))))))
  refine aH Z Z hE Z ((hF x hmem us ht)) ?_
  rintro u h' ⟨T2,rfl,us2,rfl,hT2⟩
  simp only [lC,lN]
  have hl2:us2.length=6:=Enc.len hT2
  have ho2:=Enc.ones hT2
  obtain ⟨c0,c1,c2,c3,c4,c5,rfl⟩:=len6 hl2
  refine ak (cells:=[c0,c1,c2,c3,c4,c5]) Z underlying70 Dy Z Z (by kernel_rfl) (ltn Z) fun b62=>?_
  refine dU [[c0,c1,c2,c3,c4,c5]] Z Z underlying70 Dy Z (by decide) (show Sel _ (VR w 132 6 rows) _ from slq) (by simp) Z (fun j u2 hu2=>bP (bU (by simpa using hu2))) (by simpa using ho2) (by rw [hrl]; omega) (by rw [hrl]; omega) (ltn Z) fun w2 hw2 _=>?_
  refine sV (vA9 Z) (sN (nK9 [1,5,8,9,10] Z (ax (xB (xT (cR (sV (aI Z Z (by unfold I64 at *; omega)) (sM Z (sN (nK9 [1,5,8,9,10] Z (ax (kz (fq (L:=[T,T2])) ?_))))))))))))
  simp only [lC,lN]
  refine aJ (w2,rows++[[c0,c1,c2,c3,c4,c5]],Res.star [T,T2],i+1) ⟨hlt,hw2,by rw [hsn]; exact Rws.snoc ⟨hro.1,fun j us x h1 h2=>Enc.up (bH .here) (hro.2 j us x h1 h2)⟩ (Enc.up (bH (.there .here)) hT2)⟩ (Nat.sub_lt_sub_left hlt (Nat.lt_succ_self i))
 ·have hil:i=xs.length:=by
   have:¬ i<xs.length:=by simpa using hd
   omega
  subst hil
  rw [List.take_length] at hro
  refine aB (xE (xE (xY (xT (cQ (sM Z (sV (vA9 Z) (sN (nK9 [4] Z (nT (cT (dS (r:=VR w 132 6 rows) slq fun hok=>?_))))))))))))
  refine kz (fq (L:=[VR w 132 6 rows,T])) ?_
  simp only [lC,lN]
  have hls:Ls (Res.star [VR w 132 6 rows,T]) w xs:=Rws.ls (E:=132) ⟨hro.1,fun j us x h1 h2=>Enc.up (bH (.there .here)) (hro.2 j us x h1 h2)⟩ hok (bH .here) hsz
  exact aj Z ⟨Res.star [VR w 132 6 rows,T],Z,hls⟩ sbq
theorem Ib {xs:List Ex} {kf:FuncId} (hE:Ck.Enters prog kf) (hv:Ls X v xs) (hF:∀ a∈xs,∀ us,Enc.rep X us a→CtN prog kf #[.agg us.toArray] [X] fun u T=>∃ us':List Value,u = .agg us'.toArray∧Enc.rep T us' a):CtN prog 280 #[v,.func (.func kf) #[] #[]] [X] fun u T=>Ls T u xs:=by
 have hml:maxLen=9223372036854775807:=rfl
 have hrb:reachBytes=140737488351232:=rfl
 have hsz:xs.length * 56≤reachBytes:=hv.sizes
 obtain ⟨a,cap,rfl,hlc,hcm,hnone⟩:=hv.form
 refine aL (n:=22) func280 Z Z (len Z) fun hr w0=>?_
 refine cQ (sV (vA9 Z) (sN (nT (cQ (sV (vA9 Z) (sN (nT (cS (cQ (sM Z (sV (aF Z underlying214) (sM Z ?_))))))))))))
 refine sN (nK9 [1,4,5,8,9,10] Z (nT (cB (dK (cz 216 4) (dK (eD (L:=[])) (aZ (σ := Value×List (List Value)×Res×Nat) (fun q=>[(1,.func (.func kf) #[] #[]),(5,q.1),(8,.slice a xs.length cap),(9,.int .i64 xs.length),(10,.int .i64 (q.2.2.2:Nat))]) (fun q=>VR q.1 216 4 q.2.1::q.2.2.1::X::hr) (fun q=>q.2.2.2≤xs.length∧q.1.oneCell'=true∧Rws q.2.2.1 q.2.1 (xs.take q.2.2.2)) (fun q=>xs.length - q.2.2.2) (.slice none 0 0,[],Res.star [],0) ⟨Nat.zero_le _,Z,Rws.nil⟩ ?_))))))
 rintro ⟨w,rows,T,i⟩ ⟨hi,hw,hro⟩
 simp only at hi hw hro
 dsimp only
 refine cQ (sV (aO Z Z) (sN (nT (cS (cC Z (fun hd=>?_) (fun hd=>?_))))))
 ·have hlt:i<xs.length:=by simpa using hd
  have hg:=List.getElem?_eq_getElem hlt
  have hmem:=List.getElem_mem hlt
  have hsn:xs.take (i+1)=xs.take i++[xs[i]]:=List.take_succ_eq_append_getElem hlt
  obtain ⟨b,o,cap2,us,e1,hus,hrd,ht⟩:=hv.at hg
  cases e1
  generalize xs[i]=x at hg hmem ht hsn
  have hone:=Enc.ones ht
  have hrl:rows.length=i:=by rw [hro.1,List.length_take]; omega
  refine cK9 (xT (cS (cB (cQ (sV (vI (k:=i) Z Z Jr Z hlt Z) (sV (ag Z nI hus hrd) ?_))))))
  refine au JI fun b7=>?_
  refine ai (hl:=by rw [hus]; rfl) Z Z zU hus hone ?_
  refine sN (nK9 [1,5,7,8,9,10] Z (nT (cR (sM Z (sM Z (sV (ag Z nI hus af) ?_))))))
  refine aH Z Z hE Z ((hF x hmem us ht)) ?_
  rintro u h' ⟨T2,rfl,us2,rfl,hT2⟩
  simp only [lC,lN]
  have hl2:us2.length=4:=Enc.len hT2
  have ho2:=Enc.ones hT2
  obtain ⟨c0,c1,c2,c3,rfl⟩:=len4 hl2
  refine ak (cells:=[c0,c1,c2,c3]) Z underlying214 MP Z Z (by kernel_rfl) (ltn Z) fun b62=>?_
  refine dU [[c0,c1,c2,c3]] Z Z underlying214 MP Z (by decide) (show Sel _ (VR w 216 4 rows) _ from slq) (by simp) Z (fun j u2 hu2=>bP (bU (by simpa using hu2))) (by simpa using ho2) (by rw [hrl]; omega) (by rw [hrl]; omega) (ltn Z) fun w2 hw2 _=>?_
  refine sV (vA9 Z) (sN (nK9 [1,5,8,9,10] Z (ax (xB (xT (cR (sV (aI Z Z (by unfold I64 at *; omega)) (sM Z (sN (nK9 [1,5,8,9,10] Z (ax (kz (fq (L:=[T,T2])) ?_))))))))))))
  simp only [lC,lN]
  refine aJ (w2,rows++[[c0,c1,c2,c3]],Res.star [T,T2],i+1) ⟨hlt,hw2,by rw [hsn]; exact Rws.snoc ⟨hro.1,fun j us x h1 h2=>Enc.up (bH .here) (hro.2 j us x h1 h2)⟩ (Enc.up (bH (.there .here)) hT2)⟩ (Nat.sub_lt_sub_left hlt (Nat.lt_succ_self i))
 ·have hil:i=xs.length:=by
   have:¬ i<xs.length:=by simpa using hd
   omega
  subst hil
  rw [List.take_length] at hro
  refine aB (xE (xE (xY (xT (cQ (sM Z (sV (vA9 Z) (sN (nK9 [4] Z (nT (cT (dS (r:=VR w 216 4 rows) slq fun hok=>?_))))))))))))
  refine kz (fq (L:=[VR w 216 4 rows,T])) ?_
  simp only [lC,lN]
  have hls:Ls (Res.star [VR w 216 4 rows,T]) w xs:=Rws.ls (E:=216) ⟨hro.1,fun j us x h1 h2=>Enc.up (bH (.there .here)) (hro.2 j us x h1 h2)⟩ hok (bH .here) hsz
  exact aj Z ⟨Res.star [VR w 216 4 rows,T],Z,hls⟩ sbq
theorem Ic {xs:List Cla} {kf:FuncId} (hE:Ck.Enters prog kf) (hv:Ls X v xs) (hF:∀ a∈xs,∀ us,Enc.rep X us a→CtN prog kf #[.agg us.toArray] [X] fun u T=>∃ us':List Value,u = .agg us'.toArray∧Enc.rep T us' a):CtN prog 191 #[v,.func (.func kf) #[] #[]] [X] fun u T=>Ls T u xs:=by
 have hml:maxLen=9223372036854775807:=rfl
 have hrb:reachBytes=140737488351232:=rfl
 have hsz:xs.length * 72≤reachBytes:=hv.sizes
 obtain ⟨a,cap,rfl,hlc,hcm,hnone⟩:=hv.form
 refine aL (n:=22) func191 Z Z (len Z) fun hr w0=>?_
 refine cQ (sV (vA9 Z) (sN (nT (cQ (sV (vA9 Z) (sN (nT (cS (cQ (sM Z (sV (aF Z underlying42) (sM Z ?_))))))))))))
 refine sN (nK9 [1,4,5,8,9,10] Z (nT (cB (dK (cz 218 5) (dK (eD (L:=[])) (aZ (σ := Value×List (List Value)×Res×Nat) (fun q=>[(1,.func (.func kf) #[] #[]),(5,q.1),(8,.slice a xs.length cap),(9,.int .i64 xs.length),(10,.int .i64 (q.2.2.2:Nat))]) (fun q=>VR q.1 218 5 q.2.1::q.2.2.1::X::hr) (fun q=>q.2.2.2≤xs.length∧q.1.oneCell'=true∧Rws q.2.2.1 q.2.1 (xs.take q.2.2.2)) (fun q=>xs.length - q.2.2.2) (.slice none 0 0,[],Res.star [],0) ⟨Nat.zero_le _,Z,Rws.nil⟩ ?_))))))
 rintro ⟨w,rows,T,i⟩ ⟨hi,hw,hro⟩
 simp only at hi hw hro
 dsimp only
 refine cQ (sV (aO Z Z) (sN (nT (cS (cC Z (fun hd=>?_) (fun hd=>?_))))))
 ·have hlt:i<xs.length:=by simpa using hd
  have hg:=List.getElem?_eq_getElem hlt
  have hmem:=List.getElem_mem hlt
  have hsn:xs.take (i+1)=xs.take i++[xs[i]]:=List.take_succ_eq_append_getElem hlt
  obtain ⟨b,o,cap2,us,e1,hus,hrd,ht⟩:=hv.at hg
  cases e1
  generalize xs[i]=x at hg hmem ht hsn
  have hone:=Enc.ones ht
  have hrl:rows.length=i:=by rw [hro.1,List.length_take]; omega
  refine cK9 (xT (cS (cB (cQ (sV (vI (k:=i) Z Z sl42 Z hlt Z) (sV (ag Z yw hus hrd) ?_))))))
  refine au JJ fun b7=>?_
  refine ai (hl:=by rw [hus]; rfl) Z Z BV hus hone ?_
  refine sN (nK9 [1,5,7,8,9,10] Z (nT (cR (sM Z (sM Z (sV (ag Z yw hus af) ?_))))))
  refine aH Z Z hE Z ((hF x hmem us ht)) ?_
  rintro u h' ⟨T2,rfl,us2,rfl,hT2⟩
  simp only [lC,lN]
  have hl2:us2.length=5:=Enc.len hT2
  have ho2:=Enc.ones hT2
  obtain ⟨c0,c1,c2,c3,c4,rfl⟩:=len5 hl2
  refine ak (cells:=[c0,c1,c2,c3,c4]) Z underlying42 MQ Z Z (by kernel_rfl) (ltn Z) fun b62=>?_
  refine dU [[c0,c1,c2,c3,c4]] Z Z underlying42 MQ Z (by decide) (show Sel _ (VR w 218 5 rows) _ from slq) (by simp) Z (fun j u2 hu2=>bP (bU (by simpa using hu2))) (by simpa using ho2) (by rw [hrl]; omega) (by rw [hrl]; omega) (ltn Z) fun w2 hw2 _=>?_
  refine sV (vA9 Z) (sN (nK9 [1,5,8,9,10] Z (ax (xB (xT (cR (sV (aI Z Z (by unfold I64 at *; omega)) (sM Z (sN (nK9 [1,5,8,9,10] Z (ax (kz (fq (L:=[T,T2])) ?_))))))))))))
  simp only [lC,lN]
  refine aJ (w2,rows++[[c0,c1,c2,c3,c4]],Res.star [T,T2],i+1) ⟨hlt,hw2,by rw [hsn]; exact Rws.snoc ⟨hro.1,fun j us x h1 h2=>Enc.up (bH .here) (hro.2 j us x h1 h2)⟩ (Enc.up (bH (.there .here)) hT2)⟩ (Nat.sub_lt_sub_left hlt (Nat.lt_succ_self i))
 ·have hil:i=xs.length:=by
   have:¬ i<xs.length:=by simpa using hd
   omega
  subst hil
  rw [List.take_length] at hro
  refine aB (xE (xE (xY (xT (cQ (sM Z (sV (vA9 Z) (sN (nK9 [4] Z (nT (cT (dS (r:=VR w 218 5 rows) slq fun hok=>?_))))))))))))
  refine kz (fq (L:=[VR w 218 5 rows,T])) ?_
  simp only [lC,lN]
  have hls:Ls (Res.star [VR w 218 5 rows,T]) w xs:=Rws.ls (E:=218) ⟨hro.1,fun j us x h1 h2=>Enc.up (bH (.there .here)) (hro.2 j us x h1 h2)⟩ hok (bH .here) hsz
  exact aj Z ⟨Res.star [VR w 218 5 rows,T],Z,hls⟩ sbq
theorem tK {xs:List Grp} {kf:FuncId} (hE:Ck.Enters prog kf) (hv:Ls X v xs) (hF:∀ a∈xs,∀ us,Enc.rep X us a→CtN prog kf #[.agg us.toArray] [X] fun u T=>∃ us':List Value,u = .agg us'.toArray∧Enc.rep T us' a):CtN prog 120 #[v,.func (.func kf) #[] #[]] [X] fun u T=>Ls T u xs:=by
 have hml:maxLen=9223372036854775807:=rfl
 have hrb:reachBytes=140737488351232:=rfl
 have hsz:xs.length * 40≤reachBytes:=hv.sizes
 obtain ⟨a,cap,rfl,hlc,hcm,hnone⟩:=hv.form
 refine aL (n:=22) func120 Z Z (len Z) fun hr w0=>?_
 refine cQ (sV (vA9 Z) (sN (nT (cQ (sV (vA9 Z) (sN (nT (cS (cQ (sM Z (sV (aF Z underlying53) (sM Z ?_))))))))))))
 refine sN (nK9 [1,4,5,8,9,10] Z (nT (cB (dK (cz 170 2) (dK (eD (L:=[])) (aZ (σ := Value×List (List Value)×Res×Nat) (fun q=>[(1,.func (.func kf) #[] #[]),(5,q.1),(8,.slice a xs.length cap),(9,.int .i64 xs.length),(10,.int .i64 (q.2.2.2:Nat))]) (fun q=>VR q.1 170 2 q.2.1::q.2.2.1::X::hr) (fun q=>q.2.2.2≤xs.length∧q.1.oneCell'=true∧Rws q.2.2.1 q.2.1 (xs.take q.2.2.2)) (fun q=>xs.length - q.2.2.2) (.slice none 0 0,[],Res.star [],0) ⟨Nat.zero_le _,Z,Rws.nil⟩ ?_))))))
 rintro ⟨w,rows,T,i⟩ ⟨hi,hw,hro⟩
 simp only at hi hw hro
 dsimp only
 refine cQ (sV (aO Z Z) (sN (nT (cS (cC Z (fun hd=>?_) (fun hd=>?_))))))
 ·have hlt:i<xs.length:=by simpa using hd
  have hg:=List.getElem?_eq_getElem hlt
  have hmem:=List.getElem_mem hlt
  have hsn:xs.take (i+1)=xs.take i++[xs[i]]:=List.take_succ_eq_append_getElem hlt
  obtain ⟨b,o,cap2,us,e1,hus,hrd,ht⟩:=hv.at hg
  cases e1
  generalize xs[i]=x at hg hmem ht hsn
  have hone:=Enc.ones ht
  have hrl:rows.length=i:=by rw [hro.1,List.length_take]; omega
  refine cK9 (xT (cS (cB (cQ (sV (vI (k:=i) Z Z sl53 Z hlt Z) (sV (ag Z uQ hus hrd) ?_))))))
  refine au al170 fun b7=>?_
  refine ai (hl:=by rw [hus]; rfl) Z Z EP hus hone ?_
  refine sN (nK9 [1,5,7,8,9,10] Z (nT (cR (sM Z (sM Z (sV (ag Z uQ hus af) ?_))))))
  refine aH Z Z hE Z ((hF x hmem us ht)) ?_
  rintro u h' ⟨T2,rfl,us2,rfl,hT2⟩
  simp only [lC,lN]
  have hl2:us2.length=2:=Enc.len hT2
  have ho2:=Enc.ones hT2
  obtain ⟨c0,c1,rfl⟩:=len2 hl2
  refine ak (cells:=[c0,c1]) Z underlying53 mO Z Z (by kernel_rfl) (ltn Z) fun b62=>?_
  refine dU [[c0,c1]] Z Z underlying53 mO Z (by decide) (show Sel _ (VR w 170 2 rows) _ from slq) (by simp) Z (fun j u2 hu2=>bP (bU (by simpa using hu2))) (by simpa using ho2) (by rw [hrl]; omega) (by rw [hrl]; omega) (ltn Z) fun w2 hw2 _=>?_
  refine sV (vA9 Z) (sN (nK9 [1,5,8,9,10] Z (ax (xB (xT (cR (sV (aI Z Z (by unfold I64 at *; omega)) (sM Z (sN (nK9 [1,5,8,9,10] Z (ax (kz (fq (L:=[T,T2])) ?_))))))))))))
  simp only [lC,lN]
  refine aJ (w2,rows++[[c0,c1]],Res.star [T,T2],i+1) ⟨hlt,hw2,by rw [hsn]; exact Rws.snoc ⟨hro.1,fun j us x h1 h2=>Enc.up (bH .here) (hro.2 j us x h1 h2)⟩ (Enc.up (bH (.there .here)) hT2)⟩ (Nat.sub_lt_sub_left hlt (Nat.lt_succ_self i))
 ·have hil:i=xs.length:=by
   have:¬ i<xs.length:=by simpa using hd
   omega
  subst hil
  rw [List.take_length] at hro
  refine aB (xE (xE (xY (xT (cQ (sM Z (sV (vA9 Z) (sN (nK9 [4] Z (nT (cT (dS (r:=VR w 170 2 rows) slq fun hok=>?_))))))))))))
  refine kz (fq (L:=[VR w 170 2 rows,T])) ?_
  simp only [lC,lN]
  have hls:Ls (Res.star [VR w 170 2 rows,T]) w xs:=Rws.ls (E:=170) ⟨hro.1,fun j us x h1 h2=>Enc.up (bH (.there .here)) (hro.2 j us x h1 h2)⟩ hok (bH .here) hsz
  exact aj Z ⟨Res.star [VR w 170 2 rows,T],Z,hls⟩ sbq
theorem Ie {xs:List Mb} {kf:FuncId} (hE:Ck.Enters prog kf) (hv:Ls X v xs) (hF:∀ a∈xs,∀ us,Enc.rep X us a→CtN prog kf #[.agg us.toArray] [X] fun u T=>∃ us':List Value,u = .agg us'.toArray∧Enc.rep T us' a):CtN prog 119 #[v,.func (.func kf) #[] #[]] [X] fun u T=>Ls T u xs:=by
 have hml:maxLen=9223372036854775807:=rfl
 have hrb:reachBytes=140737488351232:=rfl
 have hsz:xs.length * 232≤reachBytes:=hv.sizes
 obtain ⟨a,cap,rfl,hlc,hcm,hnone⟩:=hv.form
 refine aL (n:=22) func119 Z Z (len Z) fun hr w0=>?_
 refine cQ (sV (vA9 Z) (sN (nT (cQ (sV (vA9 Z) (sN (nT (cS (cQ (sM Z (sV (aF Z underlying52) (sM Z ?_))))))))))))
 refine sN (nK9 [1,4,5,8,9,10] Z (nT (cB (dK (cz 75 14) (dK (eD (L:=[])) (aZ (σ := Value×List (List Value)×Res×Nat) (fun q=>[(1,.func (.func kf) #[] #[]),(5,q.1),(8,.slice a xs.length cap),(9,.int .i64 xs.length),(10,.int .i64 (q.2.2.2:Nat))]) (fun q=>VR q.1 75 14 q.2.1::q.2.2.1::X::hr) (fun q=>q.2.2.2≤xs.length∧q.1.oneCell'=true∧Rws q.2.2.1 q.2.1 (xs.take q.2.2.2)) (fun q=>xs.length - q.2.2.2) (.slice none 0 0,[],Res.star [],0) ⟨Nat.zero_le _,Z,Rws.nil⟩ ?_))))))
 rintro ⟨w,rows,T,i⟩ ⟨hi,hw,hro⟩
 simp only at hi hw hro
 dsimp only
 refine cQ (sV (aO Z Z) (sN (nT (cS (cC Z (fun hd=>?_) (fun hd=>?_))))))
 ·have hlt:i<xs.length:=by simpa using hd
  have hg:=List.getElem?_eq_getElem hlt
  have hmem:=List.getElem_mem hlt
  have hsn:xs.take (i+1)=xs.take i++[xs[i]]:=List.take_succ_eq_append_getElem hlt
  obtain ⟨b,o,cap2,us,e1,hus,hrd,ht⟩:=hv.at hg
  cases e1
  generalize xs[i]=x at hg hmem ht hsn
  have hone:=Enc.ones ht
  have hrl:rows.length=i:=by rw [hro.1,List.length_take]; omega
  refine cK9 (xT (cS (cB (cQ (sV (vI (k:=i) Z Z pW Z hlt Z) (sV (ag Z fB hus hrd) ?_))))))
  refine au jQ fun b7=>?_
  refine ai (hl:=by rw [hus]; rfl) Z Z iD hus hone ?_
  refine sN (nK9 [1,5,7,8,9,10] Z (nT (cR (sM Z (sM Z (sV (ag Z fB hus af) ?_))))))
  refine aH Z Z hE Z ((hF x hmem us ht)) ?_
  rintro u h' ⟨T2,rfl,us2,rfl,hT2⟩
  simp only [lC,lN]
  have hl2:us2.length=14:=Enc.len hT2
  have ho2:=Enc.ones hT2
  obtain ⟨c0,c1,c2,c3,c4,c5,c6,c7,c8,c9,c10,c11,c12,c13,rfl⟩:=len14 hl2
  refine ak (cells:=[c0,c1,c2,c3,c4,c5,c6,c7,c8,c9,c10,c11,c12,c13]) Z underlying52 uN Z Z (by kernel_rfl) (ltn Z) fun b62=>?_
  refine dU [[c0,c1,c2,c3,c4,c5,c6,c7,c8,c9,c10,c11,c12,c13]] Z Z underlying52 uN Z (by decide) (show Sel _ (VR w 75 14 rows) _ from slq) (by simp) Z (fun j u2 hu2=>bP (bU (by simpa using hu2))) (by simpa using ho2) (by rw [hrl]; omega) (by rw [hrl]; omega) (ltn Z) fun w2 hw2 _=>?_
  refine sV (vA9 Z) (sN (nK9 [1,5,8,9,10] Z (ax (xB (xT (cR (sV (aI Z Z (by unfold I64 at *; omega)) (sM Z (sN (nK9 [1,5,8,9,10] Z (ax (kz (fq (L:=[T,T2])) ?_))))))))))))
  simp only [lC,lN]
  refine aJ (w2,rows++[[c0,c1,c2,c3,c4,c5,c6,c7,c8,c9,c10,c11,c12,c13]],Res.star [T,T2],i+1) ⟨hlt,hw2,by rw [hsn]; exact Rws.snoc ⟨hro.1,fun j us x h1 h2=>Enc.up (bH .here) (hro.2 j us x h1 h2)⟩ (Enc.up (bH (.there .here)) hT2)⟩ (Nat.sub_lt_sub_left hlt (Nat.lt_succ_self i))
 ·have hil:i=xs.length:=by
   have:¬ i<xs.length:=by simpa using hd
   omega
  subst hil
  rw [List.take_length] at hro
  refine aB (xE (xE (xY (xT (cQ (sM Z (sV (vA9 Z) (sN (nK9 [4] Z (nT (cT (dS (r:=VR w 75 14 rows) slq fun hok=>?_))))))))))))
  refine kz (fq (L:=[VR w 75 14 rows,T])) ?_
  simp only [lC,lN]
  have hls:Ls (Res.star [VR w 75 14 rows,T]) w xs:=Rws.ls (E:=75) ⟨hro.1,fun j us x h1 h2=>Enc.up (bH (.there .here)) (hro.2 j us x h1 h2)⟩ hok (bH .here) hsz
  exact aj Z ⟨Res.star [VR w 75 14 rows,T],Z,hls⟩ sbq
theorem FQ:∀ (d:Nat) (X:Res) (t:Kt) (us:List Value),t.depth≤d→Ty X us t→CtN prog 114 #[.agg us.toArray] [X] fun u T=>∃ us':List Value,u = .agg us'.toArray∧Ty T us' t
 | 0,_,s,_,hd,_=>by cases s; simp [Kt.depth] at hd
 | d+1,X,t,us,hd,hs=>by
  obtain ⟨x,rfl,hx⟩:=ek hs
  have hF:∀ a∈t.args,∀ us,Ty X us a→CtN prog 114 #[.agg us.toArray] [X] fun u T=>∃ us':List Value,u = .agg us'.toArray∧Ty T us' a:=fun a ha us h=>FQ d X a us (by have:=jF ha; omega) h
  obtain ⟨xa,xc,rfl,_⟩:=id hx.form
  unfold tyC
  refine aL (n:=8) func114 Z Z (len Z) fun hr w0=>?_
  refine cQ (aV Z Z fun b1=>?_)
  refine au Aa fun b2=>?_
  refine sN (nK9 [1,2] Z (nT (cQ (sV (vF Z iN Z) (sV (vY Z oG) ?_)))))
  refine aH Z Z en184 Z (H9 JL hx hF) ?_
  rintro u h' ⟨T,rfl,hT⟩
  simp only [lC,lN]
  obtain ⟨ua,uc,rfl,_⟩:=id hT.form
  refine sV (vF Z iN Z) (aX Z Z sz71 ?_)
  refine sN (nK9 [1,2] Z (nT (cQ (sV (ag Z fQ Z af) ?_))))
  refine ai Z Z nD Z Z ?_
  refine sN (nK9 [2] Z (nT (cT ?_)))
  exact bC (.cellN Z fQ Z slq .nil) ⟨T,Z,_,Z,gN (t:=t) Z hT⟩ sbr
theorem AA {t:Kt} (h:Ty X us t):CtN prog 114 #[.agg us.toArray] [X] fun u T=>∃ us':List Value,u = .agg us'.toArray∧Ty T us' t:=FQ t.depth X t us (Nat.le_refl _) h
theorem FR:∀ (d:Nat) (X:Res) (t:Ex) (us:List Value),t.depth≤d→Enc.rep X us t→CtN prog 247 #[.agg us.toArray] [X] fun u T=>∃ us':List Value,u = .agg us'.toArray∧Enc.rep T us' t
 | 0,_,s,_,hd,_=>by cases s; simp [Ex.depth] at hd
 | d+1,X,t,us,hd,hs=>by
  obtain ⟨x,rfl,hx⟩:=tF hs
  have hF:∀ a∈t.kids,∀ us,Enc.rep X us a→CtN prog 247 #[.agg us.toArray] [X] fun u T=>∃ us':List Value,u = .agg us'.toArray∧Enc.rep T us' a:=fun a ha us h=>FR d X a us (by have:=sQ ha; omega) h
  obtain ⟨xa,xc,rfl,_⟩:=id hx.form
  unfold exC
  refine aL (n:=8) func247 Z Z (len Z) fun hr w0=>?_
  refine cQ (aV Z Z fun b1=>?_)
  refine au JI fun b2=>?_
  refine sN (nK9 [1,2] Z (nT (cQ (sV (vF Z rA Z) (sV (vY Z EQ) ?_)))))
  refine aH Z Z en280 Z (Ib en247 hx hF) ?_
  rintro u h' ⟨T,rfl,hT⟩
  simp only [lC,lN]
  obtain ⟨ua,uc,rfl,_⟩:=id hT.form
  refine sV (vF Z rA Z) (aX Z Z sz214 ?_)
  refine sN (nK9 [1,2] Z (nT (cQ (sV (ag Z nI Z af) ?_))))
  refine ai Z Z zU Z Z ?_
  refine sN (nK9 [2] Z (nT (cT ?_)))
  exact bC (.cellN Z nI Z slq .nil) ⟨T,Z,_,Z,Cy (t:=t) Z hT⟩ sbr
theorem NF {t:Ex} (h:Enc.rep X us t):CtN prog 247 #[.agg us.toArray] [X] fun u T=>∃ us':List Value,u = .agg us'.toArray∧Enc.rep T us' t:=FR t.depth X t us (Nat.le_refl _) h
theorem NG {a:Vr} (h:Enc.rep X us a):CtN prog 176 #[.agg us.toArray] [X] fun u T=>∃ us':List Value,u = .agg us'.toArray∧Enc.rep T us' a:=by
 obtain ⟨x,rfl,hx⟩:=Ea h
 obtain ⟨xa,xc,rfl,_⟩:=id hx.form
 have hc:=AA (gN (t:=a.ty) rfl hx)
 unfold tyC at hc
 refine aL (n:=8) func176 Z Z (len Z) fun hr w0=>?_
 refine cQ (aV Z Z fun b1=>?_)
 refine au JH fun b2=>?_
 refine sN (nK9 [1,2] Z (nT (cQ (sV (vF Z mg Z) (sV (ag Z fQ Z (bF (us:=[sv a.name,.int .i64 a.ty.kind,sv a.ty.name,.slice xa a.ty.args.length xc,.bool a.ty.void,.bool a.ty.sep]) (vs:=[.int .i64 a.ty.kind,sv a.ty.name,.slice xa a.ty.args.length xc,.bool a.ty.void,.bool a.ty.sep]) (k:=1) af Z)) ?_)))))
 refine aH Z Z JL Z (hc) ?_
 rintro u h' ⟨T,rfl,us',rfl,hT⟩
 simp only [lC,lN]
 obtain ⟨y,rfl,hy⟩:=ek hT
 obtain ⟨ya,yc,rfl,_⟩:=id hy.form
 unfold tyC
 refine sV (vF rfl mg rfl) (ig rfl rfl nD rfl (fun u hu=>by simp at hu; rcases hu with rfl | rfl | rfl | rfl | rfl <;> rfl) (show Sel _ (pt b1 (cl [sv a.name,.int .i64 a.ty.kind,sv a.ty.name,.slice xa a.ty.args.length xc,.bool a.ty.void,.bool a.ty.sep] 132)) _ from slq) (by simp) ?_)
 rw [show splice [sv a.name,.int .i64 a.ty.kind,sv a.ty.name,.slice xa a.ty.args.length xc,.bool a.ty.void,.bool a.ty.sep] (0+1) [.int .i64 a.ty.kind,sv a.ty.name,.slice ya a.ty.args.length yc,.bool a.ty.void,.bool a.ty.sep]=[sv a.name,.int .i64 a.ty.kind,sv a.ty.name,.slice ya a.ty.args.length yc,.bool a.ty.void,.bool a.ty.sep] from rfl]
 refine sN (nK9 [1,2] Z (nT (cQ (sV (ag Z uP Z af) ?_))))
 refine ai Z Z BU Z Z ?_
 refine sN (nK9 [2] Z (nT (cT ?_)))
 exact bC (.cellN Z uP Z slq .nil) ⟨T,Z,_,Z,_,Z,gN (t:=a.ty) Z hy⟩ sbr
theorem NH {a:Cla} (h:Enc.rep X us a):CtN prog 192 #[.agg us.toArray] [X] fun u T=>∃ us':List Value,u = .agg us'.toArray∧Enc.rep T us' a:=by
 obtain ⟨x,rfl,hx⟩:=Eb h
 obtain ⟨xa,xc,rfl,_⟩:=id hx.form
 have hc:=NF (Cy (t:=a.ex) rfl hx)
 unfold exC at hc
 refine aL (n:=8) func192 Z Z (len Z) fun hr w0=>?_
 refine cQ (aV Z Z fun b1=>?_)
 refine au JJ fun b2=>?_
 refine sN (nK9 [1,2] Z (nT (cQ (sV (vF Z uV Z) (sV (ag Z nI Z (bF (us:=[sv a.tag,.int .i64 a.ex.kind,sv a.ex.name,.int .i64 a.ex.num,.slice xa a.ex.kids.length xc]) (vs:=[.int .i64 a.ex.kind,sv a.ex.name,.int .i64 a.ex.num,.slice xa a.ex.kids.length xc]) (k:=1) af Z)) ?_)))))
 refine aH Z Z en247 Z (hc) ?_
 rintro u h' ⟨T,rfl,us',rfl,hT⟩
 simp only [lC,lN]
 obtain ⟨y,rfl,hy⟩:=tF hT
 obtain ⟨ya,yc,rfl,_⟩:=id hy.form
 unfold exC
 refine sV (vF rfl uV rfl) (ig rfl rfl zU rfl (fun u hu=>by simp at hu; rcases hu with rfl | rfl | rfl | rfl <;> rfl) (show Sel _ (pt b1 (cl [sv a.tag,.int .i64 a.ex.kind,sv a.ex.name,.int .i64 a.ex.num,.slice xa a.ex.kids.length xc] 218)) _ from slq) (by simp) ?_)
 rw [show splice [sv a.tag,.int .i64 a.ex.kind,sv a.ex.name,.int .i64 a.ex.num,.slice xa a.ex.kids.length xc] (0+1) [.int .i64 a.ex.kind,sv a.ex.name,.int .i64 a.ex.num,.slice ya a.ex.kids.length yc]=[sv a.tag,.int .i64 a.ex.kind,sv a.ex.name,.int .i64 a.ex.num,.slice ya a.ex.kids.length yc] from rfl]
 refine sN (nK9 [1,2] Z (nT (cQ (sV (ag Z yw Z af) ?_))))
 refine ai Z Z BV Z Z ?_
 refine sN (nK9 [2] Z (nT (cT ?_)))
 exact bC (.cellN Z yw Z slq .nil) ⟨T,Z,_,Z,_,Z,Cy (t:=a.ex) Z hy⟩ sbr
theorem AB {a:Grp} (h:Enc.rep X us a):CtN prog 121 #[.agg us.toArray] [X] fun u T=>∃ us':List Value,u = .agg us'.toArray∧Enc.rep T us' a:=by
 obtain ⟨x,rfl,hx⟩:=h
 obtain ⟨xa,xc,rfl,_⟩:=id hx.form
 refine aL (n:=8) func121 Z Z (len Z) fun hr w0=>?_
 refine cQ (aV Z Z fun b1=>?_)
 refine au al170 fun b2=>?_
 refine sN (nK9 [1,2] Z (nT (cQ (sV (vF Z zg Z) (sV (vY Z wT) ?_)))))
 refine aH Z Z en191 Z (Ic en192 hx fun _ _ _ h=>NH h) ?_
 rintro u h' ⟨T,rfl,hT⟩
 simp only [lC,lN]
 obtain ⟨ya,yc,rfl,_⟩:=id hT.form
 refine sV (vF Z zg Z) (aX Z Z sz42 ?_)
 refine sN (nK9 [1,2] Z (nT (cQ (sV (ag Z uQ Z af) ?_))))
 refine ai Z Z EP Z Z ?_
 refine sN (nK9 [2] Z (nT (cT ?_)))
 exact bC (.cellN Z uQ Z slq .nil) ⟨T,Z,_,Z,_,Z,hT⟩ sbr
theorem FT {xs:List Sd} (hv:Ls X v xs):CtN prog 163 #[v] [X] fun u T=>∃ rows,T=VR u 69 2 rows∧u.oneCell'=true∧Rws X rows xs:=by
 have hrb:reachBytes=140737488351232:=rfl
 have hsz:xs.length * 32≤reachBytes:=hv.sizes
 obtain ⟨a,cap,rfl,hlc,hcm,hnone⟩:=hv.form
 refine aL (n:=8) func163 Z Z (len Z) fun hr w0=>?_
 refine cQ (sV (vA9 Z) (sN (nT (cS (cQ (sM Z (sV (dE Z Z underlying67) (sN (nK9 [0,2,4] Z (nT ?_))))))))))
 cases a with
 | none =>
  refine aT Z ?_
  refine cQ (sV (vA9 Z) (sN (nK9 [2] Z (nT (cT (xR (jv (cz 69 2) ?_)))))))
  have hx0:xs=[]:=List.eq_nil_of_length_eq_zero (by have:=hnone rfl; omega)
  exact aj Z ⟨_,Z,[],Z,Z,by rw [hx0]; exact Rws.nil⟩ sbq
 | some a =>
  refine aG Z ?_
  refine cK9 (xT (cQ (Ae underlying67 BX fun b5=>?_)))
  refine sM Z (qW hv.1 Z Z underlying67 BX Z (by decide) (show Sel _ (VR (.slice (some ⟨b5,0,none⟩) 0 0) 69 2 []) _ from slq) (show Sel _ X _ from slq) (fun us x _ h=>List.all_eq_true.1 (Enc.ones h)) (by simp <;> omega) (by simp <;> omega) (ltn Z) fun v7 n1 hv7 q1 q2 q3=>?_)
  refine sV (vA9 Z) (sN (nK9 [2] Z (nT (cT ?_))))
  exact aj Z ⟨_,Z,n1,Z,hv7,q1,q3⟩ sbq
theorem mD {xs:List Nm} (hv:Ls X v xs):CtN prog 174 #[v] [X] fun u T=>∃ rows,T=VR u 9 1 rows∧u.oneCell'=true∧Rws X rows xs:=by
 have hrb:reachBytes=140737488351232:=rfl
 have hsz:xs.length * 16≤reachBytes:=hv.sizes
 obtain ⟨a,cap,rfl,hlc,hcm,hnone⟩:=hv.form
 refine aL (n:=8) func174 Z Z (len Z) fun hr w0=>?_
 refine cQ (sV (vA9 Z) (sN (nT (cS (cQ (sM Z (sV (dE Z Z underlying40) (sN (nK9 [0,2,4] Z (nT ?_))))))))))
 cases a with
 | none =>
  refine aT Z ?_
  refine cQ (sV (vA9 Z) (sN (nK9 [2] Z (nT (cT (xR (jv (cz 9 1) ?_)))))))
  have hx0:xs=[]:=List.eq_nil_of_length_eq_zero (by have:=hnone rfl; omega)
  exact aj Z ⟨_,Z,[],Z,Z,by rw [hx0]; exact Rws.nil⟩ sbq
 | some a =>
  refine aG Z ?_
  refine cK9 (xT (cQ (Ae underlying40 fG fun b5=>?_)))
  refine sM Z (qW hv.1 Z Z underlying40 fG Z (by decide) (show Sel _ (VR (.slice (some ⟨b5,0,none⟩) 0 0) 9 1 []) _ from slq) (show Sel _ X _ from slq) (fun us x _ h=>List.all_eq_true.1 (Enc.ones h)) (by simp <;> omega) (by simp <;> omega) (ltn Z) fun v7 n1 hv7 q1 q2 q3=>?_)
  refine sV (vA9 Z) (sN (nK9 [2] Z (nT (cT ?_))))
  exact aj Z ⟨_,Z,n1,Z,hv7,q1,q3⟩ sbq
theorem qX {xs:List Vr} (hv:Ls X v xs):CtN prog 200 #[v] [X] fun u T=>∃ rows,T=VR u 132 6 rows∧u.oneCell'=true∧Rws X rows xs:=by
 have hrb:reachBytes=140737488351232:=rfl
 have hsz:xs.length * 72≤reachBytes:=hv.sizes
 obtain ⟨a,cap,rfl,hlc,hcm,hnone⟩:=hv.form
 refine aL (n:=8) func200 Z Z (len Z) fun hr w0=>?_
 refine cQ (sV (vA9 Z) (sN (nT (cS (cQ (sM Z (sV (dE Z Z underlying70) (sN (nK9 [0,2,4] Z (nT ?_))))))))))
 cases a with
 | none =>
  refine aT Z ?_
  refine cQ (sV (vA9 Z) (sN (nK9 [2] Z (nT (cT (xR (jv (cz 132 6) ?_)))))))
  have hx0:xs=[]:=List.eq_nil_of_length_eq_zero (by have:=hnone rfl; omega)
  exact aj Z ⟨_,Z,[],Z,Z,by rw [hx0]; exact Rws.nil⟩ sbq
 | some a =>
  refine aG Z ?_
  refine cK9 (xT (cQ (Ae underlying70 Dy fun b5=>?_)))
  refine sM Z (qW hv.1 Z Z underlying70 Dy Z (by decide) (show Sel _ (VR (.slice (some ⟨b5,0,none⟩) 0 0) 132 6 []) _ from slq) (show Sel _ X _ from slq) (fun us x _ h=>List.all_eq_true.1 (Enc.ones h)) (by simp <;> omega) (by simp <;> omega) (ltn Z) fun v7 n1 hv7 q1 q2 q3=>?_)
  refine sV (vA9 Z) (sN (nK9 [2] Z (nT (cT ?_))))
  exact aj Z ⟨_,Z,n1,Z,hv7,q1,q3⟩ sbq
theorem FU {xs:List Cm} (hv:Ls X v xs):CtN prog 262 #[v] [X] fun u T=>∃ rows,T=VR u 191 18 rows∧u.oneCell'=true∧Rws X rows xs:=by
 have hrb:reachBytes=140737488351232:=rfl
 have hsz:xs.length * 280≤reachBytes:=hv.sizes
 obtain ⟨a,cap,rfl,hlc,hcm,hnone⟩:=hv.form
 refine aL (n:=8) func262 Z Z (len Z) fun hr w0=>?_
 refine cQ (sV (vA9 Z) (sN (nT (cS (cQ (sM Z (sV (dE Z Z underlying187) (sN (nK9 [0,2,4] Z (nT ?_))))))))))
 cases a with
 | none =>
  refine aT Z ?_
  refine cQ (sV (vA9 Z) (sN (nK9 [2] Z (nT (cT (xR (jv (cz 191 18) ?_)))))))
  have hx0:xs=[]:=List.eq_nil_of_length_eq_zero (by have:=hnone rfl; omega)
  exact aj Z ⟨_,Z,[],Z,Z,by rw [hx0]; exact Rws.nil⟩ sbq
 | some a =>
  refine aG Z ?_
  refine cK9 (xT (cQ (Ae underlying187 zV fun b5=>?_)))
  refine sM Z (qW hv.1 Z Z underlying187 zV Z (by decide) (show Sel _ (VR (.slice (some ⟨b5,0,none⟩) 0 0) 191 18 []) _ from slq) (show Sel _ X _ from slq) (fun us x _ h=>List.all_eq_true.1 (Enc.ones h)) (by simp <;> omega) (by simp <;> omega) (ltn Z) fun v7 n1 hv7 q1 q2 q3=>?_)
  refine sV (vA9 Z) (sN (nK9 [2] Z (nT (cT ?_))))
  exact aj Z ⟨_,Z,n1,Z,hv7,q1,q3⟩ sbq
theorem FV {xs:List Mb} (hv:Ls X v xs):CtN prog 160 #[v] [X] fun u T=>∃ rows,T=VR u 75 14 rows∧u.oneCell'=true∧Rws X rows xs:=by
 have hrb:reachBytes=140737488351232:=rfl
 have hsz:xs.length * 232≤reachBytes:=hv.sizes
 obtain ⟨a,cap,rfl,hlc,hcm,hnone⟩:=hv.form
 refine aL (n:=8) func160 Z Z (len Z) fun hr w0=>?_
 refine cQ (sV (vA9 Z) (sN (nT (cS (cQ (sM Z (sV (dE Z Z underlying52) (sN (nK9 [0,2,4] Z (nT ?_))))))))))
 cases a with
 | none =>
  refine aT Z ?_
  refine cQ (sV (vA9 Z) (sN (nK9 [2] Z (nT (cT (xR (jv (cz 75 14) ?_)))))))
  have hx0:xs=[]:=List.eq_nil_of_length_eq_zero (by have:=hnone rfl; omega)
  exact aj Z ⟨_,Z,[],Z,Z,by rw [hx0]; exact Rws.nil⟩ sbq
 | some a =>
  refine aG Z ?_
  refine cK9 (xT (cQ (Ae underlying52 uN fun b5=>?_)))
  refine sM Z (qW hv.1 Z Z underlying52 uN Z (by decide) (show Sel _ (VR (.slice (some ⟨b5,0,none⟩) 0 0) 75 14 []) _ from slq) (show Sel _ X _ from slq) (fun us x _ h=>List.all_eq_true.1 (Enc.ones h)) (by simp <;> omega) (by simp <;> omega) (ltn Z) fun v7 n1 hv7 q1 q2 q3=>?_)
  refine sV (vA9 Z) (sN (nK9 [2] Z (nT (cT ?_))))
  exact aj Z ⟨_,Z,n1,Z,hv7,q1,q3⟩ sbq
end
section
variable {X:Res} {v v':Value} {us us':List Value}
theorem NI {m:Mb} (h:Enc.rep X us m):CtN prog 99 #[.agg us.toArray] [X] fun u T=>∃ us':List Value,u = .agg us'.toArray∧Enc.rep T us' m:=by
 obtain ⟨x2,x5,xy,x11,x12,x13,rfl,hx2,hx5,hxy,hx11,hx12,hx13⟩:=dJ h
 obtain ⟨a2,k2,rfl,_⟩:=id hx2.form
 obtain ⟨a5,k5,rfl,_⟩:=id hx5.form
 obtain ⟨ay,ky,rfl,_⟩:=id hxy.form
 obtain ⟨a11,k11,rfl,_⟩:=id hx11.form
 obtain ⟨a12,k12,rfl,_⟩:=id hx12.form
 obtain ⟨a13,k13,rfl,_⟩:=id hx13.form
 have hc:=AA (gN (t:=m.ty) rfl hxy)
 unfold tyC at hc
 unfold ik
 refine aL (n:=28) func99 Z Z (len Z) fun hr w0=>?_
 refine cQ (aV Z Z fun b1=>?_)
 refine au jQ fun b2=>?_
 refine sN (nK9 [1,2] Z (nT (cS (bB (ork [(0,2),(1,1),(3,2),(4,1),(6,2),(7,1),(9,2),(10,1),(2,0),(12,2),(5,0),(8,0),(11,0),(13,0),(14,2),(15,0),(16,2),(17,0),(18,2),(19,0)] .nil) (fun i => !(Nat.beq i 11 || Nat.beq i 13 || Nat.beq i 15 || Nat.beq i 17 || Nat.beq i 19)) mixed (by kernel_rfl) ?_))))
 refine dV Z (vF Z eO Z) (bu Z (vY Z qz) ?_)
 refine dV Z (vF Z MW Z) (bu Z (vY Z fH) ?_)
 refine dV Z (vF Z ll Z) (bu Z (vY Z sF) ?_)
 refine dV Z (vF Z qE Z) (bu Z (ag Z fQ Z (bF (us:=[sv m.name,.int .i64 m.kind,.slice a2 m.seeds.length k2,sv m.impl.cls,sv m.impl.name,.slice a5 m.args.length k5,.int .i64 m.ty.kind,sv m.ty.name,.slice ay m.ty.args.length ky,.bool m.ty.void,.bool m.ty.sep,.slice a11 m.clients.length k11,.slice a12 m.pre.length k12,.slice a13 m.post.length k13]) (vs:=[.int .i64 m.ty.kind,sv m.ty.name,.slice ay m.ty.args.length ky,.bool m.ty.void,.bool m.ty.sep]) (k:=6) af Z)) ?_)
 refine aQ Z (aH Z Z en163 Z (FT hx2) ?_)
 rintro u1 h' ⟨T1,rfl,r1,rfl,o1,w1⟩
 simp only [lC,lN]
 refine aW ?_
 refine dV Z (vF Z eO Z) (aQ Z (aH Z Z JO Z (mD hx11) ?_))
 rintro u2 h' ⟨T2,rfl,r2,rfl,o2,w2⟩
 simp only [lC,lN]
 refine aW ?_
 refine aQ Z (aH Z Z en175 Z (Ia en176 hx5 fun _ _ _ h=>NG h) ?_)
 rintro u3 h' ⟨T3,rfl,hT3⟩
 simp only [lC,lN]
 refine aW ?_
 refine aQ Z (aH Z Z JL Z (hc) ?_)
 rintro u4 h' ⟨T4,rfl,us4,rfl,hT4⟩
 simp only [lC,lN]
 obtain ⟨y,rfl,hy⟩:=ek hT4
 obtain ⟨ya,yc,rfl,_⟩:=id hy.form
 unfold tyC
 obtain ⟨a3,k3,rfl,_⟩:=id hT3.form
 refine aW ?_
 refine aQ Z (aX Z Z EO (aW ?_))
 refine dV Z (vF Z MW Z) (aQ Z (aX Z Z yQ (aW ?_)))
 refine dV Z (vF Z ll Z) (aQ Z (aX Z Z sz70 (aW ?_)))
 refine dV rfl (vF rfl qE rfl) (aQ rfl (ig rfl rfl nD rfl (fun u hu=>by simp at hu; rcases hu with rfl | rfl | rfl | rfl | rfl <;> rfl) (show Sel _ (pt b1 (cl [sv m.name,.int .i64 m.kind,u1,sv m.impl.cls,sv m.impl.name,.slice a3 m.args.length k3,.int .i64 m.ty.kind,sv m.ty.name,.slice ay m.ty.args.length ky,.bool m.ty.void,.bool m.ty.sep,u2,.slice a12 m.pre.length k12,.slice a13 m.post.length k13] 75)) _ from slq) (by simp) (aW ?_)))
 rw [show splice [sv m.name,.int .i64 m.kind,u1,sv m.impl.cls,sv m.impl.name,.slice a3 m.args.length k3,.int .i64 m.ty.kind,sv m.ty.name,.slice ay m.ty.args.length ky,.bool m.ty.void,.bool m.ty.sep,u2,.slice a12 m.pre.length k12,.slice a13 m.post.length k13] (0+6) [.int .i64 m.ty.kind,sv m.ty.name,.slice ya m.ty.args.length yc,.bool m.ty.void,.bool m.ty.sep]=[sv m.name,.int .i64 m.kind,u1,sv m.impl.cls,sv m.impl.name,.slice a3 m.args.length k3,.int .i64 m.ty.kind,sv m.ty.name,.slice ya m.ty.args.length yc,.bool m.ty.void,.bool m.ty.sep,u2,.slice a12 m.pre.length k12,.slice a13 m.post.length k13] from rfl]
 refine bA (nK9 [1,2] Z (nT (cS (bB (ork [(0,2),(1,1),(3,2),(4,1),(2,0),(6,2),(5,0),(7,0),(8,2),(9,0)] .nil) (fun i => !(Nat.beq i 5 || Nat.beq i 7 || Nat.beq i 9)) mixed (by kernel_rfl) ?_))))
 refine dV Z (vF Z jD Z) (bu Z (vY Z zW) ?_)
 refine dV Z (vF Z jE Z) (bu Z (vY Z zW) ?_)
 refine aQ Z (aH Z Z en120 Z (tK en121 hx12 fun _ _ _ h=>AB h) ?_)
 rintro u5 h' ⟨T5,rfl,hT5⟩
 simp only [lC,lN]
 obtain ⟨a6,k6,rfl,_⟩:=id hT5.form
 refine aW ?_
 refine dV Z (vF Z jD Z) (aQ Z (aH Z Z en120 Z (tK en121 hx13 fun _ _ _ h=>AB h) ?_))
 rintro u7 h' ⟨T7,rfl,hT7⟩
 simp only [lC,lN]
 obtain ⟨a8,k8,rfl,_⟩:=id hT7.form
 refine aW ?_
 refine aQ Z (aX Z Z mM (aW ?_))
 refine dV Z (vF Z jE Z) (aQ Z (aX Z Z mM (aW ?_)))
 refine bA (nK9 [1,2] Z (nT (cQ (sV (ag Z fB Z af) ?_))))
 have hone2:([sv m.name,.int .i64 m.kind,u1,sv m.impl.cls,sv m.impl.name,.slice a3 m.args.length k3,.int .i64 m.ty.kind,sv m.ty.name,.slice ya m.ty.args.length yc,.bool m.ty.void,.bool m.ty.sep,u2,.slice a6 m.pre.length k6,.slice a8 m.post.length k8]:List Value).all Value.oneCell'=true:=by simp only [List.all_cons,List.all_nil,o1,o2,Bool.and_true,Bool.true_and]; rfl
 refine ai Z Z iD Z hone2 ?_
 refine sN (nK9 [2] Z (nT (cT (dS (r:=VR u1 69 2 r1) slq fun hok1=>?_))))
 refine dS (r:=VR u2 9 1 r2) slq fun hok2=>?_
 refine kz (fq (L:=[VR u1 69 2 r1,VR u2 9 1 r2,T3,T4,T5,T7])) ?_
 simp only [lC,lN]
 exact bC (.cellN Z fB Z slq .nil) ⟨Res.star [VR u1 69 2 r1,VR u2 9 1 r2,T3,T4,T5,T7],Z,_,Z,pU ⟨Rws.ls (E:=69) w1 hok1 (bH slq) hx2.sizes,hT3.up' (bH slq),hy.up' (bH slq),Rws.ls (E:=9) w2 hok2 (bH slq) hx11.sizes,hT5.up' (bH slq),hT7.up' (bH slq)⟩⟩ sbr
theorem CF {f:Fl} (h:Enc.rep X us f):CtN prog 55 #[.agg us.toArray] [X] fun u T=>∃ us':List Value,u = .agg us'.toArray∧Enc.rep T us' f:=by
 obtain ⟨x,y,rfl,hx,hy⟩:=h
 obtain ⟨xa,xc,rfl,_⟩:=id hx.form
 obtain ⟨ya,yc,rfl,_⟩:=id hy.form
 refine aL (n:=12) func55 Z Z (len Z) fun hr w0=>?_
 refine cQ (aV Z Z fun b1=>?_)
 refine au al55 fun b2=>?_
 refine sN (nK9 [1,2] Z (nT (cS (bB (ork [(0,2),(1,1),(3,2),(4,1),(2,0),(6,2),(5,0),(7,0),(8,2),(9,0)] .nil) (fun i => !(Nat.beq i 5 || Nat.beq i 7 || Nat.beq i 9)) mixed (by kernel_rfl) ?_))))
 refine dV Z (vF Z sH Z) (bu Z (vY Z uO) ?_)
 refine dV Z (vF Z DD Z) (bu Z (vY Z zW) ?_)
 refine aQ Z (aH Z Z en119 Z (Ie en99 hx fun _ _ _ h=>NI h) ?_)
 rintro u5 h' ⟨T5,rfl,hT5⟩
 simp only [lC,lN]
 obtain ⟨a6,k6,rfl,_⟩:=id hT5.form
 refine aW ?_
 refine dV Z (vF Z sH Z) (aQ Z (aH Z Z en120 Z (tK en121 hy fun _ _ _ h=>AB h) ?_))
 rintro u7 h' ⟨T7,rfl,hT7⟩
 simp only [lC,lN]
 obtain ⟨a8,k8,rfl,_⟩:=id hT7.form
 refine aW ?_
 refine aQ Z (aX Z Z sz52 (aW ?_))
 refine dV Z (vF Z DD Z) (aQ Z (aX Z Z mM (aW ?_)))
 refine bA (nK9 [1,2] Z (nT (cQ (sV (ag Z ld55 Z af) ?_))))
 refine ai Z Z EN Z Z ?_
 refine sN (nK9 [2] Z (nT (cT (kz (fq (L:=[T5,T7])) ?_))))
 simp only [lC,lN]
 exact bC (.cellN Z ld55 Z slq .nil) ⟨Res.star [T5,T7],Z,_,Z,_,_,Z,hT5.up' (bH slq),hT7.up' (bH slq)⟩ sbr
theorem AC {x:Cm} (h:Enc.rep X us x):Reads prog 195 #[.agg us.toArray] [] (.bool x.dfd):=by
 obtain ⟨ms,rfl,hm⟩:=h
 obtain ⟨x2,x5,xy,x11,x12,x13,rfl,_⟩:=dJ hm
 unfold ik
 refine aL (n:=7) func195 Z Z (len Z) fun hr w0=>?_
 refine cQ (aV Z Z fun b1=>?_)
 refine sV (vA9 Z) (sN (nK9 [1,2] Z (nT (cQ (sV (vF Z dN Z) (sV (vF Z zY Z) (sV (vY Z ld3) ?_)))))))
 refine sV (dB Z Z) (sV (vA9 Z) (sN (nK9 [2] Z (nT (cT ?_)))))
 exact aj Z ⟨Z,Z⟩ sbq
theorem lI {l:FS} {fv:Value} {n:Nm} (hv:Ls X v l) (hf:fv.oneCell'=true):Ct prog 56 #[.agg #[v,fv],sv n] [X] fun u h'=>h'=[X]∧∃ us,u = .agg us.toArray∧Enc.rep X us (ae l n):=by
 obtain ⟨a,cap,rfl,_⟩:=id hv.form
 refine aL (n:=15) func56 Z Z (len Z) fun hr w0=>?_
 refine cQ (aV Z Z fun b2=>?_)
 refine au nJ fun b4=>?_
 refine sN (nK9 [1,2,4] Z (nT (cQ (sV (vF Z Jw Z) (sV (vY Z ld22) ?_)))))
 refine sM Z (aH Z Z en117 Z (tH (n:=n) hv) ?_)
 rintro u h' ⟨rfl,us,rfl,hr⟩
 simp only [lC,lN]
 have hl:us.length=7:=Enc.len hr
 have ho:=Enc.ones hr
 refine sM Z (sV (ah Z Z) (sV (ah Z Z) (au nJ fun b5=>?_)))
 refine ai (hl:=by rw [hl]; rfl) Z Z lS hl ho ?_
 refine sV (vA9 Z) (sN (nK9 [4,5] Z (nT (cQ (sV (ag Z gG hl af) ?_)))))
 refine ai (hl:=by rw [hl]; rfl) Z Z lS hl ho ?_
 refine sN (nK9 [4] Z (nT (cT ?_)))
 exact bC (.cellN Z gG hl slq .nil) ⟨Z,us,Z,hr⟩ sbr
theorem tL {p:Pt} {n:Nm} (h:Enc.rep X us p):Ct prog 173 #[.agg us.toArray,sv n] [X] fun u h'=>h'=[X]∧u=sv (bK p n):=by
 obtain ⟨x1,x2,x3,x4,x5,rfl,h1,h2,h3,h4,h5⟩:=h
 obtain ⟨a,cap,rfl,_⟩:=id h2.form
 refine aL (n:=18) func173 Z Z (len Z) fun hr w0=>?_
 refine cQ (aV Z Z fun b2=>?_)
 refine sV (vA9 Z) (sN (nK9 [1,2,4] Z (nT (cS (cQ (sV (vF Z zZ Z) (sV (vY Z ld86) ?_)))))))
 refine sM Z (aH Z Z en241 Z (H7 (n:=n) h2) ?_)
 rintro u h' ⟨rfl,us,rfl,hr⟩
 simp only [lC,lN]
 have hu:us=[sv ((p.ren.find? fun c=>c.fro == n).getD pn0).fro,sv ((p.ren.find? fun c=>c.fro == n).getD pn0).to]:=hr
 subst hu
 unfold bK
 refine sM Z (sV (ah Z Z) (sV (ah Z Z) (au ER fun b5=>?_)))
 refine ai Z Z zT Z Z ?_
 cases p.ren.find? fun c=>c.fro == n with
 | none =>
  refine sV (vA9 Z) (sN (nK9 [1,4,5,6] Z (nT (cQ (sM Z (sN (nK9 [1,4,5,14] Z (nT (aG Z ?_)))))))))
  refine cK9 (xT (cQ (sM Z (sV (vA9 Z) (sN (nK9 [4] Z (nT (cT ?_))))))))
  exact aj Z ⟨Z,Z⟩ sbq
 | some x =>
  refine sV (vA9 Z) (sN (nK9 [1,4,5,6] Z (nT (cQ (sM Z (sN (nK9 [1,4,5,14] Z (nT (aT Z ?_)))))))))
  refine cQ (sV (vF Z JB Z) (sV (vY Z ld9) ?_))
  refine sV (vA9 Z) (sN (nK9 [4] Z (nT (cT (xR ?_)))))
  exact aj Z ⟨Z,Z⟩ sbq
end
end Go.Fl
