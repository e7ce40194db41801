/-
  The law FlatConflicts,walked. Conditions: what is read; the library's table of blanks.
-/
import Derived.Test.YtknmacdbffgjgaaGreatDoorM18
import Derived.Test.YtknmacdbffgjgaaGreatDoorM17
import Derived.Test.YtknmacdbffgjgaaGreatDoorM12
set_option linter.unusedVariables false
set_option linter.unusedSimpArgs false
set_option maxRecDepth 100000
set_option maxHeartbeats 16000000
namespace Go.Fl
open Go Go.RowKit Go.Ck Go.Proofs Go.Proofs.Tryz Go.Proofs.YtknmacdbffgjgaaGreatDoor Fx Go.Hr
theorem kV {S:Res}:Tys S (.slice none 0 0) []:=⟨Row.nil,by simp⟩
def exF (k:Int) (n:Nm) (b:Nat) (tk:Int):List Value:=[.int .i64 k,sv n,.slice (some ⟨b,0,none⟩) 1 1,.slice none 0 0,.int .i64 tk,sv [],.slice none 0 0,.bool false,.bool false,.slice none 0 0,.slice none 0 0,.slice none 0 0,.slice none 0 0,.slice none 0 0,.bool false]
def qy (ba bb bc:Nat) (fp fb:Value):List Value:=[sv nP,.bool false,.slice none 0 0,.slice none 0 0,.slice none 0 0,fp,.slice none 0 0]++[sv nA,.bool false,.slice none 0 0,.slice (some ⟨ba,0,none⟩) 1 1,.slice none 0 0,.slice none 0 0,.slice none 0 0]++[sv nB,.bool false,.slice none 0 0,.slice (some ⟨bb,0,none⟩) 1 1,.slice none 0 0,fb,.slice none 0 0]++[sv nQ,.bool false,.slice none 0 0,.slice (some ⟨bc,0,none⟩) 2 2,.slice none 0 0,.slice none 0 0,.slice none 0 0]
def uB (ua:Value):List Value:=[sv nP,.slice none 0 0,.slice none 0 0,ua,.slice none 0 0,.slice none 0 0]
def uC (rn rd:Value):List Value:=[sv nP,.slice none 0 0,rn,.slice none 0 0,rd,.slice none 0 0]
def kI (se:Value):List Value:=[sv nA,.slice none 0 0,.slice none 0 0,.slice none 0 0,.slice none 0 0,.slice none 0 0,sv nB,.slice none 0 0,.slice none 0 0,.slice none 0 0,.slice none 0 0,se]
theorem ls_four {α : Type} [Enc α] {R:Res} {b:Nat} {p q r s : α} {u1 u2 u3 u4:List Value} (h1:Enc.rep R u1 p) (h2:Enc.rep R u2 q) (h3:Enc.rep R u3 r) (h4:Enc.rep R u4 s) (g1:Rds R b 0 u1) (g2:Rds R b (1 * Enc.sz α) u2) (g3:Rds R b (2 * Enc.sz α) u3) (g4:Rds R b (3 * Enc.sz α) u4) (hb:4 * Enc.by' α ≤ reachBytes):Ls R (.slice (some ⟨b,0,none⟩) 4 4) [p,q,r,s]:=
 ⟨⟨some ⟨b,0,none⟩,4,rfl,Nat.le_refl _,by decide,(λh=>by cases h),λi z hi=>by
  match i,hi with
  | 0,hi=>cases hi; exact ⟨b,0,u1,rfl,Enc.len h1,by rw [Nat.zero_mul,Nat.add_zero]; exact g1,h1⟩
  | 1,hi=>cases hi; exact ⟨b,0,u2,rfl,Enc.len h2,by rw [Nat.zero_add]; exact g2,h2⟩
  | 2,hi=>cases hi; exact ⟨b,0,u3,rfl,Enc.len h3,by rw [Nat.zero_add]; exact g3,h3⟩
  | 3,hi=>cases hi; exact ⟨b,0,u4,rfl,Enc.len h4,by rw [Nat.zero_add]; exact g4,h4⟩⟩,hb⟩
section
variable {X Zq:Res} {v:Value} {l:FS}
theorem EG {n:Nm} {b:Nat} (hb:Rds Zq b 0 [sv uw]):Enc.rep Zq (exF 2 n b 0) (rF n)/\Enc.rep Zq (exF 1 n b 1) (Hq n):=by
 have hc:Ls Zq (.slice (some ⟨b,0,none⟩) 1 1) [uw]:=jv (ux:=[sv uw]) rfl hb<|by decide
 exact ⟨⟨_,_,[.int .i64 0,sv [],.slice none 0 0,.bool false,.bool false],_,_,_,_,_,_,Z,hc,Ls.nil,gN (t:=ty0) Z kV,Ls.nil,Ls.nil,Z⟩,⟨_,_,[.int .i64 1,sv [],.slice none 0 0,.bool false,.bool false],_,_,_,_,_,_,Z,hc,Ls.nil,gN (t:=.mk 1 [] [] false false) Z kV,Ls.nil,Ls.nil,Z⟩⟩
theorem KD {bl ba bb bc:Nat} {fp fb rn ua rd se:Value} {und red sel:List Nm} (h1:Rds Zq bl 0 (qy ba bb bc fp fb)) (h2:Rds Zq ba 0 (uB ua)) (h3:Rds Zq bb 0 (uC rn rd)) (h4:Rds Zq bc 0 (kI se))
  (hfp:Ls Zq fp [rF na,Hq nn]) (hfb:Ls Zq fb [rF nb]) (hrn:Ls Zq rn [(⟨na,nb⟩:Pn)]) (hua:Ls Zq ua und) (hrd:Ls Zq rd red) (hse:Ls Zq se sel):Ls Zq (.slice (some ⟨bl,0,none⟩) 4 4) (Bt und red sel):=by
 have pA:Ls Zq (.slice (some ⟨ba,0,none⟩) 1 1) [(⟨nP,[],[],und,[],[]⟩:Pt)]:=jv (ux:=uB ua) ⟨_,_,_,_,_,rfl,kV,Ls.nil,hua,Ls.nil,Ls.nil⟩ h2<|by decide
 have pB:Ls Zq (.slice (some ⟨bb,0,none⟩) 1 1) [(⟨nP,[],[⟨na,nb⟩],[],red,[]⟩:Pt)]:=jv (ux:=uC rn rd) ⟨_,_,_,_,_,rfl,kV,hrn,Ls.nil,hrd,Ls.nil⟩ h3<|by decide
 have pC:Ls Zq (.slice (some ⟨bc,0,none⟩) 2 2) [(⟨nA,[],[],[],[],[]⟩:Pt),⟨nB,[],[],[],[],sel⟩]:=Ev (ux:=(kI se).take 6) (uy:=(kI se).drop 6) ⟨_,_,_,_,_,rfl,kV,Ls.nil,Ls.nil,Ls.nil,Ls.nil⟩ ⟨_,_,_,_,_,rfl,kV,Ls.nil,Ls.nil,Ls.nil,hse⟩ (bF (k:=0) h4 rfl) (by have:=bF (k:=6) (vs:=(kI se).drop 6) h4 rfl; rwa [Nat.zero_add] at this)<|by decide
 have g:=λ(k:Nat) (vs:List Value) (h:((qy ba bb bc fp fb).drop k).take vs.length=vs)=>(by have:=bF (k:=k) h1 h; rwa [Nat.zero_add] at this:Rds Zq bl k vs)
 exact ls_four (u1:=(qy ba bb bc fp fb).take 7) (u2:=((qy ba bb bc fp fb).drop 7).take 7) (u3:=((qy ba bb bc fp fb).drop 14).take 7) (u4:=(qy ba bb bc fp fb).drop 21)
  ⟨_,_,_,_,_,rfl,Ls.nil,Ls.nil,rfl,hfp,Ls.nil⟩ ⟨_,_,_,_,_,rfl,Ls.nil,pA,rfl,Ls.nil,Ls.nil⟩ ⟨_,_,_,_,_,rfl,Ls.nil,pB,rfl,hfb,Ls.nil⟩ ⟨_,_,_,_,_,rfl,Ls.nil,pC,rfl,Ls.nil,Ls.nil⟩ (g 0 _ rfl) (g 7 _ rfl) (g 14 _ rfl) (g 21 _ rfl) (by decide)
attribute [local irreducible] Go.Ck.Sub St Cd Xt Nx DrL LsW
theorem KE (n:Nm):Ct prog 109 #[sv n] [] λu h'=>∃ b,u = .agg (exF 2 n b 0).toArray/\h'=[pt b (cl [sv uw] 9)]:=by
 refine aL (n:=6) func109 Z Z (len Z) λhr w0=>?_
 refine cQ (au lH λb2=>?_)
 refine sN<|nT<|cQ<|sM Z (ak (cells:=[sv uw]) Z underlying40 fH Z Z Zz (ltn Z) λb4=>?_)
 refine sV (aO (cells:=exF 2 n b4 0) Z<|λ_=>Zz) ?_
 refine ai Z Z jQ Z Z ?_
 refine sK [2] Z<|cT ?_
 exact bD (.cellN Z nR Z slq .nil) ⟨b4,Z,Z⟩ sbr
theorem Ma (n:Nm):Ct prog 110 #[sv n] [] λu h'=>∃ b,u = .agg (exF 1 n b 1).toArray/\h'=[pt b (cl [sv uw] 9)]:=by
 refine aL (n:=7) func110 Z Z (len Z) λhr w0=>?_
 refine cQ (au lH λb2=>?_)
 refine sN<|nT<|cQ<|sM Z (ak (cells:=[sv uw]) Z underlying40 fH Z Z Zz (ltn Z) λb4=>?_)
 refine sV (aO (cells:=[.int .i64 1,sv [],.slice none 0 0,.bool false,.bool false]) Z<|λ_=>Zz) ?_
 refine sV (aO (cells:=exF 1 n b4 1) Z<|λ_=>Zz) ?_
 refine ai Z Z jQ Z Z ?_
 refine sK [2] Z<|cT ?_
 exact bD (.cellN Z nR Z slq .nil) ⟨b4,Z,Z⟩ sbr
theorem Mc:CtX prog 48 #[] X [] λu Y k'=>∃ bl ba bb bc fp fb rn rd,u = .slice (some ⟨bl,0,none⟩) 4 4/\k'=[pt bl (cl (qy ba bb bc fp fb) 44),pt ba (cl (uB (.slice none 0 0)) 88),pt bb (cl (uC rn rd) 88),pt bc (cl (kI (.slice none 0 0)) 88)]/\Ls Y fp [rF na,Hq nn]/\Ls Y fb [rF nb]/\Ls Y rn [(⟨na,nb⟩:Pn)]/\Ls Y rd [nb]:=by
 unfold CtX
 refine aL (n:=29) func48 Z Z (len Z) λhr w0=>?_
 refine cQ<|sA Z<|sN<|nT<|cQ<|aH Z Z en109 Z (KE na) ?_
 rintro u h' ⟨q1,rfl,rfl⟩
 simp only [lC,lN]
 refine aH Z Z en110 Z (Ma nn) ?_
 rintro u h' ⟨q2,rfl,rfl⟩
 simp only [lC,lN]
 refine ak (cells:=exF 2 na q1 0++exF 1 nn q2 1) Z underlying41 M4 Z Z Zz (ltn Z) λb7=>?_
 refine sV (aO (cells:=[sv nP,.bool false,.slice none 0 0,.slice none 0 0,.slice none 0 0,.slice (some ⟨b7,0,none⟩) 2 2,.slice none 0 0]) Z<|λ_=>Zz) ?_
 refine au nS λb1=>?_
 refine ai Z Z lY Z Z ?_
 refine sK [0,1] Z<|cQ<|sV (aO (cells:=uB<|.slice none 0 0) Z<|λ_=>Zz) ?_
 refine ak (cells:=uB<|.slice none 0 0) Z underlying39 inf88 Z Z Zz (ltn Z) λb10=>?_
 refine sV (aO (cells:=[sv nA,.bool false,.slice none 0 0,.slice (some ⟨b10,0,none⟩) 1 1,.slice none 0 0,.slice none 0 0,.slice none 0 0]) Z<|λ_=>Zz) ?_
 refine au nS λb2=>?_
 refine ai Z Z lY Z Z ?_
 refine sK [0,1,2] Z<|cQ<|sV (aO (cells:=[sv na,sv nb]) Z<|λ_=>Zz) ?_
 refine ak (cells:=[sv na,sv nb]) Z underlying86 inf143 Z Z Zz (ltn Z) λb13=>?_
 refine ak (cells:=[sv nb]) Z underlying40 fH Z Z Zz (ltn Z) λb14=>?_
 refine sV (aO (cells:=uC (.slice (some ⟨b13,0,none⟩) 1 1)<|.slice (some ⟨b14,0,none⟩) 1 1) Z<|λ_=>Zz) ?_
 refine ak (cells:=uC (.slice (some ⟨b13,0,none⟩) 1 1)<|.slice (some ⟨b14,0,none⟩) 1 1) Z underlying39 inf88 Z Z Zz (ltn Z) λb16=>?_
 refine aH Z Z en109 Z (KE nb) ?_
 rintro u h' ⟨q3,rfl,rfl⟩
 simp only [lC,lN]
 refine ak (cells:=exF 2 nb q3 0) Z underlying41 M4 Z Z Zz (ltn Z) λb18=>?_
 refine sV (aO (cells:=[sv nB,.bool false,.slice none 0 0,.slice (some ⟨b16,0,none⟩) 1 1,.slice none 0 0,.slice (some ⟨b18,0,none⟩) 1 1,.slice none 0 0]) Z<|λ_=>Zz) ?_
 refine au nS λb3=>?_
 refine ai Z Z lY Z Z ?_
 refine sK [0,1,2,3] Z<|cQ<|sV (aO (cells:=[sv nA,.slice none 0 0,.slice none 0 0,.slice none 0 0,.slice none 0 0,.slice none 0 0]) Z<|λ_=>Zz) ?_
 refine sV (aO (cells:=[sv nB,.slice none 0 0,.slice none 0 0,.slice none 0 0,.slice none 0 0,.slice none 0 0]) Z<|λ_=>Zz) ?_
 refine ak (cells:=kI<|.slice none 0 0) Z underlying39 inf88 Z Z Zz (ltn Z) λb22=>?_
 refine sV (aO (cells:=[sv nQ,.bool false,.slice none 0 0,.slice (some ⟨b22,0,none⟩) 2 2,.slice none 0 0,.slice none 0 0,.slice none 0 0]) Z<|λ_=>Zz) ?_
 refine au nS λb4=>?_
 refine ai Z Z lY Z Z ?_
 refine sK [0,1,2,3,4] Z<|cQ<|sV (af Z gG Z ah) ?_
 refine sV (af Z gG Z ah) ?_
 refine sV (af Z gG Z ah) ?_
 refine sV (af Z gG Z ah) ?_
 refine ak (cells:=qy b10 b16 b22 (.slice (some ⟨b7,0,none⟩) 2 2)<|.slice (some ⟨b18,0,none⟩) 1 1) Z underlying22 inf44 Z Z Zz (ltn Z) λb28=>?_
 refine sA Z<|sK [0] Z<|cT (gY [pt q1 (cl [sv uw] 9),pt q2 (cl [sv uw] 9),pt q3 (cl [sv uw] 9),pt b7 (cl (exF 2 na q1 0++exF 1 nn q2 1) 130),pt b13 (cl [sv na,sv nb] 143),pt b14 (cl [sv nb] 9),pt b18 (cl (exF 2 nb q3 0) 130)] X λY hE hsel=>?_)
 have r1:Rds Y q1 0 [sv uw]:=λi hi=>hsel _ _ .here _ _<|ah i hi
 have r2:Rds Y q2 0 [sv uw]:=λi hi=>hsel _ _ (.there .here) _ _<|ah i hi
 have r3:Rds Y q3 0 [sv uw]:=λi hi=>hsel _ _ (.there<|.there .here) _ _<|ah i hi
 have r4:Rds Y b7 0 (exF 2 na q1 0++exF 1 nn q2 1):=λi hi=>hsel _ _ (.there<|.there<|.there .here) _ _<|ah i hi
 have r5:Rds Y b13 0 [sv na,sv nb]:=λi hi=>hsel _ _ (.there<|.there<|.there<|.there .here) _ _<|ah i hi
 have r6:Rds Y b14 0 [sv nb]:=λi hi=>hsel _ _ (.there<|.there<|.there<|.there<|.there .here) _ _<|ah i hi
 have r7:Rds Y b18 0 (exF 2 nb q3 0):=λi hi=>hsel _ _ (.there<|.there<|.there<|.there<|.there<|.there .here) _ _<|ah i hi
 have hfp:Ls Y (.slice (some ⟨b7,0,none⟩) 2 2) [rF na,Hq nn]:=Ev (ux:=exF 2 na q1 0) (uy:=exF 1 nn q2 1) (EG r1).1 (EG r2).2 (bF (k:=0) r4 rfl) (by have:=bF (k:=15) (vs:=exF 1 nn q2 1) r4 rfl; rwa [Nat.zero_add] at this) (by decide)
 exact aj Z ⟨Y,_,Z,hE,b28,b10,b16,b22,_,_,_,_,Z,Z,hfp,jv (ux:=exF 2 nb q3 0) (EG r3).1 r7 (by decide),jv (p:=(⟨na,nb⟩:Pn)) (ux:=[sv na,sv nb]) Z r5 (by decide),jv (p:=nb) (ux:=[sv nb]) Z r6<|by decide⟩ sbq
theorem is_ct (hX:Spc X) (hl:Ls X v l) (hS:jg l) {x:Cf} (h1:kw l=(x,true,0)) (h2:lL l x=0):dE prog 49 #[v,cfV x] X [] λu Y k'=>k'=[]/\u = .bool true:=by
 obtain ⟨vAq,vK,rfl,_⟩:=id hl.form
 have hc:=Ow hX hl hS
 have hk:=λ(Y:Res) (hE:Ext X Y)=>BL (hX.up hE) (hl.up hE) hS x
 rw [h1] at hc
 rw [h2] at hk
 unfold dE cfV cfC at *
 refine eG (n:=30) func49 Z Z (len Z) λhr w0 hw0=>?_
 refine cQ (aP Z Z λb3=>?_)
 refine sA Z<|sK [0,3,4] Z<|cQ<|sM Z<|bM hw0 Z Z en12 Z (hc) ?_
 rintro u h' ⟨Y,k',rfl,hE,rfl,rfl⟩
 simp only [lC,lN]
 refine sM Z<|sV (ag Z Z)<|sV (ag Z Z)<|sV (ag Z Z) (au D9 λb5=>?_)
 refine ai Z Z wZ Z Z ?_
 refine sA Z<|sA Z<|sK [0,3,4,5,6,7] Z<|cQ<|sM Z<|sV (dP Z Z)<|sM Z<|sG Z Z (vM Z)<|sV (vQ Z Z)<|sM Z<|sG Z Z (af Z tF Z ah) ?_
 refine sG Z Z (af Z tF Z ah) ?_
 refine sG Z Z (v_eqC (a:=x) (b:=x) Z Z) ?_
 rw [decide_eq_true (rfl:x=x)]
 refine sV (vQ Z Z)<|sM Z<|sG Z Z (vM Z)<|sG Z Z (af Z tF Z ah) ?_
 refine ku Z Z<|bM hw0 Z Z en14 Z (hk Y hE) ?_
 rintro u h' ⟨Zq,k',rfl,hE2,rfl,rfl⟩
 simp only [lC,lN]
 refine sG Z Z (dP Z Z)<|sV (vQ Z Z)<|sA Z<|sK [4] Z<|cT ?_
 exact aj Z ⟨Zq,[],Z,hE.trans hE2,Z,Z⟩ sbq
end
end Go.Fl
namespace Go.Ck
open Go Go.RowKit
theorem vw_un {T:Res} {K t:SH}:Vw (T::Res.star K::t) (K++(T::t)):=λ_ hh=>bW.1<|hh.perm<|.swap _ _ _
end Go.Ck
namespace Go.Fl
open Go Go.RowKit Go.Ck Go.Proofs Go.Proofs.Tryz Go.Proofs.YtknmacdbffgjgaaGreatDoor Fx Go.Hr
theorem eqs24:EqS prog 24 2:=EqS.of underlying24 Zz Zz Zz rfl
theorem wh (und red sel:List Nm) (h1:und.length≤12) (h2:red.length≤12) (h3:sel.length≤12):jg (Bt und red sel):=λc hc p hp=>by
 simp only [Bt,List.mem_cons,List.mem_nil_iff,or_false] at hc
 rcases hc with rfl | rfl | rfl | rfl <;> simp only [exPc,exAc,exBc,exQc,List.mem_cons,List.mem_nil_iff,or_false] at hp
 ·subst hp; exact ⟨by simp,h1,by simp,by simp⟩
 ·subst hp; exact ⟨by simp,by simp,h2,by simp⟩
 ·rcases hp with rfl | rfl
  ·exact ⟨by simp,by simp,by simp,by simp⟩
  ·exact ⟨by simp,by simp,by simp,h3⟩
theorem lenC3 {ms:List Mb} {a b c:Nm} (h:(ms.map λm=>m.name)=[a,b,c]):ms.length=3/\∃ m,ms[2]? = some m/\m.name=c:=by
 match ms,h with
 | [x,y,z],h=>simp at h; exact ⟨rfl,z,rfl,h.2.2⟩
theorem lenB2 {ms:List Mb} {a b:Sd×List Sd} (h:(ms.map λm=>(m.impl,m.seeds))=[a,b]):ms.length=2/\∃ m,ms[0]? = some m/\m.impl=a.1/\m.seeds=a.2:=by
 match ms,h with
 | [x,y],h=>simp at h; exact ⟨rfl,x,rfl,by rw [<- h.1],by rw [<- h.1]⟩
attribute [local irreducible] Go.Ck.Sub St Cd Xt Nx DrL LsW
section
variable {X:Res}
theorem Md (hX:Spc X):dE prog 11 #[] X [] λu Y k'=>k'=[]/\u = .bool true:=by
 have hml:maxLen=9223372036854775807:=rfl
 have hs0:=λ(Y:Res)=>Mc (X:=Y)
 unfold dE
 unfold CtX at hs0
 refine eG (n:=193) func11 Z Z (len Z) λhr w0 hw0=>?_
 refine cQ<|sA Z<|sN<|nT<|cQ<|aH Z Z en48 Z ((hs0 X)) ?_
 rintro u h' ⟨Y,k',rfl,hE,bl,ba,bb,bc,fp,fb,rn,rd,rfl,rfl,hfp,hfb,hrn,hrd⟩
 simp only [lC,lN]
 refine sA Z<|sK [0,1] Z<|cQ<|sM Z<|sV (aO (cells:=[sv nP,sv na]) Z<|λ_=>Zz) ?_
 refine sV (aO (cells:=[.int .i64 11,sv nQ,sv na,sv nb,sv nP,sv na,sv [],sv []]) Z<|λ_=>Zz) ?_
 refine qg (ug (L:=[pt bl (cl (qy ba bb bc fp fb) 44),pt ba (cl (uB<|.slice none 0 0) 88),pt bb (cl (uC rn rd) 88),pt bc (cl (kI<|.slice none 0 0) 88)]) (X:=Y) (by repeat (first | exact Pk.nil | (apply Pk.cons; (repeat (first | exact Sel.here | apply Sel.there)))))) ?_
 have hZ:Ext X (Res.star ([pt bl (cl (qy ba bb bc fp fb) 44),pt ba (cl (uB<|.slice none 0 0) 88),pt bb (cl (uC rn rd) 88),pt bc (cl (kI<|.slice none 0 0) 88)]++[Y])):=hE.trans<|Ext.packs Y _
 have hY:∀ p u,Rd Y p u->Rd (Res.star ([pt bl (cl (qy ba bb bc fp fb) 44),pt ba (cl (uB<|.slice none 0 0) 88),pt bb (cl (uC rn rd) 88),pt bc (cl (kI<|.slice none 0 0) 88)]++[Y])) p u:=(Ext.packs Y _).rd
 have hl1:Ls (Res.star ([pt bl (cl (qy ba bb bc fp fb) 44),pt ba (cl (uB<|.slice none 0 0) 88),pt bb (cl (uC rn rd) 88),pt bc (cl (kI<|.slice none 0 0) 88)]++[Y])) (.slice (some ⟨bl,0,none⟩) 4 4) ex1:=KD (λi hi=>fP .here _ _<|ah i hi) (λi hi=>fP (.there .here) _ _<|ah i hi) (λi hi=>fP (.there<|.there .here) _ _<|ah i hi) (λi hi=>fP (.there<|.there<|.there .here) _ _<|ah i hi) (hfp.up' hY) (hfb.up' hY) (hrn.up' hY) Ls.nil (hrd.up' hY) Ls.nil
 have his:=is_ct (hX.up hZ) hl1 (wh _ _ _ (by decide) (by decide)<|by decide) LW LX
 unfold dE cfV cfC at his
 refine bM hw0 Z Z en49 Z (his) ?_
 rintro u h' ⟨W,k',rfl,hW,rfl,rfl⟩
 obtain ⟨T,hT⟩:=hW.vw
 refine qg (hT _)<|qg vw_un ?_
 clear hZ hY hl1 his hW hT
 simp only [lC,lN]
 unfold qy uB uC kI
 simp only [lC,lN]
 refine sA Z<|sK [0,1,2] Z<|cQ<|sM Z<|sV (vI (k:=3) Z Z ve Z (by decide) Z) ?_
 refine sV (vF Z eY Z)<|sV (vY Z lZ) ?_
 refine ak (cells:=[sv nb]) Z underlying40 fH Z Z Zz (ltn Z) λb28=>?_
 refine sV (vI (k:=1) Z Z oL Z (by decide) Z) ?_
 refine sV (vF Z Aj Z)<|bf Z Z yU ?_
 refine pJ [pt bl (cl (qy ba bb bc fp fb) 44),pt ba (cl (uB<|.slice none 0 0) 88),pt bb (cl (uC rn rd) 88),pt bc (cl (kI<|.slice (some ⟨b28,0,none⟩) 1 1) 88),pt b28 (cl [sv nb] 9)] Y λZq hZ hsel=>?_
 have hXZ:=hE.trans hZ
 have hS2:=wh [] [nb] [nb] (by decide) (by decide)<|by decide
 have hl2:Ls Zq (.slice (some ⟨bl,0,none⟩) 4 4) ex2:=KD (λi hi=>hsel _ _ .here _ _<|ah i hi) (λi hi=>hsel _ _ (.there .here) _ _<|ah i hi) (λi hi=>hsel _ _ (.there<|.there .here) _ _<|ah i hi) (λi hi=>hsel _ _ (.there<|.there<|.there .here) _ _<|ah i hi) (hfp.up hZ) (hfb.up hZ) (hrn.up hZ) Ls.nil (hrd.up hZ)<|jv (p:=nb) (ux:=[sv nb]) rfl (λi hi=>hsel _ _ (.there<|.there<|.there<|.there .here) _ _<|ah i hi)<|by decide
 clear hsel hfp hfb hrn hrd hZ hE
 have hq1:=Dr (hX.up hXZ) hl2 hS2 nQ
 unfold dE at hq1
 rw [Ht.1] at hq1
 refine sK [0,1,2] Z<|cQ<|sM Z<|bM hw0 Z Z en45 Z (hq1) ?_
 rintro u h' ⟨Z1,k',rfl,hZ1,rfl,us,rfl,hr1⟩
 simp only [lC,lN]
 clear hq1
 have hr1:Enc.rep Z1 us (eD ex2 nQ).1:=hr1
 obtain ⟨c3,cm,cm2,cmn⟩:=lenC3 Ht.2.2
 generalize (eD ex2 nQ).1=G1 at hr1 c3 cm2
 have ho1:=Enc.ones hr1
 obtain ⟨x1,x2,rfl,hx1,hx2⟩:=hr1
 refine sM Z<|sV (ag Z Z)<|sV (ag Z Z) (au Fh λb3=>?_)
 refine ai Z Z Ab Z ho1 ?_
 refine sA Z<|sK [0,1,2,3,4] Z<|cQ<|sM Z ?_
 have hq2:=Dr (hX.up<|hXZ.trans hZ1) (hl2.up hZ1) hS2 nB
 unfold dE at hq2
 rw [Dt.1] at hq2
 refine bM hw0 Z Z en45 Z (hq2) ?_
 rintro u h' ⟨Z2,k',rfl,hZ2,rfl,us,rfl,hr2⟩
 simp only [lC,lN]
 clear hq2
 have hr2:Enc.rep Z2 us (eD ex2 nB).1:=hr2
 obtain ⟨d3,dm,dm2,dmi,dms⟩:=lenB2 Dt.2
 generalize (eD ex2 nB).1=G2 at hr2 d3 dm2
 have ho2:=Enc.ones hr2
 obtain ⟨y1,y2,rfl,hy1,hy2⟩:=hr2
 refine sM Z<|sV (ag Z Z)<|sV (ag Z Z) (au Fh λb5=>?_)
 refine ai Z Z Ab Z ho2 ?_
 refine sA Z<|sK [0,1,2,3,4,5,6] Z<|cQ<|sM Z<|sV (aO (cells:=[sv nP,sv na]) Z<|λ_=>Zz) ?_
 have hZ12:=hZ1.trans hZ2
 have hq3:=Hl (hX.up<|hXZ.trans hZ12) (hl2.up hZ12) hS2 nQ ⟨nP,na⟩
 unfold dE at hq3
 rw [L9] at hq3
 refine bM hw0 Z Z en35 Z (hq3) ?_
 rintro u h' ⟨Z3,k',rfl,hZ3,rfl,w,rfl,hw⟩
 simp only [lC,lN]
 clear hq3
 have hZ13:=hZ12.trans hZ3
 have hw:Ls Z3 w [na,nb]:=hw
 have hwo:=hw.one
 refine sM Z<|sV (ag Z Z)<|sV (ag Z Z)<|sA Z<|sA Z<|sK [0,1,2,3,4,5,6,7,8] Z<|cQ<|sM Z ?_
 have hq4:=Br (hX.up<|hXZ.trans hZ13) (hl2.up hZ13) hS2 nQ nP na
 unfold dE at hq4
 rw [Hw] at hq4
 refine bM hw0 Z Z en29 Z (hq4) ?_
 rintro u h' ⟨Z4,k',rfl,hZ4,rfl,rfl⟩
 simp only [lC,lN]
 clear hq4
 have hZ14:=hZ13.trans hZ4
 refine sM Z<|sV (ag Z Z)<|sV (ag Z Z)<|sA Z<|sA Z<|sK [0,1,2,3,4,5,6,7,8,9,10] Z<|cQ<|sM Z ?_
 have hq5:=Jl (hX.up<|hXZ.trans hZ14) (hl2.up hZ14) hS2 nQ nn
 unfold dE at hq5
 rw [Hu] at hq5
 refine bM hw0 Z Z en50 Z (hq5) ?_
 rintro u h' ⟨Z5,k',rfl,hZ5,rfl,ow,rfl,how⟩
 simp only [lC,lN]
 clear hq5
 have how:Ls Z5 ow [(⟨nA,nn⟩:Og),⟨nB,nn⟩]:=how
 have hXZ5:=hXZ.trans<|hZ14.trans hZ5
 have hx1:=hx1.up<|hZ2.trans<|hZ3.trans<|hZ4.trans hZ5
 have hy1:=hy1.up<|hZ3.trans<|hZ4.trans hZ5
 have hw:=hw.up<|hZ4.trans hZ5
 clear hx2 hy2 hl2 hZ1 hZ2 hZ12 hZ3 hZ13 hZ4 hZ14 hZ5
 obtain ⟨xb,xo,xcap,mus,e1,_,hmrd,hmr⟩:=hx1.at cm2
 obtain ⟨yb,yo,ycap,nus,e2,_,hnrd,hnr⟩:=hy1.at dm2
 obtain ⟨ob,oo,ocap,o0,e3,_,hord0,ho0⟩:=how.at (i:=0) rfl
 obtain ⟨ob',oo',ocap',o1,e3',_,hord1,ho1'⟩:=how.at (i:=1) rfl
 subst e1 e2 e3
 cases e3'
 obtain rfl:o0=[sv nA,sv nn]:=ho0
 obtain rfl:o1=[sv nB,sv nn]:=ho1'
 rw [c3] at *
 rw [d3] at *
 obtain ⟨m2,m5,my,m11,m12,m13,rfl,-⟩:=dh hmr
 obtain ⟨n2,n5,ny,n11,n12,n13,rfl,hn2,-⟩:=dh hnr
 rw [dms] at hn2
 obtain ⟨sb,so,scap,sus,e4,_,hsrd,hsr⟩:=hn2.at (i:=0) rfl
 obtain rfl:sus=[sv nP,sv na]:=hsr
 subst e4
 obtain ⟨wA,wK,rfl,_⟩:=id hw.form
 have hone3:∀ b96:Nat,Reads prog 51 #[.slice wA [na,nb].length wK,.slice (some ⟨b96,0,none⟩) 2 2] [pt b96 (cl [sv na,sv nb] 9),Z5] (.bool true):=λb96=>by
  have h:=eq51_ct (X:=Res.star [pt b96 (cl [sv na,sv nb] 9),Z5]) (hw.up'<|bE<|.there .here) (Ev (p:=na) (q:=nb) (ux:=[sv na]) (uy:=[sv nb]) rfl rfl (λi hi=>by match i,hi with | 0,_=>exact bE .here _ _ (bV rfl)) (λi hi=>by match i,hi with | 0,_=>exact bE .here _ _ (bV rfl)) (by decide):Ls (Res.star [pt b96 (cl [sv na,sv nb] 9),Z5]) (.slice (some ⟨b96,0,none⟩) 2 2) [na,nb])
  rw [decide_eq_true (rfl:[na,nb]=[na,nb])] at h
  exact dF h
 refine sM Z<|sV (ag Z Z)<|sV (ag Z Z)<|sA Z<|sA Z<|sK [0,1,2,3,4,5,6,7,8,9,10,11,12] Z<|cS<|cQ<|sM Z<|sV (bP Z Z)<|sM Z<|sG Z Z (vM Z)<|sG Z Z (bP Z Z) ?_
 refine sV (vP Z Z)<|sM Z<|sG Z Z (vM Z)<|sG Z Z (bP Z Z)<|sV (vP Z Z)<|sM Z<|sG Z Z (vM Z)<|sG Z Z (bP Z Z)<|sV (vP Z Z)<|sM Z<|sG Z Z (vM Z)<|sG Z Z (bP Z Z)<|sV (vP Z Z)<|sM Z ?_
 refine sG Z Z (vF Z qO Z)<|sG Z Z (vY Z tJ) ?_
 refine sG Z Z (aF Z underlying52)<|sG Z Z (bP Z Z)<|sV (vP Z Z)<|sM Z<|sG Z Z (vF Z qO Z)<|sG Z Z (vY Z tJ) ?_
 refine sG Z Z (aF Z underlying52)<|sG Z Z (bP Z Z)<|sV (vP Z Z)<|sM Z<|sG Z Z (vM Z)<|sG Z Z (aF Z underlying104)<|sG Z Z (bP Z Z)<|sV (vP Z Z)<|sK [0,1,2,3,5,7,9,11,91] Z<|aG Z ?_
 refine cK<|xT<|cQ<|sM Z<|sV (iE Z Z)<|sM Z<|sG Z Z (vM Z)<|ku Z Z (ak (cells:=[sv na,sv nb]) Z underlying40 fH Z Z Zz (ltn Z) λb96=>?_)
 refine bU Z Z Z Z en51 Z (hone3 b96) ?_
 refine sV (vQ Z Z)<|sM Z<|sG Z Z (vF Z qO Z)<|sG Z Z (vY Z tJ) ?_
 have hc0:Rd Z5 ⟨xb,xo+2 * 14+0,none⟩ (sv nn):=by rw [<- cmn]; exact qU (k:=0) hmrd rfl
 have hc1:Rds Z5 yb (yo+0 * 14+3) [sv nB,sv nb]:=by
  have h:=bF (k:=3) (vs:=[sv dm.impl.cls,sv dm.impl.name]) hnrd rfl
  rw [dmi] at h; exact h
 have hc2:=qU (k:=2) hnrd rfl
 refine sG Z Z (vI (k:=2) Z Z oM Z (by decide) Z) ?_
 refine sG Z Z (vF Z eB Z)<|sG Z Z (vY Z ld9 (ha:=⟨Z5,_,slq,hc0⟩)) ?_
 refine sG Z Z (iE Z Z)<|sV (vQ Z Z)<|sM Z<|sG Z Z (vF Z qO Z)<|sG Z Z (vY Z tJ) ?_
 refine sG Z Z (vI (k:=0) Z Z oM Z (by decide) Z) ?_
 refine sG Z Z (vF Z DZ Z)<|sG Z Z (af Z il Z hc1) ?_
 refine sG Z Z (aO (cells:=[sv nB,sv nb]) Z<|λ_=>Zz) ?_
 refine sG Z Z (jJ AV Z Z)<|sV (vQ Z Z)<|sM Z<|sG Z Z (vF Z qO Z)<|sG Z Z (vY Z tJ) ?_
 refine sG Z Z (vI (k:=0) Z Z oM Z (by decide) Z) ?_
 refine sG Z Z (vF Z dX Z)<|sG Z Z (vY Z nO (ha:=⟨Z5,_,slq,hc2⟩)) ?_
 refine sG Z Z (vI (k:=0) Z Z oN Z (by decide) Z) ?_
 refine sG Z Z (af Z il Z hsrd) ?_
 refine sG Z Z (aO (cells:=[sv nP,sv na]) Z<|λ_=>Zz) ?_
 refine sG Z Z (jJ AV Z Z)<|sV (vQ Z Z)<|sM Z<|sG Z Z (vM Z)<|sG Z Z (vI (k:=0) Z Z sl104 Z (by decide) Z) ?_
 refine sG Z Z (af Z qm Z hord0) ?_
 refine sG Z Z (aO (cells:=[sv nA,sv nn]) Z<|λ_=>Zz) ?_
 refine sG Z Z (jJ eqs24 Z Z)<|sV (vQ Z Z)<|sM Z<|sG Z Z (vM Z)<|sG Z Z (vI (k:=1) Z Z sl104 Z (by decide) Z) ?_
 refine sG Z Z (af Z qm Z hord1) ?_
 refine sG Z Z (aO (cells:=[sv nB,sv nn]) Z<|λ_=>Zz) ?_
 refine sG Z Z (jJ eqs24 Z Z)<|sV (vQ Z Z)<|sA Z<|sK [0,1,2,13] Z<|cQ ?_
 clear hone3 hc0 hc1 hc2 hmr hnr hmrd hnrd hord0 hord1 hsrd hx1 hy1 hw how hn2 hXZ
 refine aH Z Z en48 Z ((hs0 Z5)) ?_
 rintro u h' ⟨Y,k',rfl,hE,bl2,ba2,bb2,bc2,fp,fb,rn,rd,rfl,rfl,hfp,hfb,hrn,hrd⟩
 simp only [lC,lN]
 unfold qy uB uC kI
 simp only [lC,lN]
 refine sA Z<|sK [0,1,2,13] Z<|cQ<|sM Z<|sV (vI (k:=2) Z Z ve Z (by decide) Z) ?_
 refine sV (vF Z eY Z)<|sV (vY Z lZ) ?_
 refine sV (vI (k:=0) Z Z oL Z (by decide) Z) ?_
 refine sV (vF Z xq Z)<|bf Z Z yU ?_
 refine pJ [pt bl2 (cl (qy ba2 bb2 bc2 fp fb) 44),pt ba2 (cl (uB<|.slice none 0 0) 88),pt bb2 (cl (uC rn<|.slice none 0 0) 88),pt bc2 (cl (kI<|.slice none 0 0) 88)] Y λZq hZ hsel=>?_
 have hXZ:=hXZ5.trans<|hE.trans hZ
 have hl3:Ls Zq (.slice (some ⟨bl2,0,none⟩) 4 4) ex3:=KD (λi hi=>hsel _ _ .here _ _<|ah i hi) (λi hi=>hsel _ _ (.there .here) _ _<|ah i hi) (λi hi=>hsel _ _ (.there<|.there .here) _ _<|ah i hi) (λi hi=>hsel _ _ (.there<|.there<|.there .here) _ _<|ah i hi) (hfp.up hZ) (hfb.up hZ) (hrn.up hZ) Ls.nil Ls.nil Ls.nil
 clear hsel hfp hfb hrn hrd hZ hE
 have his:=is_ct (hX.up hXZ) hl3 (wh _ _ _ (by decide) (by decide)<|by decide) LY LZ
 unfold dE cfV cfC at his
 refine sK [0,1,2,13] Z<|cQ<|sM Z<|sV (aO (cells:=[sv nP,sv na]) Z<|λ_=>Zz) ?_
 refine sV (aO (cells:=[.int .i64 7,sv nB,sv nb,sv [],sv nP,sv na,sv [],sv []]) Z<|λ_=>Zz) ?_
 refine bM hw0 Z Z en49 Z (his) ?_
 rintro u h' ⟨Y3,k',rfl,hW,rfl,rfl⟩
 simp only [lC,lN]
 clear his hl3
 have hX3:=hXZ.trans hW
 clear hXZ hW hXZ5
 refine sA Z<|sK [0,1,2,13,14] Z<|cQ<|aH Z Z en48 Z ((hs0 Y3)) ?_
 rintro u h' ⟨Y,k',rfl,hE,bl3,ba3,bb3,bc3,fp,fb,rn,rd,rfl,rfl,hfp,hfb,hrn,hrd⟩
 simp only [lC,lN]
 unfold qy uB uC kI
 simp only [lC,lN]
 refine sA Z<|sK [0,1,2,13,14] Z<|cQ<|sM Z<|sV (vI (k:=1) Z Z ve Z (by decide) Z) ?_
 refine sV (vF Z eY Z)<|sV (vY Z lZ) ?_
 refine ak (cells:=[sv nn]) Z underlying40 fH Z Z Zz (ltn Z) λb157=>?_
 refine sV (vI (k:=0) Z Z oL Z (by decide) Z) ?_
 refine sV (vF Z xn Z)<|bf Z Z yU ?_
 refine pJ [pt bl3 (cl (qy ba3 bb3 bc3 fp fb) 44),pt ba3 (cl (uB<|.slice (some ⟨b157,0,none⟩) 1 1) 88),pt bb3 (cl (uC rn rd) 88),pt bc3 (cl (kI<|.slice none 0 0) 88),pt b157 (cl [sv nn] 9)] Y λZq hZ hsel=>?_
 have hXZ:=hX3.trans<|hE.trans hZ
 have hl4:Ls Zq (.slice (some ⟨bl3,0,none⟩) 4 4) ex4:=KD (λi hi=>hsel _ _ .here _ _<|ah i hi) (λi hi=>hsel _ _ (.there .here) _ _<|ah i hi) (λi hi=>hsel _ _ (.there<|.there .here) _ _<|ah i hi) (λi hi=>hsel _ _ (.there<|.there<|.there .here) _ _<|ah i hi) (hfp.up hZ) (hfb.up hZ) (hrn.up hZ) (jv (p:=nn) (ux:=[sv nn]) rfl (λi hi=>hsel _ _ (.there<|.there<|.there<|.there .here) _ _<|ah i hi)<|by decide) (hrd.up hZ) Ls.nil
 clear hsel hfp hfb hrn hrd hZ hE
 have his:=is_ct (hX.up hXZ) hl4 (wh _ _ _ (by decide) (by decide)<|by decide) L6 L8
 unfold dE cfV cfC at his
 refine sK [0,1,2,13,14] Z<|cQ<|sM Z<|sV (aO (cells:=[sv nP,sv nn]) Z<|λ_=>Zz) ?_
 refine sV (aO (cells:=[.int .i64 4,sv nA,sv nn,sv [],sv nP,sv nn,sv [],sv []]) Z<|λ_=>Zz) ?_
 refine bM hw0 Z Z en49 Z (his) ?_
 rintro u h' ⟨Y4,k',rfl,hW,rfl,rfl⟩
 simp only [lC,lN]
 clear his hl4
 have hX4:=hXZ.trans hW
 clear hXZ hW hX3
 have hsub:∀ b167 b169:Nat,CtN prog 52 #[.agg #[.int .i64 4,sv [71],.slice none 0 0,.bool true,.bool false],.slice (some ⟨b167,0,none⟩) 1 1,.slice (some ⟨b169,0,none⟩) 1 1] [pt b167 (cl [sv [71],sv []] 111),pt b169 (cl [.int .i64 3,sv [88],.slice none 0 0,.bool false,.bool false] 73),Y4] λu T=>∃ us':List Value,u = .tuple #[.agg us'.toArray,.int .i64 0]/\Ty T us' (.mk 3 [88] [] true false):=λb167 b169=>by
  have hF:Ls (Res.star [pt b167 (cl [sv [71],sv []] 111),pt b169 (cl [.int .i64 3,sv [88],.slice none 0 0,.bool false,.bool false] 73),Y4]) (.slice (some ⟨b167,0,none⟩) 1 1) [(⟨[71],[]⟩:Fm)]:=jv (ux:=[sv [71],sv []]) rfl (λi hi=>oH .here<|ah i hi)<|by decide
  have hA:Ls (Res.star [pt b167 (cl [sv [71],sv []] 111),pt b169 (cl [.int .i64 3,sv [88],.slice none 0 0,.bool false,.bool false] 73),Y4]) (.slice (some ⟨b169,0,none⟩) 1 1) [(.mk 3 [88] [] false false:Kt)]:=jv (ux:=[.int .i64 3,sv [88],.slice none 0 0,.bool false,.bool false]) (gN (t:=.mk 3 [88] [] false false) rfl kV) (λi hi=>oH (.there .here)<|ah i hi)<|by decide
  exact jT<|Lt (us:=[.int .i64 4,sv [71],.slice none 0 0,.bool true,.bool false]) (t:=.mk 4 [71] [] true false) hF hA<|gN rfl kV
 refine sA Z<|sK [0,2,13,14,15] Z<|cQ<|sV (aO (cells:=[.int .i64 4,sv [71],.slice none 0 0,.bool true,.bool false]) Z<|λ_=>Zz) ?_
 refine sV (aO (cells:=[sv [71],sv []]) Z<|λ_=>Zz) ?_
 refine ak (cells:=[sv [71],sv []]) Z underlying38 inf111 Z Z Zz (ltn Z) λb167=>?_
 refine sV (aO (cells:=[.int .i64 3,sv [88],.slice none 0 0,.bool false,.bool false]) Z<|λ_=>Zz) ?_
 refine ak (cells:=[.int .i64 3,sv [88],.slice none 0 0,.bool false,.bool false]) Z underlying71 JN Z Z Zz (ltn Z) λb169=>?_
 refine aH Z Z en52 Z (hsub b167 b169) ?_
 rintro u h' ⟨T5,rfl,us,rfl,hty⟩
 simp only [lC,lN]
 clear hsub
 have hty0:=hty
 obtain ⟨tx,rfl,htx⟩:=eF hty
 unfold tyC at *
 have hto:([.int .i64 (Kt.kind<|.mk 3 [88] [] true false),sv (Kt.name<|.mk 3 [88] [] true false),tx,.bool (Kt.void<|.mk 3 [88] [] true false),.bool (Kt.sep<|.mk 3 [88] [] true false)]:List Value).all Value.oneCell'=true:=Enc.ones (α := Kt) hty0
 refine sM Z<|sV (ag Z Z)<|sV (ag Z Z) (au Ak λb16=>?_)
 refine ai Z Z nL Z hto ?_
 have heq:=eqT_ct (X:=T5) hty0<|gN (us:=[.int .i64 3,sv [88],.slice none 0 0,.bool true,.bool false]) (t:=.mk 3 [88] [] true false) rfl kV
 rw [decide_eq_true (rfl:(Kt.mk 3 [88] [] true false) = .mk 3 [88] [] true false)] at heq
 refine sA Z<|sK [0,2,13,14,15,16,17] Z<|cQ<|sV (af Z fU Z ah) ?_
 refine sV (aO (cells:=[.int .i64 3,sv [88],.slice none 0 0,.bool true,.bool false]) Z<|λ_=>Zz) ?_
 refine aY Z Z en40 Z (heq) ?_
 refine sA Z<|sK [0,2,13,14,15,17,18] Z<|cQ<|sM Z<|sM Z<|sG Z Z (vM Z)<|sV (vQ Z Z)<|sM Z<|sG Z Z (vM Z)<|sV (vQ Z Z)<|sM Z<|sG Z Z (vM Z)<|sV (vQ Z Z) ?_
 refine sM Z<|sG Z Z (vM Z)<|sG Z Z (dP Z Z)<|sV (vQ Z Z)<|sM Z<|sG Z Z (vM Z)<|sV (vQ Z Z)<|sA Z<|sK [0] Z<|cT ?_
 exact aj Z ⟨Y4,[],Z,hX4,Z,Z⟩ sbq
end
end Go.Fl
namespace Go.Fl
open Go Go.RowKit Go.Ck Go.Proofs Go.Proofs.YtknmacdbffgjgaaGreatDoor Fx Go.Hr
theorem SmL.short {l:FS} (h:SmL l):jg l:=λc hc p hp=>by
 have:=(h.cls c hc).par p hp
 exact ⟨this.ren,this.und,this.red,this.sel⟩
attribute [local irreducible] Go.Ck.Sub St Cd Xt Nx DrL LsW
section
variable {X:Res} {v:Value} {l:FS}
end
end Go.Fl
