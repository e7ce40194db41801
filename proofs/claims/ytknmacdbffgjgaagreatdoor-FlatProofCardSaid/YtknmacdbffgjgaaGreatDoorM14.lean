/-
  Whole rows written and cleared. Generic. No condition.
-/
import Derived.Test.YtknmacdbffgjgaaGreatDoorM13
import Derived.Test.YtknmacdbffgjgaaGreatDoorM11
import Derived.Test.YtknmacdbffgjgaaGreatDoorM8
import Derived.Test.YtknmacdbffgjgaaGreatDoorM10
import Derived.Shelf.SlSortCmp.NoneTotal
set_option linter.unusedVariables false
set_option linter.unusedSimpArgs false
set_option maxRecDepth 100000
set_option maxHeartbeats 16000000
namespace Go.Fl
open Go Go.RowKit Go.Ck Go.Proofs Go.Proofs.Tryz Go.Proofs.YtknmacdbffgjgaaGreatDoor Fx Go.Hr
attribute [local irreducible] Go.Ck.Sub St Cd Xt Nx DrL LsW
instance encL {α : Type} [Enc α]:Enc (List α) where
 sz:=1
 by':=24
 rep S us xs:=∃ u,us=[u]/\Ls S u xs
 len h:=by obtain ⟨u,rfl,_⟩:=h; rfl
 ones h:=by obtain ⟨u,rfl,h2⟩:=h; simp [h2.one]
 up hr h:=by obtain ⟨u,h1,h2⟩:=h; exact ⟨u,h1,h2.up' hr⟩
theorem vw_full {a : Option Addr} {n cp : Nat} {E : TypeId} {sz : Nat} {rows : List (List Value)} {h : SH} : Vw (VR (.slice a n cp) E sz rows :: h) (VR (.slice a rows.length rows.length) E sz rows :: h) := λw ⟨h1, h2, h3⟩ => by
 refine ⟨?_,λb ⟨o,m,c,hb⟩=>?_,h3⟩
 ·refine ⟨h1.1,?_⟩
  rcases h1.2 with ⟨g1,g2⟩ | ⟨b,o,c,pre,j,g1,g2,g3,g4,g5,g6⟩
  ·cases g1; subst g2; exact .inl ⟨rfl,rfl⟩
  ·cases g1
   refine .inr ⟨b,o,rows.length,pre,j,Z,g2,g3,Nat.le_refl _,by omega,?_⟩
   exact Nat.le_trans (Nat.mul_le_mul_right _ g4) g6
 ·rcases h1.2 with ⟨g1,g2⟩ | ⟨b',o',c',pre,j,g1,g2,g3,g4,g5,g6⟩
  ·cases g1; cases hb
  ·cases g1; cases hb
   exact h2 b ⟨_,_,_,Z⟩
section
variable {X:Res} {v v':Value} {us us':List Value}
theorem Gw {xs:List Sd} {s:Sd} (hv:Ls X v xs):Reads prog 101 #[v,.agg #[sv s.cls,sv s.name]] [X] (.int .i64 (ixI (xs.findIdx? λx=>decide (x=s)))):=by
 have hml:maxLen=9223372036854775807:=rfl
 obtain ⟨a,cap,rfl,hlc,hcm,_⟩:=id hv.form
 refine aL (n:=19) func101 Z Z (len Z) λhr w0=>?_
 refine cQ (aP Z Z λb3=>?_)
 refine sA Z<|sK [0,3,4] Z<|cS<|cQ<|sM Z<|sV (aF Z underlying67)<|sM Z<|sK [0,3,4,7,8] Z<|cB<|aW (σ := Nat) (λi=>[(0,.slice a xs.length cap),(3,.pointer (some ⟨b3,0,none⟩)),(7,.int .i64 xs.length),(8,.int .i64 (i:Nat))]) (λ_=>X::pt b3 (cl [sv s.cls,sv s.name] 69)::hr) (λi=>i≤xs.length/\∀ j (hj:j<xs.length),j<i->xs[j]≠s) (λi=>xs.length - i) 0 ⟨Nat.zero_le _,λj _ hj=>absurd hj<|Nat.not_lt_zero _⟩ ?_
 rintro i ⟨hi,hal⟩
 refine cQ<|sV (aN Z Z)<|sN<|nT<|cS<|cC Z (λhd=>?_)<|λhd=>?_
 ·have hlt:i<xs.length:=Zx
  obtain ⟨b,o,cap2,us,e1,hus,hrd,hre⟩:=hv.at<|Zy hlt
  cases e1
  have hre:us=[sv (xs[i]).cls,sv (xs[i]).name]:=hre
  subst hre
  refine cK<|xT<|cS<|cB<|cQ<|sM Z<|sA Z<|sK [0,3,5,7,8] Z<|cS<|bB (ork [(0,1),(1,2),(2,2),(3,2),(4,1),(5,1)] .nil) (λ_=>true) mixed Zz ?_
  refine bi Z (af Z gM Z ag) ?_
  refine dV Z (vM Z)<|dV Z (vM Z)<|dV Z (vI (k:=i) Z Z oh Z hlt Z)<|bi Z (af Z gM Z hrd) ?_
  refine bi Z (iH tu Z Z)<|bA<|nK [0,3,5,7,8,16] Z<|nT ?_
  rw [<- su]
  refine cC Z (λhe=>?_)<|λhe=>?_
  ·have he:s=xs[i]:=of_decide_eq_true he
   rw [show xs.findIdx? (λx=>decide (x=s))=some i by
    rw [List.findIdx?_eq_some_iff_getElem]
    exact ⟨hlt,by simp [he],λj hj=>by simpa using hal j (by omega) hj⟩]
   refine cQ<|sM Z<|sA Z<|sK [4] Z<|cT<|xW<|xR<|xR<|xW<|xR ?_
   exact aj Z ⟨Z,Z⟩ sbq
  ·have he:s≠xs[i]:=of_decide_eq_false he
   refine cK<|xB<|xT<|cR<|sV (aI Z Z Z0)<|sM Z<|sN<|nK [0,3,7,8] Z<|ax<|aM (i+1) ⟨hlt,λj hj hj2=>?_⟩<|Nat.sub_lt_sub_left hlt<|Nat.lt_succ_self i
   by_cases hji:j=i
   ·subst hji; exact λe=>he e.symm
   ·exact hal j hj<|by omega
 ·have hil:i=xs.length:=by
   have:¬ i<xs.length:=Zx
   omega
  rw [show xs.findIdx? (λx=>decide (x=s))=none by
   rw [List.findIdx?_eq_none_iff]
   intro f hfm
   obtain ⟨j,hj,rfl⟩:=List.getElem_of_mem hfm
   simpa using hal j hj (by omega)]
  refine aC<|xE<|xE<|xY<|xT<|cQ<|sA Z<|sK [4] Z<|cT ?_
  exact aj Z ⟨Z,Z⟩ sbq
theorem El {xs:List Sd} {s:Sd}:(xs.any λx=>decide (x=s))=xs.contains s:=by
 rw [Bool.eq_iff_iff]; simp
theorem vW {xs:List Sd} {s:Sd} (hv:Ls X v xs):Reads prog 33 #[v,.agg #[sv s.cls,sv s.name]] [X] (.bool (xs.contains s)):=by
 rw [<- El,<- sj]
 obtain ⟨a,cap,rfl,hlc,hcm,_⟩:=id hv.form
 refine aL (n:=9) func33 Z Z (len Z) λhr w0=>?_
 refine cQ (aP Z Z λb3=>?_)
 refine sA Z<|sK [0,3,4] Z<|cQ<|sM Z<|sV (af Z gM Z ag) ?_
 refine aX Z Z en101 Z (Gw hv) ?_
 refine sV (qh Z Z)<|sA Z<|sK [4] Z<|cT ?_
 exact aj Z ⟨Z,Z⟩ sbq
theorem lU {ms:List Mb} {s:Sd} (hv:Ls X v ms):CtN prog 102 #[v,.agg #[sv s.cls,sv s.name]] [X] λu T=>u.oneCell'=true/\T=NR u (bn ms s):=by
 have hml:maxLen=9223372036854775807:=rfl
 have hrb:reachBytes=140737488351232:=rfl
 have hsz:ms.length * 232≤reachBytes:=hv.sizes
 obtain ⟨a,cap,rfl,hlc,hcm,_⟩:=id hv.form
 have hsn:∀ i (h:i<ms.length),bn (ms.take (i+1)) s=bn (ms.take i) s++(if (ms[i]).seeds.contains s then [(ms[i]).name] else []):=λi h=>by
  unfold bn
  rw [List.take_succ_eq_append_getElem h,List.filter_append,List.map_append]
  congr 1
  rw [List.filter_cons,List.filter_nil]
  split <;> simp
 have hle:∀ i,(bn (ms.take i) s).length≤i:=λi=>by
  unfold bn
  rw [List.length_map]
  exact Nat.le_trans (List.length_filter_le _ _) (by rw [List.length_take]; omega)
 refine aL (n:=25) func102 Z Z (len Z) λhr w0=>?_
 refine cQ (aP Z Z λb3=>?_)
 refine sA Z<|sK [0,3,4] Z<|cQ<|sA Z<|sN<|nT<|cS<|cQ<|sM Z<|sV (aF Z underlying52)<|sM Z<|sK [3,4,5,8,9,10] Z<|cB ?_
 refine dK (cZ 9 1)<|aW (σ := Value×Nat) (λq=>[(3,.pointer (some ⟨b3,0,none⟩)),(5,q.1),(8,.slice a ms.length cap),(9,.int .i64 ms.length),(10,.int .i64 (q.2:Nat))]) (λq=>NR q.1 (bn (ms.take q.2) s)::X::pt b3 (cl [sv s.cls,sv s.name] 69)::hr) (λq=>q.2≤ms.length/\q.1.oneCell'=true) (λq=>ms.length - q.2) (.slice none 0 0,0) ⟨Nat.zero_le _,Z⟩ ?_
 rintro ⟨w,i⟩ ⟨hi,hw⟩
 simp only at hi hw
 dsimp only
 refine cQ<|sV (aN Z Z)<|sN<|nT<|cS<|cC Z (λhd=>?_)<|λhd=>?_
 ·have hlt:i<ms.length:=Zx
  obtain ⟨b,o,cap2,us,e1,hus,hrd,ht⟩:=hv.at<|Zy hlt
  cases e1
  have hsn:=hsn i hlt
  have hle:=hle i
  generalize ms[i]=m at ht hsn
  have hone:=Enc.ones ht
  obtain ⟨x2,x5,xy,x11,x12,x13,rfl,hx2,hx5,hxy,hx11,hx12,hx13⟩:=bZ ht
  unfold fI at hrd hone
  refine cK<|xT<|cS<|cB<|cQ<|sV (vI (k:=i) Z Z kQ Z hlt Z)<|sV (af Z dJ Z hrd) ?_
  refine ak iR λb7=>?_
  refine ai Z Z gF Z hone ?_
  refine sK [3,5,7,8,9,10] Z<|cQ<|sV (vF Z dP Z)<|sV (vY Z nz) ?_
  refine sV (af Z gM Z ag) ?_
  refine aX Z Z en33 Z (vW hx2) ?_
  refine sK [3,5,7,8,9,10,17] Z<|cC Z (λhc=>?_)<|λhc=>?_
  ·have hc:m.seeds.contains s=true:=hc
   rw [hc,if_pos rfl] at hsn
   refine cR<|sM Z<|sV (vF Z dC Z)<|sV (vY Z ld9) ?_
   refine au (cells:=[sv m.name]) Z underlying40 fP Z Z Zz (ltn Z) λb62=>?_
   refine d9 [[sv m.name]] Z Z underlying40 fP Z (by decide) (show Sel _ (VR w 9 1<|(bn (ms.take i) s).map nC) _ from slq) (by simp) Z (λj u2 hu2=>bS<|bU Zr) (by simp; rfl) (by rw [List.length_map]; omega) (by rw [List.length_map]; omega) (ltn Z) λw2 hw2 _=>?_
   refine sA Z<|sN<|nK [3,5,8,9,10] Z<|ax<|xB<|xT<|cR<|sV (aI Z Z Z0)<|sM Z<|sN<|nK [3,5,8,9,10] Z<|ax ?_
   rw [show (bn (ms.take i) s).map nC++[[sv m.name]]=(bn (ms.take (i+1)) s).map nC by rw [hsn,List.map_append]; rfl]
   refine aM (w2,i+1) ⟨hlt,hw2⟩<|Nat.sub_lt_sub_left hlt<|Nat.lt_succ_self i
  ·have hc:m.seeds.contains s=false:=hc
   rw [hc,if_neg (by decide),List.append_nil] at hsn
   refine cK<|xB<|xT<|cR<|sV (aI Z Z Z0)<|sM Z<|sN<|nK [3,5,8,9,10] Z<|ax ?_
   rw [<- hsn]
   refine aM (w,i+1) ⟨hlt,hw⟩<|Nat.sub_lt_sub_left hlt<|Nat.lt_succ_self i
 ·have hil:i=ms.length:=by
   have:¬ i<ms.length:=Zx
   omega
  rw [hil,List.take_length]
  refine aC<|xE<|xE<|xY<|xT<|cQ<|sM Z<|sA Z<|sK [4] Z<|cT ?_
  exact aj Z ⟨_,Z,hw,Z⟩ sbq
end
section
variable {X:Res} {v v':Value} {us us':List Value}
def Gx (a b:Sd):Int:=orI [rf a.cls b.cls,rf a.name b.name]
theorem Em (a b:Sd):Reads prog 198 #[.agg #[sv a.cls,sv a.name],.agg #[sv b.cls,sv b.name]] [] (.int .i64 (Gx a b)):=by
 refine aL (n:=17) func198 Z Z (len Z) λhr w0=>?_
 refine cQ (aP Z Z λb2=>?_)
 refine aP Z Z λb3=>?_
 refine sA Z<|sK [2,3,4] Z<|cS<|bB (ork [(0,2),(1,1),(2,2),(3,1),(4,1),(5,2),(6,1),(7,2),(8,1),(9,1),(10,0),(11,0),(12,2)] .nil) (λi => !(Nat.beq i 10 || Nat.beq i 11)) mixed Zz ?_
 refine dV Z (vF Z wI Z)<|bi Z (vY Z ld9) ?_
 refine dV Z (vF Z wI Z)<|bi Z (vY Z ld9) ?_
 refine gY Z Z Z Kc Z (yS a.cls b.cls) ?_
 refine dV Z (vF Z wJ Z)<|bi Z (vY Z ld9) ?_
 refine dV Z (vF Z wJ Z)<|bi Z (vY Z ld9) ?_
 refine gY Z Z Z Kc Z (yS a.name b.name) ?_
 refine aV Z (au (cells:=[.int .i64 (rf a.cls b.cls),.int .i64 (rf a.name b.name)]) Z underlying333 om Z Z Zz (ltn Z) λb51=>aY ?_)
 refine aV Z<|aJ Z Z en227 Z (Or_ct (xs:=[rf a.cls b.cls,rf a.name b.name]) Ko<|by simp) ?_
 rintro u h' ⟨rfl,rfl⟩
 simp only [lC,lN]
 refine aY ?_
 refine dV Z (vA Z)<|bA<|nK [4] Z<|nT<|cT ?_
 exact aj Z ⟨Z,Z⟩ sbq
theorem LV {F:List Fm} {A:List Kt} {fv av:Value} {t:Kt} (hF:Ls X fv F) (hA:Ls X av A) (h:Ty X us t) :
  CtN prog 52 #[.agg us.toArray,fv,av] [X] λu T=>∃ us':List Value,u = .tuple #[.agg us'.toArray,.int .i64 (if F.length=A.length then 0 else 2)]/\Ty T us' (if F.length=A.length then dh F A t else .mk 0 [] [] false false):=by
 obtain ⟨x,rfl,hx⟩:=ek h
 obtain ⟨xa,xc,rfl,_⟩:=id hx.form
 obtain ⟨fa,fc,hfv,_⟩:=id hF.form
 obtain ⟨aa,ac,hav,_⟩:=id hA.form
 by_cases hl:F.length=A.length
 ·have hc:=Aj hl hF hA h
  rw [if_pos hl,if_pos hl]
  unfold tyC at hc ⊢
  subst hfv hav
  refine aL (n:=19) func52 Z Z (len Z) λhr w0=>?_
  refine cQ (aP Z Z λb3=>?_)
  refine ak zM λb6=>?_
  refine sA Z<|sK [1,2,3,6,7] Z<|cS<|cQ<|sM Z<|sV (aF Z underlying38)<|sM Z<|sV (aF Z underlying71)<|sV (bK Z Z)<|sK [1,2,3,6,7,12] Z ?_
  rw [show ((F.length:Int) != A.length)=false by rw [hl]; simp]
  refine aH Z ?_
  refine cK<|xT<|cQ<|sV (af Z fD Z ag) ?_
  refine sM Z<|sM Z<|aJ Z Z Kb Z (hc) ?_
  rintro u h' ⟨T,rfl,us2,rfl,hT⟩
  simp only [lC,lN]
  have hcp:=j4<|Ag hT
  refine aJ Z Z Ka Z (hcp) ?_
  rintro u h' ⟨T2,rfl,us3,rfl,hT2⟩
  simp only [lC,lN]
  have h5:us3.length=5:=Enc.len hT2
  have h1:=Enc.ones hT2
  refine ai (hl:=by rw [h5]; rfl) Z Z nY h5 h1 ?_
  refine sA Z<|sK [6,7] Z<|cT ?_
  exact bE (.cellN Z fD h5 slq<|.tmp Z .nil) ⟨T2,Z,us3,Z,hT2⟩ sbr
 ·rw [if_neg hl,if_neg hl]
  unfold tyC
  subst hfv hav
  refine aL (n:=19) func52 Z Z (len Z) λhr w0=>?_
  refine cQ (aP Z Z λb3=>?_)
  refine ak zM λb6=>?_
  refine sA Z<|sK [1,2,3,6,7] Z<|cS<|cQ<|sM Z<|sV (aF Z underlying38)<|sM Z<|sV (aF Z underlying71)<|sV (bK Z Z)<|sK [1,2,3,6,7,12] Z ?_
  rw [show ((F.length:Int) != A.length)=true by simp; omega]
  refine aQ Z ?_
  refine cQ<|sV (aO (cells:=[.int .i64 0,sv [],.slice none 0 0,.bool false,.bool false]) Z<|λ_=>Zz) ?_
  refine ai Z Z nY Z Z ?_
  refine sA Z<|sK [6,7] Z<|cT<|xR<|jG (eQ (L:=[])) ?_
  exact bE (.cellN Z fD Z slq<|.tmp Z .nil) ⟨Res.star [],Z,_,Z,fZ (t:=.mk 0 [] [] false false) Z Ls.nil⟩ sbr
theorem Gy {x g:Grp} {b7:Nat} {gs:List Value} {L L':SH} (hs:Sel L (pt b7 (cl gs 170)) L') (hgl:gs.length=2) (h:Enc.rep (Res.star L) us x) (hg:Enc.rep (Res.star L) gs g):Reads prog 248 #[.agg us.toArray,.pointer (some ⟨b7,0,none⟩)] [Res.star L] (.bool (decide (x=g))):=by
 have hsm:=vV h hg
 have hrd:Rds (Res.star L) b7 0 gs:=λi hi=>rU hs<|ag i hi
 obtain ⟨y,rfl,_⟩:=h
 refine aL (n:=7) func248 Z Z (len Z) λhr w0=>?_
 refine cQ (aP Z Z λb2=>?_)
 refine sA Z<|sK [1,2,3] Z<|cQ<|sV (af Z lQ Z ag) ?_
 refine sV (af Z lQ hgl hrd) ?_
 refine aX Z Z Kg Z (hsm) ?_
 refine sA Z<|sK [3] Z<|cT ?_
 exact aj Z ⟨Z,Z⟩ sbq
theorem Bc {xs:List Grp} {g:Grp}:(xs.any λx=>decide (x=g))=xs.contains g:=by
 rw [Bool.eq_iff_iff]; simp
theorem Gz (xs:List Grp):∀ o,(rz o xs).length≤o.length+xs.length:=by
 induction xs with
 | nil=>intro o; exact Nat.le_refl _
 | cons g t ih =>
  intro o
  have h1:(vL o g).length≤o.length+1:=by unfold vL; split <;> simp
  have:=ih<|vL o g
  show (rz (vL o g) t).length≤_
  simp only [List.length_cons]; omega
theorem LW (o xs:List Grp) (g:Grp):rz o (xs++[g])=vL (rz o xs) g:=by simp [rz]
theorem GA (ls:List (List Grp)) (xs:List Grp):groups (ls++[xs])=rz (groups ls) xs:=by simp [groups]
theorem mg (ls:List (List Grp)):(groups ls).length≤ls.flatten.length:=by
 have key:∀ (ls:List (List Grp)) (o:List Grp),(ls.foldl rz o).length≤o.length+ls.flatten.length:=by
  intro ls
  induction ls with
  | nil=>intro o; simp
  | cons a t ih =>
   intro o
   have h1:=Gz a o
   have h2:=ih<|rz o a
   rw [List.foldl_cons,List.flatten_cons,List.length_append]; omega
 simpa [groups] using key ls []
theorem sD {ls:List (List Grp)} (hv:Ls X v ls) (hb:ls.flatten.length * 40≤reachBytes):CtN prog 196 #[v] [X] λu T=>u.oneCell'=true/\∃ rows,T=VR u 170 2 rows/\Rws X rows (groups ls):=by
 have hml:maxLen=9223372036854775807:=rfl
 have hrb:reachBytes=140737488351232:=rfl
 have hsz:ls.length * 24≤reachBytes:=hv.sizes
 obtain ⟨a,cap,rfl,hlc,hcm,_⟩:=id hv.form
 refine aL (n:=36) func196 Z Z (len Z) λhr w0=>?_
 refine cQ<|sA Z<|sN<|nT<|cQ<|sA Z<|sN<|nT<|cS<|cQ<|sM Z<|sV (aF Z underlying312)<|sM Z ?_
 refine sK [2,3,8,9,10] Z<|cB<|dK (cZ 170 2)<|aW (σ := Value×List (List Value)×Nat) (λq=>[(3,q.1),(8,.slice a ls.length cap),(9,.int .i64 ls.length),(10,.int .i64 (q.2.2:Nat))]) (λq=>VR q.1 170 2 q.2.1::X::hr) (λq=>q.2.2≤ls.length/\q.1.oneCell'=true/\Rws X q.2.1 (groups<|ls.take q.2.2)) (λq=>ls.length - q.2.2) (.slice none 0 0,[],0) ⟨Nat.zero_le _,Z,Rws.nil⟩ ?_
 rintro ⟨w,rows,i⟩ ⟨hi,hw,hro⟩
 simp only at hi hw hro
 dsimp only
 refine gz (v:=w) (E:=170) (sz:=2) (rows:=rows) slq λwa wc hwf hwl hwm=>?_
 subst hwf
 refine cQ<|sV (aN Z Z)<|sN<|nT<|cS<|cC Z (λhd=>?_)<|λhd=>?_
 ·have hlt:i<ls.length:=Zx
  obtain ⟨b,o,cap2,us,e1,hus,hrd,u1,rfl,hu1⟩:=hv.at<|Zy hlt
  cases e1
  have hrd1:Rd X ⟨b,o+i * 1,none⟩ u1:=hrd 0<|by simp
  have htk:ls.take (i+1)=ls.take i++[ls[i]]:=List.take_succ_eq_append_getElem hlt
  have hfl:(ls.take i).flatten.length+(ls[i]).length≤ls.flatten.length:=by
   have h1:ls=ls.take i++ls[i]::ls.drop (i+1):=by rw [List.getElem_cons_drop,List.take_append_drop]
   have h2:=congrArg (λx=>x.flatten.length) h1
   simp only [List.flatten_append,List.flatten_cons,List.length_append] at h2
   omega
  have hgl:=mg<|ls.take i
  generalize hxs:ls[i]=xs at hu1 htk hfl
  obtain ⟨a2,k2,rfl,hlc2,hcm2,_⟩:=id hu1.form
  refine cK<|xT<|cS<|cB<|cQ<|sV (vI (k:=i) Z Z sl312 Z hlt Z)<|sV (vY Z lL) ?_
  refine sA Z<|sK [3,5,8,9,10] Z<|cQ<|sM Z<|sV (aF Z underlying53)<|sM Z<|sK [3,8,9,10,14,15,16] Z<|cB<|aW (σ := Value×List (List Value)×Nat) (λq=>[(3,q.1),(8,.slice (some ⟨b,o,none⟩) ls.length cap),(9,.int .i64 ls.length),(10,.int .i64 (i:Nat)),(14,.slice a2 xs.length k2),(15,.int .i64 xs.length),(16,.int .i64 (q.2.2:Nat))]) (λq=>VR q.1 170 2 q.2.1::X::hr) (λq=>q.2.2≤xs.length/\q.1.oneCell'=true/\Rws X q.2.1 (rz (groups<|ls.take i)<|xs.take q.2.2)) (λq=>xs.length - q.2.2) (.slice wa rows.length wc,rows,0) ⟨Nat.zero_le _,hw,hro⟩ ?_
  rintro ⟨w,rows,j⟩ ⟨hj,hw,hro⟩
  simp only at hj hw hro
  dsimp only
  refine cQ<|sV (aN Z Z)<|sN<|nT<|cS<|cC Z (λhd2=>?_)<|λhd2=>?_
  ·have hltj:j<xs.length:=Zw
   obtain ⟨b2,o2,cap3,gs,e2,hgs,hrdg,hg⟩:=hu1.at<|Zy hltj
   cases e2
   have hgs:gs.length=2:=hgs
   have htj:xs.take (j+1)=xs.take j++[xs[j]]:=List.take_succ_eq_append_getElem hltj
   have hrl:rows.length≤(ls.take i).flatten.length+j:=by
    rw [hro.1]
    have:=Gz (xs.take j)<|groups<|ls.take i
    rw [List.length_take] at this
    omega
   have hgsn:=LW (groups<|ls.take i) (xs.take j) xs[j]
   rw [<- htj] at hgsn
   generalize xs[j]=g at hg hgsn
   generalize ho:rz (groups<|ls.take i) (xs.take j)=out at hro hgsn
   have hone:=Enc.ones hg
   refine cK<|xT<|cS<|cB<|cQ<|sV (vI (k:=j) Z Z Fs Z hltj Z)<|sV (af Z lQ hgs hrdg) ?_
   refine ak Fv λb7=>?_
   refine ai (hl:=by rw [hgs]; rfl) Z Z zF hgs hone ?_
   refine oF (r:=VR w 170 2 rows) slq λhok=>?_
   have hlo:out.length * 40≤reachBytes:=by
    rw [<- hro.1]
    have h9:rows.length≤ls.flatten.length:=by omega
    exact Nat.le_trans (Nat.mul_le_mul_right _ h9) hb
   have hsX:∀ p u,Rd X p u->Rd (Res.star [pt b7 (cl gs 170),VR w 170 2 rows,X]) p u:=bH<|.there<|.there .here
   have hlsw:Ls (Res.star [pt b7 (cl gs 170),VR w 170 2 rows,X]) w out:=Rws.ls (E:=170) ⟨hro.1,λj us x h1 h2=>Enc.up hsX<|hro.2 j us x h1 h2⟩ hok (bH<|.there .here) hlo
   have htell:∀ x∈out,∀ us,Enc.rep (Res.star [pt b7 (cl gs 170),VR w 170 2 rows,X]) us x->Reads prog 248 (#[]++([.agg us.toArray]:List Value).toArray ++ #[.pointer (some ⟨b7,0,none⟩)]) [Res.star [pt b7 (cl gs 170),VR w 170 2 rows,X]] (.bool<|decide (x=g)):=λx _ us h=>Gy .here hgs h<|Enc.up hsX hg
   refine sK [3,7,8,9,10,14,15,16] Z<|cQ<|sM Z<|sV (cz Z Z)<|aX Z Z en93 Z ((eU<|NU (X:=Res.star [pt b7 (cl gs 170),VR w 170 2 rows,X]) hlsw en248 htell)) ?_
   rw [Bc]
   refine sV (aZ Z)<|sK [3,7,8,9,10,14,15,16,23] Z<|cC Z (λhc=>?_)<|λhc=>?_
   ·have hc:out.contains g=false:=Zl
    have hga:vL out g=out++[g]:=by unfold vL; rw [hc,if_neg (by decide)]
    have hb1:(rows.length+1) * 40≤reachBytes:=Nat.le_trans (Nat.mul_le_mul_right 40 (show rows.length+1≤ls.flatten.length by omega)) hb
    obtain ⟨g0,g1,rfl⟩:=len2 hgs
    refine cR<|sM Z<|sV (af Z lQ Z ag) ?_
    refine au (cells:=[g0,g1]) Z underlying53 nu Z Z Zz (ltn Z) λb62=>?_
    refine d9 [[g0,g1]] Z Z underlying53 nu Z (by decide) (show Sel _ (VR w 170 2 rows) _ from slq) (by simp) Z (λj u2 hu2=>bS<|bU Zr) (by simpa using hone) (by omega) (by omega) (ltn Z) λw2 hw2 _=>?_
    refine sA Z<|sN<|nK [3,8,9,10,14,15,16] Z<|ax<|xB<|xT<|cR<|sV (aI Z Z Z0)<|sM Z<|sN<|nK [3,8,9,10,14,15,16] Z<|ax ?_
    refine aM (w2,rows++[[g0,g1]],j+1) ⟨hltj,hw2,by rw [hgsn,hga]; exact hro.snoc hg⟩<|Nat.sub_lt_sub_left hltj<|Nat.lt_succ_self j
   ·have hc:out.contains g=true:=Zl
    have hga:vL out g=out:=by unfold vL; rw [hc,if_pos rfl]
    refine cK<|xB<|xT<|cR<|sV (aI Z Z Z0)<|sM Z<|sN<|nK [3,8,9,10,14,15,16] Z<|ax ?_
    refine aM (w,rows,j+1) ⟨hltj,hw,by rw [hgsn,hga]; exact hro⟩<|Nat.sub_lt_sub_left hltj<|Nat.lt_succ_self j
  ·have hil:j=xs.length:=by
    have:¬ j<xs.length:=Zw
    omega
   rw [hil,List.take_length,<- GA,<- htk] at hro
   refine aC<|xE<|xE<|xY<|xB<|xT<|cR<|sV (aI Z Z Z0)<|sM Z<|sN<|nK [3,8,9,10] Z<|ax ?_
   refine aM (w,rows,i+1) ⟨hlt,hw,hro⟩<|Nat.sub_lt_sub_left hlt<|Nat.lt_succ_self i
 ·have hil:i=ls.length:=by
   have:¬ i<ls.length:=Zx
   omega
  rw [hil,List.take_length] at hro
  refine aC<|xE<|xE<|xY<|xT<|cQ<|sM Z<|sM Z<|sV (aF Z underlying53)<|sM Z<|sV (aF Z underlying53)<|sV (Ae (hi:=rows.length) (mx:=rows.length) Z Z Z Fs Z Z (Nat.le_refl _) hwl)<|sA Z ?_
  refine sK [2] Z<|cT<|jG (Vw.sel (r:=VR (.slice wa rows.length wc) 170 2 rows) slq vw_full) ?_
  exact aj Z ⟨_,Z,Z,rows,Z,hro⟩ sbq
end
theorem CZ {xs:List Nm} {i:Nat} (h:i<xs.length) (hc:(xs.take i).contains xs[i]=true):¬ xs.Nodup:=λhn=>by
 obtain ⟨j,hj,he⟩:=List.mem_take_iff_getElem.1<|List.contains_iff_mem.1 hc
 have:=(List.getElem_inj hn).1 he
 omega
theorem Ak {xs:List Nm} {i:Nat} (h:i<xs.length) (hn:(xs.take i).Nodup) (hc:(xs.take i).contains xs[i]=false):(xs.take (i+1)).Nodup:=by
 rw [List.take_succ_eq_append_getElem h]
 refine List.nodup_append.2 ⟨hn,by simp,λa ha b hb e=>?_⟩
 rw [List.mem_singleton] at hb
 subst hb; subst e
 rw [List.contains_iff_mem.2 ha] at hc; cases hc
section
variable {X:Res} {v:Value}
theorem GD {cs:List Fm} (hv:Ls X v cs):Reads prog 143 #[v,.func (.func 144) #[] #[]] [X] (.bool (!decide (cs.map λc=>c.name).Nodup)):=by
 have hml:maxLen=9223372036854775807:=rfl
 obtain ⟨a,cap,rfl,hlc,hcm,_⟩:=id hv.form
 generalize hxs:(cs.map λc=>c.name)=xs
 have hlen:xs.length=cs.length:=by rw [<- hxs,List.length_map]
 refine aL (n:=25) func143 Z Z (len Z) λhr w0=>?_
 refine cQ<|sA Z<|sN<|nT<|cQ (eO (ltn Z) λb8=>?_)
 refine sA Z<|sK [0,1,4,5] Z<|cS<|cQ<|sM Z<|sV (aF Z underlying38)<|sM Z<|sK [1,4,5,9,10,11] Z<|cB<|aW (σ := Nat×List (Nm×Unit)) (λq=>[(1,.func (.func 144) #[] #[]),(5,.map (some b8)),(9,.slice a cs.length cap),(10,.int .i64 cs.length),(11,.int .i64 (q.1:Nat))]) (λq=>mps b8 (mvG tV q.2)::X::hr) (λq=>q.1≤cs.length/\(xs.take q.1).Nodup/\sZ (xs.take q.1) q.2) (λq=>cs.length - q.1) (0,[]) ⟨Nat.zero_le _,List.nodup_nil,λ_=>rfl⟩ ?_
 rintro ⟨i,D⟩ ⟨hi,hn,hD⟩
 simp only at hi hn hD
 dsimp only
 refine cQ<|sV (aN Z Z)<|sN<|nT<|cS<|cC Z (λhd=>?_)<|λhd=>?_
 ·have hlt:i<cs.length:=Zx
  have hlt2:i<xs.length:=by rw [hlen]; exact hlt
  obtain ⟨b,o,cap2,us,e1,hus,hrd,hre⟩:=hv.at<|Zy hlt
  cases e1
  have hus2:us=[sv cs[i].name,sv cs[i].bound]:=hre
  subst hus2
  have hnm:Reads prog 144 #[.agg [sv cs[i].name,sv cs[i].bound].toArray] [] (sv xs[i]):=by rw [show xs[i]=cs[i].name by simp [<- hxs]]; exact NY hre
  have hone:=Enc.ones hre
  refine cK<|xT<|cS<|cB<|cQ<|sV (vI (k:=i) Z Z sl38 Z hlt Z)<|sV (af Z JY Z hrd) ?_
  refine ak al111 λb7=>?_
  refine ai Z Z sz111 Z hone ?_
  refine sK [1,5,7,9,10,11] Z<|cS<|cQ<|sM Z<|sM Z<|sV (af Z JY Z ag) ?_
  refine aX Z Z en144 Z (hnm) ?_
  refine sV (gG (hD.look xs[i])<|bI Z Z xK inf4 slq) ?_
  refine sK [1,5,7,9,10,11,19] Z<|cC Z (λhf=>?_)<|λhf=>?_
  ·have hno:=CZ hlt2 hf
   rw [decide_eq_false hno]
   refine cQ<|sA Z<|sK [4] Z<|cT<|xR<|xW<|xR<|xR<|xW<|xR ?_
   exact aj Z ⟨Z,Z⟩ sbq
  ·refine cK<|xT<|cR<|sM Z<|sM Z<|sV (af Z JY Z ag) ?_
   refine aX Z Z en144 Z (hnm) ?_
   refine cO Z Z Z xK slq ?_
   refine sN<|nK [1,5,9,10,11] Z<|ax<|xB<|xT<|cR<|sV (aI Z Z Z0)<|sM Z<|sN<|nK [1,5,9,10,11] Z<|ax ?_
   rw [show eG (mvG tV D) xs[i] (.bool true)=mvG tV (fV D xs[i] ()) from oI tV _ _ ()]
   refine aM (i+1,fV D xs[i] ()) ⟨hlt,Ak hlt2 hn hf,by rw [List.take_succ_eq_append_getElem hlt2]; exact hD.next _⟩ (by show cs.length - (i+1)<cs.length - i; omega)
 ·have hil:i=cs.length:=Nat.le_antisymm hi<|Nat.not_lt.1 Zx
  rw [hil,<- hlen,List.take_length] at hn
  rw [decide_eq_true hn]
  refine aC<|xE<|xE<|xY<|xT<|cQ<|sA Z<|sK [4] Z<|cT ?_
  exact aj Z ⟨Z,Z⟩ sbq
theorem GG {cs:List Pn} (hv:Ls X v cs):Reads prog 148 #[v,.func (.func 149) #[] #[]] [X] (.bool (!decide (cs.map λc=>c.fro).Nodup)):=by
 have hml:maxLen=9223372036854775807:=rfl
 obtain ⟨a,cap,rfl,hlc,hcm,_⟩:=id hv.form
 generalize hxs:(cs.map λc=>c.fro)=xs
 have hlen:xs.length=cs.length:=by rw [<- hxs,List.length_map]
 refine aL (n:=25) func148 Z Z (len Z) λhr w0=>?_
 refine cQ<|sA Z<|sN<|nT<|cQ (eO (ltn Z) λb8=>?_)
 refine sA Z<|sK [0,1,4,5] Z<|cS<|cQ<|sM Z<|sV (aF Z underlying86)<|sM Z<|sK [1,4,5,9,10,11] Z<|cB<|aW (σ := Nat×List (Nm×Unit)) (λq=>[(1,.func (.func 149) #[] #[]),(5,.map (some b8)),(9,.slice a cs.length cap),(10,.int .i64 cs.length),(11,.int .i64 (q.1:Nat))]) (λq=>mps b8 (mvG tV q.2)::X::hr) (λq=>q.1≤cs.length/\(xs.take q.1).Nodup/\sZ (xs.take q.1) q.2) (λq=>cs.length - q.1) (0,[]) ⟨Nat.zero_le _,List.nodup_nil,λ_=>rfl⟩ ?_
 rintro ⟨i,D⟩ ⟨hi,hn,hD⟩
 simp only at hi hn hD
 dsimp only
 refine cQ<|sV (aN Z Z)<|sN<|nT<|cS<|cC Z (λhd=>?_)<|λhd=>?_
 ·have hlt:i<cs.length:=Zx
  have hlt2:i<xs.length:=by rw [hlen]; exact hlt
  obtain ⟨b,o,cap2,us,e1,hus,hrd,hre⟩:=hv.at<|Zy hlt
  cases e1
  have hus2:us=[sv cs[i].fro,sv cs[i].to]:=hre
  subst hus2
  have hnm:Reads prog 149 #[.agg [sv cs[i].fro,sv cs[i].to].toArray] [] (sv xs[i]):=by rw [show xs[i]=cs[i].fro by simp [<- hxs]]; exact Gc hre
  have hone:=Enc.ones hre
  refine cK<|xT<|cS<|cB<|cQ<|sV (vI (k:=i) Z Z sl86 Z hlt Z)<|sV (af Z qV Z hrd) ?_
  refine ak Fu λb7=>?_
  refine ai Z Z zD Z hone ?_
  refine sK [1,5,7,9,10,11] Z<|cS<|cQ<|sM Z<|sM Z<|sV (af Z qV Z ag) ?_
  refine aX Z Z en149 Z (hnm) ?_
  refine sV (gG (hD.look xs[i])<|bI Z Z xK inf4 slq) ?_
  refine sK [1,5,7,9,10,11,19] Z<|cC Z (λhf=>?_)<|λhf=>?_
  ·have hno:=CZ hlt2 hf
   rw [decide_eq_false hno]
   refine cQ<|sA Z<|sK [4] Z<|cT<|xR<|xW<|xR<|xR<|xW<|xR ?_
   exact aj Z ⟨Z,Z⟩ sbq
  ·refine cK<|xT<|cR<|sM Z<|sM Z<|sV (af Z qV Z ag) ?_
   refine aX Z Z en149 Z (hnm) ?_
   refine cO Z Z Z xK slq ?_
   refine sN<|nK [1,5,9,10,11] Z<|ax<|xB<|xT<|cR<|sV (aI Z Z Z0)<|sM Z<|sN<|nK [1,5,9,10,11] Z<|ax ?_
   rw [show eG (mvG tV D) xs[i] (.bool true)=mvG tV (fV D xs[i] ()) from oI tV _ _ ()]
   refine aM (i+1,fV D xs[i] ()) ⟨hlt,Ak hlt2 hn hf,by rw [List.take_succ_eq_append_getElem hlt2]; exact hD.next _⟩ (by show cs.length - (i+1)<cs.length - i; omega)
 ·have hil:i=cs.length:=Nat.le_antisymm hi<|Nat.not_lt.1 Zx
  rw [hil,<- hlen,List.take_length] at hn
  rw [decide_eq_true hn]
  refine aC<|xE<|xE<|xY<|xT<|cQ<|sA Z<|sK [4] Z<|cT ?_
  exact aj Z ⟨Z,Z⟩ sbq
end
end Go.Fl
namespace Go.Ck
open Go Go.RowKit Go.Proofs Go.Shelf
theorem bR {P : Program} {f : FuncId} {B : Func} (nm : String) (h1 : (nm == "runtime.NumGoroutine") = false) (h2 : P.funcs[f]? = some { B with name := nm }) : Bears P f B := ⟨nm, h1, h2⟩
theorem grow_of {P : Program} {g : FuncId} {args : Array Value} {v : Value} (h : Ct P g args [] λu h' => u = v /\ h' = []) (w : World) :
  Calls P g args w λe w'=>e = .returned v/\∃ q os',w'=Sort.grow (w.drewN q) os':=by
 refine (h [old w] w<|wE w).mono ?_
 rintro e w' ⟨u,h',rfl,⟨rfl,rfl⟩,hh,hs⟩
 refine ⟨Z,w'.drawn - w.drawn,w'.heap.extract w.heap.size w'.heap.size,?_⟩
 have ho:∀ b,b<w.heap.size->w'.heap[b]? = w.heap[b]? := hh.1
 have hd:=hs.dw
 have hz:=hs.size
 have h1 : w'.heap = w.heap ++ w'.heap.extract w.heap.size w'.heap.size := by
  apply Array.ext
  ·simp; omega
  ·intro i hi1 hi2
   by_cases hi:i<w.heap.size
   ·have:=ho i hi
    rw [Array.getElem?_eq_getElem hi1,Array.getElem?_eq_getElem hi] at this
    rw [Array.getElem_append_left hi]
    exact Option.some.inj this
   ·rw [Array.getElem_append_right (by omega),Array.getElem_extract]
    congr 1; omega
 obtain ⟨e1,e2,e3⟩:=(⟨hs.os,hs.tape,hs.output⟩:w'.os=w.os/\w'.tape=w.tape/\w'.output=w.output)
 unfold Sort.grow World.drewN
 cases w' with
 | mk hp' tp dr os ou =>
  simp only at h1 e1 e2 e3 hd ⊢
  rw [<- h1,e1,e2,e3]
  congr 1
  omega
theorem Am {α : Type} [Inhabited α] {enc : α -> List Value} {k:Nat} (hk:∀ x,(enc x).length=k) (xs:List α):Sort.flatK enc k xs.toArray=(xs.map enc).flatten.toArray:=by
 have hl:(xs.map enc).flatten.length=xs.length * k:=by
  induction xs with
  | nil=>simp
  | cons x t ih=>rw [List.map_cons,List.flatten_cons,List.length_append,hk,ih,List.length_cons,Nat.add_mul]; omega
 refine Sort.ext_get! (by rw [Sort.size_flatK,List.size_toArray,List.size_toArray,hl]) λt ht=>?_
 have ht':t<xs.length * k:=by simpa using ht
 have k0:0<k:=Nat.pos_of_ne_zero λh=>by rw [h] at ht'; simp at ht'
 have hq:t / k<xs.length:=Nat.div_lt_of_lt_mul (by rw [Nat.mul_comm]; exact ht')
 rw [Sort.get_flatK _ _ _ t (by simpa using ht')]
 have e1:xs.toArray[t / k]! = xs[t / k]:=by rw [getElem!_pos xs.toArray _ Zu]; simp
 have hr:t % k<(enc xs[t / k]).length:=by rw [hk]; exact Nat.mod_lt _ k0
 rw [e1]
 have h3:=pG (rows:=xs.map enc) (sz:=k) (m:=t / k) (k:=t % k) (r:=enc xs[t / k]) (x:=(enc xs[t / k])[t % k]) (by simp only [List.mem_map]; rintro r ⟨x,-,rfl⟩; exact hk x) (by rw [List.getElem?_map,Zy hq]; rfl)<|Zy hr
 rw [Nat.div_add_mod' t k] at h3
 have h4:t<(xs.map enc).flatten.length:=by rw [hl]; exact ht'
 rw [Zy h4] at h3
 rw [getElem!_pos (enc xs[t / k]) _ hr,getElem!_pos _ t (by simpa using h4)]
 simpa using (Option.some.inj h3).symm
theorem IR {F X:List Value} {pre j:List Value} (hl:F.length=X.length):Sort.putCells id pre.length F.toArray (pre++(X++j)).toArray=(pre++(F++j)).toArray:=by
 apply Array.ext
 ·simp [Sort.putCells,hl]
 ·intro k h1 h2
  simp only [Sort.putCells,Array.getElem_mapIdx,List.size_toArray,List.getElem_toArray,List.getElem_append]
  by_cases hk:k<pre.length
  ·have h3:¬ (pre.length≤k/\k<pre.length+F.length):=by omega
   simp only [hk,h3,dite_true,if_false]
  ·by_cases hk2:k - pre.length<F.length
   ·have h3:pre.length≤k/\k<pre.length+F.length:=by omega
    simp only [hk,h3,hk2,dite_true,dite_false,if_true,and_self]
    rw [getElem!_pos F.toArray _ (by simpa using hk2)]
    simp
   ·have h3:¬ (pre.length≤k/\k<pre.length+F.length):=by omega
    have h4:¬ k - pre.length<X.length:=by omega
    simp only [hk,h4,dite_false,hl]
    rw [hl] at h3
    rw [if_neg h3]
theorem GH {P : Program} {ρ : Ren} {α : Type} [Inhabited α] (L : SlLaysF0.n6 P ρ) {k : Nat} {E : TypeId} (aE : ∀ w, (isAgg (ρ.t 24)).run P w = .ok true w) (zE : ∀ w, (Go.sizeOf (ρ.t 24)).run P w = .ok k w) {enc : α -> List Value} (hk : ∀ x, (enc x).length = k) (h1 : ∀ x, ∀ v ∈ enc x, v.oneCell' = true) {cf : α -> α -> Int} (hO : Sort.SWO (ltOf cf)) {g : FuncId} (eg : Enters P g)
  (hc:∀ x y,Ct P g #[.agg (enc x).toArray,.agg (enc y).toArray] [] λu h'=>u = .int .i64 (cf x y)/\h'=[]) {v:Value} {xs:List α} (hl:xs.length≤1099511627776) :
  Ct P (ρ.f 6) #[v,.func (.func g) #[] #[]] [VR v E k (xs.map enc)] λu h'=>u = .tuple #[]/\∃ ys:List α,ys.Perm xs/\ys.Pairwise (λa b=>cf b a<0->False)/\h'=[VR v E k (ys.map enc)]:=by
 intro hr w hh
 have hv:=hh.1
 rcases hv.2 with ⟨rfl,h0⟩ | ⟨b,o,cp,pre,j,rfl,hb,hpre,hc1,hc2,hc3⟩
 ·have hx:xs=[]:=List.map_eq_nil_iff.1 h0
  subst hx
  exact (AnyF.slices_SortFunc_none L none 0 _ w).mono λe w' ⟨h1,h2⟩=>⟨.tuple #[],_,h1,⟨Z,[],.nil,.nil,Z⟩,by rw [h2]; exact hh,by rw [h2]; exact Same.refl w⟩
 ·have hb : w.heap[b]? = some (cl (pre ++ ((xs.map enc).flatten ++ j)) E) := hb
  have hlt:b<w.heap.size:=(Array.getElem?_eq_some_iff.1 hb).1
  have hH:Sort.HoldsK enc k w b o xs.toArray:=by
   unfold Sort.HoldsK
   rw [Am hk]
   intro i hi
   have hi:i<(xs.map enc).flatten.length:=Zi
   refine ⟨?_,by simp [World.frozen?,hb,cl]⟩
   rw [getElem!_pos _ i Zi]
   simp only [World.cell?,hb,cl,Option.isSome_none,Bool.false_eq_true,if_false,List.getElem?_toArray]
   rw [<- hpre,List.getElem?_append_right (by omega),Nat.add_sub_cancel_left,List.getElem?_append_left hi,Zy hi]
   rfl
  rw [show (xs.map enc).length=xs.toArray.size by simp]
  have hc:=AnyQ.slices_SortFunc L k aE zE enc hk h1 cf hO g #[] b o cp xs.toArray w eg (λm os dk _ x y=>grow_of (hc x y) _) hH hlt (by simp; omega)
  refine Calls.mono hc λe w' ⟨h1,d',n,os,hp,hs,h2⟩=>?_
  obtain ⟨ys,rfl⟩:∃ ys:List α,d'=ys.toArray:=⟨d'.toList,by simp⟩
  have hsz:ys.length=xs.length:=by simpa using hp.1
  have hperm:ys.Perm xs:=by
   have:=hp.2.2
   simp only [List.size_toArray,List.extract_toArray,List.extract_eq_take_drop] at this
   rw [<- hsz] at this
   simp only [List.drop_zero,Nat.sub_zero,List.take_length] at this
   rwa [hsz,List.take_length] at this
  have hpair:ys.Pairwise (λa b=>cf b a<0->False):=by
   rw [List.pairwise_iff_getElem]
   intro i j hi hj hij hlt0
   have:=hs i j (Nat.zero_le _) hij (by simp; omega)
   rw [getElem!_pos ys.toArray i Zi,getElem!_pos ys.toArray j Zg] at this
   simp only [List.getElem_toArray,ltOf,decide_eq_false_iff_not] at this
   exact this hlt0
  have hF:(ys.map enc).flatten.length=(xs.map enc).flatten.length:=by
   have e1:∀ zs:List α,(zs.map enc).flatten.length=zs.length * k:=λzs=>by
    induction zs with
    | nil=>simp
    | cons x t ih=>rw [List.map_cons,List.flatten_cons,List.length_append,hk,ih,List.length_cons,Nat.add_mul]; omega
   rw [e1,e1,hsz]
  have hheap:w'.heap=(w.heap.modify b<|Sort.onCells<|Sort.putCells id o (ys.map enc).flatten.toArray)++os:=by
   rw [h2,<- Am hk]; rfl
  have hb':w'.heap[b]? = some (cl (pre++((ys.map enc).flatten++j)) E):=by
   rw [hheap,Array.getElem?_append_left (by simpa using hlt),Array.getElem?_modify,if_pos rfl,hb]
   simp only [Option.map_some,Sort.onCells,cl]
   rw [<- hpre,IR hF]
  have ho:∀ c,c≠b->c<w.heap.size->w'.heap[c]? = w.heap[c]? := λc hc hlt2=>by
   rw [hheap,Array.getElem?_append_left (by simpa using hlt2),Array.getElem?_modify,if_neg (λe=>hc e.symm)]
  refine ⟨.tuple #[],_,h1,⟨Z,ys,hperm,hpair,Z⟩,⟨⟨?_,.inr ⟨b,o,cp,pre,j,by simp [hsz],hb',hpre,by simpa [hsz] using hc1,hc2,by rw [List.length_append,hF,<- List.length_append]; exact hc3⟩⟩,λc ⟨o',m',cp',he⟩=>?_,bu.loc hh.2.2 λc hc=>?_⟩,⟨by rw [h2]; rfl,by rw [h2]; rfl,by rw [h2]; rfl,by rw [h2]; exact Nat.le_add_right _ _,by rw [hheap]; simp,λa ha=>?_⟩⟩
  ·simp only [List.mem_map]; rintro r ⟨x,-,rfl⟩; exact hk x
  ·cases he
   exact hh.2.1 b ⟨o,_,cp,Z⟩
  ·exact (ho c (λe=>hh.2.1 b ⟨o,_,cp,Z⟩ (e ▸ hc))<|Holds.lt (h:=hr) hh.2.2 hc).symm
  ·unfold World.frozen?
   by_cases hab:a.block=b
   ·rw [hab,hb',hb]; rfl
   ·rw [ho _ hab ha]
end Go.Ck
namespace Go.Ck
open Go Go.RowKit
theorem mh {pre R j vs:List Value} {k:Nat} (hk:k+vs.length≤R.length):splice (pre++(R++j)) (pre.length+k) vs=pre++(splice R k vs++j):=by
 unfold splice
 rw [List.take_length_add_append,List.take_append_of_le_length (by omega),show pre.length+k+vs.length=pre.length+(k+vs.length) by omega,List.drop_length_add_append,List.drop_append_of_le_length hk]
 simp only [List.append_assoc]
theorem kv {sz:Nat} {rows:List (List Value)} (h:∀ r∈rows,r.length=sz):rows.flatten.length=rows.length * sz:=by
 induction rows with
 | nil=>simp
 | cons r t ih =>
  rw [List.flatten_cons,List.length_append,ih λq hq=>h q (by simp [hq]),h r (by simp),List.length_cons,Nat.add_mul]
  omega
section
variable {c:Cx} {ops:Array Oper} {K:Act->World->Prop} {rest:List Oper} {e:Env} {h h' hr:SH}
theorem IU {T E : TypeId} {x y : Operand} {ty : TypeId} {pos : String} {after : Array Edge} {b o n cp m sz : Nat} {rows : List (List Value)} {vs : List Value}
  (hx:e.ev? x=some (.pointer<|some ⟨b,o+m * sz,none⟩)) (hy:e.ev? y=some (.agg vs.toArray)) (hT:Sz c.P T sz) (hn:vs.length=sz) (h1:∀ v∈vs,v.oneCell'=true) (hm:m<rows.length) (hs:Sel h (VR (.slice (some ⟨b,o,none⟩) n cp) E sz rows) h')
  (hnx:St c ops K rest e (VR (.slice (some ⟨b,o,none⟩) n cp) E sz (rows.set m vs)::h')) :
  St c ops K (⟨none,.store T x y,ty,pos,after,none⟩::rest) e h:=λa w hk hh hs'=>by
 obtain ⟨⟨g1,g2⟩,hd,ht⟩:=hh.sel hs
 rcases g2 with ⟨h3,_⟩ | ⟨b',o',cp',pre,j,h3,hb,hp,hc1,hc2,hc3⟩
 ·cases h3
 ·cases h3
  have hfl:=kv g1
  have hle:m * sz+sz≤rows.flatten.length:=by
   rw [hfl]
   have:=Nat.mul_le_mul_right sz (show m+1≤rows.length from hm)
   rw [Nat.add_mul] at this; omega
  have hpt:Holds w (pt b (cl (pre++(rows.flatten++j)) E)::h'):=⟨hb,λc hc=>by rw [show c=b from hc]; exact hd b ⟨o,_,cp,rfl⟩,ht⟩
  refine iF (h:=pt b (cl (pre++(rows.flatten++j)) E)::h') hx hy hT hn h1 .here (by simp only [List.length_append]; omega) ?_ a w hk hpt hs'
  subst hp
  rw [mh (by omega),mR hn g1 hm]
  intro a w hk hh hw
  refine hnx a w hk ⟨⟨λq hq=>?_,.inr ⟨b,pre.length,cp,pre,j,by rw [List.length_set],hh.1,Z,by rw [List.length_set]; exact hc1,hc2,?_⟩⟩,λc hc=>?_,hh.2.2⟩ hw
  ·rcases List.mem_or_eq_of_mem_set hq with hq | rfl
   ·exact g1 q hq
   ·exact hn
  ·have:(rows.set m vs).flatten.length=rows.flatten.length:=by
    rw [kv (sz:=sz) λq hq=>?_,hfl,List.length_set]
    rcases List.mem_or_eq_of_mem_set hq with hq | rfl
    ·exact g1 q hq
    ·exact hn
   rw [List.length_append,this,<- List.length_append]; exact hc3
  ·obtain ⟨o2,_,cp2,h4⟩:=hc
   cases h4
   exact hh.2.1 b Z
theorem C8 {z:Array Value} {sz n:Nat} (hz:z.size=sz):(Builtin.zeroCells z n).toList=(List.replicate n z.toList).flatten:=by
 have hl:(List.replicate n z.toList).flatten.length=n * sz:=by simp [hz]
 apply List.ext_getElem
 ·rw [hl]; simp [Builtin.zeroCells,hz]
 ·intro i h1 h2
  have h3:i<n * sz:=by rw [hl] at h2; exact h2
  have s0:0<sz:=Nat.pos_of_ne_zero λh=>by rw [h] at h3; simp at h3
  have hm:i / sz<n:=Nat.div_lt_of_lt_mul (by rw [Nat.mul_comm]; exact h3)
  have hk:i % sz<z.toList.length:=by simp [hz]; exact Nat.mod_lt _ s0
  have h4:=pG (rows:=List.replicate n z.toList) (sz:=sz) (m:=i / sz) (k:=i % sz) (r:=z.toList) (x:=z.toList[i % sz]) (λr hr=>by rw [List.eq_of_mem_replicate hr]; simpa using hz) (by rw [List.getElem?_replicate,if_pos hm])<|Zy hk
  rw [Nat.div_add_mod' i sz,Zy h2] at h4
  rw [Option.some.inj h4]
  simp [Builtin.zeroCells,hz]
  exact getElem!_pos z _ _
theorem uA {T E ty S : TypeId} {x : Operand} {pos : String} {after : Array Edge} {z : Value} {bytes b o n cp cp' m sz : Nat} {rows : List (List Value)} (hx : e.ev? x = some (.slice (some ⟨b, o + m * sz, none⟩) (rows.length - m) cp')) (hT : c.P.underlying T = some (.slice E)) (hE : Inf c.P E z sz bytes)
  (hz:z.cells.size=sz) (hz1:∀ v∈z.cells.toList,v.oneCell'=true) (hm:m<rows.length) (hs:Sel h (VR (.slice (some ⟨b,o,none⟩) n cp) S sz rows) h')
  (hnx:St c ops K rest e (VR (.slice (some ⟨b,o,none⟩) n cp) S sz (rows.take m++List.replicate (rows.length - m) z.cells.toList)::h')) :
  St c ops K (⟨none,.call { callee:=.builtin .clear,args := #[x],argTypes := #[T] },ty,pos,after,none⟩::rest) e h:=by
 refine eF (by simp) λa w hk hh hw=>?_
 obtain ⟨⟨g1,g2⟩,hd,ht⟩:=hh.sel hs
 rcases g2 with ⟨h3,_⟩ | ⟨b',o',cp2,pre,j,h3,hb,hp,hc1,hc2,hc3⟩
 ·cases h3
 ·cases h3
  obtain ⟨ie,h1,h2,h3,h4⟩:=hE.parts
  have hfl:=kv g1
  have hpt:Holds w (pt b (cl (pre++(rows.flatten++j)) S)::h'):=⟨hb,λc hc=>by rw [show c=b from hc]; exact hd b ⟨o,_,cp,rfl⟩,ht⟩
  have hg:w.heap[b]? = some (.cells (pre++(rows.flatten++j)).toArray S (0,0)):=hb
  have hzero:(zeroValue E).run c.P w = .ok z w:=by simp [zeroValue,typeInfo,h1,h2]
  have hR:∀ r∈rows.take m++List.replicate (rows.length - m) z.cells.toList,r.length=sz:=by
   intro r hr
   rcases List.mem_append.1 hr with hr | hr
   ·exact g1 r<|List.mem_of_mem_take hr
   ·rw [List.eq_of_mem_replicate hr]; simpa using hz
  have hRl:(rows.take m++List.replicate (rows.length - m) z.cells.toList).length=rows.length:=by
   rw [List.length_append,List.length_take,List.length_replicate]; omega
  have hzc:=C8 (n:=rows.length - m) hz
  have hzl:(Builtin.zeroCells z.cells (rows.length - m)).toList.length=(rows.length - m) * sz:=by rw [hzc]; simp [hz]
  have hms:m * sz+(rows.length - m) * sz=rows.length * sz:=by rw [<- Nat.add_mul]; congr 1; omega
  have hsp:splice (pre++(rows.flatten++j)) (o+m * sz) (Builtin.zeroCells z.cells (rows.length - m)).toList=pre++((rows.take m++List.replicate (rows.length - m) z.cells.toList).flatten++j):=by
   rw [<- hp,mh (by rw [hzl,hfl]; omega)]
   unfold splice
   rw [hzl,hms,<- hfl,List.drop_length,List.append_nil,hzc,List.flatten_append]
   congr 3
   have h5:rows.flatten=(rows.take m).flatten++(rows.drop m).flatten:=by rw [<- List.flatten_append,List.take_append_drop]
   have h6:(rows.take m).flatten.length=m * sz:=by
    rw [kv (sz:=sz) λr hr=>g1 r (List.mem_of_mem_take hr),List.length_take,Nat.min_eq_left (by omega)]
   rw [h5,List.take_append_of_le_length (by omega),<- h6,List.take_length]
  have hst:=run_storeCells_at c.P b (o+m * sz) S (Builtin.zeroCells z.cells (rows.length - m)).toList 0 (pre++(rows.flatten++j)).toArray w hg (by simp only [List.size_toArray,List.length_append]; omega) (λv hv=>by
   rw [hzc] at hv
   obtain ⟨r,hr,hv⟩:=List.mem_flatten.1 hv
   rw [List.eq_of_mem_replicate hr] at hv
   exact hz1 v hv)
  simp only [Nat.add_zero] at hst
  have hcl:(Builtin.clear_ #[T] ty #[.slice (some ⟨b,o+m * sz,none⟩) (rows.length - m) cp']).run c.P w = .ok (.tuple #[]) (w.setRow b (splice (pre++(rows.flatten++j)) (o+m * sz) (Builtin.zeroCells z.cells (rows.length - m)).toList).toArray):=by
   unfold Builtin.clear_
   generalize hq:rows.length - m=q at hst hzl ⊢
   cases q with
   | zero=>omega
   | succ q=>simp [run_underlying hT,hzero,hst,splice]
  simp only [execOp,resolve,invoke,builtin,hk.ev hx,Sem.run_bind,Sem.run_pure,Result.andThen_ok,List.map_toArray,List.map_cons,List.map_nil,hcl]
  have hH:=Holds.setRow hpt<|splice (pre++(rows.flatten++j)) (o+m * sz) (Builtin.zeroCells z.cells (rows.length - m)).toList
  rw [hsp] at hH ⊢
  refine hnx _ _ hk ⟨⟨hR,.inr ⟨b,o,cp,pre,j,by rw [hRl],hH.1,hp,by rw [hRl]; exact hc1,hc2,?_⟩⟩,λc hc=>?_,hH.2.2⟩<|hw.trans<|Same.setRow _ _ _ hb
  ·rw [List.length_append,kv hR,hRl,<- hfl,<- List.length_append]; exact hc3
  ·obtain ⟨o2,_,cp2,h4⟩:=hc
   cases h4
   exact hH.2.1 b Z
end
theorem En {L K:SH} {a X:Res} (s:Sel L a K) (p:Addr) (u:Value) (h:Rd (Res.star [a,X]) p u):Rd (Res.star (L++[X])) p u:=λw hw=>by
 have h1:bu (hp w) ((L++[X])++[]):=dD.1 ⟨hw,λb _ hb=>hb,trivial⟩
 have h2:(L++[X]).Perm ([a,X]++K):=by
  have h3:(L++[X]).Perm ((a::K)++[X]):=s.perm.append_right [X]
  refine h3.trans ?_
  show (a::(K++[X])).Perm (a::(X::K))
  exact .cons _<|List.perm_append_comm (l₁ := K) (l₂ := [X])
 rw [List.append_nil] at h1
 have h4:=(bu.perm h2).1 h1
 have h5:bu (hp w) (Res.star [a,X]::K):=dD.2 h4
 exact h w h5.1
section
variable {c:Cx} {ops:Array Oper} {K:Act->World->Prop} {rest:List Oper} {e:Env} {h h' hr:SH} {Q:Exit->Act->World->Prop} {x:Code} {ex:Exit} {X:Res}
theorem pW (L:SH) (X:Res) (hn:∀ Y,Ext X Y->(∀ r L',Sel L r L'->∀ p u,Rd r p u->Rd Y p u)->(∀ r L',Sel L r L'->∀ p u,Rd (Res.star [r,X]) p u->Rd Y p u)->Xt c ex Q e (Y::hr)) (p:Pk h (L++[X]) hr:=by repeat (first | exact Pk.nil | (apply Pk.cons; (repeat (first | exact Sel.here | apply Sel.there))))):Xt c ex Q e h :=
 jG (um p) (hn _ (Ext.packs X L) (λ_ _ s p u h=>iT s p u h) λ_ _ s p u h=>En s p u h)
theorem cd_abs2 (L:SH) (X:Res) (hn:∀ Y,Ext X Y->(∀ r L',Sel L r L'->∀ p u,Rd r p u->Rd Y p u)->(∀ r L',Sel L r L'->∀ p u,Rd (Res.star [r,X]) p u->Rd Y p u)->Cd c x Q e (Y::hr)) (p:Pk h (L++[X]) hr:=by repeat (first | exact Pk.nil | (apply Pk.cons; (repeat (first | exact Sel.here | apply Sel.there))))):Cd c x Q e h :=
 dK (um p) (hn _ (Ext.packs X L) (λ_ _ s p u h=>iT s p u h) λ_ _ s p u h=>En s p u h)
theorem Kz (L:SH) (X:Res) (hn:∀ Y,Ext X Y->(∀ r L',Sel L r L'->∀ p u,Rd r p u->Rd Y p u)->(∀ r L',Sel L r L'->∀ p u,Rd (Res.star [r,X]) p u->Rd Y p u)->St c ops K rest e (Y::hr)) (p:Pk h (L++[X]) hr:=by repeat (first | exact Pk.nil | (apply Pk.cons; (repeat (first | exact Sel.here | apply Sel.there))))):St c ops K rest e h :=
 qp (um p) (hn _ (Ext.packs X L) (λ_ _ s p u h=>iT s p u h) λ_ _ s p u h=>En s p u h)
end
theorem kX {α : Type} {c:Cx} {x:Code} {ex:Exit} {Q:Exit->Act->World->Prop} {e:Env} {h:SH} (E : α -> Env) (H : α -> SH) (h1:(∀ q e' h',Env.sub (E q) e'->Sub (H q) h'->Xt c ex Q e' h')->Cd c x Q e h) (h2:∀ q,Xt c ex Q (E q) (H q)):Cd c x Q e h :=
 h1 λq _ _ s1 s2 a w hk hh hw=>h2 q a w (hk.weaken s1) (hh.sub s2) hw
section
variable {c:Cx} {ops:Array Oper} {K:Act->World->Prop} {rest:List Oper} {e:Env} {h h' hr:SH}
theorem st_vrS {T E : TypeId} {x y : Operand} {ty : TypeId} {pos : String} {after : Array Edge} {b o n cp m sz k k0 : Nat} {rows : List (List Value)} {r vs : List Value}
  (hx:e.ev? x=some (.pointer<|some ⟨b,o+m * sz+k,none⟩)) (hy:e.ev? y=some (.agg vs.toArray)) (hT:Sz c.P T k0) (hn:vs.length=k0) (h1:∀ v∈vs,v.oneCell'=true) (hr:rows[m]? = some r) (hk:k+k0≤sz) (hs:Sel h (VR (.slice (some ⟨b,o,none⟩) n cp) E sz rows) h')
  (hnx:St c ops K rest e (VR (.slice (some ⟨b,o,none⟩) n cp) E sz (rows.set m<|splice r k vs)::h')) :
  St c ops K (⟨none,.store T x y,ty,pos,after,none⟩::rest) e h:=λa w hk' hh hs'=>by
 obtain ⟨⟨g1,g2⟩,hd,ht⟩:=hh.sel hs
 rcases g2 with ⟨h3,_⟩ | ⟨b',o',cp',pre,j,h3,hb,hp,hc1,hc2,hc3⟩
 ·cases h3
 ·cases h3
  have hfl:=kv g1
  obtain ⟨hm,hrm⟩:=List.getElem?_eq_some_iff.1 hr
  have hrl:r.length=sz:=g1 r<|List.mem_of_getElem? hr
  have hle:m * sz+sz≤rows.flatten.length:=by
   rw [hfl]
   have:=Nat.mul_le_mul_right sz (show m+1≤rows.length from hm)
   rw [Nat.add_mul] at this; omega
  have hpt:Holds w (pt b (cl (pre++(rows.flatten++j)) E)::h'):=⟨hb,λc hc=>by rw [show c=b from hc]; exact hd b ⟨o,_,cp,rfl⟩,ht⟩
  have hsl:(splice r k vs).length=sz:=by unfold splice; simp; omega
  have hsp:splice rows.flatten (m * sz+k) vs=(rows.set m<|splice r k vs).flatten:=by
   rw [<- mR hsl g1 hm]
   have e1:rows.flatten=(rows.take m).flatten++(r++(rows.drop (m+1)).flatten):=by
    have:rows=rows.take m++r::rows.drop (m+1):=by rw [<- hrm,List.getElem_cons_drop,List.take_append_drop]
    have h5:=congrArg List.flatten this
    rwa [List.flatten_append,List.flatten_cons] at h5
   have e2:(rows.take m).flatten.length=m * sz:=by
    rw [kv (sz:=sz) λq hq=>g1 q (List.mem_of_mem_take hq),List.length_take,Nat.min_eq_left (by omega)]
   rw [e1,<- e2,mh (by omega)]
   have e3:splice ((rows.take m).flatten++(r++(rows.drop (m+1)).flatten)) (rows.take m).flatten.length (splice r k vs)=(rows.take m).flatten++(splice r 0 (splice r k vs)++(rows.drop (m+1)).flatten):=mh (k:=0)<|by omega
   have e4:splice r 0 (splice r k vs)=splice r k vs:=by
    have:splice r 0 (splice r k vs)=r.take 0++splice r k vs++r.drop (0+(splice r k vs).length):=rfl
    rw [this,Nat.zero_add,hsl,<- hrl,List.drop_length,List.take_zero,List.nil_append,List.append_nil]
   rw [e3,e4]
  refine iF (h:=pt b (cl (pre++(rows.flatten++j)) E)::h') hx hy hT hn h1 .here (by simp only [List.length_append]; omega) ?_ a w hk' hpt hs'
  subst hp
  rw [Nat.add_assoc,mh (by omega),hsp]
  intro a w hk hh hw
  have hG:∀ q∈rows.set m (splice r k vs),q.length=sz:=λq hq=>by
   rcases List.mem_or_eq_of_mem_set hq with hq | rfl
   ·exact g1 q hq
   ·exact hsl
  refine hnx a w hk ⟨⟨hG,.inr ⟨b,pre.length,cp,pre,j,by rw [List.length_set],hh.1,Z,by rw [List.length_set]; exact hc1,hc2,?_⟩⟩,λc hc=>?_,hh.2.2⟩ hw
  ·have:(rows.set m<|splice r k vs).flatten.length=rows.flatten.length:=by
    rw [kv hG,hfl,List.length_set]
   rw [List.length_append,this,<- List.length_append]; exact hc3
  ·obtain ⟨o2,_,cp2,h4⟩:=hc
   cases h4
   exact hh.2.1 b Z
end
end Go.Ck
