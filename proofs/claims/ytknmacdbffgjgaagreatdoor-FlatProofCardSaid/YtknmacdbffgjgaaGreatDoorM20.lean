/-
  Go's library: strings.Join at names,by the kit's contract laid at this program. Conditions: the result's length.
-/
import Derived.Test.YtknmacdbffgjgaaGreatDoorM19
import Derived.Test.YtknmacdbffgjgaaGreatDoorM10
import Derived.Test.YtknmacdbffgjgaaGreatDoorM18
import Derived.Shelf.Strings.OnBuilder
set_option linter.unusedVariables false
set_option linter.unusedSimpArgs false
set_option maxRecDepth 100000
set_option maxHeartbeats 16000000
namespace Go.Fl
open Go Go.RowKit Go.Ck Go.Proofs Go.Proofs.Tryz Go.Proofs.YtknmacdbffgjgaaGreatDoor Fx Go.Hr
theorem GV {o:Option Nat}:(ixI o == -1)=o.isNone:=by
 cases o with
 | none=>rfl
 | some i=>rfl
attribute [local irreducible] Go.Ck.Sub St Cd Xt Nx DrL LsW
section
variable {X Y:Res} {v v':Value} {us us':List Value}
theorem Md {v : Value} {rows : List (List Value)} {xs : List Cm} {kf : FuncId} {cp : Array Value} {g : Cm -> Bool} (hro : Rws X rows xs) (hb : xs.length * 280 ≤ 1099511627776) (hE : Ck.Enters prog kf) (hf : ∀ R : Res, (∀ p u, Rd X p u -> Rd R p u) -> ∀ a ∈ xs, ∀ us, Enc.rep R us a -> Reads prog kf (#[] ++ ([.agg us.toArray] : List Value).toArray ++ cp) [R] (.bool (g a))) :
  Ct prog 261 #[v,.func (.func kf) #[] cp] [VR v 191 18 rows,X] λu h'=>∃ rows',u.oneCell'=true/\Rws X rows' (xs.filter λx => !g x)/\h'=[VR u 191 18 rows',X]:=by
 have hml:maxLen=9223372036854775807:=rfl
 have hrb:reachBytes=140737488351232:=rfl
 have hrl:=hro.1
 refine aL (n:=42) func261 Z Z (len Z) λhr w0=>?_
 refine fQ (r:=VR v 191 18 rows) slq λhok=>?_
 have ho:=VR.one hok.choose_spec
 have hls:Ls (Res.star [VR v 191 18 rows,X]) v xs:=Rws.ls (E:=191) (jE hro<|bH<|.there .here) hok (bH .here) (show xs.length * 280≤reachBytes by omega)
 have hix:=eU<|CQ (g:=g) (cp:=cp) hls hE<|hf _<|bH<|.there .here
 refine gz (v:=v) (E:=191) (sz:=18) (rows:=rows) slq λwa wc hwf hwl hwm=>?_
 rw [hrl] at hwf hwl
 subst hwf
 refine cQ<|sA Z<|sN<|nT<|cQ<|sM Z<|sM Z<|aX Z Z en193 Z (hix) ?_
 refine sA Z<|sK [0,1,4,5] Z<|cS<|cQ<|sM Z<|sV (dE Z Z)<|sK [0,1,4,5,12] Z ?_
 rw [GV]
 cases hq:xs.findIdx? g with
 | none =>
  have hall:(xs.filter λx => !g x)=xs:=by
   rw [List.filter_eq_self]
   intro x hx
   simp [List.findIdx?_eq_none_iff.1 hq x hx]
  rw [hall]
  refine aQ Z ?_
  refine cQ<|sM Z<|sA Z<|sK [4] Z<|cT<|xR ?_
  exact aj Z ⟨rows,ho,hro,Z⟩ sbq
 | some i0 =>
  obtain ⟨hi0,hg0,hbf⟩:=List.findIdx?_eq_some_iff_getElem.1 hq
  obtain ⟨b,o,rfl⟩:∃ b o,wa=some ⟨b,o,none⟩:=by
   obtain ⟨f0,hf0⟩:=hok
   rcases VR.form hf0 with ⟨h3,h4⟩ | ⟨b,o,cp,h3,-⟩
   ·rw [h4] at hrl; simp at hrl; omega
   ·rw [hrl] at h3; cases h3; exact ⟨b,o,rfl⟩
  have hf0:(xs.take i0).filter (λx => !g x)=xs.take i0:=by
   rw [List.filter_eq_self]
   intro x hx
   obtain ⟨j,hj,rfl⟩:=List.getElem_of_mem hx
   rw [List.length_take] at hj
   rw [List.getElem_take]
   simpa using hbf j (by omega)
  have hstart:Rws X (rows.take i0) ((xs.take (i0+1)).filter λx => !g x):=by
   rw [List.take_succ_eq_append_getElem hi0,List.filter_append,hf0]
   have:[xs[i0]].filter (λx => !g x)=[]:=by simp [hg0]
   rw [this,List.append_nil]
   refine ⟨by rw [List.length_take,List.length_take,hrl],λj us x h1 h2=>?_⟩
   rw [List.getElem?_take] at h1 h2
   split at h1
   ·rename_i hji; rw [if_pos hji] at h2; exact hro.2 j us x h1 h2
   ·cases h1
  rw [show ixI (some i0)=((i0:Nat):Int) from rfl]
  refine aH Z ?_
  refine cK<|xT<|cS<|cQ<|sM Z<|sV (aI Z Z Z0)<|sA Z<|sK [0,1,4,5,6] Z<|cB<|aW (σ := Nat×Nat×List (List Value)) (λq=>[(0,.slice (some ⟨b,o,none⟩) xs.length wc),(1,.func (.func kf) #[] cp),(5,.int .i64 (q.1:Nat)),(6,.int .i64 (q.2.1:Nat))]) (λq=>VR (.slice (some ⟨b,o,none⟩) xs.length wc) 191 18 q.2.2::X::hr) (λq=>q.1<q.2.1/\q.2.1≤xs.length/\q.2.2.length=xs.length/\Rws X (q.2.2.take q.1) ((xs.take q.2.1).filter λx => !g x)/\∀ k,q.2.1≤k->q.2.2[k]? = rows[k]?) (λq=>xs.length - q.2.1) (i0,i0+1,rows) ⟨Nat.lt_succ_self _,hi0,hrl,hstart,λ_ _=>rfl⟩ ?_
  rintro ⟨m,j,rws⟩ ⟨hmj,hjn,hwl2,hpre,hrest⟩
  simp only at hmj hjn hwl2 hpre hrest
  dsimp only
  refine cS<|cQ<|sM Z<|sM Z<|sV (aF Z underlying187)<|sV (aN Z Z)<|sK [0,1,5,6,19] Z<|cC Z (λhd=>?_)<|λhd=>?_
  ·have hlt:j<xs.length:=Zx
   have hjr:j<rows.length:=by omega
   have hrow:rws[j]? = some rows[j]:=(hrest j<|Nat.le_refl _).trans<|Zy hjr
   have hrep:=hro.2 j _ xs[j] (Zy hjr)<|Zy hlt
   have hfx:=hf X (λ_ _ h=>h) xs[j] (List.getElem_mem hlt) _ hrep
   have htk:=bV hlt
   have hset:∀ r,(rws.set m r).take (m+1)=rws.take m++[r]:=λr=>by
    rw [List.take_succ_eq_append_getElem (by rw [List.length_set]; omega),List.take_set_of_le (Nat.le_refl _),List.getElem_set_self]
   generalize xs[j]=x at hrep hfx htk
   generalize rows[j]=r at hrow hrep hfx
   have hsz:r.length=18:=Enc.len hrep
   have hone:=Enc.ones hrep
   refine cK<|xT<|cS<|cB<|cQ<|sM Z<|sM Z<|sV (vI (k:=j) Z Z lJ Z hlt Z)<|sV (af Z ic hsz<|eX hrow) ?_
   refine ak q8 λb7=>?_
   refine ai (hl:=by rw [hsz]; rfl) Z Z mM hsz hone ?_
   refine sK [0,1,5,6,7] Z<|cQ<|sM Z<|sV (af Z ic hsz ag) ?_
   refine aX Z Z hE Z (hfx) ?_
   refine sV (aZ Z)<|sK [0,1,5,6,7,29] Z<|cC Z (λhg=>?_)<|λhg=>?_
   ·have hgf:g x=false:=by simpa using hg
    have e1:[x].filter (λx => !g x)=[x]:=by simp [hgf]
    refine cQ<|sM Z<|sM Z<|sV (af Z ic hsz ag) ?_
    refine sV (vI (k:=m) Z Z lJ Z (by omega) Z)<|IU (m:=m) (rows:=rws) (vs:=r) Z Z mM hsz (λu hu=>List.all_eq_true.1 hone u hu) (by omega) slq ?_
    refine sK [0,1,5,6] Z<|cR<|sM Z<|sV (aI Z Z Z0)<|sA Z<|sN<|nK [0,1,5,6] Z<|ax<|xB<|xT<|cR<|sM Z<|sV (aI Z Z Z0)<|sA Z<|sN<|nK [0,1,5,6] Z<|ax ?_
    refine aM (m+1,j+1,rws.set m r) ⟨by dsimp only; omega,hlt,by rw [List.length_set]; exact hwl2,by rw [hset,htk,List.filter_append,e1]; exact hpre.snoc hrep,λk hk=>by
     have hk:j+1≤k:=hk
     rw [List.getElem?_set_ne (by omega)]; exact hrest k (by omega)⟩ (by dsimp only; omega)
   ·have hgt:g x=true:=by simpa using hg
    have e1:[x].filter (λx => !g x)=[]:=by simp [hgt]
    refine cK<|xB<|xT<|cR<|sM Z<|sV (aI Z Z Z0)<|sA Z<|sN<|nK [0,1,5,6] Z<|ax ?_
    refine aM (m,j+1,rws) ⟨by dsimp only; omega,hlt,hwl2,by rw [htk,List.filter_append,e1,List.append_nil]; exact hpre,λk hk=>hrest k (by dsimp only at hk; omega)⟩ (by dsimp only; omega)
  ·have hje:j=xs.length:=by
    have:¬ j<xs.length:=Zx
    omega
   subst hje
   rw [List.take_length] at hpre
   refine aC<|xE<|xE<|xY<|xT<|cQ<|sM Z<|sM Z<|sV (gG (show Value.slice (some ⟨b,if wc=m then o else o+m * 18,none⟩) (xs.length - m) (wc - m)=Value.slice (some ⟨b,o+m * 18,none⟩) (rws.length - m) (wc - m) by rw [if_neg (by omega),hwl2])<|mP (lo:=m) Z Z lJ Z (by omega)<|by omega) ?_
   refine uA (m:=m) (rows:=rws) rfl underlying187 zI rfl (λv hv=>by simp [Value.cells] at hv; (repeat (first | (rcases hv with rfl | hv; · rfl) | (subst hv; rfl)))) (by omega) slq ?_
   refine sK [0,5] Z<|cQ<|sM Z<|sM Z<|sV (j6 (hi:=m) Z Z lJ Z<|by omega)<|qp (yR (m:=m) ?_) ?_
   ·rw [List.length_append,List.length_take,List.length_replicate]; omega
   rw [List.take_append_of_le_length (by rw [List.length_take]; omega),List.take_take,Nat.min_self]
   refine sA Z<|sK [4] Z<|cT ?_
   exact aj Z ⟨_,Z,hpre,Z⟩ sbq
theorem Me {v : Value} {rows : List (List Value)} {xs : List Mb} {kf : FuncId} {cp : Array Value} {g : Mb -> Bool} (hro : Rws X rows xs) (hb : xs.length * 232 ≤ 1099511627776) (hE : Ck.Enters prog kf) (hf : ∀ R : Res, (∀ p u, Rd X p u -> Rd R p u) -> ∀ a ∈ xs, ∀ us, Enc.rep R us a -> Reads prog kf (#[] ++ ([.agg us.toArray] : List Value).toArray ++ cp) [R] (.bool (g a))) :
  Ct prog 268 #[v,.func (.func kf) #[] cp] [VR v 75 14 rows,X] λu h'=>∃ rows',u.oneCell'=true/\Rws X rows' (xs.filter λx => !g x)/\h'=[VR u 75 14 rows',X]:=by
 have hml:maxLen=9223372036854775807:=rfl
 have hrb:reachBytes=140737488351232:=rfl
 have hrl:=hro.1
 refine aL (n:=42) func268 Z Z (len Z) λhr w0=>?_
 refine fQ (r:=VR v 75 14 rows) slq λhok=>?_
 have ho:=VR.one hok.choose_spec
 have hls:Ls (Res.star [VR v 75 14 rows,X]) v xs:=Rws.ls (E:=75) (jE hro<|bH<|.there .here) hok (bH .here) (show xs.length * 232≤reachBytes by omega)
 have hix:=eU<|wT (g:=g) (cp:=cp) hls hE<|hf _<|bH<|.there .here
 refine gz (v:=v) (E:=75) (sz:=14) (rows:=rows) slq λwa wc hwf hwl hwm=>?_
 rw [hrl] at hwf hwl
 subst hwf
 refine cQ<|sA Z<|sN<|nT<|cQ<|sM Z<|sM Z<|aX Z Z en222 Z (hix) ?_
 refine sA Z<|sK [0,1,4,5] Z<|cS<|cQ<|sM Z<|sV (dE Z Z)<|sK [0,1,4,5,12] Z ?_
 rw [GV]
 cases hq:xs.findIdx? g with
 | none =>
  have hall:(xs.filter λx => !g x)=xs:=by
   rw [List.filter_eq_self]
   intro x hx
   simp [List.findIdx?_eq_none_iff.1 hq x hx]
  rw [hall]
  refine aQ Z ?_
  refine cQ<|sM Z<|sA Z<|sK [4] Z<|cT<|xR ?_
  exact aj Z ⟨rows,ho,hro,Z⟩ sbq
 | some i0 =>
  obtain ⟨hi0,hg0,hbf⟩:=List.findIdx?_eq_some_iff_getElem.1 hq
  obtain ⟨b,o,rfl⟩:∃ b o,wa=some ⟨b,o,none⟩:=by
   obtain ⟨f0,hf0⟩:=hok
   rcases VR.form hf0 with ⟨h3,h4⟩ | ⟨b,o,cp,h3,-⟩
   ·rw [h4] at hrl; simp at hrl; omega
   ·rw [hrl] at h3; cases h3; exact ⟨b,o,rfl⟩
  have hf0:(xs.take i0).filter (λx => !g x)=xs.take i0:=by
   rw [List.filter_eq_self]
   intro x hx
   obtain ⟨j,hj,rfl⟩:=List.getElem_of_mem hx
   rw [List.length_take] at hj
   rw [List.getElem_take]
   simpa using hbf j (by omega)
  have hstart:Rws X (rows.take i0) ((xs.take (i0+1)).filter λx => !g x):=by
   rw [List.take_succ_eq_append_getElem hi0,List.filter_append,hf0]
   have:[xs[i0]].filter (λx => !g x)=[]:=by simp [hg0]
   rw [this,List.append_nil]
   refine ⟨by rw [List.length_take,List.length_take,hrl],λj us x h1 h2=>?_⟩
   rw [List.getElem?_take] at h1 h2
   split at h1
   ·rename_i hji; rw [if_pos hji] at h2; exact hro.2 j us x h1 h2
   ·cases h1
  rw [show ixI (some i0)=((i0:Nat):Int) from rfl]
  refine aH Z ?_
  refine cK<|xT<|cS<|cQ<|sM Z<|sV (aI Z Z Z0)<|sA Z<|sK [0,1,4,5,6] Z<|cB<|aW (σ := Nat×Nat×List (List Value)) (λq=>[(0,.slice (some ⟨b,o,none⟩) xs.length wc),(1,.func (.func kf) #[] cp),(5,.int .i64 (q.1:Nat)),(6,.int .i64 (q.2.1:Nat))]) (λq=>VR (.slice (some ⟨b,o,none⟩) xs.length wc) 75 14 q.2.2::X::hr) (λq=>q.1<q.2.1/\q.2.1≤xs.length/\q.2.2.length=xs.length/\Rws X (q.2.2.take q.1) ((xs.take q.2.1).filter λx => !g x)/\∀ k,q.2.1≤k->q.2.2[k]? = rows[k]?) (λq=>xs.length - q.2.1) (i0,i0+1,rows) ⟨Nat.lt_succ_self _,hi0,hrl,hstart,λ_ _=>rfl⟩ ?_
  rintro ⟨m,j,rws⟩ ⟨hmj,hjn,hwl2,hpre,hrest⟩
  simp only at hmj hjn hwl2 hpre hrest
  dsimp only
  refine cS<|cQ<|sM Z<|sM Z<|sV (aF Z underlying52)<|sV (aN Z Z)<|sK [0,1,5,6,19] Z<|cC Z (λhd=>?_)<|λhd=>?_
  ·have hlt:j<xs.length:=Zx
   have hjr:j<rows.length:=by omega
   have hrow:rws[j]? = some rows[j]:=(hrest j<|Nat.le_refl _).trans<|Zy hjr
   have hrep:=hro.2 j _ xs[j] (Zy hjr)<|Zy hlt
   have hfx:=hf X (λ_ _ h=>h) xs[j] (List.getElem_mem hlt) _ hrep
   have htk:=bV hlt
   have hset:∀ r,(rws.set m r).take (m+1)=rws.take m++[r]:=λr=>by
    rw [List.take_succ_eq_append_getElem (by rw [List.length_set]; omega),List.take_set_of_le (Nat.le_refl _),List.getElem_set_self]
   generalize xs[j]=x at hrep hfx htk
   generalize rows[j]=r at hrow hrep hfx
   have hsz:r.length=14:=Enc.len hrep
   have hone:=Enc.ones hrep
   refine cK<|xT<|cS<|cB<|cQ<|sM Z<|sM Z<|sV (vI (k:=j) Z Z kQ Z hlt Z)<|sV (af Z dJ hsz<|eX hrow) ?_
   refine ak iR λb7=>?_
   refine ai (hl:=by rw [hsz]; rfl) Z Z gF hsz hone ?_
   refine sK [0,1,5,6,7] Z<|cQ<|sM Z<|sV (af Z dJ hsz ag) ?_
   refine aX Z Z hE Z (hfx) ?_
   refine sV (aZ Z)<|sK [0,1,5,6,7,29] Z<|cC Z (λhg=>?_)<|λhg=>?_
   ·have hgf:g x=false:=by simpa using hg
    have e1:[x].filter (λx => !g x)=[x]:=by simp [hgf]
    refine cQ<|sM Z<|sM Z<|sV (af Z dJ hsz ag) ?_
    refine sV (vI (k:=m) Z Z kQ Z (by omega) Z)<|IU (m:=m) (rows:=rws) (vs:=r) Z Z gF hsz (λu hu=>List.all_eq_true.1 hone u hu) (by omega) slq ?_
    refine sK [0,1,5,6] Z<|cR<|sM Z<|sV (aI Z Z Z0)<|sA Z<|sN<|nK [0,1,5,6] Z<|ax<|xB<|xT<|cR<|sM Z<|sV (aI Z Z Z0)<|sA Z<|sN<|nK [0,1,5,6] Z<|ax ?_
    refine aM (m+1,j+1,rws.set m r) ⟨by dsimp only; omega,hlt,by rw [List.length_set]; exact hwl2,by rw [hset,htk,List.filter_append,e1]; exact hpre.snoc hrep,λk hk=>by
     have hk:j+1≤k:=hk
     rw [List.getElem?_set_ne (by omega)]; exact hrest k (by omega)⟩ (by dsimp only; omega)
   ·have hgt:g x=true:=by simpa using hg
    have e1:[x].filter (λx => !g x)=[]:=by simp [hgt]
    refine cK<|xB<|xT<|cR<|sM Z<|sV (aI Z Z Z0)<|sA Z<|sN<|nK [0,1,5,6] Z<|ax ?_
    refine aM (m,j+1,rws) ⟨by dsimp only; omega,hlt,hwl2,by rw [htk,List.filter_append,e1,List.append_nil]; exact hpre,λk hk=>hrest k (by dsimp only at hk; omega)⟩ (by dsimp only; omega)
  ·have hje:j=xs.length:=by
    have:¬ j<xs.length:=Zx
    omega
   subst hje
   rw [List.take_length] at hpre
   refine aC<|xE<|xE<|xY<|xT<|cQ<|sM Z<|sM Z<|sV (gG (show Value.slice (some ⟨b,if wc=m then o else o+m * 14,none⟩) (xs.length - m) (wc - m)=Value.slice (some ⟨b,o+m * 14,none⟩) (rws.length - m) (wc - m) by rw [if_neg (by omega),hwl2])<|mP (lo:=m) Z Z kQ Z (by omega)<|by omega) ?_
   refine uA (m:=m) (rows:=rws) rfl underlying52 vB rfl (λv hv=>by simp [Value.cells] at hv; (repeat (first | (rcases hv with rfl | hv; · rfl) | (subst hv; rfl)))) (by omega) slq ?_
   refine sK [0,5] Z<|cQ<|sM Z<|sM Z<|sV (j6 (hi:=m) Z Z kQ Z<|by omega)<|qp (yR (m:=m) ?_) ?_
   ·rw [List.length_append,List.length_take,List.length_replicate]; omega
   rw [List.take_append_of_le_length (by rw [List.length_take]; omega),List.take_take,Nat.min_self]
   refine sA Z<|sK [4] Z<|cT ?_
   exact aj Z ⟨_,Z,hpre,Z⟩ sbq
end
section
variable {X Y:Res} {v v':Value} {us us':List Value}
theorem I8 {x:Cm} {b4 i:Nat} (h:Enc.rep X us x) (hrd:Rd X ⟨b4,0,none⟩ (.int .i64 (i:Nat))):Reads prog 263 #[.agg us.toArray,.pointer (some ⟨b4,0,none⟩)] [X] (.bool (!(x.par == i))):=by
 obtain ⟨x2,x5,xy,x11,x12,x13,rfl,_⟩:=iB h
 unfold oL
 refine aL (n:=8) func263 Z Z (len Z) λhr w0=>?_
 refine cQ (aP Z Z λb2=>?_)
 refine sA Z<|sK [1,2,3] Z<|cQ<|sV (vF Z yM Z)<|sV (vY Z ld3) ?_
 refine sV (vY Z ld3) ?_
 refine sV (bK Z Z)<|sA Z<|sK [3] Z<|cT ?_
 rw [show (((x.par:Nat):Int) != ((i:Nat):Int)) = !(x.par == i) by
  rw [Bool.eq_iff_iff]; simp; omega]
 exact aj Z ⟨Z,Z⟩ sbq
theorem en263:Ck.Enters prog 263:=enters_of func263 Zz rfl
theorem p9 {fv:Value} {c:FC} {ca cb ce cf ci mv:Value} {all:Bool} {bm i:Nat} {m:List (Nm×Value)} {n:Nm} {xs:List Cm} (hlk:Ls X ((bL m n).getD (.slice none 0 0)) xs) (hb:xs.length * 280≤1099511627776) :
  CtX prog 206 #[.agg (eZ v fv c ca cb ce cf ci mv (.map<|some bm) all).toArray,.int .i64 (i:Nat),sv n] X [mps bm m] λu Y k'=>∃ rows,u.oneCell'=true/\Rws Y rows (xs.filter λx=>x.par == i)/\k'=[VR u 191 18 rows,mps bm m]:=by
 have hfl:(xs.filter λx => !(!(x.par == i)))=xs.filter λx=>x.par == i:=by simp
 unfold eZ CtX
 refine aL (n:=14) func206 Z Z (len Z) λhr w0=>?_
 refine cQ (aP Z Z λb3=>?_)
 refine aP Z Z λb4=>?_
 refine sA Z<|sK [2,3,4,6] Z<|cQ<|sV (vF Z o9 Z)<|sV (vY Z qW) ?_
 refine sM Z<|sV (bI Z Z sQ tN slq) ?_
 refine aJ Z Z en262 Z (Gp hlk) ?_
 rintro u h' ⟨T,rfl,rows,rfl,ho,hr⟩
 simp only [lC,lN]
 refine sV (cz Z Z) (Kz [pt b4 (cl [.int .i64 (i:Nat)] 3)] X λY hE hsel hpk=>?_)
 refine aJ Z Z en261 Z (Md (g:=λx => !(x.par == i)) (cp := #[.pointer (some ⟨b4,0,none⟩)]) (hr.up hE) hb en263 λR hRY a _ us h=>I8 (i:=i) h<|hRY _ _<|hsel _ _ .here _ _<|bU Z) ?_
 rintro u h' ⟨rows',hu,hr',rfl⟩
 simp only [lC,lN]
 rw [hfl] at hr'
 refine sA Z<|sK [6] Z<|cT ?_
 exact aj Z ⟨Y,_,Z,hE,rows',hu,hr',Z⟩ sbq
end
end Go.Fl
namespace Go.Fl
open Go Go.Hr
def dSds (l:FS):List Sd:=l.flatMap λc=>c.feats.map λf=>⟨c.name,f.name⟩
def dPre (l:FS):List Grp:=l.flatMap λc=>c.feats.map λf=>⟨c.name,f.req⟩
def dPost (l:FS):List Grp:=l.flatMap λc=>c.feats.map λf=>⟨c.name,f.ens⟩
structure MOk (l:FS) (m:Mb):Prop where
 name:m.name.length≤20
 snd:m.seeds.Nodup
 sds:∀ s∈m.seeds,s∈dSds l
 pnd:m.pre.Nodup
 pre:∀ g∈m.pre,g∈dPre l
 qnd:m.post.Nodup
 post:∀ g∈m.post,g∈dPost l
theorem I9 {o:List Grp} {g:Grp} (h:o.Nodup):(vL o g).Nodup:=by
 unfold vL
 split
 ·exact h
 ·rename_i hg
  have hg:g ∉ o:=by simpa using hg
  refine List.nodup_append.2 ⟨h,by simp,λa ha b hb e=>?_⟩
  rw [List.mem_singleton.1 hb] at e
  exact hg (e ▸ ha)
theorem Ja {l o:List Grp} (h:o.Nodup):(rz o l).Nodup:=by
 unfold rz
 induction l generalizing o with
 | nil=>exact h
 | cons g t ih=>exact ih (I9 h)
theorem qf (ls:List (List Grp)):(groups ls).Nodup:=by
 have key:∀ (ls:List (List Grp)) (o:List Grp),o.Nodup->(ls.foldl rz o).Nodup:=by
  intro ls
  induction ls with
  | nil=>exact λ_ h=>h
  | cons a t ih=>exact λo h=>ih _ (Ja h)
 exact key ls [] List.nodup_nil
theorem mX (cs:List Cm) (f:Cm->List Grp):(cs.foldl (λ(o:List Grp) (y:Cm)=>groups [o,f y]) []).Nodup:=by
 have key:∀ (cs:List Cm) (o:List Grp),o.Nodup->(cs.foldl (λ(o:List Grp) (y:Cm)=>groups [o,f y]) o).Nodup:=by
  intro cs
  induction cs with
  | nil=>exact λ_ h=>h
  | cons a t ih=>exact λo h=>ih _ (qf _)
 exact key cs [] List.nodup_nil
theorem yA.nodup {xs:List Sd} (h:yA xs):xs.Nodup:=by
 rw [List.nodup_iff_pairwise_ne]
 exact h.imp λ{a b} hab e=>by
  subst e
  rw [pR] at hab; cases hab
theorem Dg {s:Nm} (h:small s=true):s.length≤20:=by
 unfold small at h
 split at h
 ·simp
 ·simp only [Bool.and_eq_true,decide_eq_true_eq] at h
  exact h.1.1.1
section
variable {l:FS}
theorem GX {c:FC} (hc:CRight l c) {p:Pt} (hp:p∈c.pars) {n:Nm} (hn:n.length≤20):(bN p n).length≤20:=by
 unfold bN
 cases hf:p.ren.find? λx=>x.fro == n with
 | none=>exact hn
 | some x=>exact Dg (hc.tosmall p hp x (List.mem_of_find?_eq_some hf))
theorem yY {fl:Nm->Fl} (h:∀ n,∀ m∈(fl n).mems,MOk l m) {c:FC} (hc:CRight l c) {x:Cm} (hx:x∈comes fl l c):MOk l x.mem:=by
 obtain ⟨p,hp,m,hm,e⟩:=jl hx
 have h1:=h _ m hm
 rw [e]
 exact ⟨GX hc (List.mem_of_getElem? hp) h1.name,h1.snd,h1.sds,h1.pnd,h1.pre,h1.qnd,h1.post⟩
theorem Dh {cs:List Cm} (h:∀ x∈cs,MOk l x.mem) (h0:cs≠[]):MOk l (joined cs):=by
 obtain ⟨x,hx,h1,_⟩:=mU cs h0
 exact ⟨h1 ▸ (h x hx).name,(jO _).1.nodup,λs hs=>by
   obtain ⟨y,hy,h2⟩:=kT.1 hs
   exact (h y hy).sds s h2,mX cs λx=>x.mem.pre,λg hg=>by
   obtain ⟨y,hy,h2⟩:=uj.1 hg
   exact (h y hy).pre g h2,mX cs λx=>x.mem.post,λg hg=>by
   obtain ⟨y,hy,h2⟩:=rG.1 hg
   exact (h y hy).post g h2⟩
theorem own_ok {cs:List Cm} {c:FC} {f:Fe} (hc:CRight l c) (hcl:c∈l) (hf:f∈c.feats) (h:∀ x∈cs,MOk l x.mem):MOk l (jN c f cs):=by
 have hp:(⟨c.name,f.req⟩:Grp)∈dPre l:=List.mem_flatMap.2 ⟨c,hcl,List.mem_map.2 ⟨f,hf,rfl⟩⟩
 have hq:(⟨c.name,f.ens⟩:Grp)∈dPost l:=List.mem_flatMap.2 ⟨c,hcl,List.mem_map.2 ⟨f,hf,rfl⟩⟩
 have hs:(⟨c.name,f.name⟩:Sd)∈dSds l:=List.mem_flatMap.2 ⟨c,hcl,List.mem_map.2 ⟨f,hf,rfl⟩⟩
 have hn:=Dg<|hc.fsmall f hf
 have hpost:∀ g∈(if f.ens=[] then ([]:List Grp) else [⟨c.name,f.ens⟩]),g∈dPost l:=λg hg=>by
  split at hg
  ·cases hg
  ·rw [List.mem_singleton.1 hg]; exact hq
 by_cases h0:cs=[]
 ·subst h0
  refine ⟨hn,?_,?_,?_,?_,?_,hpost⟩
  ·show ([_]:List Sd).Nodup
   simp
  ·intro s h2
   have h2:s∈([⟨c.name,f.name⟩]:List Sd):=h2
   rw [List.mem_singleton.1 h2]; exact hs
  ·show ([_]:List Grp).Nodup
   simp
  ·intro s h2
   have h2:s∈([⟨c.name,f.req⟩]:List Grp):=h2
   rw [List.mem_singleton.1 h2]; exact hp
  ·show (if f.ens=[] then ([]:List Grp) else [⟨c.name,f.ens⟩]).Nodup
   split <;> simp
 ·have hj := Dh h h0
  unfold jN
  simp only []
  rw [if_neg h0]
  refine ⟨hn,hj.snd,hj.sds,qf _,λg hg=>?_,qf _,λg hg=>?_⟩
  ·obtain ⟨a,ha,hga⟩:=lY.1 hg
   simp only [List.mem_cons,List.not_mem_nil,or_false] at ha
   rcases ha with rfl | rfl
   ·exact hj.pre g hga
   ·split at hga
    ·cases hga
    ·rw [List.mem_singleton.1 hga]; exact hp
  ·obtain ⟨a,ha,hga⟩:=lY.1 hg
   simp only [List.mem_cons,List.not_mem_nil,or_false] at ha
   rcases ha with rfl | rfl
   ·exact hj.post g hga
   ·exact hpost g hga
theorem yZ {fl:Nm->Fl} (h:∀ n,∀ m∈(fl n).mems,MOk l m) {c:FC} (hc:CRight l c) (hcl:c∈l):∀ m∈members (comes fl l c) c,MOk l m:=λm hm=>by
 rcases (xS hc.names).1 hm with ⟨n,⟨x,hx,hxn⟩,_,rfl⟩ | ⟨f,hf,rfl⟩
 ·exact Dh (λy hy=>yY h hc (fT.1 hy).1)<|List.ne_nil_of_mem<|fT.2 ⟨hx,hxn⟩
 ·exact own_ok hc hcl hf λy hy=>yY h hc (fT.1 hy).1
theorem GY {c:Nm}:ae l c∈l∨ae l c=Bb:=by
 cases h:bQ l c with
 | none=>exact .inr (vR h)
 | some x=>rw [iI h]; exact .inl (List.mem_of_find?_eq_some h)
theorem OA (hR : FRight l) : ∀ (n : Nat) (c : Nm), ∀ m ∈ (flF l n c).mems, MOk l m
 | 0,c,m,hm=>by cases hm
 | n + 1, c, m, hm => by
  rcases GY (l:=l) (c:=c) with h | h
  ·exact yZ (OA hR n) (gB<|hR.form _ h) h m hm
  ·have:(flF l (n+1) c).mems=[]:=by
    show members (comes (flF l n) l<|ae l c) (ae l c)=[]
    rw [h]; rfl
   rw [this] at hm; cases hm
theorem FL_ok (hR:FRight l) (c:Nm):∀ m∈(FL l c).mems,MOk l m:=OA hR _ c
structure FlB (l:FS) (fl:Nm->Fl):Prop where
 few:∀ n,(fl n).mems.length≤60
 ok:∀ n,∀ m∈(fl n).mems,MOk l m
theorem OB (hR:FRight l) {o:List Nm} (h:∀ n∈o,okF l n):FlB l (look (forms l o)):=by
 have key:∀ n,look (forms l o) n=fl0∨(n∈o/\look (forms l o) n=FL l n):=λn=>by
  by_cases hn:n∈o
  ·exact .inr ⟨hn,pO hn⟩
  ·exact .inl<|Ld hn
 constructor
 ·intro n
  rcases key n with h1 | ⟨h1,h2⟩
  ·rw [h1]; exact Nat.zero_le _
  ·rw [h2,jC hR.sys]
   have:=(h n h1).2
   unfold over at this
   simp only [Bool.or_eq_false_iff,decide_eq_false_iff_not] at this
   omega
 ·intro n m hm
  rcases key n with h1 | ⟨h1,h2⟩
  ·rw [h1] at hm; cases hm
  ·rw [h2] at hm; exact FL_ok hR n m hm
theorem jd {α β : Type} {f : α -> List β} {k:Nat}:∀ {xs:List α},(∀ x∈xs,(f x).length≤k)->(xs.flatMap f).length≤xs.length * k
 | [],_=>by simp
 | a::t,h=>by
  have h1:=h a<|by simp
  have h2:=jd (f:=f) (xs:=t) λx hx=>h x<|by simp [hx]
  rw [List.flatMap_cons,List.length_append,List.length_cons,Nat.add_mul,Nat.one_mul]
  omega
theorem dLen {β : Type} (hR:FRight l) (g:FC->Fe -> β):(l.flatMap λc=>c.feats.map (g c)).length≤1440:=by
 have h1:=jd (xs:=l) (f:=λc=>c.feats.map<|g c) (k:=60) λc hc=>by
  rw [List.length_map]; exact (gB<|hR.form c hc).feats
 have h2:=hR.sys.len
 rw [kr] at h2
 omega
theorem MOk.lens (hR:FRight l) {m:Mb} (h:MOk l m):m.seeds.length≤1440/\m.pre.length≤1440/\m.post.length≤1440 :=
 ⟨Nat.le_trans (aT h.snd h.sds) (dLen hR _),Nat.le_trans (aT h.pnd h.pre) (dLen hR _),Nat.le_trans (aT h.qnd h.post)<|dLen hR _⟩
theorem OC (hR:FRight l) {c:FC} (hc:c∈l):c.pars.length≤4:=by
 have:=hR.sys.few c.cls<|List.mem_map.2 ⟨c,hc,rfl⟩
 simpa [FC.cls] using this
theorem xg (hR:FRight l) {fl:Nm->Fl} (h:FlB l fl) {c:FC} (hc:c∈l):(comes fl l c).length≤240:=by
 have h1:=jd (xs:=c.pars.zipIdx) (f:=λq:Pt×Nat=>(fl q.1.name).mems.map<|ru (ae l q.1.name).forms q.2 q.1) (k:=60) λq _=>by
  rw [List.length_map]; exact h.few _
 have h2:=OC hR hc
 have h3:(comes fl l c).length≤c.pars.zipIdx.length * 60:=h1
 rw [List.length_zipIdx] at h3
 omega
theorem Jb (hR:FRight l) {fl:Nm->Fl} (h:FlB l fl) {c:FC} (hc:c∈l):((comes fl l c).flatMap λx=>x.mem.seeds).length≤345600/\((comes fl l c).flatMap λx=>x.mem.pre).length≤345600/\((comes fl l c).flatMap λx=>x.mem.post).length≤345600:=by
 have h1:=xg hR h hc
 have h2:=λx (hx:x∈comes fl l c)=>(yY h.ok (gB<|hR.form c hc) hx).lens hR
 have g1:=jd (xs:=comes fl l c) (f:=λx=>x.mem.seeds) (k:=1440) λx hx=>(h2 x hx).1
 have g2:=jd (xs:=comes fl l c) (f:=λx=>x.mem.pre) (k:=1440) λx hx=>(h2 x hx).2.1
 have g3:=jd (xs:=comes fl l c) (f:=λx=>x.mem.post) (k:=1440) λx hx=>(h2 x hx).2.2
 omega
theorem GZ (hR:FRight l) {fl:Nm->Fl} (h:FlB l fl) {c:FC} (hc:c∈l):(members (comes fl l c) c).length≤300/\((members (comes fl l c) c).flatMap λm=>m.seeds).length≤432000:=by
 have hC:=gB<|hR.form c hc
 have h1:=xg hR h hc
 have hn:=(pU (comes fl l c) hC.names)
 have hk:(keys<|comes fl l c).length≤(comes fl l c).length:=by
  have:(keys<|comes fl l c).length≤((comes fl l c).map λx=>x.mem.name).length:=aT (iq _) λn hn=>by
   obtain ⟨x,hx,e⟩:=ku.1 hn
   exact List.mem_map.2 ⟨x,hx,e⟩
  simpa using this
 have h2:(members (comes fl l c) c).length≤(ui (comes fl l c) c).length:=by
  have:((members (comes fl l c) c).map λm=>m.name).length≤((ui (comes fl l c) c).map λm=>m.name).length:=aT hn.1.nodup λn hn'=>by
   obtain ⟨m,hm,e⟩:=List.mem_map.1 hn'
   exact List.mem_map.2 ⟨m,(hn.2 m).1 hm,e⟩
  simpa using this
 have h3:(ui (comes fl l c) c).length≤300:=by
  unfold ui
  rw [List.length_append,List.length_map,List.length_map]
  have:=List.length_filter_le (λn=>(feat c n).isNone)<|keys<|comes fl l c
  have:=hC.feats
  omega
 have g1:=jd (xs:=members (comes fl l c) c) (f:=λm=>m.seeds) (k:=1440) λm hm=>((yZ h.ok hC hc m hm).lens hR).1
 omega
end
end Go.Fl
namespace Go.Ck
open Go Go.RowKit
def dz (w:World):World:={ w with drawn:=0 }
theorem vX (w:World):Same (dz w) w:=⟨rfl,rfl,rfl,Nat.zero_le _,Nat.le_refl _,λ_ _=>rfl⟩
theorem Same.dz {w w':World} (h:Same w w'):Same (dz w) w':=(vX w).trans h
theorem Same.dtrans {w0 w w':World} (h:Same w0 w) (h0:w0.drawn=0) (k:Same (Go.Ck.dz w) w'):Same w0 w' :=
 ⟨k.os.trans h.os,k.tape.trans h.tape,k.output.trans h.output,by rw [h0]; exact Nat.zero_le _,Nat.le_trans h.size k.size,λx hx=>(k.fz x<|Nat.lt_of_lt_of_le hx h.size).trans<|h.fz x hx⟩
def Ctw (P:Program) (k:FuncId) (args:Array Value) (hf:SH) (R:Value->SH->Prop):Prop :=
 ∀ (hr:SH) (w:World),Holds w (hf++hr)->Calls P k args w λe w'=>∃ v h',e = .returned v/\R v h'/\Holds w' (h'++hr)/\Same (dz w) w'
theorem Ct.w {P:Program} {k:FuncId} {args:Array Value} {hf:SH} {R:Value->SH->Prop} (h:Ct P k args hf R):Ctw P k args hf R :=
 λhr w hh=>(h hr w hh).mono λ_ _ ⟨v,h',e,r,g,s⟩=>⟨v,h',e,r,g,s.dz⟩
theorem Ctw.mono {P:Program} {k:FuncId} {args:Array Value} {hf:SH} {R R':Value->SH->Prop} (h:Ctw P k args hf R) (hr:∀ v h',R v h'->R' v h'):Ctw P k args hf R' :=
 λhr' w hw=>(h hr' w hw).mono λ_ _ ⟨v,h',e,r,rest⟩=>⟨v,h',e,hr v h' r,rest⟩
theorem Ctw.perm {P:Program} {k:FuncId} {args:Array Value} {hf hf':SH} {R:Value->SH->Prop} (h:Ctw P k args hf R) (p:hf.Perm hf'):Ctw P k args hf' R :=
 λhr w hw=>h hr w ((bu.perm<|p.append_right hr).2 hw)
def eu (P:Program) (k:FuncId) (args:Array Value) (X:Res) (hf:SH) (R:Value->Res->SH->Prop):Prop:=Ctw P k args (X::hf) λu h'=>∃ Y k',h'=Y::k'/\Ext X Y/\R u Y k'
theorem fw {P:Program} {k:FuncId} {fn:Func} {x:Code} {n:Nat} {l:List Value} {hf:SH} {R:Value->SH->Prop} (hF:P.funcs[k]? = some fn) (hb:fn.body=some x) (hnt:fn.ntmps=n) (hn:l.length≤n)
  (hc:∀ (hr:SH) (w0:World),w0.drawn=0->Cd ⟨P,none,n,[],w0⟩ x (bodyPost P fn<|Post w0 hr R) (Env.ofArgs 0 l) (hf++hr)):Ctw P k l.toArray hf R:=λhr w hh=>by
 refine uP (r:=none) (n:=0)<|callsIn_of_wp hF hb trivial<|hc hr (dz w) Z _ w ⟨?_,Z,λi v hi=>?_⟩ hh<|vX w
 ·simp; omega
 ·obtain ⟨_,h2⟩:=Env.ofArgs_get hi
  simp only [Nat.sub_zero] at h2
  have hlt:i<l.length:=(List.getElem?_eq_some_iff.1 h2).1
  rw [Zy hlt,Option.some.injEq] at h2
  simp [Array.getElem?_append,hlt,h2]
theorem Ew {P:Program} {k:FuncId} {fn:Func} {x:Code} {n:Nat} {l:List Value} {hf:SH} {R:Value->SH->Prop} (hF:P.funcs[k]? = some fn) (hb:fn.body=some x) (hnt:fn.ntmps=n) (hn:l.length≤n)
  (hc:∀ (hr:SH) (w0:World),w0.drawn=0->Cd ⟨P,none,n,[],w0⟩ x (bodyPostM (Fw none) 0 P fn<|Post w0 hr R) (Env.ofArgs 0 l) (hf++hr)):Ctw P k l.toArray hf R:=λhr w hh=>by
 refine uP (r:=none) (n:=0)<|callsIn_of_wp_marks hF hb trivial<|hc hr (dz w) Z _ w ⟨?_,Z,λi v hi=>?_⟩ hh<|vX w
 ·simp; omega
 ·obtain ⟨_,h2⟩:=Env.ofArgs_get hi
  simp only [Nat.sub_zero] at h2
  have hlt:i<l.length:=(List.getElem?_eq_some_iff.1 h2).1
  rw [Zy hlt,Option.some.injEq] at h2
  simp [Array.getElem?_append,hlt,h2]
section
variable {c:Cx} {ops:Array Oper} {K:Act->World->Prop} {rest:List Oper} {e:Env} {h hr:SH}
theorem bM {d:Nat} {f:Operand} {az:Array Operand} {ts:Array TypeId} {ty:TypeId} {pos:String} {after:Array Edge} {k:FuncId} {fi cp:Array Value} {vs:List Value} {args:Array Value} {hf:SH} {R:Value->SH->Prop} (h0:c.w0.drawn=0)
  (hv:e.ev? f=some (.func (.func k) fi cp)) (has:az.toList.mapM e.ev? = some vs) (hE:Enters c.P k) (ha:fi++vs.toArray++cp=args) (ct:Ctw c.P k args hf R)
  (hn:∀ v h',R v h'->St c ops K rest ((d,v)::e) (h'++hr)) (pk:Pk h hf hr:=by repeat (first | exact Pk.nil | (apply Pk.cons; (repeat (first | exact Sel.here | apply Sel.there))))) (hd:d<c.n:=by exact ltn rfl) :
  St c ops K (⟨some d,.call { callee:=.value f,args:=az,argTypes:=ts },ty,pos,after,none⟩::rest) e h :=
 eF (by simp) λa w hk hh hs=>by
  rw [qM hv has hE ha hk.evs]
  exact (ct hr w<|hh.pk pk).mono λ_ w' ⟨v,h',he,hR,hH,hS⟩=>⟨v,he,hn v h' hR _ w' (hk.put v hd) hH<|hs.dtrans h0 hS⟩
end
theorem xh {P : Program} {n : Nat} {ds : List Deferred} {w0 : World} {Q : Exit -> Act -> World -> Prop} {e : Env} {h : SH} {g : Operand} {k : FuncId} {fi cp : Array Value} {ps : Array Tmp} {assign body : Code} (h0 : w0.drawn = 0)
  (hg:e.ev? g=some (.func (.func k) fi cp)) (hE:Enters P k)
  (hct:∀ (l db:Nat) (rec:Loop),rec.state = .ready->rec.pending=none->rec.params=ps->rec.assign=assign->rec.body=body->Kn n [] { tmps:=rec.tmps,defers:=[] } e ->
   ∃ R',Ctw P k (fi ++ #[.func (.yield l) #[] #[]]++cp) (pt l (.loop rec)::pt db (.deferred<|some [])::h) R' /\
    ∀ v h',R' v h'->∃ rec h'',Sel h' (pt l (.loop rec)) h''/\rec.state≠.busy/\(match rec.pending with | none=>Xt ⟨P,none,n,mk db::ds,w0⟩ .normal Q e h'' | some x=>Cd ⟨P,none,n,mk db::ds,w0⟩ x Q e h'')) :
  Cd ⟨P,none,n,ds,w0⟩ (.rangeFunc g ps assign body) Q e h:=λa w hk hh hw=>by
 refine wpIn_rangeFunc λfn _=>?_
 obtain ⟨R',ct,hR'⟩:=hct (w.heap.size+1) w.heap.size (qP fn a.tmps ps assign body w.heap.size) rfl rfl rfl rfl rfl ⟨hk.size,rfl,hk.get⟩
 have h1:=Holds.alloc (Holds.alloc hh<|.deferred<|some [])<|.loop<|qP fn a.tmps ps assign body w.heap.size
 have hsz:(w.alloc<|.deferred<|some []).heap.size=w.heap.size+1:=World.size_alloc _ _
 rw [hsz] at h1
 refine ⟨_,_,_,⟨.fn (.func k) cp,fi ++ #[.func (.yield (w.heap.size+1)) #[] #[]]⟩,(w.alloc<|.deferred<|some []).alloc (.loop<|qP fn a.tmps ps assign body w.heap.size),k,fi ++ #[.func (.yield (w.heap.size+1)) #[] #[]]++cp,(w.alloc<|.deferred<|some []).alloc (.loop<|qP fn a.tmps ps assign body w.heap.size),run_enterLoop_outer fn a.tmps ps assign body,?_,λ_ _=>trivial,?_,λh=>by simp [Fw,Fence.wide] at h,?_⟩
 ·simp only [resolve,hk.ev hg,Deferred.ofValue,Sem.run_bind,Sem.run_pure,Result.andThen_ok]
  simp [Act.eval,qP]
 ·have:(invoke (.fn (.func k) cp) (fi ++ #[.func (.yield (w.heap.size+1)) #[] #[]])).run P ((w.alloc<|.deferred<|some []).alloc<|.loop<|qP fn a.tmps ps assign body w.heap.size) = .ok (.enter k (fi ++ #[.func (.yield (w.heap.size+1)) #[] #[]]++cp)) ((w.alloc<|.deferred<|some []).alloc<|.loop<|qP fn a.tmps ps assign body w.heap.size):=hE _ _
  exact this
 ·have hgr:Same w ((w.alloc<|.deferred<|some []).alloc<|.loop<|qP fn a.tmps ps assign body w.heap.size):=(Grew.alloc _ _ rfl).toSame.trans (Grew.alloc _ _ rfl).toSame
  have hctw:=ct [] _ Ze
  refine tH (Calls.mono hctw λen w' ⟨v,h',he,hRv,hH,hS⟩=>?_)
  subst he
  obtain ⟨rec,h'',s,hbusy,hj⟩:=hR' v h' hRv
  have hH':=(show Holds w' h' by simpa using hH).sel s
  refine ⟨rec.pending,_,run_endLoop hH'.1 hbusy,?_⟩
  have hk2:Kn n (mk w.heap.size::ds) { a with defers:=[{ target:=.collected w.heap.size,args := #[] }]++a.defers } e:=⟨hk.size,by simp [mk,hk.defers],hk.get⟩
  have hH2:∀ o,Holds (w'.putObj (w.heap.size+1) o) h'':=λo=>(Holds.putObj hH' o).2.2
  have hS2:∀ r,Same w0 (w'.putObj (w.heap.size+1)<|.loop r):=λr=>((hw.trans hgr).dtrans h0 hS).trans<|Same.putObj _ _ _ hH'.1 rfl rfl
  generalize rec.pending=j at hj ⊢
  cases j with
  | none=>exact hj _ _ hk2 (hH2 _) (hS2 _)
  | some x=>exact hj _ _ hk2 (hH2 _) (hS2 _)
end Go.Ck
namespace Go.Fl
open Go Go.RowKit Go.Ck Go.Proofs Go.Proofs.Tryz Go.Proofs.YtknmacdbffgjgaaGreatDoor Fx Go.Hr
def xX:Go.Shelf.Ren:={
 f:=λ| 156=>172 | 165=>238 | 166=>239 | 169=>240 | 240=>276 | 241=>277 | 276=>299 | 277=>300 | n=>n
 t:=λ| 31=>40 | 9=>9 | 3=>3 | 4=>4 | 0=>0 | 20=>20 | 72=>301 | 76=>305 | 70=>299 | 37=>37 | 75=>304 | 127=>338 | 164=>360 | 5=>5 | 80=>307 | n=>n
 g:=λn=>n }
theorem KL:Go.Proofs.Lays.n156 prog xX:={
 mixed:=rfl
 f156:=func172.trans<|congrArg some Zz
 f165:=func238.trans<|congrArg some Zz
 f166:=func239.trans<|congrArg some Zz
 f169:=func240.trans<|congrArg some Zz
 f240:=func276.trans<|congrArg some Zz
 f241:=func277.trans<|congrArg some Zz
 f276:=func299.trans<|congrArg some Zz
 f277:=func300.trans<|congrArg some Zz
 t0:=underlying0
 a0:=isAgg0
 z0:=sizeOf0
 v0:=zeroValue0
 t3:=underlying3
 a3:=isAgg3
 z3:=sizeOf3
 v3:=zeroValue3
 t4:=underlying4
 a4:=isAgg4
 z4:=sizeOf4
 v4:=zeroValue4
 t9:=underlying9
 a9:=isAgg9
 z9:=sizeOf9
 v9:=zeroValue9
 t20:=underlying20
 a20:=isAgg20
 z20:=sizeOf20
 v20:=zeroValue20
 t31:=underlying40
 a31:=isAgg40
 z31:=sizeOf40
 v31:=zeroValue40
 t37:=underlying37
 a37:=isAgg37
 z37:=sizeOf37
 v37:=zeroValue37
 t70:=underlying299
 a70:=isAgg299
 z70:=sizeOf299
 v70:=zeroValue299
 t72:=underlying301
 a72:=isAgg301
 z72:=sizeOf301
 v72:=zeroValue301
 t75:=underlying304
 a75:=isAgg304
 z75:=sizeOf304
 v75:=zeroValue304
 t76:=underlying305
 a76:=isAgg305
 z76:=sizeOf305
 v76:=zeroValue305
 t127:=underlying338
 a127:=isAgg338
 z127:=sizeOf338
 v127:=zeroValue338
 t164:=underlying360
 a164:=isAgg360
 z164:=sizeOf360
 v164:=zeroValue360 }
theorem G5:Builder.Extra prog xX where
 sizeBuilder:=Zz
 liesBuilder:=Zz
 t5:=Zz
 a5:=isAgg5
 z5:=sizeOf5
 v5:=zeroValue5
 infoByte:=Zz
 cellsByte:=Zz
 sizeByte:=Zz
 neB5:=by decide
theorem AJ {w w':World} (h:Below w.heap.size w w'):Same (dz w) w':=⟨h.os,h.tape,h.output,Nat.zero_le _,h.size,λa ha=>h.frozen ha⟩
theorem xZ {w w':World} {H:SH} (h:Below w.heap.size w w') (hh:Holds w H):Holds w' H:=bu.loc hh λb hb=>(h.block b<|Holds.lt hh hb).symm
theorem Jc (a:Nm) (t:List Nm):ko (a::t)=a++Lib.joinTail [32] t:=by
 induction t generalizing a with
 | nil=>simp [ko,Lib.joinTail]
 | cons b t ih =>
  show a++32::ko (b::t)=_
  rw [ih b]
  simp [Lib.joinTail]
theorem G6 (xs:List Nm):Lib.join xs [32]=ko xs:=by
 cases xs with
 | nil=>rfl
 | cons a t=>rw [Lib.join_cons,Jc]
theorem Di {k:Nat}:∀ {xs:List Nm},(∀ x∈xs,x.length≤k)->(ko xs).length≤xs.length * (k+1)
 | [],_=>by simp [ko]
 | [a],h=>by
  have:=h a<|by simp
  show a.length≤_
  simp only [List.length_singleton,Nat.one_mul]; omega
 | a::b::t,h=>by
  have h1:=h a<|by simp
  have h2:=Di (xs:=b::t) λx hx=>h x (by simp only [List.mem_cons] at hx ⊢; exact .inr hx)
  have h3:ko (a::b::t)=a++32::ko (b::t):=rfl
  rw [h3,List.length_append,List.length_cons,List.length_cons (a:=a),Nat.add_mul,Nat.one_mul]
  omega
theorem KM {v:Value} {xs:List Nm} (hl:xs.length≤1099511627776) (hj:(ko xs).length≤140737488355328):Ctw prog 172 #[v,sv [32]] [NR v xs] λu h'=>u=sv (ko xs)/\h'=[NR v xs]:=by
 intro hr w hh
 have hv:=hh.1
 rcases hv.2 with ⟨rfl,h0⟩ | ⟨b,o,cp,pre,j,rfl,hb,hpre,hc1,hc2,hc3⟩
 ·have hx:xs=[]:=List.map_eq_nil_iff.1 h0
  subst hx
  exact (Any.strings_Join_none KL G5 none 0 ⟨⟨[32]⟩⟩ w).mono λe w' ⟨h1,h2⟩=>⟨sv [],_,h1,⟨Z,Z⟩,by rw [h2]; exact hh,by rw [h2]; exact vX w⟩
 ·rw [mQ] at hb
  have hb:w.heap[b]? = some (cl (pre++(xs.map sv++j)) 9):=hb
  have hlt:b<w.heap.size:=(Array.getElem?_eq_some_iff.1 hb).1
  have hml:(xs.map λn=>(⟨⟨n⟩⟩:ByteArray)).map (·.data.toList)=xs:=by rw [List.map_map]; exact List.map_id _
  have hc:=Any.strings_Join KL G5 b o cp (xs.map λn=>(⟨⟨n⟩⟩:ByteArray)) ⟨⟨[32]⟩⟩ w (λi x hi=>by
   rw [List.getElem?_map] at hi
   obtain ⟨n,hn,rfl⟩:=Option.map_eq_some_iff.1 hi
   have hil:=(List.getElem?_eq_some_iff.1 hn).1
   simp only [World.cell?,hb,cl,Option.isSome_none,Bool.false_eq_true,if_false,List.getElem?_toArray]
   rw [<- hpre,List.getElem?_append_right (by omega),Nat.add_sub_cancel_left,List.getElem?_append_left (by simpa using hil),List.getElem?_map,hn]
   rfl) hlt (by rw [List.length_map]; omega) (by
    rw [List.length_map]
    have:(xs.map nC).length=xs.length:=by simp
    omega) (by rw [hml,G6]; exact hj)
  rw [hml,G6,List.length_map] at hc
  rw [show (xs.map nC).length=xs.length by simp]
  rw [show (xs.map nC).length=xs.length by simp] at hh
  exact Calls.mono hc λe w' ⟨h1,h2⟩=>⟨sv (ko xs),_,h1,⟨Z,Z⟩,xZ h2 hh,AJ h2⟩
end Go.Fl
