/-
  Package flat: what is a small name; Go's library under it: strings.ContainsFunc,strings.Fields,by the kit's contracts laid at this program. Conditions: the library's table of blanks is read.
-/
import Derived.Test.YtknmacdbffgjgaaGreatDoorP13
import Derived.Test.YtknmacdbffgjgaaGreatDoorP8
import Derived.Shelf.Strings.OnBuilder
import Derived.Test.YtknmacdbffgjgaaGreatDoorP10
import Derived.Shelf.Strings.FuncGrows
import Derived.Shelf.Strings.Fields
set_option linter.unusedVariables false
set_option linter.unusedSimpArgs false
set_option maxRecDepth 100000
set_option maxHeartbeats 16000000
namespace Go.Fl
open Go Go.RowKit Go.Ck Go.Proofs Go.Proofs.Tryz Go.Proofs.YtknmacdbffgjgaaGreatDoor Fx Go.Hr
theorem Gs {o:Option Nat}:(ixI o == -1)=o.isNone:=by
 cases o with
 | none=>rfl
 | some i=>rfl
attribute [local irreducible] Go.Ck.Sub St Cd Xt Nx DrL LsW
section
variable {X Y:Res} {v v':Value} {us us':List Value}
theorem Lr {v : Value} {rows : List (List Value)} {xs : List Cm} {kf : FuncId} {cp : Array Value} {g : Cm -> Bool} (hro : Rws X rows xs) (hb : xs.length * 280 ≤ 1099511627776) (hE : Ck.Enters prog kf) (hf : ∀ R : Res, (∀ p u, Rd X p u -> Rd R p u) -> ∀ a ∈ xs, ∀ us, Enc.rep R us a -> Reads prog kf (#[] ++ ([.agg us.toArray] : List Value).toArray ++ cp) [R] (.bool (g a))) :
  Ct prog 261 #[v,.func (.func kf) #[] cp] [VR v 191 18 rows,X] λu h'=>∃ rows',u.oneCell'=true/\Rws X rows' (xs.filter λx => !g x)/\h'=[VR u 191 18 rows',X]:=by
 have hml:maxLen=9223372036854775807:=rfl
 have hrb:reachBytes=140737488351232:=rfl
 have hrl:=hro.1
 refine aL (n:=42) func261 Z Z (len Z) λhr w0=>?_
 refine fO (r:=VR v 191 18 rows) slq λhok=>?_
 have ho:=VR.one hok.choose_spec
 have hls:Ls (Res.star [VR v 191 18 rows,X]) v xs:=Rws.ls (E:=191) (jw hro<|bJ<|.there .here) hok (bJ .here) (show xs.length * 280≤reachBytes by omega)
 have hix:=eT<|CF (g:=g) (cp:=cp) hls hE<|hf _<|bJ<|.there .here
 refine gm (v:=v) (E:=191) (sz:=18) (rows:=rows) slq λwa wc hwf hwl hwm=>?_
 rw [hrl] at hwf hwl
 subst hwf
 refine cQ<|sA Z<|sN<|nT<|cQ<|sM Z<|sM Z<|bf Z Z en193 Z (hix) ?_
 refine sA Z<|sK [0,1,4,5] Z<|cS<|cQ<|sM Z<|sV (dG Z Z)<|sK [0,1,4,5,12] Z ?_
 rw [Gs]
 cases hq:xs.findIdx? g with
 | none =>
  have hall:(xs.filter λx => !g x)=xs:=by
   rw [List.filter_eq_self]
   intro x hx
   simp [List.findIdx?_eq_none_iff.1 hq x hx]
  rw [hall]
  refine aT Z ?_
  refine cQ<|sM Z<|sA Z<|sK [4] Z<|cT<|xR ?_
  exact aj Z ⟨rows,ho,hro,Z⟩ sbq
 | some i0 =>
  obtain ⟨hi0,hg0,hbf⟩:=List.findIdx?_eq_some_iff_getElem.1 hq
  obtain ⟨b,o,rfl⟩:∃ b o,wa=some ⟨b,o,none⟩:=by
   obtain ⟨f0,hf0⟩:=hok
   rcases VR.form hf0 with ⟨h3,h4⟩ | ⟨b,o,cp,h3,-⟩
   ·rw [h4] at hrl; simp at hrl; omega
   ·rw [hrl] at h3; cases h3; exact ⟨b,o,rfl⟩
  have hf0:(xs.take i0).filter (λx => !g x)=xs.take i0:=by
   rw [List.filter_eq_self]
   intro x hx
   obtain ⟨j,hj,rfl⟩:=List.getElem_of_mem hx
   rw [List.length_take] at hj
   rw [List.getElem_take]
   simpa using hbf j (by omega)
  have hstart:Rws X (rows.take i0) ((xs.take (i0+1)).filter λx => !g x):=by
   rw [List.take_succ_eq_append_getElem hi0,List.filter_append,hf0]
   have:[xs[i0]].filter (λx => !g x)=[]:=by simp [hg0]
   rw [this,List.append_nil]
   refine ⟨by rw [List.length_take,List.length_take,hrl],λj us x h1 h2=>?_⟩
   rw [List.getElem?_take] at h1 h2
   split at h1
   ·rename_i hji; rw [if_pos hji] at h2; exact hro.2 j us x h1 h2
   ·cases h1
  rw [show ixI (some i0)=((i0:Nat):Int) from rfl]
  refine aG Z ?_
  refine cK<|xT<|cS<|cQ<|sM Z<|sV (aI Z Z Za)<|sA Z<|sK [0,1,4,5,6] Z<|cB<|aX (σ := Nat×Nat×List (List Value)) (λq=>[(0,.slice (some ⟨b,o,none⟩) xs.length wc),(1,.func (.func kf) #[] cp),(5,.int .i64 (q.1:Nat)),(6,.int .i64 (q.2.1:Nat))]) (λq=>VR (.slice (some ⟨b,o,none⟩) xs.length wc) 191 18 q.2.2::X::hr) (λq=>q.1<q.2.1/\q.2.1≤xs.length/\q.2.2.length=xs.length/\Rws X (q.2.2.take q.1) ((xs.take q.2.1).filter λx => !g x)/\∀ k,q.2.1≤k->q.2.2[k]? = rows[k]?) (λq=>xs.length - q.2.1) (i0,i0+1,rows) ⟨Nat.lt_succ_self _,hi0,hrl,hstart,λ_ _=>rfl⟩ ?_
  rintro ⟨m,j,rws⟩ ⟨hmj,hjn,hwl2,hpre,hrest⟩
  simp only at hmj hjn hwl2 hpre hrest
  dsimp only
  refine cS<|cQ<|sM Z<|sM Z<|sV (aF Z underlying187)<|sV (aN Z Z)<|sK [0,1,5,6,19] Z<|cC Z (λhd=>?_)<|λhd=>?_
  ·have hlt:j<xs.length:=Zx
   have hjr:j<rows.length:=by omega
   have hrow:rws[j]? = some rows[j]:=(hrest j<|Nat.le_refl _).trans<|Zy hjr
   have hrep:=hro.2 j _ xs[j] (Zy hjr)<|Zy hlt
   have hfx:=hf X (λ_ _ h=>h) xs[j] (List.getElem_mem hlt) _ hrep
   have htk:=bW hlt
   have hset:∀ r,(rws.set m r).take (m+1)=rws.take m++[r]:=λr=>by
    rw [List.take_succ_eq_append_getElem (by rw [List.length_set]; omega),List.take_set_of_le (Nat.le_refl _),List.getElem_set_self]
   generalize xs[j]=x at hrep hfx htk
   generalize rows[j]=r at hrow hrep hfx
   have hsz:r.length=18:=Enc.len hrep
   have hone:=Enc.ones hrep
   refine cK<|xT<|cS<|cB<|cQ<|sM Z<|sM Z<|sV (vI (k:=j) Z Z lD Z hlt Z)<|sV (ag Z gZ hsz<|eU hrow) ?_
   refine au qJ λb7=>?_
   refine ai (hl:=by rw [hsz]; rfl) Z Z mD hsz hone ?_
   refine sK [0,1,5,6,7] Z<|cQ<|sM Z<|sV (ag Z gZ hsz ah) ?_
   refine bf Z Z hE Z (hfx) ?_
   refine sV (bn Z)<|sK [0,1,5,6,7,29] Z<|cC Z (λhg=>?_)<|λhg=>?_
   ·have hgf:g x=false:=by simpa using hg
    have e1:[x].filter (λx => !g x)=[x]:=by simp [hgf]
    refine cQ<|sM Z<|sM Z<|sV (ag Z gZ hsz ah) ?_
    refine sV (vI (k:=m) Z Z lD Z (by omega) Z)<|Im (m:=m) (rows:=rws) (vs:=r) Z Z mD hsz (λu hu=>List.all_eq_true.1 hone u hu) (by omega) slq ?_
    refine sK [0,1,5,6] Z<|cR<|sM Z<|sV (aI Z Z Za)<|sA Z<|sN<|nK [0,1,5,6] Z<|ax<|xB<|xT<|cR<|sM Z<|sV (aI Z Z Za)<|sA Z<|sN<|nK [0,1,5,6] Z<|ax ?_
    refine aJ (m+1,j+1,rws.set m r) ⟨by dsimp only; omega,hlt,by rw [List.length_set]; exact hwl2,by rw [hset,htk,List.filter_append,e1]; exact hpre.snoc hrep,λk hk=>by
     have hk:j+1≤k:=hk
     rw [List.getElem?_set_ne (by omega)]; exact hrest k (by omega)⟩ (by dsimp only; omega)
   ·have hgt:g x=true:=by simpa using hg
    have e1:[x].filter (λx => !g x)=[]:=by simp [hgt]
    refine cK<|xB<|xT<|cR<|sM Z<|sV (aI Z Z Za)<|sA Z<|sN<|nK [0,1,5,6] Z<|ax ?_
    refine aJ (m,j+1,rws) ⟨by dsimp only; omega,hlt,hwl2,by rw [htk,List.filter_append,e1,List.append_nil]; exact hpre,λk hk=>hrest k (by dsimp only at hk; omega)⟩ (by dsimp only; omega)
  ·have hje:j=xs.length:=by
    have:¬ j<xs.length:=Zx
    omega
   subst hje
   rw [List.take_length] at hpre
   refine aB<|xE<|xE<|xY<|xT<|cQ<|sM Z<|sM Z<|sV (gp (show Value.slice (some ⟨b,if wc=m then o else o+m * 18,none⟩) (xs.length - m) (wc - m)=Value.slice (some ⟨b,o+m * 18,none⟩) (rws.length - m) (wc - m) by rw [if_neg (by omega),hwl2])<|mH (lo:=m) Z Z lD Z (by omega)<|by omega) ?_
   refine tX (m:=m) (rows:=rws) rfl underlying187 zV rfl (λv hv=>by simp [Value.cells] at hv; (repeat (first | (rcases hv with rfl | hv; · rfl) | (subst hv; rfl)))) (by omega) slq ?_
   refine sK [0,5] Z<|cQ<|sM Z<|sM Z<|sV (jS (hi:=m) Z Z lD Z<|by omega)<|p8 (zf (m:=m) ?_) ?_
   ·rw [List.length_append,List.length_take,List.length_replicate]; omega
   rw [List.take_append_of_le_length (by rw [List.length_take]; omega),List.take_take,Nat.min_self]
   refine sA Z<|sK [4] Z<|cT ?_
   exact aj Z ⟨_,Z,hpre,Z⟩ sbq
theorem Lt {v : Value} {rows : List (List Value)} {xs : List Mb} {kf : FuncId} {cp : Array Value} {g : Mb -> Bool} (hro : Rws X rows xs) (hb : xs.length * 232 ≤ 1099511627776) (hE : Ck.Enters prog kf) (hf : ∀ R : Res, (∀ p u, Rd X p u -> Rd R p u) -> ∀ a ∈ xs, ∀ us, Enc.rep R us a -> Reads prog kf (#[] ++ ([.agg us.toArray] : List Value).toArray ++ cp) [R] (.bool (g a))) :
  Ct prog 268 #[v,.func (.func kf) #[] cp] [VR v 75 14 rows,X] λu h'=>∃ rows',u.oneCell'=true/\Rws X rows' (xs.filter λx => !g x)/\h'=[VR u 75 14 rows',X]:=by
 have hml:maxLen=9223372036854775807:=rfl
 have hrb:reachBytes=140737488351232:=rfl
 have hrl:=hro.1
 refine aL (n:=42) func268 Z Z (len Z) λhr w0=>?_
 refine fO (r:=VR v 75 14 rows) slq λhok=>?_
 have ho:=VR.one hok.choose_spec
 have hls:Ls (Res.star [VR v 75 14 rows,X]) v xs:=Rws.ls (E:=75) (jw hro<|bJ<|.there .here) hok (bJ .here) (show xs.length * 232≤reachBytes by omega)
 have hix:=eT<|wG (g:=g) (cp:=cp) hls hE<|hf _<|bJ<|.there .here
 refine gm (v:=v) (E:=75) (sz:=14) (rows:=rows) slq λwa wc hwf hwl hwm=>?_
 rw [hrl] at hwf hwl
 subst hwf
 refine cQ<|sA Z<|sN<|nT<|cQ<|sM Z<|sM Z<|bf Z Z en222 Z (hix) ?_
 refine sA Z<|sK [0,1,4,5] Z<|cS<|cQ<|sM Z<|sV (dG Z Z)<|sK [0,1,4,5,12] Z ?_
 rw [Gs]
 cases hq:xs.findIdx? g with
 | none =>
  have hall:(xs.filter λx => !g x)=xs:=by
   rw [List.filter_eq_self]
   intro x hx
   simp [List.findIdx?_eq_none_iff.1 hq x hx]
  rw [hall]
  refine aT Z ?_
  refine cQ<|sM Z<|sA Z<|sK [4] Z<|cT<|xR ?_
  exact aj Z ⟨rows,ho,hro,Z⟩ sbq
 | some i0 =>
  obtain ⟨hi0,hg0,hbf⟩:=List.findIdx?_eq_some_iff_getElem.1 hq
  obtain ⟨b,o,rfl⟩:∃ b o,wa=some ⟨b,o,none⟩:=by
   obtain ⟨f0,hf0⟩:=hok
   rcases VR.form hf0 with ⟨h3,h4⟩ | ⟨b,o,cp,h3,-⟩
   ·rw [h4] at hrl; simp at hrl; omega
   ·rw [hrl] at h3; cases h3; exact ⟨b,o,rfl⟩
  have hf0:(xs.take i0).filter (λx => !g x)=xs.take i0:=by
   rw [List.filter_eq_self]
   intro x hx
   obtain ⟨j,hj,rfl⟩:=List.getElem_of_mem hx
   rw [List.length_take] at hj
   rw [List.getElem_take]
   simpa using hbf j (by omega)
  have hstart:Rws X (rows.take i0) ((xs.take (i0+1)).filter λx => !g x):=by
   rw [List.take_succ_eq_append_getElem hi0,List.filter_append,hf0]
   have:[xs[i0]].filter (λx => !g x)=[]:=by simp [hg0]
   rw [this,List.append_nil]
   refine ⟨by rw [List.length_take,List.length_take,hrl],λj us x h1 h2=>?_⟩
   rw [List.getElem?_take] at h1 h2
   split at h1
   ·rename_i hji; rw [if_pos hji] at h2; exact hro.2 j us x h1 h2
   ·cases h1
  rw [show ixI (some i0)=((i0:Nat):Int) from rfl]
  refine aG Z ?_
  refine cK<|xT<|cS<|cQ<|sM Z<|sV (aI Z Z Za)<|sA Z<|sK [0,1,4,5,6] Z<|cB<|aX (σ := Nat×Nat×List (List Value)) (λq=>[(0,.slice (some ⟨b,o,none⟩) xs.length wc),(1,.func (.func kf) #[] cp),(5,.int .i64 (q.1:Nat)),(6,.int .i64 (q.2.1:Nat))]) (λq=>VR (.slice (some ⟨b,o,none⟩) xs.length wc) 75 14 q.2.2::X::hr) (λq=>q.1<q.2.1/\q.2.1≤xs.length/\q.2.2.length=xs.length/\Rws X (q.2.2.take q.1) ((xs.take q.2.1).filter λx => !g x)/\∀ k,q.2.1≤k->q.2.2[k]? = rows[k]?) (λq=>xs.length - q.2.1) (i0,i0+1,rows) ⟨Nat.lt_succ_self _,hi0,hrl,hstart,λ_ _=>rfl⟩ ?_
  rintro ⟨m,j,rws⟩ ⟨hmj,hjn,hwl2,hpre,hrest⟩
  simp only at hmj hjn hwl2 hpre hrest
  dsimp only
  refine cS<|cQ<|sM Z<|sM Z<|sV (aF Z underlying52)<|sV (aN Z Z)<|sK [0,1,5,6,19] Z<|cC Z (λhd=>?_)<|λhd=>?_
  ·have hlt:j<xs.length:=Zx
   have hjr:j<rows.length:=by omega
   have hrow:rws[j]? = some rows[j]:=(hrest j<|Nat.le_refl _).trans<|Zy hjr
   have hrep:=hro.2 j _ xs[j] (Zy hjr)<|Zy hlt
   have hfx:=hf X (λ_ _ h=>h) xs[j] (List.getElem_mem hlt) _ hrep
   have htk:=bW hlt
   have hset:∀ r,(rws.set m r).take (m+1)=rws.take m++[r]:=λr=>by
    rw [List.take_succ_eq_append_getElem (by rw [List.length_set]; omega),List.take_set_of_le (Nat.le_refl _),List.getElem_set_self]
   generalize xs[j]=x at hrep hfx htk
   generalize rows[j]=r at hrow hrep hfx
   have hsz:r.length=14:=Enc.len hrep
   have hone:=Enc.ones hrep
   refine cK<|xT<|cS<|cB<|cQ<|sM Z<|sM Z<|sV (vI (k:=j) Z Z oP Z hlt Z)<|sV (ag Z eY hsz<|eU hrow) ?_
   refine au iT λb7=>?_
   refine ai (hl:=by rw [hsz]; rfl) Z Z gL hsz hone ?_
   refine sK [0,1,5,6,7] Z<|cQ<|sM Z<|sV (ag Z eY hsz ah) ?_
   refine bf Z Z hE Z (hfx) ?_
   refine sV (bn Z)<|sK [0,1,5,6,7,29] Z<|cC Z (λhg=>?_)<|λhg=>?_
   ·have hgf:g x=false:=by simpa using hg
    have e1:[x].filter (λx => !g x)=[x]:=by simp [hgf]
    refine cQ<|sM Z<|sM Z<|sV (ag Z eY hsz ah) ?_
    refine sV (vI (k:=m) Z Z oP Z (by omega) Z)<|Im (m:=m) (rows:=rws) (vs:=r) Z Z gL hsz (λu hu=>List.all_eq_true.1 hone u hu) (by omega) slq ?_
    refine sK [0,1,5,6] Z<|cR<|sM Z<|sV (aI Z Z Za)<|sA Z<|sN<|nK [0,1,5,6] Z<|ax<|xB<|xT<|cR<|sM Z<|sV (aI Z Z Za)<|sA Z<|sN<|nK [0,1,5,6] Z<|ax ?_
    refine aJ (m+1,j+1,rws.set m r) ⟨by dsimp only; omega,hlt,by rw [List.length_set]; exact hwl2,by rw [hset,htk,List.filter_append,e1]; exact hpre.snoc hrep,λk hk=>by
     have hk:j+1≤k:=hk
     rw [List.getElem?_set_ne (by omega)]; exact hrest k (by omega)⟩ (by dsimp only; omega)
   ·have hgt:g x=true:=by simpa using hg
    have e1:[x].filter (λx => !g x)=[]:=by simp [hgt]
    refine cK<|xB<|xT<|cR<|sM Z<|sV (aI Z Z Za)<|sA Z<|sN<|nK [0,1,5,6] Z<|ax ?_
    refine aJ (m,j+1,rws) ⟨by dsimp only; omega,hlt,hwl2,by rw [htk,List.filter_append,e1,List.append_nil]; exact hpre,λk hk=>hrest k (by dsimp only at hk; omega)⟩ (by dsimp only; omega)
  ·have hje:j=xs.length:=by
    have:¬ j<xs.length:=Zx
    omega
   subst hje
   rw [List.take_length] at hpre
   refine aB<|xE<|xE<|xY<|xT<|cQ<|sM Z<|sM Z<|sV (gp (show Value.slice (some ⟨b,if wc=m then o else o+m * 14,none⟩) (xs.length - m) (wc - m)=Value.slice (some ⟨b,o+m * 14,none⟩) (rws.length - m) (wc - m) by rw [if_neg (by omega),hwl2])<|mH (lo:=m) Z Z oP Z (by omega)<|by omega) ?_
   refine tX (m:=m) (rows:=rws) rfl underlying52 uO rfl (λv hv=>by simp [Value.cells] at hv; (repeat (first | (rcases hv with rfl | hv; · rfl) | (subst hv; rfl)))) (by omega) slq ?_
   refine sK [0,5] Z<|cQ<|sM Z<|sM Z<|sV (jS (hi:=m) Z Z oP Z<|by omega)<|p8 (zf (m:=m) ?_) ?_
   ·rw [List.length_append,List.length_take,List.length_replicate]; omega
   rw [List.take_append_of_le_length (by rw [List.length_take]; omega),List.take_take,Nat.min_self]
   refine sA Z<|sK [4] Z<|cT ?_
   exact aj Z ⟨_,Z,hpre,Z⟩ sbq
end
section
variable {X Y:Res} {v v':Value} {us us':List Value}
theorem Iz {x:Cm} {b4 i:Nat} (h:Enc.rep X us x) (hrd:Rd X ⟨b4,0,none⟩ (.int .i64 (i:Nat))):Reads prog 263 #[.agg us.toArray,.pointer (some ⟨b4,0,none⟩)] [X] (.bool (!(x.par == i))):=by
 obtain ⟨x2,x5,xy,x11,x12,x13,rfl,_⟩:=il h
 unfold oH
 refine aL (n:=8) func263 Z Z (len Z) λhr w0=>?_
 refine cQ (aV Z Z λb2=>?_)
 refine sA Z<|sK [1,2,3] Z<|cQ<|sV (vF Z ze Z)<|sV (vY Z ld3) ?_
 refine sV (vY Z ld3) ?_
 refine sV (bP Z Z)<|sA Z<|sK [3] Z<|cT ?_
 rw [show (((x.par:Nat):Int) != ((i:Nat):Int)) = !(x.par == i) by
  rw [Bool.eq_iff_iff]; simp; omega]
 exact aj Z ⟨Z,Z⟩ sbq
theorem en263:Ck.Enters prog 263:=enters_of func263 Zz rfl
theorem pQ {fv:Value} {c:FC} {ca cb ce cf ci mv:Value} {all:Bool} {bm i:Nat} {m:List (Nm×Value)} {n:Nm} {xs:List Cm} (hlk:Ls X ((bM m n).getD (.slice none 0 0)) xs) (hb:xs.length * 280≤1099511627776) :
  CtX prog 206 #[.agg (eZ v fv c ca cb ce cf ci mv (.map<|some bm) all).toArray,.int .i64 (i:Nat),sv n] X [mps bm m] λu Y k'=>∃ rows,u.oneCell'=true/\Rws Y rows (xs.filter λx=>x.par == i)/\k'=[VR u 191 18 rows,mps bm m]:=by
 have hfl:(xs.filter λx => !(!(x.par == i)))=xs.filter λx=>x.par == i:=by simp
 unfold eZ CtX
 refine aL (n:=14) func206 Z Z (len Z) λhr w0=>?_
 refine cQ (aV Z Z λb3=>?_)
 refine aV Z Z λb4=>?_
 refine sA Z<|sK [2,3,4,6] Z<|cQ<|sV (vF Z oZ Z)<|sV (vY Z qF) ?_
 refine sM Z<|sV (bH Z Z r9 sO slq) ?_
 refine aH Z Z en262 Z (FZ hlk) ?_
 rintro u h' ⟨T,rfl,rows,rfl,ho,hr⟩
 simp only [lC,lN]
 refine sV (bY Z Z) (J5 [pt b4 (cl [.int .i64 (i:Nat)] 3)] X λY hE hsel hpk=>?_)
 refine aH Z Z en261 Z (Lr (g:=λx => !(x.par == i)) (cp := #[.pointer (some ⟨b4,0,none⟩)]) (hr.up hE) hb en263 λR hRY a _ us h=>Iz (i:=i) h<|hRY _ _<|hsel _ _ .here _ _<|bV Z) ?_
 rintro u h' ⟨rows',hu,hr',rfl⟩
 simp only [lC,lN]
 rw [hfl] at hr'
 refine sA Z<|sK [6] Z<|cT ?_
 exact aj Z ⟨Y,_,Z,hE,rows',hu,hr',Z⟩ sbq
end
end Go.Fl
namespace Go.Fl
open Go Go.Hr
def dSds (l:FS):List Sd:=l.flatMap λc=>c.feats.map λf=>⟨c.name,f.name⟩
def dPre (l:FS):List Grp:=l.flatMap λc=>c.feats.map λf=>⟨c.name,f.req⟩
def dPost (l:FS):List Grp:=l.flatMap λc=>c.feats.map λf=>⟨c.name,f.ens⟩
structure MOk (l:FS) (m:Mb):Prop where
 name:m.name.length≤20
 snd:m.seeds.Nodup
 sds:∀ s∈m.seeds,s∈dSds l
 pnd:m.pre.Nodup
 pre:∀ g∈m.pre,g∈dPre l
 qnd:m.post.Nodup
 post:∀ g∈m.post,g∈dPost l
theorem IA {o:List Grp} {g:Grp} (h:o.Nodup):(uZ o g).Nodup:=by
 unfold uZ
 split
 ·exact h
 ·rename_i hg
  have hg:g ∉ o:=by simpa using hg
  refine List.nodup_append.2 ⟨h,by simp,λa ha b hb e=>?_⟩
  rw [List.mem_singleton.1 hb] at e
  exact hg (e ▸ ha)
theorem IB {l o:List Grp} (h:o.Nodup):(qQ o l).Nodup:=by
 unfold qQ
 induction l generalizing o with
 | nil=>exact h
 | cons g t ih=>exact ih (IA h)
theorem pR (ls:List (List Grp)):(groups ls).Nodup:=by
 have key:∀ (ls:List (List Grp)) (o:List Grp),o.Nodup->(ls.foldl qQ o).Nodup:=by
  intro ls
  induction ls with
  | nil=>exact λ_ h=>h
  | cons a t ih=>exact λo h=>ih _ (IB h)
 exact key ls [] List.nodup_nil
theorem mQ (cs:List Cm) (f:Cm->List Grp):(cs.foldl (λ(o:List Grp) (y:Cm)=>groups [o,f y]) []).Nodup:=by
 have key:∀ (cs:List Cm) (o:List Grp),o.Nodup->(cs.foldl (λ(o:List Grp) (y:Cm)=>groups [o,f y]) o).Nodup:=by
  intro cs
  induction cs with
  | nil=>exact λ_ h=>h
  | cons a t ih=>exact λo h=>ih _ (pR _)
 exact key cs [] List.nodup_nil
theorem yH.nodup {xs:List Sd} (h:yH xs):xs.Nodup:=by
 rw [List.nodup_iff_pairwise_ne]
 exact h.imp λ{a b} hab e=>by
  subst e
  rw [pF] at hab; cases hab
theorem CX {s:Nm} (h:small s=true):s.length≤20:=by
 unfold small at h
 split at h
 ·simp
 ·simp only [Bool.and_eq_true,decide_eq_true_eq] at h
  exact h.1.1.1
section
variable {l:FS}
theorem Gt {c:FC} (hc:CRight l c) {p:Pt} (hp:p∈c.pars) {n:Nm} (hn:n.length≤20):(bQ p n).length≤20:=by
 unfold bQ
 cases hf:p.ren.find? λx=>x.fro == n with
 | none=>exact hn
 | some x=>exact CX (hc.tosmall p hp x (List.mem_of_find?_eq_some hf))
theorem zm {fl:Nm->Fl} (h:∀ n,∀ m∈(fl n).mems,MOk l m) {c:FC} (hc:CRight l c) {x:Cm} (hx:x∈comes fl l c):MOk l x.mem:=by
 obtain ⟨p,hp,m,hm,e⟩:=jf hx
 have h1:=h _ m hm
 rw [e]
 exact ⟨Gt hc (List.mem_of_getElem? hp) h1.name,h1.snd,h1.sds,h1.pnd,h1.pre,h1.qnd,h1.post⟩
theorem CY {cs:List Cm} (h:∀ x∈cs,MOk l x.mem) (h0:cs≠[]):MOk l (joined cs):=by
 obtain ⟨x,hx,h1,_⟩:=mO cs h0
 exact ⟨h1 ▸ (h x hx).name,(jK _).1.nodup,λs hs=>by
   obtain ⟨y,hy,h2⟩:=kJ.1 hs
   exact (h y hy).sds s h2,mQ cs λx=>x.mem.pre,λg hg=>by
   obtain ⟨y,hy,h2⟩:=tJ.1 hg
   exact (h y hy).pre g h2,mQ cs λx=>x.mem.post,λg hg=>by
   obtain ⟨y,hy,h2⟩:=qY.1 hg
   exact (h y hy).post g h2⟩
theorem own_ok {cs:List Cm} {c:FC} {f:Fe} (hc:CRight l c) (hcl:c∈l) (hf:f∈c.feats) (h:∀ x∈cs,MOk l x.mem):MOk l (jJ c f cs):=by
 have hp:(⟨c.name,f.req⟩:Grp)∈dPre l:=List.mem_flatMap.2 ⟨c,hcl,List.mem_map.2 ⟨f,hf,rfl⟩⟩
 have hq:(⟨c.name,f.ens⟩:Grp)∈dPost l:=List.mem_flatMap.2 ⟨c,hcl,List.mem_map.2 ⟨f,hf,rfl⟩⟩
 have hs:(⟨c.name,f.name⟩:Sd)∈dSds l:=List.mem_flatMap.2 ⟨c,hcl,List.mem_map.2 ⟨f,hf,rfl⟩⟩
 have hn:=CX<|hc.fsmall f hf
 have hpost:∀ g∈(if f.ens=[] then ([]:List Grp) else [⟨c.name,f.ens⟩]),g∈dPost l:=λg hg=>by
  split at hg
  ·cases hg
  ·rw [List.mem_singleton.1 hg]; exact hq
 by_cases h0:cs=[]
 ·subst h0
  refine ⟨hn,?_,?_,?_,?_,?_,hpost⟩
  ·show ([_]:List Sd).Nodup
   simp
  ·intro s h2
   have h2:s∈([⟨c.name,f.name⟩]:List Sd):=h2
   rw [List.mem_singleton.1 h2]; exact hs
  ·show ([_]:List Grp).Nodup
   simp
  ·intro s h2
   have h2:s∈([⟨c.name,f.req⟩]:List Grp):=h2
   rw [List.mem_singleton.1 h2]; exact hp
  ·show (if f.ens=[] then ([]:List Grp) else [⟨c.name,f.ens⟩]).Nodup
   split <;> simp
 ·have hj := CY h h0
  unfold jJ
  simp only []
  rw [if_neg h0]
  refine ⟨hn,hj.snd,hj.sds,pR _,λg hg=>?_,pR _,λg hg=>?_⟩
  ·obtain ⟨a,ha,hga⟩:=lM.1 hg
   simp only [List.mem_cons,List.not_mem_nil,or_false] at ha
   rcases ha with rfl | rfl
   ·exact hj.pre g hga
   ·split at hga
    ·cases hga
    ·rw [List.mem_singleton.1 hga]; exact hp
  ·obtain ⟨a,ha,hga⟩:=lM.1 hg
   simp only [List.mem_cons,List.not_mem_nil,or_false] at ha
   rcases ha with rfl | rfl
   ·exact hj.post g hga
   ·exact hpost g hga
theorem zn {fl:Nm->Fl} (h:∀ n,∀ m∈(fl n).mems,MOk l m) {c:FC} (hc:CRight l c) (hcl:c∈l):∀ m∈members (comes fl l c) c,MOk l m:=λm hm=>by
 rcases (yh hc.names).1 hm with ⟨n,⟨x,hx,hxn⟩,_,rfl⟩ | ⟨f,hf,rfl⟩
 ·exact CY (λy hy=>zm h hc (fP.1 hy).1)<|List.ne_nil_of_mem<|fP.2 ⟨hx,hxn⟩
 ·exact own_ok hc hcl hf λy hy=>zm h hc (fP.1 hy).1
theorem Gu {c:Nm}:ae l c∈l∨ae l c=Bu:=by
 cases h:bK l c with
 | none=>exact .inr (vg h)
 | some x=>rw [iF h]; exact .inl (List.mem_of_find?_eq_some h)
theorem NP (hR : FRight l) : ∀ (n : Nat) (c : Nm), ∀ m ∈ (flF l n c).mems, MOk l m
 | 0,c,m,hm=>by cases hm
 | n + 1, c, m, hm => by
  rcases Gu (l:=l) (c:=c) with h | h
  ·exact zn (NP hR n) (gq<|hR.form _ h) h m hm
  ·have:(flF l (n+1) c).mems=[]:=by
    show members (comes (flF l n) l<|ae l c) (ae l c)=[]
    rw [h]; rfl
   rw [this] at hm; cases hm
theorem FL_ok (hR:FRight l) (c:Nm):∀ m∈(FL l c).mems,MOk l m:=NP hR _ c
structure FlB (l:FS) (fl:Nm->Fl):Prop where
 few:∀ n,(fl n).mems.length≤60
 ok:∀ n,∀ m∈(fl n).mems,MOk l m
theorem NQ (hR:FRight l) {o:List Nm} (h:∀ n∈o,okF l n):FlB l (look (forms l o)):=by
 have key:∀ n,look (forms l o) n=fl0∨(n∈o/\look (forms l o) n=FL l n):=λn=>by
  by_cases hn:n∈o
  ·exact .inr ⟨hn,pg hn⟩
  ·exact .inl<|KJ hn
 constructor
 ·intro n
  rcases key n with h1 | ⟨h1,h2⟩
  ·rw [h1]; exact Nat.zero_le _
  ·rw [h2,iG hR.sys]
   have:=(h n h1).2
   unfold over at this
   simp only [Bool.or_eq_false_iff,decide_eq_false_iff_not] at this
   omega
 ·intro n m hm
  rcases key n with h1 | ⟨h1,h2⟩
  ·rw [h1] at hm; cases hm
  ·rw [h2] at hm; exact FL_ok hR n m hm
theorem iY {α β : Type} {f : α -> List β} {k:Nat}:∀ {xs:List α},(∀ x∈xs,(f x).length≤k)->(xs.flatMap f).length≤xs.length * k
 | [],_=>by simp
 | a::t,h=>by
  have h1:=h a<|by simp
  have h2:=iY (f:=f) (xs:=t) λx hx=>h x<|by simp [hx]
  rw [List.flatMap_cons,List.length_append,List.length_cons,Nat.add_mul,Nat.one_mul]
  omega
theorem dLen {β : Type} (hR:FRight l) (g:FC->Fe -> β):(l.flatMap λc=>c.feats.map (g c)).length≤1440:=by
 have h1:=iY (xs:=l) (f:=λc=>c.feats.map<|g c) (k:=60) λc hc=>by
  rw [List.length_map]; exact (gq<|hR.form c hc).feats
 have h2:=hR.sys.len
 rw [jv] at h2
 omega
theorem MOk.lens (hR:FRight l) {m:Mb} (h:MOk l m):m.seeds.length≤1440/\m.pre.length≤1440/\m.post.length≤1440 :=
 ⟨Nat.le_trans (aQ h.snd h.sds) (dLen hR _),Nat.le_trans (aQ h.pnd h.pre) (dLen hR _),Nat.le_trans (aQ h.qnd h.post)<|dLen hR _⟩
theorem NS (hR:FRight l) {c:FC} (hc:c∈l):c.pars.length≤4:=by
 have:=hR.sys.few c.cls<|List.mem_map.2 ⟨c,hc,rfl⟩
 simpa [FC.cls] using this
theorem wQ (hR:FRight l) {fl:Nm->Fl} (h:FlB l fl) {c:FC} (hc:c∈l):(comes fl l c).length≤240:=by
 have h1:=iY (xs:=c.pars.zipIdx) (f:=λq:Pt×Nat=>(fl q.1.name).mems.map<|qO (ae l q.1.name).forms q.2 q.1) (k:=60) λq _=>by
  rw [List.length_map]; exact h.few _
 have h2:=NS hR hc
 have h3:(comes fl l c).length≤c.pars.zipIdx.length * 60:=h1
 rw [List.length_zipIdx] at h3
 omega
theorem IC (hR:FRight l) {fl:Nm->Fl} (h:FlB l fl) {c:FC} (hc:c∈l):((comes fl l c).flatMap λx=>x.mem.seeds).length≤345600/\((comes fl l c).flatMap λx=>x.mem.pre).length≤345600/\((comes fl l c).flatMap λx=>x.mem.post).length≤345600:=by
 have h1:=wQ hR h hc
 have h2:=λx (hx:x∈comes fl l c)=>(zm h.ok (gq<|hR.form c hc) hx).lens hR
 have g1:=iY (xs:=comes fl l c) (f:=λx=>x.mem.seeds) (k:=1440) λx hx=>(h2 x hx).1
 have g2:=iY (xs:=comes fl l c) (f:=λx=>x.mem.pre) (k:=1440) λx hx=>(h2 x hx).2.1
 have g3:=iY (xs:=comes fl l c) (f:=λx=>x.mem.post) (k:=1440) λx hx=>(h2 x hx).2.2
 omega
theorem Gv (hR:FRight l) {fl:Nm->Fl} (h:FlB l fl) {c:FC} (hc:c∈l):(members (comes fl l c) c).length≤300/\((members (comes fl l c) c).flatMap λm=>m.seeds).length≤432000:=by
 have hC:=gq<|hR.form c hc
 have h1:=wQ hR h hc
 have hn:=(pG (comes fl l c) hC.names)
 have hk:(keys<|comes fl l c).length≤(comes fl l c).length:=by
  have:(keys<|comes fl l c).length≤((comes fl l c).map λx=>x.mem.name).length:=aQ (ig _) λn hn=>by
   obtain ⟨x,hx,e⟩:=jV.1 hn
   exact List.mem_map.2 ⟨x,hx,e⟩
  simpa using this
 have h2:(members (comes fl l c) c).length≤(tH (comes fl l c) c).length:=by
  have:((members (comes fl l c) c).map λm=>m.name).length≤((tH (comes fl l c) c).map λm=>m.name).length:=aQ hn.1.nodup λn hn'=>by
   obtain ⟨m,hm,e⟩:=List.mem_map.1 hn'
   exact List.mem_map.2 ⟨m,(hn.2 m).1 hm,e⟩
  simpa using this
 have h3:(tH (comes fl l c) c).length≤300:=by
  unfold tH
  rw [List.length_append,List.length_map,List.length_map]
  have:=List.length_filter_le (λn=>(feat c n).isNone)<|keys<|comes fl l c
  have:=hC.feats
  omega
 have g1:=iY (xs:=members (comes fl l c) c) (f:=λm=>m.seeds) (k:=1440) λm hm=>((zn h.ok hC hc m hm).lens hR).1
 omega
end
end Go.Fl
namespace Go.Ck
open Go Go.RowKit
def dz (w:World):World:={ w with drawn:=0 }
theorem vJ (w:World):Same (dz w) w:=⟨rfl,rfl,rfl,Nat.zero_le _,Nat.le_refl _,λ_ _=>rfl⟩
theorem Same.dz {w w':World} (h:Same w w'):Same (dz w) w':=(vJ w).trans h
theorem Same.dtrans {w0 w w':World} (h:Same w0 w) (h0:w0.drawn=0) (k:Same (Go.Ck.dz w) w'):Same w0 w' :=
 ⟨k.os.trans h.os,k.tape.trans h.tape,k.output.trans h.output,by rw [h0]; exact Nat.zero_le _,Nat.le_trans h.size k.size,λx hx=>(k.fz x<|Nat.lt_of_lt_of_le hx h.size).trans<|h.fz x hx⟩
def Ctw (P:Program) (k:FuncId) (args:Array Value) (hf:SH) (R:Value->SH->Prop):Prop :=
 ∀ (hr:SH) (w:World),Holds w (hf++hr)->Calls P k args w λe w'=>∃ v h',e = .returned v/\R v h'/\Holds w' (h'++hr)/\Same (dz w) w'
theorem Ct.w {P:Program} {k:FuncId} {args:Array Value} {hf:SH} {R:Value->SH->Prop} (h:Ct P k args hf R):Ctw P k args hf R :=
 λhr w hh=>(h hr w hh).mono λ_ _ ⟨v,h',e,r,g,s⟩=>⟨v,h',e,r,g,s.dz⟩
theorem Ctw.mono {P:Program} {k:FuncId} {args:Array Value} {hf:SH} {R R':Value->SH->Prop} (h:Ctw P k args hf R) (hr:∀ v h',R v h'->R' v h'):Ctw P k args hf R' :=
 λhr' w hw=>(h hr' w hw).mono λ_ _ ⟨v,h',e,r,rest⟩=>⟨v,h',e,hr v h' r,rest⟩
theorem Ctw.perm {P:Program} {k:FuncId} {args:Array Value} {hf hf':SH} {R:Value->SH->Prop} (h:Ctw P k args hf R) (p:hf.Perm hf'):Ctw P k args hf' R :=
 λhr w hw=>h hr w ((bg.perm<|p.append_right hr).2 hw)
def dS (P:Program) (k:FuncId) (args:Array Value) (X:Res) (hf:SH) (R:Value->Res->SH->Prop):Prop:=Ctw P k args (X::hf) λu h'=>∃ Y k',h'=Y::k'/\Ext X Y/\R u Y k'
theorem fu {P:Program} {k:FuncId} {fn:Func} {x:Code} {n:Nat} {l:List Value} {hf:SH} {R:Value->SH->Prop} (hF:P.funcs[k]? = some fn) (hb:fn.body=some x) (hnt:fn.ntmps=n) (hn:l.length≤n)
  (hc:∀ (hr:SH) (w0:World),w0.drawn=0->Cd ⟨P,none,n,[],w0⟩ x (bodyPost P fn<|Post w0 hr R) (Env.ofArgs 0 l) (hf++hr)):Ctw P k l.toArray hf R:=λhr w hh=>by
 refine uB (r:=none) (n:=0)<|callsIn_of_wp hF hb trivial<|hc hr (dz w) Z _ w ⟨?_,Z,λi v hi=>?_⟩ hh<|vJ w
 ·simp; omega
 ·obtain ⟨_,h2⟩:=Env.ofArgs_get hi
  simp only [Nat.sub_zero] at h2
  have hlt:i<l.length:=(List.getElem?_eq_some_iff.1 h2).1
  rw [Zy hlt,Option.some.injEq] at h2
  simp [Array.getElem?_append,hlt,h2]
theorem En {P:Program} {k:FuncId} {fn:Func} {x:Code} {n:Nat} {l:List Value} {hf:SH} {R:Value->SH->Prop} (hF:P.funcs[k]? = some fn) (hb:fn.body=some x) (hnt:fn.ntmps=n) (hn:l.length≤n)
  (hc:∀ (hr:SH) (w0:World),w0.drawn=0->Cd ⟨P,none,n,[],w0⟩ x (bodyPostM (Fw none) 0 P fn<|Post w0 hr R) (Env.ofArgs 0 l) (hf++hr)):Ctw P k l.toArray hf R:=λhr w hh=>by
 refine uB (r:=none) (n:=0)<|callsIn_of_wp_marks hF hb trivial<|hc hr (dz w) Z _ w ⟨?_,Z,λi v hi=>?_⟩ hh<|vJ w
 ·simp; omega
 ·obtain ⟨_,h2⟩:=Env.ofArgs_get hi
  simp only [Nat.sub_zero] at h2
  have hlt:i<l.length:=(List.getElem?_eq_some_iff.1 h2).1
  rw [Zy hlt,Option.some.injEq] at h2
  simp [Array.getElem?_append,hlt,h2]
section
variable {c:Cx} {ops:Array Oper} {K:Act->World->Prop} {rest:List Oper} {e:Env} {h hr:SH}
theorem bF {d:Nat} {f:Operand} {az:Array Operand} {ts:Array TypeId} {ty:TypeId} {pos:String} {after:Array Edge} {k:FuncId} {fi cp:Array Value} {vs:List Value} {args:Array Value} {hf:SH} {R:Value->SH->Prop} (h0:c.w0.drawn=0)
  (hv:e.ev? f=some (.func (.func k) fi cp)) (has:az.toList.mapM e.ev? = some vs) (hE:Enters c.P k) (ha:fi++vs.toArray++cp=args) (ct:Ctw c.P k args hf R)
  (hn:∀ v h',R v h'->St c ops K rest ((d,v)::e) (h'++hr)) (pk:Pk h hf hr:=by repeat (first | exact Pk.nil | (apply Pk.cons; (repeat (first | exact Sel.here | apply Sel.there))))) (hd:d<c.n:=by exact ltn rfl) :
  St c ops K (⟨some d,.call { callee:=.value f,args:=az,argTypes:=ts },ty,pos,after,none⟩::rest) e h :=
 eu (by simp) λa w hk hh hs=>by
  rw [qx hv has hE ha hk.evs]
  exact (ct hr w<|hh.pk pk).mono λ_ w' ⟨v,h',he,hR,hH,hS⟩=>⟨v,he,hn v h' hR _ w' (hk.put v hd) hH<|hs.dtrans h0 hS⟩
end
theorem wR {P : Program} {n : Nat} {ds : List Deferred} {w0 : World} {Q : Exit -> Act -> World -> Prop} {e : Env} {h : SH} {g : Operand} {k : FuncId} {fi cp : Array Value} {ps : Array Tmp} {assign body : Code} (h0 : w0.drawn = 0)
  (hg:e.ev? g=some (.func (.func k) fi cp)) (hE:Enters P k)
  (hct:∀ (l db:Nat) (rec:Loop),rec.state = .ready->rec.pending=none->rec.params=ps->rec.assign=assign->rec.body=body->Kn n [] { tmps:=rec.tmps,defers:=[] } e ->
   ∃ R',Ctw P k (fi ++ #[.func (.yield l) #[] #[]]++cp) (pt l (.loop rec)::pt db (.deferred<|some [])::h) R' /\
    ∀ v h',R' v h'->∃ rec h'',Sel h' (pt l (.loop rec)) h''/\rec.state≠.busy/\(match rec.pending with | none=>Xt ⟨P,none,n,mk db::ds,w0⟩ .normal Q e h'' | some x=>Cd ⟨P,none,n,mk db::ds,w0⟩ x Q e h'')) :
  Cd ⟨P,none,n,ds,w0⟩ (.rangeFunc g ps assign body) Q e h:=λa w hk hh hw=>by
 refine wpIn_rangeFunc λfn _=>?_
 obtain ⟨R',ct,hR'⟩:=hct (w.heap.size+1) w.heap.size (qB fn a.tmps ps assign body w.heap.size) rfl rfl rfl rfl rfl ⟨hk.size,rfl,hk.get⟩
 have h1:=Holds.alloc (Holds.alloc hh<|.deferred<|some [])<|.loop<|qB fn a.tmps ps assign body w.heap.size
 have hsz:(w.alloc<|.deferred<|some []).heap.size=w.heap.size+1:=World.size_alloc _ _
 rw [hsz] at h1
 refine ⟨_,_,_,⟨.fn (.func k) cp,fi ++ #[.func (.yield (w.heap.size+1)) #[] #[]]⟩,(w.alloc<|.deferred<|some []).alloc (.loop<|qB fn a.tmps ps assign body w.heap.size),k,fi ++ #[.func (.yield (w.heap.size+1)) #[] #[]]++cp,(w.alloc<|.deferred<|some []).alloc (.loop<|qB fn a.tmps ps assign body w.heap.size),run_enterLoop_outer fn a.tmps ps assign body,?_,λ_ _=>trivial,?_,λh=>by simp [Fw,Fence.wide] at h,?_⟩
 ·simp only [resolve,hk.ev hg,Deferred.ofValue,Sem.run_bind,Sem.run_pure,Result.andThen_ok]
  simp [Act.eval,qB]
 ·have:(invoke (.fn (.func k) cp) (fi ++ #[.func (.yield (w.heap.size+1)) #[] #[]])).run P ((w.alloc<|.deferred<|some []).alloc<|.loop<|qB fn a.tmps ps assign body w.heap.size) = .ok (.enter k (fi ++ #[.func (.yield (w.heap.size+1)) #[] #[]]++cp)) ((w.alloc<|.deferred<|some []).alloc<|.loop<|qB fn a.tmps ps assign body w.heap.size):=hE _ _
  exact this
 ·have hgr:Same w ((w.alloc<|.deferred<|some []).alloc<|.loop<|qB fn a.tmps ps assign body w.heap.size):=(Grew.alloc _ _ rfl).toSame.trans (Grew.alloc _ _ rfl).toSame
  have hctw:=ct [] _ Ze
  refine sH (Calls.mono hctw λen w' ⟨v,h',he,hRv,hH,hS⟩=>?_)
  subst he
  obtain ⟨rec,h'',s,hbusy,hj⟩:=hR' v h' hRv
  have hH':=(show Holds w' h' by simpa using hH).sel s
  refine ⟨rec.pending,_,run_endLoop hH'.1 hbusy,?_⟩
  have hk2:Kn n (mk w.heap.size::ds) { a with defers:=[{ target:=.collected w.heap.size,args := #[] }]++a.defers } e:=⟨hk.size,by simp [mk,hk.defers],hk.get⟩
  have hH2:∀ o,Holds (w'.putObj (w.heap.size+1) o) h'':=λo=>(Holds.putObj hH' o).2.2
  have hS2:∀ r,Same w0 (w'.putObj (w.heap.size+1)<|.loop r):=λr=>((hw.trans hgr).dtrans h0 hS).trans<|Same.putObj _ _ _ hH'.1 rfl rfl
  generalize rec.pending=j at hj ⊢
  cases j with
  | none=>exact hj _ _ hk2 (hH2 _) (hS2 _)
  | some x=>exact hj _ _ hk2 (hH2 _) (hS2 _)
end Go.Ck
namespace Go.Fl
open Go Go.RowKit Go.Ck Go.Proofs Go.Proofs.Tryz Go.Proofs.YtknmacdbffgjgaaGreatDoor Fx Go.Hr
def yn:Go.Shelf.Ren:={
 f:=λ| 156=>172 | 165=>238 | 166=>239 | 169=>240 | 240=>276 | 241=>277 | 276=>299 | 277=>300 | n=>n
 t:=λ| 31=>40 | 9=>9 | 3=>3 | 4=>4 | 0=>0 | 20=>20 | 72=>301 | 76=>305 | 70=>299 | 37=>37 | 75=>304 | 127=>338 | 164=>360 | 5=>5 | 80=>307 | n=>n
 g:=λn=>n }
theorem Kc:Go.Proofs.Lays.n156 prog yn:={
 mixed:=rfl
 f156:=func172.trans<|congrArg some Zz
 f165:=func238.trans<|congrArg some Zz
 f166:=func239.trans<|congrArg some Zz
 f169:=func240.trans<|congrArg some Zz
 f240:=func276.trans<|congrArg some Zz
 f241:=func277.trans<|congrArg some Zz
 f276:=func299.trans<|congrArg some Zz
 f277:=func300.trans<|congrArg some Zz
 t0:=underlying0
 a0:=isAgg0
 z0:=sizeOf0
 v0:=zeroValue0
 t3:=underlying3
 a3:=isAgg3
 z3:=sizeOf3
 v3:=zeroValue3
 t4:=underlying4
 a4:=isAgg4
 z4:=sizeOf4
 v4:=zeroValue4
 t9:=underlying9
 a9:=isAgg9
 z9:=sizeOf9
 v9:=zeroValue9
 t20:=underlying20
 a20:=isAgg20
 z20:=sizeOf20
 v20:=zeroValue20
 t31:=underlying40
 a31:=isAgg40
 z31:=sizeOf40
 v31:=zeroValue40
 t37:=underlying37
 a37:=isAgg37
 z37:=sizeOf37
 v37:=zeroValue37
 t70:=underlying299
 a70:=isAgg299
 z70:=sizeOf299
 v70:=zeroValue299
 t72:=underlying301
 a72:=isAgg301
 z72:=sizeOf301
 v72:=zeroValue301
 t75:=underlying304
 a75:=isAgg304
 z75:=sizeOf304
 v75:=zeroValue304
 t76:=underlying305
 a76:=isAgg305
 z76:=sizeOf305
 v76:=zeroValue305
 t127:=underlying338
 a127:=isAgg338
 z127:=sizeOf338
 v127:=zeroValue338
 t164:=underlying360
 a164:=isAgg360
 z164:=sizeOf360
 v164:=zeroValue360 }
theorem Gw:Builder.Extra prog yn where
 sizeBuilder:=Zz
 liesBuilder:=Zz
 t5:=Zz
 a5:=isAgg5
 z5:=sizeOf5
 v5:=zeroValue5
 infoByte:=Zz
 cellsByte:=Zz
 sizeByte:=Zz
 neB5:=by decide
theorem Be {w w':World} (h:Below w.heap.size w w'):Same (dz w) w':=⟨h.os,h.tape,h.output,Nat.zero_le _,h.size,λa ha=>h.frozen ha⟩
theorem yt {w w':World} {H:SH} (h:Below w.heap.size w w') (hh:Holds w H):Holds w' H:=bg.loc hh λb hb=>(h.block b<|Holds.lt hh hb).symm
theorem IE (a:Nm) (t:List Nm):jU (a::t)=a++Lib.joinTail [32] t:=by
 induction t generalizing a with
 | nil=>simp [jU,Lib.joinTail]
 | cons b t ih =>
  show a++32::jU (b::t)=_
  rw [ih b]
  simp [Lib.joinTail]
theorem Gx (xs:List Nm):Lib.join xs [32]=jU xs:=by
 cases xs with
 | nil=>rfl
 | cons a t=>rw [Lib.join_cons,IE]
theorem CZ {k:Nat}:∀ {xs:List Nm},(∀ x∈xs,x.length≤k)->(jU xs).length≤xs.length * (k+1)
 | [],_=>by simp [jU]
 | [a],h=>by
  have:=h a<|by simp
  show a.length≤_
  simp only [List.length_singleton,Nat.one_mul]; omega
 | a::b::t,h=>by
  have h1:=h a<|by simp
  have h2:=CZ (xs:=b::t) λx hx=>h x (by simp only [List.mem_cons] at hx ⊢; exact .inr hx)
  have h3:jU (a::b::t)=a++32::jU (b::t):=rfl
  rw [h3,List.length_append,List.length_cons,List.length_cons (a:=a),Nat.add_mul,Nat.one_mul]
  omega
theorem Ke {v:Value} {xs:List Nm} (hl:xs.length≤1099511627776) (hj:(jU xs).length≤140737488355328):Ctw prog 172 #[v,sv [32]] [NR v xs] λu h'=>u=sv (jU xs)/\h'=[NR v xs]:=by
 intro hr w hh
 have hv:=hh.1
 rcases hv.2 with ⟨rfl,h0⟩ | ⟨b,o,cp,pre,j,rfl,hb,hpre,hc1,hc2,hc3⟩
 ·have hx:xs=[]:=List.map_eq_nil_iff.1 h0
  subst hx
  exact (Any.strings_Join_none Kc Gw none 0 ⟨⟨[32]⟩⟩ w).mono λe w' ⟨h1,h2⟩=>⟨sv [],_,h1,⟨Z,Z⟩,by rw [h2]; exact hh,by rw [h2]; exact vJ w⟩
 ·rw [mJ] at hb
  have hb:w.heap[b]? = some (cl (pre++(xs.map sv++j)) 9):=hb
  have hlt:b<w.heap.size:=(Array.getElem?_eq_some_iff.1 hb).1
  have hml:(xs.map λn=>(⟨⟨n⟩⟩:ByteArray)).map (·.data.toList)=xs:=by rw [List.map_map]; exact List.map_id _
  have hc:=Any.strings_Join Kc Gw b o cp (xs.map λn=>(⟨⟨n⟩⟩:ByteArray)) ⟨⟨[32]⟩⟩ w (λi x hi=>by
   rw [List.getElem?_map] at hi
   obtain ⟨n,hn,rfl⟩:=Option.map_eq_some_iff.1 hi
   have hil:=(List.getElem?_eq_some_iff.1 hn).1
   simp only [World.cell?,hb,cl,Option.isSome_none,Bool.false_eq_true,if_false,List.getElem?_toArray]
   rw [<- hpre,List.getElem?_append_right (by omega),Nat.add_sub_cancel_left,List.getElem?_append_left (by simpa using hil),List.getElem?_map,hn]
   rfl) hlt (by rw [List.length_map]; omega) (by
    rw [List.length_map]
    have:(xs.map nC).length=xs.length:=by simp
    omega) (by rw [hml,Gx]; exact hj)
  rw [hml,Gx,List.length_map] at hc
  rw [show (xs.map nC).length=xs.length by simp]
  rw [show (xs.map nC).length=xs.length by simp] at hh
  exact Calls.mono hc λe w' ⟨h1,h2⟩=>⟨sv (jU xs),_,h1,⟨Z,Z⟩,yt h2 hh,Be h2⟩
end Go.Fl
namespace Go.Ck
open Go Go.RowKit
theorem v_mlenI {P : Program} {e : Env} {h h' : SH} {t ty' K E : TypeId} {x : Operand} {b : Nat} {m : List (Int × Value)} (hx : e.ev? x = some (.map (some b))) (ht : P.underlying t = some (.map K E)) (hs : Sel h (mpr b m) h') :
  Vop P e h (.call { callee:=.builtin .len,args := #[x],argTypes := #[t] }) ty' (.int .i64 m.length):=
 ⟨by simp,by simp,λρ w d pos after g hρ hh=>by
  obtain ⟨es,ck,h1,h2,_⟩:=(hh.sel hs).1
  have hg:(getObj b).run P w = .ok (.map es ck) w:=run_getObj_map h1
  have hl:es.size=m.length:=by
   have:=congrArg List.length h2
   simpa [mW] using this
  simp [execOp,resolve,invoke,builtin,hρ x _ hx,Builtin.len_,run_underlying ht,goInt,hg,hl]⟩
end Go.Ck
namespace Go.Fl
open Go Go.RowKit Go.Ck Go.Proofs Go.Proofs.Tryz Go.Proofs.YtknmacdbffgjgaaGreatDoor Fx Go.Hr
theorem Gy (cs:List Cm) (x:Cm) (s:Sd):having (cs++[x]) s=if x.mem.seeds.contains s then having cs s++[x] else having cs s:=by
 unfold having
 rw [List.filter_append]
 by_cases h:x.mem.seeds.contains s=true
 ·rw [if_pos h,List.filter_cons,if_pos h]; rfl
 ·rw [if_neg h,List.filter_cons,if_neg h]; simp
theorem Gz (c:FC) (xs:List Cm) (x:Cm):picked c (xs++[x])=if (dD c x.par).sel.contains x.mem.name && !(picked c xs).contains x.mem.name then picked c xs++[x.mem.name] else picked c xs:=by
 unfold picked
 rw [List.filter_append]
 by_cases h:(dD c x.par).sel.contains x.mem.name=true
 ·have e1:[x].filter (λx=>(dD c x.par).sel.contains x.mem.name)=[x]:=by rw [List.filter_cons,if_pos h]; rfl
  rw [e1,List.map_append,List.map_cons,List.map_nil,rD,h,Bool.true_and]
  unfold Hr.step
  by_cases h2:(dd [] ((xs.filter λx=>(dD c x.par).sel.contains x.mem.name).map λx=>x.mem.name)).contains x.mem.name=true
  ·rw [if_pos h2,h2]; rfl
  ·rw [if_neg h2,if_pos Zp]
 ·have e1:[x].filter (λx=>(dD c x.par).sel.contains x.mem.name)=[]:=by rw [List.filter_cons,if_neg h]; rfl
  rw [e1,List.append_nil,Bool.eq_false_iff.2 h]; rfl
theorem NT (o xs:List Nat) (i:Nat):ddn o (xs++[i])=if (ddn o xs).contains i then ddn o xs else ddn o xs++[i]:=by
 unfold ddn
 rw [List.foldl_append]; rfl
theorem Bz (xs:List Cm) (x:Cm):bX (xs++[x])=if (bX xs).contains x.par then bX xs else bX xs++[x.par]:=by
 unfold bX
 rw [List.map_append,List.map_cons,List.map_nil,NT]
def qm (ps:List Nat):List (Int×Value):=ps.map λ(i:Nat)=>((i:Int),.bool true)
theorem GA : ∀ (ps : List Nat) (i : Nat), nH (qm ps) (i : Int) (.bool true) = qm (if ps.contains i then ps else ps ++ [i])
 | [],i=>by simp [qm,nH]
 | p::t,i=>by
  have ih:=GA t i
  unfold qm at ih ⊢
  rw [List.map_cons,nH]
  by_cases h:p=i
  ·subst h
   simp
  ·have h1:¬ ((p:Nat):Int)=(i:Nat):=by omega
   have h2:(p::t).contains i=t.contains i:=by rw [List.contains_cons]; simp [show (i == p)=false by simpa using λe=>h (by omega)]
   rw [if_neg h1,ih,h2]
   split <;> rfl
structure Fits (l:FS) (fl:Nm->Fl):Prop where
 right:FRight l
 flb:FlB l fl
 lists:∀ c∈l,∀ p∈c.pars,p.ren.length≤12/\p.und.length≤12/\p.red.length≤12/\p.sel.length≤12
section
variable {l:FS} {fl:Nm->Fl}
theorem Fits.hf (h:Fits l fl) {c:FC} (hc:c∈l∨c=Bu):∀ p∈c.pars,(ae l p.name).forms.length=p.args.length/\p.und.length≤1099511627776:=λp hp=>by
 rcases hc with hc | rfl
 ·exact ⟨((gq<|h.right.form c hc).args p hp).symm,by have:=(h.lists c hc p hp).2.1; omega⟩
 ·cases hp
theorem Fits.sel (h:Fits l fl) {c:FC} (hc:c∈l∨c=Bu):∀ p∈c.pars,p.sel.length≤1099511627776:=λp hp=>by
 rcases hc with hc | rfl
 ·have:=(h.lists c hc p hp).2.2.2; omega
 ·cases hp
theorem Fits.few (h:Fits l fl) {c:FC} (hc:c∈l∨c=Bu):(comes fl l c).length≤240:=by
 rcases hc with hc | rfl
 ·exact wQ h.right h.flb hc
 ·exact Nat.zero_le _
theorem Fits.name (h:Fits l fl) {c:FC} (hc:c∈l∨c=Bu):∀ x∈comes fl l c,x.mem.name.length≤20:=λx hx=>by
 rcases hc with hc | rfl
 ·exact (zm h.flb.ok (gq<|h.right.form c hc) hx).name
 ·cases hx
theorem Bf (c:FC) (xs:List Cm):(picked c xs).length≤xs.length:=by
 have:(picked c xs).length≤(xs.map λx=>x.mem.name).length:=aQ (Nl _) λn hn=>by
  obtain ⟨x,hx,_,e⟩:=Ay.1 hn
  exact List.mem_map.2 ⟨x,hx,e⟩
 simpa using this
theorem Fits.join (h:Fits l fl) {c:FC} (hc:c∈l∨c=Bu) (s:Sd):(picked c (having (comes fl l c) s)).length≤240/\(jU (picked c (having (comes fl l c) s))).length≤140737488355328:=by
 have h1:=Bf c<|having (comes fl l c) s
 have h2:(having (comes fl l c) s).length≤(comes fl l c).length:=List.length_filter_le _ _
 have h3:=h.few hc
 have h4:=CZ (k:=20) (xs:=picked c<|having (comes fl l c) s) λn hn=>by
  obtain ⟨x,hx,_,e⟩:=Ay.1 hn
  rw [<- e]
  exact h.name hc x (List.mem_filter.1 hx).1
 omega
theorem NU {n:Nat} {c:FC} {ms:List Mb} {s:Sd}:∃ up,eP fl l n c ms s=FP fl l c ms s up:=by
 cases n with
 | zero=>exact ⟨_,KT⟩
 | succ n=>exact ⟨_,CB⟩
theorem NV {n:Nat} {c:FC} {ms:List Mb} {s:Sd} (h:(aY ms s).length=1):eP fl l n c ms s=((aY ms s).headD [],true):=by
 obtain ⟨up,e⟩:=NU (l:=l) (fl:=fl) (n:=n) (c:=c) (ms:=ms) (s:=s)
 rw [e]; unfold FP; rw [if_pos h]
theorem GD {n:Nat} {c:FC} {ms:List Mb} {s:Sd} (h:(aY ms s).length≠1) (h2:picked c (having (comes fl l c) s)≠[]∨(bX (having (comes fl l c) s)).length≠1):eP fl l n c ms s=(jU (picked c (having (comes fl l c) s)),(picked c (having (comes fl l c) s)).length == 1):=by
 obtain ⟨up,e⟩:=NU (l:=l) (fl:=fl) (n:=n) (c:=c) (ms:=ms) (s:=s)
 rw [e]; unfold FP; rw [if_neg h,if_pos h2]
theorem sel_up {n:Nat} {c:FC} {ms:List Mb} {s:Sd} {i:Nat} (h:(aY ms s).length≠1) (h2:picked c (having (comes fl l c) s)=[]) (h3:bX (having (comes fl l c) s)=[i]):eP fl l (n+1) c ms s =
  if 1<(aY (fl (dD c i).name).mems s).length then (bQ (dD c i) (eP fl l n (ae l (dD c i).name) (fl (dD c i).name).mems s).1,(eP fl l n (ae l (dD c i).name) (fl (dD c i).name).mems s).2) else ([],false):=by
 rw [CB]
 unfold FP
 rw [if_neg h,if_neg (by rw [h2,h3]; simp),h3]
 rfl
theorem C8 (ms:List Mb) (s:Sd):(aY ms s).length≤ms.length:=by
 unfold aY
 rw [List.length_map]
 exact List.length_filter_le _ _
end
attribute [local irreducible] Go.Ck.Sub St Cd Xt Nx DrL LsW
section
variable {v v':Value}
theorem rf {mb : Nat} {m : List (Nm × Value)} {fl : Nm -> Fl} {l : FS} (hF : Fits l fl) : ∀ (n : Nat) (X : Res) (c : FC) (cn : Nm) (uc : List Value) (mv : Value) (ms : List Mb) (s : Sd), c = ae l cn -> rk (bi l) cn ≤ n -> Ls X v l -> Enc.rep X uc c -> FlR X m fl -> Ls X mv ms ->
  dS prog 98 #[.agg #[v,.map (some mb)],.agg uc.toArray,mv,.agg #[sv s.cls,sv s.name]] X [mps mb m] λu Y k'=>k'=[mps mb m]/\u = .tuple #[sv (eP fl l n c ms s).1,.bool (eP fl l n c ms s).2]:=by
 intro n
 induction n using Nat.strongRecOn with
 | ind n ih =>
 intro X c cn uc mv ms s hcn hrk hl hc hm hms
 have hcl:c∈l∨c=Bu:=by rw [hcn]; exact Gu
 have hnl:=C8 ms s
 have hml:maxLen=9223372036854775807:=rfl
 have huc:=Enc.len hc
 obtain ⟨hj1,hj2⟩:=hF.join hcl s
 unfold dS
 refine En (n:=120) func98 Z Z (len Z) λhr w0 hw0=>?_
 refine cQ (aV Z Z λb4=>?_)
 refine aV Z Z λb5=>?_
 refine aV Z Z λb7=>?_
 refine sA Z<|sA Z<|sK [2,4,5,7,8,9] Z<|cQ<|sM Z<|sV (ag Z gN Z ah) ?_
 refine aH Z Z EW Z (lI hms) ?_
 rintro u h' ⟨T,rfl,hu,rfl⟩
 simp only [lC,lN]
 unfold NR
 refine sA Z<|sK [4,5,7,8,9,10] Z<|cS<|cS (gm (v:=u) (E:=9) (sz:=1) (rows:=(aY ms s).map nC) slq λwa wc hwf hwl hwm=>?_)
 rw [List.length_map] at hwf hwl
 subst hwf
 refine cR<|sM Z<|sV (aF Z underlying40)<|sV (dG Z Z)<|sK [4,5,7,8,9,10,23] Z<|cC Z (λhd=>?_)<|λhd=>?_
 ·have h1:(aY ms s).length=1:=by have:=beq_iff_eq.1 hd; omega
  rw [NV h1]
  refine fO (r:=VR (.slice wa (aY ms s).length wc) 9 1<|(aY ms s).map nC) slq λhok=>?_
  obtain ⟨ab,ao,rfl⟩:∃ ab ao,wa=some ⟨ab,ao,none⟩:=by
   obtain ⟨f0,hf0⟩:=hok
   rcases VR.form hf0 with ⟨h3,h4⟩ | ⟨b,o,cp,h3,-⟩
   ·have:=List.map_eq_nil_iff.1 h4
    rw [this] at h1; cases h1
   ·rw [List.length_map] at h3; cases h3; exact ⟨b,o,rfl⟩
  have hnx:((aY ms s).map nC)[0]? = some [sv ((aY ms s).headD [])]:=by
   match hq:aY ms s,h1 with
   | [a],_=>rfl
  refine cQ<|sM Z<|sV (vI (k:=0) Z Z jo Z (by omega) Z)<|sV (vY Z ld9 (ha:=⟨_,_,slq,eU hnx 0<|by simp⟩)) ?_
  refine sA Z<|sA Z<|sK [8,9] Z<|cT<|xR ?_
  exact jN (bs:=[]) Z Z ⟨X,_,Z,Ext.refl X,Z,Z⟩ sbq
 ·have hn1:(aY ms s).length≠1:=λh=>by rw [h] at hd; exact absurd hd (by decide)
  refine cK<|xT<|cQ (au al40 λb11=>?_)
  refine sK [4,5,7,8,9,11] Z<|cQ (Hg (ltn Z) λbm=>?_)
  refine au al250 λb12=>?_
  refine aZ Z Z sz250 ?_
  refine sK [4,5,7,8,9,11,12] Z<|cS<|cQ<|sV (ag Z gD Z ah) ?_
  refine sV (ag Z gM huc ah) ?_
  refine aH Z Z en171 Z (CW (v:=v) (mb:=mb) (uc:=uc)) ?_
  rintro u h' ⟨c1,c2,rfl,rfl⟩
  simp only [lC,lN]
  refine sK [4,5,7,8,9,11,12,30] Z<|cB<|dK (cz 9 1) (jc Z en237 λyl db rec hst hpe hps hasg hbo hkn2=>?_)
  refine ⟨_,Ct.perm (Gi (σ := Value×List Nm×List Nat) (mb:=mb) (b1:=c1) (b2:=c2) (yl:=yl) (λq=>pt yl (.loop rec)::pt db (.deferred<|some [])::pt b11 (cl [q.1] 40)::VR q.1 9 1 (q.2.1.map nC)::pt b12 (cl [.map (some bm)] 250)::mpr bm (qm q.2.2)::pt b4 (cl [v,.map (some mb)] 114)::pt b5 (cl uc 44)::pt b7 (cl [sv s.cls,sv s.name] 69)::VR (.slice wa (aY ms s).length wc) 9 1 ((aY ms s).map nC)::hr)
   (λk Y q=>q.1.oneCell'=true/\q.2.1=picked c (having ((comes fl l c).take k) s)/\q.2.2=bX (having ((comes fl l c).take k) s)) (λ_ _ _=>False) (.slice none 0 0,[],[]) ⟨rfl,rfl,rfl⟩ hl hc hm (hF.hf hcl) ?_ (λ_ _ _ _ _ h=>h)) ?_,?_⟩
  ·rintro k Y ⟨w, ns, ps⟩ x us hx hE hrep ⟨hw, hns, hps2⟩
   simp only at hw hns hps2 ⊢
   have hone:=Enc.ones hrep
   have hus:=Enc.len hrep
   have hlt:=(List.getElem?_eq_some_iff.1 hx).1
   have htk:(comes fl l c).take (k+1)=(comes fl l c).take k++[x]:=by rw [bW hlt,(List.getElem?_eq_some_iff.1 hx).2]
   obtain ⟨p,hp,-,-,-⟩:=jf<|List.mem_of_getElem? hx
   have hpx:dD c x.par=p:=by unfold dD; rw [hp]; rfl
   have hpm:=List.mem_of_getElem? hp
   have hplt:=(List.getElem?_eq_some_iff.1 hp).1
   have hhs:=Gy ((comes fl l c).take k) x s
   have hpk:=Gz c (having ((comes fl l c).take k) s) x
   have hfp:=Bz (having ((comes fl l c).take k) s) x
   have hnsl:=Bf c<|having ((comes fl l c).take k) s
   have hhl:(having ((comes fl l c).take k) s).length≤((comes fl l c).take k).length:=List.length_filter_le _ _
   have hfew:=hF.few hcl
   rw [List.length_take] at hhl
   rw [hpx] at hpk
   rw [<- hns] at hpk hnsl
   rw [<- hps2] at hfp
   obtain ⟨ca,cb,ce,cf,ci,rfl,hca,hcb,hce,hcf,hci⟩:=gB hc
   obtain ⟨pb,po,pcap,pus,e1,hpus,hprd,hpr⟩:=(hcb.up hE).at hp
   subst e1
   have hsl:=hF.sel hcl p hpm
   obtain ⟨pa,pr,pu,pd,pS,rfl,hpa,hpr,hpu,hpd,hpsel⟩:=hpr
   obtain ⟨x2,x5,xy,x11,x12,x13,rfl,hxm⟩:=il hrep
   obtain ⟨hx2,hx5,hxy,hx11,hx12,hx13⟩:=hxm
   obtain ⟨ax2,kx2,rfl,_⟩:=id hx2.form
   unfold oH at *
   refine Yc.perm (qz (n:=120) (rec:=rec) (args:=[.agg [sv x.og.par,sv x.og.name,.int .i64 x.par,sv x.mem.name,.int .i64 x.mem.kind,.slice ax2 x.mem.seeds.length kx2,sv x.mem.impl.cls,sv x.mem.impl.name,x5,.int .i64 x.mem.ty.kind,sv x.mem.ty.name,xy,.bool x.mem.ty.void,.bool x.mem.ty.sep,x11,x12,x13,.int .i64 x.was].toArray]) (hf:=pt db (.deferred<|some [])::pt b11 (cl [w] 40)::VR w 9 1 (ns.map nC)::pt b12 (cl [.map (some bm)] 250)::mpr bm (qm ps)::pt b4 (cl [v,.map (some mb)] 114)::pt b5 (cl [sv c.name,.bool c.dfd,ca,.slice (some ⟨pb,po,none⟩) c.pars.length pcap,ce,cf,ci] 44)::pt b7 (cl [sv s.cls,sv s.name] 69)::VR (.slice wa (aY ms s).length wc) 9 1 ((aY ms s).map nC)::Y::mps mb m::hr) (by rw [hps]; rfl) hkn2 (by rw [hps]; decide) ?_) (by exact (by repeat (first | exact Pm.refl | refine Pm.cons slq ?_):Pm _ _).perm)
   intro hr2 w1
   rw [hasg,hps,hbo]
   simp only [lC,lN]
   refine fO (r:=VR w 9 1<|ns.map nC) slq λhokw=>?_
   refine cR (au qJ λb13=>?_)
   refine ai Z Z mD Z hone ?_
   refine sN<|nK [5,7,8,9,11,12,13] Z<|ax<|lm Z slq (by first | rfl | assumption) ?_
   refine cB<|cS<|cQ<|sV (vF Z dR Z)<|sV (vF Z dI Z)<|sV (vY Z l8) ?_
   refine sV (ag Z gN Z ah) ?_
   refine bf Z Z en33 Z (vG hx2) ?_
   refine sV (bn Z)<|sK [5,8,9,11,12,13,37] Z<|cC Z (λhct=>?_)<|λhct=>?_
   ·have hct:x.mem.seeds.contains s=false:=Zf
    rw [hct] at hhs
    simp only [Bool.false_eq_true,if_false] at hhs
    refine aB<|xE<|xY<|dA slq (.inl ⟨Z,Y,(w,ns,ps),Ext.refl Y,⟨hw,by rw [htk,hhs]; exact hns,by rw [htk,hhs]; exact hps2⟩,Z⟩) ?_
    rw [dB hst hpe]
    exact sbq
   ·have hct:x.mem.seeds.contains s=true:=Zf
    rw [hct] at hhs
    simp only [if_true] at hhs
    rw [<- hhs,<- htk] at hpk hfp
    refine cK<|xT<|cQ<|sV (vY Z ld250) ?_
    refine sV (vF Z ze Z)<|sV (vY Z ld3) ?_
    refine Dp Z Z Z mp250 slq ?_
    rw [GA]
    refine sK [5,8,9,11,13] Z<|cS<|bB (ork [(0,2),(1,1),(2,2),(3,1),(4,2),(5,2),(6,1),(7,2),(8,2),(9,1),(10,1),(11,2),(12,1),(13,2),(14,2),(15,1),(16,1),(17,2),(18,2)] .nil) (λ_=>true) mixed Zz ?_
    refine dV Z (vF Z fq Z)<|bu Z (vY Z lZ) ?_
    refine dV Z (vF Z ze Z)<|bu Z (vY Z ld3) ?_
    have hsel1:=dZ (El hpsel) x.mem.name hsl
    have hsel2:=dZ (iE hokw) x.mem.name<|by omega
    refine dV Z (vI (k:=x.par) Z Z oO Z hplt Z)<|dV Z (vF Z z8 Z)<|bu Z (vY Z fM (ha:=⟨_,_,slq,hprd 5<|by simp⟩)) ?_
    refine dV Z (vF Z dR Z)<|dV Z (vF Z eQ Z)<|bu Z (vY Z ld9) ?_
    refine lu Z Z Z Ab Z (hsel1) ?_
    cases hq1:p.sel.contains x.mem.name
    ·rw [hq1,Bool.false_and] at hpk
     simp only [Bool.false_eq_true,if_false] at hpk
     refine dV Z (vM Z)<|nM Z Z Z Z ?_
     iterate 2 refine kv rfl rfl rfl rfl ?_
     iterate 2 refine nM rfl rfl rfl rfl ?_
     refine kv Z Z Z Z ?_
     refine dV Z (vP Z Z)<|bA<|nK [8,9,11,13,59] Z<|nT<|aG Z ?_
     refine cK<|xB<|dA slq (.inl ⟨Z,Y,(w,ns,if ps.contains x.par then ps else ps++[x.par]),Ext.refl Y,⟨hw,hpk.symm,hfp.symm⟩,Z⟩) ?_
     rw [dB hst hpe]
     exact sbq
    ·rw [hq1,Bool.true_and] at hpk
     refine dV Z (vM Z)<|pX Z Z Z (vY Z fM) ?_
     refine jm Z Z Z (vF Z dR Z)<|jm Z Z Z (vF Z eQ Z)<|pX Z Z Z (vY Z ld9) ?_
     refine yY Z Z Z Z Z Ab Z (hsel2) ?_
     refine jm Z Z Z (bn Z)<|dV Z (vQ Z Z)<|bA<|nK [8,9,11,13,59] Z<|nT<|cC Z (λhap=>?_)<|λhap=>?_
     ·have hap:ns.contains x.mem.name=false:=by simpa using hap
      rw [hap] at hpk
      simp only [Bool.not_false,if_true] at hpk
      refine cR<|sV (vY Z fM) ?_
      refine sV (vF Z dR Z)<|sV (vF Z eQ Z)<|sV (vY Z ld9) ?_
      refine ak (cells:=[sv x.mem.name]) Z underlying40 fG Z Z Zz (ltn Z) λb64=>?_
      refine dY [[sv x.mem.name]] Z Z underlying40 fG Z (by decide) (show Sel _ (VR w 9 1<|ns.map nC) _ from slq) (by simp) Z (λj u2 hu2=>bS<|bV Zu) (by simp [sv,Value.oneCell']) (by rw [List.length_map]; omega) (by rw [List.length_map]; omega) (ltn Z) λw2 hw2 _=>?_
      rw [show ns.map nC++[[sv x.mem.name]]=(ns++[x.mem.name]).map nC by simp [nC]]
      refine aZ Z Z yB ?_
      refine sN<|nK [8,9] Z<|ax<|xB<|dA slq (.inl ⟨Z,Y,(w2,ns++[x.mem.name],if ps.contains x.par then ps else ps++[x.par]),Ext.refl Y,⟨hw2,hpk.symm,hfp.symm⟩,Z⟩) ?_
      rw [dB hst hpe]
      exact sbq
     ·have hap:ns.contains x.mem.name=true:=by simpa using hap
      rw [hap] at hpk
      simp only [Bool.not_true,Bool.false_eq_true,if_false] at hpk
      refine cK<|xB<|dA slq (.inl ⟨Z,Y,(w,ns,if ps.contains x.par then ps else ps++[x.par]),Ext.refl Y,⟨hw,hpk.symm,hfp.symm⟩,Z⟩) ?_
      rw [dB hst hpe]
      exact sbq
  ·exact (by repeat (first | exact Pm.refl | refine Pm.cons slq ?_):Pm _ _).perm
  ·rintro u h' ⟨rfl, (⟨Y, ⟨w, ns, ps⟩, hE, ⟨hw, hns, hps2⟩, rfl⟩ | ⟨k, Y, t, _, hS, rfl⟩)⟩
   ·simp only at hw hns hps2
    rw [List.take_length] at hns hps2
    refine ⟨rec,_,slq,(by rw [hst]; simp),?_⟩
    rw [hpe]
    dsimp only
    refine xB<|xT<|cS<|cS (gm (v:=w) (E:=9) (sz:=1) (rows:=ns.map nC) slq λpa pc hpf hpl hpm=>?_)
    rw [List.length_map] at hpf hpl
    subst hpf
    refine cR<|sV (vY Z fM) ?_
    refine sV (aF Z underlying40)<|sV (bZ Z Z)<|sM Z ?_
    by_cases h0:ns=[]
    ·have hg0:decide ((0:Int)<(ns.length:Nat))=false:=by rw [h0]; rfl
     rw [hg0]
     refine sG Z Z (vY Z ld250) ?_
     refine sG Z Z (v_mlenI Z underlying250 slq) ?_
     refine sG Z Z (bP Z Z)<|sV (vP Z Z)<|sK [4,5,7,8,9,11,12,73] Z ?_
     by_cases h1:ps.length=1
     ·have hg1:((((qm ps).length:Nat):Int) != 1)=false:=by unfold qm; rw [List.length_map,h1]; rfl
      rw [hg1]
      obtain ⟨i,rfl⟩:=List.length_eq_one_iff.1 h1
      have hfr:bX (having (comes fl l c) s)=[i]:=hps2.symm
      have hpk0:picked c (having (comes fl l c) s)=[]:=by rw [<- hns]; exact h0
      have hpm:dD c i∈c.pars:=qW (fl:=fl) (l:=l) (s:=s) (by rw [hfr]; simp)
      obtain ⟨n',rfl,hrk'⟩:∃ n',n=n'+1/\rk (bi l) (dD c i).name≤n':=by
       have h2:=iH hF.right.sys.acyc<|eX hF.right.sys (c:=cn) (p:=dD c i) (by rw [<- hcn]; exact hpm)
       exact ⟨n - 1,by omega,by omega⟩
      have hih:=λZq (hE:Ext X Zq) (cus:List Value) (mxv:Value) hrep hmx=>ih n' (Nat.lt_succ_self _) Zq (ae l (dD c i).name) (dD c i).name cus mxv (fl (dD c i).name).mems s rfl hrk' (hl.up hE) hrep (hm.up hE) hmx
      rw [sel_up hn1 hpk0 hfr]
      obtain ⟨hplt,hpi⟩:i<c.pars.length/\c.pars[i]? = some (dD c i):=by
       have hi:i∈bX (having (comes fl l c) s):=by rw [hfr]; simp
       obtain ⟨x,hx,rfl⟩:=o8.1 hi
       obtain ⟨p,hp,-⟩:=jf (List.mem_filter.1 hx).1
       refine ⟨(List.getElem?_eq_some_iff.1 hp).1,?_⟩
       unfold dD; rw [hp]; rfl
      generalize eP fl l n' (ae l (dD c i).name) (fl (dD c i).name).mems s=r at hih ⊢
      generalize dD c i=p at hih hpi hpm ⊢
      obtain ⟨ca,cb,ce,cf,ci,rfl,hca,hcb,hce,hcf,hci⟩:=gB hc
      obtain ⟨cb,ck,rfl,_⟩:=id hcb.form
      clear huc
      refine aG Z ?_
      refine cK<|xT<|cS<|cQ<|sV (vY Z ld250) ?_
      refine NI Z mp250 slq (ltn Z) λib hnd=>?_
      refine sK [4,5,7,8,9,80] Z<|cB<|aX (σ := List (Int×Value)×Option (Int×Value)×Res) (λq=>[(4,.pointer (some ⟨b4,0,none⟩)),(5,.pointer (some ⟨b5,0,none⟩)),(7,.pointer (some ⟨b7,0,none⟩)),(80,.pointer (some ⟨ib,0,none⟩))]) (λq=>mit bm ib (qm [i]) q.1 q.2.1::pt db (.deferred<|some [])::pt b4 (cl [v,.map (some mb)] 114)::pt b5 (cl [sv c.name,.bool c.dfd,ca,.slice cb c.pars.length ck,ce,cf,ci] 44)::pt b7 (cl [sv s.cls,sv s.name] 69)::q.2.2::mps mb m::hr) (λq=>Ext X q.2.2/\(q.1=qm [i]∨(q.1=[]/\¬ 1<(aY (fl p.name).mems s).length))) (λq=>q.1.length) (qm [i],none,Y) ⟨hE,.inl Z⟩ ?_
      rintro ⟨left,last,Zq⟩ ⟨hE2,hleft⟩
      simp only at hE2 hleft
      dsimp only
      refine cQ<|st_next Z slq (ltn Z) (λhl0=>?_)<|λk v1 left' hp=>?_
      ·subst hl0
       have hno:¬ 1<(aY (fl p.name).mems s).length:=hleft.elim (λe=>by cases e) λe=>e.2
       rw [if_neg hno]
       refine sV (af Z Z)<|sK [4,5,7,80,82] Z<|cS<|aG Z ?_
       refine aB<|xE<|xE<|xY<|xT<|cQ<|sA Z<|sA Z<|sK [8,9] Z<|cT ?_
       exact jN (bs:=[db]) Z Z ⟨Zq,_,Z,hE2,Z,Z⟩ sbq
      ·refine sV (af Z Z)<|sK [4,5,7,80,82] Z<|cS<|aT Z ?_
       refine cK<|xT<|cB<|cQ<|sV (v_entry Z slq) ?_
       have hki:k=(i:Int)/\left'=[]:=by
        rcases hleft with e | ⟨e,_⟩
        ·rw [e] at hp
         have h3:=hp.length_eq
         have h4:(k,v1)∈qm [i]:=hp.mem_iff.2<|by simp
         simp only [qm,List.map_cons,List.map_nil,List.mem_singleton,Prod.mk.injEq] at h4
         simp only [qm,List.map_cons,List.map_nil,List.length_cons,List.length_nil] at h3
         exact ⟨h4.1,List.eq_nil_of_length_eq_zero<|by omega⟩
        ·rw [e] at hp
         have:=hp.length_eq
         simp at this
       obtain ⟨rfl,rfl⟩:=hki
       obtain ⟨pb,po,pcap,pus,e1,hpus,hprd,hpr⟩:=(hcb.up hE2).at hpi
       obtain ⟨rfl,rfl⟩:cb=some ⟨pb,po,none⟩/\ck=pcap:=by cases e1; exact ⟨rfl,rfl⟩
       have hpr0:=hpr
       obtain ⟨pa,pr,pu,pd,pS,rfl,hpa,hpR,hpu,hpd,hpsel⟩:=hpr
       obtain ⟨aA,kA,rfl,_⟩:=id hpa.form
       obtain ⟨aR,kR,rfl,_⟩:=id hpR.form
       obtain ⟨aU,kU,rfl,_⟩:=id hpu.form
       obtain ⟨aD,kD,rfl,_⟩:=id hpd.form
       obtain ⟨aS,kS,rfl,_⟩:=id hpsel.form
       obtain ⟨fus,hfl,hfr2⟩:=hm.up hE2 p.name
       obtain ⟨mx,my,rfl,hmx,hmy⟩:=hfr2
       obtain ⟨mA,mK,rfl,_⟩:=id hmx.form
       refine sV (af Z Z)<|sA Z<|sK [4,5,7,14,80] Z<|cQ<|sV (vF Z fq Z)<|sV (vY Z lZ) ?_
       refine sM Z<|sV (vI (k:=i) Z Z oO Z hplt Z)<|sV (ag Z qj Z hprd) ?_
       refine au uW λb15=>?_
       refine ai Z Z rT Z Z ?_
       refine sK [4,5,7,15,80] Z<|cQ<|sV (vF Z iD Z)<|sV (vY Z nY) ?_
       refine sV (vF Z gP Z)<|sV (vY Z ld9) ?_
       refine sV (gp hfl<|bH Z Z nS nX slq) ?_
       refine sV (iy (k:=2) Z underlying55 Z isAgg52 Z)<|sV (ag Z gN Z ah) ?_
       refine aH Z Z EW Z (lI (s:=s) hmx) ?_
       rintro u h' ⟨T,rfl,hu2,rfl⟩
       simp only [lC,lN]
       unfold NR
       refine jr (v:=u) (E:=9) (sz:=1) (rows:=(aY (fl p.name).mems s).map nC) slq λqa qc hqf hql hqm=>?_
       rw [List.length_map] at hqf hql
       subst hqf
       refine sV (aF Z underlying40)<|sV (bZ Z Z)<|sK [4,5,7,15,80,99] Z<|cC Z (λhmore=>?_)<|λhmore=>?_
       ·have hmore:1<(aY (fl p.name).mems s).length:=by
         have:=of_decide_eq_true hmore
         omega
        rw [if_pos hmore]
        have hcc:=jW (n:=p.name) (fv:=.map<|some mb) (hl.up hE2) rfl
        refine cS<|bB (ork [(0,1),(1,1),(2,2),(3,1),(5,2),(6,1),(7,2),(8,1),(9,1),(10,1),(11,1),(4,0),(12,0),(13,2),(14,2),(15,2),(16,2),(17,2)] .nil) (λi => !(Nat.beq i 12)) mixed Zz ?_
        refine bu Z (ag Z gD Z ah) ?_
        refine bu Z (ag Z gD Z ah) ?_
        refine dV Z (vF Z gP Z)<|bu Z (vY Z ld9) ?_
        refine dV Z (vF Z iD Z)<|bu Z (vY Z nY) ?_
        refine dV Z (vF Z gP Z)<|bu Z (vY Z ld9) ?_
        refine bu Z (gp hfl<|bH Z Z nS nX slq) ?_
        refine bu Z (iy (k:=2) Z underlying55 Z isAgg52 Z)<|bu Z (ag Z gN Z ah) ?_
        refine aP Z<|aH Z Z EU Z (hcc) ?_
        rintro u h' ⟨rfl,cus,rfl,hcr⟩
        simp only [lC,lN]
        refine aW ?_
        refine aP Z<|bF hw0 Z Z en98 Z (hih Zq hE2 cus _ hcr hmx) ?_
        rintro u h' ⟨Z2,k2,rfl,hE3,rfl,rfl⟩
        simp only [lC,lN]
        refine aW ?_
        refine dV Z (vM Z)<|dV Z (af Z Z)<|dV Z (af Z Z)<|dV Z (vA Z)<|dV Z (vA Z)<|bA<|nK [4,5,7,15,16,17,80] Z<|nT<|cQ<|sV (ag Z qj Z ah) ?_
        refine sM Z<|aH Z Z en173 Z (tT (n:=r.1)<|Enc.up hE3.rd hpr0) ?_
        rintro u h' ⟨rfl,rfl⟩
        simp only [lC,lN]
        refine sM Z<|sA Z<|sA Z<|sK [8,9] Z<|cT<|xW<|xR<|xW<|xR ?_
        exact jN (bs:=[db]) Z Z ⟨Z2,_,Z,hE2.trans hE3,Z,Z⟩ sbq
       ·have hmore:¬ 1<(aY (fl p.name).mems s).length:=by
         have:=of_decide_eq_false hmore
         omega
        refine cK<|xB ?_
        refine aJ ([],some ((i:Int),v1),Zq) ⟨hE2,.inr ⟨rfl,hmore⟩⟩ (by rcases hleft with e | ⟨e,_⟩ <;> rw [e] at hp <;> simp [qm] at hp ⊢ <;> simp [e,qm])
     ·have hg1:((((qm ps).length:Nat):Int) != 1)=true:=by
       unfold qm
       rw [List.length_map]
       simp only [bne_iff_ne,ne_eq]; omega
      rw [hg1]
      refine aT Z ?_
      refine cS<|bB (ork [(0,1),(2,1),(3,2),(4,2),(1,0),(5,2),(6,2)] .nil) (λ_=>true) mixed Zz ?_
      refine bu Z (vY Z fM) ?_
      refine bu Z (vY Z fM) ?_
      refine dV Z (aF Z underlying40)<|dV Z (dG Z Z) ?_
      rw [GD hn1 (.inr (by rw [<- hps2]; exact h1)),<- hns]
      refine aP Z<|bF hw0 Z Z en172 Z (Ke (xs:=ns) (by rw [hns]; omega) (by rw [hns]; exact hj2)) ?_
      rintro u h' ⟨rfl,rfl⟩
      simp only [lC,lN]
      refine aW ?_
      refine dV Z (vA Z)<|dV Z (vA Z)<|bA<|nK [8,9] Z<|nT<|cT<|xR ?_
      rw [show (((ns.length:Nat):Int) == 1)=(ns.length == 1) by rw [Bool.eq_iff_iff]; simp; omega]
      exact jN (bs:=[db]) Z Z ⟨Y,_,Z,hE,Z,Z⟩ sbq
    ·have hg0:decide ((0:Int)<(ns.length:Nat))=true:=by
      have:=List.length_pos_iff.2 h0
      simp; omega
     rw [hg0]
     iterate 3 refine aC rfl rfl rfl ?_
     refine sV (vQ Z Z)<|sK [4,5,7,8,9,11,12,73] Z<|aT Z ?_
     refine cS<|bB (ork [(0,1),(2,1),(3,2),(4,2),(1,0),(5,2),(6,2)] .nil) (λ_=>true) mixed Zz ?_
     refine bu Z (vY Z fM) ?_
     refine bu Z (vY Z fM) ?_
     refine dV Z (aF Z underlying40)<|dV Z (dG Z Z) ?_
     rw [GD hn1 (.inl (by rw [<- hns]; exact h0)),<- hns]
     refine aP Z<|bF hw0 Z Z en172 Z (Ke (xs:=ns) (by rw [hns]; omega) (by rw [hns]; exact hj2)) ?_
     rintro u h' ⟨rfl,rfl⟩
     simp only [lC,lN]
     refine aW ?_
     refine dV Z (vA Z)<|dV Z (vA Z)<|bA<|nK [8,9] Z<|nT<|cT<|xR ?_
     rw [show (((ns.length:Nat):Int) == 1)=(ns.length == 1) by rw [Bool.eq_iff_iff]; simp; omega]
     exact jN (bs:=[db]) Z Z ⟨Y,_,Z,hE,Z,Z⟩ sbq
   ·exact hS.elim
end
def GG:Go.Shelf.Ren:={
 f:=λ| 17=>225 | 15=>270 | 20=>297 | n=>n
 t:=λ| 9=>9 | 23=>290 | 4=>4 | 3=>3 | 0=>0 | 21=>21 | n=>n
 g:=λn=>n }
theorem lays17g:Go.Proofs.LaysGw.n17 prog GG:={
 mixed:=rfl
 f15:=func270.trans<|congrArg some Zz
 f17:=func225.trans<|congrArg some Zz
 f20:=func297.trans<|congrArg some Zz
 t0:=underlying0
 a0:=isAgg0
 z0:=sizeOf0
 v0:=zeroValue0
 i0:=Zz
 t3:=underlying3
 a3:=isAgg3
 z3:=sizeOf3
 v3:=zeroValue3
 i3:=Zz
 t4:=underlying4
 a4:=isAgg4
 z4:=sizeOf4
 v4:=zeroValue4
 i4:=Zz
 t9:=underlying9
 a9:=isAgg9
 z9:=sizeOf9
 v9:=zeroValue9
 i9:=Zz
 t21:=underlying21
 a21:=isAgg21
 z21:=sizeOf21
 v21:=zeroValue21
 i21:=Zz
 t23:=underlying290
 a23:=isAgg290
 z23:=sizeOf290
 v23:=zeroValue290
 i23:=by kernel_rfl }
def GH:Go.Shelf.Ren:={
 f:=λ| 157=>231 | 229=>273 | 199=>274 | 261=>298 | 311=>314 | 312=>315 | n=>n
 t:=λ| 9=>9 | 31=>40 | 3=>3 | 5=>5 | 4=>4 | 119=>335 | 0=>0 | 40=>290 | 152=>355 | 21=>21 | 154=>357 | 51=>322 | 141=>359 | 196=>376 | 193=>373 | 198=>379 | 49=>377 | 194=>374 | 201=>382 | 226=>387 | 46=>275 | 227=>388 | n=>n
 g:=λ| 0=>0 | 6=>1 | n=>n }
theorem lays157:Go.Proofs.Lays.n157 prog GH:={
 mixed:=rfl
 f157:=func231.trans<|congrArg some Zz
 f199:=func274.trans<|congrArg some Zz
 f229:=func273.trans<|congrArg some Zz
 f261:=func298.trans<|congrArg some Zz
 f311:=func314.trans<|congrArg some Zz
 f312:=func315.trans<|congrArg some Zz
 t0:=underlying0
 a0:=isAgg0
 z0:=sizeOf0
 v0:=zeroValue0
 t3:=underlying3
 a3:=isAgg3
 z3:=sizeOf3
 v3:=zeroValue3
 t4:=underlying4
 a4:=isAgg4
 z4:=sizeOf4
 v4:=zeroValue4
 t5:=underlying5
 a5:=isAgg5
 z5:=sizeOf5
 v5:=zeroValue5
 t9:=underlying9
 a9:=isAgg9
 z9:=sizeOf9
 v9:=zeroValue9
 t21:=underlying21
 a21:=isAgg21
 z21:=sizeOf21
 v21:=zeroValue21
 t31:=underlying40
 a31:=isAgg40
 z31:=sizeOf40
 v31:=zeroValue40
 t40:=underlying290
 a40:=isAgg290
 z40:=sizeOf290
 v40:=zeroValue290
 t46:=underlying275
 a46:=isAgg275
 z46:=sizeOf275
 v46:=zeroValue275
 t49:=underlying377
 a49:=isAgg377
 z49:=sizeOf377
 v49:=zeroValue377
 t51:=underlying322
 a51:=isAgg322
 z51:=sizeOf322
 v51:=zeroValue322
 t119:=underlying335
 a119:=isAgg335
 z119:=sizeOf335
 t141:=underlying359
 a141:=isAgg359
 z141:=sizeOf359
 v141:=zeroValue359
 t152:=underlying355
 a152:=isAgg355
 z152:=sizeOf355
 v152:=zeroValue355
 t154:=underlying357
 a154:=isAgg357
 z154:=sizeOf357
 v154:=zeroValue357
 t193:=underlying373
 a193:=isAgg373
 z193:=sizeOf373
 v193:=zeroValue373
 t194:=underlying374
 a194:=isAgg374
 z194:=sizeOf374
 v194:=zeroValue374
 t196:=underlying376
 a196:=isAgg376
 z196:=sizeOf376
 v196:=zeroValue376
 t198:=underlying379
 a198:=isAgg379
 z198:=sizeOf379
 v198:=zeroValue379
 t201:=underlying382
 a201:=isAgg382
 z201:=sizeOf382
 v201:=zeroValue382
 t226:=underlying387
 a226:=isAgg387
 z226:=sizeOf387
 v226:=zeroValue387
 t227:=underlying388
 a227:=isAgg388
 z227:=sizeOf388
 v227:=zeroValue388
 g0:=Zz
 g6:=by kernel_rfl }
def okR (x:Nat):Bool:=(decide (97≤x) && decide (x≤122) || (decide (48≤x) && decide (x≤57))) || x == 95
theorem Eo {x:Nat} (h:128≤x):okR x=false:=by
 unfold okR
 rw [decide_eq_false (show ¬ x≤122 by omega),decide_eq_false (show ¬ x≤57 by omega),Bool.and_false,Bool.and_false]
 simp; omega
theorem okS_ge {b:UInt8} (h:128≤b.toNat):okS b=false:=Eo h
theorem NW (s:ByteArray) (i:Nat):okR (Utf8.decode s i).1=okS (s.get! i)/\(okS (s.get! i)=true->(Utf8.decode s i).2=1):=by
 unfold Utf8.decode
 simp only [Nat.add_zero]
 by_cases h:(s.get! i).toNat<128
 ·rw [if_pos h]; exact ⟨rfl,λ_=>rfl⟩
 ·rw [if_neg h, okS_ge (by omega)]
  refine ⟨?_,λh=>by cases h⟩
  have he:okR Utf8.runeError=false:=by decide
  split
  ·split
   ·rename_i h2; exact Eo h2
   ·exact he
  ·split
   ·split
    ·rename_i h2; rw [Bool.and_eq_true,decide_eq_true_eq] at h2; exact Eo (by omega)
    ·exact he
   ·split
    ·split
     ·rename_i h2; rw [Bool.and_eq_true,decide_eq_true_eq] at h2; exact Eo (by omega)
     ·exact he
    ·exact he
theorem NY (s : ByteArray) : ∀ (f pos : Nat), s.size ≤ pos + f -> (0 ≤ Lib.idxFuncFrom (λx => !okR x) true s f pos ↔ ∃ j, pos ≤ j /\ j < s.size /\ okS (s.get! j) = false)
 | 0,pos,h=>by
  show 0≤(-1:Int)↔_
  exact ⟨λh=>by omega,λ⟨j,h1,h2,_⟩=>by omega⟩
 | f + 1, pos, h => by
  unfold Lib.idxFuncFrom
  by_cases hp:pos<s.size
  ·rw [if_pos hp, (NW s pos).1]
   cases hk:okS (s.get! pos) with
   | true =>
    rw [if_neg (by simp),(NW s pos).2 hk,NY s f (pos+1) (by omega)]
    refine ⟨λ⟨j,h1,h2⟩=>⟨j,by omega,h2⟩,λ⟨j,h1,h2,h3⟩=>⟨j,?_,h2,h3⟩⟩
    rcases Nat.lt_or_ge pos j with h4 | h4
    ·exact h4
    ·have:j=pos:=by omega
     subst this
     rw [hk] at h3; cases h3
   | false=>rw [if_pos (by simp)]; exact ⟨λ_=>⟨pos,Nat.le_refl _,hp,hk⟩,λ_=>by omega⟩
  ·rw [if_neg hp]
   exact ⟨λh=>by omega,λ⟨j,h1,h2,_⟩=>by omega⟩
theorem has_bad (n:Nm):decide (0≤Lib.idxFunc (λx => !okR x) true ⟨⟨n⟩⟩) = !n.all okS:=by
 have hsz:(⟨⟨n⟩⟩:ByteArray).size=n.length:=rfl
 have hg:∀ j (hj:j<n.length),(⟨⟨n⟩⟩:ByteArray).get! j=n[j]:=λj hj=>by
  show (Array.mk n)[j]! = _
  rw [getElem!_pos (Array.mk n) j Zg]; rfl
 unfold Lib.idxFunc
 rw [Bool.eq_iff_iff,decide_eq_true_eq,NY _ _ _ (by omega),Bool.not_eq_true',List.all_eq_false]
 constructor
 ·rintro ⟨j,_,h2,h3⟩
  rw [hsz] at h2
  exact ⟨n[j],List.getElem_mem h2,by rw [<- hg j h2,h3]; simp⟩
 ·rintro ⟨x,hx,h3⟩
  obtain ⟨j,hj,rfl⟩:=List.getElem_of_mem hx
  exact ⟨j,Nat.zero_le _,hj,by rw [hg j hj]; simpa using h3⟩
theorem C9 : ∀ (s w : Nm), (∀ b ∈ s, Lib.isSp b = (b == 32)) -> qX s w = Lib.fieldsGo w s
 | [],w,_=>by cases w <;> rfl
 | b::t,w,h=>by
  have hb:=h b<|by simp
  have ht:=λw=>C9 t w λb hb=>h b<|by simp [hb]
  show (if b=32 then (if w=[] then qX t [] else w::qX t []) else qX t (w++[b]))=_
  unfold Lib.fieldsGo
  rw [hb,ht,ht]
  by_cases h32:b=32
  ·subst h32
   cases w <;> rfl
  ·rw [if_neg h32,if_neg (by simpa using h32)]
theorem kw_sp:∀ b∈pE,Lib.isSp b=(b == 32)/\b.toNat<128:=by
 have h:(pE.all λb=>(Lib.isSp b == (b == 32)) && decide (b.toNat<128))=true:=by decide +kernel
 intro b hb
 have:=List.all_eq_true.1 h b hb
 rw [Bool.and_eq_true,beq_iff_eq,decide_eq_true_eq] at this
 exact this
theorem kws_eq:Lib.fields pE=kws:=(C9 pE [] λb hb=>(kw_sp b hb).1).symm
def Spc (X:Res):Prop:=∀ c:Nat,c<256->Rd X ⟨0,c,none⟩ (.int .u8 (if Lib.isSp (UInt8.ofNat c) then 1 else 0))
theorem Spc.up {X Y:Res} (h:Spc X) (hE:Ext X Y):Spc Y:=λc hc=>hE.rd _ _<|h c hc
section
variable {X:Res}
theorem IG (x:Nat):Reads prog 230 #[.int .i32 x] [] (.bool (!okR x)):=by
 have hok:okR x=(((decide (97≤(x:Int)) && decide ((x:Int)≤122)) || (decide (48≤(x:Int)) && decide ((x:Int)≤57))) || decide ((x:Int)=95)):=by
  unfold okR
  rw [Bool.eq_iff_iff]; simp; omega
 rw [hok]
 refine aL (n:=22) func230 Z Z (len Z) λhr w0=>?_
 refine cQ<|sA Z<|sN<|nT<|cQ<|sM Z<|sV (pV Z Z)<|sM Z<|bD (k:=6) (d:=8) (v:=.bool (decide (97≤(x:Int)) && decide ((x:Int)≤122))) (λhcut=>aM (b:=(decide (97≤(x:Int)))) true (λhg=>?_)<|λhg=>?_) ?_
 ·refine aC Z Z hg ?_
  refine aC Z Z hg ?_
  refine sV (vP (bO Z hg) Z) ?_
  exact hcut _ uG
 ·refine sG Z (bG Z hg) (vM Z)<|sG Z (bG Z hg) (BQ Z Z)<|sV (vQ (bO Z hg) Z) ?_
  exact hcut _ uG
 refine sM Z<|bD (k:=14) (d:=16) (v:=.bool ((decide (97≤(x:Int)) && decide ((x:Int)≤122)) || (decide (48≤(x:Int)) && decide ((x:Int)≤57)))) (λhcut=>aM (b:=(decide (97≤(x:Int)) && decide ((x:Int)≤122))) false (λhg=>?_)<|λhg=>?_) ?_
 ·refine aC Z Z hg ?_
  iterate 2 refine aC rfl rfl hg ?_
  refine bN Z Z ?_
  refine bN Z Z ?_
  refine aC Z Z hg ?_
  refine sV (vQ (bO Z hg) Z) ?_
  exact hcut _ uG
 ·refine sG Z (bG Z hg) (vM Z)<|sG Z (bG Z hg) (pV Z Z)<|sG Z (bG Z hg) (vM Z)<|bD (k:=13) (d:=15) (v:=.bool (decide (48≤(x:Int)) && decide ((x:Int)≤57))) (λhcut=>aM (b:=(decide (48≤(x:Int)))) true (λhg1=>?_)<|λhg1=>?_) ?_
  ·refine aC Z Z hg1 ?_
   refine aC Z Z hg1 ?_
   refine sG Z (bG Z hg) (vP (bO Z hg1) Z) ?_
   exact hcut _<|uH (by first | rfl | (rw [hg1]; rfl) | simp_all)<|uS Z<|uS Z<|uR
  ·refine sG Z (bG Z hg1) (vM Z)<|sG Z (bG Z hg1) (BQ Z Z)<|sG Z (bG Z hg) (vQ (bO Z hg1) Z) ?_
   exact hcut _<|uH (by first | rfl | (rw [hg1]; rfl) | simp_all)<|uS Z<|uS Z<|uR
  refine sV (vP (bO Z hg) Z) ?_
  exact hcut _<|uH (by first | rfl | (rw [hg]; rfl) | simp_all) (by repeat (first | exact uR | refine uS Z ?_))
 refine sM Z<|bD (k:=18) (d:=20) (v:=.bool (((decide (97≤(x:Int)) && decide ((x:Int)≤122)) || (decide (48≤(x:Int)) && decide ((x:Int)≤57))) || decide ((x:Int)=95))) (λhcut=>aM (b:=((decide (97≤(x:Int)) && decide ((x:Int)≤122)) || (decide (48≤(x:Int)) && decide ((x:Int)≤57)))) false (λhg=>?_)<|λhg=>?_) ?_
 ·refine aC Z Z hg ?_
  refine aC Z Z hg ?_
  refine sV (vQ (bO Z hg) Z) ?_
  exact hcut _ uG
 ·refine sG Z (bG Z hg) (vM Z)<|sG Z (bG Z hg) (dG Z Z)<|sV (vP (bO Z hg) Z) ?_
  exact hcut _ uG
 refine sV (bn Z)<|sA Z<|sK [2] Z<|cT ?_
 exact aj Z ⟨Z,Z⟩ sbq
theorem NZ {P:Program} {g:FuncId} {args:Array Value} {v:Value} (h:Reads P g args [] v) (w:World):Calls P g args w λe w'=>e = .returned v/\Below w.heap.size w w':=by
 refine (h [old w] w<|wm w).mono ?_
 rintro e w' ⟨u,h',rfl,⟨rfl,rfl⟩,hh,hs⟩
 exact ⟨Z,hs.os,hs.tape,hs.output,hs.size,λk hk=>hh.1 k hk⟩
theorem GI (n:Nm):Ctw prog 225 #[sv n,.func (.func 230) #[] #[]] [] λu h'=>u = .bool (!n.all okS)/\h'=[]:=by
 intro hr w hh
 have hc:=Any.strings_ContainsFunc_grows lays17g 230 #[] (enters_of func230 Zz rfl) (λx => !okR x) ⟨⟨n⟩⟩ w λW x _ _=>NZ (IG x) W
 rw [has_bad] at hc
 exact Calls.mono hc λe w' ⟨h1,h2⟩=>⟨_,[],h1,⟨Z,Z⟩,yt h2 hh,Be h2⟩
theorem Lu (hX:Spc X):Ctw prog 231 #[sv pE] [X] λu h'=>h'=[X,NR u kws]/\wE (NR u kws) u kws:=by
 intro hr w hh
 have hml:maxLen=9223372036854775807:=rfl
 have hkl:kws.length<100:=by decide +kernel
 have hc:=Any.strings_Fields_core lays157 Zz ⟨⟨pE⟩⟩ w (by decide +kernel) (λj b hj=>(kw_sp b<|List.mem_of_getElem? hj).2) λc hc=>hX c hc w hh.1
 rw [show (⟨⟨pE⟩⟩:ByteArray).data.toList=pE from rfl,kws_eq] at hc
 refine Calls.mono hc λe w' ⟨h1,h2⟩=>⟨.slice (some ⟨w.heap.size,0,none⟩) kws.length kws.length,[X,NR (.slice (some ⟨w.heap.size,0,none⟩) kws.length kws.length) kws],h1,?_⟩
 have h9:Holds w' (NR (.slice (some ⟨w.heap.size,0,none⟩) kws.length kws.length) kws::([X]++hr)):=by
  subst h2
  have h3:=Holds.alloc hh<|cl (kws.map sv) 9
  exact vw_of (E:=9) (sz:=1) (n:=kws.length) (kws.map nC) (mJ _).symm (λr hr=>by obtain ⟨_,_,rfl⟩:=List.mem_map.1 hr; rfl) (by simp) (by omega) _ h3
 refine ⟨⟨Z,iE ⟨_,h9.1⟩⟩,h9.perm (List.Perm.swap _ _ _),?_⟩
 subst h2
 exact (vJ w).trans (Grew.alloc _ _ Z).toSame
def smV (n:Nm):Bool:=(((n == [] || decide ((20:Int)<(n.length:Nat))) || decide (((n.headD 0).toNat:Int)<97)) || decide ((122:Int)<(n.headD 0).toNat)) || !n.all okS
theorem smV_eq (n:Nm):small n=(!smV n && !kws.contains n):=by
 cases n with
 | nil=>rfl
 | cons b t =>
  show (decide ((b::t).length≤20) && lower b && (b::t).all okS && !kws.contains (b::t))=_
  congr 1
  unfold smV lower
  rw [show ((b::t:Nm) == [])=false from rfl,List.headD_cons]
  generalize (b::t).all okS=A
  generalize (b::t).length=L
  generalize b.toNat=c
  have e1:decide ((20:Int)<(L:Nat)) = !decide (L≤20):=by rw [<- decide_not]; exact decide_eq_decide.2 (by omega)
  have e2:decide ((c:Int)<97) = !decide (97≤c):=by rw [<- decide_not]; exact decide_eq_decide.2 (by omega)
  have e3:decide ((122:Int)<(c:Nat)) = !decide (c≤122):=by rw [<- decide_not]; exact decide_eq_decide.2 (by omega)
  rw [e1,e2,e3]
  cases decide (L≤20) <;> cases decide (97≤c) <;> cases decide (c≤122) <;> cases A <;> rfl
theorem at0 {n:Nm} (h:(n == [])=false):n[0]? = some (n.headD 0):=by
 cases n with
 | nil=>cases h
 | cons b t=>rfl
theorem GJ (hX:Spc X) (n:Nm):Ctw prog 147 #[sv n] [X] λu h'=>u = .bool (small n)/\h'=[X]:=by
 have hkl:kws.length≤1099511627776:=by
  have:kws.length<100:=by decide +kernel
  omega
 have hfl:=Lu hX
 rw [smV_eq]
 unfold smV
 refine fu (n:=28) func147 Z Z (len Z) λhr w0 hw0=>?_
 refine cQ<|sA Z<|sN<|nT<|cS<|cQ<|sM Z<|sV (gY Z Z)<|sM Z<|bD (k:=7) (d:=9) (v:=.bool (n == [] || decide ((20:Int)<(n.length:Nat)))) (λhcut=>aM (b:=(n == [])) false (λhg=>?_)<|λhg=>?_) ?_
 ·refine aC Z Z hg ?_
  iterate 2 refine aC rfl rfl hg ?_
  refine sV (vQ (bO Z hg) Z) ?_
  exact hcut _ uG
 ·refine sG Z (bG Z hg) (vM Z)<|sG Z (bG Z hg) (Dv Z underlying9)<|sG Z (bG Z hg) (bZ Z Z)<|sV (vP (bO Z hg) Z) ?_
  exact hcut _ uG
 refine sM Z<|bD (k:=12) (d:=14) (v:=.bool ((n == [] || decide ((20:Int)<(n.length:Nat))) || decide (((n.headD 0).toNat:Int)<97))) (λhcut=>aM (b:=(n == [] || decide ((20:Int)<(n.length:Nat)))) false (λhg=>?_)<|λhg=>?_) ?_
 ·refine aC Z Z hg ?_
  iterate 2 refine aC rfl rfl hg ?_
  refine sV (vQ (bO Z hg) Z) ?_
  exact hcut _ uG
 ·refine sG Z (bG Z hg) (vM Z)<|sG Z (bG Z hg) (uM (k:=0) Z Z underlying9 Z (at0 (Bool.or_eq_false_iff.1 hg).1))<|sG Z (bG Z hg) (aN Z Z)<|sV (vP (bO Z hg) Z) ?_
  exact hcut _ uG
 refine sM Z<|bD (k:=17) (d:=19) (v:=.bool (((n == [] || decide ((20:Int)<(n.length:Nat))) || decide (((n.headD 0).toNat:Int)<97)) || decide ((122:Int)<(n.headD 0).toNat))) (λhcut=>aM (b:=((n == [] || decide ((20:Int)<(n.length:Nat))) || decide (((n.headD 0).toNat:Int)<97))) false (λhg=>?_)<|λhg=>?_) ?_
 ·refine aC Z Z hg ?_
  iterate 2 refine aC rfl rfl hg ?_
  refine sV (vQ (bO Z hg) Z) ?_
  exact hcut _ uG
 ·refine sG Z (bG Z hg) (vM Z)<|sG Z (bG Z hg) (uM (k:=0) Z Z underlying9 Z (at0 (Bool.or_eq_false_iff.1 (Bool.or_eq_false_iff.1 hg).1).1))<|sG Z (bG Z hg) (bZ Z Z)<|sV (vP (bO Z hg) Z) ?_
  exact hcut _ uG
 refine sM Z<|bD (k:=21) (d:=23) (v:=.bool ((((n == [] || decide ((20:Int)<(n.length:Nat))) || decide (((n.headD 0).toNat:Int)<97)) || decide ((122:Int)<(n.headD 0).toNat)) || !n.all okS)) (λhcut=>aM (b:=(((n == [] || decide ((20:Int)<(n.length:Nat))) || decide (((n.headD 0).toNat:Int)<97)) || decide ((122:Int)<(n.headD 0).toNat))) false (λhg=>?_)<|λhg=>?_) ?_
 ·refine aC Z Z hg ?_
  refine aC Z Z hg ?_
  refine sV (vQ (bO Z hg) Z) ?_
  exact hcut _ uG
 ·refine sG Z (bG Z hg) (vM Z)<|lq Z (bG Z hg)<|bF hw0 Z Z en225 Z (GI n) ?_
  rintro u h' ⟨rfl,rfl⟩
  simp only [List.nil_append]
  refine sV (vP (bO Z hg) Z) ?_
  exact hcut _ uG
 refine sK [0,2,23] Z ?_
 generalize ((((n == [] || decide ((20:Int)<(n.length:Nat))) || decide (((n.headD 0).toNat:Int)<97)) || decide ((122:Int)<(n.headD 0).toNat)) || !n.all okS)=bad
 refine cC Z (λhb=>?_)<|λhb=>?_
 ·have hb:bad=true:=hb
  subst hb
  refine cQ<|sA Z<|sK [2] Z<|cT<|xR ?_
  exact aj Z ⟨Z,Z⟩ sbq
 ·have hb:bad=false:=hb
  subst hb
  refine cK<|xT<|cQ<|bF hw0 Z Z en231 Z (hfl) ?_
  rintro u h' ⟨rfl,hnm⟩
  simp only [lC,lN]
  refine sM Z<|bf Z Z Ab Z (dZ hnm n hkl) ?_
  refine sV (bn Z)<|sA Z<|sK [2] Z<|cT ?_
  exact aj Z ⟨Z,Z⟩ sbq
end
end Go.Fl
