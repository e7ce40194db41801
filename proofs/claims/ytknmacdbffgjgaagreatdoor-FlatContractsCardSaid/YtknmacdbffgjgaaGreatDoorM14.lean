/-
  Package flat: what is a small name; Go's library under it: strings.ContainsFunc,strings.Fields,by the kit's contracts laid at this program. Conditions: the library's table of blanks is read.
-/
import Derived.Test.YtknmacdbffgjgaaGreatDoorM13
import Derived.Test.YtknmacdbffgjgaaGreatDoorM8
import Derived.Shelf.Strings.OnBuilder
import Derived.Test.YtknmacdbffgjgaaGreatDoorM10
import Derived.Shelf.Strings.FuncGrows
import Derived.Shelf.Strings.Fields
set_option linter.unusedVariables false
set_option linter.unusedSimpArgs false
set_option maxRecDepth 100000
set_option maxHeartbeats 16000000
namespace Go.Fl
open Go Go.RowKit Go.Ck Go.Proofs Go.Proofs.Tryz Go.Proofs.YtknmacdbffgjgaaGreatDoor Fx Go.Hr
attribute [local irreducible] Go.Ck.Sub St Cd Xt Nx DrL LsW
section
variable {X Y:Res} {v v':Value} {us us':List Value}
def eX (v fv:Value) (c:FC) (ca cb ce cf ci:Value) (mv bv:Value) (all:Bool):List Value:=[v,fv,sv c.name,.bool c.dfd,ca,cb,ce,cf,ci,mv,bv,.bool all]
theorem fQ {fv:Value} {c:FC} {ca cb ce cf ci mv bv:Value} {all:Bool} (k:Int) (n:Nm) (a b:Og):Ct prog 204 #[.agg (eX v fv c ca cb ce cf ci mv bv all).toArray,.int .i64 k,sv n,.agg #[sv a.par,sv a.name],.agg #[sv b.par,sv b.name]] [] λu h'=>u=cfV ⟨k,c.name,n,[],a,b⟩/\h'=[]:=by
 unfold eX cfV cfC
 refine aL (n:=19) func204 Z Z (len Z) λhr w0=>?_
 refine cQ (aP Z Z λb5=>?_)
 refine aP Z Z λb8=>?_
 refine aP Z Z λb9=>?_
 refine au D9 λb10=>?_
 refine sK [1,2,5,8,9,10] Z<|cQ<|sM Z<|sV (vF Z gM Z)<|sV (vF Z dN Z)<|sV (vY Z ld9) ?_
 refine sM Z<|sV (af Z qm Z ah) ?_
 refine sV (af Z qm Z ah) ?_
 refine sV (aO (cells:=[.int .i64 k,sv c.name,sv n,sv [],sv a.par,sv a.name,sv b.par,sv b.name]) Z<|λ_=>Zz) ?_
 refine ai Z Z wZ Z Z ?_
 refine sK [10] Z<|cT ?_
 exact bD (.cellN Z tF Z slq .nil) ⟨Z,Z⟩ sbr
theorem Oc {β : Type} (f:Mb->List β) {l:List Mb} {i:Nat} (h:i<l.length):((l.take i).flatMap f).length+(f l[i]).length≤(l.flatMap f).length:=by
 have h1:l=l.take i++l[i]::l.drop (i+1):=by rw [List.getElem_cons_drop,List.take_append_drop]
 have h2:=congrArg (λx=>(x.flatMap f).length) h1
 simp only [List.flatMap_append,List.flatMap_cons,List.length_append] at h2
 omega
theorem yL {ms:List Mb} (hv:Ls X v ms) (hb:(ms.flatMap λm=>m.seeds).length * 32≤1099511627776):Ct prog 219 #[v] [X] λu h'=>u.oneCell'=true/\h'=[VR u 69 2 ((qZ (ms.flatMap λm=>m.seeds)).map sdC),X]:=by
 have hml:maxLen=9223372036854775807:=rfl
 obtain ⟨a,cap,rfl,hlc,hcm,_⟩:=id hv.form
 refine aL (n:=21) func219 Z Z (len Z) λhr w0=>?_
 refine cQ<|sA Z<|sN<|nT<|cQ<|sA Z<|sN<|nT<|cS<|cQ<|sM Z<|sV (aF Z underlying52)<|sM Z ?_
 refine sK [2,3,6,7,8] Z<|cB<|dK (cO 69 2)<|aX (σ := Value×Nat) (λq=>[(3,q.1),(6,.slice a ms.length cap),(7,.int .i64 ms.length),(8,.int .i64 (q.2:Nat))]) (λq=>VR q.1 69 2 (((ms.take q.2).flatMap λm=>m.seeds).map sdC)::X::hr) (λq=>q.2≤ms.length/\q.1.oneCell'=true) (λq=>ms.length - q.2) (.slice none 0 0,0) ⟨Nat.zero_le _,Z⟩ ?_
 rintro ⟨w,i⟩ ⟨hi,hw⟩
 simp only at hi hw
 dsimp only
 refine cQ<|sV (aN Z Z)<|sN<|nT<|cS<|cC Z (λhd=>?_)<|λhd=>?_
 ·have hlt:i<ms.length:=Zx
  obtain ⟨b,o,cap2,us,e1,hus,hrd,hre⟩:=hv.at<|Zy hlt
  cases e1
  have hS:=Oc (λm=>m.seeds) hlt
  have htk:=bY hlt
  generalize ms[i]=x at hre hS htk
  have hone:=Enc.ones hre
  obtain ⟨x2,x5,xy,x11,x12,x13,rfl,hx2,-⟩:=dh hre
  obtain ⟨ax2,kx2,rfl,_⟩:=id hx2.form
  unfold gz at *
  have hfm:(ms.take (i+1)).flatMap (λm=>m.seeds)=(ms.take i).flatMap (λm=>m.seeds)++x.seeds:=by rw [htk]; simp
  refine cK<|xT<|cS<|cB<|cQ<|sV (vI (k:=i) Z Z oM Z hlt Z)<|sV (af Z eU Z hrd) ?_
  refine au ji λb5=>?_
  refine ai Z Z gP Z hone ?_
  refine sK [3,5,6,7,8] Z<|cR<|sM Z<|sV (vF Z dX Z)<|sV (vY Z nO) ?_
  refine rA hx2.1 Z Z underlying67 Cu Z (by decide) (show Sel _ (VR w 69 2<|((ms.take i).flatMap λm=>m.seeds).map sdC) _ from slq) (show Sel _ X _ from slq) (λus x _ hr u hu=>List.all_eq_true.1 (Enc.ones hr) u hu) (by rw [List.length_map]; omega) (by rw [List.length_map]; omega) (ltn Z) λw2 news hw2 hn1 hn2 hn3=>?_
  rw [Kq hn1 hn3,<- List.map_append,<- hfm]
  refine sA Z<|sN<|nK [3,6,7,8] Z<|ax<|xB<|xT<|cR<|sV (aI Z Z Za)<|sM Z<|sN<|nK [3,6,7,8] Z<|ax ?_
  refine aJ (w2,i+1) ⟨hlt,hw2⟩ (by dsimp only; omega)
 ·have hie:i=ms.length:=by
   have:¬ i<ms.length:=Zx
   omega
  subst hie
  have hjs:(ms.flatMap λm=>m.seeds).length≤1099511627776:=by omega
  rw [List.take_length]
  refine aB<|xE<|xE<|xY<|xT<|cQ<|sM Z<|aH Z Z en197 Z (Ba hjs) ?_
  rintro u h' ⟨rfl,ys,hperm,hcs,rfl⟩
  simp only [lC,lN]
  refine sK [3] Z<|cQ<|sM Z<|aH Z Z en199 Z (Bb (xs:=ys)) ?_
  rintro u h' ⟨hu,rfl⟩
  simp only [lC,lN]
  rw [hcs]
  refine sA Z<|sK [2] Z<|cT ?_
  exact aj Z ⟨hu,Z⟩ sbq
end
end Go.Fl
namespace Go.Fl
open Go Go.RowKit Go.Ck Go.Proofs Go.Proofs.Tryz Go.Proofs.YtknmacdbffgjgaaGreatDoor Fx Go.Hr
theorem GN {o:Option Nat}:(ixI o == -1)=o.isNone:=by
 cases o with
 | none=>rfl
 | some i=>rfl
attribute [local irreducible] Go.Ck.Sub St Cd Xt Nx DrL LsW
section
variable {X Y:Res} {v v':Value} {us us':List Value}
theorem LH {v : Value} {rows : List (List Value)} {xs : List Cm} {kf : FuncId} {cp : Array Value} {g : Cm -> Bool} (hro : Rws X rows xs) (hb : xs.length * 280 ≤ 1099511627776) (hE : Ck.Enters prog kf) (hf : ∀ R : Res, (∀ p u, Rd X p u -> Rd R p u) -> ∀ a ∈ xs, ∀ us, Enc.rep R us a -> Reads prog kf (#[] ++ ([.agg us.toArray] : List Value).toArray ++ cp) [R] (.bool (g a))) :
  Ct prog 261 #[v,.func (.func kf) #[] cp] [VR v 191 18 rows,X] λu h'=>∃ rows',u.oneCell'=true/\Rws X rows' (xs.filter λx => !g x)/\h'=[VR u 191 18 rows',X]:=by
 have hml:maxLen=9223372036854775807:=rfl
 have hrb:reachBytes=140737488351232:=rfl
 have hrl:=hro.1
 refine aL (n:=42) func261 Z Z (len Z) λhr w0=>?_
 refine fJ (r:=VR v 191 18 rows) slq λhok=>?_
 have ho:=VR.one hok.choose_spec
 have hls:Ls (Res.star [VR v 191 18 rows,X]) v xs:=Rws.ls (E:=191) (jw hro<|bE<|.there .here) hok (bE .here) (show xs.length * 280≤reachBytes by omega)
 have hix:=dF<|CX (g:=g) (cp:=cp) hls hE<|hf _<|bE<|.there .here
 refine fZ (v:=v) (E:=191) (sz:=18) (rows:=rows) slq λwa wc hwf hwl hwm=>?_
 rw [hrl] at hwf hwl
 subst hwf
 refine cQ<|sA Z<|sN<|nT<|cQ<|sM Z<|sM Z<|aY Z Z en193 Z (hix) ?_
 refine sA Z<|sK [0,1,4,5] Z<|cS<|cQ<|sM Z<|sV (dP Z Z)<|sK [0,1,4,5,12] Z ?_
 rw [GN]
 cases hq:xs.findIdx? g with
 | none =>
  have hall:(xs.filter λx => !g x)=xs:=by
   rw [List.filter_eq_self]
   intro x hx
   simp [List.findIdx?_eq_none_iff.1 hq x hx]
  rw [hall]
  refine aQ Z ?_
  refine cQ<|sM Z<|sA Z<|sK [4] Z<|cT<|xR ?_
  exact aj Z ⟨rows,ho,hro,Z⟩ sbq
 | some i0 =>
  obtain ⟨hi0,hg0,hbf⟩:=List.findIdx?_eq_some_iff_getElem.1 hq
  obtain ⟨b,o,rfl⟩:∃ b o,wa=some ⟨b,o,none⟩:=by
   obtain ⟨f0,hf0⟩:=hok
   rcases VR.form hf0 with ⟨h3,h4⟩ | ⟨b,o,cp,h3,-⟩
   ·rw [h4] at hrl; simp at hrl; omega
   ·rw [hrl] at h3; cases h3; exact ⟨b,o,rfl⟩
  have hf0:(xs.take i0).filter (λx => !g x)=xs.take i0:=by
   rw [List.filter_eq_self]
   intro x hx
   obtain ⟨j,hj,rfl⟩:=List.getElem_of_mem hx
   rw [List.length_take] at hj
   rw [List.getElem_take]
   simpa using hbf j (by omega)
  have hstart:Rws X (rows.take i0) ((xs.take (i0+1)).filter λx => !g x):=by
   rw [List.take_succ_eq_append_getElem hi0,List.filter_append,hf0]
   have:[xs[i0]].filter (λx => !g x)=[]:=by simp [hg0]
   rw [this,List.append_nil]
   refine ⟨by rw [List.length_take,List.length_take,hrl],λj us x h1 h2=>?_⟩
   rw [List.getElem?_take] at h1 h2
   split at h1
   ·rename_i hji; rw [if_pos hji] at h2; exact hro.2 j us x h1 h2
   ·cases h1
  rw [show ixI (some i0)=((i0:Nat):Int) from rfl]
  refine aG Z ?_
  refine cK<|xT<|cS<|cQ<|sM Z<|sV (aI Z Z Za)<|sA Z<|sK [0,1,4,5,6] Z<|cB<|aX (σ := Nat×Nat×List (List Value)) (λq=>[(0,.slice (some ⟨b,o,none⟩) xs.length wc),(1,.func (.func kf) #[] cp),(5,.int .i64 (q.1:Nat)),(6,.int .i64 (q.2.1:Nat))]) (λq=>VR (.slice (some ⟨b,o,none⟩) xs.length wc) 191 18 q.2.2::X::hr) (λq=>q.1<q.2.1/\q.2.1≤xs.length/\q.2.2.length=xs.length/\Rws X (q.2.2.take q.1) ((xs.take q.2.1).filter λx => !g x)/\∀ k,q.2.1≤k->q.2.2[k]? = rows[k]?) (λq=>xs.length - q.2.1) (i0,i0+1,rows) ⟨Nat.lt_succ_self _,hi0,hrl,hstart,λ_ _=>rfl⟩ ?_
  rintro ⟨m,j,rws⟩ ⟨hmj,hjn,hwl2,hpre,hrest⟩
  simp only at hmj hjn hwl2 hpre hrest
  dsimp only
  refine cS<|cQ<|sM Z<|sM Z<|sV (aF Z underlying187)<|sV (aN Z Z)<|sK [0,1,5,6,19] Z<|cC Z (λhd=>?_)<|λhd=>?_
  ·have hlt:j<xs.length:=Zx
   have hjr:j<rows.length:=by omega
   have hrow:rws[j]? = some rows[j]:=(hrest j<|Nat.le_refl _).trans<|Zy hjr
   have hrep:=hro.2 j _ xs[j] (Zy hjr)<|Zy hlt
   have hfx:=hf X (λ_ _ h=>h) xs[j] (List.getElem_mem hlt) _ hrep
   have htk:=bY hlt
   have hset:∀ r,(rws.set m r).take (m+1)=rws.take m++[r]:=λr=>by
    rw [List.take_succ_eq_append_getElem (by rw [List.length_set]; omega),List.take_set_of_le (Nat.le_refl _),List.getElem_set_self]
   generalize xs[j]=x at hrep hfx htk
   generalize rows[j]=r at hrow hrep hfx
   have hsz:r.length=18:=Enc.len hrep
   have hone:=Enc.ones hrep
   refine cK<|xT<|cS<|cB<|cQ<|sM Z<|sM Z<|sV (vI (k:=j) Z Z lF Z hlt Z)<|sV (af Z gV hsz<|eQ hrow) ?_
   refine au qR λb7=>?_
   refine ai (hl:=by rw [hsz]; rfl) Z Z mr hsz hone ?_
   refine sK [0,1,5,6,7] Z<|cQ<|sM Z<|sV (af Z gV hsz ah) ?_
   refine aY Z Z hE Z (hfx) ?_
   refine sV (bg Z)<|sK [0,1,5,6,7,29] Z<|cC Z (λhg=>?_)<|λhg=>?_
   ·have hgf:g x=false:=by simpa using hg
    have e1:[x].filter (λx => !g x)=[x]:=by simp [hgf]
    refine cQ<|sM Z<|sM Z<|sV (af Z gV hsz ah) ?_
    refine sV (vI (k:=m) Z Z lF Z (by omega) Z)<|IQ (m:=m) (rows:=rws) (vs:=r) Z Z mr hsz (λu hu=>List.all_eq_true.1 hone u hu) (by omega) slq ?_
    refine sK [0,1,5,6] Z<|cR<|sM Z<|sV (aI Z Z Za)<|sA Z<|sN<|nK [0,1,5,6] Z<|ax<|xB<|xT<|cR<|sM Z<|sV (aI Z Z Za)<|sA Z<|sN<|nK [0,1,5,6] Z<|ax ?_
    refine aJ (m+1,j+1,rws.set m r) ⟨by dsimp only; omega,hlt,by rw [List.length_set]; exact hwl2,by rw [hset,htk,List.filter_append,e1]; exact hpre.snoc hrep,λk hk=>by
     have hk:j+1≤k:=hk
     rw [List.getElem?_set_ne (by omega)]; exact hrest k (by omega)⟩ (by dsimp only; omega)
   ·have hgt:g x=true:=by simpa using hg
    have e1:[x].filter (λx => !g x)=[]:=by simp [hgt]
    refine cK<|xB<|xT<|cR<|sM Z<|sV (aI Z Z Za)<|sA Z<|sN<|nK [0,1,5,6] Z<|ax ?_
    refine aJ (m,j+1,rws) ⟨by dsimp only; omega,hlt,hwl2,by rw [htk,List.filter_append,e1,List.append_nil]; exact hpre,λk hk=>hrest k (by dsimp only at hk; omega)⟩ (by dsimp only; omega)
  ·have hje:j=xs.length:=by
    have:¬ j<xs.length:=Zx
    omega
   subst hje
   rw [List.take_length] at hpre
   refine aB<|xE<|xE<|xY<|xT<|cQ<|sM Z<|sM Z<|sV (gq (show Value.slice (some ⟨b,if wc=m then o else o+m * 18,none⟩) (xs.length - m) (wc - m)=Value.slice (some ⟨b,o+m * 18,none⟩) (rws.length - m) (wc - m) by rw [if_neg (by omega),hwl2])<|mF (lo:=m) Z Z lF Z (by omega)<|by omega) ?_
   refine um (m:=m) (rows:=rws) rfl underlying187 Ae rfl (λv hv=>by simp [Value.cells] at hv; (repeat (first | (rcases hv with rfl | hv; · rfl) | (subst hv; rfl)))) (by omega) slq ?_
   refine sK [0,5] Z<|cQ<|sM Z<|sM Z<|sV (jU (hi:=m) Z Z lF Z<|by omega)<|qg (zu (m:=m) ?_) ?_
   ·rw [List.length_append,List.length_take,List.length_replicate]; omega
   rw [List.take_append_of_le_length (by rw [List.length_take]; omega),List.take_take,Nat.min_self]
   refine sA Z<|sK [4] Z<|cT ?_
   exact aj Z ⟨_,Z,hpre,Z⟩ sbq
theorem LJ {v : Value} {rows : List (List Value)} {xs : List Mb} {kf : FuncId} {cp : Array Value} {g : Mb -> Bool} (hro : Rws X rows xs) (hb : xs.length * 232 ≤ 1099511627776) (hE : Ck.Enters prog kf) (hf : ∀ R : Res, (∀ p u, Rd X p u -> Rd R p u) -> ∀ a ∈ xs, ∀ us, Enc.rep R us a -> Reads prog kf (#[] ++ ([.agg us.toArray] : List Value).toArray ++ cp) [R] (.bool (g a))) :
  Ct prog 268 #[v,.func (.func kf) #[] cp] [VR v 75 14 rows,X] λu h'=>∃ rows',u.oneCell'=true/\Rws X rows' (xs.filter λx => !g x)/\h'=[VR u 75 14 rows',X]:=by
 have hml:maxLen=9223372036854775807:=rfl
 have hrb:reachBytes=140737488351232:=rfl
 have hrl:=hro.1
 refine aL (n:=42) func268 Z Z (len Z) λhr w0=>?_
 refine fJ (r:=VR v 75 14 rows) slq λhok=>?_
 have ho:=VR.one hok.choose_spec
 have hls:Ls (Res.star [VR v 75 14 rows,X]) v xs:=Rws.ls (E:=75) (jw hro<|bE<|.there .here) hok (bE .here) (show xs.length * 232≤reachBytes by omega)
 have hix:=dF<|xx (g:=g) (cp:=cp) hls hE<|hf _<|bE<|.there .here
 refine fZ (v:=v) (E:=75) (sz:=14) (rows:=rows) slq λwa wc hwf hwl hwm=>?_
 rw [hrl] at hwf hwl
 subst hwf
 refine cQ<|sA Z<|sN<|nT<|cQ<|sM Z<|sM Z<|aY Z Z en222 Z (hix) ?_
 refine sA Z<|sK [0,1,4,5] Z<|cS<|cQ<|sM Z<|sV (dP Z Z)<|sK [0,1,4,5,12] Z ?_
 rw [GN]
 cases hq:xs.findIdx? g with
 | none =>
  have hall:(xs.filter λx => !g x)=xs:=by
   rw [List.filter_eq_self]
   intro x hx
   simp [List.findIdx?_eq_none_iff.1 hq x hx]
  rw [hall]
  refine aQ Z ?_
  refine cQ<|sM Z<|sA Z<|sK [4] Z<|cT<|xR ?_
  exact aj Z ⟨rows,ho,hro,Z⟩ sbq
 | some i0 =>
  obtain ⟨hi0,hg0,hbf⟩:=List.findIdx?_eq_some_iff_getElem.1 hq
  obtain ⟨b,o,rfl⟩:∃ b o,wa=some ⟨b,o,none⟩:=by
   obtain ⟨f0,hf0⟩:=hok
   rcases VR.form hf0 with ⟨h3,h4⟩ | ⟨b,o,cp,h3,-⟩
   ·rw [h4] at hrl; simp at hrl; omega
   ·rw [hrl] at h3; cases h3; exact ⟨b,o,rfl⟩
  have hf0:(xs.take i0).filter (λx => !g x)=xs.take i0:=by
   rw [List.filter_eq_self]
   intro x hx
   obtain ⟨j,hj,rfl⟩:=List.getElem_of_mem hx
   rw [List.length_take] at hj
   rw [List.getElem_take]
   simpa using hbf j (by omega)
  have hstart:Rws X (rows.take i0) ((xs.take (i0+1)).filter λx => !g x):=by
   rw [List.take_succ_eq_append_getElem hi0,List.filter_append,hf0]
   have:[xs[i0]].filter (λx => !g x)=[]:=by simp [hg0]
   rw [this,List.append_nil]
   refine ⟨by rw [List.length_take,List.length_take,hrl],λj us x h1 h2=>?_⟩
   rw [List.getElem?_take] at h1 h2
   split at h1
   ·rename_i hji; rw [if_pos hji] at h2; exact hro.2 j us x h1 h2
   ·cases h1
  rw [show ixI (some i0)=((i0:Nat):Int) from rfl]
  refine aG Z ?_
  refine cK<|xT<|cS<|cQ<|sM Z<|sV (aI Z Z Za)<|sA Z<|sK [0,1,4,5,6] Z<|cB<|aX (σ := Nat×Nat×List (List Value)) (λq=>[(0,.slice (some ⟨b,o,none⟩) xs.length wc),(1,.func (.func kf) #[] cp),(5,.int .i64 (q.1:Nat)),(6,.int .i64 (q.2.1:Nat))]) (λq=>VR (.slice (some ⟨b,o,none⟩) xs.length wc) 75 14 q.2.2::X::hr) (λq=>q.1<q.2.1/\q.2.1≤xs.length/\q.2.2.length=xs.length/\Rws X (q.2.2.take q.1) ((xs.take q.2.1).filter λx => !g x)/\∀ k,q.2.1≤k->q.2.2[k]? = rows[k]?) (λq=>xs.length - q.2.1) (i0,i0+1,rows) ⟨Nat.lt_succ_self _,hi0,hrl,hstart,λ_ _=>rfl⟩ ?_
  rintro ⟨m,j,rws⟩ ⟨hmj,hjn,hwl2,hpre,hrest⟩
  simp only at hmj hjn hwl2 hpre hrest
  dsimp only
  refine cS<|cQ<|sM Z<|sM Z<|sV (aF Z underlying52)<|sV (aN Z Z)<|sK [0,1,5,6,19] Z<|cC Z (λhd=>?_)<|λhd=>?_
  ·have hlt:j<xs.length:=Zx
   have hjr:j<rows.length:=by omega
   have hrow:rws[j]? = some rows[j]:=(hrest j<|Nat.le_refl _).trans<|Zy hjr
   have hrep:=hro.2 j _ xs[j] (Zy hjr)<|Zy hlt
   have hfx:=hf X (λ_ _ h=>h) xs[j] (List.getElem_mem hlt) _ hrep
   have htk:=bY hlt
   have hset:∀ r,(rws.set m r).take (m+1)=rws.take m++[r]:=λr=>by
    rw [List.take_succ_eq_append_getElem (by rw [List.length_set]; omega),List.take_set_of_le (Nat.le_refl _),List.getElem_set_self]
   generalize xs[j]=x at hrep hfx htk
   generalize rows[j]=r at hrow hrep hfx
   have hsz:r.length=14:=Enc.len hrep
   have hone:=Enc.ones hrep
   refine cK<|xT<|cS<|cB<|cQ<|sM Z<|sM Z<|sV (vI (k:=j) Z Z oM Z hlt Z)<|sV (af Z eU hsz<|eQ hrow) ?_
   refine au ji λb7=>?_
   refine ai (hl:=by rw [hsz]; rfl) Z Z gP hsz hone ?_
   refine sK [0,1,5,6,7] Z<|cQ<|sM Z<|sV (af Z eU hsz ah) ?_
   refine aY Z Z hE Z (hfx) ?_
   refine sV (bg Z)<|sK [0,1,5,6,7,29] Z<|cC Z (λhg=>?_)<|λhg=>?_
   ·have hgf:g x=false:=by simpa using hg
    have e1:[x].filter (λx => !g x)=[x]:=by simp [hgf]
    refine cQ<|sM Z<|sM Z<|sV (af Z eU hsz ah) ?_
    refine sV (vI (k:=m) Z Z oM Z (by omega) Z)<|IQ (m:=m) (rows:=rws) (vs:=r) Z Z gP hsz (λu hu=>List.all_eq_true.1 hone u hu) (by omega) slq ?_
    refine sK [0,1,5,6] Z<|cR<|sM Z<|sV (aI Z Z Za)<|sA Z<|sN<|nK [0,1,5,6] Z<|ax<|xB<|xT<|cR<|sM Z<|sV (aI Z Z Za)<|sA Z<|sN<|nK [0,1,5,6] Z<|ax ?_
    refine aJ (m+1,j+1,rws.set m r) ⟨by dsimp only; omega,hlt,by rw [List.length_set]; exact hwl2,by rw [hset,htk,List.filter_append,e1]; exact hpre.snoc hrep,λk hk=>by
     have hk:j+1≤k:=hk
     rw [List.getElem?_set_ne (by omega)]; exact hrest k (by omega)⟩ (by dsimp only; omega)
   ·have hgt:g x=true:=by simpa using hg
    have e1:[x].filter (λx => !g x)=[]:=by simp [hgt]
    refine cK<|xB<|xT<|cR<|sM Z<|sV (aI Z Z Za)<|sA Z<|sN<|nK [0,1,5,6] Z<|ax ?_
    refine aJ (m,j+1,rws) ⟨by dsimp only; omega,hlt,hwl2,by rw [htk,List.filter_append,e1,List.append_nil]; exact hpre,λk hk=>hrest k (by dsimp only at hk; omega)⟩ (by dsimp only; omega)
  ·have hje:j=xs.length:=by
    have:¬ j<xs.length:=Zx
    omega
   subst hje
   rw [List.take_length] at hpre
   refine aB<|xE<|xE<|xY<|xT<|cQ<|sM Z<|sM Z<|sV (gq (show Value.slice (some ⟨b,if wc=m then o else o+m * 14,none⟩) (xs.length - m) (wc - m)=Value.slice (some ⟨b,o+m * 14,none⟩) (rws.length - m) (wc - m) by rw [if_neg (by omega),hwl2])<|mF (lo:=m) Z Z oM Z (by omega)<|by omega) ?_
   refine um (m:=m) (rows:=rws) rfl underlying52 vg rfl (λv hv=>by simp [Value.cells] at hv; (repeat (first | (rcases hv with rfl | hv; · rfl) | (subst hv; rfl)))) (by omega) slq ?_
   refine sK [0,5] Z<|cQ<|sM Z<|sM Z<|sV (jU (hi:=m) Z Z oM Z<|by omega)<|qg (zu (m:=m) ?_) ?_
   ·rw [List.length_append,List.length_take,List.length_replicate]; omega
   rw [List.take_append_of_le_length (by rw [List.length_take]; omega),List.take_take,Nat.min_self]
   refine sA Z<|sK [4] Z<|cT ?_
   exact aj Z ⟨_,Z,hpre,Z⟩ sbq
end
section
variable {X Y:Res} {v v':Value} {us us':List Value}
theorem I1 {x:Cm} {b4 i:Nat} (h:Enc.rep X us x) (hrd:Rd X ⟨b4,0,none⟩ (.int .i64 (i:Nat))):Reads prog 263 #[.agg us.toArray,.pointer (some ⟨b4,0,none⟩)] [X] (.bool (!(x.par == i))):=by
 obtain ⟨x2,x5,xy,x11,x12,x13,rfl,_⟩:=gZ h
 unfold oC
 refine aL (n:=8) func263 Z Z (len Z) λhr w0=>?_
 refine cQ (aP Z Z λb2=>?_)
 refine sA Z<|sK [1,2,3] Z<|cQ<|sV (vF Z zm Z)<|sV (vY Z ld3) ?_
 refine sV (vY Z ld3) ?_
 refine sV (bP Z Z)<|sA Z<|sK [3] Z<|cT ?_
 rw [show (((x.par:Nat):Int) != ((i:Nat):Int)) = !(x.par == i) by
  rw [Bool.eq_iff_iff]; simp; omega]
 exact aj Z ⟨Z,Z⟩ sbq
theorem en263:Ck.Enters prog 263:=enters_of func263 Zz rfl
theorem pV {fv:Value} {c:FC} {ca cb ce cf ci mv:Value} {all:Bool} {bm i:Nat} {m:List (Nm×Value)} {n:Nm} {xs:List Cm} (hlk:Ls X ((bK m n).getD (.slice none 0 0)) xs) (hb:xs.length * 280≤1099511627776) :
  CtX prog 206 #[.agg (eX v fv c ca cb ce cf ci mv (.map<|some bm) all).toArray,.int .i64 (i:Nat),sv n] X [mps bm m] λu Y k'=>∃ rows,u.oneCell'=true/\Rws Y rows (xs.filter λx=>x.par == i)/\k'=[VR u 191 18 rows,mps bm m]:=by
 have hfl:(xs.filter λx => !(!(x.par == i)))=xs.filter λx=>x.par == i:=by simp
 unfold eX CtX
 refine aL (n:=14) func206 Z Z (len Z) λhr w0=>?_
 refine cQ (aP Z Z λb3=>?_)
 refine aP Z Z λb4=>?_
 refine sA Z<|sK [2,3,4,6] Z<|cQ<|sV (vF Z oV Z)<|sV (vY Z qN) ?_
 refine sM Z<|sV (bI Z Z sI tC slq) ?_
 refine aH Z Z en262 Z (Gi hlk) ?_
 rintro u h' ⟨T,rfl,rows,rfl,ho,hr⟩
 simp only [lC,lN]
 refine sV (bQ Z Z) (Km [pt b4 (cl [.int .i64 (i:Nat)] 3)] X λY hE hsel hpk=>?_)
 refine aH Z Z en261 Z (LH (g:=λx => !(x.par == i)) (cp := #[.pointer (some ⟨b4,0,none⟩)]) (hr.up hE) hb en263 λR hRY a _ us h=>I1 (i:=i) h<|hRY _ _<|hsel _ _ .here _ _<|bV Z) ?_
 rintro u h' ⟨rows',hu,hr',rfl⟩
 simp only [lC,lN]
 rw [hfl] at hr'
 refine sA Z<|sK [6] Z<|cT ?_
 exact aj Z ⟨Y,_,Z,hE,rows',hu,hr',Z⟩ sbq
end
end Go.Fl
namespace Go.Fl
open Go Go.Hr
def dSds (l:FS):List Sd:=l.flatMap λc=>c.feats.map λf=>⟨c.name,f.name⟩
def dPre (l:FS):List Grp:=l.flatMap λc=>c.feats.map λf=>⟨c.name,f.req⟩
def dPost (l:FS):List Grp:=l.flatMap λc=>c.feats.map λf=>⟨c.name,f.ens⟩
structure MOk (l:FS) (m:Mb):Prop where
 name:m.name.length≤20
 snd:m.seeds.Nodup
 sds:∀ s∈m.seeds,s∈dSds l
 pnd:m.pre.Nodup
 pre:∀ g∈m.pre,g∈dPre l
 qnd:m.post.Nodup
 post:∀ g∈m.post,g∈dPost l
theorem I4 {o:List Grp} {g:Grp} (h:o.Nodup):(vH o g).Nodup:=by
 unfold vH
 split
 ·exact h
 ·rename_i hg
  have hg:g ∉ o:=by simpa using hg
  refine List.nodup_append.2 ⟨h,by simp,λa ha b hb e=>?_⟩
  rw [List.mem_singleton.1 hb] at e
  exact hg (e ▸ ha)
theorem I5 {l o:List Grp} (h:o.Nodup):(q8 o l).Nodup:=by
 unfold q8
 induction l generalizing o with
 | nil=>exact h
 | cons g t ih=>exact ih (I4 h)
theorem pW (ls:List (List Grp)):(groups ls).Nodup:=by
 have key:∀ (ls:List (List Grp)) (o:List Grp),o.Nodup->(ls.foldl q8 o).Nodup:=by
  intro ls
  induction ls with
  | nil=>exact λ_ h=>h
  | cons a t ih=>exact λo h=>ih _ (I5 h)
 exact key ls [] List.nodup_nil
theorem mO (cs:List Cm) (f:Cm->List Grp):(cs.foldl (λ(o:List Grp) (y:Cm)=>groups [o,f y]) []).Nodup:=by
 have key:∀ (cs:List Cm) (o:List Grp),o.Nodup->(cs.foldl (λ(o:List Grp) (y:Cm)=>groups [o,f y]) o).Nodup:=by
  intro cs
  induction cs with
  | nil=>exact λ_ h=>h
  | cons a t ih=>exact λo h=>ih _ (pW _)
 exact key cs [] List.nodup_nil
theorem y8.nodup {xs:List Sd} (h:y8 xs):xs.Nodup:=by
 rw [List.nodup_iff_pairwise_ne]
 exact h.imp λ{a b} hab e=>by
  subst e
  rw [pF] at hab; cases hab
theorem Dk {s:Nm} (h:small s=true):s.length≤20:=by
 unfold small at h
 split at h
 ·simp
 ·simp only [Bool.and_eq_true,decide_eq_true_eq] at h
  exact h.1.1.1
section
variable {l:FS}
theorem GQ {c:FC} (hc:CRight l c) {p:Pt} (hp:p∈c.pars) {n:Nm} (hn:n.length≤20):(bN p n).length≤20:=by
 unfold bN
 cases hf:p.ren.find? λx=>x.fro == n with
 | none=>exact hn
 | some x=>exact Dk (hc.tosmall p hp x (List.mem_of_find?_eq_some hf))
theorem zC {fl:Nm->Fl} (h:∀ n,∀ m∈(fl n).mems,MOk l m) {c:FC} (hc:CRight l c) {x:Cm} (hx:x∈comes fl l c):MOk l x.mem:=by
 obtain ⟨p,hp,m,hm,e⟩:=jc hx
 have h1:=h _ m hm
 rw [e]
 exact ⟨GQ hc (List.mem_of_getElem? hp) h1.name,h1.snd,h1.sds,h1.pnd,h1.pre,h1.qnd,h1.post⟩
theorem Dl {cs:List Cm} (h:∀ x∈cs,MOk l x.mem) (h0:cs≠[]):MOk l (joined cs):=by
 obtain ⟨x,hx,h1,_⟩:=mI cs h0
 exact ⟨h1 ▸ (h x hx).name,(jf _).1.nodup,λs hs=>by
   obtain ⟨y,hy,h2⟩:=kN.1 hs
   exact (h y hy).sds s h2,mO cs λx=>x.mem.pre,λg hg=>by
   obtain ⟨y,hy,h2⟩:=tZ.1 hg
   exact (h y hy).pre g h2,mO cs λx=>x.mem.post,λg hg=>by
   obtain ⟨y,hy,h2⟩:=rz.1 hg
   exact (h y hy).post g h2⟩
theorem own_ok {cs:List Cm} {c:FC} {f:Fe} (hc:CRight l c) (hcl:c∈l) (hf:f∈c.feats) (h:∀ x∈cs,MOk l x.mem):MOk l (jK c f cs):=by
 have hp:(⟨c.name,f.req⟩:Grp)∈dPre l:=List.mem_flatMap.2 ⟨c,hcl,List.mem_map.2 ⟨f,hf,rfl⟩⟩
 have hq:(⟨c.name,f.ens⟩:Grp)∈dPost l:=List.mem_flatMap.2 ⟨c,hcl,List.mem_map.2 ⟨f,hf,rfl⟩⟩
 have hs:(⟨c.name,f.name⟩:Sd)∈dSds l:=List.mem_flatMap.2 ⟨c,hcl,List.mem_map.2 ⟨f,hf,rfl⟩⟩
 have hn:=Dk<|hc.fsmall f hf
 have hpost:∀ g∈(if f.ens=[] then ([]:List Grp) else [⟨c.name,f.ens⟩]),g∈dPost l:=λg hg=>by
  split at hg
  ·cases hg
  ·rw [List.mem_singleton.1 hg]; exact hq
 by_cases h0:cs=[]
 ·subst h0
  refine ⟨hn,?_,?_,?_,?_,?_,hpost⟩
  ·show ([_]:List Sd).Nodup
   simp
  ·intro s h2
   have h2:s∈([⟨c.name,f.name⟩]:List Sd):=h2
   rw [List.mem_singleton.1 h2]; exact hs
  ·show ([_]:List Grp).Nodup
   simp
  ·intro s h2
   have h2:s∈([⟨c.name,f.req⟩]:List Grp):=h2
   rw [List.mem_singleton.1 h2]; exact hp
  ·show (if f.ens=[] then ([]:List Grp) else [⟨c.name,f.ens⟩]).Nodup
   split <;> simp
 ·have hj := Dl h h0
  unfold jK
  simp only []
  rw [if_neg h0]
  refine ⟨hn,hj.snd,hj.sds,pW _,λg hg=>?_,pW _,λg hg=>?_⟩
  ·obtain ⟨a,ha,hga⟩:=lM.1 hg
   simp only [List.mem_cons,List.not_mem_nil,or_false] at ha
   rcases ha with rfl | rfl
   ·exact hj.pre g hga
   ·split at hga
    ·cases hga
    ·rw [List.mem_singleton.1 hga]; exact hp
  ·obtain ⟨a,ha,hga⟩:=lM.1 hg
   simp only [List.mem_cons,List.not_mem_nil,or_false] at ha
   rcases ha with rfl | rfl
   ·exact hj.post g hga
   ·exact hpost g hga
theorem zD {fl:Nm->Fl} (h:∀ n,∀ m∈(fl n).mems,MOk l m) {c:FC} (hc:CRight l c) (hcl:c∈l):∀ m∈members (comes fl l c) c,MOk l m:=λm hm=>by
 rcases (yJ hc.names).1 hm with ⟨n,⟨x,hx,hxn⟩,_,rfl⟩ | ⟨f,hf,rfl⟩
 ·exact Dl (λy hy=>zC h hc (fM.1 hy).1)<|List.ne_nil_of_mem<|fM.2 ⟨hx,hxn⟩
 ·exact own_ok hc hcl hf λy hy=>zC h hc (fM.1 hy).1
theorem GR {c:Nm}:ae l c∈l∨ae l c=BF:=by
 cases h:bJ l c with
 | none=>exact .inr (vL h)
 | some x=>rw [iq h]; exact .inl (List.mem_of_find?_eq_some h)
theorem Od (hR : FRight l) : ∀ (n : Nat) (c : Nm), ∀ m ∈ (flF l n c).mems, MOk l m
 | 0,c,m,hm=>by cases hm
 | n + 1, c, m, hm => by
  rcases GR (l:=l) (c:=c) with h | h
  ·exact zD (Od hR n) (gm<|hR.form _ h) h m hm
  ·have:(flF l (n+1) c).mems=[]:=by
    show members (comes (flF l n) l<|ae l c) (ae l c)=[]
    rw [h]; rfl
   rw [this] at hm; cases hm
theorem FL_ok (hR:FRight l) (c:Nm):∀ m∈(FL l c).mems,MOk l m:=Od hR _ c
structure FlB (l:FS) (fl:Nm->Fl):Prop where
 few:∀ n,(fl n).mems.length≤60
 ok:∀ n,∀ m∈(fl n).mems,MOk l m
theorem Oe (hR:FRight l) {o:List Nm} (h:∀ n∈o,okF l n):FlB l (look (forms l o)):=by
 have key:∀ n,look (forms l o) n=fl0∨(n∈o/\look (forms l o) n=FL l n):=λn=>by
  by_cases hn:n∈o
  ·exact .inr ⟨hn,pg hn⟩
  ·exact .inl<|KZ hn
 constructor
 ·intro n
  rcases key n with h1 | ⟨h1,h2⟩
  ·rw [h1]; exact Nat.zero_le _
  ·rw [h2,iy hR.sys]
   have:=(h n h1).2
   unfold over at this
   simp only [Bool.or_eq_false_iff,decide_eq_false_iff_not] at this
   omega
 ·intro n m hm
  rcases key n with h1 | ⟨h1,h2⟩
  ·rw [h1] at hm; cases hm
  ·rw [h2] at hm; exact FL_ok hR n m hm
theorem iU {α β : Type} {f : α -> List β} {k:Nat}:∀ {xs:List α},(∀ x∈xs,(f x).length≤k)->(xs.flatMap f).length≤xs.length * k
 | [],_=>by simp
 | a::t,h=>by
  have h1:=h a<|by simp
  have h2:=iU (f:=f) (xs:=t) λx hx=>h x<|by simp [hx]
  rw [List.flatMap_cons,List.length_append,List.length_cons,Nat.add_mul,Nat.one_mul]
  omega
theorem dLen {β : Type} (hR:FRight l) (g:FC->Fe -> β):(l.flatMap λc=>c.feats.map (g c)).length≤1440:=by
 have h1:=iU (xs:=l) (f:=λc=>c.feats.map<|g c) (k:=60) λc hc=>by
  rw [List.length_map]; exact (gm<|hR.form c hc).feats
 have h2:=hR.sys.len
 rw [jX] at h2
 omega
theorem MOk.lens (hR:FRight l) {m:Mb} (h:MOk l m):m.seeds.length≤1440/\m.pre.length≤1440/\m.post.length≤1440 :=
 ⟨Nat.le_trans (aT h.snd h.sds) (dLen hR _),Nat.le_trans (aT h.pnd h.pre) (dLen hR _),Nat.le_trans (aT h.qnd h.post)<|dLen hR _⟩
theorem Oh (hR:FRight l) {c:FC} (hc:c∈l):c.pars.length≤4:=by
 have:=hR.sys.few c.cls<|List.mem_map.2 ⟨c,hc,rfl⟩
 simpa [FC.cls] using this
theorem xK (hR:FRight l) {fl:Nm->Fl} (h:FlB l fl) {c:FC} (hc:c∈l):(comes fl l c).length≤240:=by
 have h1:=iU (xs:=c.pars.zipIdx) (f:=λq:Pt×Nat=>(fl q.1.name).mems.map<|qY (ae l q.1.name).forms q.2 q.1) (k:=60) λq _=>by
  rw [List.length_map]; exact h.few _
 have h2:=Oh hR hc
 have h3:(comes fl l c).length≤c.pars.zipIdx.length * 60:=h1
 rw [List.length_zipIdx] at h3
 omega
theorem I6 (hR:FRight l) {fl:Nm->Fl} (h:FlB l fl) {c:FC} (hc:c∈l):((comes fl l c).flatMap λx=>x.mem.seeds).length≤345600/\((comes fl l c).flatMap λx=>x.mem.pre).length≤345600/\((comes fl l c).flatMap λx=>x.mem.post).length≤345600:=by
 have h1:=xK hR h hc
 have h2:=λx (hx:x∈comes fl l c)=>(zC h.ok (gm<|hR.form c hc) hx).lens hR
 have g1:=iU (xs:=comes fl l c) (f:=λx=>x.mem.seeds) (k:=1440) λx hx=>(h2 x hx).1
 have g2:=iU (xs:=comes fl l c) (f:=λx=>x.mem.pre) (k:=1440) λx hx=>(h2 x hx).2.1
 have g3:=iU (xs:=comes fl l c) (f:=λx=>x.mem.post) (k:=1440) λx hx=>(h2 x hx).2.2
 omega
theorem GU (hR:FRight l) {fl:Nm->Fl} (h:FlB l fl) {c:FC} (hc:c∈l):(members (comes fl l c) c).length≤300/\((members (comes fl l c) c).flatMap λm=>m.seeds).length≤432000:=by
 have hC:=gm<|hR.form c hc
 have h1:=xK hR h hc
 have hn:=(pG (comes fl l c) hC.names)
 have hk:(keys<|comes fl l c).length≤(comes fl l c).length:=by
  have:(keys<|comes fl l c).length≤((comes fl l c).map λx=>x.mem.name).length:=aT (gX _) λn hn=>by
   obtain ⟨x,hx,e⟩:=jY.1 hn
   exact List.mem_map.2 ⟨x,hx,e⟩
  simpa using this
 have h2:(members (comes fl l c) c).length≤(tY (comes fl l c) c).length:=by
  have:((members (comes fl l c) c).map λm=>m.name).length≤((tY (comes fl l c) c).map λm=>m.name).length:=aT hn.1.nodup λn hn'=>by
   obtain ⟨m,hm,e⟩:=List.mem_map.1 hn'
   exact List.mem_map.2 ⟨m,(hn.2 m).1 hm,e⟩
  simpa using this
 have h3:(tY (comes fl l c) c).length≤300:=by
  unfold tY
  rw [List.length_append,List.length_map,List.length_map]
  have:=List.length_filter_le (λn=>(feat c n).isNone)<|keys<|comes fl l c
  have:=hC.feats
  omega
 have g1:=iU (xs:=members (comes fl l c) c) (f:=λm=>m.seeds) (k:=1440) λm hm=>((zD h.ok hC hc m hm).lens hR).1
 omega
end
end Go.Fl
namespace Go.Ck
open Go Go.RowKit
def dz (w:World):World:={ w with drawn:=0 }
theorem vV (w:World):Same (dz w) w:=⟨rfl,rfl,rfl,Nat.zero_le _,Nat.le_refl _,λ_ _=>rfl⟩
theorem Same.dz {w w':World} (h:Same w w'):Same (dz w) w':=(vV w).trans h
theorem Same.dtrans {w0 w w':World} (h:Same w0 w) (h0:w0.drawn=0) (k:Same (Go.Ck.dz w) w'):Same w0 w' :=
 ⟨k.os.trans h.os,k.tape.trans h.tape,k.output.trans h.output,by rw [h0]; exact Nat.zero_le _,Nat.le_trans h.size k.size,λx hx=>(k.fz x<|Nat.lt_of_lt_of_le hx h.size).trans<|h.fz x hx⟩
def Ctw (P:Program) (k:FuncId) (args:Array Value) (hf:SH) (R:Value->SH->Prop):Prop :=
 ∀ (hr:SH) (w:World),Holds w (hf++hr)->Calls P k args w λe w'=>∃ v h',e = .returned v/\R v h'/\Holds w' (h'++hr)/\Same (dz w) w'
theorem Ct.w {P:Program} {k:FuncId} {args:Array Value} {hf:SH} {R:Value->SH->Prop} (h:Ct P k args hf R):Ctw P k args hf R :=
 λhr w hh=>(h hr w hh).mono λ_ _ ⟨v,h',e,r,g,s⟩=>⟨v,h',e,r,g,s.dz⟩
theorem Ctw.mono {P:Program} {k:FuncId} {args:Array Value} {hf:SH} {R R':Value->SH->Prop} (h:Ctw P k args hf R) (hr:∀ v h',R v h'->R' v h'):Ctw P k args hf R' :=
 λhr' w hw=>(h hr' w hw).mono λ_ _ ⟨v,h',e,r,rest⟩=>⟨v,h',e,hr v h' r,rest⟩
theorem Ctw.perm {P:Program} {k:FuncId} {args:Array Value} {hf hf':SH} {R:Value->SH->Prop} (h:Ctw P k args hf R) (p:hf.Perm hf'):Ctw P k args hf' R :=
 λhr w hw=>h hr w ((bi.perm<|p.append_right hr).2 hw)
def dE (P:Program) (k:FuncId) (args:Array Value) (X:Res) (hf:SH) (R:Value->Res->SH->Prop):Prop:=Ctw P k args (X::hf) λu h'=>∃ Y k',h'=Y::k'/\Ext X Y/\R u Y k'
theorem eG {P:Program} {k:FuncId} {fn:Func} {x:Code} {n:Nat} {l:List Value} {hf:SH} {R:Value->SH->Prop} (hF:P.funcs[k]? = some fn) (hb:fn.body=some x) (hnt:fn.ntmps=n) (hn:l.length≤n)
  (hc:∀ (hr:SH) (w0:World),w0.drawn=0->Cd ⟨P,none,n,[],w0⟩ x (bodyPost P fn<|Post w0 hr R) (Env.ofArgs 0 l) (hf++hr)):Ctw P k l.toArray hf R:=λhr w hh=>by
 refine uO (r:=none) (n:=0)<|callsIn_of_wp hF hb trivial<|hc hr (dz w) Z _ w ⟨?_,Z,λi v hi=>?_⟩ hh<|vV w
 ·simp; omega
 ·obtain ⟨_,h2⟩:=Env.ofArgs_get hi
  simp only [Nat.sub_zero] at h2
  have hlt:i<l.length:=(List.getElem?_eq_some_iff.1 h2).1
  rw [Zy hlt,Option.some.injEq] at h2
  simp [Array.getElem?_append,hlt,h2]
theorem EC {P:Program} {k:FuncId} {fn:Func} {x:Code} {n:Nat} {l:List Value} {hf:SH} {R:Value->SH->Prop} (hF:P.funcs[k]? = some fn) (hb:fn.body=some x) (hnt:fn.ntmps=n) (hn:l.length≤n)
  (hc:∀ (hr:SH) (w0:World),w0.drawn=0->Cd ⟨P,none,n,[],w0⟩ x (bodyPostM (Fw none) 0 P fn<|Post w0 hr R) (Env.ofArgs 0 l) (hf++hr)):Ctw P k l.toArray hf R:=λhr w hh=>by
 refine uO (r:=none) (n:=0)<|callsIn_of_wp_marks hF hb trivial<|hc hr (dz w) Z _ w ⟨?_,Z,λi v hi=>?_⟩ hh<|vV w
 ·simp; omega
 ·obtain ⟨_,h2⟩:=Env.ofArgs_get hi
  simp only [Nat.sub_zero] at h2
  have hlt:i<l.length:=(List.getElem?_eq_some_iff.1 h2).1
  rw [Zy hlt,Option.some.injEq] at h2
  simp [Array.getElem?_append,hlt,h2]
section
variable {c:Cx} {ops:Array Oper} {K:Act->World->Prop} {rest:List Oper} {e:Env} {h hr:SH}
theorem bM {d:Nat} {f:Operand} {az:Array Operand} {ts:Array TypeId} {ty:TypeId} {pos:String} {after:Array Edge} {k:FuncId} {fi cp:Array Value} {vs:List Value} {args:Array Value} {hf:SH} {R:Value->SH->Prop} (h0:c.w0.drawn=0)
  (hv:e.ev? f=some (.func (.func k) fi cp)) (has:az.toList.mapM e.ev? = some vs) (hE:Enters c.P k) (ha:fi++vs.toArray++cp=args) (ct:Ctw c.P k args hf R)
  (hn:∀ v h',R v h'->St c ops K rest ((d,v)::e) (h'++hr)) (pk:Pk h hf hr:=by repeat (first | exact Pk.nil | (apply Pk.cons; (repeat (first | exact Sel.here | apply Sel.there))))) (hd:d<c.n:=by exact ltn rfl) :
  St c ops K (⟨some d,.call { callee:=.value f,args:=az,argTypes:=ts },ty,pos,after,none⟩::rest) e h :=
 ek (by simp) λa w hk hh hs=>by
  rw [qD hv has hE ha hk.evs]
  exact (ct hr w<|hh.pk pk).mono λ_ w' ⟨v,h',he,hR,hH,hS⟩=>⟨v,he,hn v h' hR _ w' (hk.put v hd) hH<|hs.dtrans h0 hS⟩
end
theorem xL {P : Program} {n : Nat} {ds : List Deferred} {w0 : World} {Q : Exit -> Act -> World -> Prop} {e : Env} {h : SH} {g : Operand} {k : FuncId} {fi cp : Array Value} {ps : Array Tmp} {assign body : Code} (h0 : w0.drawn = 0)
  (hg:e.ev? g=some (.func (.func k) fi cp)) (hE:Enters P k)
  (hct:∀ (l db:Nat) (rec:Loop),rec.state = .ready->rec.pending=none->rec.params=ps->rec.assign=assign->rec.body=body->Kn n [] { tmps:=rec.tmps,defers:=[] } e ->
   ∃ R',Ctw P k (fi ++ #[.func (.yield l) #[] #[]]++cp) (pt l (.loop rec)::pt db (.deferred<|some [])::h) R' /\
    ∀ v h',R' v h'->∃ rec h'',Sel h' (pt l (.loop rec)) h''/\rec.state≠.busy/\(match rec.pending with | none=>Xt ⟨P,none,n,mk db::ds,w0⟩ .normal Q e h'' | some x=>Cd ⟨P,none,n,mk db::ds,w0⟩ x Q e h'')) :
  Cd ⟨P,none,n,ds,w0⟩ (.rangeFunc g ps assign body) Q e h:=λa w hk hh hw=>by
 refine wpIn_rangeFunc λfn _=>?_
 obtain ⟨R',ct,hR'⟩:=hct (w.heap.size+1) w.heap.size (qG fn a.tmps ps assign body w.heap.size) rfl rfl rfl rfl rfl ⟨hk.size,rfl,hk.get⟩
 have h1:=Holds.alloc (Holds.alloc hh<|.deferred<|some [])<|.loop<|qG fn a.tmps ps assign body w.heap.size
 have hsz:(w.alloc<|.deferred<|some []).heap.size=w.heap.size+1:=World.size_alloc _ _
 rw [hsz] at h1
 refine ⟨_,_,_,⟨.fn (.func k) cp,fi ++ #[.func (.yield (w.heap.size+1)) #[] #[]]⟩,(w.alloc<|.deferred<|some []).alloc (.loop<|qG fn a.tmps ps assign body w.heap.size),k,fi ++ #[.func (.yield (w.heap.size+1)) #[] #[]]++cp,(w.alloc<|.deferred<|some []).alloc (.loop<|qG fn a.tmps ps assign body w.heap.size),run_enterLoop_outer fn a.tmps ps assign body,?_,λ_ _=>trivial,?_,λh=>by simp [Fw,Fence.wide] at h,?_⟩
 ·simp only [resolve,hk.ev hg,Deferred.ofValue,Sem.run_bind,Sem.run_pure,Result.andThen_ok]
  simp [Act.eval,qG]
 ·have:(invoke (.fn (.func k) cp) (fi ++ #[.func (.yield (w.heap.size+1)) #[] #[]])).run P ((w.alloc<|.deferred<|some []).alloc<|.loop<|qG fn a.tmps ps assign body w.heap.size) = .ok (.enter k (fi ++ #[.func (.yield (w.heap.size+1)) #[] #[]]++cp)) ((w.alloc<|.deferred<|some []).alloc<|.loop<|qG fn a.tmps ps assign body w.heap.size):=hE _ _
  exact this
 ·have hgr:Same w ((w.alloc<|.deferred<|some []).alloc<|.loop<|qG fn a.tmps ps assign body w.heap.size):=(Grew.alloc _ _ rfl).toSame.trans (Grew.alloc _ _ rfl).toSame
  have hctw:=ct [] _ Zf
  refine sZ (Calls.mono hctw λen w' ⟨v,h',he,hRv,hH,hS⟩=>?_)
  subst he
  obtain ⟨rec,h'',s,hbusy,hj⟩:=hR' v h' hRv
  have hH':=(show Holds w' h' by simpa using hH).sel s
  refine ⟨rec.pending,_,run_endLoop hH'.1 hbusy,?_⟩
  have hk2:Kn n (mk w.heap.size::ds) { a with defers:=[{ target:=.collected w.heap.size,args := #[] }]++a.defers } e:=⟨hk.size,by simp [mk,hk.defers],hk.get⟩
  have hH2:∀ o,Holds (w'.putObj (w.heap.size+1) o) h'':=λo=>(Holds.putObj hH' o).2.2
  have hS2:∀ r,Same w0 (w'.putObj (w.heap.size+1)<|.loop r):=λr=>((hw.trans hgr).dtrans h0 hS).trans<|Same.putObj _ _ _ hH'.1 rfl rfl
  generalize rec.pending=j at hj ⊢
  cases j with
  | none=>exact hj _ _ hk2 (hH2 _) (hS2 _)
  | some x=>exact hj _ _ hk2 (hH2 _) (hS2 _)
end Go.Ck
namespace Go.Fl
open Go Go.RowKit Go.Ck Go.Proofs Go.Proofs.Tryz Go.Proofs.YtknmacdbffgjgaaGreatDoor Fx Go.Hr
def yM:Go.Shelf.Ren:={
 f:=λ| 156=>172 | 165=>238 | 166=>239 | 169=>240 | 240=>276 | 241=>277 | 276=>299 | 277=>300 | n=>n
 t:=λ| 31=>40 | 9=>9 | 3=>3 | 4=>4 | 0=>0 | 20=>20 | 72=>301 | 76=>305 | 70=>299 | 37=>37 | 75=>304 | 127=>338 | 164=>360 | 5=>5 | 80=>307 | n=>n
 g:=λn=>n }
theorem Ky:Go.Proofs.Lays.n156 prog yM:={
 mixed:=rfl
 f156:=func172.trans<|congrArg some Zz
 f165:=func238.trans<|congrArg some Zz
 f166:=func239.trans<|congrArg some Zz
 f169:=func240.trans<|congrArg some Zz
 f240:=func276.trans<|congrArg some Zz
 f241:=func277.trans<|congrArg some Zz
 f276:=func299.trans<|congrArg some Zz
 f277:=func300.trans<|congrArg some Zz
 t0:=underlying0
 a0:=isAgg0
 z0:=sizeOf0
 v0:=zeroValue0
 t3:=underlying3
 a3:=isAgg3
 z3:=sizeOf3
 v3:=zeroValue3
 t4:=underlying4
 a4:=isAgg4
 z4:=sizeOf4
 v4:=zeroValue4
 t9:=underlying9
 a9:=isAgg9
 z9:=sizeOf9
 v9:=zeroValue9
 t20:=underlying20
 a20:=isAgg20
 z20:=sizeOf20
 v20:=zeroValue20
 t31:=underlying40
 a31:=isAgg40
 z31:=sizeOf40
 v31:=zeroValue40
 t37:=underlying37
 a37:=isAgg37
 z37:=sizeOf37
 v37:=zeroValue37
 t70:=underlying299
 a70:=isAgg299
 z70:=sizeOf299
 v70:=zeroValue299
 t72:=underlying301
 a72:=isAgg301
 z72:=sizeOf301
 v72:=zeroValue301
 t75:=underlying304
 a75:=isAgg304
 z75:=sizeOf304
 v75:=zeroValue304
 t76:=underlying305
 a76:=isAgg305
 z76:=sizeOf305
 v76:=zeroValue305
 t127:=underlying338
 a127:=isAgg338
 z127:=sizeOf338
 v127:=zeroValue338
 t164:=underlying360
 a164:=isAgg360
 z164:=sizeOf360
 v164:=zeroValue360 }
theorem GV:Builder.Extra prog yM where
 sizeBuilder:=Zz
 liesBuilder:=Zz
 t5:=Zz
 a5:=isAgg5
 z5:=sizeOf5
 v5:=zeroValue5
 infoByte:=Zz
 cellsByte:=Zz
 sizeByte:=Zz
 neB5:=by decide
theorem Bo {w w':World} (h:Below w.heap.size w w'):Same (dz w) w':=⟨h.os,h.tape,h.output,Nat.zero_le _,h.size,λa ha=>h.frozen ha⟩
theorem yN {w w':World} {H:SH} (h:Below w.heap.size w w') (hh:Holds w H):Holds w' H:=bi.loc hh λb hb=>(h.block b<|Holds.lt hh hb).symm
theorem I7 (a:Nm) (t:List Nm):jW (a::t)=a++Lib.joinTail [32] t:=by
 induction t generalizing a with
 | nil=>simp [jW,Lib.joinTail]
 | cons b t ih =>
  show a++32::jW (b::t)=_
  rw [ih b]
  simp [Lib.joinTail]
theorem GX (xs:List Nm):Lib.join xs [32]=jW xs:=by
 cases xs with
 | nil=>rfl
 | cons a t=>rw [Lib.join_cons,I7]
theorem Dm {k:Nat}:∀ {xs:List Nm},(∀ x∈xs,x.length≤k)->(jW xs).length≤xs.length * (k+1)
 | [],_=>by simp [jW]
 | [a],h=>by
  have:=h a<|by simp
  show a.length≤_
  simp only [List.length_singleton,Nat.one_mul]; omega
 | a::b::t,h=>by
  have h1:=h a<|by simp
  have h2:=Dm (xs:=b::t) λx hx=>h x (by simp only [List.mem_cons] at hx ⊢; exact .inr hx)
  have h3:jW (a::b::t)=a++32::jW (b::t):=rfl
  rw [h3,List.length_append,List.length_cons,List.length_cons (a:=a),Nat.add_mul,Nat.one_mul]
  omega
theorem Kz {v:Value} {xs:List Nm} (hl:xs.length≤1099511627776) (hj:(jW xs).length≤140737488355328):Ctw prog 172 #[v,sv [32]] [NR v xs] λu h'=>u=sv (jW xs)/\h'=[NR v xs]:=by
 intro hr w hh
 have hv:=hh.1
 rcases hv.2 with ⟨rfl,h0⟩ | ⟨b,o,cp,pre,j,rfl,hb,hpre,hc1,hc2,hc3⟩
 ·have hx:xs=[]:=List.map_eq_nil_iff.1 h0
  subst hx
  exact (Any.strings_Join_none Ky GV none 0 ⟨⟨[32]⟩⟩ w).mono λe w' ⟨h1,h2⟩=>⟨sv [],_,h1,⟨Z,Z⟩,by rw [h2]; exact hh,by rw [h2]; exact vV w⟩
 ·rw [mG] at hb
  have hb:w.heap[b]? = some (cl (pre++(xs.map sv++j)) 9):=hb
  have hlt:b<w.heap.size:=(Array.getElem?_eq_some_iff.1 hb).1
  have hml:(xs.map λn=>(⟨⟨n⟩⟩:ByteArray)).map (·.data.toList)=xs:=by rw [List.map_map]; exact List.map_id _
  have hc:=Any.strings_Join Ky GV b o cp (xs.map λn=>(⟨⟨n⟩⟩:ByteArray)) ⟨⟨[32]⟩⟩ w (λi x hi=>by
   rw [List.getElem?_map] at hi
   obtain ⟨n,hn,rfl⟩:=Option.map_eq_some_iff.1 hi
   have hil:=(List.getElem?_eq_some_iff.1 hn).1
   simp only [World.cell?,hb,cl,Option.isSome_none,Bool.false_eq_true,if_false,List.getElem?_toArray]
   rw [<- hpre,List.getElem?_append_right (by omega),Nat.add_sub_cancel_left,List.getElem?_append_left (by simpa using hil),List.getElem?_map,hn]
   rfl) hlt (by rw [List.length_map]; omega) (by
    rw [List.length_map]
    have:(xs.map nC).length=xs.length:=by simp
    omega) (by rw [hml,GX]; exact hj)
  rw [hml,GX,List.length_map] at hc
  rw [show (xs.map nC).length=xs.length by simp]
  rw [show (xs.map nC).length=xs.length by simp] at hh
  exact Calls.mono hc λe w' ⟨h1,h2⟩=>⟨sv (jW xs),_,h1,⟨Z,Z⟩,yN h2 hh,Bo h2⟩
end Go.Fl
namespace Go.Ck
open Go Go.RowKit
theorem v_mlenI {P : Program} {e : Env} {h h' : SH} {t ty' K E : TypeId} {x : Operand} {b : Nat} {m : List (Int × Value)} (hx : e.ev? x = some (.map (some b))) (ht : P.underlying t = some (.map K E)) (hs : Sel h (mpr b m) h') :
  Vop P e h (.call { callee:=.builtin .len,args := #[x],argTypes := #[t] }) ty' (.int .i64 m.length):=
 ⟨by simp,by simp,λρ w d pos after g hρ hh=>by
  obtain ⟨es,ck,h1,h2,_⟩:=(hh.sel hs).1
  have hg:(getObj b).run P w = .ok (.map es ck) w:=run_getObj_map h1
  have hl:es.size=m.length:=by
   have:=congrArg List.length h2
   simpa [mU] using this
  simp [execOp,resolve,invoke,builtin,hρ x _ hx,Builtin.len_,run_underlying ht,goInt,hg,hl]⟩
end Go.Ck
namespace Go.Fl
open Go Go.RowKit Go.Ck Go.Proofs Go.Proofs.Tryz Go.Proofs.YtknmacdbffgjgaaGreatDoor Fx Go.Hr
theorem GY (cs:List Cm) (x:Cm) (s:Sd):having (cs++[x]) s=if x.mem.seeds.contains s then having cs s++[x] else having cs s:=by
 unfold having
 rw [List.filter_append]
 by_cases h:x.mem.seeds.contains s=true
 ·rw [if_pos h,List.filter_cons,if_pos h]; rfl
 ·rw [if_neg h,List.filter_cons,if_neg h]; simp
theorem GZ (c:FC) (xs:List Cm) (x:Cm):picked c (xs++[x])=if (dG c x.par).sel.contains x.mem.name && !(picked c xs).contains x.mem.name then picked c xs++[x.mem.name] else picked c xs:=by
 unfold picked
 rw [List.filter_append]
 by_cases h:(dG c x.par).sel.contains x.mem.name=true
 ·have e1:[x].filter (λx=>(dG c x.par).sel.contains x.mem.name)=[x]:=by rw [List.filter_cons,if_pos h]; rfl
  rw [e1,List.map_append,List.map_cons,List.map_nil,rP,h,Bool.true_and]
  unfold Hr.step
  by_cases h2:(dd [] ((xs.filter λx=>(dG c x.par).sel.contains x.mem.name).map λx=>x.mem.name)).contains x.mem.name=true
  ·rw [if_pos h2,h2]; rfl
  ·rw [if_neg h2,if_pos Zp]
 ·have e1:[x].filter (λx=>(dG c x.par).sel.contains x.mem.name)=[]:=by rw [List.filter_cons,if_neg h]; rfl
  rw [e1,List.append_nil,Bool.eq_false_iff.2 h]; rfl
theorem Oi (o xs:List Nat) (i:Nat):ddn o (xs++[i])=if (ddn o xs).contains i then ddn o xs else ddn o xs++[i]:=by
 unfold ddn
 rw [List.foldl_append]; rfl
theorem BJ (xs:List Cm) (x:Cm):bZ (xs++[x])=if (bZ xs).contains x.par then bZ xs else bZ xs++[x.par]:=by
 unfold bZ
 rw [List.map_append,List.map_cons,List.map_nil,Oi]
def qx (ps:List Nat):List (Int×Value):=ps.map λ(i:Nat)=>((i:Int),.bool true)
theorem G5 : ∀ (ps : List Nat) (i : Nat), nG (qx ps) (i : Int) (.bool true) = qx (if ps.contains i then ps else ps ++ [i])
 | [],i=>by simp [qx,nG]
 | p::t,i=>by
  have ih:=G5 t i
  unfold qx at ih ⊢
  rw [List.map_cons,nG]
  by_cases h:p=i
  ·subst h
   simp
  ·have h1:¬ ((p:Nat):Int)=(i:Nat):=by omega
   have h2:(p::t).contains i=t.contains i:=by rw [List.contains_cons]; simp [show (i == p)=false by simpa using λe=>h (by omega)]
   rw [if_neg h1,ih,h2]
   split <;> rfl
structure Fits (l:FS) (fl:Nm->Fl):Prop where
 right:FRight l
 flb:FlB l fl
 lists:∀ c∈l,∀ p∈c.pars,p.ren.length≤12/\p.und.length≤12/\p.red.length≤12/\p.sel.length≤12
section
variable {l:FS} {fl:Nm->Fl}
theorem Fits.hf (h:Fits l fl) {c:FC} (hc:c∈l∨c=BF):∀ p∈c.pars,(ae l p.name).forms.length=p.args.length/\p.und.length≤1099511627776:=λp hp=>by
 rcases hc with hc | rfl
 ·exact ⟨((gm<|h.right.form c hc).args p hp).symm,by have:=(h.lists c hc p hp).2.1; omega⟩
 ·cases hp
theorem Fits.sel (h:Fits l fl) {c:FC} (hc:c∈l∨c=BF):∀ p∈c.pars,p.sel.length≤1099511627776:=λp hp=>by
 rcases hc with hc | rfl
 ·have:=(h.lists c hc p hp).2.2.2; omega
 ·cases hp
theorem Fits.few (h:Fits l fl) {c:FC} (hc:c∈l∨c=BF):(comes fl l c).length≤240:=by
 rcases hc with hc | rfl
 ·exact xK h.right h.flb hc
 ·exact Nat.zero_le _
theorem Fits.name (h:Fits l fl) {c:FC} (hc:c∈l∨c=BF):∀ x∈comes fl l c,x.mem.name.length≤20:=λx hx=>by
 rcases hc with hc | rfl
 ·exact (zC h.flb.ok (gm<|h.right.form c hc) hx).name
 ·cases hx
theorem Bp (c:FC) (xs:List Cm):(picked c xs).length≤xs.length:=by
 have:(picked c xs).length≤(xs.map λx=>x.mem.name).length:=aT (ND _) λn hn=>by
  obtain ⟨x,hx,_,e⟩:=AP.1 hn
  exact List.mem_map.2 ⟨x,hx,e⟩
 simpa using this
theorem Fits.join (h:Fits l fl) {c:FC} (hc:c∈l∨c=BF) (s:Sd):(picked c (having (comes fl l c) s)).length≤240/\(jW (picked c (having (comes fl l c) s))).length≤140737488355328:=by
 have h1:=Bp c<|having (comes fl l c) s
 have h2:(having (comes fl l c) s).length≤(comes fl l c).length:=List.length_filter_le _ _
 have h3:=h.few hc
 have h4:=Dm (k:=20) (xs:=picked c<|having (comes fl l c) s) λn hn=>by
  obtain ⟨x,hx,_,e⟩:=AP.1 hn
  rw [<- e]
  exact h.name hc x (List.mem_filter.1 hx).1
 omega
theorem Oj {n:Nat} {c:FC} {ms:List Mb} {s:Sd}:∃ up,eP fl l n c ms s=F6 fl l c ms s up:=by
 cases n with
 | zero=>exact ⟨_,K9⟩
 | succ n=>exact ⟨_,CV⟩
theorem Ol {n:Nat} {c:FC} {ms:List Mb} {s:Sd} (h:(aZ ms s).length=1):eP fl l n c ms s=((aZ ms s).headD [],true):=by
 obtain ⟨up,e⟩:=Oj (l:=l) (fl:=fl) (n:=n) (c:=c) (ms:=ms) (s:=s)
 rw [e]; unfold F6; rw [if_pos h]
theorem G6 {n:Nat} {c:FC} {ms:List Mb} {s:Sd} (h:(aZ ms s).length≠1) (h2:picked c (having (comes fl l c) s)≠[]∨(bZ (having (comes fl l c) s)).length≠1):eP fl l n c ms s=(jW (picked c (having (comes fl l c) s)),(picked c (having (comes fl l c) s)).length == 1):=by
 obtain ⟨up,e⟩:=Oj (l:=l) (fl:=fl) (n:=n) (c:=c) (ms:=ms) (s:=s)
 rw [e]; unfold F6; rw [if_neg h,if_pos h2]
theorem sel_up {n:Nat} {c:FC} {ms:List Mb} {s:Sd} {i:Nat} (h:(aZ ms s).length≠1) (h2:picked c (having (comes fl l c) s)=[]) (h3:bZ (having (comes fl l c) s)=[i]):eP fl l (n+1) c ms s =
  if 1<(aZ (fl (dG c i).name).mems s).length then (bN (dG c i) (eP fl l n (ae l (dG c i).name) (fl (dG c i).name).mems s).1,(eP fl l n (ae l (dG c i).name) (fl (dG c i).name).mems s).2) else ([],false):=by
 rw [CV]
 unfold F6
 rw [if_neg h,if_neg (by rw [h2,h3]; simp),h3]
 rfl
theorem Dn (ms:List Mb) (s:Sd):(aZ ms s).length≤ms.length:=by
 unfold aZ
 rw [List.length_map]
 exact List.length_filter_le _ _
end
attribute [local irreducible] Go.Ck.Sub St Cd Xt Nx DrL LsW
section
variable {v v':Value}
theorem yO {mb : Nat} {m : List (Nm × Value)} {fl : Nm -> Fl} {l : FS} (hF : Fits l fl) : ∀ (n : Nat) (X : Res) (c : FC) (cn : Nm) (uc : List Value) (mv : Value) (ms : List Mb) (s : Sd), c = ae l cn -> rk (bn l) cn ≤ n -> Ls X v l -> Enc.rep X uc c -> FlR X m fl -> Ls X mv ms ->
  dE prog 98 #[.agg #[v,.map (some mb)],.agg uc.toArray,mv,.agg #[sv s.cls,sv s.name]] X [mps mb m] λu Y k'=>k'=[mps mb m]/\u = .tuple #[sv (eP fl l n c ms s).1,.bool (eP fl l n c ms s).2]:=by
 intro n
 induction n using Nat.strongRecOn with
 | ind n ih =>
 intro X c cn uc mv ms s hcn hrk hl hc hm hms
 have hcl:c∈l∨c=BF:=by rw [hcn]; exact GR
 have hnl:=Dn ms s
 have hml:maxLen=9223372036854775807:=rfl
 have huc:=Enc.len hc
 obtain ⟨hj1,hj2⟩:=hF.join hcl s
 unfold dE
 refine EC (n:=120) func98 Z Z (len Z) λhr w0 hw0=>?_
 refine cQ (aP Z Z λb4=>?_)
 refine aP Z Z λb5=>?_
 refine aP Z Z λb7=>?_
 refine sA Z<|sA Z<|sK [2,4,5,7,8,9] Z<|cQ<|sM Z<|sV (af Z il Z ah) ?_
 refine aH Z Z Fp Z (lI hms) ?_
 rintro u h' ⟨T,rfl,hu,rfl⟩
 simp only [lC,lN]
 unfold NR
 refine sA Z<|sK [4,5,7,8,9,10] Z<|cS<|cS (fZ (v:=u) (E:=9) (sz:=1) (rows:=(aZ ms s).map nC) slq λwa wc hwf hwl hwm=>?_)
 rw [List.length_map] at hwf hwl
 subst hwf
 refine cR<|sM Z<|sV (aF Z underlying40)<|sV (dP Z Z)<|sK [4,5,7,8,9,10,23] Z<|cC Z (λhd=>?_)<|λhd=>?_
 ·have h1:(aZ ms s).length=1:=by have:=beq_iff_eq.1 hd; omega
  rw [Ol h1]
  refine fJ (r:=VR (.slice wa (aZ ms s).length wc) 9 1<|(aZ ms s).map nC) slq λhok=>?_
  obtain ⟨ab,ao,rfl⟩:∃ ab ao,wa=some ⟨ab,ao,none⟩:=by
   obtain ⟨f0,hf0⟩:=hok
   rcases VR.form hf0 with ⟨h3,h4⟩ | ⟨b,o,cp,h3,-⟩
   ·have:=List.map_eq_nil_iff.1 h4
    rw [this] at h1; cases h1
   ·rw [List.length_map] at h3; cases h3; exact ⟨b,o,rfl⟩
  have hnx:((aZ ms s).map nC)[0]? = some [sv ((aZ ms s).headD [])]:=by
   match hq:aZ ms s,h1 with
   | [a],_=>rfl
  refine cQ<|sM Z<|sV (vI (k:=0) Z Z jm Z (by omega) Z)<|sV (vY Z ld9 (ha:=⟨_,_,slq,eQ hnx 0<|by simp⟩)) ?_
  refine sA Z<|sA Z<|sK [8,9] Z<|cT<|xR ?_
  exact jO (bs:=[]) Z Z ⟨X,_,Z,Ext.refl X,Z,Z⟩ sbq
 ·have hn1:(aZ ms s).length≠1:=λh=>by rw [h] at hd; exact absurd hd (by decide)
  refine cK<|xT<|cQ (au al40 λb11=>?_)
  refine sK [4,5,7,8,9,11] Z<|cQ (Ia (ltn Z) λbm=>?_)
  refine au al250 λb12=>?_
  refine bf Z Z sz250 ?_
  refine sK [4,5,7,8,9,11,12] Z<|cS<|cQ<|sV (af Z gU Z ah) ?_
  refine sV (af Z gG huc ah) ?_
  refine aH Z Z en171 Z (Dj (v:=v) (mb:=mb) (uc:=uc)) ?_
  rintro u h' ⟨c1,c2,rfl,rfl⟩
  simp only [lC,lN]
  refine sK [4,5,7,8,9,11,12,30] Z<|cB<|dK (cO 9 1) (iY Z en237 λyl db rec hst hpe hps hasg hbo hkn2=>?_)
  refine ⟨_,Ct.perm (Gz (σ := Value×List Nm×List Nat) (mb:=mb) (b1:=c1) (b2:=c2) (yl:=yl) (λq=>pt yl (.loop rec)::pt db (.deferred<|some [])::pt b11 (cl [q.1] 40)::VR q.1 9 1 (q.2.1.map nC)::pt b12 (cl [.map (some bm)] 250)::mpr bm (qx q.2.2)::pt b4 (cl [v,.map (some mb)] 114)::pt b5 (cl uc 44)::pt b7 (cl [sv s.cls,sv s.name] 69)::VR (.slice wa (aZ ms s).length wc) 9 1 ((aZ ms s).map nC)::hr)
   (λk Y q=>q.1.oneCell'=true/\q.2.1=picked c (having ((comes fl l c).take k) s)/\q.2.2=bZ (having ((comes fl l c).take k) s)) (λ_ _ _=>False) (.slice none 0 0,[],[]) ⟨rfl,rfl,rfl⟩ hl hc hm (hF.hf hcl) ?_ (λ_ _ _ _ _ h=>h)) ?_,?_⟩
  ·rintro k Y ⟨w, ns, ps⟩ x us hx hE hrep ⟨hw, hns, hps2⟩
   simp only at hw hns hps2 ⊢
   have hone:=Enc.ones hrep
   have hus:=Enc.len hrep
   have hlt:=(List.getElem?_eq_some_iff.1 hx).1
   have htk:(comes fl l c).take (k+1)=(comes fl l c).take k++[x]:=by rw [bY hlt,(List.getElem?_eq_some_iff.1 hx).2]
   obtain ⟨p,hp,-,-,-⟩:=jc<|List.mem_of_getElem? hx
   have hpx:dG c x.par=p:=by unfold dG; rw [hp]; rfl
   have hpm:=List.mem_of_getElem? hp
   have hplt:=(List.getElem?_eq_some_iff.1 hp).1
   have hhs:=GY ((comes fl l c).take k) x s
   have hpk:=GZ c (having ((comes fl l c).take k) s) x
   have hfp:=BJ (having ((comes fl l c).take k) s) x
   have hnsl:=Bp c<|having ((comes fl l c).take k) s
   have hhl:(having ((comes fl l c).take k) s).length≤((comes fl l c).take k).length:=List.length_filter_le _ _
   have hfew:=hF.few hcl
   rw [List.length_take] at hhl
   rw [hpx] at hpk
   rw [<- hns] at hpk hnsl
   rw [<- hps2] at hfp
   obtain ⟨ca,cb,ce,cf,ci,rfl,hca,hcb,hce,hcf,hci⟩:=gp hc
   obtain ⟨pb,po,pcap,pus,e1,hpus,hprd,hpr⟩:=(hcb.up hE).at hp
   subst e1
   have hsl:=hF.sel hcl p hpm
   obtain ⟨pa,pr,pu,pd,pS,rfl,hpa,hpr,hpu,hpd,hpsel⟩:=hpr
   obtain ⟨x2,x5,xy,x11,x12,x13,rfl,hxm⟩:=gZ hrep
   obtain ⟨hx2,hx5,hxy,hx11,hx12,hx13⟩:=hxm
   obtain ⟨ax2,kx2,rfl,_⟩:=id hx2.form
   unfold oC at *
   refine Yc.perm (qF (n:=120) (rec:=rec) (args:=[.agg [sv x.og.par,sv x.og.name,.int .i64 x.par,sv x.mem.name,.int .i64 x.mem.kind,.slice ax2 x.mem.seeds.length kx2,sv x.mem.impl.cls,sv x.mem.impl.name,x5,.int .i64 x.mem.ty.kind,sv x.mem.ty.name,xy,.bool x.mem.ty.void,.bool x.mem.ty.sep,x11,x12,x13,.int .i64 x.was].toArray]) (hf:=pt db (.deferred<|some [])::pt b11 (cl [w] 40)::VR w 9 1 (ns.map nC)::pt b12 (cl [.map (some bm)] 250)::mpr bm (qx ps)::pt b4 (cl [v,.map (some mb)] 114)::pt b5 (cl [sv c.name,.bool c.dfd,ca,.slice (some ⟨pb,po,none⟩) c.pars.length pcap,ce,cf,ci] 44)::pt b7 (cl [sv s.cls,sv s.name] 69)::VR (.slice wa (aZ ms s).length wc) 9 1 ((aZ ms s).map nC)::Y::mps mb m::hr) (by rw [hps]; rfl) hkn2 (by rw [hps]; decide) ?_) (by exact (by repeat (first | exact Pm.refl | refine Pm.cons slq ?_):Pm _ _).perm)
   intro hr2 w1
   rw [hasg,hps,hbo]
   simp only [lC,lN]
   refine fJ (r:=VR w 9 1<|ns.map nC) slq λhokw=>?_
   refine cR (au qR λb13=>?_)
   refine ai Z Z mr Z hone ?_
   refine sN<|nK [5,7,8,9,11,12,13] Z<|ax<|lu Z slq (by first | rfl | assumption) ?_
   refine cB<|cS<|cQ<|sV (vF Z dS Z)<|sV (vF Z dX Z)<|sV (vY Z nO) ?_
   refine sV (af Z il Z ah) ?_
   refine aY Z Z en33 Z (rD hx2) ?_
   refine sV (bg Z)<|sK [5,8,9,11,12,13,37] Z<|cC Z (λhct=>?_)<|λhct=>?_
   ·have hct:x.mem.seeds.contains s=false:=Ze
    rw [hct] at hhs
    simp only [Bool.false_eq_true,if_false] at hhs
    refine aB<|xE<|xY<|dB slq (.inl ⟨Z,Y,(w,ns,ps),Ext.refl Y,⟨hw,by rw [htk,hhs]; exact hns,by rw [htk,hhs]; exact hps2⟩,Z⟩) ?_
    rw [dC hst hpe]
    exact sbq
   ·have hct:x.mem.seeds.contains s=true:=Ze
    rw [hct] at hhs
    simp only [if_true] at hhs
    rw [<- hhs,<- htk] at hpk hfp
    refine cK<|xT<|cQ<|sV (vY Z ld250) ?_
    refine sV (vF Z zm Z)<|sV (vY Z ld3) ?_
    refine DJ Z Z Z mp250 slq ?_
    rw [G5]
    refine sK [5,8,9,11,13] Z<|cS<|bB (ork [(0,2),(1,1),(2,2),(3,1),(4,2),(5,2),(6,1),(7,2),(8,2),(9,1),(10,1),(11,2),(12,1),(13,2),(14,2),(15,1),(16,1),(17,2),(18,2)] .nil) (λ_=>true) mixed Zz ?_
    refine dV Z (vF Z eY Z)<|bu Z (vY Z lZ) ?_
    refine dV Z (vF Z zm Z)<|bu Z (vY Z ld3) ?_
    have hsel1:=fw (EA hpsel) x.mem.name hsl
    have hsel2:=fw (iL hokw) x.mem.name<|by omega
    refine dV Z (vI (k:=x.par) Z Z oL Z hplt Z)<|dV Z (vF Z Aj Z)<|bu Z (vY Z fI (ha:=⟨_,_,slq,hprd 5<|by simp⟩)) ?_
    refine dV Z (vF Z dS Z)<|dV Z (vF Z eB Z)<|bu Z (vY Z ld9) ?_
    refine jG Z Z Z Ea Z (hsel1) ?_
    cases hq1:p.sel.contains x.mem.name
    ·rw [hq1,Bool.false_and] at hpk
     simp only [Bool.false_eq_true,if_false] at hpk
     refine dV Z (vM Z)<|lD Z Z Z Z ?_
     iterate 2 refine jB rfl rfl rfl rfl ?_
     iterate 2 refine lD rfl rfl rfl rfl ?_
     refine jB Z Z Z Z ?_
     refine dV Z (vP Z Z)<|bA<|nK [8,9,11,13,59] Z<|nT<|aG Z ?_
     refine cK<|xB<|dB slq (.inl ⟨Z,Y,(w,ns,if ps.contains x.par then ps else ps++[x.par]),Ext.refl Y,⟨hw,hpk.symm,hfp.symm⟩,Z⟩) ?_
     rw [dC hst hpe]
     exact sbq
    ·rw [hq1,Bool.true_and] at hpk
     refine dV Z (vM Z)<|lw Z Z Z (vY Z fI) ?_
     refine fG Z Z Z (vF Z dS Z)<|fG Z Z Z (vF Z eB Z)<|lw Z Z Z (vY Z ld9) ?_
     refine zf Z Z Z Z Z Ea Z (hsel2) ?_
     refine fG Z Z Z (bg Z)<|dV Z (vQ Z Z)<|bA<|nK [8,9,11,13,59] Z<|nT<|cC Z (λhap=>?_)<|λhap=>?_
     ·have hap:ns.contains x.mem.name=false:=by simpa using hap
      rw [hap] at hpk
      simp only [Bool.not_false,if_true] at hpk
      refine cR<|sV (vY Z fI) ?_
      refine sV (vF Z dS Z)<|sV (vF Z eB Z)<|sV (vY Z ld9) ?_
      refine ak (cells:=[sv x.mem.name]) Z underlying40 fH Z Z Zz (ltn Z) λb64=>?_
      refine dZ [[sv x.mem.name]] Z Z underlying40 fH Z (by decide) (show Sel _ (VR w 9 1<|ns.map nC) _ from slq) (by simp) Z (λj u2 hu2=>bT<|bV Zt) (by simp [sv,Value.oneCell']) (by rw [List.length_map]; omega) (by rw [List.length_map]; omega) (ltn Z) λw2 hw2 _=>?_
      rw [show ns.map nC++[[sv x.mem.name]]=(ns++[x.mem.name]).map nC by simp [nC]]
      refine bf Z Z yU ?_
      refine sN<|nK [8,9] Z<|ax<|xB<|dB slq (.inl ⟨Z,Y,(w2,ns++[x.mem.name],if ps.contains x.par then ps else ps++[x.par]),Ext.refl Y,⟨hw2,hpk.symm,hfp.symm⟩,Z⟩) ?_
      rw [dC hst hpe]
      exact sbq
     ·have hap:ns.contains x.mem.name=true:=by simpa using hap
      rw [hap] at hpk
      simp only [Bool.not_true,Bool.false_eq_true,if_false] at hpk
      refine cK<|xB<|dB slq (.inl ⟨Z,Y,(w,ns,if ps.contains x.par then ps else ps++[x.par]),Ext.refl Y,⟨hw,hpk.symm,hfp.symm⟩,Z⟩) ?_
      rw [dC hst hpe]
      exact sbq
  ·exact (by repeat (first | exact Pm.refl | refine Pm.cons slq ?_):Pm _ _).perm
  ·rintro u h' ⟨rfl, (⟨Y, ⟨w, ns, ps⟩, hE, ⟨hw, hns, hps2⟩, rfl⟩ | ⟨k, Y, t, _, hS, rfl⟩)⟩
   ·simp only at hw hns hps2
    rw [List.take_length] at hns hps2
    refine ⟨rec,_,slq,(by rw [hst]; simp),?_⟩
    rw [hpe]
    dsimp only
    refine xB<|xT<|cS<|cS (fZ (v:=w) (E:=9) (sz:=1) (rows:=ns.map nC) slq λpa pc hpf hpl hpm=>?_)
    rw [List.length_map] at hpf hpl
    subst hpf
    refine cR<|sV (vY Z fI) ?_
    refine sV (aF Z underlying40)<|sV (cu Z Z)<|sM Z ?_
    by_cases h0:ns=[]
    ·have hg0:decide ((0:Int)<(ns.length:Nat))=false:=by rw [h0]; rfl
     rw [hg0]
     refine sG Z Z (vY Z ld250) ?_
     refine sG Z Z (v_mlenI Z underlying250 slq) ?_
     refine sG Z Z (bP Z Z)<|sV (vP Z Z)<|sK [4,5,7,8,9,11,12,73] Z ?_
     by_cases h1:ps.length=1
     ·have hg1:((((qx ps).length:Nat):Int) != 1)=false:=by unfold qx; rw [List.length_map,h1]; rfl
      rw [hg1]
      obtain ⟨i,rfl⟩:=List.length_eq_one_iff.1 h1
      have hfr:bZ (having (comes fl l c) s)=[i]:=hps2.symm
      have hpk0:picked c (having (comes fl l c) s)=[]:=by rw [<- hns]; exact h0
      have hpm:dG c i∈c.pars:=ru (fl:=fl) (l:=l) (s:=s) (by rw [hfr]; simp)
      obtain ⟨n',rfl,hrk'⟩:∃ n',n=n'+1/\rk (bn l) (dG c i).name≤n':=by
       have h2:=iC hF.right.sys.acyc<|eT hF.right.sys (c:=cn) (p:=dG c i) (by rw [<- hcn]; exact hpm)
       exact ⟨n - 1,by omega,by omega⟩
      have hih:=λZq (hE:Ext X Zq) (cus:List Value) (mxv:Value) hrep hmx=>ih n' (Nat.lt_succ_self _) Zq (ae l (dG c i).name) (dG c i).name cus mxv (fl (dG c i).name).mems s rfl hrk' (hl.up hE) hrep (hm.up hE) hmx
      rw [sel_up hn1 hpk0 hfr]
      obtain ⟨hplt,hpi⟩:i<c.pars.length/\c.pars[i]? = some (dG c i):=by
       have hi:i∈bZ (having (comes fl l c) s):=by rw [hfr]; simp
       obtain ⟨x,hx,rfl⟩:=o8.1 hi
       obtain ⟨p,hp,-⟩:=jc (List.mem_filter.1 hx).1
       refine ⟨(List.getElem?_eq_some_iff.1 hp).1,?_⟩
       unfold dG; rw [hp]; rfl
      generalize eP fl l n' (ae l (dG c i).name) (fl (dG c i).name).mems s=r at hih ⊢
      generalize dG c i=p at hih hpi hpm ⊢
      obtain ⟨ca,cb,ce,cf,ci,rfl,hca,hcb,hce,hcf,hci⟩:=gp hc
      obtain ⟨cb,ck,rfl,_⟩:=id hcb.form
      clear huc
      refine aG Z ?_
      refine cK<|xT<|cS<|cQ<|sV (vY Z ld250) ?_
      refine N7 Z mp250 slq (ltn Z) λib hnd=>?_
      refine sK [4,5,7,8,9,80] Z<|cB<|aX (σ := List (Int×Value)×Option (Int×Value)×Res) (λq=>[(4,.pointer (some ⟨b4,0,none⟩)),(5,.pointer (some ⟨b5,0,none⟩)),(7,.pointer (some ⟨b7,0,none⟩)),(80,.pointer (some ⟨ib,0,none⟩))]) (λq=>mit bm ib (qx [i]) q.1 q.2.1::pt db (.deferred<|some [])::pt b4 (cl [v,.map (some mb)] 114)::pt b5 (cl [sv c.name,.bool c.dfd,ca,.slice cb c.pars.length ck,ce,cf,ci] 44)::pt b7 (cl [sv s.cls,sv s.name] 69)::q.2.2::mps mb m::hr) (λq=>Ext X q.2.2/\(q.1=qx [i]∨(q.1=[]/\¬ 1<(aZ (fl p.name).mems s).length))) (λq=>q.1.length) (qx [i],none,Y) ⟨hE,.inl Z⟩ ?_
      rintro ⟨left,last,Zq⟩ ⟨hE2,hleft⟩
      simp only at hE2 hleft
      dsimp only
      refine cQ<|st_next Z slq (ltn Z) (λhl0=>?_)<|λk v1 left' hp=>?_
      ·subst hl0
       have hno:¬ 1<(aZ (fl p.name).mems s).length:=hleft.elim (λe=>by cases e) λe=>e.2
       rw [if_neg hno]
       refine sV (ag Z Z)<|sK [4,5,7,80,82] Z<|cS<|aG Z ?_
       refine aB<|xE<|xE<|xY<|xT<|cQ<|sA Z<|sA Z<|sK [8,9] Z<|cT ?_
       exact jO (bs:=[db]) Z Z ⟨Zq,_,Z,hE2,Z,Z⟩ sbq
      ·refine sV (ag Z Z)<|sK [4,5,7,80,82] Z<|cS<|aQ Z ?_
       refine cK<|xT<|cB<|cQ<|sV (v_entry Z slq) ?_
       have hki:k=(i:Int)/\left'=[]:=by
        rcases hleft with e | ⟨e,_⟩
        ·rw [e] at hp
         have h3:=hp.length_eq
         have h4:(k,v1)∈qx [i]:=hp.mem_iff.2<|by simp
         simp only [qx,List.map_cons,List.map_nil,List.mem_singleton,Prod.mk.injEq] at h4
         simp only [qx,List.map_cons,List.map_nil,List.length_cons,List.length_nil] at h3
         exact ⟨h4.1,List.eq_nil_of_length_eq_zero<|by omega⟩
        ·rw [e] at hp
         have:=hp.length_eq
         simp at this
       obtain ⟨rfl,rfl⟩:=hki
       obtain ⟨pb,po,pcap,pus,e1,hpus,hprd,hpr⟩:=(hcb.up hE2).at hpi
       obtain ⟨rfl,rfl⟩:cb=some ⟨pb,po,none⟩/\ck=pcap:=by cases e1; exact ⟨rfl,rfl⟩
       have hpr0:=hpr
       obtain ⟨pa,pr,pu,pd,pS,rfl,hpa,hpR,hpu,hpd,hpsel⟩:=hpr
       obtain ⟨aA,kA,rfl,_⟩:=id hpa.form
       obtain ⟨aR,kR,rfl,_⟩:=id hpR.form
       obtain ⟨aU,kU,rfl,_⟩:=id hpu.form
       obtain ⟨aD,kD,rfl,_⟩:=id hpd.form
       obtain ⟨aS,kS,rfl,_⟩:=id hpsel.form
       obtain ⟨fus,hfl,hfr2⟩:=hm.up hE2 p.name
       obtain ⟨mx,my,rfl,hmx,hmy⟩:=hfr2
       obtain ⟨mA,mK,rfl,_⟩:=id hmx.form
       refine sV (ag Z Z)<|sA Z<|sK [4,5,7,14,80] Z<|cQ<|sV (vF Z eY Z)<|sV (vY Z lZ) ?_
       refine sM Z<|sV (vI (k:=i) Z Z oL Z hplt Z)<|sV (af Z qp Z hprd) ?_
       refine au vD λb15=>?_
       refine ai Z Z r9 Z Z ?_
       refine sK [4,5,7,15,80] Z<|cQ<|sV (vF Z iJ Z)<|sV (vY Z p9) ?_
       refine sV (vF Z gH Z)<|sV (vY Z ld9) ?_
       refine sV (gq hfl<|bI Z Z pY p8 slq) ?_
       refine sV (iI (k:=2) Z underlying55 Z isAgg52 Z)<|sV (af Z il Z ah) ?_
       refine aH Z Z Fp Z (lI (s:=s) hmx) ?_
       rintro u h' ⟨T,rfl,hu2,rfl⟩
       simp only [lC,lN]
       unfold NR
       refine jr (v:=u) (E:=9) (sz:=1) (rows:=(aZ (fl p.name).mems s).map nC) slq λqa qc hqf hql hqm=>?_
       rw [List.length_map] at hqf hql
       subst hqf
       refine sV (aF Z underlying40)<|sV (cu Z Z)<|sK [4,5,7,15,80,99] Z<|cC Z (λhmore=>?_)<|λhmore=>?_
       ·have hmore:1<(aZ (fl p.name).mems s).length:=by
         have:=of_decide_eq_true hmore
         omega
        rw [if_pos hmore]
        have hcc:=lS (n:=p.name) (fv:=.map<|some mb) (hl.up hE2) rfl
        refine cS<|bB (ork [(0,1),(1,1),(2,2),(3,1),(5,2),(6,1),(7,2),(8,1),(9,1),(10,1),(11,1),(4,0),(12,0),(13,2),(14,2),(15,2),(16,2),(17,2)] .nil) (λi => !(Nat.beq i 12)) mixed Zz ?_
        refine bu Z (af Z gU Z ah) ?_
        refine bu Z (af Z gU Z ah) ?_
        refine dV Z (vF Z gH Z)<|bu Z (vY Z ld9) ?_
        refine dV Z (vF Z iJ Z)<|bu Z (vY Z p9) ?_
        refine dV Z (vF Z gH Z)<|bu Z (vY Z ld9) ?_
        refine bu Z (gq hfl<|bI Z Z pY p8 slq) ?_
        refine bu Z (iI (k:=2) Z underlying55 Z isAgg52 Z)<|bu Z (af Z il Z ah) ?_
        refine aV Z<|aH Z Z en56 Z (hcc) ?_
        rintro u h' ⟨rfl,cus,rfl,hcr⟩
        simp only [lC,lN]
        refine aW ?_
        refine aV Z<|bM hw0 Z Z en98 Z (hih Zq hE2 cus _ hcr hmx) ?_
        rintro u h' ⟨Z2,k2,rfl,hE3,rfl,rfl⟩
        simp only [lC,lN]
        refine aW ?_
        refine dV Z (vM Z)<|dV Z (ag Z Z)<|dV Z (ag Z Z)<|dV Z (vA Z)<|dV Z (vA Z)<|bA<|nK [4,5,7,15,16,17,80] Z<|nT<|cQ<|sV (af Z qp Z ah) ?_
        refine sM Z<|aH Z Z en173 Z (ul (n:=r.1)<|Enc.up hE3.rd hpr0) ?_
        rintro u h' ⟨rfl,rfl⟩
        simp only [lC,lN]
        refine sM Z<|sA Z<|sA Z<|sK [8,9] Z<|cT<|xW<|xR<|xW<|xR ?_
        exact jO (bs:=[db]) Z Z ⟨Z2,_,Z,hE2.trans hE3,Z,Z⟩ sbq
       ·have hmore:¬ 1<(aZ (fl p.name).mems s).length:=by
         have:=of_decide_eq_false hmore
         omega
        refine cK<|xB ?_
        refine aJ ([],some ((i:Int),v1),Zq) ⟨hE2,.inr ⟨rfl,hmore⟩⟩ (by rcases hleft with e | ⟨e,_⟩ <;> rw [e] at hp <;> simp [qx] at hp ⊢ <;> simp [e,qx])
     ·have hg1:((((qx ps).length:Nat):Int) != 1)=true:=by
       unfold qx
       rw [List.length_map]
       simp only [bne_iff_ne,ne_eq]; omega
      rw [hg1]
      refine aQ Z ?_
      refine cS<|bB (ork [(0,1),(2,1),(3,2),(4,2),(1,0),(5,2),(6,2)] .nil) (λ_=>true) mixed Zz ?_
      refine bu Z (vY Z fI) ?_
      refine bu Z (vY Z fI) ?_
      refine dV Z (aF Z underlying40)<|dV Z (dP Z Z) ?_
      rw [G6 hn1 (.inr (by rw [<- hps2]; exact h1)),<- hns]
      refine aV Z<|bM hw0 Z Z en172 Z (Kz (xs:=ns) (by rw [hns]; omega) (by rw [hns]; exact hj2)) ?_
      rintro u h' ⟨rfl,rfl⟩
      simp only [lC,lN]
      refine aW ?_
      refine dV Z (vA Z)<|dV Z (vA Z)<|bA<|nK [8,9] Z<|nT<|cT<|xR ?_
      rw [show (((ns.length:Nat):Int) == 1)=(ns.length == 1) by rw [Bool.eq_iff_iff]; simp; omega]
      exact jO (bs:=[db]) Z Z ⟨Y,_,Z,hE,Z,Z⟩ sbq
    ·have hg0:decide ((0:Int)<(ns.length:Nat))=true:=by
      have:=List.length_pos_iff.2 h0
      simp; omega
     rw [hg0]
     iterate 3 refine aC rfl rfl rfl ?_
     refine sV (vQ Z Z)<|sK [4,5,7,8,9,11,12,73] Z<|aQ Z ?_
     refine cS<|bB (ork [(0,1),(2,1),(3,2),(4,2),(1,0),(5,2),(6,2)] .nil) (λ_=>true) mixed Zz ?_
     refine bu Z (vY Z fI) ?_
     refine bu Z (vY Z fI) ?_
     refine dV Z (aF Z underlying40)<|dV Z (dP Z Z) ?_
     rw [G6 hn1 (.inl (by rw [<- hns]; exact h0)),<- hns]
     refine aV Z<|bM hw0 Z Z en172 Z (Kz (xs:=ns) (by rw [hns]; omega) (by rw [hns]; exact hj2)) ?_
     rintro u h' ⟨rfl,rfl⟩
     simp only [lC,lN]
     refine aW ?_
     refine dV Z (vA Z)<|dV Z (vA Z)<|bA<|nK [8,9] Z<|nT<|cT<|xR ?_
     rw [show (((ns.length:Nat):Int) == 1)=(ns.length == 1) by rw [Bool.eq_iff_iff]; simp; omega]
     exact jO (bs:=[db]) Z Z ⟨Y,_,Z,hE,Z,Z⟩ sbq
   ·exact hS.elim
end
def G7:Go.Shelf.Ren:={
 f:=λ| 17=>225 | 15=>270 | 20=>297 | n=>n
 t:=λ| 9=>9 | 23=>290 | 4=>4 | 3=>3 | 0=>0 | 21=>21 | n=>n
 g:=λn=>n }
theorem lays17g:Go.Proofs.LaysGw.n17 prog G7:={
 mixed:=rfl
 f15:=func270.trans<|congrArg some Zz
 f17:=func225.trans<|congrArg some Zz
 f20:=func297.trans<|congrArg some Zz
 t0:=underlying0
 a0:=isAgg0
 z0:=sizeOf0
 v0:=zeroValue0
 i0:=Zz
 t3:=underlying3
 a3:=isAgg3
 z3:=sizeOf3
 v3:=zeroValue3
 i3:=Zz
 t4:=underlying4
 a4:=isAgg4
 z4:=sizeOf4
 v4:=zeroValue4
 i4:=Zz
 t9:=underlying9
 a9:=isAgg9
 z9:=sizeOf9
 v9:=zeroValue9
 i9:=Zz
 t21:=underlying21
 a21:=isAgg21
 z21:=sizeOf21
 v21:=zeroValue21
 i21:=Zz
 t23:=underlying290
 a23:=isAgg290
 z23:=sizeOf290
 v23:=zeroValue290
 i23:=by kernel_rfl }
def G8:Go.Shelf.Ren:={
 f:=λ| 157=>231 | 229=>273 | 199=>274 | 261=>298 | 311=>314 | 312=>315 | n=>n
 t:=λ| 9=>9 | 31=>40 | 3=>3 | 5=>5 | 4=>4 | 119=>335 | 0=>0 | 40=>290 | 152=>355 | 21=>21 | 154=>357 | 51=>322 | 141=>359 | 196=>376 | 193=>373 | 198=>379 | 49=>377 | 194=>374 | 201=>382 | 226=>387 | 46=>275 | 227=>388 | n=>n
 g:=λ| 0=>0 | 6=>1 | n=>n }
theorem lays157:Go.Proofs.Lays.n157 prog G8:={
 mixed:=rfl
 f157:=func231.trans<|congrArg some Zz
 f199:=func274.trans<|congrArg some Zz
 f229:=func273.trans<|congrArg some Zz
 f261:=func298.trans<|congrArg some Zz
 f311:=func314.trans<|congrArg some Zz
 f312:=func315.trans<|congrArg some Zz
 t0:=underlying0
 a0:=isAgg0
 z0:=sizeOf0
 v0:=zeroValue0
 t3:=underlying3
 a3:=isAgg3
 z3:=sizeOf3
 v3:=zeroValue3
 t4:=underlying4
 a4:=isAgg4
 z4:=sizeOf4
 v4:=zeroValue4
 t5:=underlying5
 a5:=isAgg5
 z5:=sizeOf5
 v5:=zeroValue5
 t9:=underlying9
 a9:=isAgg9
 z9:=sizeOf9
 v9:=zeroValue9
 t21:=underlying21
 a21:=isAgg21
 z21:=sizeOf21
 v21:=zeroValue21
 t31:=underlying40
 a31:=isAgg40
 z31:=sizeOf40
 v31:=zeroValue40
 t40:=underlying290
 a40:=isAgg290
 z40:=sizeOf290
 v40:=zeroValue290
 t46:=underlying275
 a46:=isAgg275
 z46:=sizeOf275
 v46:=zeroValue275
 t49:=underlying377
 a49:=isAgg377
 z49:=sizeOf377
 v49:=zeroValue377
 t51:=underlying322
 a51:=isAgg322
 z51:=sizeOf322
 v51:=zeroValue322
 t119:=underlying335
 a119:=isAgg335
 z119:=sizeOf335
 t141:=underlying359
 a141:=isAgg359
 z141:=sizeOf359
 v141:=zeroValue359
 t152:=underlying355
 a152:=isAgg355
 z152:=sizeOf355
 v152:=zeroValue355
 t154:=underlying357
 a154:=isAgg357
 z154:=sizeOf357
 v154:=zeroValue357
 t193:=underlying373
 a193:=isAgg373
 z193:=sizeOf373
 v193:=zeroValue373
 t194:=underlying374
 a194:=isAgg374
 z194:=sizeOf374
 v194:=zeroValue374
 t196:=underlying376
 a196:=isAgg376
 z196:=sizeOf376
 v196:=zeroValue376
 t198:=underlying379
 a198:=isAgg379
 z198:=sizeOf379
 v198:=zeroValue379
 t201:=underlying382
 a201:=isAgg382
 z201:=sizeOf382
 v201:=zeroValue382
 t226:=underlying387
 a226:=isAgg387
 z226:=sizeOf387
 v226:=zeroValue387
 t227:=underlying388
 a227:=isAgg388
 z227:=sizeOf388
 v227:=zeroValue388
 g0:=Zz
 g6:=by kernel_rfl }
def okR (x:Nat):Bool:=(decide (97≤x) && decide (x≤122) || (decide (48≤x) && decide (x≤57))) || x == 95
theorem ED {x:Nat} (h:128≤x):okR x=false:=by
 unfold okR
 rw [decide_eq_false (show ¬ x≤122 by omega),decide_eq_false (show ¬ x≤57 by omega),Bool.and_false,Bool.and_false]
 simp; omega
theorem okS_ge {b:UInt8} (h:128≤b.toNat):okS b=false:=ED h
theorem Om (s:ByteArray) (i:Nat):okR (Utf8.decode s i).1=okS (s.get! i)/\(okS (s.get! i)=true->(Utf8.decode s i).2=1):=by
 unfold Utf8.decode
 simp only [Nat.add_zero]
 by_cases h:(s.get! i).toNat<128
 ·rw [if_pos h]; exact ⟨rfl,λ_=>rfl⟩
 ·rw [if_neg h, okS_ge (by omega)]
  refine ⟨?_,λh=>by cases h⟩
  have he:okR Utf8.runeError=false:=by decide
  split
  ·split
   ·rename_i h2; exact ED h2
   ·exact he
  ·split
   ·split
    ·rename_i h2; rw [Bool.and_eq_true,decide_eq_true_eq] at h2; exact ED (by omega)
    ·exact he
   ·split
    ·split
     ·rename_i h2; rw [Bool.and_eq_true,decide_eq_true_eq] at h2; exact ED (by omega)
     ·exact he
    ·exact he
theorem Oo (s : ByteArray) : ∀ (f pos : Nat), s.size ≤ pos + f -> (0 ≤ Lib.idxFuncFrom (λx => !okR x) true s f pos ↔ ∃ j, pos ≤ j /\ j < s.size /\ okS (s.get! j) = false)
 | 0,pos,h=>by
  show 0≤(-1:Int)↔_
  exact ⟨λh=>by omega,λ⟨j,h1,h2,_⟩=>by omega⟩
 | f + 1, pos, h => by
  unfold Lib.idxFuncFrom
  by_cases hp:pos<s.size
  ·rw [if_pos hp, (Om s pos).1]
   cases hk:okS (s.get! pos) with
   | true =>
    rw [if_neg (by simp),(Om s pos).2 hk,Oo s f (pos+1) (by omega)]
    refine ⟨λ⟨j,h1,h2⟩=>⟨j,by omega,h2⟩,λ⟨j,h1,h2,h3⟩=>⟨j,?_,h2,h3⟩⟩
    rcases Nat.lt_or_ge pos j with h4 | h4
    ·exact h4
    ·have:j=pos:=by omega
     subst this
     rw [hk] at h3; cases h3
   | false=>rw [if_pos (by simp)]; exact ⟨λ_=>⟨pos,Nat.le_refl _,hp,hk⟩,λ_=>by omega⟩
  ·rw [if_neg hp]
   exact ⟨λh=>by omega,λ⟨j,h1,h2,_⟩=>by omega⟩
theorem has_bad (n:Nm):decide (0≤Lib.idxFunc (λx => !okR x) true ⟨⟨n⟩⟩) = !n.all okS:=by
 have hsz:(⟨⟨n⟩⟩:ByteArray).size=n.length:=rfl
 have hg:∀ j (hj:j<n.length),(⟨⟨n⟩⟩:ByteArray).get! j=n[j]:=λj hj=>by
  show (Array.mk n)[j]! = _
  rw [getElem!_pos (Array.mk n) j Zg]; rfl
 unfold Lib.idxFunc
 rw [Bool.eq_iff_iff,decide_eq_true_eq,Oo _ _ _ (by omega),Bool.not_eq_true',List.all_eq_false]
 constructor
 ·rintro ⟨j,_,h2,h3⟩
  rw [hsz] at h2
  exact ⟨n[j],List.getElem_mem h2,by rw [<- hg j h2,h3]; simp⟩
 ·rintro ⟨x,hx,h3⟩
  obtain ⟨j,hj,rfl⟩:=List.getElem_of_mem hx
  exact ⟨j,Nat.zero_le _,hj,by rw [hg j hj]; simpa using h3⟩
theorem Dp : ∀ (s w : Nm), (∀ b ∈ s, Lib.isSp b = (b == 32)) -> ry s w = Lib.fieldsGo w s
 | [],w,_=>by cases w <;> rfl
 | b::t,w,h=>by
  have hb:=h b<|by simp
  have ht:=λw=>Dp t w λb hb=>h b<|by simp [hb]
  show (if b=32 then (if w=[] then ry t [] else w::ry t []) else ry t (w++[b]))=_
  unfold Lib.fieldsGo
  rw [hb,ht,ht]
  by_cases h32:b=32
  ·subst h32
   cases w <;> rfl
  ·rw [if_neg h32,if_neg (by simpa using h32)]
theorem kw_sp:∀ b∈pE,Lib.isSp b=(b == 32)/\b.toNat<128:=by
 have h:(pE.all λb=>(Lib.isSp b == (b == 32)) && decide (b.toNat<128))=true:=by decide +kernel
 intro b hb
 have:=List.all_eq_true.1 h b hb
 rw [Bool.and_eq_true,beq_iff_eq,decide_eq_true_eq] at this
 exact this
theorem kws_eq:Lib.fields pE=kws:=(Dp pE [] λb hb=>(kw_sp b hb).1).symm
def Spc (X:Res):Prop:=∀ c:Nat,c<256->Rd X ⟨0,c,none⟩ (.int .u8 (if Lib.isSp (UInt8.ofNat c) then 1 else 0))
theorem Spc.up {X Y:Res} (h:Spc X) (hE:Ext X Y):Spc Y:=λc hc=>hE.rd _ _<|h c hc
section
variable {X:Res}
theorem I8 (x:Nat):Reads prog 230 #[.int .i32 x] [] (.bool (!okR x)):=by
 have hok:okR x=(((decide (97≤(x:Int)) && decide ((x:Int)≤122)) || (decide (48≤(x:Int)) && decide ((x:Int)≤57))) || decide ((x:Int)=95)):=by
  unfold okR
  rw [Bool.eq_iff_iff]; simp; omega
 rw [hok]
 refine aL (n:=22) func230 Z Z (len Z) λhr w0=>?_
 refine cQ<|sA Z<|sN<|nT<|cQ<|sM Z<|sV (nE Z Z)<|sM Z<|bC (k:=6) (d:=8) (v:=.bool (decide (97≤(x:Int)) && decide ((x:Int)≤122))) (λhcut=>aM (b:=(decide (97≤(x:Int)))) true (λhg=>?_)<|λhg=>?_) ?_
 ·refine aC Z Z hg ?_
  refine aC Z Z hg ?_
  refine sV (vP (bO Z hg) Z) ?_
  exact hcut _ uG
 ·refine sG Z (bG Z hg) (vM Z)<|sG Z (bG Z hg) (Cc Z Z)<|sV (vQ (bO Z hg) Z) ?_
  exact hcut _ uG
 refine sM Z<|bC (k:=14) (d:=16) (v:=.bool ((decide (97≤(x:Int)) && decide ((x:Int)≤122)) || (decide (48≤(x:Int)) && decide ((x:Int)≤57)))) (λhcut=>aM (b:=(decide (97≤(x:Int)) && decide ((x:Int)≤122))) false (λhg=>?_)<|λhg=>?_) ?_
 ·refine aC Z Z hg ?_
  iterate 2 refine aC rfl rfl hg ?_
  refine bS Z Z ?_
  refine bS Z Z ?_
  refine aC Z Z hg ?_
  refine sV (vQ (bO Z hg) Z) ?_
  exact hcut _ uG
 ·refine sG Z (bG Z hg) (vM Z)<|sG Z (bG Z hg) (nE Z Z)<|sG Z (bG Z hg) (vM Z)<|bC (k:=13) (d:=15) (v:=.bool (decide (48≤(x:Int)) && decide ((x:Int)≤57))) (λhcut=>aM (b:=(decide (48≤(x:Int)))) true (λhg1=>?_)<|λhg1=>?_) ?_
  ·refine aC Z Z hg1 ?_
   refine aC Z Z hg1 ?_
   refine sG Z (bG Z hg) (vP (bO Z hg1) Z) ?_
   exact hcut _<|uH (by first | rfl | (rw [hg1]; rfl) | simp_all)<|uS Z<|uS Z<|uR
  ·refine sG Z (bG Z hg1) (vM Z)<|sG Z (bG Z hg1) (Cc Z Z)<|sG Z (bG Z hg) (vQ (bO Z hg1) Z) ?_
   exact hcut _<|uH (by first | rfl | (rw [hg1]; rfl) | simp_all)<|uS Z<|uS Z<|uR
  refine sV (vP (bO Z hg) Z) ?_
  exact hcut _<|uH (by first | rfl | (rw [hg]; rfl) | simp_all) (by repeat (first | exact uR | refine uS Z ?_))
 refine sM Z<|bC (k:=18) (d:=20) (v:=.bool (((decide (97≤(x:Int)) && decide ((x:Int)≤122)) || (decide (48≤(x:Int)) && decide ((x:Int)≤57))) || decide ((x:Int)=95))) (λhcut=>aM (b:=((decide (97≤(x:Int)) && decide ((x:Int)≤122)) || (decide (48≤(x:Int)) && decide ((x:Int)≤57)))) false (λhg=>?_)<|λhg=>?_) ?_
 ·refine aC Z Z hg ?_
  refine aC Z Z hg ?_
  refine sV (vQ (bO Z hg) Z) ?_
  exact hcut _ uG
 ·refine sG Z (bG Z hg) (vM Z)<|sG Z (bG Z hg) (dP Z Z)<|sV (vP (bO Z hg) Z) ?_
  exact hcut _ uG
 refine sV (bg Z)<|sA Z<|sK [2] Z<|cT ?_
 exact aj Z ⟨Z,Z⟩ sbq
theorem Oq {P:Program} {g:FuncId} {args:Array Value} {v:Value} (h:Reads P g args [] v) (w:World):Calls P g args w λe w'=>e = .returned v/\Below w.heap.size w w':=by
 refine (h [old w] w<|wY w).mono ?_
 rintro e w' ⟨u,h',rfl,⟨rfl,rfl⟩,hh,hs⟩
 exact ⟨Z,hs.os,hs.tape,hs.output,hs.size,λk hk=>hh.1 k hk⟩
theorem G9 (n:Nm):Ctw prog 225 #[sv n,.func (.func 230) #[] #[]] [] λu h'=>u = .bool (!n.all okS)/\h'=[]:=by
 intro hr w hh
 have hc:=Any.strings_ContainsFunc_grows lays17g 230 #[] (enters_of func230 Zz rfl) (λx => !okR x) ⟨⟨n⟩⟩ w λW x _ _=>Oq (I8 x) W
 rw [has_bad] at hc
 exact Calls.mono hc λe w' ⟨h1,h2⟩=>⟨_,[],h1,⟨Z,Z⟩,yN h2 hh,Bo h2⟩
theorem LK (hX:Spc X):Ctw prog 231 #[sv pE] [X] λu h'=>h'=[X,NR u kws]/\xu (NR u kws) u kws:=by
 intro hr w hh
 have hml:maxLen=9223372036854775807:=rfl
 have hkl:kws.length<100:=by decide +kernel
 have hc:=Any.strings_Fields_core lays157 Zz ⟨⟨pE⟩⟩ w (by decide +kernel) (λj b hj=>(kw_sp b<|List.mem_of_getElem? hj).2) λc hc=>hX c hc w hh.1
 rw [show (⟨⟨pE⟩⟩:ByteArray).data.toList=pE from rfl,kws_eq] at hc
 refine Calls.mono hc λe w' ⟨h1,h2⟩=>⟨.slice (some ⟨w.heap.size,0,none⟩) kws.length kws.length,[X,NR (.slice (some ⟨w.heap.size,0,none⟩) kws.length kws.length) kws],h1,?_⟩
 have h9:Holds w' (NR (.slice (some ⟨w.heap.size,0,none⟩) kws.length kws.length) kws::([X]++hr)):=by
  subst h2
  have h3:=Holds.alloc hh<|cl (kws.map sv) 9
  exact vw_of (E:=9) (sz:=1) (n:=kws.length) (kws.map nC) (mG _).symm (λr hr=>by obtain ⟨_,_,rfl⟩:=List.mem_map.1 hr; rfl) (by simp) (by omega) _ h3
 refine ⟨⟨Z,iL ⟨_,h9.1⟩⟩,h9.perm (List.Perm.swap _ _ _),?_⟩
 subst h2
 exact (vV w).trans (Grew.alloc _ _ Z).toSame
def smV (n:Nm):Bool:=(((n == [] || decide ((20:Int)<(n.length:Nat))) || decide (((n.headD 0).toNat:Int)<97)) || decide ((122:Int)<(n.headD 0).toNat)) || !n.all okS
theorem smV_eq (n:Nm):small n=(!smV n && !kws.contains n):=by
 cases n with
 | nil=>rfl
 | cons b t =>
  show (decide ((b::t).length≤20) && lower b && (b::t).all okS && !kws.contains (b::t))=_
  congr 1
  unfold smV lower
  rw [show ((b::t:Nm) == [])=false from rfl,List.headD_cons]
  generalize (b::t).all okS=A
  generalize (b::t).length=L
  generalize b.toNat=c
  have e1:decide ((20:Int)<(L:Nat)) = !decide (L≤20):=by rw [<- decide_not]; exact decide_eq_decide.2 (by omega)
  have e2:decide ((c:Int)<97) = !decide (97≤c):=by rw [<- decide_not]; exact decide_eq_decide.2 (by omega)
  have e3:decide ((122:Int)<(c:Nat)) = !decide (c≤122):=by rw [<- decide_not]; exact decide_eq_decide.2 (by omega)
  rw [e1,e2,e3]
  cases decide (L≤20) <;> cases decide (97≤c) <;> cases decide (c≤122) <;> cases A <;> rfl
theorem at0 {n:Nm} (h:(n == [])=false):n[0]? = some (n.headD 0):=by
 cases n with
 | nil=>cases h
 | cons b t=>rfl
theorem Ha (hX:Spc X) (n:Nm):Ctw prog 147 #[sv n] [X] λu h'=>u = .bool (small n)/\h'=[X]:=by
 have hkl:kws.length≤1099511627776:=by
  have:kws.length<100:=by decide +kernel
  omega
 have hfl:=LK hX
 rw [smV_eq]
 unfold smV
 refine eG (n:=28) func147 Z Z (len Z) λhr w0 hw0=>?_
 refine cQ<|sA Z<|sN<|nT<|cS<|cQ<|sM Z<|sV (iE Z Z)<|sM Z<|bC (k:=7) (d:=9) (v:=.bool (n == [] || decide ((20:Int)<(n.length:Nat)))) (λhcut=>aM (b:=(n == [])) false (λhg=>?_)<|λhg=>?_) ?_
 ·refine aC Z Z hg ?_
  iterate 2 refine aC rfl rfl hg ?_
  refine sV (vQ (bO Z hg) Z) ?_
  exact hcut _ uG
 ·refine sG Z (bG Z hg) (vM Z)<|sG Z (bG Z hg) (DT Z underlying9)<|sG Z (bG Z hg) (cu Z Z)<|sV (vP (bO Z hg) Z) ?_
  exact hcut _ uG
 refine sM Z<|bC (k:=12) (d:=14) (v:=.bool ((n == [] || decide ((20:Int)<(n.length:Nat))) || decide (((n.headD 0).toNat:Int)<97))) (λhcut=>aM (b:=(n == [] || decide ((20:Int)<(n.length:Nat)))) false (λhg=>?_)<|λhg=>?_) ?_
 ·refine aC Z Z hg ?_
  iterate 2 refine aC rfl rfl hg ?_
  refine sV (vQ (bO Z hg) Z) ?_
  exact hcut _ uG
 ·refine sG Z (bG Z hg) (vM Z)<|sG Z (bG Z hg) (uZ (k:=0) Z Z underlying9 Z (at0 (Bool.or_eq_false_iff.1 hg).1))<|sG Z (bG Z hg) (aN Z Z)<|sV (vP (bO Z hg) Z) ?_
  exact hcut _ uG
 refine sM Z<|bC (k:=17) (d:=19) (v:=.bool (((n == [] || decide ((20:Int)<(n.length:Nat))) || decide (((n.headD 0).toNat:Int)<97)) || decide ((122:Int)<(n.headD 0).toNat))) (λhcut=>aM (b:=((n == [] || decide ((20:Int)<(n.length:Nat))) || decide (((n.headD 0).toNat:Int)<97))) false (λhg=>?_)<|λhg=>?_) ?_
 ·refine aC Z Z hg ?_
  iterate 2 refine aC rfl rfl hg ?_
  refine sV (vQ (bO Z hg) Z) ?_
  exact hcut _ uG
 ·refine sG Z (bG Z hg) (vM Z)<|sG Z (bG Z hg) (uZ (k:=0) Z Z underlying9 Z (at0 (Bool.or_eq_false_iff.1 (Bool.or_eq_false_iff.1 hg).1).1))<|sG Z (bG Z hg) (cu Z Z)<|sV (vP (bO Z hg) Z) ?_
  exact hcut _ uG
 refine sM Z<|bC (k:=21) (d:=23) (v:=.bool ((((n == [] || decide ((20:Int)<(n.length:Nat))) || decide (((n.headD 0).toNat:Int)<97)) || decide ((122:Int)<(n.headD 0).toNat)) || !n.all okS)) (λhcut=>aM (b:=(((n == [] || decide ((20:Int)<(n.length:Nat))) || decide (((n.headD 0).toNat:Int)<97)) || decide ((122:Int)<(n.headD 0).toNat))) false (λhg=>?_)<|λhg=>?_) ?_
 ·refine aC Z Z hg ?_
  refine aC Z Z hg ?_
  refine sV (vQ (bO Z hg) Z) ?_
  exact hcut _ uG
 ·refine sG Z (bG Z hg) (vM Z)<|ku Z (bG Z hg)<|bM hw0 Z Z en225 Z (G9 n) ?_
  rintro u h' ⟨rfl,rfl⟩
  simp only [List.nil_append]
  refine sV (vP (bO Z hg) Z) ?_
  exact hcut _ uG
 refine sK [0,2,23] Z ?_
 generalize ((((n == [] || decide ((20:Int)<(n.length:Nat))) || decide (((n.headD 0).toNat:Int)<97)) || decide ((122:Int)<(n.headD 0).toNat)) || !n.all okS)=bad
 refine cC Z (λhb=>?_)<|λhb=>?_
 ·have hb:bad=true:=hb
  subst hb
  refine cQ<|sA Z<|sK [2] Z<|cT<|xR ?_
  exact aj Z ⟨Z,Z⟩ sbq
 ·have hb:bad=false:=hb
  subst hb
  refine cK<|xT<|cQ<|bM hw0 Z Z en231 Z (hfl) ?_
  rintro u h' ⟨rfl,hnm⟩
  simp only [lC,lN]
  refine sM Z<|aY Z Z Ea Z (fw hnm n hkl) ?_
  refine sV (bg Z)<|sA Z<|sK [2] Z<|cT ?_
  exact aj Z ⟨Z,Z⟩ sbq
end
end Go.Fl
