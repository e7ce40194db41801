/-
  Ranges over maps that are not written: what is left,what comes out; keys are numbers,or texts. Generic: nothing of the program is named here. No condition.
-/
import Derived.Test.YtknmacdbffgjgaaGreatDoorM17
import Derived.Test.YtknmacdbffgjgaaGreatDoorM14
import Derived.Test.YtknmacdbffgjgaaGreatDoorM4
import Derived.Laws.IdiomRangeMap
set_option linter.unusedVariables false
set_option linter.unusedSimpArgs false
set_option maxRecDepth 100000
set_option maxHeartbeats 16000000
namespace Go.Fl
open Go Go.RowKit Go.Ck Go.Proofs Go.Proofs.Tryz Go.Proofs.YtknmacdbffgjgaaGreatDoor Fx Go.Hr
theorem GK {s t:Cla}:decide (s=t)=(decide (s.ex=t.ex) && s.tag == t.tag):=by
 obtain ⟨a,b⟩:=s
 obtain ⟨c,d⟩:=t
 rw [Bool.eq_iff_iff]
 simp [and_comm]
theorem I1 {s t:Vr}:decide (s=t)=(decide (s.ty=t.ty) && s.name == t.name):=by
 obtain ⟨a,b⟩:=s
 obtain ⟨c,d⟩:=t
 rw [Bool.eq_iff_iff]
 simp [and_comm]
attribute [local irreducible] Go.Ck.Sub St Cd Xt Nx DrL LsW
section
variable {X:Res} {v v':Value}
theorem eq39_ct {xs ys:List Vr} (hx:Ls X v xs) (hy:Ls X v' ys):Reads prog 39 #[v,v'] [X] (.bool (decide (xs=ys))):=by
 have hml:maxLen=9223372036854775807:=rfl
 obtain ⟨xa,xc,rfl,hlc,hcm,_⟩:=id hx.form
 obtain ⟨ya,yc,rfl,hlc',hcm',_⟩:=id hy.form
 refine aL (n:=44) func39 Z Z (len Z) λhr w0=>?_
 refine cQ<|sA Z<|sN<|nT<|cS<|cQ<|sM Z<|sV (aF Z underlying70)<|sM Z<|sV (aF Z underlying70)<|sV (bK Z Z)<|sK [0,1,4,11] Z<|cC Z (λhq=>?_)<|λhq=>?_
 ·rw [wY (show xs.length≠ys.length from λh=>by rw [h] at hq; simp at hq)]
  refine cQ<|sA Z<|sK [4] Z<|cT<|xR ?_
  exact aj Z ⟨Z,Z⟩ sbq
 ·have hl:xs.length=ys.length:=by
   have hq:((xs.length:Nat):Int)=(ys.length:Nat):=Zu
   omega
  refine cK<|xT<|cS<|cQ<|sA Z<|sK [0,1,4,5] Z<|cB<|aW (σ := Nat) (λi=>[(0,.slice xa xs.length xc),(1,.slice ya ys.length yc),(5,.int .i64 (i:Nat))]) (λ_=>X::hr) (λi=>i≤xs.length/\xs.take i=ys.take i) (λi=>xs.length - i) 0 ⟨Nat.zero_le _,Z⟩ ?_
  rintro i ⟨hi,hal⟩
  refine cS<|cQ<|sM Z<|sM Z<|sV (aF Z underlying70)<|sV (aN Z Z)<|sK [0,1,5,15] Z<|cC Z (λhd=>?_)<|λhd=>?_
  ·have hlt:i<xs.length:=Zx
   have hlt':i<ys.length:=by omega
   have hg:=Zy hlt
   have hg':=Zy hlt'
   obtain ⟨b,o,cap2,us,e1,hus,hrd,hta⟩:=hx.at hg
   cases e1
   obtain ⟨b',o',cap2',us',e1,hus',hrd',htb⟩:=hy.at hg'
   cases e1
   generalize xs[i]=x at hg hta
   generalize ys[i]=y at hg' htb
   obtain ⟨ts,rfl,hts⟩:=hta
   obtain ⟨us2,rfl,hus2⟩:=htb
   have hel:=IZ hts hus2
   obtain ⟨p,rfl,hp⟩:=ek hts
   obtain ⟨q,rfl,hq2⟩:=ek hus2
   unfold tyC at hrd hrd' hel
   refine cK<|xT<|cS<|cB<|cS<|bB (ork [(0,2),(1,2),(2,2),(3,2),(4,1),(5,2),(6,2),(7,2),(8,2),(9,1),(10,1),(11,2)] .nil) (λ_=>true) mixed Zz ?_
   refine dV Z (vM Z)<|dV Z (vM Z)<|dV Z (vI (k:=i) Z Z zH Z hlt Z)<|dV Z (vF Z jV Z)<|bi Z (af Z fD Z<|bD (k:=1) hrd (vs:=[.int .i64 x.ty.kind,sv x.ty.name,p,.bool x.ty.void,.bool x.ty.sep]) Z) ?_
   refine dV Z (vM Z)<|dV Z (vM Z)<|dV Z (vI (k:=i) Z Z zH Z hlt' Z)<|dV Z (vF Z jV Z)<|bi Z (af Z fD Z<|bD (k:=1) hrd' (vs:=[.int .i64 y.ty.kind,sv y.ty.name,q,.bool y.ty.void,.bool y.ty.sep]) Z) ?_
   refine gY Z Z Z en40 Z (hel) ?_
   refine dV Z (vA Z)<|bA<|nK [0,1,5,6] Z<|nT<|cS<|bB (ork [(0,2),(1,2),(2,2),(3,2),(4,2),(5,2),(6,2),(7,1),(8,2),(9,2),(10,2),(11,2),(12,1),(13,1),(14,2)] .nil) (λ_=>true) mixed Zz ?_
   refine dV Z (vM Z)<|dV Z (aZ Z)<|dV Z (vM Z) ?_
   have hxy:=I1 (s:=x) (t:=y)
   generalize hB:decide (x.ty=y.ty)=B
   rw [hB] at hxy
   cases B with
   | false =>
    have hne:x≠y:=by
     rw [Bool.false_and] at hxy; exact of_decide_eq_false hxy
    rw [rO hg hg' hne]
    iterate 4 refine gP rfl rfl rfl rfl ?_
    refine jh Z Z Z Z ?_
    iterate 4 refine gP rfl rfl rfl rfl ?_
    iterate 2 refine jh rfl rfl rfl rfl ?_
    refine dV Z (vQ Z Z)<|bA<|nK [0,1,5,43] Z<|nT<|aQ Z ?_
    refine cQ<|sA Z<|sK [4] Z<|cT<|xW<|xR<|xR<|xW<|xR ?_
    exact aj Z ⟨Z,Z⟩ sbq
   | true =>
    refine cu Z Z Z (vM Z)<|cu Z Z Z (vM Z)<|cu Z Z Z (vI (k:=i) Z Z zH Z hlt Z)<|cu Z Z Z (vF Z yJ Z)<|gX Z Z Z (vY Z ld9 (ha:=⟨X,_,slq,lT (k:=0) hrd Z⟩)) ?_
    refine cu Z Z Z (vM Z)<|cu Z Z Z (vM Z)<|cu Z Z Z (vI (k:=i) Z Z zH Z hlt' Z)<|cu Z Z Z (vF Z yJ Z)<|gX Z Z Z (vY Z ld9 (ha:=⟨X,_,slq,lT (k:=0) hrd' Z⟩)) ?_
    refine gX Z Z Z (oV Z Z)<|dV Z (vP Z Z)<|bA<|nK [0,1,5,43] Z<|nT<|cC Z (λhne=>?_)<|λhne=>?_
    ·have hne:x≠y:=by
      have h2:(x.name == y.name)=false:=Zv
      rw [h2] at hxy
      exact of_decide_eq_false hxy
     rw [rO hg hg' hne]
     refine cQ<|sA Z<|sK [4] Z<|cT<|xW<|xR<|xR<|xW<|xR ?_
     exact aj Z ⟨Z,Z⟩ sbq
    ·have hne:x=y:=by
      have h2:(x.name == y.name)=true:=Zv
      rw [h2] at hxy
      exact of_decide_eq_true hxy
     refine cK<|xB<|xT<|cR<|sM Z<|sV (aI Z Z Z0)<|sA Z<|sN<|nK [0,1,5] Z<|ax ?_
     refine aM (i+1) ⟨hlt,eH hal hg hg' hne⟩ (by show xs.length - (i+1)<xs.length - i; omega)
  ·have hie:i=xs.length:=Nat.le_antisymm hi<|Nat.not_lt.1 Zx
   subst hie
   rw [take_eq_all hl hal]
   refine aC<|xE<|xE<|xY<|xT<|cQ<|sA Z<|sK [4] Z<|cT ?_
   exact aj Z ⟨Z,Z⟩ sbq
theorem GL : ∀ (d : Nat) (s t : Ex) (us us' : List Value), s.depth ≤ d -> Enc.rep X us s -> Enc.rep X us' t -> Reads prog 235 #[.agg us.toArray, .agg us'.toArray] [X] (.bool (decide (s = t)))
 | 0,s,_,_,_,hd,_,_=>by cases s; simp [Ex.depth] at hd
 | d + 1, s, t, us, us', hd, hs, ht => by
  have hml:maxLen=9223372036854775807:=rfl
  obtain ⟨x,rfl,hx⟩:=l8 hs
  obtain ⟨y,rfl,hy⟩:=l8 ht
  have hF:∀ (a b:Ex) us us',a∈s.kids->Enc.rep X us a->Enc.rep X us' b->Reads prog 235 #[.agg us.toArray,.agg us'.toArray] [X] (.bool<|decide (a=b)):=λa b us us' ha h1 h2=>GL d a b us us' (by have:=pI ha; omega) h1 h2
  rw [CV]
  obtain ⟨xa,xc,rfl,hlc,hcm,_⟩:=hx.form
  obtain ⟨ya,yc,rfl,hlc',hcm',_⟩:=hy.form
  unfold exC
  refine aL (n:=55) func235 Z Z (len Z) λhr w0=>?_
  refine cQ (aP Z Z λb2=>?_)
  refine aP Z Z λb3=>?_
  refine sA Z<|sK [2,3,4] Z<|cS<|cQ<|sV (vF Z yN Z)<|sV (vY Z ld3) ?_
  refine sV (vF Z yN Z)<|sV (vY Z ld3) ?_
  refine sV (bK Z Z)<|sM Z<|bf (k:=12) (d:=18) (v:=.bool ((s.kind != t.kind) || !(s.name == t.name))) (λhcut=>aG (b:=(s.kind != t.kind)) false (λhg=>?_)<|λhg=>?_) ?_
  ·refine aB Z Z hg ?_
   iterate 4 refine aB rfl rfl hg ?_
   refine sV (vQ (bO Z hg) Z) ?_
   exact hcut _ uG
  ·refine sG Z (bG Z hg) (vF Z yO Z)<|sG Z (bG Z hg) (vY Z ld9) ?_
   refine sG Z (bG Z hg) (vF Z yO Z)<|sG Z (bG Z hg) (vY Z ld9) ?_
   refine sG Z (bG Z hg) (oV Z Z)<|sV (vP (bO Z hg) Z) ?_
   exact hcut _ uG
  refine sM Z<|bf (k:=19) (d:=25) (v:=.bool (((s.kind != t.kind) || !(s.name == t.name)) || (s.num != t.num))) (λhcut=>aG (b:=((s.kind != t.kind) || !(s.name == t.name))) false (λhg=>?_)<|λhg=>?_) ?_
  ·refine aB Z Z hg ?_
   iterate 4 refine aB rfl rfl hg ?_
   refine sV (vQ (bO Z hg) Z) ?_
   exact hcut _ uG
  ·refine sG Z (bG Z hg) (vF Z yP Z)<|sG Z (bG Z hg) (vY Z ld3) ?_
   refine sG Z (bG Z hg) (vF Z yP Z)<|sG Z (bG Z hg) (vY Z ld3) ?_
   refine sG Z (bG Z hg) (bK Z Z)<|sV (vP (bO Z hg) Z) ?_
   exact hcut _ uG
  refine sM Z<|bf (k:=28) (d:=34) (v:=.bool ((((s.kind != t.kind) || !(s.name == t.name)) || (s.num != t.num)) || (((s.kids.length:Nat):Int) != (t.kids.length:Nat)))) (λhcut=>aG (b:=(((s.kind != t.kind) || !(s.name == t.name)) || (s.num != t.num))) false (λhg=>?_)<|λhg=>?_) ?_
  ·refine aB Z Z hg ?_
   iterate 6 refine aB rfl rfl hg ?_
   refine sV (vQ (bO Z hg) Z) ?_
   exact hcut _ uG
  ·refine sG Z (bG Z hg) (vF Z jA Z)<|sG Z (bG Z hg) (vY Z sU) ?_
   refine sG Z (bG Z hg) (aF Z underlying214)<|sG Z (bG Z hg) (vF Z jA Z)<|sG Z (bG Z hg) (vY Z sU) ?_
   refine sG Z (bG Z hg) (aF Z underlying214)<|sG Z (bG Z hg) (bK Z Z)<|sV (vP (bO Z hg) Z) ?_
   exact hcut _ uG
  refine sK [2,3,4,34] Z<|cC Z (λhq=>?_)<|λhq=>?_
  ·rw [show (((s.kind == t.kind && s.name == t.name) && s.num == t.num) && decide (s.kids=t.kids))=false by
    cases hw:(((s.kind == t.kind && s.name == t.name) && s.num == t.num) && decide (s.kids=t.kids)) with
    | false=>rfl
    | true =>
     simp only [Bool.and_eq_true,beq_iff_eq,decide_eq_true_eq] at hw
     obtain ⟨⟨⟨w1,w2⟩,w3⟩,w4⟩:=hw
     rw [w4] at hq
     simp [w1,w2,w3] at hq]
   refine cQ<|sA Z<|sK [4] Z<|cT<|xR ?_
   exact aj Z ⟨Z,Z⟩ sbq
  ·have hq:((((s.kind != t.kind) || !(s.name == t.name)) || (s.num != t.num)) || (((s.kids.length:Nat):Int) != (t.kids.length:Nat)))=false:=hq
   simp only [Bool.or_eq_false_iff,bne_eq_false_iff_eq,Bool.not_eq_false',beq_iff_eq] at hq
   obtain ⟨⟨⟨q1,q2⟩,q3⟩,q5⟩:=hq
   have hl:s.kids.length=t.kids.length:=by omega
   rw [show (((s.kind == t.kind && s.name == t.name) && s.num == t.num) && decide (s.kids=t.kids))=decide (s.kids=t.kids) by simp [q1,q2,q3]]
   refine cK<|xT<|cS<|cQ<|sA Z<|sK [2,3,4,5] Z<|cB<|aW (σ := Nat) (λi=>[(2,.pointer (some ⟨b2,0,none⟩)),(3,.pointer (some ⟨b3,0,none⟩)),(5,.int .i64 (i:Nat))]) (λ_=>pt b2 (cl [.int .i64 s.kind,sv s.name,.int .i64 s.num,.slice xa s.kids.length xc] 216)::pt b3 (cl [.int .i64 t.kind,sv t.name,.int .i64 t.num,.slice ya t.kids.length yc] 216)::X::hr) (λi=>i≤s.kids.length/\s.kids.take i=t.kids.take i) (λi=>s.kids.length - i) 0 ⟨Nat.zero_le _,Z⟩ ?_
   rintro i ⟨hi,hal⟩
   refine cS<|cQ<|sM Z<|sV (vF Z jA Z)<|sV (vY Z sU) ?_
   refine sV (aF Z underlying214)<|sV (aN Z Z)<|sK [2,3,5,39] Z<|cC Z (λhd=>?_)<|λhd=>?_
   ·have hlt:i<s.kids.length:=Zx
    have hlt':i<t.kids.length:=by omega
    have hg:=Zy hlt
    have hg':=Zy hlt'
    have hmem:=List.getElem_mem hlt
    obtain ⟨b,o,cap2,us,e1,hus,hrd,hta⟩:=hx.at hg
    cases e1
    obtain ⟨b',o',cap2',us',e1,hus',hrd',htb⟩:=hy.at hg'
    cases e1
    generalize s.kids[i]=x at hg hmem hta
    generalize t.kids[i]=y at hg' htb
    refine cK<|xT<|cS<|cB<|cS<|bB (ork [(0,2),(1,1),(2,2),(3,2),(4,1),(5,2),(6,1),(7,2),(8,2),(9,1),(10,1),(11,2)] .nil) (λ_=>true) mixed Zz ?_
    refine dV Z (vF Z jA Z)<|bi Z (vY Z sU) ?_
    refine dV Z (vM Z)<|dV Z (vI (k:=i) Z Z Co Z hlt Z)<|bi Z (af Z jY hus hrd) ?_
    refine dV Z (vF Z jA Z)<|bi Z (vY Z sU) ?_
    refine dV Z (vM Z)<|dV Z (vI (k:=i) Z Z Co Z hlt' Z)<|bi Z (af Z jY hus' hrd') ?_
    refine gY Z Z Z en235 Z ((hF x y us us' hmem hta htb)) ?_
    refine dV Z (vA Z)<|bA<|nK [2,3,5,6] Z<|nT<|cQ<|sM Z<|sV (aZ Z)<|sK [2,3,5,54] Z<|cC Z (λhne=>?_)<|λhne=>?_
    ·have hne:x≠y:=Zv
     rw [rO hg hg' hne]
     refine cQ<|sA Z<|sK [4] Z<|cT<|xW<|xR<|xR<|xW<|xR ?_
     exact aj Z ⟨Z,Z⟩ sbq
    ·have hne:x=y:=Zv
     refine cK<|xB<|xT<|cR<|sM Z<|sV (aI Z Z Z0)<|sA Z<|sN<|nK [2,3,5] Z<|ax ?_
     refine aM (i+1) ⟨hlt,eH hal hg hg' hne⟩ (by show s.kids.length - (i+1)<s.kids.length - i; omega)
   ·have hie:i=s.kids.length:=Nat.le_antisymm hi<|Nat.not_lt.1 Zx
    subst hie
    rw [take_eq_all hl hal]
    refine aC<|xE<|xE<|xY<|xT<|cQ<|sA Z<|sK [4] Z<|cT ?_
    exact aj Z ⟨Z,Z⟩ sbq
theorem eqE_ct {s t:Ex} {us us':List Value} (hs:Enc.rep X us s) (ht:Enc.rep X us' t):Reads prog 235 #[.agg us.toArray,.agg us'.toArray] [X] (.bool (decide (s=t))):=GL _ s t us us' (Nat.le_refl _) hs ht
theorem Ot {xs ys:List Cla} (hx:Ls X v xs) (hy:Ls X v' ys):Reads prog 168 #[v,v'] [X] (.bool (decide (xs=ys))):=by
 have hml:maxLen=9223372036854775807:=rfl
 obtain ⟨xa,xc,rfl,hlc,hcm,_⟩:=id hx.form
 obtain ⟨ya,yc,rfl,hlc',hcm',_⟩:=id hy.form
 refine aL (n:=44) func168 Z Z (len Z) λhr w0=>?_
 refine cQ<|sA Z<|sN<|nT<|cS<|cQ<|sM Z<|sV (aF Z underlying42)<|sM Z<|sV (aF Z underlying42)<|sV (bK Z Z)<|sK [0,1,4,11] Z<|cC Z (λhq=>?_)<|λhq=>?_
 ·rw [wY (show xs.length≠ys.length from λh=>by rw [h] at hq; simp at hq)]
  refine cQ<|sA Z<|sK [4] Z<|cT<|xR ?_
  exact aj Z ⟨Z,Z⟩ sbq
 ·have hl:xs.length=ys.length:=by
   have hq:((xs.length:Nat):Int)=(ys.length:Nat):=Zu
   omega
  refine cK<|xT<|cS<|cQ<|sA Z<|sK [0,1,4,5] Z<|cB<|aW (σ := Nat) (λi=>[(0,.slice xa xs.length xc),(1,.slice ya ys.length yc),(5,.int .i64 (i:Nat))]) (λ_=>X::hr) (λi=>i≤xs.length/\xs.take i=ys.take i) (λi=>xs.length - i) 0 ⟨Nat.zero_le _,Z⟩ ?_
  rintro i ⟨hi,hal⟩
  refine cS<|cQ<|sM Z<|sM Z<|sV (aF Z underlying42)<|sV (aN Z Z)<|sK [0,1,5,15] Z<|cC Z (λhd=>?_)<|λhd=>?_
  ·have hlt:i<xs.length:=Zx
   have hlt':i<ys.length:=by omega
   have hg:=Zy hlt
   have hg':=Zy hlt'
   obtain ⟨b,o,cap2,us,e1,hus,hrd,hta⟩:=hx.at hg
   cases e1
   obtain ⟨b',o',cap2',us',e1,hus',hrd',htb⟩:=hy.at hg'
   cases e1
   generalize xs[i]=x at hg hta
   generalize ys[i]=y at hg' htb
   obtain ⟨ts,rfl,hts⟩:=hta
   obtain ⟨us2,rfl,hus2⟩:=htb
   have hel:=eqE_ct hts hus2
   obtain ⟨p,rfl,hp⟩:=l8 hts
   obtain ⟨q,rfl,hq2⟩:=l8 hus2
   unfold exC at hrd hrd' hel
   refine cK<|xT<|cS<|cB<|cS<|bB (ork [(0,2),(1,2),(2,2),(3,2),(4,1),(5,2),(6,2),(7,2),(8,2),(9,1),(10,1),(11,2)] .nil) (λ_=>true) mixed Zz ?_
   refine dV Z (vM Z)<|dV Z (vM Z)<|dV Z (vI (k:=i) Z Z Fq Z hlt Z)<|dV Z (vF Z pE Z)<|bi Z (af Z jY Z<|bD (k:=1) hrd (vs:=[.int .i64 x.ex.kind,sv x.ex.name,.int .i64 x.ex.num,p]) Z) ?_
   refine dV Z (vM Z)<|dV Z (vM Z)<|dV Z (vI (k:=i) Z Z Fq Z hlt' Z)<|dV Z (vF Z pE Z)<|bi Z (af Z jY Z<|bD (k:=1) hrd' (vs:=[.int .i64 y.ex.kind,sv y.ex.name,.int .i64 y.ex.num,q]) Z) ?_
   refine gY Z Z Z en235 Z (hel) ?_
   refine dV Z (vA Z)<|bA<|nK [0,1,5,6] Z<|nT<|cS<|bB (ork [(0,2),(1,2),(2,2),(3,2),(4,2),(5,2),(6,2),(7,1),(8,2),(9,2),(10,2),(11,2),(12,1),(13,1),(14,2)] .nil) (λ_=>true) mixed Zz ?_
   refine dV Z (vM Z)<|dV Z (aZ Z)<|dV Z (vM Z) ?_
   have hxy:=GK (s:=x) (t:=y)
   generalize hB:decide (x.ex=y.ex)=B
   rw [hB] at hxy
   cases B with
   | false =>
    have hne:x≠y:=by
     rw [Bool.false_and] at hxy; exact of_decide_eq_false hxy
    rw [rO hg hg' hne]
    iterate 4 refine gP rfl rfl rfl rfl ?_
    refine jh Z Z Z Z ?_
    iterate 4 refine gP rfl rfl rfl rfl ?_
    iterate 2 refine jh rfl rfl rfl rfl ?_
    refine dV Z (vQ Z Z)<|bA<|nK [0,1,5,43] Z<|nT<|aQ Z ?_
    refine cQ<|sA Z<|sK [4] Z<|cT<|xW<|xR<|xR<|xW<|xR ?_
    exact aj Z ⟨Z,Z⟩ sbq
   | true =>
    refine cu Z Z Z (vM Z)<|cu Z Z Z (vM Z)<|cu Z Z Z (vI (k:=i) Z Z Fq Z hlt Z)<|cu Z Z Z (vF Z yQ Z)<|gX Z Z Z (vY Z ld9 (ha:=⟨X,_,slq,lT (k:=0) hrd Z⟩)) ?_
    refine cu Z Z Z (vM Z)<|cu Z Z Z (vM Z)<|cu Z Z Z (vI (k:=i) Z Z Fq Z hlt' Z)<|cu Z Z Z (vF Z yQ Z)<|gX Z Z Z (vY Z ld9 (ha:=⟨X,_,slq,lT (k:=0) hrd' Z⟩)) ?_
    refine gX Z Z Z (oV Z Z)<|dV Z (vP Z Z)<|bA<|nK [0,1,5,43] Z<|nT<|cC Z (λhne=>?_)<|λhne=>?_
    ·have hne:x≠y:=by
      have h2:(x.tag == y.tag)=false:=Zv
      rw [h2] at hxy
      exact of_decide_eq_false hxy
     rw [rO hg hg' hne]
     refine cQ<|sA Z<|sK [4] Z<|cT<|xW<|xR<|xR<|xW<|xR ?_
     exact aj Z ⟨Z,Z⟩ sbq
    ·have hne:x=y:=by
      have h2:(x.tag == y.tag)=true:=Zv
      rw [h2] at hxy
      exact of_decide_eq_true hxy
     refine cK<|xB<|xT<|cR<|sM Z<|sV (aI Z Z Z0)<|sA Z<|sN<|nK [0,1,5] Z<|ax ?_
     refine aM (i+1) ⟨hlt,eH hal hg hg' hne⟩ (by show xs.length - (i+1)<xs.length - i; omega)
  ·have hie:i=xs.length:=Nat.le_antisymm hi<|Nat.not_lt.1 Zx
   subst hie
   rw [take_eq_all hl hal]
   refine aC<|xE<|xE<|xY<|xT<|cQ<|sA Z<|sK [4] Z<|cT ?_
   exact aj Z ⟨Z,Z⟩ sbq
theorem eq96_ct {s t:Grp} {us us':List Value} (hs:Enc.rep X us s) (ht:Enc.rep X us' t):Reads prog 96 #[.agg us.toArray,.agg us'.toArray] [X] (.bool (decide (s=t))):=by
 obtain ⟨x,rfl,hx⟩:=hs
 obtain ⟨y,rfl,hy⟩:=ht
 have hel:=Ot hx hy
 rw [CW,Bool.and_comm]
 refine aL (n:=19) func96 Z Z (len Z) λhr w0=>?_
 refine cQ (aP Z Z λb2=>?_)
 refine aP Z Z λb3=>?_
 refine sA Z<|sK [2,3,4] Z<|cQ<|sV (vF Z rW Z)<|sV (vY Z tQ) ?_
 refine sV (vF Z rW Z)<|sV (vY Z tQ) ?_
 refine aX Z Z en168 Z (hel) ?_
 refine sA Z<|sK [2,3,4,5] Z<|cQ<|sM Z<|sM Z<|bf (k:=8) (d:=18) (v:=.bool (decide (s.cs=t.cs) && s.cls == t.cls)) (λhcut=>aG (b:=(decide (s.cs=t.cs))) true (λhg=>?_)<|λhg=>?_) ?_
 ·refine aB Z Z hg ?_
  iterate 4 refine aB rfl rfl hg ?_
  refine sV (vP (bO Z hg) Z) ?_
  exact hcut _ uG
 ·refine sG Z (bG Z hg) (vF Z yL Z)<|sG Z (bG Z hg) (vY Z ld9) ?_
  refine sG Z (bG Z hg) (vF Z yL Z)<|sG Z (bG Z hg) (vY Z ld9) ?_
  refine sG Z (bG Z hg) (gq Z Z)<|sV (vQ (bO Z hg) Z) ?_
  exact hcut _ uG
 refine sA Z<|sK [4] Z<|cT ?_
 exact aj Z ⟨Z,Z⟩ sbq
theorem Av {xs ys:List Grp} (hx:Ls X v xs) (hy:Ls X v' ys):Reads prog 107 #[v,v'] [X] (.bool (decide (xs=ys))):=by
 have hml:maxLen=9223372036854775807:=rfl
 obtain ⟨xa,xc,rfl,hlc,hcm,_⟩:=id hx.form
 obtain ⟨ya,yc,rfl,hlc',hcm',_⟩:=id hy.form
 refine aL (n:=29) func107 Z Z (len Z) λhr w0=>?_
 refine cQ<|sA Z<|sN<|nT<|cS<|cQ<|sM Z<|sV (aF Z underlying53)<|sM Z<|sV (aF Z underlying53)<|sV (bK Z Z)<|sK [0,1,4,11] Z<|cC Z (λhq=>?_)<|λhq=>?_
 ·rw [wY (show xs.length≠ys.length from λh=>by rw [h] at hq; simp at hq)]
  refine cQ<|sA Z<|sK [4] Z<|cT<|xR ?_
  exact aj Z ⟨Z,Z⟩ sbq
 ·have hl:xs.length=ys.length:=by
   have hq:((xs.length:Nat):Int)=(ys.length:Nat):=Zu
   omega
  refine cK<|xT<|cS<|cQ<|sA Z<|sK [0,1,4,5] Z<|cB<|aW (σ := Nat) (λi=>[(0,.slice xa xs.length xc),(1,.slice ya ys.length yc),(5,.int .i64 (i:Nat))]) (λ_=>X::hr) (λi=>i≤xs.length/\xs.take i=ys.take i) (λi=>xs.length - i) 0 ⟨Nat.zero_le _,Z⟩ ?_
  rintro i ⟨hi,hal⟩
  refine cS<|cQ<|sM Z<|sM Z<|sV (aF Z underlying53)<|sV (aN Z Z)<|sK [0,1,5,15] Z<|cC Z (λhd=>?_)<|λhd=>?_
  ·have hlt:i<xs.length:=Zx
   have hlt':i<ys.length:=by omega
   have hg:=Zy hlt
   have hg':=Zy hlt'
   obtain ⟨b,o,cap2,us,e1,hus,hrd,hta⟩:=hx.at hg
   cases e1
   obtain ⟨b',o',cap2',us',e1,hus',hrd',htb⟩:=hy.at hg'
   cases e1
   generalize xs[i]=x at hg hta
   generalize ys[i]=y at hg' htb
   refine cK<|xT<|cS<|cB<|cS<|bB (ork [(0,2),(1,2),(2,2),(3,1),(4,2),(5,2),(6,2),(7,1),(8,1),(9,2)] .nil) (λ_=>true) mixed Zz ?_
   refine dV Z (vM Z)<|dV Z (vM Z)<|dV Z (vI (k:=i) Z Z Fs Z hlt Z)<|bi Z (af Z lQ hus hrd) ?_
   refine dV Z (vM Z)<|dV Z (vM Z)<|dV Z (vI (k:=i) Z Z Fs Z hlt' Z)<|bi Z (af Z lQ hus' hrd') ?_
   refine gY Z Z Z en96 Z ((eq96_ct hta htb)) ?_
   refine dV Z (vA Z)<|bA<|nK [0,1,5,6] Z<|nT<|cQ<|sM Z<|sV (aZ Z)<|sK [0,1,5,28] Z<|cC Z (λhne=>?_)<|λhne=>?_
   ·have hne:x≠y:=Zv
    rw [rO hg hg' hne]
    refine cQ<|sA Z<|sK [4] Z<|cT<|xW<|xR<|xR<|xW<|xR ?_
    exact aj Z ⟨Z,Z⟩ sbq
   ·have hne:x=y:=Zv
    refine cK<|xB<|xT<|cR<|sM Z<|sV (aI Z Z Z0)<|sA Z<|sN<|nK [0,1,5] Z<|ax ?_
    refine aM (i+1) ⟨hlt,eH hal hg hg' hne⟩ (by show xs.length - (i+1)<xs.length - i; omega)
  ·have hie:i=xs.length:=Nat.le_antisymm hi<|Nat.not_lt.1 Zx
   subst hie
   rw [take_eq_all hl hal]
   refine aC<|xE<|xE<|xY<|xT<|cQ<|sA Z<|sK [4] Z<|cT ?_
   exact aj Z ⟨Z,Z⟩ sbq
theorem I4 {s t:Mb}:decide (s=t)=((((((((decide (s.seeds=t.seeds) && decide (s.args=t.args)) && decide (s.ty=t.ty)) && decide (s.clients=t.clients)) && decide (s.pre=t.pre)) && decide (s.post=t.post)) && s.name == t.name) && s.kind == t.kind) && ([s.impl.cls,s.impl.name] == [t.impl.cls,t.impl.name])):=by
 obtain ⟨a1,a2,a3,⟨a4,a5⟩,a6,a7,a8,a9,a10⟩:=s
 obtain ⟨b1,b2,b3,⟨b4,b5⟩,b6,b7,b8,b9,b10⟩:=t
 rw [Bool.eq_iff_iff]
 simp only [decide_eq_true_eq,Bool.and_eq_true,beq_iff_eq,Mb.mk.injEq,Sd.mk.injEq,List.cons.injEq,and_true]
 constructor
 ·rintro ⟨h1,h2,h3,⟨h4,h5⟩,h6,h7,h8,h9,h10⟩; exact ⟨⟨⟨⟨⟨⟨⟨⟨h3,h6⟩,h7⟩,h8⟩,h9⟩,h10⟩,h1⟩,h2⟩,h4,h5⟩
 ·rintro ⟨⟨⟨⟨⟨⟨⟨⟨h3,h6⟩,h7⟩,h8⟩,h9⟩,h10⟩,h1⟩,h2⟩,h4,h5⟩; exact ⟨h1,h2,h3,⟨h4,h5⟩,h6,h7,h8,h9,h10⟩
theorem KF {s t:Mb} {us us':List Value} (hs:Enc.rep X us s) (ht:Enc.rep X us' t):Reads prog 47 #[.agg us.toArray,.agg us'.toArray] [X] (.bool (decide (s=t))):=by
 obtain ⟨x2,x5,xy,x11,x12,x13,rfl,hx2,hx5,hxy,hx11,hx12,hx13⟩:=bZ hs
 obtain ⟨y2,y5,yy,y11,y12,y13,rfl,hy2,hy5,hyy,hy11,hy12,hy13⟩:=bZ ht
 have e1:=Oq hx2 hy2
 have e2:=eq39_ct hx5 hy5
 have e3:=IZ (fZ (t:=s.ty) rfl hxy)<|fZ (t:=t.ty) rfl hyy
 have e4:=KD hx11 hy11
 have e5:=Av hx12 hy12
 have e6:=Av hx13 hy13
 rw [I4]
 unfold fI
 unfold tyC at e3
 refine aL (n:=78) func47 Z Z (len Z) λhr w0=>?_
 refine cQ (aP Z Z λb2=>?_)
 refine aP Z Z λb3=>?_
 refine sA Z<|sK [2,3,4] Z<|cQ<|sV (vF Z dP Z)<|sV (vY Z nz) ?_
 refine sV (vF Z dP Z)<|sV (vY Z nz) ?_
 refine aX Z Z en108 Z (e1) ?_
 refine sA Z<|sK [2,3,4,5] Z<|cQ<|sV (vF Z jL Z)<|sV (vY Z qU) ?_
 refine sV (vF Z jL Z)<|sV (vY Z qU) ?_
 refine aX Z Z en39 Z (e2) ?_
 refine sA Z<|sK [2,3,4,5,6] Z<|cQ<|sV (vF Z nD Z)<|sV (af Z fD Z<|bD (us:=[sv s.name,.int .i64 s.kind,x2,sv s.impl.cls,sv s.impl.name,x5,.int .i64 s.ty.kind,sv s.ty.name,xy,.bool s.ty.void,.bool s.ty.sep,x11,x12,x13]) (k:=6) ag (vs:=[.int .i64 s.ty.kind,sv s.ty.name,xy,.bool s.ty.void,.bool s.ty.sep]) Z) ?_
 refine sV (vF Z nD Z)<|sV (af Z fD Z<|bD (us:=[sv t.name,.int .i64 t.kind,y2,sv t.impl.cls,sv t.impl.name,y5,.int .i64 t.ty.kind,sv t.ty.name,yy,.bool t.ty.void,.bool t.ty.sep,y11,y12,y13]) (k:=6) ag (vs:=[.int .i64 t.ty.kind,sv t.ty.name,yy,.bool t.ty.void,.bool t.ty.sep]) Z) ?_
 refine aX Z Z en40 Z (e3) ?_
 refine sA Z<|sK [2,3,4,5,6,7] Z<|cQ<|sV (vF Z wL Z)<|sV (vY Z fq) ?_
 refine sV (vF Z wL Z)<|sV (vY Z fq) ?_
 refine aX Z Z en51 Z (e4) ?_
 refine sA Z<|sK [2,3,4,5,6,7,8] Z<|cQ<|sV (vF Z ig Z)<|sV (vY Z lL) ?_
 refine sV (vF Z ig Z)<|sV (vY Z lL) ?_
 refine aX Z Z en107 Z (e5) ?_
 refine sA Z<|sK [2,3,4,5,6,7,8,9] Z<|cQ<|sV (vF Z ik Z)<|sV (vY Z lL) ?_
 refine sV (vF Z ik Z)<|sV (vY Z lL) ?_
 refine aX Z Z en107 Z (e6) ?_
 refine sA Z<|sK [2,3,4,5,6,7,8,9,10] Z<|cQ<|sM Z<|sM Z<|bf (k:=4) (d:=44) (v:=.bool (decide (s.seeds=t.seeds) && decide (s.args=t.args))) (λhcut=>aG (b:=decide (s.seeds=t.seeds)) true (λhg=>?_)<|λhg=>?_) ?_
 ·refine aB Z Z hg ?_
  refine sV (vP (bO Z hg) Z) ?_
  exact hcut _ uG
 ·refine sG Z (bG Z hg) (vM Z)<|sV (vQ (bO Z hg) Z) ?_
  exact hcut _ uG
 refine sM Z<|bf (k:=7) (d:=47) (v:=.bool ((decide (s.seeds=t.seeds) && decide (s.args=t.args)) && decide (s.ty=t.ty))) (λhcut=>aG (b:=(decide (s.seeds=t.seeds) && decide (s.args=t.args))) true (λhg=>?_)<|λhg=>?_) ?_
 ·refine aB Z Z hg ?_
  refine sV (vP (bO Z hg) Z) ?_
  exact hcut _ uG
 ·refine sG Z (bG Z hg) (vM Z)<|sV (vQ (bO Z hg) Z) ?_
  exact hcut _ uG
 refine sM Z<|bf (k:=10) (d:=50) (v:=.bool (((decide (s.seeds=t.seeds) && decide (s.args=t.args)) && decide (s.ty=t.ty)) && decide (s.clients=t.clients))) (λhcut=>aG (b:=((decide (s.seeds=t.seeds) && decide (s.args=t.args)) && decide (s.ty=t.ty))) true (λhg=>?_)<|λhg=>?_) ?_
 ·refine aB Z Z hg ?_
  refine sV (vP (bO Z hg) Z) ?_
  exact hcut _ uG
 ·refine sG Z (bG Z hg) (vM Z)<|sV (vQ (bO Z hg) Z) ?_
  exact hcut _ uG
 refine sM Z<|bf (k:=13) (d:=53) (v:=.bool ((((decide (s.seeds=t.seeds) && decide (s.args=t.args)) && decide (s.ty=t.ty)) && decide (s.clients=t.clients)) && decide (s.pre=t.pre))) (λhcut=>aG (b:=(((decide (s.seeds=t.seeds) && decide (s.args=t.args)) && decide (s.ty=t.ty)) && decide (s.clients=t.clients))) true (λhg=>?_)<|λhg=>?_) ?_
 ·refine aB Z Z hg ?_
  refine sV (vP (bO Z hg) Z) ?_
  exact hcut _ uG
 ·refine sG Z (bG Z hg) (vM Z)<|sV (vQ (bO Z hg) Z) ?_
  exact hcut _ uG
 refine sM Z<|bf (k:=16) (d:=56) (v:=.bool (((((decide (s.seeds=t.seeds) && decide (s.args=t.args)) && decide (s.ty=t.ty)) && decide (s.clients=t.clients)) && decide (s.pre=t.pre)) && decide (s.post=t.post))) (λhcut=>aG (b:=((((decide (s.seeds=t.seeds) && decide (s.args=t.args)) && decide (s.ty=t.ty)) && decide (s.clients=t.clients)) && decide (s.pre=t.pre))) true (λhg=>?_)<|λhg=>?_) ?_
 ·refine aB Z Z hg ?_
  refine sV (vP (bO Z hg) Z) ?_
  exact hcut _ uG
 ·refine sG Z (bG Z hg) (vM Z)<|sV (vQ (bO Z hg) Z) ?_
  exact hcut _ uG
 refine sM Z<|bf (k:=23) (d:=63) (v:=.bool ((((((decide (s.seeds=t.seeds) && decide (s.args=t.args)) && decide (s.ty=t.ty)) && decide (s.clients=t.clients)) && decide (s.pre=t.pre)) && decide (s.post=t.post)) && s.name == t.name)) (λhcut=>aG (b:=(((((decide (s.seeds=t.seeds) && decide (s.args=t.args)) && decide (s.ty=t.ty)) && decide (s.clients=t.clients)) && decide (s.pre=t.pre)) && decide (s.post=t.post))) true (λhg=>?_)<|λhg=>?_) ?_
 ·refine aB Z Z hg ?_
  iterate 4 refine aB rfl rfl hg ?_
  refine sV (vP (bO Z hg) Z) ?_
  exact hcut _ uG
 ·refine sG Z (bG Z hg) (vF Z dC Z)<|sG Z (bG Z hg) (vY Z ld9) ?_
  refine sG Z (bG Z hg) (vF Z dC Z)<|sG Z (bG Z hg) (vY Z ld9) ?_
  refine sG Z (bG Z hg) (gq Z Z)<|sV (vQ (bO Z hg) Z) ?_
  exact hcut _ uG
 refine sM Z<|bf (k:=30) (d:=70) (v:=.bool (((((((decide (s.seeds=t.seeds) && decide (s.args=t.args)) && decide (s.ty=t.ty)) && decide (s.clients=t.clients)) && decide (s.pre=t.pre)) && decide (s.post=t.post)) && s.name == t.name) && s.kind == t.kind)) (λhcut=>aG (b:=((((((decide (s.seeds=t.seeds) && decide (s.args=t.args)) && decide (s.ty=t.ty)) && decide (s.clients=t.clients)) && decide (s.pre=t.pre)) && decide (s.post=t.post)) && s.name == t.name)) true (λhg=>?_)<|λhg=>?_) ?_
 ·refine aB Z Z hg ?_
  iterate 4 refine aB rfl rfl hg ?_
  refine sV (vP (bO Z hg) Z) ?_
  exact hcut _ uG
 ·refine sG Z (bG Z hg) (vF Z o7 Z)<|sG Z (bG Z hg) (vY Z ld3) ?_
  refine sG Z (bG Z hg) (vF Z o7 Z)<|sG Z (bG Z hg) (vY Z ld3) ?_
  refine sG Z (bG Z hg) (dE Z Z)<|sV (vQ (bO Z hg) Z) ?_
  exact hcut _ uG
 refine sM Z<|bf (k:=37) (d:=77) (v:=.bool ((((((((decide (s.seeds=t.seeds) && decide (s.args=t.args)) && decide (s.ty=t.ty)) && decide (s.clients=t.clients)) && decide (s.pre=t.pre)) && decide (s.post=t.post)) && s.name == t.name) && s.kind == t.kind) && ([s.impl.cls,s.impl.name] == [t.impl.cls,t.impl.name]))) (λhcut=>aG (b:=(((((((decide (s.seeds=t.seeds) && decide (s.args=t.args)) && decide (s.ty=t.ty)) && decide (s.clients=t.clients)) && decide (s.pre=t.pre)) && decide (s.post=t.post)) && s.name == t.name) && s.kind == t.kind)) true (λhg=>?_)<|λhg=>?_) ?_
 ·refine aB Z Z hg ?_
  iterate 4 refine aB rfl rfl hg ?_
  refine sV (vP (bO Z hg) Z) ?_
  exact hcut _ uG
 ·refine sG Z (bG Z hg) (vF Z qZ Z)<|sG Z (bG Z hg) (af Z gM Z<|bD (us:=[sv s.name,.int .i64 s.kind,x2,sv s.impl.cls,sv s.impl.name,x5,.int .i64 s.ty.kind,sv s.ty.name,xy,.bool s.ty.void,.bool s.ty.sep,x11,x12,x13]) (k:=3) ag (vs:=[sv s.impl.cls,sv s.impl.name]) Z) ?_
  refine sG Z (bG Z hg) (vF Z qZ Z)<|sG Z (bG Z hg) (af Z gM Z<|bD (us:=[sv t.name,.int .i64 t.kind,y2,sv t.impl.cls,sv t.impl.name,y5,.int .i64 t.ty.kind,sv t.ty.name,yy,.bool t.ty.void,.bool t.ty.sep,y11,y12,y13]) (k:=3) ag (vs:=[sv t.impl.cls,sv t.impl.name]) Z) ?_
  refine sG Z (bG Z hg) (iH tu Z Z)<|sV (vQ (bO Z hg) Z) ?_
  exact hcut _ uG
 refine sA Z<|sK [4] Z<|cT ?_
 exact aj Z ⟨Z,Z⟩ sbq
theorem KG {s t:Fl} {us us':List Value} (hs:Enc.rep X us s) (ht:Enc.rep X us' t):Reads prog 46 #[.agg us.toArray,.agg us'.toArray] [X] (.bool (decide (s=t))):=by
 have hml:maxLen=9223372036854775807:=rfl
 obtain ⟨x,x3,rfl,hx,hx3⟩:=hs
 obtain ⟨y,y3,rfl,hy,hy3⟩:=ht
 obtain ⟨xa,xc,rfl,hlc,hcm,_⟩:=id hx.form
 obtain ⟨ya,yc,rfl,hlc',hcm',_⟩:=id hy.form
 have e1:=Av hx3 hy3
 rw [CX]
 refine aL (n:=58) func46 Z Z (len Z) λhr w0=>?_
 refine cQ (aP Z Z λb2=>?_)
 refine aP Z Z λb3=>?_
 refine sA Z<|sK [2,3,4] Z<|cQ<|sV (vF Z qX Z)<|sV (vY Z lL) ?_
 refine sV (vF Z qX Z)<|sV (vY Z lL) ?_
 refine aX Z Z en107 Z (e1) ?_
 refine sA Z<|sK [2,3,4,5] Z<|cS<|cQ<|sM Z<|sV (aZ Z)<|sM Z<|bf (k:=9) (d:=21) (v:=.bool (!(decide (s.inv=t.inv)) || !(s.name == t.name))) (λhcut=>aG (b := !(decide (s.inv=t.inv))) false (λhg=>?_)<|λhg=>?_) ?_
 ·refine aB Z Z hg ?_
  iterate 4 refine aB rfl rfl hg ?_
  refine sV (vQ (bO Z hg) Z) ?_
  exact hcut _ uG
 ·refine sG Z (bG Z hg) (vF Z wH Z)<|sG Z (bG Z hg) (vY Z ld9) ?_
  refine sG Z (bG Z hg) (vF Z wH Z)<|sG Z (bG Z hg) (vY Z ld9) ?_
  refine sG Z (bG Z hg) (oV Z Z)<|sV (vP (bO Z hg) Z) ?_
  exact hcut _ uG
 refine sM Z<|bf (k:=16) (d:=28) (v:=.bool ((!(decide (s.inv=t.inv)) || !(s.name == t.name)) || (s.dfd != t.dfd))) (λhcut=>aG (b:=(!(decide (s.inv=t.inv)) || !(s.name == t.name))) false (λhg=>?_)<|λhg=>?_) ?_
 ·refine aB Z Z hg ?_
  iterate 4 refine aB rfl rfl hg ?_
  refine sV (vQ (bO Z hg) Z) ?_
  exact hcut _ uG
 ·refine sG Z (bG Z hg) (vF Z DU Z)<|sG Z (bG Z hg) (vY Z ld4) ?_
  refine sG Z (bG Z hg) (vF Z DU Z)<|sG Z (bG Z hg) (vY Z ld4) ?_
  refine sG Z (bG Z hg) (tJ underlying4 Z Z)<|sV (vP (bO Z hg) Z) ?_
  exact hcut _ uG
 refine sM Z<|bf (k:=25) (d:=37) (v:=.bool (((!(decide (s.inv=t.inv)) || !(s.name == t.name)) || (s.dfd != t.dfd)) || (((s.mems.length:Nat):Int) != (t.mems.length:Nat)))) (λhcut=>aG (b:=((!(decide (s.inv=t.inv)) || !(s.name == t.name)) || (s.dfd != t.dfd))) false (λhg=>?_)<|λhg=>?_) ?_
 ·refine aB Z Z hg ?_
  iterate 6 refine aB rfl rfl hg ?_
  refine sV (vQ (bO Z hg) Z) ?_
  exact hcut _ uG
 ·refine sG Z (bG Z hg) (vF Z iO Z)<|sG Z (bG Z hg) (vY Z lK) ?_
  refine sG Z (bG Z hg) (aF Z underlying52)<|sG Z (bG Z hg) (vF Z iO Z)<|sG Z (bG Z hg) (vY Z lK) ?_
  refine sG Z (bG Z hg) (aF Z underlying52)<|sG Z (bG Z hg) (bK Z Z)<|sV (vP (bO Z hg) Z) ?_
  exact hcut _ uG
 refine sK [2,3,4,37] Z<|cC Z (λhq=>?_)<|λhq=>?_
 ·rw [show (((s.name == t.name && s.dfd == t.dfd) && decide (s.mems=t.mems)) && decide (s.inv=t.inv))=false by
   cases hw:(((s.name == t.name && s.dfd == t.dfd) && decide (s.mems=t.mems)) && decide (s.inv=t.inv)) with
   | false=>rfl
   | true =>
    simp only [Bool.and_eq_true,beq_iff_eq,decide_eq_true_eq] at hw
    obtain ⟨⟨⟨w1,w2⟩,w3⟩,w4⟩:=hw
    rw [w3] at hq
    simp [w1,w2,w4] at hq]
  refine cQ<|sA Z<|sK [4] Z<|cT<|xR ?_
  exact aj Z ⟨Z,Z⟩ sbq
 ·have hq:(((!(decide (s.inv=t.inv)) || !(s.name == t.name)) || (s.dfd != t.dfd)) || (((s.mems.length:Nat):Int) != (t.mems.length:Nat)))=false:=hq
  simp only [Bool.or_eq_false_iff,bne_eq_false_iff_eq,Bool.not_eq_false',beq_iff_eq,decide_eq_true_eq] at hq
  obtain ⟨⟨⟨q1,q2⟩,q3⟩,q5⟩:=hq
  have hl:s.mems.length=t.mems.length:=by omega
  rw [show (((s.name == t.name && s.dfd == t.dfd) && decide (s.mems=t.mems)) && decide (s.inv=t.inv))=decide (s.mems=t.mems) by simp [q1,q2,q3]]
  refine cK<|xT<|cS<|cQ<|sA Z<|sK [2,3,4,6] Z<|cB<|aW (σ := Nat) (λi=>[(2,.pointer (some ⟨b2,0,none⟩)),(3,.pointer (some ⟨b3,0,none⟩)),(6,.int .i64 (i:Nat))]) (λ_=>pt b2 (cl [sv s.name,.bool s.dfd,.slice xa s.mems.length xc,x3] 55)::pt b3 (cl [sv t.name,.bool t.dfd,.slice ya t.mems.length yc,y3] 55)::X::hr) (λi=>i≤s.mems.length/\s.mems.take i=t.mems.take i) (λi=>s.mems.length - i) 0 ⟨Nat.zero_le _,Z⟩ ?_
  rintro i ⟨hi,hal⟩
  refine cS<|cQ<|sM Z<|sV (vF Z iO Z)<|sV (vY Z lK) ?_
  refine sV (aF Z underlying52)<|sV (aN Z Z)<|sK [2,3,6,42] Z<|cC Z (λhd=>?_)<|λhd=>?_
  ·have hlt:i<s.mems.length:=Zx
   have hlt':i<t.mems.length:=by omega
   have hg:=Zy hlt
   have hg':=Zy hlt'
   obtain ⟨b,o,cap2,us,e1,hus,hrd,hta⟩:=hx.at hg
   cases e1
   obtain ⟨b',o',cap2',us',e1,hus',hrd',htb⟩:=hy.at hg'
   cases e1
   generalize s.mems[i]=x at hg hta
   generalize t.mems[i]=y at hg' htb
   refine cK<|xT<|cS<|cB<|cS<|bB (ork [(0,2),(1,1),(2,2),(3,2),(4,1),(5,2),(6,1),(7,2),(8,2),(9,1),(10,1),(11,2)] .nil) (λ_=>true) mixed Zz ?_
   refine dV Z (vF Z iO Z)<|bi Z (vY Z lK) ?_
   refine dV Z (vM Z)<|dV Z (vI (k:=i) Z Z kQ Z hlt Z)<|bi Z (af Z dJ hus hrd) ?_
   refine dV Z (vF Z iO Z)<|bi Z (vY Z lK) ?_
   refine dV Z (vM Z)<|dV Z (vI (k:=i) Z Z kQ Z hlt' Z)<|bi Z (af Z dJ hus' hrd') ?_
   refine gY Z Z Z en47 Z ((KF hta htb)) ?_
   refine dV Z (vA Z)<|bA<|nK [2,3,6,7] Z<|nT<|cQ<|sM Z<|sV (aZ Z)<|sK [2,3,6,57] Z<|cC Z (λhne=>?_)<|λhne=>?_
   ·have hne:x≠y:=Zv
    rw [rO hg hg' hne]
    refine cQ<|sA Z<|sK [4] Z<|cT<|xW<|xR<|xR<|xW<|xR ?_
    exact aj Z ⟨Z,Z⟩ sbq
   ·have hne:x=y:=Zv
    refine cK<|xB<|xT<|cR<|sM Z<|sV (aI Z Z Z0)<|sA Z<|sN<|nK [2,3,6] Z<|ax ?_
    refine aM (i+1) ⟨hlt,eH hal hg hg' hne⟩ (by show s.mems.length - (i+1)<s.mems.length - i; omega)
  ·have hie:i=s.mems.length:=Nat.le_antisymm hi<|Nat.not_lt.1 Zx
   subst hie
   rw [take_eq_all hl hal]
   refine aC<|xE<|xE<|xY<|xT<|cQ<|sA Z<|sK [4] Z<|cT ?_
   exact aj Z ⟨Z,Z⟩ sbq
theorem eq18_ct {xs ys:List Fl} (hx:Ls X v xs) (hy:Ls X v' ys):Reads prog 18 #[v,v'] [X] (.bool (decide (xs=ys))):=by
 have hml:maxLen=9223372036854775807:=rfl
 obtain ⟨xa,xc,rfl,hlc,hcm,_⟩:=id hx.form
 obtain ⟨ya,yc,rfl,hlc',hcm',_⟩:=id hy.form
 refine aL (n:=29) func18 Z Z (len Z) λhr w0=>?_
 refine cQ<|sA Z<|sN<|nT<|cS<|cQ<|sM Z<|sV (aF Z underlying32)<|sM Z<|sV (aF Z underlying32)<|sV (bK Z Z)<|sK [0,1,4,11] Z<|cC Z (λhq=>?_)<|λhq=>?_
 ·rw [wY (show xs.length≠ys.length from λh=>by rw [h] at hq; simp at hq)]
  refine cQ<|sA Z<|sK [4] Z<|cT<|xR ?_
  exact aj Z ⟨Z,Z⟩ sbq
 ·have hl:xs.length=ys.length:=by
   have hq:((xs.length:Nat):Int)=(ys.length:Nat):=Zu
   omega
  refine cK<|xT<|cS<|cQ<|sA Z<|sK [0,1,4,5] Z<|cB<|aW (σ := Nat) (λi=>[(0,.slice xa xs.length xc),(1,.slice ya ys.length yc),(5,.int .i64 (i:Nat))]) (λ_=>X::hr) (λi=>i≤xs.length/\xs.take i=ys.take i) (λi=>xs.length - i) 0 ⟨Nat.zero_le _,Z⟩ ?_
  rintro i ⟨hi,hal⟩
  refine cS<|cQ<|sM Z<|sM Z<|sV (aF Z underlying32)<|sV (aN Z Z)<|sK [0,1,5,15] Z<|cC Z (λhd=>?_)<|λhd=>?_
  ·have hlt:i<xs.length:=Zx
   have hlt':i<ys.length:=by omega
   have hg:=Zy hlt
   have hg':=Zy hlt'
   obtain ⟨b,o,cap2,us,e1,hus,hrd,hta⟩:=hx.at hg
   cases e1
   obtain ⟨b',o',cap2',us',e1,hus',hrd',htb⟩:=hy.at hg'
   cases e1
   generalize xs[i]=x at hg hta
   generalize ys[i]=y at hg' htb
   refine cK<|xT<|cS<|cB<|cS<|bB (ork [(0,2),(1,2),(2,2),(3,1),(4,2),(5,2),(6,2),(7,1),(8,1),(9,2)] .nil) (λ_=>true) mixed Zz ?_
   refine dV Z (vM Z)<|dV Z (vM Z)<|dV Z (vI (k:=i) Z Z sl32 Z hlt Z)<|bi Z (af Z tT hus hrd) ?_
   refine dV Z (vM Z)<|dV Z (vM Z)<|dV Z (vI (k:=i) Z Z sl32 Z hlt' Z)<|bi Z (af Z tT hus' hrd') ?_
   refine gY Z Z Z en46 Z ((KG hta htb)) ?_
   refine dV Z (vA Z)<|bA<|nK [0,1,5,6] Z<|nT<|cQ<|sM Z<|sV (aZ Z)<|sK [0,1,5,28] Z<|cC Z (λhne=>?_)<|λhne=>?_
   ·have hne:x≠y:=Zv
    rw [rO hg hg' hne]
    refine cQ<|sA Z<|sK [4] Z<|cT<|xW<|xR<|xR<|xW<|xR ?_
    exact aj Z ⟨Z,Z⟩ sbq
   ·have hne:x=y:=Zv
    refine cK<|xB<|xT<|cR<|sM Z<|sV (aI Z Z Z0)<|sA Z<|sN<|nK [0,1,5] Z<|ax ?_
    refine aM (i+1) ⟨hlt,eH hal hg hg' hne⟩ (by show xs.length - (i+1)<xs.length - i; omega)
  ·have hie:i=xs.length:=Nat.le_antisymm hi<|Nat.not_lt.1 Zx
   subst hie
   rw [take_eq_all hl hal]
   refine aC<|xE<|xE<|xY<|xT<|cQ<|sA Z<|sK [4] Z<|cT ?_
   exact aj Z ⟨Z,Z⟩ sbq
end
end Go.Fl
namespace Go.Ck
open Go Go.RowKit
def mit (mb ib:Nat) (m left:List (Int×Value)) (last:Option (Int×Value)):Res where
 dom b:=b=mb∨b=ib
 ok f:=mb≠ib/\∃ es ck seen,f mb=some (.map es ck)/\es.toList.map (λx:MapEntry=>(x.key,x.val))=ng m/\Brn es ck m/\f ib=some (.mapIter (some mb) ck seen ck) /\
  ((es.toList.filter λx:MapEntry => !seen.contains x.born).map λx:MapEntry=>(x.key,x.val)).Perm (ng left)/\∀ p,last=some p->∃ x∈es.toList,seen.back? = some x.born/\x.key = .int .i64 p.1/\x.val=p.2
 loc f g he:=λ⟨hn,es,ck,seen,h1,h2,h3,h4,h5⟩=>⟨hn,es,ck,seen,by rw [<- he mb (.inl rfl)]; exact h1,h2,h3,by rw [<- he ib (.inr rfl)]; exact h4,h5⟩
 pres f:=λ⟨_,es,ck,seen,h1,_,_,h4,_⟩ b hb=>by
  rcases hb with rfl | rfl
  ·rw [h1]; rfl
  ·rw [h4]; rfl
theorem Aw (seen : Array Nat) (e : MapEntry) (he : seen.contains e.born = false) : ∀ (l : List MapEntry), (l.map (·.born)).Nodup -> e ∈ l -> (l.filter λx => !seen.contains x.born).Perm (e :: l.filter λx => !(seen.push e.born).contains x.born)
 | [],_,h=>by cases h
 | x :: t, hn, h => by
  rw [List.map_cons,List.nodup_cons] at hn
  have hpush:∀ y:MapEntry,y.born≠e.born->(seen.push e.born).contains y.born=seen.contains y.born:=λy hy=>by
   rw [Bool.eq_iff_iff]; simp [Array.contains_iff_mem,Array.mem_push,hy]
  have hself:(seen.push e.born).contains e.born=true:=by simp
  by_cases hx:x=e
  ·subst hx
   have ht:t.filter (λy => !(seen.push x.born).contains y.born)=t.filter λy => !seen.contains y.born:=List.filter_congr λy hy=>by
    rw [hpush y λheq=>hn.1 (heq ▸ List.mem_map.2 ⟨y,hy,rfl⟩)]
   rw [List.filter_cons,List.filter_cons,he,hself,ht]
   exact .refl _
  ·have hm:e∈t:=(List.mem_cons.1 h).resolve_left λq=>hx q.symm
   have hb:x.born≠e.born:=λheq=>hn.1 (heq ▸ List.mem_map.2 ⟨e,hm,rfl⟩)
   have ih:=Aw seen e he t hn.2 hm
   rw [List.filter_cons,List.filter_cons,hpush x hb]
   by_cases hc:(!seen.contains x.born)=true
   ·rw [if_pos hc,if_pos hc]
    exact (ih.cons x).trans (.swap ..)
   ·rw [if_neg hc,if_neg hc]; exact ih
section
variable {P:Program}
theorem run_next_at {w : World} {mb ib ck : Nat} {es : Array MapEntry} {seen : Array Nat} (h1 : w.heap[mb]? = some (.map es ck)) (h2 : w.heap[ib]? = some (.mapIter (some mb) ck seen ck)) (hold : ∀ x ∈ es.toList, x.born < ck) (ty : TypeId) :
  ((es.toList.filter λx => !seen.contains x.born)=[]/\(Instr.next (.pointer<|some ⟨ib,0,none⟩) false ty).run P w = .ok (.tuple #[.bool false]) w) ∨
  ∃ x∈(es.toList.filter λx => !seen.contains x.born),∃ n:Nat,w.drawn≤n/\(Instr.next (.pointer<|some ⟨ib,0,none⟩) false ty).run P w = .ok (.tuple #[.bool true,x.key,x.val]) { w with drawn:=n,heap:=w.heap.setIfInBounds ib (.mapIter (some mb) ck (seen.push x.born) ck) }:=by
 simp only [Instr.next,getObj,Sem.run_bind,Sem.run,h1,h2,Result.andThen,next_test_false seen es ck ck hold (Nat.le_refl _),Bool.false_eq_true,if_false]
 have hmem:∀ x∈(Array.filter (λe => !seen.contains e.born) es).toList,x.born<ck:=λx hx=>hold x (by simp at hx ⊢; exact hx.1)
 have hL:(Array.filter (λe => !seen.contains e.born) es).toList=es.toList.filter λx => !seen.contains x.born:=by simp
 rw [<- hL]
 generalize Array.filter (λe => !seen.contains e.born) es=L at hmem ⊢
 have e1:L.filter (λx=>decide (x.born<ck))=L:=Array.filter_eq_self.2<|λx hx=>by simpa using hmem x (by simpa using hx)
 have e2:L.filter (λx=>decide (x.born ≥ ck)) = #[]:=by
  rw [Array.filter_eq_empty_iff]
  intro x hx
  have:=hmem x<|by simpa using hx
  simp
  omega
 simp only [e1,e2,Array.append_empty]
 by_cases h0:L.size=0
 ·left
  have:L = #[]:=Array.eq_empty_of_size_eq_zero h0
  subst this
  refine ⟨Z,?_⟩
  simp [choose,Sem.run,Question.forced]
 ·right
  have hne:L.isEmpty=false:=by simp [Array.isEmpty,h0]
  simp only [hne,Bool.false_eq_true,if_false,Array.empty_append,Array.size_map]
  have hch : ∃ (j n : Nat), j < L.size /\ w.drawn ≤ n /\ (choose<|Question.mapNext L.size).run P w = .ok j { w with drawn := n } := by
   by_cases hf:L.size≤1
   ·exact ⟨0,w.drawn,by omega,Nat.le_refl _,by simp [choose,Sem.run,Question.forced,hf]⟩
   ·exact ⟨_,w.drawn+1,Nat.mod_lt _ (by omega),Nat.le_succ _,by
     simp only [choose,Sem.run,Question.forced,decide_eq_true_eq,hf,if_false,Question.cut]
     rfl⟩
  obtain ⟨j,n,hj,hdn,hrun⟩:=hch
  refine ⟨L[j],by simp,n,hdn,?_⟩
  have hset:∀ o':Obj,(setObj ib o').run P { w with drawn:=n } = .ok () { w with drawn:=n,heap:=w.heap.setIfInBounds ib o' }:=λo'=>by
   simp [setObj,Sem.run,h2]
  simp only [hrun,Array.getElem?_map,Array.getElem?_eq_getElem hj,Option.map_some,Sem.run_bind,hset,Result.andThen]
  rfl
theorem run_entry_at {w:World} {mb ib ck:Nat} {es:Array MapEntry} {seen:Array Nat} {x:MapEntry} (h1:w.heap[mb]? = some (.map es ck)) (h2:w.heap[ib]? = some (.mapIter (some mb) ck seen ck)) (hx:x∈es.toList) (hb:seen.back? = some x.born) (hn:(es.toList.map (·.born)).Nodup) :
  (Instr.entry<|.pointer<|some ⟨ib,0,none⟩).run P w = .ok (.tuple #[x.key,x.val]) w:=by
 have hf:es.find? (·.born == x.born)=some x:=by rw [<- Array.find?_toList]; exact find_born x es.toList hn hx
 simp only [Instr.entry,getObj,Sem.run_bind,Sem.run,h1,h2,Result.andThen,hb,bne_self_eq_false,Bool.false_eq_true,if_false,hf]
 rfl
end
section
variable {c:Cx} {ops:Array Oper} {K:Act->World->Prop} {rest:List Oper} {e:Env} {h h':SH}
theorem Ou {d : Nat} {T K' E ty : TypeId} {x : Operand} {pos : String} {after : Array Edge} {mb : Nat} {m : List (Int × Value)} (hx : e.ev? x = some (.map (some mb))) (hT : MpT c.P T K' E) (hs : Sel h (mpr mb m) h') (hd : d < c.n)
  (hnx:∀ ib,(m.map (·.1)).Nodup->St c ops K rest ((d,.pointer (some ⟨ib,0,none⟩))::e) (mit mb ib m m none::h')) :
  St c ops K (⟨some d,.range T x,ty,pos,after,none⟩::rest) e h :=
 eF (by simp) λa w hk hh hw=>by
  have hh':=hh.sel hs
  obtain ⟨es,ck,h1,h2,hB⟩:=hh'.1
  have h1':w.heap[mb]? = some (.map es ck):=h1
  have hlt:mb<w.heap.size:=(Array.getElem?_eq_some_iff.1 h1').1
  have hr:=run_range_map (P:=c.P) w T K' E mb es ck hT.1 h1'
  simp only [execOp,hk.ev hx,Sem.run_bind,hr,Result.andThen_ok,Sem.run_pure]
  have hg:=Grew.alloc w (.mapIter (some mb) ck #[] ck) rfl
  refine hnx w.heap.size hB.2.2 _ _ (hk.put _ hd) ⟨⟨by omega,es,ck,#[],?_,h2,hB,?_,?_,λp hp=>by cases hp⟩,λb hb hd'=>?_,?_⟩<|hw.trans hg.toSame
  ·show (w.alloc _).heap[mb]? = _
   rw [alloc_old w _ mb (by omega)]; exact h1'
  ·show (w.heap.push _)[w.heap.size]? = _
   simp
  ·have hf:(es.toList.filter λx:MapEntry => !(#[]:Array Nat).contains x.born)=es.toList:=List.filter_eq_self.2 λ_ _=>by simp
   rw [hf,h2]
  ·rcases hb with rfl | rfl
   ·exact hh'.2.1 b Z hd'
   ·have:=Holds.lt (w:=w) hh'.2.2 hd'; omega
  ·exact bu.loc hh'.2.2 λb hb=>(hg.block b<|Holds.lt (w:=w) hh'.2.2 hb).symm
theorem st_next {d : Nat} {ty : TypeId} {x : Operand} {pos : String} {after : Array Edge} {mb ib : Nat} {m left : List (Int × Value)} {last : Option (Int × Value)} (hx : e.ev? x = some (.pointer (some ⟨ib, 0, none⟩))) (hs : Sel h (mit mb ib m left last) h') (hd : d < c.n)
  (h0:left=[]->St c ops K rest ((d,.tuple #[.bool false])::e) (mit mb ib m [] last::h'))
  (h1:∀ k v left',left.Perm ((k,v)::left')->St c ops K rest ((d,.tuple #[.bool true,.int .i64 k,v])::e) (mit mb ib m left' (some (k,v))::h')) :
  St c ops K (⟨some d,.next x false,ty,pos,after,none⟩::rest) e h :=
 eF (by simp) λa w hk hh hw => by
  have hh':=hh.sel hs
  obtain ⟨hne,es,ck,seen,g1,g2,hB,g4,g5,g6⟩:=hh'.1
  have g1':w.heap[mb]? = some (.map es ck):=g1
  have g4':w.heap[ib]? = some (.mapIter (some mb) ck seen ck):=g4
  have hlt:ib<w.heap.size:=(Array.getElem?_eq_some_iff.1 g4').1
  rcases run_next_at (P:=c.P) g1' g4' hB.1 ty with ⟨q1,q2⟩ | ⟨z,hz,n,hdn,q2⟩
  ·simp only [execOp,hk.ev hx,Sem.run_bind,q2,Result.andThen_ok,Sem.run_pure]
   have hl:left=[]:=by
    rw [q1] at g5
    have:=g5.symm.eq_nil
    unfold ng at this
    simpa using this
   subst hl
   exact h0 Z _ _ (hk.put _ hd) hh' hw
  ·simp only [execOp,hk.ev hx,Sem.run_bind,q2,Result.andThen_ok,Sem.run_pure]
   have hz1:z∈es.toList:=(List.mem_filter.1 hz).1
   have hz2:seen.contains z.born=false:=by simpa using (List.mem_filter.1 hz).2
   have hzm:(z.key,z.val)∈ng left:=g5.mem_iff.1<|List.mem_map.2 ⟨z,hz,rfl⟩
   obtain ⟨⟨k,v⟩,hkv,hkv2⟩:=List.mem_map.1 hzm
   simp only [Prod.mk.injEq] at hkv2
   obtain ⟨hk1,hv1⟩:=hkv2
   obtain ⟨s,t,rfl⟩:=List.append_of_mem hkv
   have hp:(s++(k,v)::t).Perm ((k,v)::(s++t)):=List.perm_middle
   have hf:=Aw seen z hz2 es.toList hB.2.1 hz1
   have hrest:((es.toList.filter λx => !(seen.push z.born).contains x.born).map λx=>(x.key,x.val)).Perm (ng (s++t)):=by
    have h3:=(hf.map λx:MapEntry=>(x.key,x.val)).symm.trans<|g5.trans (hp.map λp:Int×Value=>((.int .i64 p.1:Value),p.2))
    rw [List.map_cons,List.map_cons,<- hk1,<- hv1] at h3
    exact h3.cons_inv
   rw [<- hk1,<- hv1]
   have hsame:Same w { w with drawn:=n,heap:=w.heap.setIfInBounds ib (.mapIter (some mb) ck (seen.push z.born) ck) }:=⟨rfl,rfl,rfl,hdn,by simp,oP (b:=ib) (λo ho=>by rw [g4'] at ho; cases ho; rfl) (λo ho=>by
    have:(w.heap.setIfInBounds ib<|.mapIter (some mb) ck (seen.push z.born) ck)[ib]? = some o:=ho
    simp [hlt] at this; rw [<- this]; rfl) λc hc=>dS w ib c _ hc⟩
   refine h1 k v (s++t) hp _ _ (hk.put _ hd) ⟨⟨hne,es,ck,seen.push z.born,?_,g2,hB,?_,hrest,λp hp'=>?_⟩,hh'.2.1,?_⟩<|hw.trans hsame
   ·show (w.heap.setIfInBounds ib _)[mb]? = _
    rw [Array.getElem?_setIfInBounds_ne (Ne.symm hne)]; exact g1'
   ·show (w.heap.setIfInBounds ib _)[ib]? = _
    simp [hlt]
   ·cases hp'
    exact ⟨z,hz1,by simp,hk1.symm,hv1.symm⟩
   ·exact bu.loc hh'.2.2 λb hb=>(dS w ib b _<|λq=>hh'.2.1 b (.inr q) hb).symm
theorem v_entry {ty:TypeId} {x:Operand} {mb ib:Nat} {m left:List (Int×Value)} {k:Int} {v:Value} (hx:e.ev? x=some (.pointer (some ⟨ib,0,none⟩))) (hs:Sel h (mit mb ib m left (some (k,v))) h') :
  Vop c.P e h (.entry x) ty (.tuple #[.int .i64 k,v]):=
 ⟨by simp,by simp,λρ w d pos after g hρ hh=>by
  obtain ⟨_,es,ck,seen,g1,_,hB,g4,_,g6⟩:=(hh.sel hs).1
  obtain ⟨z,hz,hb,h1,h2⟩:=g6 _ rfl
  have:=run_entry_at (P:=c.P) (w:=w) g1 g4 hz hb hB.2.1
  rw [h1,h2] at this
  simp [execOp,hρ x _ hx,this]⟩
end
section
variable {c:Cx} {x:Code} {Q:Exit->Act->World->Prop} {e:Env} {h h':SH}
end
def wZ (mb ib:Nat) (m left:List (Bs×Value)) (last:Option (Bs×Value)):Res where
 dom b:=b=mb∨b=ib
 ok f:=mb≠ib/\∃ es ck seen,f mb=some (.map es ck)/\es.toList.map (λx:MapEntry=>(x.key,x.val))=kP m/\SBrn es ck m/\f ib=some (.mapIter (some mb) ck seen ck) /\
  ((es.toList.filter λx:MapEntry => !seen.contains x.born).map λx:MapEntry=>(x.key,x.val)).Perm (kP left)/\∀ p,last=some p->∃ x∈es.toList,seen.back? = some x.born/\x.key=sv p.1/\x.val=p.2
 loc f g he:=λ⟨hn,es,ck,seen,h1,h2,h3,h4,h5⟩=>⟨hn,es,ck,seen,by rw [<- he mb (.inl rfl)]; exact h1,h2,h3,by rw [<- he ib (.inr rfl)]; exact h4,h5⟩
 pres f:=λ⟨_,es,ck,seen,h1,_,_,h4,_⟩ b hb=>by
  rcases hb with rfl | rfl
  ·rw [h1]; rfl
  ·rw [h4]; rfl
section
variable {c:Cx} {ops:Array Oper} {K:Act->World->Prop} {rest:List Oper} {e:Env} {h h':SH}
theorem Ay {d : Nat} {T K' E ty : TypeId} {x : Operand} {pos : String} {after : Array Edge} {mb : Nat} {m : List (Bs × Value)} (hx : e.ev? x = some (.map (some mb))) (hT : MpS c.P T K' E) (hs : Sel h (mps mb m) h') (hd : d < c.n)
  (hnx:∀ ib,(m.map (·.1)).Nodup->St c ops K rest ((d,.pointer (some ⟨ib,0,none⟩))::e) (wZ mb ib m m none::h')) :
  St c ops K (⟨some d,.range T x,ty,pos,after,none⟩::rest) e h :=
 eF (by simp) λa w hk hh hw=>by
  have hh':=hh.sel hs
  obtain ⟨es,ck,h1,h2,hB⟩:=hh'.1
  have h1':w.heap[mb]? = some (.map es ck):=h1
  have hlt:mb<w.heap.size:=(Array.getElem?_eq_some_iff.1 h1').1
  have hr:=run_range_map (P:=c.P) w T K' E mb es ck hT.1 h1'
  simp only [execOp,hk.ev hx,Sem.run_bind,hr,Result.andThen_ok,Sem.run_pure]
  have hg:=Grew.alloc w (.mapIter (some mb) ck #[] ck) rfl
  refine hnx w.heap.size hB.2.2 _ _ (hk.put _ hd) ⟨⟨by omega,es,ck,#[],?_,h2,hB,?_,?_,λp hp=>by cases hp⟩,λb hb hd'=>?_,?_⟩<|hw.trans hg.toSame
  ·show (w.alloc _).heap[mb]? = _
   rw [alloc_old w _ mb (by omega)]; exact h1'
  ·show (w.heap.push _)[w.heap.size]? = _
   simp
  ·have hf:(es.toList.filter λx:MapEntry => !(#[]:Array Nat).contains x.born)=es.toList:=List.filter_eq_self.2 λ_ _=>by simp
   rw [hf,h2]
  ·rcases hb with rfl | rfl
   ·exact hh'.2.1 b Z hd'
   ·have:=Holds.lt (w:=w) hh'.2.2 hd'; omega
  ·exact bu.loc hh'.2.2 λb hb=>(hg.block b<|Holds.lt (w:=w) hh'.2.2 hb).symm
theorem Dc {d : Nat} {ty : TypeId} {x : Operand} {pos : String} {after : Array Edge} {mb ib : Nat} {m left : List (Bs × Value)} {last : Option (Bs × Value)} (hx : e.ev? x = some (.pointer (some ⟨ib, 0, none⟩))) (hs : Sel h (wZ mb ib m left last) h') (hd : d < c.n)
  (h0:left=[]->St c ops K rest ((d,.tuple #[.bool false])::e) (wZ mb ib m [] last::h'))
  (h1:∀ k v left',left.Perm ((k,v)::left')->St c ops K rest ((d,.tuple #[.bool true,sv k,v])::e) (wZ mb ib m left' (some (k,v))::h')) :
  St c ops K (⟨some d,.next x false,ty,pos,after,none⟩::rest) e h :=
 eF (by simp) λa w hk hh hw => by
  have hh':=hh.sel hs
  obtain ⟨hne,es,ck,seen,g1,g2,hB,g4,g5,g6⟩:=hh'.1
  have g1':w.heap[mb]? = some (.map es ck):=g1
  have g4':w.heap[ib]? = some (.mapIter (some mb) ck seen ck):=g4
  have hlt:ib<w.heap.size:=(Array.getElem?_eq_some_iff.1 g4').1
  rcases run_next_at (P:=c.P) g1' g4' hB.1 ty with ⟨q1,q2⟩ | ⟨z,hz,n,hdn,q2⟩
  ·simp only [execOp,hk.ev hx,Sem.run_bind,q2,Result.andThen_ok,Sem.run_pure]
   have hl:left=[]:=by
    rw [q1] at g5
    have:=g5.symm.eq_nil
    unfold kP at this
    simpa using this
   subst hl
   exact h0 Z _ _ (hk.put _ hd) hh' hw
  ·simp only [execOp,hk.ev hx,Sem.run_bind,q2,Result.andThen_ok,Sem.run_pure]
   have hz1:z∈es.toList:=(List.mem_filter.1 hz).1
   have hz2:seen.contains z.born=false:=by simpa using (List.mem_filter.1 hz).2
   have hzm:(z.key,z.val)∈kP left:=g5.mem_iff.1<|List.mem_map.2 ⟨z,hz,rfl⟩
   obtain ⟨⟨k,v⟩,hkv,hkv2⟩:=List.mem_map.1 hzm
   simp only [Prod.mk.injEq] at hkv2
   obtain ⟨hk1,hv1⟩:=hkv2
   obtain ⟨s,t,rfl⟩:=List.append_of_mem hkv
   have hp:(s++(k,v)::t).Perm ((k,v)::(s++t)):=List.perm_middle
   have hf:=Aw seen z hz2 es.toList hB.2.1 hz1
   have hrest:((es.toList.filter λx => !(seen.push z.born).contains x.born).map λx=>(x.key,x.val)).Perm (kP (s++t)):=by
    have h3:=(hf.map λx:MapEntry=>(x.key,x.val)).symm.trans<|g5.trans (hp.map λp:Bs×Value=>((sv p.1:Value),p.2))
    rw [List.map_cons,List.map_cons,<- hk1,<- hv1] at h3
    exact h3.cons_inv
   rw [<- hk1,<- hv1]
   have hsame:Same w { w with drawn:=n,heap:=w.heap.setIfInBounds ib (.mapIter (some mb) ck (seen.push z.born) ck) }:=⟨rfl,rfl,rfl,hdn,by simp,oP (b:=ib) (λo ho=>by rw [g4'] at ho; cases ho; rfl) (λo ho=>by
    have:(w.heap.setIfInBounds ib<|.mapIter (some mb) ck (seen.push z.born) ck)[ib]? = some o:=ho
    simp [hlt] at this; rw [<- this]; rfl) λc hc=>dS w ib c _ hc⟩
   refine h1 k v (s++t) hp _ _ (hk.put _ hd) ⟨⟨hne,es,ck,seen.push z.born,?_,g2,hB,?_,hrest,λp hp'=>?_⟩,hh'.2.1,?_⟩<|hw.trans hsame
   ·show (w.heap.setIfInBounds ib _)[mb]? = _
    rw [Array.getElem?_setIfInBounds_ne (Ne.symm hne)]; exact g1'
   ·show (w.heap.setIfInBounds ib _)[ib]? = _
    simp [hlt]
   ·cases hp'
    exact ⟨z,hz1,by simp,hk1.symm,hv1.symm⟩
   ·exact bu.loc hh'.2.2 λb hb=>(dS w ib b _<|λq=>hh'.2.1 b (.inr q) hb).symm
theorem De {ty:TypeId} {x:Operand} {mb ib:Nat} {m left:List (Bs×Value)} {k:Bs} {v:Value} (hx:e.ev? x=some (.pointer (some ⟨ib,0,none⟩))) (hs:Sel h (wZ mb ib m left (some (k,v))) h') :
  Vop c.P e h (.entry x) ty (.tuple #[sv k,v]):=
 ⟨by simp,by simp,λρ w d pos after g hρ hh=>by
  obtain ⟨_,es,ck,seen,g1,_,hB,g4,_,g6⟩:=(hh.sel hs).1
  obtain ⟨z,hz,hb,h1,h2⟩:=g6 _ rfl
  have:=run_entry_at (P:=c.P) (w:=w) g1 g4 hz hb hB.2.1
  rw [h1,h2] at this
  simp [execOp,hρ x _ hx,this]⟩
end
section
variable {c:Cx} {x:Code} {Q:Exit->Act->World->Prop} {e:Env} {h h':SH}
theorem GM {mb ib:Nat} {m left:List (Bs×Value)} {last:Option (Bs×Value)} (s:Sel h (wZ mb ib m left last) h') (hx:Cd c x Q e (mps mb m::h')):Cd c x Q e h:=λa w hk hh hw=>by
 have hh':=hh.sel s
 obtain ⟨_,es,ck,seen,g1,g2,hB,_⟩:=hh'.1
 exact hx a w hk ⟨⟨es,ck,g1,g2,hB⟩,λb hb=>hh'.2.1 b (.inl hb),hh'.2.2⟩ hw
end
end Go.Ck
