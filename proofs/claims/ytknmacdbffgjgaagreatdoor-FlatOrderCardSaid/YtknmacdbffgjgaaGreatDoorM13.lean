/-
  Package flat,Go's library: slices.SortFunc at members. Conditions: the row is owned.
-/
import Derived.Test.YtknmacdbffgjgaaGreatDoorM12
import Derived.Test.YtknmacdbffgjgaaGreatDoorM10
import Derived.Test.YtknmacdbffgjgaaGreatDoorM3
import Derived.Laws.IdiomRangeMap
set_option linter.unusedVariables false
set_option linter.unusedSimpArgs false
set_option maxRecDepth 100000
set_option maxHeartbeats 16000000
namespace Go.Fl
open Go Go.RowKit Go.Ck Go.Proofs Go.Proofs.Tryz Go.Proofs.YtknmacdbffgjgaaGreatDoor Fx Go.Hr
theorem GU {s t:Cla}:decide (s=t)=(decide (s.ex=t.ex) && s.tag == t.tag):=by
 obtain ⟨a,b⟩:=s
 obtain ⟨c,d⟩:=t
 rw [Bool.eq_iff_iff]
 simp [and_comm]
theorem Jg {s t:Vr}:decide (s=t)=(decide (s.ty=t.ty) && s.name == t.name):=by
 obtain ⟨a,b⟩:=s
 obtain ⟨c,d⟩:=t
 rw [Bool.eq_iff_iff]
 simp [and_comm]
attribute [local irreducible] Go.Ck.Sub St Cd Xt Nx DrL LsW
section
variable {X:Res} {v v':Value}
theorem eq39_ct {xs ys:List Vr} (hx:Ls X v xs) (hy:Ls X v' ys):Reads prog 39 #[v,v'] [X] (.bool (decide (xs=ys))):=by
 have hml:maxLen=9223372036854775807:=rfl
 obtain ⟨xa,xc,rfl,hlc,hcm,_⟩:=id hx.form
 obtain ⟨ya,yc,rfl,hlc',hcm',_⟩:=id hy.form
 refine aL (n:=44) func39 Z Z (len Z) λhr w0=>?_
 refine cQ<|sA Z<|sN<|nT<|cS<|cQ<|sM Z<|sV (aF Z underlying70)<|sM Z<|sV (aF Z underlying70)<|sV (bM Z Z)<|sK [0,1,4,11] Z<|cC Z (λhq=>?_)<|λhq=>?_
 ·rw [w9 (show xs.length≠ys.length from λh=>by rw [h] at hq; simp at hq)]
  refine cQ<|sA Z<|sK [4] Z<|cT<|xR ?_
  exact aj Z ⟨Z,Z⟩ sbq
 ·have hl:xs.length=ys.length:=by
   have hq:((xs.length:Nat):Int)=(ys.length:Nat):=Zu
   omega
  refine cK<|xT<|cS<|cQ<|sA Z<|sK [0,1,4,5] Z<|cB<|aZ (σ := Nat) (λi=>[(0,.slice xa xs.length xc),(1,.slice ya ys.length yc),(5,.int .i64 (i:Nat))]) (λ_=>X::hr) (λi=>i≤xs.length/\xs.take i=ys.take i) (λi=>xs.length - i) 0 ⟨Nat.zero_le _,Z⟩ ?_
  rintro i ⟨hi,hal⟩
  refine cS<|cQ<|sM Z<|sM Z<|sV (aF Z underlying70)<|sV (aN Z Z)<|sK [0,1,5,15] Z<|cC Z (λhd=>?_)<|λhd=>?_
  ·have hlt:i<xs.length:=Zx
   have hlt':i<ys.length:=by omega
   have hg:=Zy hlt
   have hg':=Zy hlt'
   obtain ⟨b,o,cap2,us,e1,hus,hrd,hta⟩:=hx.at hg
   cases e1
   obtain ⟨b',o',cap2',us',e1,hus',hrd',htb⟩:=hy.at hg'
   cases e1
   generalize xs[i]=x at hg hta
   generalize ys[i]=y at hg' htb
   obtain ⟨ts,rfl,hts⟩:=hta
   obtain ⟨us2,rfl,hus2⟩:=htb
   have hel:=Jf hts hus2
   obtain ⟨p,rfl,hp⟩:=ed hts
   obtain ⟨q,rfl,hq2⟩:=ed hus2
   unfold tyC at hrd hrd' hel
   refine cK<|xT<|cS<|cB<|cS<|bB (ork [(0,2),(1,2),(2,2),(3,2),(4,1),(5,2),(6,2),(7,2),(8,2),(9,1),(10,1),(11,2)] .nil) (λ_=>true) mixed Zz ?_
   refine dV Z (vM Z)<|dV Z (vM Z)<|dV Z (vI (k:=i) Z Z zK Z hlt Z)<|dV Z (vF Z jT Z)<|bg Z (af Z fH Z<|bD (k:=1) hrd (vs:=[.int .i64 x.ty.kind,sv x.ty.name,p,.bool x.ty.void,.bool x.ty.sep]) Z) ?_
   refine dV Z (vM Z)<|dV Z (vM Z)<|dV Z (vI (k:=i) Z Z zK Z hlt' Z)<|dV Z (vF Z jT Z)<|bg Z (af Z fH Z<|bD (k:=1) hrd' (vs:=[.int .i64 y.ty.kind,sv y.ty.name,q,.bool y.ty.void,.bool y.ty.sep]) Z) ?_
   refine gZ Z Z Z en40 Z (hel) ?_
   refine dV Z (vA Z)<|bA<|nK [0,1,5,6] Z<|nT<|cS<|bB (ork [(0,2),(1,2),(2,2),(3,2),(4,2),(5,2),(6,2),(7,1),(8,2),(9,2),(10,2),(11,2),(12,1),(13,1),(14,2)] .nil) (λ_=>true) mixed Zz ?_
   refine dV Z (vM Z)<|dV Z (bi Z)<|dV Z (vM Z) ?_
   have hxy:=Jg (s:=x) (t:=y)
   generalize hB:decide (x.ty=y.ty)=B
   rw [hB] at hxy
   cases B with
   | false =>
    have hne:x≠y:=by
     rw [Bool.false_and] at hxy; exact of_decide_eq_false hxy
    rw [rM hg hg' hne]
    iterate 4 refine ji rfl rfl rfl rfl ?_
    refine jV Z Z Z Z ?_
    iterate 4 refine ji rfl rfl rfl rfl ?_
    iterate 2 refine jV rfl rfl rfl rfl ?_
    refine dV Z (vQ Z Z)<|bA<|nK [0,1,5,43] Z<|nT<|aT Z ?_
    refine cQ<|sA Z<|sK [4] Z<|cT<|xW<|xR<|xR<|xW<|xR ?_
    exact aj Z ⟨Z,Z⟩ sbq
   | true =>
    refine d9 Z Z Z (vM Z)<|d9 Z Z Z (vM Z)<|d9 Z Z Z (vI (k:=i) Z Z zK Z hlt Z)<|d9 Z Z Z (vF Z yN Z)<|jI Z Z Z (vY Z ld9 (ha:=⟨X,_,slq,mZ (k:=0) hrd Z⟩)) ?_
    refine d9 Z Z Z (vM Z)<|d9 Z Z Z (vM Z)<|d9 Z Z Z (vI (k:=i) Z Z zK Z hlt' Z)<|d9 Z Z Z (vF Z yN Z)<|jI Z Z Z (vY Z ld9 (ha:=⟨X,_,slq,mZ (k:=0) hrd' Z⟩)) ?_
    refine jI Z Z Z (qO Z Z)<|dV Z (vP Z Z)<|bA<|nK [0,1,5,43] Z<|nT<|cC Z (λhne=>?_)<|λhne=>?_
    ·have hne:x≠y:=by
      have h2:(x.name == y.name)=false:=Zv
      rw [h2] at hxy
      exact of_decide_eq_false hxy
     rw [rM hg hg' hne]
     refine cQ<|sA Z<|sK [4] Z<|cT<|xW<|xR<|xR<|xW<|xR ?_
     exact aj Z ⟨Z,Z⟩ sbq
    ·have hne:x=y:=by
      have h2:(x.name == y.name)=true:=Zv
      rw [h2] at hxy
      exact of_decide_eq_true hxy
     refine cK<|xB<|xT<|cR<|sM Z<|sV (aI Z Z Z6)<|sA Z<|sN<|nK [0,1,5] Z<|au ?_
     refine aM (i+1) ⟨hlt,eT hal hg hg' hne⟩ (by show xs.length - (i+1)<xs.length - i; omega)
  ·have hie:i=xs.length:=Nat.le_antisymm hi<|Nat.not_lt.1 Zx
   subst hie
   rw [take_eq_all hl hal]
   refine aB<|xE<|xE<|xY<|xT<|cQ<|sA Z<|sK [4] Z<|cT ?_
   exact aj Z ⟨Z,Z⟩ sbq
theorem GV : ∀ (d : Nat) (s t : Ex) (us us' : List Value), s.depth ≤ d -> Enc.rep X us s -> Enc.rep X us' t -> Reads prog 235 #[.agg us.toArray, .agg us'.toArray] [X] (.bool (decide (s = t)))
 | 0,s,_,_,_,hd,_,_=>by cases s; simp [Ex.depth] at hd
 | d + 1, s, t, us, us', hd, hs, ht => by
  have hml:maxLen=9223372036854775807:=rfl
  obtain ⟨x,rfl,hx⟩:=lX hs
  obtain ⟨y,rfl,hy⟩:=lX ht
  have hF:∀ (a b:Ex) us us',a∈s.kids->Enc.rep X us a->Enc.rep X us' b->Reads prog 235 #[.agg us.toArray,.agg us'.toArray] [X] (.bool<|decide (a=b)):=λa b us us' ha h1 h2=>GV d a b us us' (by have:=pI ha; omega) h1 h2
  rw [Da]
  obtain ⟨xa,xc,rfl,hlc,hcm,_⟩:=hx.form
  obtain ⟨ya,yc,rfl,hlc',hcm',_⟩:=hy.form
  unfold exC
  refine aL (n:=55) func235 Z Z (len Z) λhr w0=>?_
  refine cQ (aV Z Z λb2=>?_)
  refine aV Z Z λb3=>?_
  refine sA Z<|sK [2,3,4] Z<|cS<|cQ<|sV (vF Z yR Z)<|sV (vY Z ld3) ?_
  refine sV (vF Z yR Z)<|sV (vY Z ld3) ?_
  refine sV (bM Z Z)<|sM Z<|bC (k:=12) (d:=18) (v:=.bool ((s.kind != t.kind) || !(s.name == t.name))) (λhcut=>aJ (b:=(s.kind != t.kind)) false (λhg=>?_)<|λhg=>?_) ?_
  ·refine aC Z Z hg ?_
   iterate 4 refine aC rfl rfl hg ?_
   refine sV (vQ (bO Z hg) Z) ?_
   exact hcut _ uG
  ·refine sG Z (bG Z hg) (vF Z yS Z)<|sG Z (bG Z hg) (vY Z ld9) ?_
   refine sG Z (bG Z hg) (vF Z yS Z)<|sG Z (bG Z hg) (vY Z ld9) ?_
   refine sG Z (bG Z hg) (qO Z Z)<|sV (vP (bO Z hg) Z) ?_
   exact hcut _ uG
  refine sM Z<|bC (k:=19) (d:=25) (v:=.bool (((s.kind != t.kind) || !(s.name == t.name)) || (s.num != t.num))) (λhcut=>aJ (b:=((s.kind != t.kind) || !(s.name == t.name))) false (λhg=>?_)<|λhg=>?_) ?_
  ·refine aC Z Z hg ?_
   iterate 4 refine aC rfl rfl hg ?_
   refine sV (vQ (bO Z hg) Z) ?_
   exact hcut _ uG
  ·refine sG Z (bG Z hg) (vF Z yT Z)<|sG Z (bG Z hg) (vY Z ld3) ?_
   refine sG Z (bG Z hg) (vF Z yT Z)<|sG Z (bG Z hg) (vY Z ld3) ?_
   refine sG Z (bG Z hg) (bM Z Z)<|sV (vP (bO Z hg) Z) ?_
   exact hcut _ uG
  refine sM Z<|bC (k:=28) (d:=34) (v:=.bool ((((s.kind != t.kind) || !(s.name == t.name)) || (s.num != t.num)) || (((s.kids.length:Nat):Int) != (t.kids.length:Nat)))) (λhcut=>aJ (b:=(((s.kind != t.kind) || !(s.name == t.name)) || (s.num != t.num))) false (λhg=>?_)<|λhg=>?_) ?_
  ·refine aC Z Z hg ?_
   iterate 6 refine aC rfl rfl hg ?_
   refine sV (vQ (bO Z hg) Z) ?_
   exact hcut _ uG
  ·refine sG Z (bG Z hg) (vF Z jB Z)<|sG Z (bG Z hg) (vY Z sU) ?_
   refine sG Z (bG Z hg) (aF Z underlying214)<|sG Z (bG Z hg) (vF Z jB Z)<|sG Z (bG Z hg) (vY Z sU) ?_
   refine sG Z (bG Z hg) (aF Z underlying214)<|sG Z (bG Z hg) (bM Z Z)<|sV (vP (bO Z hg) Z) ?_
   exact hcut _ uG
  refine sK [2,3,4,34] Z<|cC Z (λhq=>?_)<|λhq=>?_
  ·rw [show (((s.kind == t.kind && s.name == t.name) && s.num == t.num) && decide (s.kids=t.kids))=false by
    cases hw:(((s.kind == t.kind && s.name == t.name) && s.num == t.num) && decide (s.kids=t.kids)) with
    | false=>rfl
    | true =>
     simp only [Bool.and_eq_true,beq_iff_eq,decide_eq_true_eq] at hw
     obtain ⟨⟨⟨w1,w2⟩,w3⟩,w4⟩:=hw
     rw [w4] at hq
     simp [w1,w2,w3] at hq]
   refine cQ<|sA Z<|sK [4] Z<|cT<|xR ?_
   exact aj Z ⟨Z,Z⟩ sbq
  ·have hq:((((s.kind != t.kind) || !(s.name == t.name)) || (s.num != t.num)) || (((s.kids.length:Nat):Int) != (t.kids.length:Nat)))=false:=hq
   simp only [Bool.or_eq_false_iff,bne_eq_false_iff_eq,Bool.not_eq_false',beq_iff_eq] at hq
   obtain ⟨⟨⟨q1,q2⟩,q3⟩,q5⟩:=hq
   have hl:s.kids.length=t.kids.length:=by omega
   rw [show (((s.kind == t.kind && s.name == t.name) && s.num == t.num) && decide (s.kids=t.kids))=decide (s.kids=t.kids) by simp [q1,q2,q3]]
   refine cK<|xT<|cS<|cQ<|sA Z<|sK [2,3,4,5] Z<|cB<|aZ (σ := Nat) (λi=>[(2,.pointer (some ⟨b2,0,none⟩)),(3,.pointer (some ⟨b3,0,none⟩)),(5,.int .i64 (i:Nat))]) (λ_=>pt b2 (cl [.int .i64 s.kind,sv s.name,.int .i64 s.num,.slice xa s.kids.length xc] 216)::pt b3 (cl [.int .i64 t.kind,sv t.name,.int .i64 t.num,.slice ya t.kids.length yc] 216)::X::hr) (λi=>i≤s.kids.length/\s.kids.take i=t.kids.take i) (λi=>s.kids.length - i) 0 ⟨Nat.zero_le _,Z⟩ ?_
   rintro i ⟨hi,hal⟩
   refine cS<|cQ<|sM Z<|sV (vF Z jB Z)<|sV (vY Z sU) ?_
   refine sV (aF Z underlying214)<|sV (aN Z Z)<|sK [2,3,5,39] Z<|cC Z (λhd=>?_)<|λhd=>?_
   ·have hlt:i<s.kids.length:=Zx
    have hlt':i<t.kids.length:=by omega
    have hg:=Zy hlt
    have hg':=Zy hlt'
    have hmem:=List.getElem_mem hlt
    obtain ⟨b,o,cap2,us,e1,hus,hrd,hta⟩:=hx.at hg
    cases e1
    obtain ⟨b',o',cap2',us',e1,hus',hrd',htb⟩:=hy.at hg'
    cases e1
    generalize s.kids[i]=x at hg hmem hta
    generalize t.kids[i]=y at hg' htb
    refine cK<|xT<|cS<|cB<|cS<|bB (ork [(0,2),(1,1),(2,2),(3,2),(4,1),(5,2),(6,1),(7,2),(8,2),(9,1),(10,1),(11,2)] .nil) (λ_=>true) mixed Zz ?_
    refine dV Z (vF Z jB Z)<|bg Z (vY Z sU) ?_
    refine dV Z (vM Z)<|dV Z (vI (k:=i) Z Z Cz Z hlt Z)<|bg Z (af Z jX hus hrd) ?_
    refine dV Z (vF Z jB Z)<|bg Z (vY Z sU) ?_
    refine dV Z (vM Z)<|dV Z (vI (k:=i) Z Z Cz Z hlt' Z)<|bg Z (af Z jX hus' hrd') ?_
    refine gZ Z Z Z en235 Z ((hF x y us us' hmem hta htb)) ?_
    refine dV Z (vA Z)<|bA<|nK [2,3,5,6] Z<|nT<|cQ<|sM Z<|sV (bi Z)<|sK [2,3,5,54] Z<|cC Z (λhne=>?_)<|λhne=>?_
    ·have hne:x≠y:=Zv
     rw [rM hg hg' hne]
     refine cQ<|sA Z<|sK [4] Z<|cT<|xW<|xR<|xR<|xW<|xR ?_
     exact aj Z ⟨Z,Z⟩ sbq
    ·have hne:x=y:=Zv
     refine cK<|xB<|xT<|cR<|sM Z<|sV (aI Z Z Z6)<|sA Z<|sN<|nK [2,3,5] Z<|au ?_
     refine aM (i+1) ⟨hlt,eT hal hg hg' hne⟩ (by show s.kids.length - (i+1)<s.kids.length - i; omega)
   ·have hie:i=s.kids.length:=Nat.le_antisymm hi<|Nat.not_lt.1 Zx
    subst hie
    rw [take_eq_all hl hal]
    refine aB<|xE<|xE<|xY<|xT<|cQ<|sA Z<|sK [4] Z<|cT ?_
    exact aj Z ⟨Z,Z⟩ sbq
theorem eqE_ct {s t:Ex} {us us':List Value} (hs:Enc.rep X us s) (ht:Enc.rep X us' t):Reads prog 235 #[.agg us.toArray,.agg us'.toArray] [X] (.bool (decide (s=t))):=GV _ s t us us' (Nat.le_refl _) hs ht
theorem Oy {xs ys:List Cla} (hx:Ls X v xs) (hy:Ls X v' ys):Reads prog 168 #[v,v'] [X] (.bool (decide (xs=ys))):=by
 have hml:maxLen=9223372036854775807:=rfl
 obtain ⟨xa,xc,rfl,hlc,hcm,_⟩:=id hx.form
 obtain ⟨ya,yc,rfl,hlc',hcm',_⟩:=id hy.form
 refine aL (n:=44) func168 Z Z (len Z) λhr w0=>?_
 refine cQ<|sA Z<|sN<|nT<|cS<|cQ<|sM Z<|sV (aF Z underlying42)<|sM Z<|sV (aF Z underlying42)<|sV (bM Z Z)<|sK [0,1,4,11] Z<|cC Z (λhq=>?_)<|λhq=>?_
 ·rw [w9 (show xs.length≠ys.length from λh=>by rw [h] at hq; simp at hq)]
  refine cQ<|sA Z<|sK [4] Z<|cT<|xR ?_
  exact aj Z ⟨Z,Z⟩ sbq
 ·have hl:xs.length=ys.length:=by
   have hq:((xs.length:Nat):Int)=(ys.length:Nat):=Zu
   omega
  refine cK<|xT<|cS<|cQ<|sA Z<|sK [0,1,4,5] Z<|cB<|aZ (σ := Nat) (λi=>[(0,.slice xa xs.length xc),(1,.slice ya ys.length yc),(5,.int .i64 (i:Nat))]) (λ_=>X::hr) (λi=>i≤xs.length/\xs.take i=ys.take i) (λi=>xs.length - i) 0 ⟨Nat.zero_le _,Z⟩ ?_
  rintro i ⟨hi,hal⟩
  refine cS<|cQ<|sM Z<|sM Z<|sV (aF Z underlying42)<|sV (aN Z Z)<|sK [0,1,5,15] Z<|cC Z (λhd=>?_)<|λhd=>?_
  ·have hlt:i<xs.length:=Zx
   have hlt':i<ys.length:=by omega
   have hg:=Zy hlt
   have hg':=Zy hlt'
   obtain ⟨b,o,cap2,us,e1,hus,hrd,hta⟩:=hx.at hg
   cases e1
   obtain ⟨b',o',cap2',us',e1,hus',hrd',htb⟩:=hy.at hg'
   cases e1
   generalize xs[i]=x at hg hta
   generalize ys[i]=y at hg' htb
   obtain ⟨ts,rfl,hts⟩:=hta
   obtain ⟨us2,rfl,hus2⟩:=htb
   have hel:=eqE_ct hts hus2
   obtain ⟨p,rfl,hp⟩:=lX hts
   obtain ⟨q,rfl,hq2⟩:=lX hus2
   unfold exC at hrd hrd' hel
   refine cK<|xT<|cS<|cB<|cS<|bB (ork [(0,2),(1,2),(2,2),(3,2),(4,1),(5,2),(6,2),(7,2),(8,2),(9,1),(10,1),(11,2)] .nil) (λ_=>true) mixed Zz ?_
   refine dV Z (vM Z)<|dV Z (vM Z)<|dV Z (vI (k:=i) Z Z FI Z hlt Z)<|dV Z (vF Z pE Z)<|bg Z (af Z jX Z<|bD (k:=1) hrd (vs:=[.int .i64 x.ex.kind,sv x.ex.name,.int .i64 x.ex.num,p]) Z) ?_
   refine dV Z (vM Z)<|dV Z (vM Z)<|dV Z (vI (k:=i) Z Z FI Z hlt' Z)<|dV Z (vF Z pE Z)<|bg Z (af Z jX Z<|bD (k:=1) hrd' (vs:=[.int .i64 y.ex.kind,sv y.ex.name,.int .i64 y.ex.num,q]) Z) ?_
   refine gZ Z Z Z en235 Z (hel) ?_
   refine dV Z (vA Z)<|bA<|nK [0,1,5,6] Z<|nT<|cS<|bB (ork [(0,2),(1,2),(2,2),(3,2),(4,2),(5,2),(6,2),(7,1),(8,2),(9,2),(10,2),(11,2),(12,1),(13,1),(14,2)] .nil) (λ_=>true) mixed Zz ?_
   refine dV Z (vM Z)<|dV Z (bi Z)<|dV Z (vM Z) ?_
   have hxy:=GU (s:=x) (t:=y)
   generalize hB:decide (x.ex=y.ex)=B
   rw [hB] at hxy
   cases B with
   | false =>
    have hne:x≠y:=by
     rw [Bool.false_and] at hxy; exact of_decide_eq_false hxy
    rw [rM hg hg' hne]
    iterate 4 refine ji rfl rfl rfl rfl ?_
    refine jV Z Z Z Z ?_
    iterate 4 refine ji rfl rfl rfl rfl ?_
    iterate 2 refine jV rfl rfl rfl rfl ?_
    refine dV Z (vQ Z Z)<|bA<|nK [0,1,5,43] Z<|nT<|aT Z ?_
    refine cQ<|sA Z<|sK [4] Z<|cT<|xW<|xR<|xR<|xW<|xR ?_
    exact aj Z ⟨Z,Z⟩ sbq
   | true =>
    refine d9 Z Z Z (vM Z)<|d9 Z Z Z (vM Z)<|d9 Z Z Z (vI (k:=i) Z Z FI Z hlt Z)<|d9 Z Z Z (vF Z yU Z)<|jI Z Z Z (vY Z ld9 (ha:=⟨X,_,slq,mZ (k:=0) hrd Z⟩)) ?_
    refine d9 Z Z Z (vM Z)<|d9 Z Z Z (vM Z)<|d9 Z Z Z (vI (k:=i) Z Z FI Z hlt' Z)<|d9 Z Z Z (vF Z yU Z)<|jI Z Z Z (vY Z ld9 (ha:=⟨X,_,slq,mZ (k:=0) hrd' Z⟩)) ?_
    refine jI Z Z Z (qO Z Z)<|dV Z (vP Z Z)<|bA<|nK [0,1,5,43] Z<|nT<|cC Z (λhne=>?_)<|λhne=>?_
    ·have hne:x≠y:=by
      have h2:(x.tag == y.tag)=false:=Zv
      rw [h2] at hxy
      exact of_decide_eq_false hxy
     rw [rM hg hg' hne]
     refine cQ<|sA Z<|sK [4] Z<|cT<|xW<|xR<|xR<|xW<|xR ?_
     exact aj Z ⟨Z,Z⟩ sbq
    ·have hne:x=y:=by
      have h2:(x.tag == y.tag)=true:=Zv
      rw [h2] at hxy
      exact of_decide_eq_true hxy
     refine cK<|xB<|xT<|cR<|sM Z<|sV (aI Z Z Z6)<|sA Z<|sN<|nK [0,1,5] Z<|au ?_
     refine aM (i+1) ⟨hlt,eT hal hg hg' hne⟩ (by show xs.length - (i+1)<xs.length - i; omega)
  ·have hie:i=xs.length:=Nat.le_antisymm hi<|Nat.not_lt.1 Zx
   subst hie
   rw [take_eq_all hl hal]
   refine aB<|xE<|xE<|xY<|xT<|cQ<|sA Z<|sK [4] Z<|cT ?_
   exact aj Z ⟨Z,Z⟩ sbq
theorem eq96_ct {s t:Grp} {us us':List Value} (hs:Enc.rep X us s) (ht:Enc.rep X us' t):Reads prog 96 #[.agg us.toArray,.agg us'.toArray] [X] (.bool (decide (s=t))):=by
 obtain ⟨x,rfl,hx⟩:=hs
 obtain ⟨y,rfl,hy⟩:=ht
 have hel:=Oy hx hy
 rw [Db,Bool.and_comm]
 refine aL (n:=19) func96 Z Z (len Z) λhr w0=>?_
 refine cQ (aV Z Z λb2=>?_)
 refine aV Z Z λb3=>?_
 refine sA Z<|sK [2,3,4] Z<|cQ<|sV (vF Z rX Z)<|sV (vY Z tN) ?_
 refine sV (vF Z rX Z)<|sV (vY Z tN) ?_
 refine aY Z Z en168 Z (hel) ?_
 refine sA Z<|sK [2,3,4,5] Z<|cQ<|sM Z<|sM Z<|bC (k:=8) (d:=18) (v:=.bool (decide (s.cs=t.cs) && s.cls == t.cls)) (λhcut=>aJ (b:=(decide (s.cs=t.cs))) true (λhg=>?_)<|λhg=>?_) ?_
 ·refine aC Z Z hg ?_
  iterate 4 refine aC rfl rfl hg ?_
  refine sV (vP (bO Z hg) Z) ?_
  exact hcut _ uG
 ·refine sG Z (bG Z hg) (vF Z yP Z)<|sG Z (bG Z hg) (vY Z ld9) ?_
  refine sG Z (bG Z hg) (vF Z yP Z)<|sG Z (bG Z hg) (vY Z ld9) ?_
  refine sG Z (bG Z hg) (gQ Z Z)<|sV (vQ (bO Z hg) Z) ?_
  exact hcut _ uG
 refine sA Z<|sK [4] Z<|cT ?_
 exact aj Z ⟨Z,Z⟩ sbq
theorem AA {xs ys:List Grp} (hx:Ls X v xs) (hy:Ls X v' ys):Reads prog 107 #[v,v'] [X] (.bool (decide (xs=ys))):=by
 have hml:maxLen=9223372036854775807:=rfl
 obtain ⟨xa,xc,rfl,hlc,hcm,_⟩:=id hx.form
 obtain ⟨ya,yc,rfl,hlc',hcm',_⟩:=id hy.form
 refine aL (n:=29) func107 Z Z (len Z) λhr w0=>?_
 refine cQ<|sA Z<|sN<|nT<|cS<|cQ<|sM Z<|sV (aF Z underlying53)<|sM Z<|sV (aF Z underlying53)<|sV (bM Z Z)<|sK [0,1,4,11] Z<|cC Z (λhq=>?_)<|λhq=>?_
 ·rw [w9 (show xs.length≠ys.length from λh=>by rw [h] at hq; simp at hq)]
  refine cQ<|sA Z<|sK [4] Z<|cT<|xR ?_
  exact aj Z ⟨Z,Z⟩ sbq
 ·have hl:xs.length=ys.length:=by
   have hq:((xs.length:Nat):Int)=(ys.length:Nat):=Zu
   omega
  refine cK<|xT<|cS<|cQ<|sA Z<|sK [0,1,4,5] Z<|cB<|aZ (σ := Nat) (λi=>[(0,.slice xa xs.length xc),(1,.slice ya ys.length yc),(5,.int .i64 (i:Nat))]) (λ_=>X::hr) (λi=>i≤xs.length/\xs.take i=ys.take i) (λi=>xs.length - i) 0 ⟨Nat.zero_le _,Z⟩ ?_
  rintro i ⟨hi,hal⟩
  refine cS<|cQ<|sM Z<|sM Z<|sV (aF Z underlying53)<|sV (aN Z Z)<|sK [0,1,5,15] Z<|cC Z (λhd=>?_)<|λhd=>?_
  ·have hlt:i<xs.length:=Zx
   have hlt':i<ys.length:=by omega
   have hg:=Zy hlt
   have hg':=Zy hlt'
   obtain ⟨b,o,cap2,us,e1,hus,hrd,hta⟩:=hx.at hg
   cases e1
   obtain ⟨b',o',cap2',us',e1,hus',hrd',htb⟩:=hy.at hg'
   cases e1
   generalize xs[i]=x at hg hta
   generalize ys[i]=y at hg' htb
   refine cK<|xT<|cS<|cB<|cS<|bB (ork [(0,2),(1,2),(2,2),(3,1),(4,2),(5,2),(6,2),(7,1),(8,1),(9,2)] .nil) (λ_=>true) mixed Zz ?_
   refine dV Z (vM Z)<|dV Z (vM Z)<|dV Z (vI (k:=i) Z Z sl53 Z hlt Z)<|bg Z (af Z qV hus hrd) ?_
   refine dV Z (vM Z)<|dV Z (vM Z)<|dV Z (vI (k:=i) Z Z sl53 Z hlt' Z)<|bg Z (af Z qV hus' hrd') ?_
   refine gZ Z Z Z en96 Z ((eq96_ct hta htb)) ?_
   refine dV Z (vA Z)<|bA<|nK [0,1,5,6] Z<|nT<|cQ<|sM Z<|sV (bi Z)<|sK [0,1,5,28] Z<|cC Z (λhne=>?_)<|λhne=>?_
   ·have hne:x≠y:=Zv
    rw [rM hg hg' hne]
    refine cQ<|sA Z<|sK [4] Z<|cT<|xW<|xR<|xR<|xW<|xR ?_
    exact aj Z ⟨Z,Z⟩ sbq
   ·have hne:x=y:=Zv
    refine cK<|xB<|xT<|cR<|sM Z<|sV (aI Z Z Z6)<|sA Z<|sN<|nK [0,1,5] Z<|au ?_
    refine aM (i+1) ⟨hlt,eT hal hg hg' hne⟩ (by show xs.length - (i+1)<xs.length - i; omega)
  ·have hie:i=xs.length:=Nat.le_antisymm hi<|Nat.not_lt.1 Zx
   subst hie
   rw [take_eq_all hl hal]
   refine aB<|xE<|xE<|xY<|xT<|cQ<|sA Z<|sK [4] Z<|cT ?_
   exact aj Z ⟨Z,Z⟩ sbq
theorem Jh {s t:Mb}:decide (s=t)=((((((((decide (s.seeds=t.seeds) && decide (s.args=t.args)) && decide (s.ty=t.ty)) && decide (s.clients=t.clients)) && decide (s.pre=t.pre)) && decide (s.post=t.post)) && s.name == t.name) && s.kind == t.kind) && ([s.impl.cls,s.impl.name] == [t.impl.cls,t.impl.name])):=by
 obtain ⟨a1,a2,a3,⟨a4,a5⟩,a6,a7,a8,a9,a10⟩:=s
 obtain ⟨b1,b2,b3,⟨b4,b5⟩,b6,b7,b8,b9,b10⟩:=t
 rw [Bool.eq_iff_iff]
 simp only [decide_eq_true_eq,Bool.and_eq_true,beq_iff_eq,Mb.mk.injEq,Sd.mk.injEq,List.cons.injEq,and_true]
 constructor
 ·rintro ⟨h1,h2,h3,⟨h4,h5⟩,h6,h7,h8,h9,h10⟩; exact ⟨⟨⟨⟨⟨⟨⟨⟨h3,h6⟩,h7⟩,h8⟩,h9⟩,h10⟩,h1⟩,h2⟩,h4,h5⟩
 ·rintro ⟨⟨⟨⟨⟨⟨⟨⟨h3,h6⟩,h7⟩,h8⟩,h9⟩,h10⟩,h1⟩,h2⟩,h4,h5⟩; exact ⟨h1,h2,h3,⟨h4,h5⟩,h6,h7,h8,h9,h10⟩
theorem eq47_ct {s t:Mb} {us us':List Value} (hs:Enc.rep X us s) (ht:Enc.rep X us' t):Reads prog 47 #[.agg us.toArray,.agg us'.toArray] [X] (.bool (decide (s=t))):=by
 obtain ⟨x2,x5,xy,x11,x12,x13,rfl,hx2,hx5,hxy,hx11,hx12,hx13⟩:=dI hs
 obtain ⟨y2,y5,yy,y11,y12,y13,rfl,hy2,hy5,hyy,hy11,hy12,hy13⟩:=dI ht
 have e1:=Ox hx2 hy2
 have e2:=eq39_ct hx5 hy5
 have e3:=Jf (gH (t:=s.ty) rfl hxy)<|gH (t:=t.ty) rfl hyy
 have e4:=KL hx11 hy11
 have e5:=AA hx12 hy12
 have e6:=AA hx13 hy13
 rw [Jh]
 unfold iB
 unfold tyC at e3
 refine aL (n:=78) func47 Z Z (len Z) λhr w0=>?_
 refine cQ (aV Z Z λb2=>?_)
 refine aV Z Z λb3=>?_
 refine sA Z<|sK [2,3,4] Z<|cQ<|sV (vF Z eF Z)<|sV (vY Z oZ) ?_
 refine sV (vF Z eF Z)<|sV (vY Z oZ) ?_
 refine aY Z Z en108 Z (e1) ?_
 refine sA Z<|sK [2,3,4,5] Z<|cQ<|sV (vF Z jL Z)<|sV (vY Z qR) ?_
 refine sV (vF Z jL Z)<|sV (vY Z qR) ?_
 refine aY Z Z en39 Z (e2) ?_
 refine sA Z<|sK [2,3,4,5,6] Z<|cQ<|sV (vF Z mY Z)<|sV (af Z fH Z<|bD (us:=[sv s.name,.int .i64 s.kind,x2,sv s.impl.cls,sv s.impl.name,x5,.int .i64 s.ty.kind,sv s.ty.name,xy,.bool s.ty.void,.bool s.ty.sep,x11,x12,x13]) (k:=6) ah (vs:=[.int .i64 s.ty.kind,sv s.ty.name,xy,.bool s.ty.void,.bool s.ty.sep]) Z) ?_
 refine sV (vF Z mY Z)<|sV (af Z fH Z<|bD (us:=[sv t.name,.int .i64 t.kind,y2,sv t.impl.cls,sv t.impl.name,y5,.int .i64 t.ty.kind,sv t.ty.name,yy,.bool t.ty.void,.bool t.ty.sep,y11,y12,y13]) (k:=6) ah (vs:=[.int .i64 t.ty.kind,sv t.ty.name,yy,.bool t.ty.void,.bool t.ty.sep]) Z) ?_
 refine aY Z Z en40 Z (e3) ?_
 refine sA Z<|sK [2,3,4,5,6,7] Z<|cQ<|sV (vF Z D9 Z)<|sV (vY Z fG) ?_
 refine sV (vF Z D9 Z)<|sV (vY Z fG) ?_
 refine aY Z Z en51 Z (e4) ?_
 refine sA Z<|sK [2,3,4,5,6,7,8] Z<|cQ<|sV (vF Z iX Z)<|sV (vY Z qQ) ?_
 refine sV (vF Z iX Z)<|sV (vY Z qQ) ?_
 refine aY Z Z en107 Z (e5) ?_
 refine sA Z<|sK [2,3,4,5,6,7,8,9] Z<|cQ<|sV (vF Z iY Z)<|sV (vY Z qQ) ?_
 refine sV (vF Z iY Z)<|sV (vY Z qQ) ?_
 refine aY Z Z en107 Z (e6) ?_
 refine sA Z<|sK [2,3,4,5,6,7,8,9,10] Z<|cQ<|sM Z<|sM Z<|bC (k:=4) (d:=44) (v:=.bool (decide (s.seeds=t.seeds) && decide (s.args=t.args))) (λhcut=>aJ (b:=decide (s.seeds=t.seeds)) true (λhg=>?_)<|λhg=>?_) ?_
 ·refine aC Z Z hg ?_
  refine sV (vP (bO Z hg) Z) ?_
  exact hcut _ uG
 ·refine sG Z (bG Z hg) (vM Z)<|sV (vQ (bO Z hg) Z) ?_
  exact hcut _ uG
 refine sM Z<|bC (k:=7) (d:=47) (v:=.bool ((decide (s.seeds=t.seeds) && decide (s.args=t.args)) && decide (s.ty=t.ty))) (λhcut=>aJ (b:=(decide (s.seeds=t.seeds) && decide (s.args=t.args))) true (λhg=>?_)<|λhg=>?_) ?_
 ·refine aC Z Z hg ?_
  refine sV (vP (bO Z hg) Z) ?_
  exact hcut _ uG
 ·refine sG Z (bG Z hg) (vM Z)<|sV (vQ (bO Z hg) Z) ?_
  exact hcut _ uG
 refine sM Z<|bC (k:=10) (d:=50) (v:=.bool (((decide (s.seeds=t.seeds) && decide (s.args=t.args)) && decide (s.ty=t.ty)) && decide (s.clients=t.clients))) (λhcut=>aJ (b:=((decide (s.seeds=t.seeds) && decide (s.args=t.args)) && decide (s.ty=t.ty))) true (λhg=>?_)<|λhg=>?_) ?_
 ·refine aC Z Z hg ?_
  refine sV (vP (bO Z hg) Z) ?_
  exact hcut _ uG
 ·refine sG Z (bG Z hg) (vM Z)<|sV (vQ (bO Z hg) Z) ?_
  exact hcut _ uG
 refine sM Z<|bC (k:=13) (d:=53) (v:=.bool ((((decide (s.seeds=t.seeds) && decide (s.args=t.args)) && decide (s.ty=t.ty)) && decide (s.clients=t.clients)) && decide (s.pre=t.pre))) (λhcut=>aJ (b:=(((decide (s.seeds=t.seeds) && decide (s.args=t.args)) && decide (s.ty=t.ty)) && decide (s.clients=t.clients))) true (λhg=>?_)<|λhg=>?_) ?_
 ·refine aC Z Z hg ?_
  refine sV (vP (bO Z hg) Z) ?_
  exact hcut _ uG
 ·refine sG Z (bG Z hg) (vM Z)<|sV (vQ (bO Z hg) Z) ?_
  exact hcut _ uG
 refine sM Z<|bC (k:=16) (d:=56) (v:=.bool (((((decide (s.seeds=t.seeds) && decide (s.args=t.args)) && decide (s.ty=t.ty)) && decide (s.clients=t.clients)) && decide (s.pre=t.pre)) && decide (s.post=t.post))) (λhcut=>aJ (b:=((((decide (s.seeds=t.seeds) && decide (s.args=t.args)) && decide (s.ty=t.ty)) && decide (s.clients=t.clients)) && decide (s.pre=t.pre))) true (λhg=>?_)<|λhg=>?_) ?_
 ·refine aC Z Z hg ?_
  refine sV (vP (bO Z hg) Z) ?_
  exact hcut _ uG
 ·refine sG Z (bG Z hg) (vM Z)<|sV (vQ (bO Z hg) Z) ?_
  exact hcut _ uG
 refine sM Z<|bC (k:=23) (d:=63) (v:=.bool ((((((decide (s.seeds=t.seeds) && decide (s.args=t.args)) && decide (s.ty=t.ty)) && decide (s.clients=t.clients)) && decide (s.pre=t.pre)) && decide (s.post=t.post)) && s.name == t.name)) (λhcut=>aJ (b:=(((((decide (s.seeds=t.seeds) && decide (s.args=t.args)) && decide (s.ty=t.ty)) && decide (s.clients=t.clients)) && decide (s.pre=t.pre)) && decide (s.post=t.post))) true (λhg=>?_)<|λhg=>?_) ?_
 ·refine aC Z Z hg ?_
  iterate 4 refine aC rfl rfl hg ?_
  refine sV (vP (bO Z hg) Z) ?_
  exact hcut _ uG
 ·refine sG Z (bG Z hg) (vF Z eD Z)<|sG Z (bG Z hg) (vY Z ld9) ?_
  refine sG Z (bG Z hg) (vF Z eD Z)<|sG Z (bG Z hg) (vY Z ld9) ?_
  refine sG Z (bG Z hg) (gQ Z Z)<|sV (vQ (bO Z hg) Z) ?_
  exact hcut _ uG
 refine sM Z<|bC (k:=30) (d:=70) (v:=.bool (((((((decide (s.seeds=t.seeds) && decide (s.args=t.args)) && decide (s.ty=t.ty)) && decide (s.clients=t.clients)) && decide (s.pre=t.pre)) && decide (s.post=t.post)) && s.name == t.name) && s.kind == t.kind)) (λhcut=>aJ (b:=((((((decide (s.seeds=t.seeds) && decide (s.args=t.args)) && decide (s.ty=t.ty)) && decide (s.clients=t.clients)) && decide (s.pre=t.pre)) && decide (s.post=t.post)) && s.name == t.name)) true (λhg=>?_)<|λhg=>?_) ?_
 ·refine aC Z Z hg ?_
  iterate 4 refine aC rfl rfl hg ?_
  refine sV (vP (bO Z hg) Z) ?_
  exact hcut _ uG
 ·refine sG Z (bG Z hg) (vF Z tO Z)<|sG Z (bG Z hg) (vY Z ld3) ?_
  refine sG Z (bG Z hg) (vF Z tO Z)<|sG Z (bG Z hg) (vY Z ld3) ?_
  refine sG Z (bG Z hg) (dD Z Z)<|sV (vQ (bO Z hg) Z) ?_
  exact hcut _ uG
 refine sM Z<|bC (k:=37) (d:=77) (v:=.bool ((((((((decide (s.seeds=t.seeds) && decide (s.args=t.args)) && decide (s.ty=t.ty)) && decide (s.clients=t.clients)) && decide (s.pre=t.pre)) && decide (s.post=t.post)) && s.name == t.name) && s.kind == t.kind) && ([s.impl.cls,s.impl.name] == [t.impl.cls,t.impl.name]))) (λhcut=>aJ (b:=(((((((decide (s.seeds=t.seeds) && decide (s.args=t.args)) && decide (s.ty=t.ty)) && decide (s.clients=t.clients)) && decide (s.pre=t.pre)) && decide (s.post=t.post)) && s.name == t.name) && s.kind == t.kind)) true (λhg=>?_)<|λhg=>?_) ?_
 ·refine aC Z Z hg ?_
  iterate 4 refine aC rfl rfl hg ?_
  refine sV (vP (bO Z hg) Z) ?_
  exact hcut _ uG
 ·refine sG Z (bG Z hg) (vF Z wH Z)<|sG Z (bG Z hg) (af Z ic Z<|bD (us:=[sv s.name,.int .i64 s.kind,x2,sv s.impl.cls,sv s.impl.name,x5,.int .i64 s.ty.kind,sv s.ty.name,xy,.bool s.ty.void,.bool s.ty.sep,x11,x12,x13]) (k:=3) ah (vs:=[sv s.impl.cls,sv s.impl.name]) Z) ?_
  refine sG Z (bG Z hg) (vF Z wH Z)<|sG Z (bG Z hg) (af Z ic Z<|bD (us:=[sv t.name,.int .i64 t.kind,y2,sv t.impl.cls,sv t.impl.name,y5,.int .i64 t.ty.kind,sv t.ty.name,yy,.bool t.ty.void,.bool t.ty.sep,y11,y12,y13]) (k:=3) ah (vs:=[sv t.impl.cls,sv t.impl.name]) Z) ?_
  refine sG Z (bG Z hg) (jo vT Z Z)<|sV (vQ (bO Z hg) Z) ?_
  exact hcut _ uG
 refine sA Z<|sK [4] Z<|cT ?_
 exact aj Z ⟨Z,Z⟩ sbq
theorem eq46_ct {s t:Fl} {us us':List Value} (hs:Enc.rep X us s) (ht:Enc.rep X us' t):Reads prog 46 #[.agg us.toArray,.agg us'.toArray] [X] (.bool (decide (s=t))):=by
 have hml:maxLen=9223372036854775807:=rfl
 obtain ⟨x,x3,rfl,hx,hx3⟩:=hs
 obtain ⟨y,y3,rfl,hy,hy3⟩:=ht
 obtain ⟨xa,xc,rfl,hlc,hcm,_⟩:=id hx.form
 obtain ⟨ya,yc,rfl,hlc',hcm',_⟩:=id hy.form
 have e1:=AA hx3 hy3
 rw [LU]
 refine aL (n:=58) func46 Z Z (len Z) λhr w0=>?_
 refine cQ (aV Z Z λb2=>?_)
 refine aV Z Z λb3=>?_
 refine sA Z<|sK [2,3,4] Z<|cQ<|sV (vF Z wE Z)<|sV (vY Z qQ) ?_
 refine sV (vF Z wE Z)<|sV (vY Z qQ) ?_
 refine aY Z Z en107 Z (e1) ?_
 refine sA Z<|sK [2,3,4,5] Z<|cS<|cQ<|sM Z<|sV (bi Z)<|sM Z<|bC (k:=9) (d:=21) (v:=.bool (!(decide (s.inv=t.inv)) || !(s.name == t.name))) (λhcut=>aJ (b := !(decide (s.inv=t.inv))) false (λhg=>?_)<|λhg=>?_) ?_
 ·refine aC Z Z hg ?_
  iterate 4 refine aC rfl rfl hg ?_
  refine sV (vQ (bO Z hg) Z) ?_
  exact hcut _ uG
 ·refine sG Z (bG Z hg) (vF Z Ip Z)<|sG Z (bG Z hg) (vY Z ld9) ?_
  refine sG Z (bG Z hg) (vF Z Ip Z)<|sG Z (bG Z hg) (vY Z ld9) ?_
  refine sG Z (bG Z hg) (qO Z Z)<|sV (vP (bO Z hg) Z) ?_
  exact hcut _ uG
 refine sM Z<|bC (k:=16) (d:=28) (v:=.bool ((!(decide (s.inv=t.inv)) || !(s.name == t.name)) || (s.dfd != t.dfd))) (λhcut=>aJ (b:=(!(decide (s.inv=t.inv)) || !(s.name == t.name))) false (λhg=>?_)<|λhg=>?_) ?_
 ·refine aC Z Z hg ?_
  iterate 4 refine aC rfl rfl hg ?_
  refine sV (vQ (bO Z hg) Z) ?_
  exact hcut _ uG
 ·refine sG Z (bG Z hg) (vF Z Ns Z)<|sG Z (bG Z hg) (vY Z ld4) ?_
  refine sG Z (bG Z hg) (vF Z Ns Z)<|sG Z (bG Z hg) (vY Z ld4) ?_
  refine sG Z (bG Z hg) (oQ underlying4 Z Z)<|sV (vP (bO Z hg) Z) ?_
  exact hcut _ uG
 refine sM Z<|bC (k:=25) (d:=37) (v:=.bool (((!(decide (s.inv=t.inv)) || !(s.name == t.name)) || (s.dfd != t.dfd)) || (((s.mems.length:Nat):Int) != (t.mems.length:Nat)))) (λhcut=>aJ (b:=((!(decide (s.inv=t.inv)) || !(s.name == t.name)) || (s.dfd != t.dfd))) false (λhg=>?_)<|λhg=>?_) ?_
 ·refine aC Z Z hg ?_
  iterate 6 refine aC rfl rfl hg ?_
  refine sV (vQ (bO Z hg) Z) ?_
  exact hcut _ uG
 ·refine sG Z (bG Z hg) (vF Z kH Z)<|sG Z (bG Z hg) (vY Z oW) ?_
  refine sG Z (bG Z hg) (aF Z underlying52)<|sG Z (bG Z hg) (vF Z kH Z)<|sG Z (bG Z hg) (vY Z oW) ?_
  refine sG Z (bG Z hg) (aF Z underlying52)<|sG Z (bG Z hg) (bM Z Z)<|sV (vP (bO Z hg) Z) ?_
  exact hcut _ uG
 refine sK [2,3,4,37] Z<|cC Z (λhq=>?_)<|λhq=>?_
 ·rw [show (((s.name == t.name && s.dfd == t.dfd) && decide (s.mems=t.mems)) && decide (s.inv=t.inv))=false by
   cases hw:(((s.name == t.name && s.dfd == t.dfd) && decide (s.mems=t.mems)) && decide (s.inv=t.inv)) with
   | false=>rfl
   | true =>
    simp only [Bool.and_eq_true,beq_iff_eq,decide_eq_true_eq] at hw
    obtain ⟨⟨⟨w1,w2⟩,w3⟩,w4⟩:=hw
    rw [w3] at hq
    simp [w1,w2,w4] at hq]
  refine cQ<|sA Z<|sK [4] Z<|cT<|xR ?_
  exact aj Z ⟨Z,Z⟩ sbq
 ·have hq:(((!(decide (s.inv=t.inv)) || !(s.name == t.name)) || (s.dfd != t.dfd)) || (((s.mems.length:Nat):Int) != (t.mems.length:Nat)))=false:=hq
  simp only [Bool.or_eq_false_iff,bne_eq_false_iff_eq,Bool.not_eq_false',beq_iff_eq,decide_eq_true_eq] at hq
  obtain ⟨⟨⟨q1,q2⟩,q3⟩,q5⟩:=hq
  have hl:s.mems.length=t.mems.length:=by omega
  rw [show (((s.name == t.name && s.dfd == t.dfd) && decide (s.mems=t.mems)) && decide (s.inv=t.inv))=decide (s.mems=t.mems) by simp [q1,q2,q3]]
  refine cK<|xT<|cS<|cQ<|sA Z<|sK [2,3,4,6] Z<|cB<|aZ (σ := Nat) (λi=>[(2,.pointer (some ⟨b2,0,none⟩)),(3,.pointer (some ⟨b3,0,none⟩)),(6,.int .i64 (i:Nat))]) (λ_=>pt b2 (cl [sv s.name,.bool s.dfd,.slice xa s.mems.length xc,x3] 55)::pt b3 (cl [sv t.name,.bool t.dfd,.slice ya t.mems.length yc,y3] 55)::X::hr) (λi=>i≤s.mems.length/\s.mems.take i=t.mems.take i) (λi=>s.mems.length - i) 0 ⟨Nat.zero_le _,Z⟩ ?_
  rintro i ⟨hi,hal⟩
  refine cS<|cQ<|sM Z<|sV (vF Z kH Z)<|sV (vY Z oW) ?_
  refine sV (aF Z underlying52)<|sV (aN Z Z)<|sK [2,3,6,42] Z<|cC Z (λhd=>?_)<|λhd=>?_
  ·have hlt:i<s.mems.length:=Zx
   have hlt':i<t.mems.length:=by omega
   have hg:=Zy hlt
   have hg':=Zy hlt'
   obtain ⟨b,o,cap2,us,e1,hus,hrd,hta⟩:=hx.at hg
   cases e1
   obtain ⟨b',o',cap2',us',e1,hus',hrd',htb⟩:=hy.at hg'
   cases e1
   generalize s.mems[i]=x at hg hta
   generalize t.mems[i]=y at hg' htb
   refine cK<|xT<|cS<|cB<|cS<|bB (ork [(0,2),(1,1),(2,2),(3,2),(4,1),(5,2),(6,1),(7,2),(8,2),(9,1),(10,1),(11,2)] .nil) (λ_=>true) mixed Zz ?_
   refine dV Z (vF Z kH Z)<|bg Z (vY Z oW) ?_
   refine dV Z (vM Z)<|dV Z (vI (k:=i) Z Z nU Z hlt Z)<|bg Z (af Z fB hus hrd) ?_
   refine dV Z (vF Z kH Z)<|bg Z (vY Z oW) ?_
   refine dV Z (vM Z)<|dV Z (vI (k:=i) Z Z nU Z hlt' Z)<|bg Z (af Z fB hus' hrd') ?_
   refine gZ Z Z Z en47 Z ((eq47_ct hta htb)) ?_
   refine dV Z (vA Z)<|bA<|nK [2,3,6,7] Z<|nT<|cQ<|sM Z<|sV (bi Z)<|sK [2,3,6,57] Z<|cC Z (λhne=>?_)<|λhne=>?_
   ·have hne:x≠y:=Zv
    rw [rM hg hg' hne]
    refine cQ<|sA Z<|sK [4] Z<|cT<|xW<|xR<|xR<|xW<|xR ?_
    exact aj Z ⟨Z,Z⟩ sbq
   ·have hne:x=y:=Zv
    refine cK<|xB<|xT<|cR<|sM Z<|sV (aI Z Z Z6)<|sA Z<|sN<|nK [2,3,6] Z<|au ?_
    refine aM (i+1) ⟨hlt,eT hal hg hg' hne⟩ (by show s.mems.length - (i+1)<s.mems.length - i; omega)
  ·have hie:i=s.mems.length:=Nat.le_antisymm hi<|Nat.not_lt.1 Zx
   subst hie
   rw [take_eq_all hl hal]
   refine aB<|xE<|xE<|xY<|xT<|cQ<|sA Z<|sK [4] Z<|cT ?_
   exact aj Z ⟨Z,Z⟩ sbq
theorem EE {xs ys:List Fl} (hx:Ls X v xs) (hy:Ls X v' ys):Reads prog 18 #[v,v'] [X] (.bool (decide (xs=ys))):=by
 have hml:maxLen=9223372036854775807:=rfl
 obtain ⟨xa,xc,rfl,hlc,hcm,_⟩:=id hx.form
 obtain ⟨ya,yc,rfl,hlc',hcm',_⟩:=id hy.form
 refine aL (n:=29) func18 Z Z (len Z) λhr w0=>?_
 refine cQ<|sA Z<|sN<|nT<|cS<|cQ<|sM Z<|sV (aF Z underlying32)<|sM Z<|sV (aF Z underlying32)<|sV (bM Z Z)<|sK [0,1,4,11] Z<|cC Z (λhq=>?_)<|λhq=>?_
 ·rw [w9 (show xs.length≠ys.length from λh=>by rw [h] at hq; simp at hq)]
  refine cQ<|sA Z<|sK [4] Z<|cT<|xR ?_
  exact aj Z ⟨Z,Z⟩ sbq
 ·have hl:xs.length=ys.length:=by
   have hq:((xs.length:Nat):Int)=(ys.length:Nat):=Zu
   omega
  refine cK<|xT<|cS<|cQ<|sA Z<|sK [0,1,4,5] Z<|cB<|aZ (σ := Nat) (λi=>[(0,.slice xa xs.length xc),(1,.slice ya ys.length yc),(5,.int .i64 (i:Nat))]) (λ_=>X::hr) (λi=>i≤xs.length/\xs.take i=ys.take i) (λi=>xs.length - i) 0 ⟨Nat.zero_le _,Z⟩ ?_
  rintro i ⟨hi,hal⟩
  refine cS<|cQ<|sM Z<|sM Z<|sV (aF Z underlying32)<|sV (aN Z Z)<|sK [0,1,5,15] Z<|cC Z (λhd=>?_)<|λhd=>?_
  ·have hlt:i<xs.length:=Zx
   have hlt':i<ys.length:=by omega
   have hg:=Zy hlt
   have hg':=Zy hlt'
   obtain ⟨b,o,cap2,us,e1,hus,hrd,hta⟩:=hx.at hg
   cases e1
   obtain ⟨b',o',cap2',us',e1,hus',hrd',htb⟩:=hy.at hg'
   cases e1
   generalize xs[i]=x at hg hta
   generalize ys[i]=y at hg' htb
   refine cK<|xT<|cS<|cB<|cS<|bB (ork [(0,2),(1,2),(2,2),(3,1),(4,2),(5,2),(6,2),(7,1),(8,1),(9,2)] .nil) (λ_=>true) mixed Zz ?_
   refine dV Z (vM Z)<|dV Z (vM Z)<|dV Z (vI (k:=i) Z Z sl32 Z hlt Z)<|bg Z (af Z yw hus hrd) ?_
   refine dV Z (vM Z)<|dV Z (vM Z)<|dV Z (vI (k:=i) Z Z sl32 Z hlt' Z)<|bg Z (af Z yw hus' hrd') ?_
   refine gZ Z Z Z en46 Z ((eq46_ct hta htb)) ?_
   refine dV Z (vA Z)<|bA<|nK [0,1,5,6] Z<|nT<|cQ<|sM Z<|sV (bi Z)<|sK [0,1,5,28] Z<|cC Z (λhne=>?_)<|λhne=>?_
   ·have hne:x≠y:=Zv
    rw [rM hg hg' hne]
    refine cQ<|sA Z<|sK [4] Z<|cT<|xW<|xR<|xR<|xW<|xR ?_
    exact aj Z ⟨Z,Z⟩ sbq
   ·have hne:x=y:=Zv
    refine cK<|xB<|xT<|cR<|sM Z<|sV (aI Z Z Z6)<|sA Z<|sN<|nK [0,1,5] Z<|au ?_
    refine aM (i+1) ⟨hlt,eT hal hg hg' hne⟩ (by show xs.length - (i+1)<xs.length - i; omega)
  ·have hie:i=xs.length:=Nat.le_antisymm hi<|Nat.not_lt.1 Zx
   subst hie
   rw [take_eq_all hl hal]
   refine aB<|xE<|xE<|xY<|xT<|cQ<|sA Z<|sK [4] Z<|cT ?_
   exact aj Z ⟨Z,Z⟩ sbq
end
end Go.Fl
namespace Go.Ck
open Go Go.RowKit
def mit (mb ib:Nat) (m left:List (Int×Value)) (last:Option (Int×Value)):Res where
 dom b:=b=mb∨b=ib
 ok f:=mb≠ib/\∃ es ck seen,f mb=some (.map es ck)/\es.toList.map (λx:MapEntry=>(x.key,x.val))=mU m/\Brn es ck m/\f ib=some (.mapIter (some mb) ck seen ck) /\
  ((es.toList.filter λx:MapEntry => !seen.contains x.born).map λx:MapEntry=>(x.key,x.val)).Perm (mU left)/\∀ p,last=some p->∃ x∈es.toList,seen.back? = some x.born/\x.key = .int .i64 p.1/\x.val=p.2
 loc f g he:=λ⟨hn,es,ck,seen,h1,h2,h3,h4,h5⟩=>⟨hn,es,ck,seen,by rw [<- he mb (.inl rfl)]; exact h1,h2,h3,by rw [<- he ib (.inr rfl)]; exact h4,h5⟩
 pres f:=λ⟨_,es,ck,seen,h1,_,_,h4,_⟩ b hb=>by
  rcases hb with rfl | rfl
  ·rw [h1]; rfl
  ·rw [h4]; rfl
theorem AB (seen : Array Nat) (e : MapEntry) (he : seen.contains e.born = false) : ∀ (l : List MapEntry), (l.map (·.born)).Nodup -> e ∈ l -> (l.filter λx => !seen.contains x.born).Perm (e :: l.filter λx => !(seen.push e.born).contains x.born)
 | [],_,h=>by cases h
 | x :: t, hn, h => by
  rw [List.map_cons,List.nodup_cons] at hn
  have hpush:∀ y:MapEntry,y.born≠e.born->(seen.push e.born).contains y.born=seen.contains y.born:=λy hy=>by
   rw [Bool.eq_iff_iff]; simp [Array.contains_iff_mem,Array.mem_push,hy]
  have hself:(seen.push e.born).contains e.born=true:=by simp
  by_cases hx:x=e
  ·subst hx
   have ht:t.filter (λy => !(seen.push x.born).contains y.born)=t.filter λy => !seen.contains y.born:=List.filter_congr λy hy=>by
    rw [hpush y λheq=>hn.1 (heq ▸ List.mem_map.2 ⟨y,hy,rfl⟩)]
   rw [List.filter_cons,List.filter_cons,he,hself,ht]
   exact .refl _
  ·have hm:e∈t:=(List.mem_cons.1 h).resolve_left λq=>hx q.symm
   have hb:x.born≠e.born:=λheq=>hn.1 (heq ▸ List.mem_map.2 ⟨e,hm,rfl⟩)
   have ih:=AB seen e he t hn.2 hm
   rw [List.filter_cons,List.filter_cons,hpush x hb]
   by_cases hc:(!seen.contains x.born)=true
   ·rw [if_pos hc,if_pos hc]
    exact (ih.cons x).trans (.swap ..)
   ·rw [if_neg hc,if_neg hc]; exact ih
section
variable {P:Program}
theorem run_next_at {w : World} {mb ib ck : Nat} {es : Array MapEntry} {seen : Array Nat} (h1 : w.heap[mb]? = some (.map es ck)) (h2 : w.heap[ib]? = some (.mapIter (some mb) ck seen ck)) (hold : ∀ x ∈ es.toList, x.born < ck) (ty : TypeId) :
  ((es.toList.filter λx => !seen.contains x.born)=[]/\(Instr.next (.pointer<|some ⟨ib,0,none⟩) false ty).run P w = .ok (.tuple #[.bool false]) w) ∨
  ∃ x∈(es.toList.filter λx => !seen.contains x.born),∃ n:Nat,w.drawn≤n/\(Instr.next (.pointer<|some ⟨ib,0,none⟩) false ty).run P w = .ok (.tuple #[.bool true,x.key,x.val]) { w with drawn:=n,heap:=w.heap.setIfInBounds ib (.mapIter (some mb) ck (seen.push x.born) ck) }:=by
 simp only [Instr.next,getObj,Sem.run_bind,Sem.run,h1,h2,Result.andThen,next_test_false seen es ck ck hold (Nat.le_refl _),Bool.false_eq_true,if_false]
 have hmem:∀ x∈(Array.filter (λe => !seen.contains e.born) es).toList,x.born<ck:=λx hx=>hold x (by simp at hx ⊢; exact hx.1)
 have hL:(Array.filter (λe => !seen.contains e.born) es).toList=es.toList.filter λx => !seen.contains x.born:=by simp
 rw [<- hL]
 generalize Array.filter (λe => !seen.contains e.born) es=L at hmem ⊢
 have e1:L.filter (λx=>decide (x.born<ck))=L:=Array.filter_eq_self.2<|λx hx=>by simpa using hmem x (by simpa using hx)
 have e2:L.filter (λx=>decide (x.born ≥ ck)) = #[]:=by
  rw [Array.filter_eq_empty_iff]
  intro x hx
  have:=hmem x<|by simpa using hx
  simp
  omega
 simp only [e1,e2,Array.append_empty]
 by_cases h0:L.size=0
 ·left
  have:L = #[]:=Array.eq_empty_of_size_eq_zero h0
  subst this
  refine ⟨Z,?_⟩
  simp [choose,Sem.run,Question.forced]
 ·right
  have hne:L.isEmpty=false:=by simp [Array.isEmpty,h0]
  simp only [hne,Bool.false_eq_true,if_false,Array.empty_append,Array.size_map]
  have hch : ∃ (j n : Nat), j < L.size /\ w.drawn ≤ n /\ (choose<|Question.mapNext L.size).run P w = .ok j { w with drawn := n } := by
   by_cases hf:L.size≤1
   ·exact ⟨0,w.drawn,by omega,Nat.le_refl _,by simp [choose,Sem.run,Question.forced,hf]⟩
   ·exact ⟨_,w.drawn+1,Nat.mod_lt _ (by omega),Nat.le_succ _,by
     simp only [choose,Sem.run,Question.forced,decide_eq_true_eq,hf,if_false,Question.cut]
     rfl⟩
  obtain ⟨j,n,hj,hdn,hrun⟩:=hch
  refine ⟨L[j],by simp,n,hdn,?_⟩
  have hset:∀ o':Obj,(setObj ib o').run P { w with drawn:=n } = .ok () { w with drawn:=n,heap:=w.heap.setIfInBounds ib o' }:=λo'=>by
   simp [setObj,Sem.run,h2]
  simp only [hrun,Array.getElem?_map,Array.getElem?_eq_getElem hj,Option.map_some,Sem.run_bind,hset,Result.andThen]
  rfl
theorem run_entry_at {w:World} {mb ib ck:Nat} {es:Array MapEntry} {seen:Array Nat} {x:MapEntry} (h1:w.heap[mb]? = some (.map es ck)) (h2:w.heap[ib]? = some (.mapIter (some mb) ck seen ck)) (hx:x∈es.toList) (hb:seen.back? = some x.born) (hn:(es.toList.map (·.born)).Nodup) :
  (Instr.entry<|.pointer<|some ⟨ib,0,none⟩).run P w = .ok (.tuple #[x.key,x.val]) w:=by
 have hf:es.find? (·.born == x.born)=some x:=by rw [<- Array.find?_toList]; exact find_born x es.toList hn hx
 simp only [Instr.entry,getObj,Sem.run_bind,Sem.run,h1,h2,Result.andThen,hb,bne_self_eq_false,Bool.false_eq_true,if_false,hf]
 rfl
end
section
variable {c:Cx} {ops:Array Oper} {K:Act->World->Prop} {rest:List Oper} {e:Env} {h h':SH}
theorem Oz {d : Nat} {T K' E ty : TypeId} {x : Operand} {pos : String} {after : Array Edge} {mb : Nat} {m : List (Int × Value)} (hx : e.ev? x = some (.map (some mb))) (hT : MpT c.P T K' E) (hs : Sel h (mpr mb m) h') (hd : d < c.n)
  (hnx:∀ ib,(m.map (·.1)).Nodup->St c ops K rest ((d,.pointer (some ⟨ib,0,none⟩))::e) (mit mb ib m m none::h')) :
  St c ops K (⟨some d,.range T x,ty,pos,after,none⟩::rest) e h :=
 eB (by simp) λa w hk hh hw=>by
  have hh':=hh.sel hs
  obtain ⟨es,ck,h1,h2,hB⟩:=hh'.1
  have h1':w.heap[mb]? = some (.map es ck):=h1
  have hlt:mb<w.heap.size:=(Array.getElem?_eq_some_iff.1 h1').1
  have hr:=run_range_map (P:=c.P) w T K' E mb es ck hT.1 h1'
  simp only [execOp,hk.ev hx,Sem.run_bind,hr,Result.andThen_ok,Sem.run_pure]
  have hg:=Grew.alloc w (.mapIter (some mb) ck #[] ck) rfl
  refine hnx w.heap.size hB.2.2 _ _ (hk.put _ hd) ⟨⟨by omega,es,ck,#[],?_,h2,hB,?_,?_,λp hp=>by cases hp⟩,λb hb hd'=>?_,?_⟩<|hw.trans hg.toSame
  ·show (w.alloc _).heap[mb]? = _
   rw [alloc_old w _ mb (by omega)]; exact h1'
  ·show (w.heap.push _)[w.heap.size]? = _
   simp
  ·have hf:(es.toList.filter λx:MapEntry => !(#[]:Array Nat).contains x.born)=es.toList:=List.filter_eq_self.2 λ_ _=>by simp
   rw [hf,h2]
  ·rcases hb with rfl | rfl
   ·exact hh'.2.1 b Z hd'
   ·have:=Holds.lt (w:=w) hh'.2.2 hd'; omega
  ·exact bu.loc hh'.2.2 λb hb=>(hg.block b<|Holds.lt (w:=w) hh'.2.2 hb).symm
theorem st_next {d : Nat} {ty : TypeId} {x : Operand} {pos : String} {after : Array Edge} {mb ib : Nat} {m left : List (Int × Value)} {last : Option (Int × Value)} (hx : e.ev? x = some (.pointer (some ⟨ib, 0, none⟩))) (hs : Sel h (mit mb ib m left last) h') (hd : d < c.n)
  (h0:left=[]->St c ops K rest ((d,.tuple #[.bool false])::e) (mit mb ib m [] last::h'))
  (h1:∀ k v left',left.Perm ((k,v)::left')->St c ops K rest ((d,.tuple #[.bool true,.int .i64 k,v])::e) (mit mb ib m left' (some (k,v))::h')) :
  St c ops K (⟨some d,.next x false,ty,pos,after,none⟩::rest) e h :=
 eB (by simp) λa w hk hh hw => by
  have hh':=hh.sel hs
  obtain ⟨hne,es,ck,seen,g1,g2,hB,g4,g5,g6⟩:=hh'.1
  have g1':w.heap[mb]? = some (.map es ck):=g1
  have g4':w.heap[ib]? = some (.mapIter (some mb) ck seen ck):=g4
  have hlt:ib<w.heap.size:=(Array.getElem?_eq_some_iff.1 g4').1
  rcases run_next_at (P:=c.P) g1' g4' hB.1 ty with ⟨q1,q2⟩ | ⟨z,hz,n,hdn,q2⟩
  ·simp only [execOp,hk.ev hx,Sem.run_bind,q2,Result.andThen_ok,Sem.run_pure]
   have hl:left=[]:=by
    rw [q1] at g5
    have:=g5.symm.eq_nil
    unfold mU at this
    simpa using this
   subst hl
   exact h0 Z _ _ (hk.put _ hd) hh' hw
  ·simp only [execOp,hk.ev hx,Sem.run_bind,q2,Result.andThen_ok,Sem.run_pure]
   have hz1:z∈es.toList:=(List.mem_filter.1 hz).1
   have hz2:seen.contains z.born=false:=by simpa using (List.mem_filter.1 hz).2
   have hzm:(z.key,z.val)∈mU left:=g5.mem_iff.1<|List.mem_map.2 ⟨z,hz,rfl⟩
   obtain ⟨⟨k,v⟩,hkv,hkv2⟩:=List.mem_map.1 hzm
   simp only [Prod.mk.injEq] at hkv2
   obtain ⟨hk1,hv1⟩:=hkv2
   obtain ⟨s,t,rfl⟩:=List.append_of_mem hkv
   have hp:(s++(k,v)::t).Perm ((k,v)::(s++t)):=List.perm_middle
   have hf:=AB seen z hz2 es.toList hB.2.1 hz1
   have hrest:((es.toList.filter λx => !(seen.push z.born).contains x.born).map λx=>(x.key,x.val)).Perm (mU (s++t)):=by
    have h3:=(hf.map λx:MapEntry=>(x.key,x.val)).symm.trans<|g5.trans (hp.map λp:Int×Value=>((.int .i64 p.1:Value),p.2))
    rw [List.map_cons,List.map_cons,<- hk1,<- hv1] at h3
    exact h3.cons_inv
   rw [<- hk1,<- hv1]
   have hsame:Same w { w with drawn:=n,heap:=w.heap.setIfInBounds ib (.mapIter (some mb) ck (seen.push z.born) ck) }:=⟨rfl,rfl,rfl,hdn,by simp,oN (b:=ib) (λo ho=>by rw [g4'] at ho; cases ho; rfl) (λo ho=>by
    have:(w.heap.setIfInBounds ib<|.mapIter (some mb) ck (seen.push z.born) ck)[ib]? = some o:=ho
    simp [hlt] at this; rw [<- this]; rfl) λc hc=>dS w ib c _ hc⟩
   refine h1 k v (s++t) hp _ _ (hk.put _ hd) ⟨⟨hne,es,ck,seen.push z.born,?_,g2,hB,?_,hrest,λp hp'=>?_⟩,hh'.2.1,?_⟩<|hw.trans hsame
   ·show (w.heap.setIfInBounds ib _)[mb]? = _
    rw [Array.getElem?_setIfInBounds_ne (Ne.symm hne)]; exact g1'
   ·show (w.heap.setIfInBounds ib _)[ib]? = _
    simp [hlt]
   ·cases hp'
    exact ⟨z,hz1,by simp,hk1.symm,hv1.symm⟩
   ·exact bu.loc hh'.2.2 λb hb=>(dS w ib b _<|λq=>hh'.2.1 b (.inr q) hb).symm
theorem v_entry {ty:TypeId} {x:Operand} {mb ib:Nat} {m left:List (Int×Value)} {k:Int} {v:Value} (hx:e.ev? x=some (.pointer (some ⟨ib,0,none⟩))) (hs:Sel h (mit mb ib m left (some (k,v))) h') :
  Vop c.P e h (.entry x) ty (.tuple #[.int .i64 k,v]):=
 ⟨by simp,by simp,λρ w d pos after g hρ hh=>by
  obtain ⟨_,es,ck,seen,g1,_,hB,g4,_,g6⟩:=(hh.sel hs).1
  obtain ⟨z,hz,hb,h1,h2⟩:=g6 _ rfl
  have:=run_entry_at (P:=c.P) (w:=w) g1 g4 hz hb hB.2.1
  rw [h1,h2] at this
  simp [execOp,hρ x _ hx,this]⟩
end
section
variable {c:Cx} {x:Code} {Q:Exit->Act->World->Prop} {e:Env} {h h':SH}
end
def xe (mb ib:Nat) (m left:List (Bs×Value)) (last:Option (Bs×Value)):Res where
 dom b:=b=mb∨b=ib
 ok f:=mb≠ib/\∃ es ck seen,f mb=some (.map es ck)/\es.toList.map (λx:MapEntry=>(x.key,x.val))=kV m/\SBrn es ck m/\f ib=some (.mapIter (some mb) ck seen ck) /\
  ((es.toList.filter λx:MapEntry => !seen.contains x.born).map λx:MapEntry=>(x.key,x.val)).Perm (kV left)/\∀ p,last=some p->∃ x∈es.toList,seen.back? = some x.born/\x.key=sv p.1/\x.val=p.2
 loc f g he:=λ⟨hn,es,ck,seen,h1,h2,h3,h4,h5⟩=>⟨hn,es,ck,seen,by rw [<- he mb (.inl rfl)]; exact h1,h2,h3,by rw [<- he ib (.inr rfl)]; exact h4,h5⟩
 pres f:=λ⟨_,es,ck,seen,h1,_,_,h4,_⟩ b hb=>by
  rcases hb with rfl | rfl
  ·rw [h1]; rfl
  ·rw [h4]; rfl
section
variable {c:Cx} {ops:Array Oper} {K:Act->World->Prop} {rest:List Oper} {e:Env} {h h':SH}
theorem AC {d : Nat} {T K' E ty : TypeId} {x : Operand} {pos : String} {after : Array Edge} {mb : Nat} {m : List (Bs × Value)} (hx : e.ev? x = some (.map (some mb))) (hT : MpS c.P T K' E) (hs : Sel h (mps mb m) h') (hd : d < c.n)
  (hnx:∀ ib,(m.map (·.1)).Nodup->St c ops K rest ((d,.pointer (some ⟨ib,0,none⟩))::e) (xe mb ib m m none::h')) :
  St c ops K (⟨some d,.range T x,ty,pos,after,none⟩::rest) e h :=
 eB (by simp) λa w hk hh hw=>by
  have hh':=hh.sel hs
  obtain ⟨es,ck,h1,h2,hB⟩:=hh'.1
  have h1':w.heap[mb]? = some (.map es ck):=h1
  have hlt:mb<w.heap.size:=(Array.getElem?_eq_some_iff.1 h1').1
  have hr:=run_range_map (P:=c.P) w T K' E mb es ck hT.1 h1'
  simp only [execOp,hk.ev hx,Sem.run_bind,hr,Result.andThen_ok,Sem.run_pure]
  have hg:=Grew.alloc w (.mapIter (some mb) ck #[] ck) rfl
  refine hnx w.heap.size hB.2.2 _ _ (hk.put _ hd) ⟨⟨by omega,es,ck,#[],?_,h2,hB,?_,?_,λp hp=>by cases hp⟩,λb hb hd'=>?_,?_⟩<|hw.trans hg.toSame
  ·show (w.alloc _).heap[mb]? = _
   rw [alloc_old w _ mb (by omega)]; exact h1'
  ·show (w.heap.push _)[w.heap.size]? = _
   simp
  ·have hf:(es.toList.filter λx:MapEntry => !(#[]:Array Nat).contains x.born)=es.toList:=List.filter_eq_self.2 λ_ _=>by simp
   rw [hf,h2]
  ·rcases hb with rfl | rfl
   ·exact hh'.2.1 b Z hd'
   ·have:=Holds.lt (w:=w) hh'.2.2 hd'; omega
  ·exact bu.loc hh'.2.2 λb hb=>(hg.block b<|Holds.lt (w:=w) hh'.2.2 hb).symm
theorem Dj {d : Nat} {ty : TypeId} {x : Operand} {pos : String} {after : Array Edge} {mb ib : Nat} {m left : List (Bs × Value)} {last : Option (Bs × Value)} (hx : e.ev? x = some (.pointer (some ⟨ib, 0, none⟩))) (hs : Sel h (xe mb ib m left last) h') (hd : d < c.n)
  (h0:left=[]->St c ops K rest ((d,.tuple #[.bool false])::e) (xe mb ib m [] last::h'))
  (h1:∀ k v left',left.Perm ((k,v)::left')->St c ops K rest ((d,.tuple #[.bool true,sv k,v])::e) (xe mb ib m left' (some (k,v))::h')) :
  St c ops K (⟨some d,.next x false,ty,pos,after,none⟩::rest) e h :=
 eB (by simp) λa w hk hh hw => by
  have hh':=hh.sel hs
  obtain ⟨hne,es,ck,seen,g1,g2,hB,g4,g5,g6⟩:=hh'.1
  have g1':w.heap[mb]? = some (.map es ck):=g1
  have g4':w.heap[ib]? = some (.mapIter (some mb) ck seen ck):=g4
  have hlt:ib<w.heap.size:=(Array.getElem?_eq_some_iff.1 g4').1
  rcases run_next_at (P:=c.P) g1' g4' hB.1 ty with ⟨q1,q2⟩ | ⟨z,hz,n,hdn,q2⟩
  ·simp only [execOp,hk.ev hx,Sem.run_bind,q2,Result.andThen_ok,Sem.run_pure]
   have hl:left=[]:=by
    rw [q1] at g5
    have:=g5.symm.eq_nil
    unfold kV at this
    simpa using this
   subst hl
   exact h0 Z _ _ (hk.put _ hd) hh' hw
  ·simp only [execOp,hk.ev hx,Sem.run_bind,q2,Result.andThen_ok,Sem.run_pure]
   have hz1:z∈es.toList:=(List.mem_filter.1 hz).1
   have hz2:seen.contains z.born=false:=by simpa using (List.mem_filter.1 hz).2
   have hzm:(z.key,z.val)∈kV left:=g5.mem_iff.1<|List.mem_map.2 ⟨z,hz,rfl⟩
   obtain ⟨⟨k,v⟩,hkv,hkv2⟩:=List.mem_map.1 hzm
   simp only [Prod.mk.injEq] at hkv2
   obtain ⟨hk1,hv1⟩:=hkv2
   obtain ⟨s,t,rfl⟩:=List.append_of_mem hkv
   have hp:(s++(k,v)::t).Perm ((k,v)::(s++t)):=List.perm_middle
   have hf:=AB seen z hz2 es.toList hB.2.1 hz1
   have hrest:((es.toList.filter λx => !(seen.push z.born).contains x.born).map λx=>(x.key,x.val)).Perm (kV (s++t)):=by
    have h3:=(hf.map λx:MapEntry=>(x.key,x.val)).symm.trans<|g5.trans (hp.map λp:Bs×Value=>((sv p.1:Value),p.2))
    rw [List.map_cons,List.map_cons,<- hk1,<- hv1] at h3
    exact h3.cons_inv
   rw [<- hk1,<- hv1]
   have hsame:Same w { w with drawn:=n,heap:=w.heap.setIfInBounds ib (.mapIter (some mb) ck (seen.push z.born) ck) }:=⟨rfl,rfl,rfl,hdn,by simp,oN (b:=ib) (λo ho=>by rw [g4'] at ho; cases ho; rfl) (λo ho=>by
    have:(w.heap.setIfInBounds ib<|.mapIter (some mb) ck (seen.push z.born) ck)[ib]? = some o:=ho
    simp [hlt] at this; rw [<- this]; rfl) λc hc=>dS w ib c _ hc⟩
   refine h1 k v (s++t) hp _ _ (hk.put _ hd) ⟨⟨hne,es,ck,seen.push z.born,?_,g2,hB,?_,hrest,λp hp'=>?_⟩,hh'.2.1,?_⟩<|hw.trans hsame
   ·show (w.heap.setIfInBounds ib _)[mb]? = _
    rw [Array.getElem?_setIfInBounds_ne (Ne.symm hne)]; exact g1'
   ·show (w.heap.setIfInBounds ib _)[ib]? = _
    simp [hlt]
   ·cases hp'
    exact ⟨z,hz1,by simp,hk1.symm,hv1.symm⟩
   ·exact bu.loc hh'.2.2 λb hb=>(dS w ib b _<|λq=>hh'.2.1 b (.inr q) hb).symm
theorem Dk {ty:TypeId} {x:Operand} {mb ib:Nat} {m left:List (Bs×Value)} {k:Bs} {v:Value} (hx:e.ev? x=some (.pointer (some ⟨ib,0,none⟩))) (hs:Sel h (xe mb ib m left (some (k,v))) h') :
  Vop c.P e h (.entry x) ty (.tuple #[sv k,v]):=
 ⟨by simp,by simp,λρ w d pos after g hρ hh=>by
  obtain ⟨_,es,ck,seen,g1,_,hB,g4,_,g6⟩:=(hh.sel hs).1
  obtain ⟨z,hz,hb,h1,h2⟩:=g6 _ rfl
  have:=run_entry_at (P:=c.P) (w:=w) g1 g4 hz hb hB.2.1
  rw [h1,h2] at this
  simp [execOp,hρ x _ hx,this]⟩
end
section
variable {c:Cx} {x:Code} {Q:Exit->Act->World->Prop} {e:Env} {h h':SH}
theorem GX {mb ib:Nat} {m left:List (Bs×Value)} {last:Option (Bs×Value)} (s:Sel h (xe mb ib m left last) h') (hx:Cd c x Q e (mps mb m::h')):Cd c x Q e h:=λa w hk hh hw=>by
 have hh':=hh.sel s
 obtain ⟨_,es,ck,seen,g1,g2,hB,_⟩:=hh'.1
 exact hx a w hk ⟨⟨es,ck,g1,g2,hB⟩,λb hb=>hh'.2.1 b (.inl hb),hh'.2.2⟩ hw
end
end Go.Ck
namespace Go.Fl
open Go Go.RowKit Go.Ck Go.Proofs Go.Proofs.Tryz Go.Proofs.YtknmacdbffgjgaaGreatDoor Fx Go.Hr
abbrev BE:=Nm×Value×List (List Value)
def BN (E:List BE):Res:=Res.star (E.map λe=>VR e.2.1 191 18 e.2.2)
def kv (E:List BE):List (Nm×Value):=E.map λe=>(e.1,e.2.1)
def BOk (Y:Res) (E:List BE) (cs:List Cm):Prop:=E.map (λe=>e.1)=keys cs/\∀ e∈E,e.2.1.oneCell'=true/\Rws Y e.2.2 (under cs e.1)
theorem BOk.up {X Y:Res} {E:List BE} {cs:List Cm} (h:BOk X E cs) (he:Ext X Y):BOk Y E cs:=⟨h.1,λe hm=>⟨(h.2 e hm).1,(h.2 e hm).2.up he⟩⟩
theorem jQ (E:List BE):(kv E).map (·.1)=E.map λe=>e.1:=by simp [kv]
theorem OA {m:List (Nm×Value)} {n:Nm} {v:Value} (h:n ∉ m.map (·.1)):eH m n v=m++[(n,v)]:=by
 induction m with
 | nil=>rfl
 | cons p t ih =>
  rw [List.map_cons,List.mem_cons,not_or] at h
  rw [eH,if_neg (λe=>h.1 e.symm),ih h.2]; rfl
theorem OB {m1 m2:List (Nm×Value)} {n:Nm} {v v2:Value} (h:n ∉ m1.map (·.1)):eH (m1++(n,v)::m2) n v2=m1++(n,v2)::m2:=by
 induction m1 with
 | nil=>simp [eH]
 | cons p t ih =>
  rw [List.map_cons,List.mem_cons,not_or] at h
  rw [List.cons_append,eH,if_neg (λe=>h.1 e.symm),ih h.2]; rfl
theorem L6 {m1 m2:List (Nm×Value)} {n:Nm} {v:Value} (h:n ∉ m1.map (·.1)):bK (m1++(n,v)::m2) n=some v:=by
 unfold bK
 have:m1.find? (λp=>p.1 == n)=none:=by
  rw [List.find?_eq_none]
  intro p hp
  simp only [beq_iff_eq]
  exact λe=>h<|List.mem_map.2 ⟨p,hp,e⟩
 rw [List.find?_append,this]
 simp
theorem GY (E : List BE) (n : Nm) (hn : (E.map λe => e.1).Nodup) : ∃ (v : Value) (rows : List (List Value)) (BO : Res) (F : Value -> List (List Value) -> List BE), (bK (kv E) n).getD (.slice none 0 0) = v /\ (∀ t, Vw (BN E :: t) (VR v 191 18 rows :: BO :: t)) /\ (∀ v2 r2 t, Vw (Res.star [VR v2 191 18 r2, BO] :: t) (BN (F v2 r2) :: t)) /\ (∀ v2 r2, eH (kv E) n v2 = kv (F v2 r2)) /\
  ((n ∉ (E.map λe=>e.1)/\rows=[]/\∀ v2 r2,F v2 r2=E++[(n,v2,r2)])∨∃ E1 E2,E=E1++(n,v,rows)::E2/\∀ v2 r2,F v2 r2=E1++(n,v2,r2)::E2):=by
 by_cases hm:n∈E.map λe=>e.1
 ·obtain ⟨e, he, rfl⟩ := List.mem_map.1 hm
  obtain ⟨E1,E2,rfl⟩:=List.append_of_mem he
  obtain ⟨n,v,rows⟩:=e
  have h1:n ∉ E1.map λe=>e.1:=λh=>by
   rw [List.map_append,List.map_cons] at hn
   exact (List.nodup_append.1 hn).2.2 n h n (by simp) Z
  have h2:n ∉ (kv E1).map (·.1):=by rw [jQ]; exact h1
  have hb:∀ v2 r2,kv (E1++(n,v2,r2)::E2)=kv E1++(n,v2)::kv E2:=λv2 r2=>by simp [kv]
  refine ⟨v,rows,Res.star ((E1++E2).map λe=>VR e.2.1 191 18 e.2.2),λv2 r2=>E1++(n,v2,r2)::E2,by rw [hb,L6 h2]; rfl,λt w hh=>?_,λv2 r2 t w hh=>?_,λv2 r2=>by rw [hb,hb,OB h2],.inr ⟨E1,E2,Z,λ_ _=>rfl⟩⟩
  ·have h3:bu (hp w) (((E1++(n,v,rows)::E2).map λe=>VR e.2.1 191 18 e.2.2)++t):=dE.1 hh
   have h4:bu (hp w) (((VR v 191 18 rows)::(E1++E2).map λe=>VR e.2.1 191 18 e.2.2)++t):=(bu.perm (List.Perm.append_right t (by
    rw [List.map_append,List.map_cons,List.map_append]; exact List.perm_middle))).1 h3
   have h5:bu (hp w) (((E1++E2).map λe=>VR e.2.1 191 18 e.2.2)++(VR v 191 18 rows::t)):=(bu.perm (by
    rw [List.cons_append]; exact List.perm_middle.symm)).1 h4
   have h6:=dE.2 h5
   exact (bu.perm<|.swap _ _ _).1 h6
  ·have h3:bu (hp w) ([VR v2 191 18 r2,Res.star ((E1++E2).map λe=>VR e.2.1 191 18 e.2.2)]++t):=dE.1 hh
   have h4:=dE.1 ((bu.perm<|.swap _ _ _).1 h3)
   refine dE.2 ((bu.perm ?_).1 h4)
   rw [List.map_append,List.map_append,List.map_cons,List.append_assoc,List.append_assoc]
   refine List.Perm.append_left _ ?_
   rw [List.cons_append]
   exact List.perm_middle
 ·have h2:n ∉ (kv E).map (·.1):=by rw [jQ]; exact hm
  refine ⟨.slice none 0 0,[],BN E,λv2 r2=>E++[(n,v2,r2)],by rw [zC.2 h2]; rfl,λt w hh=>hh.vr_nil 191 18,λv2 r2 t w hh=>?_,λv2 r2=>by rw [OA h2]; simp [kv],.inl ⟨hm,Z,λ_ _=>rfl⟩⟩
  have h3:bu (hp w) ([VR v2 191 18 r2,BN E]++t):=dE.1 hh
  have h4:=dE.1 ((bu.perm<|.swap _ _ _).1 h3)
  refine dE.2 ((bu.perm ?_).1 h4)
  rw [List.map_append,List.append_assoc]
  exact .refl _
theorem xg (cs:List Cm) (x:Cm):keys (cs++[x])=if x.mem.name∈keys cs then keys cs else keys cs++[x.mem.name]:=by
 unfold keys
 rw [List.map_append,List.map_cons,List.map_nil,rT]
 unfold Hr.step
 by_cases h:x.mem.name∈dd [] (cs.map λx=>x.mem.name)
 ·rw [if_pos h,if_pos Zp]
 ·rw [if_neg h,if_neg Zp]
theorem p8 (cs:List Cm) (x:Cm) (n:Nm):under (cs++[x]) n=if x.mem.name=n then under cs n++[x] else under cs n:=by
 unfold under
 rw [List.filter_append]
 by_cases h:x.mem.name=n <;> simp [h]
theorem AJ {cs:List Cm} {n:Nm} (h:n ∉ keys cs):under cs n=[]:=by
 unfold under
 rw [List.filter_eq_nil_iff]
 intro x hx
 simp only [beq_iff_eq]
 exact λe=>h<|kr.2 ⟨x,hx,e⟩
theorem OC {Y : Res} {E : List BE} {cs : List Cm} {x : Cm} {us : List Value} {v v2 : Value} {rows : List (List Value)} {F : Value -> List (List Value) -> List BE} (hb : BOk Y E cs) (hx : Enc.rep Y us x) (hv : v2.oneCell' = true)
  (hF:(x.mem.name ∉ (E.map λe=>e.1)/\rows=[]/\∀ v2 r2,F v2 r2=E++[(x.mem.name,v2,r2)])∨∃ E1 E2,E=E1++(x.mem.name,v,rows)::E2/\∀ v2 r2,F v2 r2=E1++(x.mem.name,v2,r2)::E2):BOk Y (F v2 (rows++[us])) (cs++[x]):=by
 obtain ⟨hk,hr⟩:=hb
 rcases hF with ⟨h1,rfl,h3⟩ | ⟨E1,E2,rfl,h3⟩
 ·rw [h3]
  have h4:x.mem.name ∉ keys cs:=by rw [<- hk]; exact h1
  refine ⟨by rw [xg,if_neg h4,List.map_append,hk]; rfl,λe he=>?_⟩
  rcases List.mem_append.1 he with he | he
  ·have h5:e.1≠x.mem.name:=λq=>h1 (q ▸ List.mem_map.2 ⟨e,he,rfl⟩)
   rw [p8,if_neg (λq=>h5 q.symm)]
   exact hr e he
  ·rw [List.mem_singleton.1 he]
   dsimp only
   rw [p8,if_pos rfl,AJ h4]
   exact ⟨hv,Rws.nil.snoc hx⟩
 ·rw [h3]
  have h4:x.mem.name∈keys cs:=by rw [<- hk]; simp
  have hnd:(E1.map (λe=>e.1)++x.mem.name::E2.map λe=>e.1).Nodup:=by
   have:=iq cs
   rw [<- hk,List.map_append,List.map_cons] at this
   exact this
  refine ⟨by rw [xg,if_pos h4,<- hk,List.map_append,List.map_append]; rfl,λe he=>?_⟩
  have hother:∀ e∈E1++E2,e.1≠x.mem.name:=λe he q=>by
   have h6:=List.nodup_append.1 hnd
   rcases List.mem_append.1 he with he | he
   ·exact h6.2.2 e.1 (List.mem_map.2 ⟨e,he,Z⟩) x.mem.name (by simp) q
   ·exact (List.nodup_cons.1 h6.2.1).1 (q ▸ List.mem_map.2 ⟨e,he,Z⟩)
  have hcase:e=(x.mem.name,v2,rows++[us])∨e∈E1++E2:=by
   rcases List.mem_append.1 he with he | he
   ·exact .inr<|List.mem_append_left _ he
   ·rcases List.mem_cons.1 he with he | he
    ·exact .inl he
    ·exact .inr<|List.mem_append_right _ he
  rcases hcase with rfl | he2
  ·dsimp only
   rw [p8,if_pos rfl]
   exact ⟨hv,(hr (x.mem.name,v,rows)<|by simp).2.snoc hx⟩
  ·rw [p8,if_neg (λq=>hother e he2 q.symm)]
   exact hr e (by rcases List.mem_append.1 he2 with h | h <;> simp [h])
theorem OD {Y:Res} {E:List BE} {cs:List Cm} {n:Nm} {v:Value} {rows:List (List Value)} {F:Value->List (List Value)->List BE} (hb:BOk Y E cs) (hF:(n ∉ (E.map λe=>e.1)/\rows=[]/\∀ v2 r2,F v2 r2=E++[(n,v2,r2)])∨∃ E1 E2,E=E1++(n,v,rows)::E2/\∀ v2 r2,F v2 r2=E1++(n,v2,r2)::E2):rows.length≤cs.length:=by
 rcases hF with ⟨_,rfl,_⟩ | ⟨E1,E2,rfl,_⟩
 ·simp
 ·rw [(hb.2 (n,v,rows)<|by simp).2.1]
  exact List.length_filter_le _ _
attribute [local irreducible] Go.Ck.Sub St Cd Xt Nx DrL LsW
section
variable {X Y:Res} {v v':Value} {us us':List Value}
theorem Dl {mb:Nat} {uc:List Value}:Ct prog 171 #[.agg #[v,.map (some mb)],.agg uc.toArray] [] λu h'=>∃ b1 b2,u = .func (.func 237) #[] #[.pointer (some ⟨b1,0,none⟩),.pointer (some ⟨b2,0,none⟩)]/\h'=[pt b1 (cl uc 44),pt b2 (cl [v,.map (some mb)] 114)]:=by
 refine aL (n:=6) func171 Z Z (len Z) λhr w0=>?_
 refine cQ (aV Z Z λb2=>?_)
 refine aV Z Z λb3=>?_
 refine sA Z<|sK [2,3,4] Z<|cQ<|sV (bW Z Z)<|sA Z<|sK [4] Z<|cT ?_
 exact aj Z ⟨_,_,Z,Z⟩ sbq
theorem en237:Ck.Enters prog 237:=enters_of func237 Zz rfl

theorem xh {mb : Nat} {m : List (Nm × Value)} {fl : Nm -> Fl} {l : FS} {c : FC} {uc : List Value} (hl : Ls X v l) (hc : Enc.rep X uc c) (hm : FlR X m fl) (hf : ∀ p ∈ c.pars, (ae l p.name).forms.length = p.args.length /\ p.und.length ≤ 1099511627776) (hb : (comes fl l c).length * 280 ≤ 1099511627776) :
  CtX prog 113 #[.agg #[v,.map (some mb)],.agg uc.toArray] X [mps mb m] λu Y k'=>∃ bm E,u = .map (some bm)/\k'=[mps mb m,mps bm (kv E),BN E]/\BOk Y E (comes fl l c):=by
 have hml:maxLen=9223372036854775807:=rfl
 have hcl:uc.length=7:=Enc.len hc
 unfold CtX
 refine qM (n:=25) func113 Z Z (len Z) λhr w0=>?_
 refine cQ (aV Z Z λb2=>?_)
 refine aV Z Z λb3=>?_
 refine sA Z<|sK [2,3,4] Z<|cQ (eU (ltn Z) λbm=>?_)
 refine ax al188 λb5=>?_
 refine bf Z Z sz188 ?_
 refine sK [2,3,4,5] Z<|cS<|cQ<|sV (af Z ig Z ah) ?_
 refine sV (af Z gp hcl ah) ?_
 refine aH Z Z en171 Z (Dl (v:=v) (mb:=mb) (uc:=uc)) ?_
 rintro u h' ⟨c1,c2,rfl,rfl⟩
 simp only [lC,lN]
 refine sK [4,5,10] Z<|cB<|dJ (eY (L:=[])) (jg Z en237 λyl db rec hst hpe hps hasg hbo hkn2=>?_)
 refine ⟨_,Ct.perm (GQ (σ := List BE) (mb:=mb) (b1:=c1) (b2:=c2) (yl:=yl) (λE=>pt yl (.loop rec)::pt db (.deferred<|some [])::pt b5 (cl [.map (some bm)] 188)::mps bm (kv E)::BN E::pt b3 (cl uc 44)::pt b2 (cl [v,.map (some mb)] 114)::hr)
  (λk Y E=>BOk Y E ((comes fl l c).take k)) (λ_ _ _=>False) [] ⟨rfl,λe he=>by cases he⟩ hl hc hm hf ?_ (λ_ _ _ _ he h=>h.up he)) ?_,?_⟩
 ·rintro k Y E x us hx hE hrep hbk
  have hone:=Enc.ones hrep
  have hlt:=(List.getElem?_eq_some_iff.1 hx).1
  have htk:(comes fl l c).take (k+1)=(comes fl l c).take k++[x]:=by rw [bV hlt,(List.getElem?_eq_some_iff.1 hx).2]
  obtain ⟨v1,rows,BO,F,hlook,hV1,hV2,hsupd,hcase⟩:=GY E x.mem.name (by rw [hbk.1]; exact iq _)
  have hrl:=OD hbk hcase
  rw [List.length_take] at hrl
  have hstep:=λ(v2:Value) (hv2:v2.oneCell'=true)=>OC (us:=us) hbk hrep hv2 hcase
  obtain ⟨x2,x5,xy,x11,x12,x13,rfl,hxm⟩:=iC hrep
  unfold oJ at *
  refine Yc.perm (qJ (n:=25) (rec:=rec) (args:=[.agg [sv x.og.par,sv x.og.name,.int .i64 x.par,sv x.mem.name,.int .i64 x.mem.kind,x2,sv x.mem.impl.cls,sv x.mem.impl.name,x5,.int .i64 x.mem.ty.kind,sv x.mem.ty.name,xy,.bool x.mem.ty.void,.bool x.mem.ty.sep,x11,x12,x13,.int .i64 x.was].toArray]) (hf:=pt db (.deferred<|some [])::pt b5 (cl [.map (some bm)] 188)::mps bm (kv E)::BN E::Y::mps mb m::pt b3 (cl uc 44)::pt b2 (cl [v,.map (some mb)] 114)::hr) (by rw [hps]; rfl) hkn2 (by rw [hps]; decide) ?_) (by exact (by repeat (first | exact Pm.refl | refine Pm.cons slq ?_):Pm _ _).perm)
  intro hr2 w1
  rw [hasg,hps,hbo]
  simp only [lC,lN]
  refine cR (ax qY λb6=>?_)
  refine ai Z Z mH Z hone ?_
  refine sN<|nK [4,5,6] Z<|au<|lI Z slq (by first | rfl | assumption) ?_
  refine cB<|dJ (Vw.sel (r:=BN E) slq<|hV1 _) ?_
  refine iR (ork [(0,1),(1,2),(2,2),(3,1),(4,1),(5,2),(6,2),(7,1),(8,1),(9,1),(10,0),(11,0),(12,0)] .nil) (λi => !(Nat.beq i 12)) [pt b5 (cl [.map (some bm)] 188),pt b6 (cl [sv x.og.par,sv x.og.name,.int .i64 x.par,sv x.mem.name,.int .i64 x.mem.kind,x2,sv x.mem.impl.cls,sv x.mem.impl.name,x5,.int .i64 x.mem.ty.kind,sv x.mem.ty.name,xy,.bool x.mem.ty.void,.bool x.mem.ty.sep,x11,x12,x13,.int .i64 x.was] 191),mps bm (kv E)] mixed Zz ?_
  refine bg Z (vY Z qW) ?_
  refine dV Z (vF Z dW Z)<|dV Z (vF Z eD Z)<|bg Z (vY Z ld9) ?_
  refine bg Z (vY Z qW) ?_
  refine dV Z (vF Z dW Z)<|dV Z (vF Z eD Z)<|bg Z (vY Z ld9) ?_
  refine bg Z (gG hlook<|bI Z Z sQ tL slq) ?_
  refine bg Z (af Z ik Z ah) ?_
  refine aP Z (ak (cells:=[sv x.og.par,sv x.og.name,.int .i64 x.par,sv x.mem.name,.int .i64 x.mem.kind,x2,sv x.mem.impl.cls,sv x.mem.impl.name,x5,.int .i64 x.mem.ty.kind,sv x.mem.ty.name,xy,.bool x.mem.ty.void,.bool x.mem.ty.sep,x11,x12,x13,.int .i64 x.was]) Z underlying187 zM Z Z Zz (ltn Z) λb22=>aX ?_)
  refine aP Z (dF [[sv x.og.par,sv x.og.name,.int .i64 x.par,sv x.mem.name,.int .i64 x.mem.kind,x2,sv x.mem.impl.cls,sv x.mem.impl.name,x5,.int .i64 x.mem.ty.kind,sv x.mem.ty.name,xy,.bool x.mem.ty.void,.bool x.mem.ty.sep,x11,x12,x13,.int .i64 x.was]] Z Z underlying187 zM Z (by decide) (show Sel _ (VR v1 191 18 rows) _ from slq) (by simp) Z (λj u2 hu2=>bQ<|bU Zt) Z0 (by omega) (by omega) (ltn Z) λw2 hw2 _=>aX ?_)
  refine aP Z<|cZ Z Z Z sQ slq<|aX ?_
  rw [hsupd]
  refine bA<|nK [4] Z<|au<|xB<|kP (fI (L:=[VR w2 191 18 (rows++[[sv x.og.par,sv x.og.name,.int .i64 x.par,sv x.mem.name,.int .i64 x.mem.kind,x2,sv x.mem.impl.cls,sv x.mem.impl.name,x5,.int .i64 x.mem.ty.kind,sv x.mem.ty.name,xy,.bool x.mem.ty.void,.bool x.mem.ty.sep,x11,x12,x13,.int .i64 x.was]]),BO])) ?_
  simp only [lC,lN]
  refine jC (hV2 _ _ _)<|dB slq (.inl ⟨Z,Y,_,Ext.refl Y,by rw [htk]; exact hstep w2 hw2,Z⟩) ?_
  rw [dC hst hpe]
  exact sbq
 ·exact (by repeat (first | exact Pm.refl | refine Pm.cons slq ?_):Pm _ _).perm
 ·rintro u h' ⟨rfl,(⟨Y,E,hE,hbk,rfl⟩ | ⟨k,Y,t,_,hS,rfl⟩)⟩
  ·rw [List.take_length] at hbk
   refine ⟨rec,_,slq,(by rw [hst]; simp),?_⟩
   rw [hpe]
   dsimp only
   refine xB<|xT<|cQ<|sV (vY Z qW) ?_
   refine sA Z<|sK [4] Z<|cT ?_
   exact jS (bs:=[db]) Z Z ⟨Y,_,Z,hE,bm,E,Z,Z,hbk⟩ sbq
  ·exact hS.elim
end
end Go.Fl
namespace Go.Fl
open Go Go.RowKit Go.Ck Go.Proofs Go.Proofs.Tryz Go.Proofs.YtknmacdbffgjgaaGreatDoor Fx Go.Hr

def Ji:Go.Shelf.Ren:={
 f:=λ| 6=>124 | 15=>202 | 14=>201 | 28=>258 | 29=>259 | 20=>250 | 21=>251 | 22=>252 | 23=>253 | 24=>254 | 25=>255 | 26=>256 | 27=>257 | 46=>289 | 47=>290 | 48=>291 | 49=>292 | 50=>293 | 57=>304 | n=>n
 t:=λ| 22=>52 | 24=>75 | 25=>204 | 3=>3 | 39=>275 | 0=>0 | 53=>322 | 55=>324 | 4=>4 | 46=>316 | 45=>315 | 50=>222 | 5=>5 | 9=>9 | 66=>345 | 70=>349 | 76=>365 | 77=>366 | n=>n
 g:=λn=>n }
theorem laysMb:Go.Proofs.SlLaysF0.n6 prog Ji:={
 mixed:=rfl
 f6 := bT "slices.SortFunc[[]cosigner/api.Member,cosigner/api.Member]" rfl (func124.trans (congrArg some Zz))
 f14 := bT "slices.pdqsortCmpFunc[cosigner/api.Member]" rfl (func201.trans (congrArg some Zz))
 f15:=func202.trans<|congrArg some Zz
 f20 := bT "slices.insertionSortCmpFunc[cosigner/api.Member]" rfl (func250.trans (congrArg some Zz))
 f21 := bT "slices.heapSortCmpFunc[cosigner/api.Member]" rfl (func251.trans (congrArg some Zz))
 f22 := bT "slices.breakPatternsCmpFunc[cosigner/api.Member]" rfl (func252.trans (congrArg some Zz))
 f23 := bT "slices.choosePivotCmpFunc[cosigner/api.Member]" rfl (func253.trans (congrArg some Zz))
 f24 := bT "slices.reverseRangeCmpFunc[cosigner/api.Member]" rfl (func254.trans (congrArg some Zz))
 f25 := bT "slices.partialInsertionSortCmpFunc[cosigner/api.Member]" rfl (func255.trans (congrArg some Zz))
 f26 := bT "slices.partitionEqualCmpFunc[cosigner/api.Member]" rfl (func256.trans (congrArg some Zz))
 f27 := bT "slices.partitionCmpFunc[cosigner/api.Member]" rfl (func257.trans (congrArg some Zz))
 f28:=func258.trans<|congrArg some Zz
 f29:=func259.trans<|congrArg some Zz
 f46 := bT "slices.siftDownCmpFunc[cosigner/api.Member]" rfl (func289.trans (congrArg some Zz))
 f47:=func290.trans<|congrArg some Zz
 f48:=func291.trans<|congrArg some Zz
 f49 := bT "slices.medianAdjacentCmpFunc[cosigner/api.Member]" rfl (func292.trans (congrArg some Zz))
 f50 := bT "slices.medianCmpFunc[cosigner/api.Member]" rfl (func293.trans (congrArg some Zz))
 f57 := bT "slices.order2CmpFunc[cosigner/api.Member]" rfl (func304.trans (congrArg some Zz))
 t0:=underlying0
 a0:=isAgg0
 z0:=sizeOf0
 v0:=zeroValue0
 t3:=underlying3
 a3:=isAgg3
 z3:=sizeOf3
 v3:=zeroValue3
 t4:=underlying4
 a4:=isAgg4
 z4:=sizeOf4
 v4:=zeroValue4
 t5:=underlying5
 a5:=isAgg5
 z5:=sizeOf5
 v5:=zeroValue5
 t9:=underlying9
 a9:=isAgg9
 z9:=sizeOf9
 v9:=zeroValue9
 t22:=underlying52
 a22:=isAgg52
 z22:=sizeOf52
 v22:=zeroValue52
 t25:=underlying204
 a25:=isAgg204
 z25:=sizeOf204
 v25:=zeroValue204
 t39:=underlying275
 a39:=isAgg275
 z39:=sizeOf275
 v39:=zeroValue275
 t45:=underlying315
 a45:=isAgg315
 z45:=sizeOf315
 v45:=zeroValue315
 t46:=underlying316
 a46:=isAgg316
 z46:=sizeOf316
 v46:=zeroValue316
 t50:=underlying222
 a50:=isAgg222
 z50:=sizeOf222
 v50:=zeroValue222
 t53:=underlying322
 a53:=isAgg322
 z53:=sizeOf322
 v53:=zeroValue322
 t55:=underlying324
 a55:=isAgg324
 z55:=sizeOf324
 v55:=zeroValue324
 t66:=underlying345
 a66:=isAgg345
 z66:=sizeOf345
 v66:=zeroValue345
 t70:=underlying349
 a70:=isAgg349
 z70:=sizeOf349
 v70:=zeroValue349
 t76:=underlying365
 a76:=isAgg365
 z76:=sizeOf365
 v76:=zeroValue365
 t77:=underlying366
 a77:=isAgg366
 z77:=sizeOf366
 v77:=zeroValue366 }
abbrev MC:Type:={ p:Mb×List Value // p.2.length=14/\p.2.all Value.oneCell'=true/\p.2[0]? = some (sv p.1.name) }
instance:Inhabited MC:=⟨⟨(mb0,sv []::List.replicate 13 (.bool false)),rfl,rfl,rfl⟩⟩
def GZ (a b:MC):Int:=q8 a.1.1.name b.1.1.name
theorem G5 (a b:Nm):(q8 a b<0)↔lt a b=true:=by
 unfold q8
 rcases dX a b with h | h | h
 ·simp [h]
 ·rw [h]; simp [lt_irrefl]
 ·simp [h,iM h]
theorem swoMC:Sort.SWO (ltOf GZ):=by
 have key:∀ x y,ltOf GZ x y=lt x.1.1.name y.1.1.name:=λx y=>by
  unfold ltOf GZ
  rw [Bool.eq_iff_iff,decide_eq_true_iff,G5]
 refine ⟨λx=>by rw [key,lt_irrefl],λx y z h1 h2=>by rw [key] at *; exact lt_trans h1 h2,λx y z h1 h2=>?_⟩
 rw [key] at *
 cases h3:lt x.1.1.name z.1.1.name with
 | false=>rfl
 | true =>
  rcases dX x.1.1.name y.1.1.name with h4 | h4 | h4
  ·rw [h1] at h4; cases h4
  ·rw [h4,h2] at h3; cases h3
  ·rw [lt_trans h4 h3] at h2; cases h2
attribute [local irreducible] Go.Ck.Sub St Cd Xt Nx DrL LsW
section
variable {X Y:Res} {v v':Value} {us us':List Value}
theorem L8 (a b:MC):Reads prog 125 #[.agg a.1.2.toArray,.agg b.1.2.toArray] [] (.int .i64 (GZ a b)):=by
 obtain ⟨⟨n,us⟩,h1,h2,h3⟩:=a
 obtain ⟨⟨n',us'⟩,h1',h2',h3'⟩:=b
 dsimp only at h1 h2 h3 h1' h2' h3' ⊢
 obtain ⟨c,t,rfl⟩:∃ c t,us=c::t:=by cases us with | nil=>cases h1 | cons c t=>exact ⟨c,t,rfl⟩
 obtain ⟨c',t',rfl⟩:∃ c t,us'=c::t:=by cases us' with | nil=>cases h1' | cons c t=>exact ⟨c,t,rfl⟩
 obtain rfl:c=sv n.name:=Zb
 obtain rfl:c'=sv n'.name:=by simpa using h3'
 unfold GZ
 refine aL (n:=10) func125 Z Z (len Z) λhr w0=>?_
 refine cQ (aV Z Z λb2=>?_)
 refine aV Z Z λb3=>?_
 refine sA Z<|sK [2,3,4] Z<|cQ<|sV (vF Z eD Z)<|sV (vY Z ld9) ?_
 refine sV (vF Z eD Z)<|sV (vY Z ld9) ?_
 refine aY Z Z Kl Z (yV n.name n'.name) ?_
 refine sA Z<|sK [4] Z<|cT ?_
 exact aj Z ⟨Z,Z⟩ sbq
theorem mb_name {m:Mb} (h:Enc.rep X us m):us.length=14/\us.all Value.oneCell'=true/\us[0]? = some (sv m.name):=by
 refine ⟨Enc.len h,Enc.ones h,?_⟩
 obtain ⟨x2,x5,xy,x11,x12,x13,rfl,_⟩:=dI h
 rfl
theorem Jj {Y:Res} {v:Value} {rows:List (List Value)} {ms:List Mb} (hr:Rws Y rows ms) (hn:(ms.map λm=>m.name).Nodup) (hl:ms.length≤1099511627776):Ct prog 124 #[v,.func (.func 125) #[] #[]] [VR v 75 14 rows] λu h'=>u = .tuple #[]/\∃ rows',Rws Y rows' (ry ms)/\rows'.length=rows.length/\h'=[VR v 75 14 rows']:=by
  have hex : ∃ xs : List MC, xs.map (λx => x.1.2) = rows /\ xs.map (λx => x.1.1) = ms /\ ∀ x ∈ xs, Enc.rep Y x.1.2 x.1.1 := by
    obtain ⟨hlen,hr⟩:=hr
    clear hn hl
    induction rows generalizing ms with
    | nil => have : ms = [] := by cases ms with | nil => rfl | cons _ _ => cases hlen
             subst this; exact ⟨[],rfl,rfl,λx hx=>by cases hx⟩
    | cons r t ih =>
      cases ms with
      | nil=>cases hlen
      | cons m mt =>
        have h0:=hr 0 r m rfl rfl
        have h1:=mb_name h0
        obtain ⟨xs,h2,h3,h4⟩:=ih (ms:=mt) (by simpa using hlen) λj us x g1 g2=>hr (j+1) us x g1 g2
        refine ⟨⟨(m,r),h1⟩::xs,by rw [List.map_cons,h2],by rw [List.map_cons,h3],λx hx=>?_⟩
        rcases List.mem_cons.1 hx with rfl | hx
        · exact h0
        · exact h4 x hx
  obtain ⟨xs,hx1,hx2,hx3⟩:=hex
  have hxl:xs.length=ms.length:=by have:=congrArg List.length hx2; simpa using this
  have h:=GN (E:=75) (v:=v) laysMb (k:=14) isAgg75 sizeOf75 (enc:=λx:MC=>x.1.2) (λx=>x.2.1) (λx u hu=>List.all_eq_true.1 x.2.2.1 u hu) swoMC (g:=125) (enters_of func125 Zz rfl) (λx y=>L8 x y) (xs:=xs)<|by omega
  rw [hx1] at h
  refine Ct.mono h ?_
  rintro u h' ⟨rfl,ys,hp,hs,rfl⟩
  refine ⟨Z,_,?_,by rw [<- hx1,List.length_map,List.length_map]; exact hp.length_eq,Z⟩
  have hpm:(ys.map λy=>y.1.1).Perm ms:=by rw [<- hx2]; exact hp.map _
  have hnd:((ys.map λy=>y.1.1).map λm=>m.name).Nodup:=(hpm.map _).nodup_iff.2 hn
  have hsrt:sH (ys.map λy=>y.1.1):=by
    unfold sH
    rw [List.pairwise_map]
    rw [List.map_map] at hnd
    have h7:=List.pairwise_map.1 hnd
    refine (hs.and h7).imp λ{a b} hab=>?_
    rcases dX a.1.1.name b.1.1.name with g | g | g
    · exact g
    · exact absurd g hab.2
    · exact (hab.1 ((G5 _ _).2 g)).elim
  have he:(ys.map λy=>y.1.1)=ry ms:=xO hsrt (iZ hn).1 λm=>by rw [(iZ hn).2,hpm.mem_iff]
  rw [<- he]
  refine ⟨by simp,λj us x g1 g2=>?_⟩
  rw [List.getElem?_map] at g1 g2
  cases hj:ys[j]? with
  | none=>rw [hj] at g1; cases g1
  | some y =>
    rw [hj] at g1 g2
    cases g1; cases g2
    exact hx3 y<|hp.mem_iff.1<|List.mem_of_getElem? hj
end
end Go.Fl
