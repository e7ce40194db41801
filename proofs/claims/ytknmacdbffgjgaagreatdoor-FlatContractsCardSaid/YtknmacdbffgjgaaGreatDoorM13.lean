/-
  Go's library: maps.Keys,slices.AppendSeq,slices.Collect,slices.Sorted at names. Conditions: sizes.
-/
import Derived.Test.YtknmacdbffgjgaaGreatDoorM12
import Derived.Test.YtknmacdbffgjgaaGreatDoorM10
import Derived.Test.YtknmacdbffgjgaaGreatDoorM3
import Derived.Laws.IdiomRangeMap
import Derived.Test.YtknmacdbffgjgaaGreatDoorM6
set_option linter.unusedVariables false
set_option linter.unusedSimpArgs false
set_option maxRecDepth 100000
set_option maxHeartbeats 16000000
namespace Go.Fl
open Go Go.RowKit Go.Ck Go.Proofs Go.Proofs.Tryz Go.Proofs.YtknmacdbffgjgaaGreatDoor Fx Go.Hr
theorem GG {s t:Cla}:decide (s=t)=(decide (s.ex=t.ex) && s.tag == t.tag):=by
 obtain ⟨a,b⟩:=s
 obtain ⟨c,d⟩:=t
 rw [Bool.eq_iff_iff]
 simp [and_comm]
attribute [local irreducible] Go.Ck.Sub St Cd Xt Nx DrL LsW
section
variable {X:Res} {v v':Value}
theorem GH : ∀ (d : Nat) (s t : Ex) (us us' : List Value), s.depth ≤ d -> Enc.rep X us s -> Enc.rep X us' t -> Reads prog 235 #[.agg us.toArray, .agg us'.toArray] [X] (.bool (decide (s = t)))
 | 0,s,_,_,_,hd,_,_=>by cases s; simp [Ex.depth] at hd
 | d + 1, s, t, us, us', hd, hs, ht => by
  have hml:maxLen=9223372036854775807:=rfl
  obtain ⟨x,rfl,hx⟩:=lQ hs
  obtain ⟨y,rfl,hy⟩:=lQ ht
  have hF:∀ (a b:Ex) us us',a∈s.kids->Enc.rep X us a->Enc.rep X us' b->Reads prog 235 #[.agg us.toArray,.agg us'.toArray] [X] (.bool<|decide (a=b)):=λa b us us' ha h1 h2=>GH d a b us us' (by have:=o7 ha; omega) h1 h2
  rw [C8]
  obtain ⟨xa,xc,rfl,hlc,hcm,_⟩:=hx.form
  obtain ⟨ya,yc,rfl,hlc',hcm',_⟩:=hy.form
  unfold exC
  refine aL (n:=55) func235 Z Z (len Z) λhr w0=>?_
  refine cQ (aP Z Z λb2=>?_)
  refine aP Z Z λb3=>?_
  refine sA Z<|sK [2,3,4] Z<|cS<|cQ<|sV (vF Z zn Z)<|sV (vY Z ld3) ?_
  refine sV (vF Z zn Z)<|sV (vY Z ld3) ?_
  refine sV (bP Z Z)<|sM Z<|bC (k:=12) (d:=18) (v:=.bool ((s.kind != t.kind) || !(s.name == t.name))) (λhcut=>aM (b:=(s.kind != t.kind)) false (λhg=>?_)<|λhg=>?_) ?_
  ·refine aC Z Z hg ?_
   iterate 4 refine aC rfl rfl hg ?_
   refine sV (vQ (bO Z hg) Z) ?_
   exact hcut _ uG
  ·refine sG Z (bG Z hg) (vF Z zo Z)<|sG Z (bG Z hg) (vY Z ld9) ?_
   refine sG Z (bG Z hg) (vF Z zo Z)<|sG Z (bG Z hg) (vY Z ld9) ?_
   refine sG Z (bG Z hg) (wV Z Z)<|sV (vP (bO Z hg) Z) ?_
   exact hcut _ uG
  refine sM Z<|bC (k:=19) (d:=25) (v:=.bool (((s.kind != t.kind) || !(s.name == t.name)) || (s.num != t.num))) (λhcut=>aM (b:=((s.kind != t.kind) || !(s.name == t.name))) false (λhg=>?_)<|λhg=>?_) ?_
  ·refine aC Z Z hg ?_
   iterate 4 refine aC rfl rfl hg ?_
   refine sV (vQ (bO Z hg) Z) ?_
   exact hcut _ uG
  ·refine sG Z (bG Z hg) (vF Z zq Z)<|sG Z (bG Z hg) (vY Z ld3) ?_
   refine sG Z (bG Z hg) (vF Z zq Z)<|sG Z (bG Z hg) (vY Z ld3) ?_
   refine sG Z (bG Z hg) (bP Z Z)<|sV (vP (bO Z hg) Z) ?_
   exact hcut _ uG
  refine sM Z<|bC (k:=28) (d:=34) (v:=.bool ((((s.kind != t.kind) || !(s.name == t.name)) || (s.num != t.num)) || (((s.kids.length:Nat):Int) != (t.kids.length:Nat)))) (λhcut=>aM (b:=(((s.kind != t.kind) || !(s.name == t.name)) || (s.num != t.num))) false (λhg=>?_)<|λhg=>?_) ?_
  ·refine aC Z Z hg ?_
   iterate 6 refine aC rfl rfl hg ?_
   refine sV (vQ (bO Z hg) Z) ?_
   exact hcut _ uG
  ·refine sG Z (bG Z hg) (vF Z jq Z)<|sG Z (bG Z hg) (vY Z sO) ?_
   refine sG Z (bG Z hg) (aF Z underlying214)<|sG Z (bG Z hg) (vF Z jq Z)<|sG Z (bG Z hg) (vY Z sO) ?_
   refine sG Z (bG Z hg) (aF Z underlying214)<|sG Z (bG Z hg) (bP Z Z)<|sV (vP (bO Z hg) Z) ?_
   exact hcut _ uG
  refine sK [2,3,4,34] Z<|cC Z (λhq=>?_)<|λhq=>?_
  ·rw [show (((s.kind == t.kind && s.name == t.name) && s.num == t.num) && decide (s.kids=t.kids))=false by
    cases hw:(((s.kind == t.kind && s.name == t.name) && s.num == t.num) && decide (s.kids=t.kids)) with
    | false=>rfl
    | true =>
     simp only [Bool.and_eq_true,beq_iff_eq,decide_eq_true_eq] at hw
     obtain ⟨⟨⟨w1,w2⟩,w3⟩,w4⟩:=hw
     rw [w4] at hq
     simp [w1,w2,w3] at hq]
   refine cQ<|sA Z<|sK [4] Z<|cT<|xR ?_
   exact aj Z ⟨Z,Z⟩ sbq
  ·have hq:((((s.kind != t.kind) || !(s.name == t.name)) || (s.num != t.num)) || (((s.kids.length:Nat):Int) != (t.kids.length:Nat)))=false:=hq
   simp only [Bool.or_eq_false_iff,bne_eq_false_iff_eq,Bool.not_eq_false',beq_iff_eq] at hq
   obtain ⟨⟨⟨q1,q2⟩,q3⟩,q5⟩:=hq
   have hl:s.kids.length=t.kids.length:=by omega
   rw [show (((s.kind == t.kind && s.name == t.name) && s.num == t.num) && decide (s.kids=t.kids))=decide (s.kids=t.kids) by simp [q1,q2,q3]]
   refine cK<|xT<|cS<|cQ<|sA Z<|sK [2,3,4,5] Z<|cB<|aX (σ := Nat) (λi=>[(2,.pointer (some ⟨b2,0,none⟩)),(3,.pointer (some ⟨b3,0,none⟩)),(5,.int .i64 (i:Nat))]) (λ_=>pt b2 (cl [.int .i64 s.kind,sv s.name,.int .i64 s.num,.slice xa s.kids.length xc] 216)::pt b3 (cl [.int .i64 t.kind,sv t.name,.int .i64 t.num,.slice ya t.kids.length yc] 216)::X::hr) (λi=>i≤s.kids.length/\s.kids.take i=t.kids.take i) (λi=>s.kids.length - i) 0 ⟨Nat.zero_le _,Z⟩ ?_
   rintro i ⟨hi,hal⟩
   refine cS<|cQ<|sM Z<|sV (vF Z jq Z)<|sV (vY Z sO) ?_
   refine sV (aF Z underlying214)<|sV (aN Z Z)<|sK [2,3,5,39] Z<|cC Z (λhd=>?_)<|λhd=>?_
   ·have hlt:i<s.kids.length:=Zx
    have hlt':i<t.kids.length:=by omega
    have hg:=Zy hlt
    have hg':=Zy hlt'
    have hmem:=List.getElem_mem hlt
    obtain ⟨b,o,cap2,us,e1,hus,hrd,hta⟩:=hx.at hg
    cases e1
    obtain ⟨b',o',cap2',us',e1,hus',hrd',htb⟩:=hy.at hg'
    cases e1
    generalize s.kids[i]=x at hg hmem hta
    generalize t.kids[i]=y at hg' htb
    refine cK<|xT<|cS<|cB<|cS<|bB (ork [(0,2),(1,1),(2,2),(3,2),(4,1),(5,2),(6,1),(7,2),(8,2),(9,1),(10,1),(11,2)] .nil) (λ_=>true) mixed Zz ?_
    refine dV Z (vF Z jq Z)<|bu Z (vY Z sO) ?_
    refine dV Z (vM Z)<|dV Z (vI (k:=i) Z Z Cs Z hlt Z)<|bu Z (af Z jR hus hrd) ?_
    refine dV Z (vF Z jq Z)<|bu Z (vY Z sO) ?_
    refine dV Z (vM Z)<|dV Z (vI (k:=i) Z Z Cs Z hlt' Z)<|bu Z (af Z jR hus' hrd') ?_
    refine jG Z Z Z en235 Z ((hF x y us us' hmem hta htb)) ?_
    refine dV Z (vA Z)<|bA<|nK [2,3,5,6] Z<|nT<|cQ<|sM Z<|sV (bg Z)<|sK [2,3,5,54] Z<|cC Z (λhne=>?_)<|λhne=>?_
    ·have hne:x≠y:=Zv
     rw [GD hg hg' hne]
     refine cQ<|sA Z<|sK [4] Z<|cT<|xW<|xR<|xR<|xW<|xR ?_
     exact aj Z ⟨Z,Z⟩ sbq
    ·have hne:x=y:=Zv
     refine cK<|xB<|xT<|cR<|sM Z<|sV (aI Z Z Za)<|sA Z<|sN<|nK [2,3,5] Z<|ax ?_
     refine aJ (i+1) ⟨hlt,kP hal hg hg' hne⟩ (by show s.kids.length - (i+1)<s.kids.length - i; omega)
   ·have hie:i=s.kids.length:=Nat.le_antisymm hi<|Nat.not_lt.1 Zx
    subst hie
    rw [take_eq_all hl hal]
    refine aB<|xE<|xE<|xY<|xT<|cQ<|sA Z<|sK [4] Z<|cT ?_
    exact aj Z ⟨Z,Z⟩ sbq
theorem eqE_ct {s t:Ex} {us us':List Value} (hs:Enc.rep X us s) (ht:Enc.rep X us' t):Reads prog 235 #[.agg us.toArray,.agg us'.toArray] [X] (.bool (decide (s=t))):=GH _ s t us us' (Nat.le_refl _) hs ht
theorem NZ {xs ys:List Cla} (hx:Ls X v xs) (hy:Ls X v' ys):Reads prog 168 #[v,v'] [X] (.bool (decide (xs=ys))):=by
 have hml:maxLen=9223372036854775807:=rfl
 obtain ⟨xa,xc,rfl,hlc,hcm,_⟩:=id hx.form
 obtain ⟨ya,yc,rfl,hlc',hcm',_⟩:=id hy.form
 refine aL (n:=44) func168 Z Z (len Z) λhr w0=>?_
 refine cQ<|sA Z<|sN<|nT<|cS<|cQ<|sM Z<|sV (aF Z underlying42)<|sM Z<|sV (aF Z underlying42)<|sV (bP Z Z)<|sK [0,1,4,11] Z<|cC Z (λhq=>?_)<|λhq=>?_
 ·rw [NY (show xs.length≠ys.length from λh=>by rw [h] at hq; simp at hq)]
  refine cQ<|sA Z<|sK [4] Z<|cT<|xR ?_
  exact aj Z ⟨Z,Z⟩ sbq
 ·have hl:xs.length=ys.length:=by
   have hq:((xs.length:Nat):Int)=(ys.length:Nat):=Zu
   omega
  refine cK<|xT<|cS<|cQ<|sA Z<|sK [0,1,4,5] Z<|cB<|aX (σ := Nat) (λi=>[(0,.slice xa xs.length xc),(1,.slice ya ys.length yc),(5,.int .i64 (i:Nat))]) (λ_=>X::hr) (λi=>i≤xs.length/\xs.take i=ys.take i) (λi=>xs.length - i) 0 ⟨Nat.zero_le _,Z⟩ ?_
  rintro i ⟨hi,hal⟩
  refine cS<|cQ<|sM Z<|sM Z<|sV (aF Z underlying42)<|sV (aN Z Z)<|sK [0,1,5,15] Z<|cC Z (λhd=>?_)<|λhd=>?_
  ·have hlt:i<xs.length:=Zx
   have hlt':i<ys.length:=by omega
   have hg:=Zy hlt
   have hg':=Zy hlt'
   obtain ⟨b,o,cap2,us,e1,hus,hrd,hta⟩:=hx.at hg
   cases e1
   obtain ⟨b',o',cap2',us',e1,hus',hrd',htb⟩:=hy.at hg'
   cases e1
   generalize xs[i]=x at hg hta
   generalize ys[i]=y at hg' htb
   obtain ⟨ts,rfl,hts⟩:=hta
   obtain ⟨us2,rfl,hus2⟩:=htb
   have hel:=eqE_ct hts hus2
   obtain ⟨p,rfl,hp⟩:=lQ hts
   obtain ⟨q,rfl,hq2⟩:=lQ hus2
   unfold exC at hrd hrd' hel
   refine cK<|xT<|cS<|cB<|cS<|bB (ork [(0,2),(1,2),(2,2),(3,2),(4,1),(5,2),(6,2),(7,2),(8,2),(9,1),(10,1),(11,2)] .nil) (λ_=>true) mixed Zz ?_
   refine dV Z (vM Z)<|dV Z (vM Z)<|dV Z (vI (k:=i) Z Z Ff Z hlt Z)<|dV Z (vF Z oZ Z)<|bu Z (af Z jR Z<|bF (k:=1) hrd (vs:=[.int .i64 x.ex.kind,sv x.ex.name,.int .i64 x.ex.num,p]) Z) ?_
   refine dV Z (vM Z)<|dV Z (vM Z)<|dV Z (vI (k:=i) Z Z Ff Z hlt' Z)<|dV Z (vF Z oZ Z)<|bu Z (af Z jR Z<|bF (k:=1) hrd' (vs:=[.int .i64 y.ex.kind,sv y.ex.name,.int .i64 y.ex.num,q]) Z) ?_
   refine jG Z Z Z en235 Z (hel) ?_
   refine dV Z (vA Z)<|bA<|nK [0,1,5,6] Z<|nT<|cS<|bB (ork [(0,2),(1,2),(2,2),(3,2),(4,2),(5,2),(6,2),(7,1),(8,2),(9,2),(10,2),(11,2),(12,1),(13,1),(14,2)] .nil) (λ_=>true) mixed Zz ?_
   refine dV Z (vM Z)<|dV Z (bg Z)<|dV Z (vM Z) ?_
   have hxy:=GG (s:=x) (t:=y)
   generalize hB:decide (x.ex=y.ex)=B
   rw [hB] at hxy
   cases B with
   | false =>
    have hne:x≠y:=by
     rw [Bool.false_and] at hxy; exact of_decide_eq_false hxy
    rw [GD hg hg' hne]
    iterate 4 refine jB rfl rfl rfl rfl ?_
    refine lD Z Z Z Z ?_
    iterate 4 refine jB rfl rfl rfl rfl ?_
    iterate 2 refine lD rfl rfl rfl rfl ?_
    refine dV Z (vQ Z Z)<|bA<|nK [0,1,5,43] Z<|nT<|aQ Z ?_
    refine cQ<|sA Z<|sK [4] Z<|cT<|xW<|xR<|xR<|xW<|xR ?_
    exact aj Z ⟨Z,Z⟩ sbq
   | true =>
    refine fG Z Z Z (vM Z)<|fG Z Z Z (vM Z)<|fG Z Z Z (vI (k:=i) Z Z Ff Z hlt Z)<|fG Z Z Z (vF Z zt Z)<|lw Z Z Z (vY Z ld9 (ha:=⟨X,_,slq,qU (k:=0) hrd Z⟩)) ?_
    refine fG Z Z Z (vM Z)<|fG Z Z Z (vM Z)<|fG Z Z Z (vI (k:=i) Z Z Ff Z hlt' Z)<|fG Z Z Z (vF Z zt Z)<|lw Z Z Z (vY Z ld9 (ha:=⟨X,_,slq,qU (k:=0) hrd' Z⟩)) ?_
    refine lw Z Z Z (wV Z Z)<|dV Z (vP Z Z)<|bA<|nK [0,1,5,43] Z<|nT<|cC Z (λhne=>?_)<|λhne=>?_
    ·have hne:x≠y:=by
      have h2:(x.tag == y.tag)=false:=Zv
      rw [h2] at hxy
      exact of_decide_eq_false hxy
     rw [GD hg hg' hne]
     refine cQ<|sA Z<|sK [4] Z<|cT<|xW<|xR<|xR<|xW<|xR ?_
     exact aj Z ⟨Z,Z⟩ sbq
    ·have hne:x=y:=by
      have h2:(x.tag == y.tag)=true:=Zv
      rw [h2] at hxy
      exact of_decide_eq_true hxy
     refine cK<|xB<|xT<|cR<|sM Z<|sV (aI Z Z Za)<|sA Z<|sN<|nK [0,1,5] Z<|ax ?_
     refine aJ (i+1) ⟨hlt,kP hal hg hg' hne⟩ (by show xs.length - (i+1)<xs.length - i; omega)
  ·have hie:i=xs.length:=Nat.le_antisymm hi<|Nat.not_lt.1 Zx
   subst hie
   rw [take_eq_all hl hal]
   refine aB<|xE<|xE<|xY<|xT<|cQ<|sA Z<|sK [4] Z<|cT ?_
   exact aj Z ⟨Z,Z⟩ sbq
theorem eq96_ct {s t:Grp} {us us':List Value} (hs:Enc.rep X us s) (ht:Enc.rep X us' t):Reads prog 96 #[.agg us.toArray,.agg us'.toArray] [X] (.bool (decide (s=t))):=by
 obtain ⟨x,rfl,hx⟩:=hs
 obtain ⟨y,rfl,hy⟩:=ht
 have hel:=NZ hx hy
 rw [C9,Bool.and_comm]
 refine aL (n:=19) func96 Z Z (len Z) λhr w0=>?_
 refine cQ (aP Z Z λb2=>?_)
 refine aP Z Z λb3=>?_
 refine sA Z<|sK [2,3,4] Z<|cQ<|sV (vF Z rR Z)<|sV (vY Z tH) ?_
 refine sV (vF Z rR Z)<|sV (vY Z tH) ?_
 refine aY Z Z en168 Z (hel) ?_
 refine sA Z<|sK [2,3,4,5] Z<|cQ<|sM Z<|sM Z<|bC (k:=8) (d:=18) (v:=.bool (decide (s.cs=t.cs) && s.cls == t.cls)) (λhcut=>aM (b:=(decide (s.cs=t.cs))) true (λhg=>?_)<|λhg=>?_) ?_
 ·refine aC Z Z hg ?_
  iterate 4 refine aC rfl rfl hg ?_
  refine sV (vP (bO Z hg) Z) ?_
  exact hcut _ uG
 ·refine sG Z (bG Z hg) (vF Z zl Z)<|sG Z (bG Z hg) (vY Z ld9) ?_
  refine sG Z (bG Z hg) (vF Z zl Z)<|sG Z (bG Z hg) (vY Z ld9) ?_
  refine sG Z (bG Z hg) (iE Z Z)<|sV (vQ (bO Z hg) Z) ?_
  exact hcut _ uG
 refine sA Z<|sK [4] Z<|cT ?_
 exact aj Z ⟨Z,Z⟩ sbq
end
end Go.Fl
namespace Go.Ck
open Go Go.RowKit
def mit (mb ib:Nat) (m left:List (Int×Value)) (last:Option (Int×Value)):Res where
 dom b:=b=mb∨b=ib
 ok f:=mb≠ib/\∃ es ck seen,f mb=some (.map es ck)/\es.toList.map (λx:MapEntry=>(x.key,x.val))=mU m/\Brn es ck m/\f ib=some (.mapIter (some mb) ck seen ck) /\
  ((es.toList.filter λx:MapEntry => !seen.contains x.born).map λx:MapEntry=>(x.key,x.val)).Perm (mU left)/\∀ p,last=some p->∃ x∈es.toList,seen.back? = some x.born/\x.key = .int .i64 p.1/\x.val=p.2
 loc f g he:=λ⟨hn,es,ck,seen,h1,h2,h3,h4,h5⟩=>⟨hn,es,ck,seen,by rw [<- he mb (.inl rfl)]; exact h1,h2,h3,by rw [<- he ib (.inr rfl)]; exact h4,h5⟩
 pres f:=λ⟨_,es,ck,seen,h1,_,_,h4,_⟩ b hb=>by
  rcases hb with rfl | rfl
  ·rw [h1]; rfl
  ·rw [h4]; rfl
theorem Bg (seen : Array Nat) (e : MapEntry) (he : seen.contains e.born = false) : ∀ (l : List MapEntry), (l.map (·.born)).Nodup -> e ∈ l -> (l.filter λx => !seen.contains x.born).Perm (e :: l.filter λx => !(seen.push e.born).contains x.born)
 | [],_,h=>by cases h
 | x :: t, hn, h => by
  rw [List.map_cons,List.nodup_cons] at hn
  have hpush:∀ y:MapEntry,y.born≠e.born->(seen.push e.born).contains y.born=seen.contains y.born:=λy hy=>by
   rw [Bool.eq_iff_iff]; simp [Array.contains_iff_mem,Array.mem_push,hy]
  have hself:(seen.push e.born).contains e.born=true:=by simp
  by_cases hx:x=e
  ·subst hx
   have ht:t.filter (λy => !(seen.push x.born).contains y.born)=t.filter λy => !seen.contains y.born:=List.filter_congr λy hy=>by
    rw [hpush y λheq=>hn.1 (heq ▸ List.mem_map.2 ⟨y,hy,rfl⟩)]
   rw [List.filter_cons,List.filter_cons,he,hself,ht]
   exact .refl _
  ·have hm:e∈t:=(List.mem_cons.1 h).resolve_left λq=>hx q.symm
   have hb:x.born≠e.born:=λheq=>hn.1 (heq ▸ List.mem_map.2 ⟨e,hm,rfl⟩)
   have ih:=Bg seen e he t hn.2 hm
   rw [List.filter_cons,List.filter_cons,hpush x hb]
   by_cases hc:(!seen.contains x.born)=true
   ·rw [if_pos hc,if_pos hc]
    exact (ih.cons x).trans (.swap ..)
   ·rw [if_neg hc,if_neg hc]; exact ih
section
variable {P:Program}
theorem run_next_at {w : World} {mb ib ck : Nat} {es : Array MapEntry} {seen : Array Nat} (h1 : w.heap[mb]? = some (.map es ck)) (h2 : w.heap[ib]? = some (.mapIter (some mb) ck seen ck)) (hold : ∀ x ∈ es.toList, x.born < ck) (ty : TypeId) :
  ((es.toList.filter λx => !seen.contains x.born)=[]/\(Instr.next (.pointer<|some ⟨ib,0,none⟩) false ty).run P w = .ok (.tuple #[.bool false]) w) ∨
  ∃ x∈(es.toList.filter λx => !seen.contains x.born),∃ n:Nat,w.drawn≤n/\(Instr.next (.pointer<|some ⟨ib,0,none⟩) false ty).run P w = .ok (.tuple #[.bool true,x.key,x.val]) { w with drawn:=n,heap:=w.heap.setIfInBounds ib (.mapIter (some mb) ck (seen.push x.born) ck) }:=by
 simp only [Instr.next,getObj,Sem.run_bind,Sem.run,h1,h2,Result.andThen,next_test_false seen es ck ck hold (Nat.le_refl _),Bool.false_eq_true,if_false]
 have hmem:∀ x∈(Array.filter (λe => !seen.contains e.born) es).toList,x.born<ck:=λx hx=>hold x (by simp at hx ⊢; exact hx.1)
 have hL:(Array.filter (λe => !seen.contains e.born) es).toList=es.toList.filter λx => !seen.contains x.born:=by simp
 rw [<- hL]
 generalize Array.filter (λe => !seen.contains e.born) es=L at hmem ⊢
 have e1:L.filter (λx=>decide (x.born<ck))=L:=Array.filter_eq_self.2<|λx hx=>by simpa using hmem x (by simpa using hx)
 have e2:L.filter (λx=>decide (x.born ≥ ck)) = #[]:=by
  rw [Array.filter_eq_empty_iff]
  intro x hx
  have:=hmem x<|by simpa using hx
  simp
  omega
 simp only [e1,e2,Array.append_empty]
 by_cases h0:L.size=0
 ·left
  have:L = #[]:=Array.eq_empty_of_size_eq_zero h0
  subst this
  refine ⟨Z,?_⟩
  simp [choose,Sem.run,Question.forced]
 ·right
  have hne:L.isEmpty=false:=by simp [Array.isEmpty,h0]
  simp only [hne,Bool.false_eq_true,if_false,Array.empty_append,Array.size_map]
  have hch : ∃ (j n : Nat), j < L.size /\ w.drawn ≤ n /\ (choose<|Question.mapNext L.size).run P w = .ok j { w with drawn := n } := by
   by_cases hf:L.size≤1
   ·exact ⟨0,w.drawn,by omega,Nat.le_refl _,by simp [choose,Sem.run,Question.forced,hf]⟩
   ·exact ⟨_,w.drawn+1,Nat.mod_lt _ (by omega),Nat.le_succ _,by
     simp only [choose,Sem.run,Question.forced,decide_eq_true_eq,hf,if_false,Question.cut]
     rfl⟩
  obtain ⟨j,n,hj,hdn,hrun⟩:=hch
  refine ⟨L[j],by simp,n,hdn,?_⟩
  have hset:∀ o':Obj,(setObj ib o').run P { w with drawn:=n } = .ok () { w with drawn:=n,heap:=w.heap.setIfInBounds ib o' }:=λo'=>by
   simp [setObj,Sem.run,h2]
  simp only [hrun,Array.getElem?_map,Array.getElem?_eq_getElem hj,Option.map_some,Sem.run_bind,hset,Result.andThen]
  rfl
theorem run_entry_at {w:World} {mb ib ck:Nat} {es:Array MapEntry} {seen:Array Nat} {x:MapEntry} (h1:w.heap[mb]? = some (.map es ck)) (h2:w.heap[ib]? = some (.mapIter (some mb) ck seen ck)) (hx:x∈es.toList) (hb:seen.back? = some x.born) (hn:(es.toList.map (·.born)).Nodup) :
  (Instr.entry<|.pointer<|some ⟨ib,0,none⟩).run P w = .ok (.tuple #[x.key,x.val]) w:=by
 have hf:es.find? (·.born == x.born)=some x:=by rw [<- Array.find?_toList]; exact find_born x es.toList hn hx
 simp only [Instr.entry,getObj,Sem.run_bind,Sem.run,h1,h2,Result.andThen,hb,bne_self_eq_false,Bool.false_eq_true,if_false,hf]
 rfl
end
section
variable {c:Cx} {ops:Array Oper} {K:Act->World->Prop} {rest:List Oper} {e:Env} {h h':SH}
theorem N7 {d : Nat} {T K' E ty : TypeId} {x : Operand} {pos : String} {after : Array Edge} {mb : Nat} {m : List (Int × Value)} (hx : e.ev? x = some (.map (some mb))) (hT : MpT c.P T K' E) (hs : Sel h (mpr mb m) h') (hd : d < c.n)
  (hnx:∀ ib,(m.map (·.1)).Nodup->St c ops K rest ((d,.pointer (some ⟨ib,0,none⟩))::e) (mit mb ib m m none::h')) :
  St c ops K (⟨some d,.range T x,ty,pos,after,none⟩::rest) e h :=
 ek (by simp) λa w hk hh hw=>by
  have hh':=hh.sel hs
  obtain ⟨es,ck,h1,h2,hB⟩:=hh'.1
  have h1':w.heap[mb]? = some (.map es ck):=h1
  have hlt:mb<w.heap.size:=(Array.getElem?_eq_some_iff.1 h1').1
  have hr:=run_range_map (P:=c.P) w T K' E mb es ck hT.1 h1'
  simp only [execOp,hk.ev hx,Sem.run_bind,hr,Result.andThen_ok,Sem.run_pure]
  have hg:=Grew.alloc w (.mapIter (some mb) ck #[] ck) rfl
  refine hnx w.heap.size hB.2.2 _ _ (hk.put _ hd) ⟨⟨by omega,es,ck,#[],?_,h2,hB,?_,?_,λp hp=>by cases hp⟩,λb hb hd'=>?_,?_⟩<|hw.trans hg.toSame
  ·show (w.alloc _).heap[mb]? = _
   rw [alloc_old w _ mb (by omega)]; exact h1'
  ·show (w.heap.push _)[w.heap.size]? = _
   simp
  ·have hf:(es.toList.filter λx:MapEntry => !(#[]:Array Nat).contains x.born)=es.toList:=List.filter_eq_self.2 λ_ _=>by simp
   rw [hf,h2]
  ·rcases hb with rfl | rfl
   ·exact hh'.2.1 b Z hd'
   ·have:=Holds.lt (w:=w) hh'.2.2 hd'; omega
  ·exact bi.loc hh'.2.2 λb hb=>(hg.block b<|Holds.lt (w:=w) hh'.2.2 hb).symm
theorem st_next {d : Nat} {ty : TypeId} {x : Operand} {pos : String} {after : Array Edge} {mb ib : Nat} {m left : List (Int × Value)} {last : Option (Int × Value)} (hx : e.ev? x = some (.pointer (some ⟨ib, 0, none⟩))) (hs : Sel h (mit mb ib m left last) h') (hd : d < c.n)
  (h0:left=[]->St c ops K rest ((d,.tuple #[.bool false])::e) (mit mb ib m [] last::h'))
  (h1:∀ k v left',left.Perm ((k,v)::left')->St c ops K rest ((d,.tuple #[.bool true,.int .i64 k,v])::e) (mit mb ib m left' (some (k,v))::h')) :
  St c ops K (⟨some d,.next x false,ty,pos,after,none⟩::rest) e h :=
 ek (by simp) λa w hk hh hw => by
  have hh':=hh.sel hs
  obtain ⟨hne,es,ck,seen,g1,g2,hB,g4,g5,g6⟩:=hh'.1
  have g1':w.heap[mb]? = some (.map es ck):=g1
  have g4':w.heap[ib]? = some (.mapIter (some mb) ck seen ck):=g4
  have hlt:ib<w.heap.size:=(Array.getElem?_eq_some_iff.1 g4').1
  rcases run_next_at (P:=c.P) g1' g4' hB.1 ty with ⟨q1,q2⟩ | ⟨z,hz,n,hdn,q2⟩
  ·simp only [execOp,hk.ev hx,Sem.run_bind,q2,Result.andThen_ok,Sem.run_pure]
   have hl:left=[]:=by
    rw [q1] at g5
    have:=g5.symm.eq_nil
    unfold mU at this
    simpa using this
   subst hl
   exact h0 Z _ _ (hk.put _ hd) hh' hw
  ·simp only [execOp,hk.ev hx,Sem.run_bind,q2,Result.andThen_ok,Sem.run_pure]
   have hz1:z∈es.toList:=(List.mem_filter.1 hz).1
   have hz2:seen.contains z.born=false:=by simpa using (List.mem_filter.1 hz).2
   have hzm:(z.key,z.val)∈mU left:=g5.mem_iff.1<|List.mem_map.2 ⟨z,hz,rfl⟩
   obtain ⟨⟨k,v⟩,hkv,hkv2⟩:=List.mem_map.1 hzm
   simp only [Prod.mk.injEq] at hkv2
   obtain ⟨hk1,hv1⟩:=hkv2
   obtain ⟨s,t,rfl⟩:=List.append_of_mem hkv
   have hp:(s++(k,v)::t).Perm ((k,v)::(s++t)):=List.perm_middle
   have hf:=Bg seen z hz2 es.toList hB.2.1 hz1
   have hrest:((es.toList.filter λx => !(seen.push z.born).contains x.born).map λx=>(x.key,x.val)).Perm (mU (s++t)):=by
    have h3:=(hf.map λx:MapEntry=>(x.key,x.val)).symm.trans<|g5.trans (hp.map λp:Int×Value=>((.int .i64 p.1:Value),p.2))
    rw [List.map_cons,List.map_cons,<- hk1,<- hv1] at h3
    exact h3.cons_inv
   rw [<- hk1,<- hv1]
   have hsame:Same w { w with drawn:=n,heap:=w.heap.setIfInBounds ib (.mapIter (some mb) ck (seen.push z.born) ck) }:=⟨rfl,rfl,rfl,hdn,by simp,oG (b:=ib) (λo ho=>by rw [g4'] at ho; cases ho; rfl) (λo ho=>by
    have:(w.heap.setIfInBounds ib<|.mapIter (some mb) ck (seen.push z.born) ck)[ib]? = some o:=ho
    simp [hlt] at this; rw [<- this]; rfl) λc hc=>dQ w ib c _ hc⟩
   refine h1 k v (s++t) hp _ _ (hk.put _ hd) ⟨⟨hne,es,ck,seen.push z.born,?_,g2,hB,?_,hrest,λp hp'=>?_⟩,hh'.2.1,?_⟩<|hw.trans hsame
   ·show (w.heap.setIfInBounds ib _)[mb]? = _
    rw [Array.getElem?_setIfInBounds_ne (Ne.symm hne)]; exact g1'
   ·show (w.heap.setIfInBounds ib _)[ib]? = _
    simp [hlt]
   ·cases hp'
    exact ⟨z,hz1,by simp,hk1.symm,hv1.symm⟩
   ·exact bi.loc hh'.2.2 λb hb=>(dQ w ib b _<|λq=>hh'.2.1 b (.inr q) hb).symm
theorem v_entry {ty:TypeId} {x:Operand} {mb ib:Nat} {m left:List (Int×Value)} {k:Int} {v:Value} (hx:e.ev? x=some (.pointer (some ⟨ib,0,none⟩))) (hs:Sel h (mit mb ib m left (some (k,v))) h') :
  Vop c.P e h (.entry x) ty (.tuple #[.int .i64 k,v]):=
 ⟨by simp,by simp,λρ w d pos after g hρ hh=>by
  obtain ⟨_,es,ck,seen,g1,_,hB,g4,_,g6⟩:=(hh.sel hs).1
  obtain ⟨z,hz,hb,h1,h2⟩:=g6 _ rfl
  have:=run_entry_at (P:=c.P) (w:=w) g1 g4 hz hb hB.2.1
  rw [h1,h2] at this
  simp [execOp,hρ x _ hx,this]⟩
end
section
variable {c:Cx} {x:Code} {Q:Exit->Act->World->Prop} {e:Env} {h h':SH}
end
def xH (mb ib:Nat) (m left:List (Bs×Value)) (last:Option (Bs×Value)):Res where
 dom b:=b=mb∨b=ib
 ok f:=mb≠ib/\∃ es ck seen,f mb=some (.map es ck)/\es.toList.map (λx:MapEntry=>(x.key,x.val))=kM m/\SBrn es ck m/\f ib=some (.mapIter (some mb) ck seen ck) /\
  ((es.toList.filter λx:MapEntry => !seen.contains x.born).map λx:MapEntry=>(x.key,x.val)).Perm (kM left)/\∀ p,last=some p->∃ x∈es.toList,seen.back? = some x.born/\x.key=sv p.1/\x.val=p.2
 loc f g he:=λ⟨hn,es,ck,seen,h1,h2,h3,h4,h5⟩=>⟨hn,es,ck,seen,by rw [<- he mb (.inl rfl)]; exact h1,h2,h3,by rw [<- he ib (.inr rfl)]; exact h4,h5⟩
 pres f:=λ⟨_,es,ck,seen,h1,_,_,h4,_⟩ b hb=>by
  rcases hb with rfl | rfl
  ·rw [h1]; rfl
  ·rw [h4]; rfl
section
variable {c:Cx} {ops:Array Oper} {K:Act->World->Prop} {rest:List Oper} {e:Env} {h h':SH}
theorem Bh {d : Nat} {T K' E ty : TypeId} {x : Operand} {pos : String} {after : Array Edge} {mb : Nat} {m : List (Bs × Value)} (hx : e.ev? x = some (.map (some mb))) (hT : MpS c.P T K' E) (hs : Sel h (mps mb m) h') (hd : d < c.n)
  (hnx:∀ ib,(m.map (·.1)).Nodup->St c ops K rest ((d,.pointer (some ⟨ib,0,none⟩))::e) (xH mb ib m m none::h')) :
  St c ops K (⟨some d,.range T x,ty,pos,after,none⟩::rest) e h :=
 ek (by simp) λa w hk hh hw=>by
  have hh':=hh.sel hs
  obtain ⟨es,ck,h1,h2,hB⟩:=hh'.1
  have h1':w.heap[mb]? = some (.map es ck):=h1
  have hlt:mb<w.heap.size:=(Array.getElem?_eq_some_iff.1 h1').1
  have hr:=run_range_map (P:=c.P) w T K' E mb es ck hT.1 h1'
  simp only [execOp,hk.ev hx,Sem.run_bind,hr,Result.andThen_ok,Sem.run_pure]
  have hg:=Grew.alloc w (.mapIter (some mb) ck #[] ck) rfl
  refine hnx w.heap.size hB.2.2 _ _ (hk.put _ hd) ⟨⟨by omega,es,ck,#[],?_,h2,hB,?_,?_,λp hp=>by cases hp⟩,λb hb hd'=>?_,?_⟩<|hw.trans hg.toSame
  ·show (w.alloc _).heap[mb]? = _
   rw [alloc_old w _ mb (by omega)]; exact h1'
  ·show (w.heap.push _)[w.heap.size]? = _
   simp
  ·have hf:(es.toList.filter λx:MapEntry => !(#[]:Array Nat).contains x.born)=es.toList:=List.filter_eq_self.2 λ_ _=>by simp
   rw [hf,h2]
  ·rcases hb with rfl | rfl
   ·exact hh'.2.1 b Z hd'
   ·have:=Holds.lt (w:=w) hh'.2.2 hd'; omega
  ·exact bi.loc hh'.2.2 λb hb=>(hg.block b<|Holds.lt (w:=w) hh'.2.2 hb).symm
theorem Dh {d : Nat} {ty : TypeId} {x : Operand} {pos : String} {after : Array Edge} {mb ib : Nat} {m left : List (Bs × Value)} {last : Option (Bs × Value)} (hx : e.ev? x = some (.pointer (some ⟨ib, 0, none⟩))) (hs : Sel h (xH mb ib m left last) h') (hd : d < c.n)
  (h0:left=[]->St c ops K rest ((d,.tuple #[.bool false])::e) (xH mb ib m [] last::h'))
  (h1:∀ k v left',left.Perm ((k,v)::left')->St c ops K rest ((d,.tuple #[.bool true,sv k,v])::e) (xH mb ib m left' (some (k,v))::h')) :
  St c ops K (⟨some d,.next x false,ty,pos,after,none⟩::rest) e h :=
 ek (by simp) λa w hk hh hw => by
  have hh':=hh.sel hs
  obtain ⟨hne,es,ck,seen,g1,g2,hB,g4,g5,g6⟩:=hh'.1
  have g1':w.heap[mb]? = some (.map es ck):=g1
  have g4':w.heap[ib]? = some (.mapIter (some mb) ck seen ck):=g4
  have hlt:ib<w.heap.size:=(Array.getElem?_eq_some_iff.1 g4').1
  rcases run_next_at (P:=c.P) g1' g4' hB.1 ty with ⟨q1,q2⟩ | ⟨z,hz,n,hdn,q2⟩
  ·simp only [execOp,hk.ev hx,Sem.run_bind,q2,Result.andThen_ok,Sem.run_pure]
   have hl:left=[]:=by
    rw [q1] at g5
    have:=g5.symm.eq_nil
    unfold kM at this
    simpa using this
   subst hl
   exact h0 Z _ _ (hk.put _ hd) hh' hw
  ·simp only [execOp,hk.ev hx,Sem.run_bind,q2,Result.andThen_ok,Sem.run_pure]
   have hz1:z∈es.toList:=(List.mem_filter.1 hz).1
   have hz2:seen.contains z.born=false:=by simpa using (List.mem_filter.1 hz).2
   have hzm:(z.key,z.val)∈kM left:=g5.mem_iff.1<|List.mem_map.2 ⟨z,hz,rfl⟩
   obtain ⟨⟨k,v⟩,hkv,hkv2⟩:=List.mem_map.1 hzm
   simp only [Prod.mk.injEq] at hkv2
   obtain ⟨hk1,hv1⟩:=hkv2
   obtain ⟨s,t,rfl⟩:=List.append_of_mem hkv
   have hp:(s++(k,v)::t).Perm ((k,v)::(s++t)):=List.perm_middle
   have hf:=Bg seen z hz2 es.toList hB.2.1 hz1
   have hrest:((es.toList.filter λx => !(seen.push z.born).contains x.born).map λx=>(x.key,x.val)).Perm (kM (s++t)):=by
    have h3:=(hf.map λx:MapEntry=>(x.key,x.val)).symm.trans<|g5.trans (hp.map λp:Bs×Value=>((sv p.1:Value),p.2))
    rw [List.map_cons,List.map_cons,<- hk1,<- hv1] at h3
    exact h3.cons_inv
   rw [<- hk1,<- hv1]
   have hsame:Same w { w with drawn:=n,heap:=w.heap.setIfInBounds ib (.mapIter (some mb) ck (seen.push z.born) ck) }:=⟨rfl,rfl,rfl,hdn,by simp,oG (b:=ib) (λo ho=>by rw [g4'] at ho; cases ho; rfl) (λo ho=>by
    have:(w.heap.setIfInBounds ib<|.mapIter (some mb) ck (seen.push z.born) ck)[ib]? = some o:=ho
    simp [hlt] at this; rw [<- this]; rfl) λc hc=>dQ w ib c _ hc⟩
   refine h1 k v (s++t) hp _ _ (hk.put _ hd) ⟨⟨hne,es,ck,seen.push z.born,?_,g2,hB,?_,hrest,λp hp'=>?_⟩,hh'.2.1,?_⟩<|hw.trans hsame
   ·show (w.heap.setIfInBounds ib _)[mb]? = _
    rw [Array.getElem?_setIfInBounds_ne (Ne.symm hne)]; exact g1'
   ·show (w.heap.setIfInBounds ib _)[ib]? = _
    simp [hlt]
   ·cases hp'
    exact ⟨z,hz1,by simp,hk1.symm,hv1.symm⟩
   ·exact bi.loc hh'.2.2 λb hb=>(dQ w ib b _<|λq=>hh'.2.1 b (.inr q) hb).symm
theorem Di {ty:TypeId} {x:Operand} {mb ib:Nat} {m left:List (Bs×Value)} {k:Bs} {v:Value} (hx:e.ev? x=some (.pointer (some ⟨ib,0,none⟩))) (hs:Sel h (xH mb ib m left (some (k,v))) h') :
  Vop c.P e h (.entry x) ty (.tuple #[sv k,v]):=
 ⟨by simp,by simp,λρ w d pos after g hρ hh=>by
  obtain ⟨_,es,ck,seen,g1,_,hB,g4,_,g6⟩:=(hh.sel hs).1
  obtain ⟨z,hz,hb,h1,h2⟩:=g6 _ rfl
  have:=run_entry_at (P:=c.P) (w:=w) g1 g4 hz hb hB.2.1
  rw [h1,h2] at this
  simp [execOp,hρ x _ hx,this]⟩
end
section
variable {c:Cx} {x:Code} {Q:Exit->Act->World->Prop} {e:Env} {h h':SH}
theorem GI {mb ib:Nat} {m left:List (Bs×Value)} {last:Option (Bs×Value)} (s:Sel h (xH mb ib m left last) h') (hx:Cd c x Q e (mps mb m::h')):Cd c x Q e h:=λa w hk hh hw=>by
 have hh':=hh.sel s
 obtain ⟨_,es,ck,seen,g1,g2,hB,_⟩:=hh'.1
 exact hx a w hk ⟨⟨es,ck,g1,g2,hB⟩,λb hb=>hh'.2.1 b (.inl hb),hh'.2.2⟩ hw
end
end Go.Ck
namespace Go.Fl
open Go Go.RowKit Go.Ck Go.Proofs Go.Proofs.Tryz Go.Proofs.YtknmacdbffgjgaaGreatDoor Fx Go.Hr
abbrev BE:=Nm×Value×List (List Value)
def BN (E:List BE):Res:=Res.star (E.map λe=>VR e.2.1 191 18 e.2.2)
def j6 (E:List BE):List (Nm×Value):=E.map λe=>(e.1,e.2.1)
def BOk (Y:Res) (E:List BE) (cs:List Cm):Prop:=E.map (λe=>e.1)=keys cs/\∀ e∈E,e.2.1.oneCell'=true/\Rws Y e.2.2 (under cs e.1)
theorem BOk.up {X Y:Res} {E:List BE} {cs:List Cm} (h:BOk X E cs) (he:Ext X Y):BOk Y E cs:=⟨h.1,λe hm=>⟨(h.2 e hm).1,(h.2 e hm).2.up he⟩⟩
theorem jL (E:List BE):(j6 E).map (·.1)=E.map λe=>e.1:=by simp [j6]
theorem N8 {m:List (Nm×Value)} {n:Nm} {v:Value} (h:n ∉ m.map (·.1)):eu m n v=m++[(n,v)]:=by
 induction m with
 | nil=>rfl
 | cons p t ih =>
  rw [List.map_cons,List.mem_cons,not_or] at h
  rw [eu,if_neg (λe=>h.1 e.symm),ih h.2]; rfl
theorem N9 {m1 m2:List (Nm×Value)} {n:Nm} {v v2:Value} (h:n ∉ m1.map (·.1)):eu (m1++(n,v)::m2) n v2=m1++(n,v2)::m2:=by
 induction m1 with
 | nil=>simp [eu]
 | cons p t ih =>
  rw [List.map_cons,List.mem_cons,not_or] at h
  rw [List.cons_append,eu,if_neg (λe=>h.1 e.symm),ih h.2]; rfl
theorem LC {m1 m2:List (Nm×Value)} {n:Nm} {v:Value} (h:n ∉ m1.map (·.1)):bK (m1++(n,v)::m2) n=some v:=by
 unfold bK
 have:m1.find? (λp=>p.1 == n)=none:=by
  rw [List.find?_eq_none]
  intro p hp
  simp only [beq_iff_eq]
  exact λe=>h<|List.mem_map.2 ⟨p,hp,e⟩
 rw [List.find?_append,this]
 simp
theorem GJ (E : List BE) (n : Nm) (hn : (E.map λe => e.1).Nodup) : ∃ (v : Value) (rows : List (List Value)) (BO : Res) (F : Value -> List (List Value) -> List BE), (bK (j6 E) n).getD (.slice none 0 0) = v /\ (∀ t, Vw (BN E :: t) (VR v 191 18 rows :: BO :: t)) /\ (∀ v2 r2 t, Vw (Res.star [VR v2 191 18 r2, BO] :: t) (BN (F v2 r2) :: t)) /\ (∀ v2 r2, eu (j6 E) n v2 = j6 (F v2 r2)) /\
  ((n ∉ (E.map λe=>e.1)/\rows=[]/\∀ v2 r2,F v2 r2=E++[(n,v2,r2)])∨∃ E1 E2,E=E1++(n,v,rows)::E2/\∀ v2 r2,F v2 r2=E1++(n,v2,r2)::E2):=by
 by_cases hm:n∈E.map λe=>e.1
 ·obtain ⟨e, he, rfl⟩ := List.mem_map.1 hm
  obtain ⟨E1,E2,rfl⟩:=List.append_of_mem he
  obtain ⟨n,v,rows⟩:=e
  have h1:n ∉ E1.map λe=>e.1:=λh=>by
   rw [List.map_append,List.map_cons] at hn
   exact (List.nodup_append.1 hn).2.2 n h n (by simp) Z
  have h2:n ∉ (j6 E1).map (·.1):=by rw [jL]; exact h1
  have hb:∀ v2 r2,j6 (E1++(n,v2,r2)::E2)=j6 E1++(n,v2)::j6 E2:=λv2 r2=>by simp [j6]
  refine ⟨v,rows,Res.star ((E1++E2).map λe=>VR e.2.1 191 18 e.2.2),λv2 r2=>E1++(n,v2,r2)::E2,by rw [hb,LC h2]; rfl,λt w hh=>?_,λv2 r2 t w hh=>?_,λv2 r2=>by rw [hb,hb,N9 h2],.inr ⟨E1,E2,Z,λ_ _=>rfl⟩⟩
  ·have h3:bi (hp w) (((E1++(n,v,rows)::E2).map λe=>VR e.2.1 191 18 e.2.2)++t):=dx.1 hh
   have h4:bi (hp w) (((VR v 191 18 rows)::(E1++E2).map λe=>VR e.2.1 191 18 e.2.2)++t):=(bi.perm (List.Perm.append_right t (by
    rw [List.map_append,List.map_cons,List.map_append]; exact List.perm_middle))).1 h3
   have h5:bi (hp w) (((E1++E2).map λe=>VR e.2.1 191 18 e.2.2)++(VR v 191 18 rows::t)):=(bi.perm (by
    rw [List.cons_append]; exact List.perm_middle.symm)).1 h4
   have h6:=dx.2 h5
   exact (bi.perm<|.swap _ _ _).1 h6
  ·have h3:bi (hp w) ([VR v2 191 18 r2,Res.star ((E1++E2).map λe=>VR e.2.1 191 18 e.2.2)]++t):=dx.1 hh
   have h4:=dx.1 ((bi.perm<|.swap _ _ _).1 h3)
   refine dx.2 ((bi.perm ?_).1 h4)
   rw [List.map_append,List.map_append,List.map_cons,List.append_assoc,List.append_assoc]
   refine List.Perm.append_left _ ?_
   rw [List.cons_append]
   exact List.perm_middle
 ·have h2:n ∉ (j6 E).map (·.1):=by rw [jL]; exact hm
  refine ⟨.slice none 0 0,[],BN E,λv2 r2=>E++[(n,v2,r2)],by rw [zZ.2 h2]; rfl,λt w hh=>hh.vr_nil 191 18,λv2 r2 t w hh=>?_,λv2 r2=>by rw [N8 h2]; simp [j6],.inl ⟨hm,Z,λ_ _=>rfl⟩⟩
  have h3:bi (hp w) ([VR v2 191 18 r2,BN E]++t):=dx.1 hh
  have h4:=dx.1 ((bi.perm<|.swap _ _ _).1 h3)
  refine dx.2 ((bi.perm ?_).1 h4)
  rw [List.map_append,List.append_assoc]
  exact .refl _
theorem xI (cs:List Cm) (x:Cm):keys (cs++[x])=if x.mem.name∈keys cs then keys cs else keys cs++[x.mem.name]:=by
 unfold keys
 rw [List.map_append,List.map_cons,List.map_nil,rP]
 unfold Hr.step
 by_cases h:x.mem.name∈dd [] (cs.map λx=>x.mem.name)
 ·rw [if_pos h,if_pos Zo]
 ·rw [if_neg h,if_neg Zo]
theorem pR (cs:List Cm) (x:Cm) (n:Nm):under (cs++[x]) n=if x.mem.name=n then under cs n++[x] else under cs n:=by
 unfold under
 rw [List.filter_append]
 by_cases h:x.mem.name=n <;> simp [h]
theorem Bi {cs:List Cm} {n:Nm} (h:n ∉ keys cs):under cs n=[]:=by
 unfold under
 rw [List.filter_eq_nil_iff]
 intro x hx
 simp only [beq_iff_eq]
 exact λe=>h<|jY.2 ⟨x,hx,e⟩
theorem Oa {Y : Res} {E : List BE} {cs : List Cm} {x : Cm} {us : List Value} {v v2 : Value} {rows : List (List Value)} {F : Value -> List (List Value) -> List BE} (hb : BOk Y E cs) (hx : Enc.rep Y us x) (hv : v2.oneCell' = true)
  (hF:(x.mem.name ∉ (E.map λe=>e.1)/\rows=[]/\∀ v2 r2,F v2 r2=E++[(x.mem.name,v2,r2)])∨∃ E1 E2,E=E1++(x.mem.name,v,rows)::E2/\∀ v2 r2,F v2 r2=E1++(x.mem.name,v2,r2)::E2):BOk Y (F v2 (rows++[us])) (cs++[x]):=by
 obtain ⟨hk,hr⟩:=hb
 rcases hF with ⟨h1,rfl,h3⟩ | ⟨E1,E2,rfl,h3⟩
 ·rw [h3]
  have h4:x.mem.name ∉ keys cs:=by rw [<- hk]; exact h1
  refine ⟨by rw [xI,if_neg h4,List.map_append,hk]; rfl,λe he=>?_⟩
  rcases List.mem_append.1 he with he | he
  ·have h5:e.1≠x.mem.name:=λq=>h1 (q ▸ List.mem_map.2 ⟨e,he,rfl⟩)
   rw [pR,if_neg (λq=>h5 q.symm)]
   exact hr e he
  ·rw [List.mem_singleton.1 he]
   dsimp only
   rw [pR,if_pos rfl,Bi h4]
   exact ⟨hv,Rws.nil.snoc hx⟩
 ·rw [h3]
  have h4:x.mem.name∈keys cs:=by rw [<- hk]; simp
  have hnd:(E1.map (λe=>e.1)++x.mem.name::E2.map λe=>e.1).Nodup:=by
   have:=gX cs
   rw [<- hk,List.map_append,List.map_cons] at this
   exact this
  refine ⟨by rw [xI,if_pos h4,<- hk,List.map_append,List.map_append]; rfl,λe he=>?_⟩
  have hother:∀ e∈E1++E2,e.1≠x.mem.name:=λe he q=>by
   have h6:=List.nodup_append.1 hnd
   rcases List.mem_append.1 he with he | he
   ·exact h6.2.2 e.1 (List.mem_map.2 ⟨e,he,Z⟩) x.mem.name (by simp) q
   ·exact (List.nodup_cons.1 h6.2.1).1 (q ▸ List.mem_map.2 ⟨e,he,Z⟩)
  have hcase:e=(x.mem.name,v2,rows++[us])∨e∈E1++E2:=by
   rcases List.mem_append.1 he with he | he
   ·exact .inr<|List.mem_append_left _ he
   ·rcases List.mem_cons.1 he with he | he
    ·exact .inl he
    ·exact .inr<|List.mem_append_right _ he
  rcases hcase with rfl | he2
  ·dsimp only
   rw [pR,if_pos rfl]
   exact ⟨hv,(hr (x.mem.name,v,rows)<|by simp).2.snoc hx⟩
  ·rw [pR,if_neg (λq=>hother e he2 q.symm)]
   exact hr e (by rcases List.mem_append.1 he2 with h | h <;> simp [h])
theorem Ob {Y:Res} {E:List BE} {cs:List Cm} {n:Nm} {v:Value} {rows:List (List Value)} {F:Value->List (List Value)->List BE} (hb:BOk Y E cs) (hF:(n ∉ (E.map λe=>e.1)/\rows=[]/\∀ v2 r2,F v2 r2=E++[(n,v2,r2)])∨∃ E1 E2,E=E1++(n,v,rows)::E2/\∀ v2 r2,F v2 r2=E1++(n,v2,r2)::E2):rows.length≤cs.length:=by
 rcases hF with ⟨_,rfl,_⟩ | ⟨E1,E2,rfl,_⟩
 ·simp
 ·rw [(hb.2 (n,v,rows)<|by simp).2.1]
  exact List.length_filter_le _ _
attribute [local irreducible] Go.Ck.Sub St Cd Xt Nx DrL LsW
section
variable {X Y:Res} {v v':Value} {us us':List Value}
theorem Dj {mb:Nat} {uc:List Value}:Ct prog 171 #[.agg #[v,.map (some mb)],.agg uc.toArray] [] λu h'=>∃ b1 b2,u = .func (.func 237) #[] #[.pointer (some ⟨b1,0,none⟩),.pointer (some ⟨b2,0,none⟩)]/\h'=[pt b1 (cl uc 44),pt b2 (cl [v,.map (some mb)] 114)]:=by
 refine aL (n:=6) func171 Z Z (len Z) λhr w0=>?_
 refine cQ (aP Z Z λb2=>?_)
 refine aP Z Z λb3=>?_
 refine sA Z<|sK [2,3,4] Z<|cQ<|sV (bQ Z Z)<|sA Z<|sK [4] Z<|cT ?_
 exact aj Z ⟨_,_,Z,Z⟩ sbq
theorem en237:Ck.Enters prog 237:=enters_of func237 Zz rfl

theorem xJ {mb : Nat} {m : List (Nm × Value)} {fl : Nm -> Fl} {l : FS} {c : FC} {uc : List Value} (hl : Ls X v l) (hc : Enc.rep X uc c) (hm : FlR X m fl) (hf : ∀ p ∈ c.pars, (ae l p.name).forms.length = p.args.length /\ p.und.length ≤ 1099511627776) (hb : (comes fl l c).length * 280 ≤ 1099511627776) :
  CtX prog 113 #[.agg #[v,.map (some mb)],.agg uc.toArray] X [mps mb m] λu Y k'=>∃ bm E,u = .map (some bm)/\k'=[mps mb m,mps bm (j6 E),BN E]/\BOk Y E (comes fl l c):=by
 have hml:maxLen=9223372036854775807:=rfl
 have hcl:uc.length=7:=Enc.len hc
 unfold CtX
 refine qH (n:=25) func113 Z Z (len Z) λhr w0=>?_
 refine cQ (aP Z Z λb2=>?_)
 refine aP Z Z λb3=>?_
 refine sA Z<|sK [2,3,4] Z<|cQ (eH (ltn Z) λbm=>?_)
 refine au al188 λb5=>?_
 refine bf Z Z sz188 ?_
 refine sK [2,3,4,5] Z<|cS<|cQ<|sV (af Z gU Z ah) ?_
 refine sV (af Z gG hcl ah) ?_
 refine aH Z Z en171 Z (Dj (v:=v) (mb:=mb) (uc:=uc)) ?_
 rintro u h' ⟨c1,c2,rfl,rfl⟩
 simp only [lC,lN]
 refine sK [4,5,10] Z<|cB<|dK (eO (L:=[])) (iY Z en237 λyl db rec hst hpe hps hasg hbo hkn2=>?_)
 refine ⟨_,Ct.perm (Gz (σ := List BE) (mb:=mb) (b1:=c1) (b2:=c2) (yl:=yl) (λE=>pt yl (.loop rec)::pt db (.deferred<|some [])::pt b5 (cl [.map (some bm)] 188)::mps bm (j6 E)::BN E::pt b3 (cl uc 44)::pt b2 (cl [v,.map (some mb)] 114)::hr)
  (λk Y E=>BOk Y E ((comes fl l c).take k)) (λ_ _ _=>False) [] ⟨rfl,λe he=>by cases he⟩ hl hc hm hf ?_ (λ_ _ _ _ he h=>h.up he)) ?_,?_⟩
 ·rintro k Y E x us hx hE hrep hbk
  have hone:=Enc.ones hrep
  have hlt:=(List.getElem?_eq_some_iff.1 hx).1
  have htk:(comes fl l c).take (k+1)=(comes fl l c).take k++[x]:=by rw [bY hlt,(List.getElem?_eq_some_iff.1 hx).2]
  obtain ⟨v1,rows,BO,F,hlook,hV1,hV2,hsupd,hcase⟩:=GJ E x.mem.name (by rw [hbk.1]; exact gX _)
  have hrl:=Ob hbk hcase
  rw [List.length_take] at hrl
  have hstep:=λ(v2:Value) (hv2:v2.oneCell'=true)=>Oa (us:=us) hbk hrep hv2 hcase
  obtain ⟨x2,x5,xy,x11,x12,x13,rfl,hxm⟩:=gZ hrep
  unfold oC at *
  refine Yc.perm (qF (n:=25) (rec:=rec) (args:=[.agg [sv x.og.par,sv x.og.name,.int .i64 x.par,sv x.mem.name,.int .i64 x.mem.kind,x2,sv x.mem.impl.cls,sv x.mem.impl.name,x5,.int .i64 x.mem.ty.kind,sv x.mem.ty.name,xy,.bool x.mem.ty.void,.bool x.mem.ty.sep,x11,x12,x13,.int .i64 x.was].toArray]) (hf:=pt db (.deferred<|some [])::pt b5 (cl [.map (some bm)] 188)::mps bm (j6 E)::BN E::Y::mps mb m::pt b3 (cl uc 44)::pt b2 (cl [v,.map (some mb)] 114)::hr) (by rw [hps]; rfl) hkn2 (by rw [hps]; decide) ?_) (by exact (by repeat (first | exact Pm.refl | refine Pm.cons slq ?_):Pm _ _).perm)
  intro hr2 w1
  rw [hasg,hps,hbo]
  simp only [lC,lN]
  refine cR (au qR λb6=>?_)
  refine ai Z Z mr Z hone ?_
  refine sN<|nK [4,5,6] Z<|ax<|lu Z slq (by first | rfl | assumption) ?_
  refine cB<|dK (Vw.sel (r:=BN E) slq<|hV1 _) ?_
  refine jk (ork [(0,1),(1,2),(2,2),(3,1),(4,1),(5,2),(6,2),(7,1),(8,1),(9,1),(10,0),(11,0),(12,0)] .nil) (λi => !(Nat.beq i 12)) [pt b5 (cl [.map (some bm)] 188),pt b6 (cl [sv x.og.par,sv x.og.name,.int .i64 x.par,sv x.mem.name,.int .i64 x.mem.kind,x2,sv x.mem.impl.cls,sv x.mem.impl.name,x5,.int .i64 x.mem.ty.kind,sv x.mem.ty.name,xy,.bool x.mem.ty.void,.bool x.mem.ty.sep,x11,x12,x13,.int .i64 x.was] 191),mps bm (j6 E)] mixed Zz ?_
  refine bu Z (vY Z qN) ?_
  refine dV Z (vF Z dS Z)<|dV Z (vF Z eB Z)<|bu Z (vY Z ld9) ?_
  refine bu Z (vY Z qN) ?_
  refine dV Z (vF Z dS Z)<|dV Z (vF Z eB Z)<|bu Z (vY Z ld9) ?_
  refine bu Z (gq hlook<|bI Z Z sI tC slq) ?_
  refine bu Z (af Z gV Z ah) ?_
  refine aV Z (ak (cells:=[sv x.og.par,sv x.og.name,.int .i64 x.par,sv x.mem.name,.int .i64 x.mem.kind,x2,sv x.mem.impl.cls,sv x.mem.impl.name,x5,.int .i64 x.mem.ty.kind,sv x.mem.ty.name,xy,.bool x.mem.ty.void,.bool x.mem.ty.sep,x11,x12,x13,.int .i64 x.was]) Z underlying187 Ae Z Z Zz (ltn Z) λb22=>aW ?_)
  refine aV Z (dZ [[sv x.og.par,sv x.og.name,.int .i64 x.par,sv x.mem.name,.int .i64 x.mem.kind,x2,sv x.mem.impl.cls,sv x.mem.impl.name,x5,.int .i64 x.mem.ty.kind,sv x.mem.ty.name,xy,.bool x.mem.ty.void,.bool x.mem.ty.sep,x11,x12,x13,.int .i64 x.was]] Z Z underlying187 Ae Z (by decide) (show Sel _ (VR v1 191 18 rows) _ from slq) (by simp) Z (λj u2 hu2=>bT<|bV Zt) (by simpa using hone) (by omega) (by omega) (ltn Z) λw2 hw2 _=>aW ?_)
  refine aV Z<|cz Z Z Z sI slq<|aW ?_
  rw [hsupd]
  refine bA<|nK [4] Z<|ax<|xB<|kG (fu (L:=[VR w2 191 18 (rows++[[sv x.og.par,sv x.og.name,.int .i64 x.par,sv x.mem.name,.int .i64 x.mem.kind,x2,sv x.mem.impl.cls,sv x.mem.impl.name,x5,.int .i64 x.mem.ty.kind,sv x.mem.ty.name,xy,.bool x.mem.ty.void,.bool x.mem.ty.sep,x11,x12,x13,.int .i64 x.was]]),BO])) ?_
  simp only [lC,lN]
  refine jC (hV2 _ _ _)<|dB slq (.inl ⟨Z,Y,_,Ext.refl Y,by rw [htk]; exact hstep w2 hw2,Z⟩) ?_
  rw [dC hst hpe]
  exact sbq
 ·exact (by repeat (first | exact Pm.refl | refine Pm.cons slq ?_):Pm _ _).perm
 ·rintro u h' ⟨rfl,(⟨Y,E,hE,hbk,rfl⟩ | ⟨k,Y,t,_,hS,rfl⟩)⟩
  ·rw [List.take_length] at hbk
   refine ⟨rec,_,slq,(by rw [hst]; simp),?_⟩
   rw [hpe]
   dsimp only
   refine xB<|xT<|cQ<|sV (vY Z qN) ?_
   refine sA Z<|sK [4] Z<|cT ?_
   exact jO (bs:=[db]) Z Z ⟨Y,_,Z,hE,bm,E,Z,Z,hbk⟩ sbq
  ·exact hS.elim
end
end Go.Fl
namespace Go.Fl
open Go Go.RowKit Go.Ck Go.Proofs Go.Proofs.Tryz Go.Proofs.YtknmacdbffgjgaaGreatDoor Fx Go.Hr

def IX:Go.Shelf.Ren:={
 f:=λ| 6=>124 | 15=>202 | 14=>201 | 28=>258 | 29=>259 | 20=>250 | 21=>251 | 22=>252 | 23=>253 | 24=>254 | 25=>255 | 26=>256 | 27=>257 | 46=>289 | 47=>290 | 48=>291 | 49=>292 | 50=>293 | 57=>304 | n=>n
 t:=λ| 22=>52 | 24=>75 | 25=>204 | 3=>3 | 39=>275 | 0=>0 | 53=>322 | 55=>324 | 4=>4 | 46=>316 | 45=>315 | 50=>222 | 5=>5 | 9=>9 | 66=>345 | 70=>349 | 76=>365 | 77=>366 | n=>n
 g:=λn=>n }
theorem laysMb:Go.Proofs.SlLaysF0.n6 prog IX:={
 mixed:=rfl
 f6 := bR "slices.SortFunc[[]cosigner/api.Member,cosigner/api.Member]" rfl (func124.trans (congrArg some Zz))
 f14 := bR "slices.pdqsortCmpFunc[cosigner/api.Member]" rfl (func201.trans (congrArg some Zz))
 f15:=func202.trans<|congrArg some Zz
 f20 := bR "slices.insertionSortCmpFunc[cosigner/api.Member]" rfl (func250.trans (congrArg some Zz))
 f21 := bR "slices.heapSortCmpFunc[cosigner/api.Member]" rfl (func251.trans (congrArg some Zz))
 f22 := bR "slices.breakPatternsCmpFunc[cosigner/api.Member]" rfl (func252.trans (congrArg some Zz))
 f23 := bR "slices.choosePivotCmpFunc[cosigner/api.Member]" rfl (func253.trans (congrArg some Zz))
 f24 := bR "slices.reverseRangeCmpFunc[cosigner/api.Member]" rfl (func254.trans (congrArg some Zz))
 f25 := bR "slices.partialInsertionSortCmpFunc[cosigner/api.Member]" rfl (func255.trans (congrArg some Zz))
 f26 := bR "slices.partitionEqualCmpFunc[cosigner/api.Member]" rfl (func256.trans (congrArg some Zz))
 f27 := bR "slices.partitionCmpFunc[cosigner/api.Member]" rfl (func257.trans (congrArg some Zz))
 f28:=func258.trans<|congrArg some Zz
 f29:=func259.trans<|congrArg some Zz
 f46 := bR "slices.siftDownCmpFunc[cosigner/api.Member]" rfl (func289.trans (congrArg some Zz))
 f47:=func290.trans<|congrArg some Zz
 f48:=func291.trans<|congrArg some Zz
 f49 := bR "slices.medianAdjacentCmpFunc[cosigner/api.Member]" rfl (func292.trans (congrArg some Zz))
 f50 := bR "slices.medianCmpFunc[cosigner/api.Member]" rfl (func293.trans (congrArg some Zz))
 f57 := bR "slices.order2CmpFunc[cosigner/api.Member]" rfl (func304.trans (congrArg some Zz))
 t0:=underlying0
 a0:=isAgg0
 z0:=sizeOf0
 v0:=zeroValue0
 t3:=underlying3
 a3:=isAgg3
 z3:=sizeOf3
 v3:=zeroValue3
 t4:=underlying4
 a4:=isAgg4
 z4:=sizeOf4
 v4:=zeroValue4
 t5:=underlying5
 a5:=isAgg5
 z5:=sizeOf5
 v5:=zeroValue5
 t9:=underlying9
 a9:=isAgg9
 z9:=sizeOf9
 v9:=zeroValue9
 t22:=underlying52
 a22:=isAgg52
 z22:=sizeOf52
 v22:=zeroValue52
 t25:=underlying204
 a25:=isAgg204
 z25:=sizeOf204
 v25:=zeroValue204
 t39:=underlying275
 a39:=isAgg275
 z39:=sizeOf275
 v39:=zeroValue275
 t45:=underlying315
 a45:=isAgg315
 z45:=sizeOf315
 v45:=zeroValue315
 t46:=underlying316
 a46:=isAgg316
 z46:=sizeOf316
 v46:=zeroValue316
 t50:=underlying222
 a50:=isAgg222
 z50:=sizeOf222
 v50:=zeroValue222
 t53:=underlying322
 a53:=isAgg322
 z53:=sizeOf322
 v53:=zeroValue322
 t55:=underlying324
 a55:=isAgg324
 z55:=sizeOf324
 v55:=zeroValue324
 t66:=underlying345
 a66:=isAgg345
 z66:=sizeOf345
 v66:=zeroValue345
 t70:=underlying349
 a70:=isAgg349
 z70:=sizeOf349
 v70:=zeroValue349
 t76:=underlying365
 a76:=isAgg365
 z76:=sizeOf365
 v76:=zeroValue365
 t77:=underlying366
 a77:=isAgg366
 z77:=sizeOf366
 v77:=zeroValue366 }
abbrev MC:Type:={ p:Mb×List Value // p.2.length=14/\p.2.all Value.oneCell'=true/\p.2[0]? = some (sv p.1.name) }
instance:Inhabited MC:=⟨⟨(mb0,sv []::List.replicate 13 (.bool false)),rfl,rfl,rfl⟩⟩
def GK (a b:MC):Int:=qW a.1.1.name b.1.1.name
theorem GL (a b:Nm):(qW a b<0)↔lt a b=true:=by
 unfold qW
 rcases dU a b with h | h | h
 ·simp [h]
 ·rw [h]; simp [lt_irrefl]
 ·simp [h,iF h]
theorem swoMC:Sort.SWO (ltOf GK):=by
 have key:∀ x y,ltOf GK x y=lt x.1.1.name y.1.1.name:=λx y=>by
  unfold ltOf GK
  rw [Bool.eq_iff_iff,decide_eq_true_iff,GL]
 refine ⟨λx=>by rw [key,lt_irrefl],λx y z h1 h2=>by rw [key] at *; exact lt_trans h1 h2,λx y z h1 h2=>?_⟩
 rw [key] at *
 cases h3:lt x.1.1.name z.1.1.name with
 | false=>rfl
 | true =>
  rcases dU x.1.1.name y.1.1.name with h4 | h4 | h4
  ·rw [h1] at h4; cases h4
  ·rw [h4,h2] at h3; cases h3
  ·rw [lt_trans h4 h3] at h2; cases h2
attribute [local irreducible] Go.Ck.Sub St Cd Xt Nx DrL LsW
section
variable {X Y:Res} {v v':Value} {us us':List Value}
theorem LD (a b:MC):Reads prog 125 #[.agg a.1.2.toArray,.agg b.1.2.toArray] [] (.int .i64 (GK a b)):=by
 obtain ⟨⟨n,us⟩,h1,h2,h3⟩:=a
 obtain ⟨⟨n',us'⟩,h1',h2',h3'⟩:=b
 dsimp only at h1 h2 h3 h1' h2' h3' ⊢
 obtain ⟨c,t,rfl⟩:∃ c t,us=c::t:=by cases us with | nil=>cases h1 | cons c t=>exact ⟨c,t,rfl⟩
 obtain ⟨c',t',rfl⟩:∃ c t,us'=c::t:=by cases us' with | nil=>cases h1' | cons c t=>exact ⟨c,t,rfl⟩
 obtain rfl:c=sv n.name:=Zc
 obtain rfl:c'=sv n'.name:=by simpa using h3'
 unfold GK
 refine aL (n:=10) func125 Z Z (len Z) λhr w0=>?_
 refine cQ (aP Z Z λb2=>?_)
 refine aP Z Z λb3=>?_
 refine sA Z<|sK [2,3,4] Z<|cQ<|sV (vF Z eB Z)<|sV (vY Z ld9) ?_
 refine sV (vF Z eB Z)<|sV (vY Z ld9) ?_
 refine aY Z Z J4 Z (zw n.name n'.name) ?_
 refine sA Z<|sK [4] Z<|cT ?_
 exact aj Z ⟨Z,Z⟩ sbq
theorem mb_name {m:Mb} (h:Enc.rep X us m):us.length=14/\us.all Value.oneCell'=true/\us[0]? = some (sv m.name):=by
 refine ⟨Enc.len h,Enc.ones h,?_⟩
 obtain ⟨x2,x5,xy,x11,x12,x13,rfl,_⟩:=dh h
 rfl
theorem IY {Y:Res} {v:Value} {rows:List (List Value)} {ms:List Mb} (hr:Rws Y rows ms) (hn:(ms.map λm=>m.name).Nodup) (hl:ms.length≤1099511627776):Ct prog 124 #[v,.func (.func 125) #[] #[]] [VR v 75 14 rows] λu h'=>u = .tuple #[]/\∃ rows',Rws Y rows' (q9 ms)/\rows'.length=rows.length/\h'=[VR v 75 14 rows']:=by
  have hex : ∃ xs : List MC, xs.map (λx => x.1.2) = rows /\ xs.map (λx => x.1.1) = ms /\ ∀ x ∈ xs, Enc.rep Y x.1.2 x.1.1 := by
    obtain ⟨hlen,hr⟩:=hr
    clear hn hl
    induction rows generalizing ms with
    | nil => have : ms = [] := by cases ms with | nil => rfl | cons _ _ => cases hlen
             subst this; exact ⟨[],rfl,rfl,λx hx=>by cases hx⟩
    | cons r t ih =>
      cases ms with
      | nil=>cases hlen
      | cons m mt =>
        have h0:=hr 0 r m rfl rfl
        have h1:=mb_name h0
        obtain ⟨xs,h2,h3,h4⟩:=ih (ms:=mt) (by simpa using hlen) λj us x g1 g2=>hr (j+1) us x g1 g2
        refine ⟨⟨(m,r),h1⟩::xs,by rw [List.map_cons,h2],by rw [List.map_cons,h3],λx hx=>?_⟩
        rcases List.mem_cons.1 hx with rfl | hx
        · exact h0
        · exact h4 x hx
  obtain ⟨xs,hx1,hx2,hx3⟩:=hex
  have hxl:xs.length=ms.length:=by have:=congrArg List.length hx2; simpa using this
  have h:=Gy (E:=75) (v:=v) laysMb (k:=14) isAgg75 sizeOf75 (enc:=λx:MC=>x.1.2) (λx=>x.2.1) (λx u hu=>List.all_eq_true.1 x.2.2.1 u hu) swoMC (g:=125) (enters_of func125 Zz rfl) (λx y=>LD x y) (xs:=xs)<|by omega
  rw [hx1] at h
  refine Ct.mono h ?_
  rintro u h' ⟨rfl,ys,hp,hs,rfl⟩
  refine ⟨Z,_,?_,by rw [<- hx1,List.length_map,List.length_map]; exact hp.length_eq,Z⟩
  have hpm:(ys.map λy=>y.1.1).Perm ms:=by rw [<- hx2]; exact hp.map _
  have hnd:((ys.map λy=>y.1.1).map λm=>m.name).Nodup:=(hpm.map _).nodup_iff.2 hn
  have hsrt:si (ys.map λy=>y.1.1):=by
    unfold si
    rw [List.pairwise_map]
    rw [List.map_map] at hnd
    have h7:=List.pairwise_map.1 hnd
    refine (hs.and h7).imp λ{a b} hab=>?_
    rcases dU a.1.1.name b.1.1.name with g | g | g
    · exact g
    · exact absurd g hab.2
    · exact (hab.1 ((GL _ _).2 g)).elim
  have he:(ys.map λy=>y.1.1)=q9 ms:=yH hsrt (iQ hn).1 λm=>by rw [(iQ hn).2,hpm.mem_iff]
  rw [<- he]
  refine ⟨by simp,λj us x g1 g2=>?_⟩
  rw [List.getElem?_map] at g1 g2
  cases hj:ys[j]? with
  | none=>rw [hj] at g1; cases g1
  | some y =>
    rw [hj] at g1 g2
    cases g1; cases g2
    exact hx3 y<|hp.mem_iff.1<|List.mem_of_getElem? hj
end
end Go.Fl
namespace Go.Fl
open Go Go.RowKit Go.Ck Go.Proofs Go.Proofs.Tryz Go.Proofs.YtknmacdbffgjgaaGreatDoor Fx Go.Hr
theorem Ku {Y Y2:Res} {E:List BE} {cs:List Cm} (hb:BOk Y E cs) (he:Ext Y Y2) (hok:∃ f,(BN E).ok f) (hr:∀ p u,Rd (BN E) p u->Rd Y2 p u) (hs:cs.length * 280≤1099511627776):∀ e∈E,Ls Y2 e.2.1 (under cs e.1):=λe hm=>by
 obtain ⟨s,t,rfl⟩:=List.append_of_mem hm
 have hrw:=(hb.2 e hm).2.up he
 have hul:(under cs e.1).length≤cs.length:=List.length_filter_le _ _
 have hrb:reachBytes=140737488351232:=rfl
 have hsel:∀ (s t:List BE),Sel ((s++e::t).map λe=>VR e.2.1 191 18 e.2.2) (VR e.2.1 191 18 e.2.2) ((s++t).map λe=>VR e.2.1 191 18 e.2.2):=λs t=>by
  induction s with
  | nil=>exact .here
  | cons a s ih=>exact .there ih
 have h9:(under cs e.1).length * 280≤140737488351232:=by omega
 rw [<- hrb] at h9
 have hrd2:∀ p u,Rd (VR e.2.1 191 18 e.2.2) p u->Rd Y2 p u:=λp u h=>hr p u (by unfold BN; exact oH (hsel s t) h)
 refine Rws.ls (E:=191) hrw ?_ hrd2 h9
 obtain ⟨f,hf⟩:=hok
 have h1:bi f ((s++e::t).map λe=>VR e.2.1 191 18 e.2.2):=hf
 exact ⟨f,((bi.perm (hsel s t).perm).1 h1).1⟩
theorem Bj (cs:List Cm):(keys cs).length≤cs.length:=by
 have:∀ ys:List Cm,(keys ys.reverse).length≤ys.reverse.length:=λys=>by
  induction ys with
  | nil=>simp [keys,dd]
  | cons y t ih =>
   rw [List.reverse_cons,xI]
   split <;> simp at ih ⊢ <;> omega
 simpa using this cs.reverse
theorem Bl {β : Type} (f:Cm->List β) (cs:List Cm) (n:Nm):((under cs n).flatMap f).length≤(cs.flatMap f).length:=by
 unfold under
 induction cs with
 | nil=>simp
 | cons x t ih =>
  rw [List.filter_cons]
  split <;> simp only [List.flatMap_cons,List.length_append] <;> omega
theorem IZ {xs ys:List Mb} (hp:xs.Perm ys) (hn:(ys.map λm=>m.name).Nodup):q9 xs=q9 ys:=by
 have hn':(xs.map λm=>m.name).Nodup:=(hp.map _).nodup_iff.2 hn
 exact yH (iQ hn').1 (iQ hn).1 λm=>by rw [(iQ hn').2,(iQ hn).2,hp.mem_iff]
theorem zB {Y:Res} {E:List BE} {cs:List Cm} (hk:E.map (λe=>e.1)=keys cs) (h:∀ e∈E,Ls Y e.2.1 (under cs e.1)) (n:Nm):Ls Y ((bK (j6 E) n).getD (.slice none 0 0)) (under cs n):=by
 obtain ⟨v,rows,BO,F,h1,-,-,-,h5⟩:=GJ E n (by rw [hk]; exact gX _)
 rw [h1]
 rcases h5 with ⟨h6,-,-⟩ | ⟨E1,E2,rfl,-⟩
 ·have h7:bK (j6 E) n=none:=zZ.2 (by rw [jL]; exact h6)
  rw [h7] at h1
  rw [Bi (by rw [<- hk]; exact h6),<- h1]
  exact Ls.nil
 ·exact h (n,v,rows)<|by simp
def Mid1 (Y:Res) (rows:List (List Value)) (cs:List Cm) (c:FC) (left:List (Nm×Value)):Prop:=∃ ds:List Nm,Rws Y rows ((ds.filter λn=>(feat c n).isNone).map λn=>joined<|under cs n)/\(ds++left.map (λp=>p.1)).Perm (keys cs)
theorem Mid1.len {Y:Res} {rows:List (List Value)} {cs:List Cm} {c:FC} {left:List (Nm×Value)} (h:Mid1 Y rows cs c left):rows.length≤cs.length:=by
 obtain ⟨ds,h1,h2⟩:=h
 have h3:=h2.length_eq
 have h4:=Bj cs
 have h5:=List.length_filter_le (λn=>(feat c n).isNone) ds
 rw [h1.1,List.length_map]
 rw [List.length_append] at h3
 omega
attribute [local irreducible] Go.Ck.Sub St Cd Xt Nx DrL LsW
section
variable {X Y:Res} {v v':Value} {us us':List Value}

theorem Bn {mb : Nat} {m : List (Nm × Value)} {fl : Nm -> Fl} {l : FS} {c : FC} {uc : List Value} (hl : Ls X v l) (hc : Enc.rep X uc c) (hm : FlR X m fl) (hf : ∀ p ∈ c.pars, (ae l p.name).forms.length = p.args.length /\ p.und.length ≤ 1099511627776) (hb : (comes fl l c).length * 280 ≤ 1099511627776) (hn : (c.feats.map λf => f.name).Nodup)
  (hbS:(ni<|comes fl l c).length * 32≤1099511627776) (hbP:((comes fl l c).flatMap λx=>x.mem.pre).length * 40≤1099511627776) (hbQ:((comes fl l c).flatMap λx=>x.mem.post).length * 40≤1099511627776) (hbF:c.feats.length * 256≤1099511627776) :
  CtX prog 57 #[.agg #[v,.map (some mb)],.agg uc.toArray] X [mps mb m] λu Y k'=>k'=[mps mb m]/\Ls Y u (members (comes fl l c) c):=by
 have hml:maxLen=9223372036854775807:=rfl
 have hrb:reachBytes=140737488351232:=rfl
 have hby:=xJ (mb:=mb) hl hc hm hf hb
 have hc0:=hc
 obtain ⟨ca,cb,ce,cf,ci,rfl,hca,hcb,hce,hcf,hci⟩:=gp hc
 obtain ⟨cf,cfk,rfl,hcfl,_⟩:=id hcf.form
 have hkl:=Bj<|comes fl l c
 have hraw:=CO (comes fl l c) hn
 have hmem:members (comes fl l c) c=q9 (tY (comes fl l c) c):=rfl
 rw [hmem]
 have hSu:=λn=>Bl (λx=>x.mem.seeds) (comes fl l c) n
 have hPu:=λn=>Bl (λx=>x.mem.pre) (comes fl l c) n
 have hQu:=λn=>Bl (λx=>x.mem.post) (comes fl l c) n
 unfold ni at hbS
 generalize comes fl l c=cs at hb hbS hbP hbQ hkl hraw hSu hPu hQu hby ⊢
 unfold CtX at hby ⊢
 refine aL (n:=58) func57 Z Z (len Z) λhr w0=>?_
 refine cQ (aP Z Z λb2=>?_)
 refine aP Z Z λb3=>?_
 refine sA Z<|sK [2,3,4] Z<|cQ<|sV (af Z gU Z ah) ?_
 refine sV (af Z gG Z ah) ?_
 refine aH Z Z JZ Z (hby) ?_
 rintro u h' ⟨Y,k',rfl,hE,bm,E,rfl,rfl,hbk⟩
 simp only [lC,lN]
 refine sA Z<|sK [3,4,5] Z<|cQ<|sA Z<|sN<|nT<|cS<|cS (fJ (r:=BN E) slq λhokE=>?_)
 refine Iq [BN E] Y λY2 hE2 hsel=>?_
 have hls:=Ku hbk hE2 hokE (hsel _ _ .here) hb
 have hlk:=zB hbk.1 hls
 have hk0:=hbk.1
 refine dK (cO 75 14)<|cR<|sM Z (Bh Z sI slq (ltn Z) λib hndE=>?_)
 refine sK [3,4,5,6,17] Z<|cB<|aX (σ := Value×List (List Value)×Res×List (Nm×Value)×Option (Nm×Value)) (λq=>[(3,.pointer (some ⟨b3,0,none⟩)),(5,.map (some bm)),(6,q.1),(17,.pointer (some ⟨ib,0,none⟩))]) (λq=>xH bm ib (j6 E) q.2.2.2.1 q.2.2.2.2::VR q.1 75 14 q.2.1::pt b3 (cl [sv c.name,.bool c.dfd,ca,cb,ce,.slice cf c.feats.length cfk,ci] 44)::q.2.2.1::mps mb m::hr) (λq=>q.1.oneCell'=true/\Ext Y2 q.2.2.1/\Mid1 q.2.2.1 q.2.1 cs c q.2.2.2.1/\∀ p∈q.2.2.2.1,p∈j6 E) (λq=>q.2.2.2.1.length) (.slice none 0 0,[],Y2,j6 E,none) ⟨Z,Ext.refl Y2,⟨[],Rws.nil,by rw [List.nil_append,jL,hk0]⟩,λp hp=>hp⟩ ?_
 rintro ⟨w,rows,Zq,left,last⟩ ⟨hw,hE3,hmid,hsub⟩
 simp only at hw hE3 hmid hsub
 dsimp only
 refine cQ<|Dh Z slq (ltn Z) (λhl0=>?_)<|λk v1 left' hp=>?_
 ·subst hl0
  obtain ⟨ds,hr0,hds⟩:=hmid
  rw [List.map_nil,List.append_nil] at hds
  have hfin:(((ds.filter λn=>(feat c n).isNone).map λn=>joined<|under cs n)++c.feats.map λf=>jK c f<|under cs f.name).Perm (tY cs c):=((hds.filter _).map _).append_right _
  generalize ((ds.filter λn=>(feat c n).isNone).map λn=>joined<|under cs n)=ms0 at hr0 hfin
  have hnfin:=(hfin.map λm=>m.name).nodup_iff.2 hraw
  have hlen0:ms0.length+c.feats.length≤cs.length+c.feats.length:=by
   have:=hfin.length_eq
   simp only [List.length_append,List.length_map] at this
   have h8:(tY cs c).length≤cs.length+c.feats.length:=by
    unfold tY
    rw [List.length_append,List.length_map,List.length_map]
    have:=List.length_filter_le (λn=>(feat c n).isNone)<|keys cs
    omega
   omega
  have hlenF:=hfin.length_eq
  rw [List.length_append,List.length_map] at hlenF
  refine sV (ag Z Z)<|sK [3,5,6,17,19] Z<|cS<|aG Z ?_
  refine aB<|xE<|xE<|xY<|xT<|cS<|cS<|GI slq ?_
  refine cR<|sV (vF Z kv Z)<|sV (vY Z yX) ?_
  refine sV (aF Z underlying41)<|sM Z<|sK [3,5,6,38,39,40] Z<|cB<|aX (σ := Value×List (List Value)×Res×Nat) (λq=>[(3,.pointer (some ⟨b3,0,none⟩)),(5,.map (some bm)),(6,q.1),(38,.slice cf c.feats.length cfk),(39,.int .i64 c.feats.length),(40,.int .i64 (q.2.2.2:Nat))]) (λq=>mps bm (j6 E)::VR q.1 75 14 q.2.1::pt b3 (cl [sv c.name,.bool c.dfd,ca,cb,ce,.slice cf c.feats.length cfk,ci] 44)::q.2.2.1::mps mb m::hr) (λq=>q.1.oneCell'=true/\Ext Y2 q.2.2.1/\Rws q.2.2.1 q.2.1 (ms0++(c.feats.take q.2.2.2).map λf=>jK c f<|under cs f.name)/\q.2.2.2≤c.feats.length) (λq=>c.feats.length - q.2.2.2) (w,rows,Zq,0) ⟨hw,hE3,by simpa using hr0,Nat.zero_le _⟩ ?_
  rintro ⟨w,rows,Zq,i⟩ ⟨hw,hE3,hro,hi⟩
  simp only at hw hE3 hro hi
  dsimp only
  refine cQ<|sV (aN Z Z)<|sN<|nT<|cS<|cC Z (λhd=>?_)<|λhd=>?_
  ·have hlt:i<c.feats.length:=Zx
   have hrl:rows.length=ms0.length+i:=by rw [hro.1]; simp; omega
   have htk:=bY hlt
   obtain ⟨fb,fo,fcap,fus,e1,hfus,hfrd,hfr⟩:=((hcf.up<|hE.trans hE2).up hE3).at<|Zy hlt
   obtain ⟨rfl,rfl⟩:cf=some ⟨fb,fo,none⟩/\cfk=fcap:=by cases e1; exact ⟨rfl,rfl⟩
   generalize c.feats[i]=f at hfr htk
   have hfr0:=hfr
   obtain ⟨x2,x3,fy,x9,x10,x11,x12,x13,x14,rfl,-⟩:=nk hfr
   have hfo:=Enc.ones hfr0
   have how:=own_ct (Enc.up ((hE.trans hE2).trans hE3).rd hc0) hfr0 ((hlk f.name).up hE3) (by have:=hSu f.name; unfold ni; omega) (by have:=hPu f.name; omega) (by have:=hQu f.name; omega)
   unfold CtX at how
   generalize hJ:jK c f (under cs f.name)=J at how
   unfold Bf at *
   refine cK<|xT<|cS<|cB<|cQ<|sV (vI (k:=i) Z Z sl41 Z hlt Z)<|sV (af Z nR Z hfrd) ?_
   refine au lH λb12=>?_
   refine ai Z Z jQ Z hfo ?_
   refine sK [3,5,6,12,38,39,40] Z<|cR<|sM Z<|sV (af Z gG Z ah) ?_
   refine sV (af Z nR Z ah) ?_
   refine sM Z<|sV (vF Z oU Z)<|sV (vY Z ld9) ?_
   refine sV (bI Z Z sI tC slq) ?_
   refine aH Z Z en123 Z (how) ?_
   rintro u h' ⟨Z2,k2,rfl,hE4,rfl,us,rfl,hrep⟩
   simp only [lC,lN]
   have hone:=Enc.ones hrep
   obtain ⟨j2,j5,jy,j11,j12,j13,rfl,-⟩:=dh hrep
   unfold gz at *
   refine ak (cells:=[sv J.name,.int .i64 J.kind,j2,sv J.impl.cls,sv J.impl.name,j5,.int .i64 J.ty.kind,sv J.ty.name,jy,.bool J.ty.void,.bool J.ty.sep,j11,j12,j13]) Z underlying52 vg Z Z Zz (ltn Z) λb52=>?_
   refine dZ [[sv J.name,.int .i64 J.kind,j2,sv J.impl.cls,sv J.impl.name,j5,.int .i64 J.ty.kind,sv J.ty.name,jy,.bool J.ty.void,.bool J.ty.sep,j11,j12,j13]] Z Z underlying52 vg Z (by decide) (show Sel _ (VR w 75 14 rows) _ from slq) (by simp) Z (λj u2 hu2=>bT<|bV Zt) (by simpa using hone) (by omega) (by omega) (ltn Z) λw2 hw2 _=>?_
   refine sA Z<|sN<|nK [3,5,6,38,39,40] Z<|ax<|xB<|xT<|cR<|sV (aI Z Z Za)<|sM Z<|sN<|nK [3,5,6,38,39,40] Z<|ax ?_
   refine aJ (w2,rows++[[sv J.name,.int .i64 J.kind,j2,sv J.impl.cls,sv J.impl.name,j5,.int .i64 J.ty.kind,sv J.ty.name,jy,.bool J.ty.void,.bool J.ty.sep,j11,j12,j13]],Z2,i+1) ⟨hw2,hE3.trans hE4,by rw [htk,List.map_append,<- List.append_assoc]; exact (hro.up hE4).snoc (show Enc.rep Z2 _ (jK c f<|under cs f.name) from by rw [hJ]; exact hrep),hlt⟩ (by dsimp only; omega)
  ·have hie:i=c.feats.length:=by
    have:¬ i<c.feats.length:=Zx
    omega
   subst hie
   rw [List.take_length] at hro
   have hsl:(ms0++c.feats.map λf=>jK c f<|under cs f.name).length≤1099511627776:=by rw [List.length_append,List.length_map]; omega
   refine aB<|xE<|xE<|xY<|xT<|cQ<|sM Z<|aH Z Z en124 Z (IY hro hnfin hsl) ?_
   rintro u h' ⟨rfl,rows',hr',hrl',rfl⟩
   simp only [lC,lN]
   rw [IZ hfin hraw] at hr'
   have hml2:(q9<|tY cs c).length * 232≤reachBytes:=by
    have h1:(q9<|tY cs c).length=rows'.length:=hr'.1.symm
    have h2:=hro.1
    rw [List.length_append,List.length_map] at h2
    omega
   refine sK [6] Z<|cQ<|sM Z<|sA Z<|sK [4] Z<|cT (dY (r:=VR w 75 14 rows') slq λhok=>?_)
   refine gY [VR w 75 14 rows'] Zq λY3 hE5 hsel3=>?_
   exact aj Z ⟨Y3,[mps mb m],Z,((hE.trans hE2).trans hE3).trans hE5,Z,Rws.ls (E:=75) (hr'.up hE5) hok (hsel3 _ _ .here) hml2⟩ sbq
 ·refine sV (ag Z Z)<|sK [3,5,6,17,19] Z<|cS<|aQ Z ?_
  refine cK<|xT<|cB<|cQ<|sV (Di Z slq) ?_
  have hkv:(k,v1)∈j6 E:=hsub _<|hp.mem_iff.2<|by simp
  have hsub':∀ p∈left',p∈j6 E:=λp hp'=>hsub p<|hp.mem_iff.2<|by simp [hp']
  have hv1:Ls Zq v1 (under cs k):=by
   obtain ⟨e,he,hev⟩:=List.mem_map.1 hkv
   cases hev
   exact (hls e he).up hE3
  have hkk:k∈keys cs:=by rw [<- hk0,<- jL]; exact List.mem_map.2 ⟨_,hkv,rfl⟩
  have hne:under cs k≠[]:=by
   obtain ⟨x,hx,hxn⟩:=jY.1 hkk
   exact List.ne_nil_of_mem<|List.mem_filter.2 ⟨hx,by simpa using hxn⟩
  have hrl:=hmid.len
  have hstep:∀ (Z2:Res) (us:List Value),Ext Zq Z2->Enc.rep Z2 us (joined<|under cs k)->feat c k=none->Mid1 Z2 (rows++[us]) cs c left':=λZ2 us he hr hfn=>by
   obtain ⟨ds,g1,g2⟩:=hmid
   have e1:[k].filter (λn=>(feat c n).isNone)=[k]:=by simp [hfn]
   refine ⟨ds++[k],by rw [List.filter_append,List.map_append,e1]; exact (g1.up he).snoc hr,?_⟩
   rw [List.append_assoc]
   exact ((hp.map λp=>p.1).append_left ds).symm.trans g2
  have hskip:(feat c k).isSome=true->Mid1 Zq rows cs c left':=λhfn=>by
   obtain ⟨ds,g1,g2⟩:=hmid
   refine ⟨ds++[k],?_,?_⟩
   ·have:(feat c k).isNone=false:=by cases hq:feat c k <;> simp [hq] at hfn ⊢
    have e1:[k].filter (λn=>(feat c n).isNone)=[]:=by simp [this]
    rw [List.filter_append,List.map_append,e1]
    simpa using g1
   ·rw [List.append_assoc]
    exact ((hp.map λp=>p.1).append_left ds).symm.trans g2
  refine sV (ag Z Z)<|sV (ag Z Z)<|sA Z<|sA Z<|sK [3,5,6,7,8,17] Z<|cQ<|sV (vF Z kv Z)<|sV (vY Z yX) ?_
  refine sM Z<|aH Z Z yE Z (iT (n:=k)<|(hcf.up<|hE.trans hE2).up hE3) ?_
  rintro u h' ⟨rfl,fus,rfl,hfr⟩
  simp only [lC,lN]
  have hf15:fus.length=15:=Enc.len hfr
  have hfo:=Enc.ones hfr
  have hfeat:(c.feats.find? λf=>f.name == k)=feat c k:=rfl
  rw [hfeat]
  refine sM Z<|sV (ag Z Z)<|sV (ag Z Z) (au lH λb9=>?_)
  refine ai (hl:=by rw [hf15]; rfl) Z Z jQ hf15 hfo ?_
  refine sA Z<|sK [3,5,6,8,10,17] Z<|cQ<|sM Z<|sV (bg Z)<|sK [3,5,6,8,17,31] Z<|cC Z (λhnf=>?_)<|λhnf=>?_
  ·have hfn:feat c k=none:=by cases hq:feat c k <;> simp [hq] at hnf ⊢
   have hj:=Dg hv1 hne (by have:=hSu k; unfold ni; omega) (by have:=hPu k; omega) (by have:=hQu k; omega)
   unfold CtX at hj
   generalize hJ:joined (under cs k)=J at hj
   refine cR<|sM Z<|sM Z<|aH Z Z en122 Z (hj) ?_
   rintro u h' ⟨Z2,k2,rfl,hE4,rfl,us,rfl,hrep⟩
   simp only [lC,lN]
   have hst:=hstep Z2 us hE4 (by rw [hJ]; exact hrep) hfn
   have hone:=Enc.ones hrep
   obtain ⟨j2,j5,jy,j11,j12,j13,rfl,-⟩:=dh hrep
   unfold gz at *
   refine ak (cells:=[sv J.name,.int .i64 J.kind,j2,sv J.impl.cls,sv J.impl.name,j5,.int .i64 J.ty.kind,sv J.ty.name,jy,.bool J.ty.void,.bool J.ty.sep,j11,j12,j13]) Z underlying52 vg Z Z Zz (ltn Z) λb35=>?_
   refine dZ [[sv J.name,.int .i64 J.kind,j2,sv J.impl.cls,sv J.impl.name,j5,.int .i64 J.ty.kind,sv J.ty.name,jy,.bool J.ty.void,.bool J.ty.sep,j11,j12,j13]] Z Z underlying52 vg Z (by decide) (show Sel _ (VR w 75 14 rows) _ from slq) (by simp) Z (λj u2 hu2=>bT<|bV Zt) (by simpa using hone) (by omega) (by omega) (ltn Z) λw2 hw2 _=>?_
   refine sA Z<|sN<|nK [3,5,6,17] Z<|ax<|xB ?_
   refine aJ (w2,rows++[[sv J.name,.int .i64 J.kind,j2,sv J.impl.cls,sv J.impl.name,j5,.int .i64 J.ty.kind,sv J.ty.name,jy,.bool J.ty.void,.bool J.ty.sep,j11,j12,j13]],Z2,left',some (k,v1)) ⟨hw2,hE3.trans hE4,hst,hsub'⟩ (by dsimp only; rw [hp.length_eq,List.length_cons]; omega)
  ·have hfn:(feat c k).isSome=true:=by cases hq:feat c k <;> simp [hq] at hnf ⊢
   refine cK<|xB ?_
   refine aJ (w,rows,Zq,left',some (k,v1)) ⟨hw,hE3,hskip hfn,hsub'⟩ (by dsimp only; rw [hp.length_eq,List.length_cons]; omega)
end
end Go.Fl
namespace Go.Fl
open Go Go.RowKit Go.Ck Go.Proofs Go.Proofs.Tryz Go.Proofs.YtknmacdbffgjgaaGreatDoor Fx Go.Hr
theorem Kv {S:Res} {α β : Type} {sz:Nat} {X:List Value -> α -> Prop} {Y:List Value -> β -> Prop} {g : α -> β} {v:Value} {l:List α} (h:Row S sz X v l) (hx:∀ us x,X us x->Y us (g x)):Row S sz Y v (l.map g):=by
 obtain ⟨a,cap,h1,h2,h3,h4,h5⟩:=h
 refine ⟨a,cap,by rw [h1,List.length_map],by rw [List.length_map]; exact h2,h3,h4,λi y hi=>?_⟩
 rw [List.getElem?_map] at hi
 obtain ⟨x,hx1,rfl⟩:=Option.map_eq_some_iff.1 hi
 obtain ⟨b,o,us,g1,g2,g3,g4⟩:=h5 i x hx1
 exact ⟨b,o,us,g1,g2,g3,hx _ _ g4⟩
theorem tT {X:Res} {v:Value} {l:FS} (h:Ls X v l):l8 X v (bn l):=Kv h.1 λus c hc=>by
 have ho:=Enc.ones hc
 obtain ⟨a,b,e,f,i,rfl,h1,h2,h3,h4,h5⟩:=hc
 obtain ⟨fa,fc,rfl,_⟩:=id h4.form
 exact ⟨.bool c.dfd,a,b,e,fa,fc,i,Z,ho,Kv h2.1 λus p hp=>by
  have ho:=Enc.ones hp
  obtain ⟨x1,x2,x3,x4,x5,rfl,_⟩:=hp
  exact ⟨x1,x2,x3,x4,x5,Z,ho⟩⟩
attribute [local irreducible] Go.Ck.Sub St Cd Xt Nx DrL LsW
section
variable {X Y:Res} {v v':Value} {us us':List Value}
def EB (l:FS) (a:Nm):Option Grp:=if (ae l a).inv=[] then none else some ⟨a,(ae l a).inv⟩

theorem Kw {l : FS} {c : FC} {ms : List Mb} {fv mv : Value} {uc : List Value} (hl : Ls X v l) (hc : Enc.rep X uc c) (hm : Ls X mv ms) (hfv : fv.oneCell' = true) (hR : dJ (bn l) [c.name] = 0) (hb : (above (bn l) c.name).length ≤ 1099511627776) :
  CtX prog 60 #[.agg #[v,fv],.agg uc.toArray,mv] X [] λu Y k'=>k'=[]/\∃ us',u = .agg us'.toArray/\Enc.rep Y us' (flatOf l c ms):=by
 have hml:maxLen=9223372036854775807:=rfl
 have hrb:reachBytes=140737488351232:=rfl
 have hab:=FK (tT hl) c.name
 rw [hR] at hab
 rw [show okL 0 (above (bn l) c.name)=above (bn l) c.name from rfl] at hab
 have hfo:flatOf l c ms={ name:=c.name,dfd:=c.dfd,mems:=ms,inv:=(above (bn l) c.name).filterMap (EB l) }:=rfl
 rw [hfo]
 generalize above (bn l) c.name=xs at hab hb ⊢
 obtain ⟨ca,cb,ce,cf,ci,rfl,hca,hcb,hce,hcf,hci⟩:=gp hc
 obtain ⟨ma,mk,rfl,_⟩:=id hm.form
 unfold CtX
 refine aL (n:=50) func60 Z Z (len Z) λhr w0=>?_
 refine cQ (aP Z Z λb3=>?_)
 refine aP Z Z λb4=>?_
 refine au Fh λb6=>?_
 refine sK [2,3,4,6] Z<|cQ<|sV (vF Z dN Z)<|sV (vY Z ld9) ?_
 refine sV (vF Z M8 Z)<|sV (vY Z ld4) ?_
 refine sM Z<|sV (aO (cells:=[sv c.name,.bool c.dfd,.slice ma ms.length mk,.slice none 0 0]) Z<|λ_=>Zz) ?_
 refine au Fh λb7=>?_
 refine ai Z Z Ab Z Z ?_
 refine sK [3,4,6,7] Z<|cQ<|sV (vF Z JQ Z)<|sV (vY Z Af) ?_
 refine sV (vF Z dN Z)<|sV (vY Z ld9) ?_
 refine aH Z Z en41 Z (hab) ?_
 rintro u h' ⟨T,rfl,w,rfl,hw,rfl⟩
 simp only [lC,lN]
 refine sM Z<|sV (ag Z Z)<|sV (ag Z Z)<|sA Z<|sA Z<|sK [3,6,7,8] Z<|cS<|cS ?_
 unfold NR
 refine fZ (v:=w) (E:=9) (sz:=1) (rows:=xs.map nC) slq λwa wc hwf hwl hwm=>?_
 rw [List.length_map] at hwf hwl
 subst hwf
 refine dK (cO 170 2)<|cR<|sM Z<|sV (aF Z underlying40)<|sM Z<|sK [3,6,7,27,28,29] Z<|cB<|aX (σ := Value×List (List Value)×Nat) (λq=>[(3,.pointer (some ⟨b3,0,none⟩)),(6,.pointer (some ⟨b6,0,none⟩)),(7,.pointer (some ⟨b7,0,none⟩)),(27,.slice wa xs.length wc),(28,.int .i64 xs.length),(29,.int .i64 (q.2.2:Nat))]) (λq=>pt b7 (cl [sv c.name,.bool c.dfd,.slice ma ms.length mk,q.1] 55)::VR q.1 170 2 q.2.1::VR (.slice wa xs.length wc) 9 1 (xs.map nC)::pt b6 (cl [.string ⟨#[]⟩,.bool false,.slice none 0 0,.slice none 0 0] 55)::pt b3 (cl [v,fv] 114)::X::hr) (λq=>q.2.2≤xs.length/\q.1.oneCell'=true/\Rws X q.2.1 ((xs.take q.2.2).filterMap<|EB l)) (λq=>xs.length - q.2.2) (.slice none 0 0,[],0) ⟨Nat.zero_le _,Z,Rws.nil⟩ ?_
 rintro ⟨iw,rows,i⟩ ⟨hi,hiw,hro⟩
 simp only at hi hiw hro
 dsimp only
 refine cQ<|sV (aN Z Z)<|sN<|nT<|cS<|cC Z (λhd=>?_)<|λhd=>?_
 ·have hlt:i<xs.length:=Zx
  have htk:=bY hlt
  have hrl:rows.length≤i:=by
   rw [hro.1]
   have:=List.length_filterMap_le (EB l)<|xs.take i
   rw [List.length_take] at this
   omega
  have hnx:(xs.map nC)[i]? = some [sv xs[i]]:=by rw [List.getElem?_map,Zy hlt]; rfl
  refine fJ (r:=VR (.slice wa xs.length wc) 9 1<|xs.map nC) slq λhok=>?_
  obtain ⟨ab,ao,rfl⟩:∃ ab ao,wa=some ⟨ab,ao,none⟩:=by
   obtain ⟨f0,hf0⟩:=hok
   rcases VR.form hf0 with ⟨h3,h4⟩ | ⟨b,o,cp,h3,-⟩
   ·have:=List.map_eq_nil_iff.1 h4
    subst this; simp at hlt
   ·rw [List.length_map] at h3; cases h3; exact ⟨b,o,rfl⟩
  generalize hxi:xs[i]=x at hnx htk
  have hcc:=lS (n:=x) (fv:=fv) hl hfv
  refine cK<|xT<|cS<|cB<|cQ<|sV (vI (k:=i) Z Z jm Z hlt Z)<|sV (vY Z ld9 (ha:=⟨_,_,slq,eQ hnx 0<|by simp⟩)) ?_
  refine sA Z<|sK [3,6,7,11,27,28,29] Z<|cQ<|sV (af Z gU Z ah) ?_
  refine sM Z<|aH Z Z en56 Z (hcc) ?_
  rintro u h' ⟨rfl,cus,rfl,hcr⟩
  simp only [lC,lN]
  obtain ⟨fa,fb,fc,fd,fe,rfl,-,-,-,-,hfi⟩:=gp hcr
  obtain ⟨fA,fK,rfl,_⟩:=id hfi.form
  refine sV (iI (k:=6) Z underlying44 Z isAgg42 Z)<|sA Z<|sK [3,6,7,11,12,27,28,29] Z<|cQ<|sM Z<|sV (aF Z underlying42)<|sV (cu Z Z)<|sK [3,6,7,11,12,27,28,29,39] Z<|cC Z (λhpos=>?_)<|λhpos=>?_
  ·have hne:¬ (ae l x).inv=[]:=λe=>by rw [e] at hpos; simp at hpos
   have hinv:EB l x=some ⟨x,(ae l x).inv⟩:=by unfold EB; rw [if_neg hne]
   refine cR<|sV (vF Z xe Z)<|sV (vY Z qo) ?_
   refine sM Z<|sM Z<|sV (aO (cells:=[sv x,.slice fA (ae l x).inv.length fK]) Z<|λ_=>Zz) ?_
   refine ak (cells:=[sv x,.slice fA (ae l x).inv.length fK]) Z underlying53 mX Z Z Zz (ltn Z) λb45=>?_
   refine dZ [[sv x,.slice fA (ae l x).inv.length fK]] Z Z underlying53 mX Z (by decide) (show Sel _ (VR iw 170 2 rows) _ from slq) (by simp) Z (λj u2 hu2=>bT<|bV Zt) (by simp [sv,Value.oneCell']) (by omega) (by omega) (ltn Z) λw2 hw2 _=>?_
   refine sV (vF Z xe Z)<|bf Z Z mW ?_
   refine sN<|nK [3,6,7,27,28,29] Z<|ax<|xB<|xT<|cR<|sV (aI Z Z Za)<|sM Z<|sN<|nK [3,6,7,27,28,29] Z<|ax ?_
   refine aJ (w2,rows++[[sv x,.slice fA (ae l x).inv.length fK]],i+1) ⟨hlt,hw2,by rw [htk,List.filterMap_append]; simp only [List.filterMap_cons,hinv,List.filterMap_nil]; exact hro.snoc ⟨_,Z,hfi⟩⟩ (by dsimp only; omega)
  ·have hne:(ae l x).inv=[]:=by simpa using hpos
   have hinv:EB l x=none:=by unfold EB; rw [if_pos hne]
   refine cK<|xB<|xT<|cR<|sV (aI Z Z Za)<|sM Z<|sN<|nK [3,6,7,27,28,29] Z<|ax ?_
   refine aJ (iw,rows,i+1) ⟨hlt,hiw,by rw [htk,List.filterMap_append]; simp only [List.filterMap_cons,hinv,List.filterMap_nil,List.append_nil]; exact hro⟩ (by dsimp only; omega)
 ·have hie:i=xs.length:=by
   have:¬ i<xs.length:=Zx
   omega
  subst hie
  rw [List.take_length] at hro
  refine aB<|xE<|xE<|xY<|xT<|cQ<|sV (af Z Fg Z ah) ?_
  have hone2:([sv c.name,.bool c.dfd,.slice ma ms.length mk,iw]:List Value).all Value.oneCell'=true:=by simp only [List.all_cons,List.all_nil,hiw,Bool.and_true,Bool.true_and]; rfl
  refine ai Z Z Ab Z hone2 ?_
  refine sK [6] Z<|cT ?_
  have hil:(xs.filterMap<|EB l).length * 40≤reachBytes:=by
   have:=List.length_filterMap_le (EB l) xs
   omega
  refine dY (r:=VR iw 170 2 rows) slq λhok=>?_
  refine gY [VR iw 170 2 rows] X λY2 hE2 hsel=>?_
  exact bD (.cellN Z Fg Z slq .nil) ⟨Y2,[],Z,hE2,Z,_,Z,_,_,Z,hm.up hE2,Rws.ls (E:=170) (hro.up hE2) hok (hsel _ _ .here) hil⟩ sbr
end
end Go.Fl
namespace Go.Fl
open Go Go.RowKit Go.Ck Go.Proofs Go.Proofs.Tryz Go.Proofs.YtknmacdbffgjgaaGreatDoor Fx Go.Hr
theorem GM {c:Cx} {ex:Exit} {Q:Exit->Act->World->Prop} {e:Env} {h h':SH} {mb ib:Nat} {m left:List (Bs×Value)} {last:Option (Bs×Value)} (s:Sel h (xH mb ib m left last) h') (hx:Xt c ex Q e (mps mb m::h')):Xt c ex Q e h:=λa w hk hh hw=>by
 have hh':=hh.sel s
 obtain ⟨_,es,ck,seen,g1,g2,hB,_⟩:=hh'.1
 exact hx a w hk ⟨⟨es,ck,g1,g2,hB⟩,λb hb=>hh'.2.1 b (.inl hb),hh'.2.2⟩ hw
attribute [local irreducible] Go.Ck.Sub St Cd Xt Nx DrL LsW
section
variable {X Y:Res} {v v':Value} {us us':List Value}
theorem LF {σ : Type} {b1 bm yl : Nat} {m : List (Nm × Value)} (Inv : σ -> SH) (Φ : List Nm -> σ -> Prop) (s0 : σ) (h0 : Φ [] s0) (hy : ∀ (ds : List Nm) (k : Nm) (s : σ), ds.length < m.length -> Φ ds s -> Yc prog yl #[sv k] (Inv s) λu h' => u = .bool true /\ ∃ s', Φ (ds ++ [k]) s' /\ h' = Inv s') :
  Ct prog 266 #[.func (.yield yl) #[] #[],.pointer (some ⟨b1,0,none⟩)] (pt b1 (cl [.map (some bm)] 188)::mps bm m::Inv s0) λu h'=>u = .tuple #[]/\∃ ds s,ds.Perm (m.map λp=>p.1) /\ Φ ds s/\h'=pt b1 (cl [.map (some bm)] 188)::mps bm m::Inv s:=by
 refine aL (n:=14) func266 Z Z (len Z) λhr w0=>?_
 refine cQ<|sV (vY Z qN) ?_
 refine Bh Z sI slq (ltn Z) λib hnd=>?_
 refine sK [0,5] Z<|cB<|aX (σ := List Nm×List (Nm×Value)×Option (Nm×Value) × σ) (λq=>[(0,.func (.yield yl) #[] #[]),(5,.pointer (some ⟨ib,0,none⟩))]) (λq=>xH bm ib m q.2.1 q.2.2.1::pt b1 (cl [.map (some bm)] 188)::(Inv q.2.2.2++hr)) (λq=>(q.1++q.2.1.map λp=>p.1).Perm (m.map λp=>p.1) /\ Φ q.1 q.2.2.2) (λq=>q.2.1.length) ([],m,none,s0) ⟨by simp,h0⟩ ?_
 rintro ⟨ds,left,last,s⟩ ⟨hds,hΦ⟩
 simp only at hds hΦ
 dsimp only
 refine cQ<|Dh Z slq (ltn Z) (λhl0=>?_)<|λk v1 left' hp=>?_
 ·subst hl0
  rw [List.map_nil,List.append_nil] at hds
  refine sV (ag Z Z)<|sK [0,5,7] Z<|cS<|aG Z ?_
  refine aB<|xE<|xE<|xY<|GM slq ?_
  refine Cw (k:=pt b1 (cl [.map (some bm)] 188)::mps bm m::(Inv s++hr)) (.swap _ _ _) ?_
  exact z8 Z ⟨Z,ds,s,hds,hΦ,Z⟩ sbq
 ·refine sV (ag Z Z)<|sK [0,5,7] Z<|cS<|aQ Z ?_
  refine cK<|xT<|cB<|cQ<|sV (Di Z slq) ?_
  have hlen:ds.length<m.length:=by
   have h1:=hds.length_eq
   have h2:=hp.length_eq
   simp only [List.length_append,List.length_map,List.length_cons] at h1 h2
   omega
  have hyy:=hy ds k s hlen hΦ
  refine sV (ag Z Z)<|sA Z<|sK [0,3,5] Z<|cQ<|sM Z<|sM Z<|uT (gd:=0) (.inl Z) Z Z hyy (Pk.of (hr:=xH bm ib m left' (some (k,v1))::pt b1 (cl [.map (some bm)] 188)::hr)<|by exact List.perm_append_comm_assoc [xH bm ib m left' (some (k,v1)),pt b1 (cl [.map (some bm)] 188)] (Inv s) hr) (ltn Z) ?_
  rintro u h' ⟨rfl,s2,hΦ2,rfl⟩
  refine sV (bg Z)<|sK [0,5,13] Z<|aG Z ?_
  refine cK<|xB<|Cw (k:=xH bm ib m left' (some (k,v1))::pt b1 (cl [.map (some bm)] 188)::(Inv s2++hr)) (by exact List.perm_append_comm_assoc (Inv s2) [xH bm ib m left' (some (k,v1)),pt b1 (cl [.map (some bm)] 188)] hr) ?_
  refine aJ (ds++[k],left',some (k,v1),s2) ⟨by rw [List.append_assoc]; exact ((hp.map λp=>p.1).append_left ds).symm.trans hds,hΦ2⟩ (by dsimp only; rw [hp.length_eq,List.length_cons]; omega)
theorem en266:Ck.Enters prog 266:=enters_of func266 Zz rfl
theorem LG {b1 bm:Nat} {m:List (Nm×Value)} (hb:m.length * 16≤1099511627776):Ct prog 294 #[.slice none 0 0,.func (.func 266) #[] #[.pointer (some ⟨b1,0,none⟩)]] [pt b1 (cl [.map (some bm)] 188),mps bm m] λu h'=>∃ ds,ds.Perm (m.map λp=>p.1)/\u.oneCell'=true/\h'=[NR u ds,pt b1 (cl [.map (some bm)] 188),mps bm m]:=by
 have hml:maxLen=9223372036854775807:=rfl
 refine qH (n:=13) func294 Z Z (len Z) λhr w0=>?_
 refine cQ (aP Z Z λb2=>?_)
 refine sA Z<|sK [1,2,4] Z<|cS<|cQ<|sM Z<|sK [2,4,6] Z<|cB<|dK (cO 9 1) (iY Z en266 λyl db rec hst hpe hps hasg hbo hkn2=>?_)
 refine ⟨_,Ct.perm (LF (σ := Value×List Nm) (b1:=b1) (bm:=bm) (yl:=yl) (m:=m) (λq=>pt yl (.loop rec)::pt db (.deferred<|some [])::pt b2 (cl [q.1] 40)::NR q.1 q.2::hr) (λds q=>q.2=ds/\q.1.oneCell'=true) (.slice none 0 0,[]) ⟨Z,Z⟩ ?_) ?_,?_⟩
 ·rintro ds k ⟨w,xs⟩ hlt ⟨rfl,hw⟩
  dsimp only at hlt hw ⊢
  unfold NR
  refine Yc.perm (qF (n:=13) (rec:=rec) (args:=[sv k]) (hf:=pt db (.deferred<|some [])::pt b2 (cl [w] 40)::VR w 9 1 (xs.map nC)::hr) (by rw [hps]; rfl) hkn2 (by rw [hps]; decide) ?_) (by exact (by repeat (first | exact Pm.refl | refine Pm.cons slq ?_):Pm _ _).perm)
  intro hr2 w1
  rw [hasg,hps,hbo]
  simp only [lC,lN]
  refine cR<|sA Z<|sN<|nK [2,4,5] Z<|ax<|lu Z slq (by first | rfl | assumption) ?_
  refine cB<|cR<|sV (vY Z fI) ?_
  refine sM Z (ak (cells:=[sv k]) Z underlying40 fH Z Z Zz (ltn Z) λb10=>?_)
  refine dZ [[sv k]] Z Z underlying40 fH Z (by decide) (show Sel _ (VR w 9 1<|xs.map nC) _ from slq) (by simp) Z (λj u2 hu2=>bT<|bV Zt) (by simp [sv,Value.oneCell']) (by rw [List.length_map]; omega) (by rw [List.length_map]; omega) (ltn Z) λw2 hw2 _=>?_
  rw [show xs.map nC++[[sv k]]=(xs++[k]).map nC by simp [nC]]
  refine bf Z Z yU ?_
  refine sN<|nK [4] Z<|ax<|xB<|dB slq ⟨Z,(w2,xs++[k]),⟨Z,hw2⟩,Z⟩ ?_
  rw [dC hst hpe]
  exact sbq
 ·simp only [lC,lN]
  exact (by repeat (first | exact Pm.refl | refine Pm.cons slq ?_):Pm _ _).perm
 ·rintro u h' ⟨rfl,ds,⟨w,xs⟩,hds,⟨rfl,hw⟩,rfl⟩
  dsimp only at hw ⊢
  refine ⟨rec,_,slq,(by rw [hst]; simp),?_⟩
  rw [hpe]
  dsimp only
  refine xB<|xT<|cQ<|sV (vY Z fI) ?_
  refine sA Z<|sK [4] Z<|cT ?_
  exact jO (bs:=[db]) Z Z ⟨xs,hds,hw,Z⟩ sbq
theorem ut {bm:Nat}:Ct prog 213 #[.map (some bm)] [] λu h'=>∃ b1,u = .func (.func 266) #[] #[.pointer (some ⟨b1,0,none⟩)]/\h'=[pt b1 (cl [.map (some bm)] 188)]:=by
 refine aL (n:=4) func213 Z Z (len Z) λhr w0=>?_
 refine cQ (aP Z Z λb1=>?_)
 refine sA Z<|sK [1,2] Z<|cQ<|sV (bQ Z Z)<|sA Z<|sK [2] Z<|cT ?_
 exact aj Z ⟨_,Z,Z⟩ sbq
theorem BI {b1 bm:Nat} {m:List (Nm×Value)} (hb:m.length * 16≤1099511627776):Ct prog 264 #[.func (.func 266) #[] #[.pointer (some ⟨b1,0,none⟩)]] [pt b1 (cl [.map (some bm)] 188),mps bm m] λu h'=>∃ ds,ds.Perm (m.map λp=>p.1)/\u.oneCell'=true/\h'=[NR u ds,pt b1 (cl [.map (some bm)] 188),mps bm m]:=by
 refine aL (n:=5) func264 Z Z (len Z) λhr w0=>?_
 refine cQ<|sA Z<|sN<|nT<|cQ<|sM Z<|aH Z Z en294 Z (LG hb) ?_
 rintro u h' ⟨ds,hds,hu,rfl⟩
 simp only [lC,lN]
 refine sA Z<|sK [2] Z<|cT ?_
 exact aj Z ⟨ds,hds,hu,Z⟩ sbq
theorem pU {b1 bm:Nat} {m:List (Nm×Value)} (hb:m.length * 16≤1099511627776) (hn:(m.map λp=>p.1).Nodup):Ct prog 212 #[.func (.func 266) #[] #[.pointer (some ⟨b1,0,none⟩)]] [pt b1 (cl [.map (some bm)] 188),mps bm m] λu h'=>u.oneCell'=true/\h'=[NR u (srt (m.map λp=>p.1)),pt b1 (cl [.map (some bm)] 188),mps bm m]:=by
 refine aL (n:=9) func212 Z Z (len Z) λhr w0=>?_
 refine cQ<|sA Z<|sN<|nT<|cQ<|sM Z<|aH Z Z en264 Z (BI hb) ?_
 rintro u h' ⟨ds,hds,hu,rfl⟩
 simp only [lC,lN]
 have hnd:=hds.nodup_iff.2 hn
 have hdl:ds.length≤1099511627776:=by rw [hds.length_eq,List.length_map]; omega
 have hsr:srt ds=srt (m.map λp=>p.1):=(iG ds).1.ext (iG _).1 λx=>by rw [(iG ds).2,(iG _).2,hds.mem_iff]
 refine sA Z<|sK [2,3] Z<|cQ<|sM Z<|aH Z Z en265 Z (Sort_ct hnd hdl) ?_
 rintro u2 h' ⟨rfl,rfl⟩
 simp only [lC,lN]
 rw [hsr]
 refine sK [2,3] Z<|cQ<|sM Z<|sA Z<|sK [2] Z<|cT ?_
 exact aj Z ⟨hu,Z⟩ sbq
end
end Go.Fl
