/-
  The reference: whether names,types,variables,expressions,clauses,groups,seeds,members,flat forms are equal. Conditions: what is read.
-/
import Derived.Test.YtknmacdbffgjgaaGreatDoorM15
set_option linter.unusedVariables false
set_option linter.unusedSimpArgs false
set_option maxRecDepth 100000
set_option maxHeartbeats 16000000
namespace Go.Fl
open Go Go.RowKit Go.Ck Go.Proofs Go.Proofs.Tryz Go.Proofs.YtknmacdbffgjgaaGreatDoor Fx Go.Hr
structure SmP (p:Pt):Prop where
 args:p.args.length≤5
 ren:p.ren.length≤12
 und:p.und.length≤12
 red:p.red.length≤12
 sel:p.sel.length≤12
structure SmF (f:Fe):Prop where
 args:f.args.length≤18
 clients:f.clients.length≤12
 req:f.req.length≤12
 ens:f.ens.length≤12
structure SmC (c:FC):Prop where
 pars:c.pars.length≤6
 feats:c.feats.length≤65
 forms:c.forms.length≤5
 inv:c.inv.length≤12
 par:∀ p∈c.pars,SmP p
 feat:∀ f∈c.feats,SmF f
structure SmL (l:FS):Prop where
 len:l.length≤30
 cls:∀ c∈l,SmC c
def Crt (X:Res) (us:List Value):Prop:=∃ (ce:Value) (ns:List Nm),us[4]? = some ce/\Ls X ce ns
def Cre (X:Res) (v:Value) (l:FS):Prop:=∀ (i:Nat) c,l[i]? = some c->∃ b o cap us,v = .slice (some ⟨b,o,none⟩) l.length cap/\Rds X b (o+i * 7) us/\Enc.rep X us c/\Crt X us
theorem Crt.up {X Y:Res} {us:List Value} (h:Crt X us) (he:Ext X Y):Crt Y us:=by
 obtain ⟨ce,ns,h1,h2⟩:=h
 exact ⟨ce,ns,h1,h2.up he⟩
theorem Cre.up {X Y:Res} {v:Value} {l:FS} (h:Cre X v l) (he:Ext X Y):Cre Y v l:=λi c hc=>by
 obtain ⟨b,o,cap,us,h1,h2,h3,h4⟩:=h i c hc
 exact ⟨b,o,cap,us,h1,λj hj=>he.rd _ _ (h2 j hj),Enc.up he.rd h3,h4.up he⟩
attribute [local irreducible] Go.Ck.Sub St Cd Xt Nx DrL LsW
section
variable {X:Res} {v:Value} {l:FS}
theorem uB:∀ (D:Nat) (t:Kt) (y:Value),t.depth≤D->Tys X y t.args->Ct prog 61 #[.agg (tyC t y).toArray] [X] λu h'=>∃ k:Int,u = .int .i64 k/\h'=[X]:=by
 intro D
 induction D with
 | zero=>intro t y hd; cases t; simp [Kt.depth] at hd
 | succ D ih =>
  intro t y hd hy
  have hml:maxLen=9223372036854775807:=rfl
  have hF:∀ a∈t.args,∀ y,Tys X y a.args->_:=λa ha y=>ih a y (by have:=jM ha; omega)
  clear ih
  obtain ⟨xa,xc,rfl,hlc,hcm,_⟩:=hy.form
  unfold tyC
  refine aL (n:=21) func61 Z Z (len Z) λhr w0=>?_
  refine cQ (aP Z Z λb1=>?_)
  refine sA Z<|sK [1,2] Z<|cQ<|sA Z<|sN<|nT<|cS<|cQ<|sA Z<|sN<|nT<|cB<|aW (σ := Int×Nat) (λq=>[(1,.pointer (some ⟨b1,0,none⟩)),(3,.int .i64 q.1),(4,.int .i64 (q.2:Nat))]) (λq=>pt b1 (cl [.int .i64 t.kind,sv t.name,.slice xa t.args.length xc,.bool t.void,.bool t.sep] 73)::X::hr) (λq=>q.2≤t.args.length) (λq=>t.args.length - q.2) (1,0) (Nat.zero_le _) ?_
  rintro ⟨k,i⟩ hi
  try simp only at hi
  try dsimp only
  refine cS<|cQ<|sM Z<|sV (vF Z ja Z)<|sV (vY Z oZ) ?_
  refine sV (aF Z underlying71)<|sV (aN Z Z)<|sK [1,3,4,9] Z<|cC Z (λhd2=>?_)<|λhd2=>?_
  ·have hlt:i<t.args.length:=Zw
   have hg:=Zy hlt
   have hmem:=List.getElem_mem hlt
   obtain ⟨b2,o,cap2,us,e1,hus,hrd,hta⟩:=hy.at hg
   cases e1
   generalize t.args[i]=a at hmem hta
   obtain ⟨z,rfl,hz⟩:=ek hta
   have hca:=hF a hmem z hz
   unfold tyC at hrd hca
   refine cK<|xT<|cS<|cB<|cR<|sM Z<|sV (vF Z ja Z)<|sV (vY Z oZ) ?_
   refine sM Z<|sV (vI (k:=i) Z Z yt Z hlt Z)<|sV (af Z fD Z hrd) ?_
   refine aJ Z Z en61 Z (hca) ?_
   rintro u h' ⟨k2,rfl,rfl⟩
   simp only [lC,lN]
   refine sV (Dw Z Z)<|sA Z<|sN<|nK [1,3,4] Z<|ax<|xB<|xT<|cR<|sM Z<|sV (aI Z Z Z0)<|sA Z<|sN<|nK [1,3,4] Z<|ax ?_
   refine aM (_,i+1) hlt (by show t.args.length - (i+1)<t.args.length - i; omega)
  ·refine aC<|xE<|xE<|xY<|xT<|cQ<|sM Z<|sA Z<|sK [2] Z<|cT ?_
   exact aj Z ⟨k,Z,Z⟩ sbq

theorem GJ:∀ (D:Nat) (t:Ex) (y:Value),t.depth≤D->Ls X y t.kids->Ct prog 137 #[.agg (exC t y).toArray] [X] λu h'=>∃ k:Int,u = .int .i64 k/\h'=[X]:=by
 intro D
 induction D with
 | zero=>intro t y hd; cases t; simp [Ex.depth] at hd
 | succ D ih =>
  intro t y hd hy
  have hml:maxLen=9223372036854775807:=rfl
  have hF:∀ a∈t.kids,∀ y,Ls X y a.kids->_:=λa ha y=>ih a y (by have:=pI ha; omega)
  clear ih
  obtain ⟨xa,xc,rfl,hlc,hcm,_⟩:=hy.form
  unfold exC
  refine aL (n:=21) func137 Z Z (len Z) λhr w0=>?_
  refine cQ (aP Z Z λb1=>?_)
  refine sA Z<|sK [1,2] Z<|cQ<|sA Z<|sN<|nT<|cS<|cQ<|sA Z<|sN<|nT<|cB<|aW (σ := Int×Nat) (λq=>[(1,.pointer (some ⟨b1,0,none⟩)),(3,.int .i64 q.1),(4,.int .i64 (q.2:Nat))]) (λq=>pt b1 (cl [.int .i64 t.kind,sv t.name,.int .i64 t.num,.slice xa t.kids.length xc] 216)::X::hr) (λq=>q.2≤t.kids.length) (λq=>t.kids.length - q.2) (1,0) (Nat.zero_le _) ?_
  rintro ⟨k,i⟩ hi
  try simp only at hi
  try dsimp only
  refine cS<|cQ<|sM Z<|sV (vF Z jA Z)<|sV (vY Z sU) ?_
  refine sV (aF Z underlying214)<|sV (aN Z Z)<|sK [1,3,4,9] Z<|cC Z (λhd2=>?_)<|λhd2=>?_
  ·have hlt:i<t.kids.length:=Zw
   have hg:=Zy hlt
   have hmem:=List.getElem_mem hlt
   obtain ⟨b2,o,cap2,us,e1,hus,hrd,hta⟩:=hy.at hg
   cases e1
   generalize t.kids[i]=a at hmem hta
   obtain ⟨z,rfl,hz⟩:=l8 hta
   have hca:=hF a hmem z hz
   unfold exC at hrd hca
   refine cK<|xT<|cS<|cB<|cR<|sM Z<|sV (vF Z jA Z)<|sV (vY Z sU) ?_
   refine sM Z<|sV (vI (k:=i) Z Z Co Z hlt Z)<|sV (af Z jY Z hrd) ?_
   refine aJ Z Z en137 Z (hca) ?_
   rintro u h' ⟨k2,rfl,rfl⟩
   simp only [lC,lN]
   refine sV (Dw Z Z)<|sA Z<|sN<|nK [1,3,4] Z<|ax<|xB<|xT<|cR<|sM Z<|sV (aI Z Z Z0)<|sA Z<|sN<|nK [1,3,4] Z<|ax ?_
   refine aM (_,i+1) hlt (by show t.kids.length - (i+1)<t.kids.length - i; omega)
  ·refine aC<|xE<|xE<|xY<|xT<|cQ<|sM Z<|sA Z<|sK [2] Z<|cT ?_
   exact aj Z ⟨k,Z,Z⟩ sbq

theorem pX {cs:List Cla} {y:Value} (hy:Ls X y cs):Ct prog 62 #[y] [X] λu h'=>∃ k:Int,u = .int .i64 k/\h'=[X]:=by
 have hml:maxLen=9223372036854775807:=rfl
 obtain ⟨xa,xc,rfl,hlc,hcm,_⟩:=hy.form
 refine aL (n:=20) func62 Z Z (len Z) λhr w0=>?_
 refine cQ<|sA Z<|sN<|nT<|cQ<|sA Z<|sN<|nT<|cS<|cQ<|sA Z<|sN<|nT<|cB ?_
 refine aW (σ := Int×Nat) (λq=>[(0,.slice xa cs.length xc),(3,.int .i64 q.1),(4,.int .i64 (q.2:Nat))]) (λq=>X::hr) (λq=>q.2≤cs.length) (λq=>cs.length - q.2) (0,0) (Nat.zero_le _) ?_
 rintro ⟨k,i⟩ hi
 try simp only at hi
 try dsimp only
 refine cS<|cQ<|sM Z<|sM Z<|sV (aF Z underlying42)<|sV (aN Z Z)<|sK [0,3,4,8] Z<|cC Z (λhd2=>?_)<|λhd2=>?_
 ·have hlt:i<cs.length:=Zw
  obtain ⟨b2,o,cap2,us,e1,hus,hrd,hta⟩:=hy.at<|Zy hlt
  cases e1
  generalize cs[i]=a at hta
  obtain ⟨es,rfl,hes⟩:=hta
  obtain ⟨z,rfl,hz⟩:=l8 hes
  have hca:=GJ _ a.ex z (Nat.le_refl _) hz
  unfold exC at hrd hca
  refine cK<|xT<|cS<|cB<|cR<|sM Z<|sM Z<|sM Z<|sV (vI (k:=i) Z Z Fq Z hlt Z)<|sV (vF Z pE Z)<|sV (af Z jY Z<|bD (k:=1) hrd (vs:=[.int .i64 a.ex.kind,sv a.ex.name,.int .i64 a.ex.num,z]) Z) ?_
  refine aJ Z Z en137 Z (hca) ?_
  rintro u h' ⟨k2,rfl,rfl⟩
  simp only [lC,lN]
  refine sV (Dw Z Z)<|sA Z<|sN<|nK [0,3,4] Z<|ax<|xB<|xT<|cR<|sM Z<|sV (aI Z Z Z0)<|sA Z<|sN<|nK [0,3,4] Z<|ax ?_
  refine aM (_,i+1) hlt (by show cs.length - (i+1)<cs.length - i; omega)
 ·refine aC<|xE<|xE<|xY<|xT<|cQ<|sM Z<|sA Z<|sK [2] Z<|cT ?_
  exact aj Z ⟨k,Z,Z⟩ sbq
theorem L6 {us:List Value} {c:FC} (hc:Enc.rep X us c) (hcr:Crt X us):Ct prog 15 #[.agg us.toArray] [X] λu h'=>∃ ok,u = .bool ok/\h'=[X]/\(ok=true->SmC c):=by
 have hml:maxLen=9223372036854775807:=rfl
 obtain ⟨ca,cb,ce,cf,ci,rfl,hca,hcb,hce,hcf,hci⟩:=gD hc
 obtain ⟨ce2,ns,e4,hns⟩:=hcr
 obtain rfl:ce=ce2:=by simpa using e4
 obtain ⟨ca,fak,rfl,_⟩:=id hca.form
 obtain ⟨cb,ck,rfl,hcl1,hcm1,_⟩:=id hcb.form
 obtain ⟨cea,cek,rfl,_⟩:=id hns.form
 obtain ⟨cf,cfk,rfl,hfl1,hfm1,_⟩:=id hcf.form
 obtain ⟨ci,cik,rfl,_⟩:=id hci.form
 refine aL (n:=168) func15 Z Z (len Z) λhr w0=>?_
 refine cQ (aP Z Z λb1=>?_)
 refine sA Z<|sK [1,2] Z<|cQ<|sV (vF Z kF Z)<|sV (vY Z yu) ?_
 refine sV (aF Z underlying41)<|sA Z<|sK [1,2,3] Z<|cS<|cQ<|sV (vF Z fu Z)<|sV (vY Z mr) ?_
 refine sV (aF Z underlying39)<|sV (bW Z Z)<|sM Z<|bf (k:=12) (d:=24) (v:=.bool ((decide ((6:Int)<(c.pars.length:Nat))) || ((decide ((12:Int)<(c.feats.length:Nat))) && (decide (((c.feats.length:Nat):Int)≤60))))) (λhcut=>aG (b:=(decide ((6:Int)<(c.pars.length:Nat)))) false (λhg=>?_)<|λhg=>?_) ?_
 ·refine aB Z Z hg ?_
  iterate 2 refine aB rfl rfl hg ?_
  refine bY Z Z ?_
  refine bY Z Z ?_
  refine aB Z Z hg ?_
  refine sV (vQ (bO Z hg) Z) ?_
  exact hcut _ uG
 ·refine sG Z (bG Z hg) (vM Z)<|sG Z (bG Z hg) (bW Z Z)<|sG Z (bG Z hg) (vM Z)<|bf (k:=11) (d:=23) (v:=.bool ((decide ((12:Int)<(c.feats.length:Nat))) && (decide (((c.feats.length:Nat):Int)≤60)))) (λhcut=>aG (b:=(decide ((12:Int)<(c.feats.length:Nat)))) true (λhg1=>?_)<|λhg1=>?_) ?_
  ·refine aB Z Z hg1 ?_
   refine aB Z Z hg1 ?_
   refine sG Z (bG Z hg) (vP (bO Z hg1) Z) ?_
   exact hcut _<|uH (by first | rfl | (rw [hg1]; rfl) | simp_all)<|uS Z<|uS Z<|uR
  ·refine sG Z (bG Z hg1) (vM Z)<|sG Z (bG Z hg1) (Ca Z Z)<|sG Z (bG Z hg) (vQ (bO Z hg1) Z) ?_
   exact hcut _<|uH (by first | rfl | (rw [hg1]; rfl) | simp_all)<|uS Z<|uS Z<|uR
  refine sV (vP (bO Z hg) Z) ?_
  exact hcut _<|uH (by first | rfl | (rw [hg]; rfl) | simp_all) (by repeat (first | exact uR | refine uS Z ?_))
 refine sM Z<|bf (k:=16) (d:=28) (v:=.bool (((decide ((6:Int)<(c.pars.length:Nat))) || ((decide ((12:Int)<(c.feats.length:Nat))) && (decide (((c.feats.length:Nat):Int)≤60)))) || (decide ((65:Int)<(c.feats.length:Nat))))) (λhcut=>aG (b:=((decide ((6:Int)<(c.pars.length:Nat))) || ((decide ((12:Int)<(c.feats.length:Nat))) && (decide (((c.feats.length:Nat):Int)≤60))))) false (λhg=>?_)<|λhg=>?_) ?_
 ·refine aB Z Z hg ?_
  refine aB Z Z hg ?_
  refine sV (vQ (bO Z hg) Z) ?_
  exact hcut _ uG
 ·refine sG Z (bG Z hg) (vM Z)<|sG Z (bG Z hg) (bW Z Z)<|sV (vP (bO Z hg) Z) ?_
  exact hcut _ uG
 refine sM Z<|bf (k:=22) (d:=34) (v:=.bool ((((decide ((6:Int)<(c.pars.length:Nat))) || ((decide ((12:Int)<(c.feats.length:Nat))) && (decide (((c.feats.length:Nat):Int)≤60)))) || (decide ((65:Int)<(c.feats.length:Nat)))) || (decide ((5:Int)<(c.forms.length:Nat))))) (λhcut=>aG (b:=(((decide ((6:Int)<(c.pars.length:Nat))) || ((decide ((12:Int)<(c.feats.length:Nat))) && (decide (((c.feats.length:Nat):Int)≤60)))) || (decide ((65:Int)<(c.feats.length:Nat))))) false (λhg=>?_)<|λhg=>?_) ?_
 ·refine aB Z Z hg ?_
  iterate 3 refine aB rfl rfl hg ?_
  refine sV (vQ (bO Z hg) Z) ?_
  exact hcut _ uG
 ·refine sG Z (bG Z hg) (vF Z DT Z)<|sG Z (bG Z hg) (vY Z ld38) ?_
  refine sG Z (bG Z hg) (aF Z underlying38)<|sG Z (bG Z hg) (bW Z Z)<|sV (vP (bO Z hg) Z) ?_
  exact hcut _ uG
 refine sM Z<|bf (k:=28) (d:=40) (v:=.bool (((((decide ((6:Int)<(c.pars.length:Nat))) || ((decide ((12:Int)<(c.feats.length:Nat))) && (decide (((c.feats.length:Nat):Int)≤60)))) || (decide ((65:Int)<(c.feats.length:Nat)))) || (decide ((5:Int)<(c.forms.length:Nat)))) || (decide ((12:Int)<(ns.length:Nat))))) (λhcut=>aG (b:=((((decide ((6:Int)<(c.pars.length:Nat))) || ((decide ((12:Int)<(c.feats.length:Nat))) && (decide (((c.feats.length:Nat):Int)≤60)))) || (decide ((65:Int)<(c.feats.length:Nat)))) || (decide ((5:Int)<(c.forms.length:Nat))))) false (λhg=>?_)<|λhg=>?_) ?_
 ·refine aB Z Z hg ?_
  iterate 3 refine aB rfl rfl hg ?_
  refine sV (vQ (bO Z hg) Z) ?_
  exact hcut _ uG
 ·refine sG Z (bG Z hg) (vF Z fa44_4 Z)<|sG Z (bG Z hg) (vY Z fq) ?_
  refine sG Z (bG Z hg) (aF Z underlying40)<|sG Z (bG Z hg) (bW Z Z)<|sV (vP (bO Z hg) Z) ?_
  exact hcut _ uG
 refine sM Z<|bf (k:=34) (d:=46) (v:=.bool ((((((decide ((6:Int)<(c.pars.length:Nat))) || ((decide ((12:Int)<(c.feats.length:Nat))) && (decide (((c.feats.length:Nat):Int)≤60)))) || (decide ((65:Int)<(c.feats.length:Nat)))) || (decide ((5:Int)<(c.forms.length:Nat)))) || (decide ((12:Int)<(ns.length:Nat)))) || (decide ((12:Int)<(c.inv.length:Nat))))) (λhcut=>aG (b:=(((((decide ((6:Int)<(c.pars.length:Nat))) || ((decide ((12:Int)<(c.feats.length:Nat))) && (decide (((c.feats.length:Nat):Int)≤60)))) || (decide ((65:Int)<(c.feats.length:Nat)))) || (decide ((5:Int)<(c.forms.length:Nat)))) || (decide ((12:Int)<(ns.length:Nat))))) false (λhg=>?_)<|λhg=>?_) ?_
 ·refine aB Z Z hg ?_
  iterate 3 refine aB rfl rfl hg ?_
  refine sV (vQ (bO Z hg) Z) ?_
  exact hcut _ uG
 ·refine sG Z (bG Z hg) (vF Z Nr Z)<|sG Z (bG Z hg) (vY Z tQ) ?_
  refine sG Z (bG Z hg) (aF Z underlying42)<|sG Z (bG Z hg) (bW Z Z)<|sV (vP (bO Z hg) Z) ?_
  exact hcut _ uG
 refine sK [1,2,3,46] Z<|cC Z (λhq=>?_)<|λhq=>?_
 ·refine cQ<|sA Z<|sK [2] Z<|cT<|xR ?_
  exact aj rfl ⟨false,rfl,rfl,λh=>by cases h⟩ sbq
 ·have hq:((((((decide ((6:Int)<(c.pars.length:Nat))) || ((decide ((12:Int)<(c.feats.length:Nat))) && (decide (((c.feats.length:Nat):Int)≤60)))) || (decide ((65:Int)<(c.feats.length:Nat)))) || (decide ((5:Int)<(c.forms.length:Nat)))) || (decide ((12:Int)<(ns.length:Nat)))) || (decide ((12:Int)<(c.inv.length:Nat))))=false:=hq
  simp only [Bool.or_eq_false_iff,Bool.and_eq_false_iff,decide_eq_false_iff_not] at hq
  obtain ⟨⟨⟨⟨⟨q1,-⟩,q2⟩,q3⟩,-⟩,q4⟩:=hq
  refine cK<|xT<|cS<|cQ<|sA Z<|sK [1,2,3,4] Z<|cB<|aW (σ := Nat) (λi=>[(1,.pointer (some ⟨b1,0,none⟩)),(3,.int .i64 (c.feats.length:Nat)),(4,.int .i64 (i:Nat))]) (λ_=>pt b1 (cl [sv c.name,.bool c.dfd,.slice ca c.forms.length fak,.slice cb c.pars.length ck,.slice cea ns.length cek,.slice cf c.feats.length cfk,.slice ci c.inv.length cik] 44)::X::hr) (λi=>i≤c.pars.length/\∀ k (hk:k<c.pars.length),k<i->SmP c.pars[k]) (λi=>c.pars.length - i) 0 ⟨Nat.zero_le _,λk _ hk=>absurd hk<|Nat.not_lt_zero _⟩ ?_
  rintro i ⟨hi,hal⟩
  try simp only at hi hal
  try dsimp only
  refine cS<|cQ<|sM Z<|sV (vF Z fu Z)<|sV (vY Z mr) ?_
  refine sV (aF Z underlying39)<|sV (aN Z Z)<|sK [1,3,4,51] Z<|cC Z (λhd=>?_)<|λhd=>?_
  ·have hlt:i<c.pars.length:=Zx
   obtain ⟨b2,o,cap2,us,e1,hus,hrd,hp⟩:=hcb.at<|Zy hlt
   obtain ⟨rfl,rfl⟩:cb=some ⟨b2,o,none⟩/\ck=cap2:=by cases e1; exact ⟨rfl,rfl⟩
   have hnx:SmP c.pars[i]->∀ k (hk:k<c.pars.length),k<i+1->SmP c.pars[k]:=λh0 k hk hki=>by
    by_cases h:k=i
    ·subst h; exact h0
    ·exact hal k hk<|by omega
   generalize c.pars[i]=p at hp hnx
   have hpo:=Enc.ones hp
   obtain ⟨x1,x2,x3,x4,x5,rfl,h1,h2,h3,h4,h5⟩:=hp
   obtain ⟨a1,k1,rfl,hl1,hm1,_⟩:=id h1.form
   obtain ⟨a2,k2,rfl,_⟩:=id h2.form
   obtain ⟨a3,k3,rfl,_⟩:=id h3.form
   obtain ⟨a4,k4,rfl,_⟩:=id h4.form
   obtain ⟨a5,k5,rfl,_⟩:=id h5.form
   refine cK<|xT<|cS<|cB<|cQ<|sV (vF Z fu Z)<|sV (vY Z mr) ?_
   refine sM Z<|sV (vI (k:=i) Z Z oW Z hlt Z)<|sV (af Z qD Z hrd) ?_
   refine ak vG λb5=>?_
   refine ai Z Z sH Z hpo ?_
   refine sK [1,3,4,5] Z<|cS<|cQ<|sV (vF Z wM Z)<|sV (vY Z oZ) ?_
   refine sV (aF Z underlying71)<|sV (bW Z Z)<|sM Z<|bf (k:=10) (d:=68) (v:=.bool ((decide ((5:Int)<(p.args.length:Nat))) || (decide ((12:Int)<(p.ren.length:Nat))))) (λhcut=>aG (b:=(decide ((5:Int)<(p.args.length:Nat)))) false (λhg=>?_)<|λhg=>?_) ?_
   ·refine aB Z Z hg ?_
    iterate 3 refine aB rfl rfl hg ?_
    refine sV (vQ (bO Z hg) Z) ?_
    exact hcut _ uG
   ·refine sG Z (bG Z hg) (vF Z zK Z)<|sG Z (bG Z hg) (vY Z ld86) ?_
    refine sG Z (bG Z hg) (aF Z underlying86)<|sG Z (bG Z hg) (bW Z Z)<|sV (vP (bO Z hg) Z) ?_
    exact hcut _ uG
   refine sM Z<|bf (k:=16) (d:=74) (v:=.bool (((decide ((5:Int)<(p.args.length:Nat))) || (decide ((12:Int)<(p.ren.length:Nat)))) || (decide ((12:Int)<(p.und.length:Nat))))) (λhcut=>aG (b:=((decide ((5:Int)<(p.args.length:Nat))) || (decide ((12:Int)<(p.ren.length:Nat))))) false (λhg=>?_)<|λhg=>?_) ?_
   ·refine aB Z Z hg ?_
    iterate 3 refine aB rfl rfl hg ?_
    refine sV (vQ (bO Z hg) Z) ?_
    exact hcut _ uG
   ·refine sG Z (bG Z hg) (vF Z wN Z)<|sG Z (bG Z hg) (vY Z fq) ?_
    refine sG Z (bG Z hg) (aF Z underlying40)<|sG Z (bG Z hg) (bW Z Z)<|sV (vP (bO Z hg) Z) ?_
    exact hcut _ uG
   refine sM Z<|bf (k:=22) (d:=80) (v:=.bool ((((decide ((5:Int)<(p.args.length:Nat))) || (decide ((12:Int)<(p.ren.length:Nat)))) || (decide ((12:Int)<(p.und.length:Nat)))) || (decide ((12:Int)<(p.red.length:Nat))))) (λhcut=>aG (b:=(((decide ((5:Int)<(p.args.length:Nat))) || (decide ((12:Int)<(p.ren.length:Nat)))) || (decide ((12:Int)<(p.und.length:Nat))))) false (λhg=>?_)<|λhg=>?_) ?_
   ·refine aB Z Z hg ?_
    iterate 3 refine aB rfl rfl hg ?_
    refine sV (vQ (bO Z hg) Z) ?_
    exact hcut _ uG
   ·refine sG Z (bG Z hg) (vF Z wO Z)<|sG Z (bG Z hg) (vY Z fq) ?_
    refine sG Z (bG Z hg) (aF Z underlying40)<|sG Z (bG Z hg) (bW Z Z)<|sV (vP (bO Z hg) Z) ?_
    exact hcut _ uG
   refine sM Z<|bf (k:=28) (d:=86) (v:=.bool (((((decide ((5:Int)<(p.args.length:Nat))) || (decide ((12:Int)<(p.ren.length:Nat)))) || (decide ((12:Int)<(p.und.length:Nat)))) || (decide ((12:Int)<(p.red.length:Nat)))) || (decide ((12:Int)<(p.sel.length:Nat))))) (λhcut=>aG (b:=((((decide ((5:Int)<(p.args.length:Nat))) || (decide ((12:Int)<(p.ren.length:Nat)))) || (decide ((12:Int)<(p.und.length:Nat)))) || (decide ((12:Int)<(p.red.length:Nat))))) false (λhg=>?_)<|λhg=>?_) ?_
   ·refine aB Z Z hg ?_
    iterate 3 refine aB rfl rfl hg ?_
    refine sV (vQ (bO Z hg) Z) ?_
    exact hcut _ uG
   ·refine sG Z (bG Z hg) (vF Z zL Z)<|sG Z (bG Z hg) (vY Z fq) ?_
    refine sG Z (bG Z hg) (aF Z underlying40)<|sG Z (bG Z hg) (bW Z Z)<|sV (vP (bO Z hg) Z) ?_
    exact hcut _ uG
   refine sK [1,3,4,5,86] Z<|cC Z (λhq2=>?_)<|λhq2=>?_
   ·refine cQ<|sA Z<|sK [2] Z<|cT<|xR<|xW<|xR<|xR<|xW<|xR ?_
    exact aj rfl ⟨false,rfl,rfl,λh=>by cases h⟩ sbq
   ·have hq2:(((((decide ((5:Int)<(p.args.length:Nat))) || (decide ((12:Int)<(p.ren.length:Nat)))) || (decide ((12:Int)<(p.und.length:Nat)))) || (decide ((12:Int)<(p.red.length:Nat)))) || (decide ((12:Int)<(p.sel.length:Nat))))=false:=hq2
    simp only [Bool.or_eq_false_iff,decide_eq_false_iff_not] at hq2
    have hsp:SmP p:=⟨by omega,by omega,by omega,by omega,by omega⟩
    refine cK<|xT<|cQ<|sA Z<|sK [1,3,4,5,6] Z<|cB<|aW (σ := Nat) (λj=>[(1,.pointer (some ⟨b1,0,none⟩)),(3,.int .i64 (c.feats.length:Nat)),(4,.int .i64 (i:Nat)),(5,.pointer (some ⟨b5,0,none⟩)),(6,.int .i64 (j:Nat))]) (λ_=>pt b5 (cl [sv p.name,.slice a1 p.args.length k1,.slice a2 p.ren.length k2,.slice a3 p.und.length k3,.slice a4 p.red.length k4,.slice a5 p.sel.length k5] 88)::pt b1 (cl [sv c.name,.bool c.dfd,.slice ca c.forms.length fak,.slice (some ⟨b2,o,none⟩) c.pars.length ck,.slice cea ns.length cek,.slice cf c.feats.length cfk,.slice ci c.inv.length cik] 44)::X::hr) (λj=>j≤p.args.length) (λj=>p.args.length - j) 0 (Nat.zero_le _) ?_
    rintro j hj
    try simp only at hj
    try dsimp only
    refine cS<|cQ<|sM Z<|sV (vF Z wM Z)<|sV (vY Z oZ) ?_
    refine sV (aF Z underlying71)<|sV (aN Z Z)<|sK [1,3,4,5,6,91] Z<|cC Z (λhd3=>?_)<|λhd3=>?_
    ·have hltj:j<p.args.length:=Zp
     obtain ⟨g2,go,gcap,gus,e2,hgus,hgrd,hta⟩:=h1.at<|Zy hltj
     obtain ⟨rfl,rfl⟩:a1=some ⟨g2,go,none⟩/\k1=gcap:=by cases e2; exact ⟨rfl,rfl⟩
     generalize p.args[j]=a at hta
     obtain ⟨z,rfl,hz⟩:=ek hta
     have hca:=uB _ a z (Nat.le_refl _) hz
     unfold tyC at hgrd hca
     refine cK<|xT<|cS<|cB<|cQ<|sV (vF Z wM Z)<|sV (vY Z oZ) ?_
     refine sM Z<|sV (vI (k:=j) Z Z yt Z hltj Z)<|sV (af Z fD Z hgrd) ?_
     refine aJ Z Z en61 Z (hca) ?_
     rintro u h' ⟨kk,rfl,rfl⟩
     simp only [lC,lN]
     refine sV (bW Z Z)<|sK [1,3,4,5,6,100] Z<|cC Z (λhbig=>?_)<|λhbig=>?_
     ·refine cQ<|sA Z<|sK [2] Z<|cT<|xW<|xR<|xR<|xW<|xW<|xR<|xR<|xW<|xR ?_
      exact aj rfl ⟨false,rfl,rfl,λh=>by cases h⟩ sbq
     ·refine cK<|xB<|xT<|cR<|sM Z<|sV (aI Z Z Z0)<|sA Z<|sN<|nK [1,3,4,5,6] Z<|ax ?_
      refine aM (j+1) hltj (by show p.args.length - (j+1)<p.args.length - j; omega)
    ·refine aC<|xE<|xE<|xY<|xB<|xT<|cR<|sM Z<|sV (aI Z Z Z0)<|sA Z<|sN<|nK [1,3,4] Z<|ax ?_
     refine aM (i+1) ⟨hlt,hnx hsp⟩ (by show c.pars.length - (i+1)<c.pars.length - i; omega)
  ·have hie:i=c.pars.length:=Nat.le_antisymm hi<|Nat.not_lt.1 Zx
   subst hie
   have hpars:∀ p∈c.pars,SmP p:=λp hp=>by
    obtain ⟨k,hk,rfl⟩:=List.getElem_of_mem hp
    exact hal k hk hk
   refine aC<|xE<|xE<|xY<|xT<|cS<|cQ<|sA Z<|sK [1,3,7] Z<|cB<|aW (σ := Nat) (λi=>[(1,.pointer (some ⟨b1,0,none⟩)),(3,.int .i64 (c.feats.length:Nat)),(7,.int .i64 (i:Nat))]) (λ_=>pt b1 (cl [sv c.name,.bool c.dfd,.slice ca c.forms.length fak,.slice cb c.pars.length ck,.slice cea ns.length cek,.slice cf c.feats.length cfk,.slice ci c.inv.length cik] 44)::X::hr) (λi=>i≤c.feats.length/\∀ k (hk:k<c.feats.length),k<i->SmF c.feats[k]) (λi=>c.feats.length - i) 0 ⟨Nat.zero_le _,λk _ hk=>absurd hk<|Nat.not_lt_zero _⟩ ?_
   rintro i ⟨hi,hal⟩
   try simp only at hi hal
   try dsimp only
   refine cS<|cQ<|sM Z<|sM Z<|sV (aN Z Z)<|sK [1,3,7,103] Z<|cC Z (λhd=>?_)<|λhd=>?_
   ·have hlt:i<c.feats.length:=Zx
    obtain ⟨b2,o,cap2,us,e1,hus,hrd,hf⟩:=hcf.at<|Zy hlt
    obtain ⟨rfl,rfl⟩:cf=some ⟨b2,o,none⟩/\cfk=cap2:=by cases e1; exact ⟨rfl,rfl⟩
    have hnx:SmF c.feats[i]->∀ k (hk:k<c.feats.length),k<i+1->SmF c.feats[k]:=λh0 k hk hki=>by
     by_cases h:k=i
     ·subst h; exact h0
     ·exact hal k hk<|by omega
    generalize c.feats[i]=f at hf hnx
    have hfo:=Enc.ones hf
    obtain ⟨x2,x3,fy,x9,x10,x11,x12,x13,x14,rfl,h2,h3,hy,h10,h11,-⟩:=nJ hf
    obtain ⟨a2,k2,rfl,_⟩:=id h2.form
    obtain ⟨a3,k3,rfl,hl3,hm3,_⟩:=id h3.form
    obtain ⟨a10,k10,rfl,_⟩:=id h10.form
    obtain ⟨a11,k11,rfl,_⟩:=id h11.form
    have hft:=uB _ f.ty fy (Nat.le_refl _) hy
    have hcq:=pX h10
    have hce2:=pX h11
    unfold Au tyC at *
    refine cK<|xT<|cS<|cB<|cQ<|sV (vF Z kF Z)<|sV (vY Z yu) ?_
    refine sM Z<|sV (vI (k:=i) Z Z sl41 Z hlt Z)<|sV (af Z oq Z hrd) ?_
    refine ak lS λb8=>?_
    refine ai Z Z jX Z hfo ?_
    refine sK [1,3,7,8] Z<|cS<|cQ<|sV (vF Z rV Z)<|sV (vY Z qU) ?_
    refine sV (aF Z underlying70)<|sV (bW Z Z)<|sM Z<|bf (k:=10) (d:=120) (v:=.bool ((decide ((18:Int)<(f.args.length:Nat))) || (decide ((12:Int)<(f.clients.length:Nat))))) (λhcut=>aG (b:=(decide ((18:Int)<(f.args.length:Nat)))) false (λhg=>?_)<|λhg=>?_) ?_
    ·refine aB Z Z hg ?_
     iterate 3 refine aB rfl rfl hg ?_
     refine sV (vQ (bO Z hg) Z) ?_
     exact hcut _ uG
    ·refine sG Z (bG Z hg) (vF Z J4 Z)<|sG Z (bG Z hg) (vY Z fq) ?_
     refine sG Z (bG Z hg) (aF Z underlying40)<|sG Z (bG Z hg) (bW Z Z)<|sV (vP (bO Z hg) Z) ?_
     exact hcut _ uG
    refine sM Z<|bf (k:=16) (d:=126) (v:=.bool (((decide ((18:Int)<(f.args.length:Nat))) || (decide ((12:Int)<(f.clients.length:Nat)))) || (decide ((12:Int)<(f.req.length:Nat))))) (λhcut=>aG (b:=((decide ((18:Int)<(f.args.length:Nat))) || (decide ((12:Int)<(f.clients.length:Nat))))) false (λhg=>?_)<|λhg=>?_) ?_
    ·refine aB Z Z hg ?_
     iterate 3 refine aB rfl rfl hg ?_
     refine sV (vQ (bO Z hg) Z) ?_
     exact hcut _ uG
    ·refine sG Z (bG Z hg) (vF Z yH Z)<|sG Z (bG Z hg) (vY Z tQ) ?_
     refine sG Z (bG Z hg) (aF Z underlying42)<|sG Z (bG Z hg) (bW Z Z)<|sV (vP (bO Z hg) Z) ?_
     exact hcut _ uG
    refine sM Z<|bf (k:=22) (d:=132) (v:=.bool ((((decide ((18:Int)<(f.args.length:Nat))) || (decide ((12:Int)<(f.clients.length:Nat)))) || (decide ((12:Int)<(f.req.length:Nat)))) || (decide ((12:Int)<(f.ens.length:Nat))))) (λhcut=>aG (b:=(((decide ((18:Int)<(f.args.length:Nat))) || (decide ((12:Int)<(f.clients.length:Nat)))) || (decide ((12:Int)<(f.req.length:Nat))))) false (λhg=>?_)<|λhg=>?_) ?_
    ·refine aB Z Z hg ?_
     iterate 3 refine aB rfl rfl hg ?_
     refine sV (vQ (bO Z hg) Z) ?_
     exact hcut _ uG
    ·refine sG Z (bG Z hg) (vF Z yI Z)<|sG Z (bG Z hg) (vY Z tQ) ?_
     refine sG Z (bG Z hg) (aF Z underlying42)<|sG Z (bG Z hg) (bW Z Z)<|sV (vP (bO Z hg) Z) ?_
     exact hcut _ uG
    refine sM Z ?_
    generalize hA:((((decide ((18:Int)<(f.args.length:Nat))) || (decide ((12:Int)<(f.clients.length:Nat)))) || (decide ((12:Int)<(f.req.length:Nat)))) || (decide ((12:Int)<(f.ens.length:Nat))))=A
    cases A with
    | true =>
     iterate 4 refine aB rfl rfl rfl ?_
     refine sV (vQ Z Z)<|sK [1,3,7,8,138] Z<|aQ Z ?_
     refine cQ<|sA Z<|sK [2] Z<|cT<|xR<|xW<|xR<|xR<|xW<|xR ?_
     exact aj rfl ⟨false,rfl,rfl,λh=>by cases h⟩ sbq
    | false =>
     simp only [Bool.or_eq_false_iff,decide_eq_false_iff_not] at hA
     have hsf:SmF f:=⟨by omega,by omega,by omega,by omega⟩
     refine sG Z Z (vF Z yG Z)<|sG Z Z (af Z fD Z<|bD (k:=4) ag (vs:=[.int .i64 f.ty.kind,sv f.ty.name,fy,.bool f.ty.void,.bool f.ty.sep]) Z) ?_
     refine lI Z Z<|aJ Z Z en61 Z (hft) ?_
     rintro u h' ⟨kk,rfl,rfl⟩
     simp only [lC,lN]
     refine sG Z Z (bW Z Z)<|sV (vP Z Z)<|sK [1,3,7,8,138] Z<|cC Z (λhbig=>?_)<|λhbig=>?_
     ·refine cQ<|sA Z<|sK [2] Z<|cT<|xR<|xW<|xR<|xR<|xW<|xR ?_
      exact aj rfl ⟨false,rfl,rfl,λh=>by cases h⟩ sbq
     ·refine cK<|xT<|cS<|cQ<|sA Z<|sK [1,3,7,8,9] Z<|cB<|aW (σ := Nat) (λj=>[(1,.pointer (some ⟨b1,0,none⟩)),(3,.int .i64 (c.feats.length:Nat)),(7,.int .i64 (i:Nat)),(8,.pointer (some ⟨b8,0,none⟩)),(9,.int .i64 (j:Nat))]) (λ_=>pt b8 (cl [.int .i64 f.kind,sv f.name,.slice a2 f.clients.length k2,.slice a3 f.args.length k3,.int .i64 f.ty.kind,sv f.ty.name,fy,.bool f.ty.void,.bool f.ty.sep,x9,.slice a10 f.req.length k10,.slice a11 f.ens.length k11,x12,x13,x14] 130)::pt b1 (cl [sv c.name,.bool c.dfd,.slice ca c.forms.length fak,.slice cb c.pars.length ck,.slice cea ns.length cek,.slice (some ⟨b2,o,none⟩) c.feats.length cfk,.slice ci c.inv.length cik] 44)::X::hr) (λj=>j≤f.args.length) (λj=>f.args.length - j) 0 (Nat.zero_le _) ?_
      rintro j hj
      try simp only at hj
      try dsimp only
      refine cS<|cQ<|sM Z<|sV (vF Z rV Z)<|sV (vY Z qU) ?_
      refine sV (aF Z underlying70)<|sV (aN Z Z)<|sK [1,3,7,8,9,143] Z<|cC Z (λhd3=>?_)<|λhd3=>?_
      ·have hltj:j<f.args.length:=Zp
       obtain ⟨g2,go,gcap,gus,e2,hgus,hgrd,hta⟩:=h3.at<|Zy hltj
       obtain ⟨rfl,rfl⟩:a3=some ⟨g2,go,none⟩/\k3=gcap:=by cases e2; exact ⟨rfl,rfl⟩
       generalize f.args[j]=a at hta
       obtain ⟨ts,rfl,hts⟩:=hta
       obtain ⟨z,rfl,hz⟩:=ek hts
       have hca:=uB _ a.ty z (Nat.le_refl _) hz
       unfold tyC at hgrd hca
       refine cK<|xT<|cS<|cB<|cQ<|sV (vF Z rV Z)<|sV (vY Z qU) ?_
       refine sM Z<|sV (vI (k:=j) Z Z zH Z hltj Z)<|sV (vF Z jV Z)<|sV (af Z fD Z<|bD (k:=1) hgrd (vs:=[.int .i64 a.ty.kind,sv a.ty.name,z,.bool a.ty.void,.bool a.ty.sep]) Z) ?_
       refine aJ Z Z en61 Z (hca) ?_
       rintro u h' ⟨k9,rfl,rfl⟩
       simp only [lC,lN]
       refine sV (bW Z Z)<|sK [1,3,7,8,9,153] Z<|cC Z (λhbig2=>?_)<|λhbig2=>?_
       ·refine cQ<|sA Z<|sK [2] Z<|cT<|xW<|xR<|xR<|xW<|xR<|xW<|xR<|xR<|xW ?_
        refine xR ?_
        exact aj rfl ⟨false,rfl,rfl,λh=>by cases h⟩ sbq
       ·refine cK<|xB<|xT<|cR<|sM Z<|sV (aI Z Z Z0)<|sA Z<|sN<|nK [1,3,7,8,9] Z<|ax ?_
        refine aM (j+1) hltj (by show f.args.length - (j+1)<f.args.length - j; omega)
      ·refine aC<|xE<|xE<|xY<|xT<|cQ<|sV (vF Z yH Z)<|sV (vY Z tQ) ?_
       refine aJ Z Z en62 Z (hcq) ?_
       rintro u h' ⟨k9,rfl,rfl⟩
       simp only [lC,lN]
       refine sV (bW Z Z)<|sM Z ?_
       generalize hB:decide ((200:Int)<k9)=B
       cases B with
       | true =>
        iterate 4 refine aB rfl rfl rfl ?_
        refine sV (vQ Z Z)<|sK [1,3,7,163] Z<|aQ Z ?_
        refine cQ<|sA Z<|sK [2] Z<|cT<|xW<|xR<|xR<|xW<|xR ?_
        exact aj rfl ⟨false,rfl,rfl,λh=>by cases h⟩ sbq
       | false =>
        refine sG Z Z (vF Z yI Z)<|sG Z Z (vY Z tQ) ?_
        refine lI Z Z<|aJ Z Z en62 Z (hce2) ?_
        rintro u h' ⟨k8,rfl,rfl⟩
        simp only [lC,lN]
        refine sG Z Z (bW Z Z)<|sV (vP Z Z)<|sK [1,3,7,163] Z<|cC Z (λhbig2=>?_)<|λhbig2=>?_
        ·refine cQ<|sA Z<|sK [2] Z<|cT<|xW<|xR<|xR<|xW<|xR ?_
         exact aj rfl ⟨false,rfl,rfl,λh=>by cases h⟩ sbq
        ·refine cK<|xB<|xT<|cR<|sM Z<|sV (aI Z Z Z0)<|sA Z<|sN<|nK [1,3,7] Z<|ax ?_
         refine aM (i+1) ⟨hlt,hnx hsf⟩ (by show c.feats.length - (i+1)<c.feats.length - i; omega)
   ·have hie:i=c.feats.length:=Nat.le_antisymm hi<|Nat.not_lt.1 Zx
    subst hie
    have hfeats:∀ f∈c.feats,SmF f:=λf hf=>by
     obtain ⟨k,hk,rfl⟩:=List.getElem_of_mem hf
     exact hal k hk hk
    have hcq:=pX hci
    refine aC<|xE<|xE<|xY<|xT<|cQ<|sV (vF Z Nr Z)<|sV (vY Z tQ) ?_
    refine aJ Z Z en62 Z (hcq) ?_
    rintro u h' ⟨kk,rfl,rfl⟩
    simp only [lC,lN]
    refine sV (Ca Z Z)<|sA Z<|sK [2] Z<|cT ?_
    exact aj Z ⟨_,Z,Z,λ_=>⟨by omega,by omega,by omega,by omega,hpars,hfeats⟩⟩ sbq
theorem Oo (hl:Cre X v l) (hls:Ls X v l):Ct prog 10 #[v] [X] λu h'=>∃ ok,u = .bool ok/\h'=[X]/\(ok=true->SmL l):=by
 have hml:maxLen=9223372036854775807:=rfl
 obtain ⟨vAq,vK,rfl,hvl,hvm,_⟩:=id hls.form
 refine aL (n:=31) func10 Z Z (len Z) λhr w0=>?_
 refine cQ<|sA Z<|sN<|nT<|cS<|cQ<|sA Z<|sN<|nT<|cB<|aW (σ := Nat) (λi=>[(0,.slice vAq l.length vK),(3,.int .i64 (i:Nat))]) (λ_=>X::hr) (λi=>i≤l.length/\∀ k (hk:k<l.length),k<i->SmC l[k]) (λi=>l.length - i) 0 ⟨Nat.zero_le _,λk _ hk=>absurd hk<|Nat.not_lt_zero _⟩ ?_
 rintro i ⟨hi,hal⟩
 try simp only at hi hal
 try dsimp only
 refine cS<|cQ<|sM Z<|sM Z<|sV (aF Z underlying22)<|sV (aN Z Z)<|sK [0,3,8] Z<|cC Z (λhd=>?_)<|λhd=>?_
 ·have hlt:i<l.length:=Zx
  obtain ⟨b2,o,cap2,us,e1,hrd,hc,hcr⟩:=hl i _<|Zy hlt
  cases e1
  have hnx:SmC l[i]->∀ k (hk:k<l.length),k<i+1->SmC l[k]:=λh0 k hk hki=>by
   by_cases h:k=i
   ·subst h; exact h0
   ·exact hal k hk<|by omega
  generalize l[i]=c at hc hnx
  have hsm:=L6 hc hcr
  obtain ⟨ca,cb,ce,cf,ci,rfl,-⟩:=gD hc
  refine cK<|xT<|cS<|cB<|cQ<|sM Z<|sM Z<|sV (vI (k:=i) Z Z vz Z hlt Z)<|sV (af Z gL Z hrd) ?_
  refine aJ Z Z en15 Z (hsm) ?_
  rintro u h' ⟨ok,rfl,rfl,hok⟩
  simp only [lC,lN]
  refine sA Z<|sK [0,3,4] Z<|cQ<|sM Z<|sV (aZ Z)<|sK [0,3,17] Z ?_
  cases ok with
  | false =>
   refine aQ Z ?_
   refine cQ<|sA Z<|sK [2] Z<|cT<|xW<|xR<|xR<|xW<|xR ?_
   exact aj rfl ⟨false,rfl,rfl,λh=>by cases h⟩ sbq
  | true =>
   refine aH Z ?_
   refine cK<|xB<|xT<|cR<|sM Z<|sV (aI Z Z Z0)<|sA Z<|sN<|nK [0,3] Z<|ax ?_
   refine aM (i+1) ⟨hlt,hnx<|hok Z⟩ (by show l.length - (i+1)<l.length - i; omega)
 ·have hie:i=l.length:=Nat.le_antisymm hi<|Nat.not_lt.1 Zx
  subst hie
  have hcls:∀ c∈l,SmC c:=λc hc=>by
   obtain ⟨k,hk,rfl⟩:=List.getElem_of_mem hc
   exact hal k hk hk
  refine aC<|xE<|xE<|xY<|xT<|cQ<|sM Z<|sV (aF Z underlying22)<|sV (Ca Z Z)<|sM Z<|bf (k:=13) (d:=30) (v:=.bool ((decide (((l.length:Nat):Int)≤10)) || ((decide ((24:Int)<(l.length:Nat))) && (decide (((l.length:Nat):Int)≤30))))) (λhcut=>aG (b:=(decide (((l.length:Nat):Int)≤10))) false (λhg=>?_)<|λhg=>?_) ?_
  ·refine aB Z Z hg ?_
   iterate 3 refine aB rfl rfl hg ?_
   refine bY Z Z ?_
   refine bY Z Z ?_
   refine bY Z Z ?_
   refine aB Z Z hg ?_
   refine sV (vQ (bO Z hg) Z) ?_
   exact hcut _ uG
  ·refine sG Z (bG Z hg) (vM Z)<|sG Z (bG Z hg) (aF Z underlying22)<|sG Z (bG Z hg) (bW Z Z)<|sG Z (bG Z hg) (vM Z)<|bf (k:=12) (d:=29) (v:=.bool ((decide ((24:Int)<(l.length:Nat))) && (decide (((l.length:Nat):Int)≤30)))) (λhcut=>aG (b:=(decide ((24:Int)<(l.length:Nat)))) true (λhg1=>?_)<|λhg1=>?_) ?_
   ·refine aB Z Z hg1 ?_
    iterate 2 refine aB rfl rfl hg1 ?_
    refine sG Z (bG Z hg) (vP (bO Z hg1) Z) ?_
    exact hcut _<|uH (by first | rfl | (rw [hg1]; rfl) | simp_all)<|uS Z<|uS Z<|uS Z<|uR
   ·refine sG Z (bG Z hg1) (vM Z)<|sG Z (bG Z hg1) (aF Z underlying22)<|sG Z (bG Z hg1) (Ca Z Z)<|sG Z (bG Z hg) (vQ (bO Z hg1) Z) ?_
    exact hcut _<|uH (by first | rfl | (rw [hg1]; rfl) | simp_all)<|uS Z<|uS Z<|uS Z<|uR
   refine sV (vP (bO Z hg) Z) ?_
   exact hcut _<|uH (by first | rfl | (rw [hg]; rfl) | simp_all) (by repeat (first | exact uR | refine uS Z ?_))
  refine sA Z<|sK [2] Z<|cT ?_
  exact aj Z ⟨_,Z,Z,λh=>⟨by simp only [Bool.or_eq_true,Bool.and_eq_true,decide_eq_true_eq] at h; omega,hcls⟩⟩ sbq
end
end Go.Fl
namespace Go.Fl
open Go Go.RowKit Go.Ck Go.Proofs Go.Proofs.Tryz Go.Proofs.YtknmacdbffgjgaaGreatDoor Fx Go.Hr
theorem rO {α : Type} [DecidableEq α] {xs ys:List α} {i:Nat} {x y : α} (hg:xs[i]? = some x) (hg':ys[i]? = some y) (h:x≠y):decide (xs=ys)=false:=by
 apply decide_eq_false
 rintro rfl
 rw [hg] at hg'
 exact h<|Option.some.inj hg'
theorem wY {α : Type} [DecidableEq α] {xs ys:List α} (h:xs.length≠ys.length):decide (xs=ys)=false:=by
 apply decide_eq_false
 rintro rfl
 exact h Z
theorem eH {α : Type} {xs ys:List α} {i:Nat} {x y : α} (h:xs.take i=ys.take i) (hg:xs[i]? = some x) (hg':ys[i]? = some y) (e:x=y):xs.take (i+1)=ys.take (i+1):=by
 rw [List.take_add_one,List.take_add_one,h,hg,hg',e]
theorem take_eq_all {α : Type} [DecidableEq α] {xs ys:List α} (hl:xs.length=ys.length) (h:xs.take xs.length=ys.take xs.length):decide (xs=ys)=true:=by
 rw [List.take_length] at h
 apply decide_eq_true
 rw [h,hl,List.take_length]
attribute [local irreducible] Go.Ck.Sub St Cd Xt Nx DrL LsW
section
variable {X:Res} {v v':Value}
theorem KD {xs ys:List Nm} (hx:Ls X v xs) (hy:Ls X v' ys):Reads prog 51 #[v,v'] [X] (.bool (decide (xs=ys))):=by
 have hml:maxLen=9223372036854775807:=rfl
 obtain ⟨xa,xc,rfl,hlc,hcm,_⟩:=id hx.form
 obtain ⟨ya,yc,rfl,hlc',hcm',_⟩:=id hy.form
 refine aL (n:=26) func51 Z Z (len Z) λhr w0=>?_
 refine cQ<|sA Z<|sN<|nT<|cS<|cQ<|sM Z<|sV (aF Z underlying40)<|sM Z<|sV (aF Z underlying40)<|sV (bK Z Z)<|sK [0,1,4,10] Z<|cC Z (λhq=>?_)<|λhq=>?_
 ·rw [wY (show xs.length≠ys.length from λh=>by rw [h] at hq; simp at hq)]
  refine cQ<|sA Z<|sK [4] Z<|cT<|xR ?_
  exact aj Z ⟨Z,Z⟩ sbq
 ·have hl:xs.length=ys.length:=by
   have hq:((xs.length:Nat):Int)=(ys.length:Nat):=Zu
   omega
  refine cK<|xT<|cS<|cQ<|sA Z<|sK [0,1,4,5] Z<|cB<|aW (σ := Nat) (λi=>[(0,.slice xa xs.length xc),(1,.slice ya ys.length yc),(5,.int .i64 (i:Nat))]) (λ_=>X::hr) (λi=>i≤xs.length/\xs.take i=ys.take i) (λi=>xs.length - i) 0 ⟨Nat.zero_le _,Z⟩ ?_
  rintro i ⟨hi,hal⟩
  refine cS<|cQ<|sM Z<|sM Z<|sV (aF Z underlying40)<|sV (aN Z Z)<|sK [0,1,5,14] Z<|cC Z (λhd=>?_)<|λhd=>?_
  ·have hlt:i<xs.length:=Zx
   have hlt':i<ys.length:=by omega
   have hg:=Zy hlt
   have hg':=Zy hlt'
   obtain ⟨b,o,cap2,us,e1,hus,hrd,hta⟩:=hx.at hg
   cases e1
   obtain ⟨b',o',cap2',us',e1,hus',hrd',htb⟩:=hy.at hg'
   cases e1
   generalize xs[i]=x at hg hta
   generalize ys[i]=y at hg' htb
   obtain rfl:us=[sv x]:=hta
   obtain rfl:us'=[sv y]:=htb
   refine cK<|xT<|cS<|cB<|cS<|bB (ork [(0,2),(1,2),(2,2),(3,1),(4,2),(5,2),(6,2),(7,1),(8,1)] .nil) (λ_=>true) mixed Zz ?_
   refine dV Z (vM Z)<|dV Z (vM Z)<|dV Z (vI (k:=i) Z Z iZ Z hlt Z)<|bi Z (vY Z ld9 (ha:=⟨X,_,slq,hrd 0<|by simp⟩)) ?_
   refine dV Z (vM Z)<|dV Z (vM Z)<|dV Z (vI (k:=i) Z Z iZ Z hlt' Z)<|bi Z (vY Z ld9 (ha:=⟨X,_,slq,hrd' 0<|by simp⟩)) ?_
   refine bi Z (oV Z Z)<|bA<|nK [0,1,5,25] Z<|nT<|cC Z (λhne=>?_)<|λhne=>?_
   ·have hne:x≠y:=Zv
    rw [rO hg hg' hne]
    refine cQ<|sA Z<|sK [4] Z<|cT<|xW<|xR<|xR<|xW<|xR ?_
    exact aj Z ⟨Z,Z⟩ sbq
   ·have hne:x=y:=Zv
    refine cK<|xB<|xT<|cR<|sM Z<|sV (aI Z Z Z0)<|sA Z<|sN<|nK [0,1,5] Z<|ax ?_
    refine aM (i+1) ⟨hlt,eH hal hg hg' hne⟩ (by show xs.length - (i+1)<xs.length - i; omega)
  ·have hie:i=xs.length:=Nat.le_antisymm hi<|Nat.not_lt.1 Zx
   subst hie
   rw [take_eq_all hl hal]
   refine aC<|xE<|xE<|xY<|xT<|cQ<|sA Z<|sK [4] Z<|cT ?_
   exact aj Z ⟨Z,Z⟩ sbq
theorem Oq {xs ys:List Sd} (hx:Ls X v xs) (hy:Ls X v' ys):Reads prog 108 #[v,v'] [X] (.bool (decide (xs=ys))):=by
 have hml:maxLen=9223372036854775807:=rfl
 obtain ⟨xa,xc,rfl,hlc,hcm,_⟩:=id hx.form
 obtain ⟨ya,yc,rfl,hlc',hcm',_⟩:=id hy.form
 refine aL (n:=26) func108 Z Z (len Z) λhr w0=>?_
 refine cQ<|sA Z<|sN<|nT<|cS<|cQ<|sM Z<|sV (aF Z underlying67)<|sM Z<|sV (aF Z underlying67)<|sV (bK Z Z)<|sK [0,1,4,10] Z<|cC Z (λhq=>?_)<|λhq=>?_
 ·rw [wY (show xs.length≠ys.length from λh=>by rw [h] at hq; simp at hq)]
  refine cQ<|sA Z<|sK [4] Z<|cT<|xR ?_
  exact aj Z ⟨Z,Z⟩ sbq
 ·have hl:xs.length=ys.length:=by
   have hq:((xs.length:Nat):Int)=(ys.length:Nat):=Zu
   omega
  refine cK<|xT<|cS<|cQ<|sA Z<|sK [0,1,4,5] Z<|cB<|aW (σ := Nat) (λi=>[(0,.slice xa xs.length xc),(1,.slice ya ys.length yc),(5,.int .i64 (i:Nat))]) (λ_=>X::hr) (λi=>i≤xs.length/\xs.take i=ys.take i) (λi=>xs.length - i) 0 ⟨Nat.zero_le _,Z⟩ ?_
  rintro i ⟨hi,hal⟩
  refine cS<|cQ<|sM Z<|sM Z<|sV (aF Z underlying67)<|sV (aN Z Z)<|sK [0,1,5,14] Z<|cC Z (λhd=>?_)<|λhd=>?_
  ·have hlt:i<xs.length:=Zx
   have hlt':i<ys.length:=by omega
   have hg:=Zy hlt
   have hg':=Zy hlt'
   obtain ⟨b,o,cap2,us,e1,hus,hrd,hta⟩:=hx.at hg
   cases e1
   obtain ⟨b',o',cap2',us',e1,hus',hrd',htb⟩:=hy.at hg'
   cases e1
   generalize xs[i]=x at hg hta
   generalize ys[i]=y at hg' htb
   obtain rfl:us=[sv x.cls,sv x.name]:=hta
   obtain rfl:us'=[sv y.cls,sv y.name]:=htb
   refine cK<|xT<|cS<|cB<|cS<|bB (ork [(0,2),(1,2),(2,2),(3,1),(4,2),(5,2),(6,2),(7,1),(8,1)] .nil) (λ_=>true) mixed Zz ?_
   refine dV Z (vM Z)<|dV Z (vM Z)<|dV Z (vI (k:=i) Z Z oh Z hlt Z)<|bi Z (af Z gM Z hrd) ?_
   refine dV Z (vM Z)<|dV Z (vM Z)<|dV Z (vI (k:=i) Z Z oh Z hlt' Z)<|bi Z (af Z gM Z hrd') ?_
   refine bi Z (wQ tu Z Z)<|bA<|nK [0,1,5,25] Z<|nT<|cC Z (λhne=>?_)<|λhne=>?_
   ·have hne:x≠y:=by intro h; subst h; simp at hne
    rw [rO hg hg' hne]
    refine cQ<|sA Z<|sK [4] Z<|cT<|xW<|xR<|xR<|xW<|xR ?_
    exact aj Z ⟨Z,Z⟩ sbq
   ·have hne:x=y:=by (obtain ⟨a1,a2⟩:=x; obtain ⟨b1,b2⟩:=y; simpa using hne)
    refine cK<|xB<|xT<|cR<|sM Z<|sV (aI Z Z Z0)<|sA Z<|sN<|nK [0,1,5] Z<|ax ?_
    refine aM (i+1) ⟨hlt,eH hal hg hg' hne⟩ (by show xs.length - (i+1)<xs.length - i; omega)
  ·have hie:i=xs.length:=Nat.le_antisymm hi<|Nat.not_lt.1 Zx
   subst hie
   rw [take_eq_all hl hal]
   refine aC<|xE<|xE<|xY<|xT<|cQ<|sA Z<|sK [4] Z<|cT ?_
   exact aj Z ⟨Z,Z⟩ sbq
theorem KE : ∀ (d : Nat) (s t : Kt) (us us' : List Value), s.depth ≤ d -> Ty X us s -> Ty X us' t -> Reads prog 40 #[.agg us.toArray, .agg us'.toArray] [X] (.bool (decide (s = t)))
 | 0,s,_,_,_,hd,_,_=>by cases s; simp [Kt.depth] at hd
 | d + 1, s, t, us, us', hd, hs, ht => by
  have hml:maxLen=9223372036854775807:=rfl
  obtain ⟨x,rfl,hx⟩:=ek hs
  obtain ⟨y,rfl,hy⟩:=ek ht
  have hF:∀ (a b:Kt) us us',a∈s.args->Ty X us a->Ty X us' b->Reads prog 40 #[.agg us.toArray,.agg us'.toArray] [X] (.bool<|decide (a=b)):=λa b us us' ha h1 h2=>KE d a b us us' (by have:=jM ha; omega) h1 h2
  rw [CU]
  obtain ⟨xa,xc,rfl,hlc,hcm,_⟩:=hx.form
  obtain ⟨ya,yc,rfl,hlc',hcm',_⟩:=hy.form
  unfold tyC
  refine aL (n:=62) func40 Z Z (len Z) λhr w0=>?_
  refine cQ (aP Z Z λb2=>?_)
  refine aP Z Z λb3=>?_
  refine sA Z<|sK [2,3,4] Z<|cS<|cQ<|sV (vF Z qY Z)<|sV (vY Z ld3) ?_
  refine sV (vF Z qY Z)<|sV (vY Z ld3) ?_
  refine sV (bK Z Z)<|sM Z<|bf (k:=12) (d:=18) (v:=.bool ((s.kind != t.kind) || !(s.name == t.name))) (λhcut=>aG (b:=(s.kind != t.kind)) false (λhg=>?_)<|λhg=>?_) ?_
  ·refine aB Z Z hg ?_
   iterate 4 refine aB rfl rfl hg ?_
   refine sV (vQ (bO Z hg) Z) ?_
   exact hcut _ uG
  ·refine sG Z (bG Z hg) (vF Z zJ Z)<|sG Z (bG Z hg) (vY Z ld9) ?_
   refine sG Z (bG Z hg) (vF Z zJ Z)<|sG Z (bG Z hg) (vY Z ld9) ?_
   refine sG Z (bG Z hg) (oV Z Z)<|sV (vP (bO Z hg) Z) ?_
   exact hcut _ uG
  refine sM Z<|bf (k:=19) (d:=25) (v:=.bool (((s.kind != t.kind) || !(s.name == t.name)) || (s.void != t.void))) (λhcut=>aG (b:=((s.kind != t.kind) || !(s.name == t.name))) false (λhg=>?_)<|λhg=>?_) ?_
  ·refine aB Z Z hg ?_
   iterate 4 refine aB rfl rfl hg ?_
   refine sV (vQ (bO Z hg) Z) ?_
   exact hcut _ uG
  ·refine sG Z (bG Z hg) (vF Z o5 Z)<|sG Z (bG Z hg) (vY Z ld4) ?_
   refine sG Z (bG Z hg) (vF Z o5 Z)<|sG Z (bG Z hg) (vY Z ld4) ?_
   refine sG Z (bG Z hg) (tJ underlying4 Z Z)<|sV (vP (bO Z hg) Z) ?_
   exact hcut _ uG
  refine sM Z<|bf (k:=26) (d:=32) (v:=.bool ((((s.kind != t.kind) || !(s.name == t.name)) || (s.void != t.void)) || (s.sep != t.sep))) (λhcut=>aG (b:=(((s.kind != t.kind) || !(s.name == t.name)) || (s.void != t.void))) false (λhg=>?_)<|λhg=>?_) ?_
  ·refine aB Z Z hg ?_
   iterate 4 refine aB rfl rfl hg ?_
   refine sV (vQ (bO Z hg) Z) ?_
   exact hcut _ uG
  ·refine sG Z (bG Z hg) (vF Z o6 Z)<|sG Z (bG Z hg) (vY Z ld4) ?_
   refine sG Z (bG Z hg) (vF Z o6 Z)<|sG Z (bG Z hg) (vY Z ld4) ?_
   refine sG Z (bG Z hg) (tJ underlying4 Z Z)<|sV (vP (bO Z hg) Z) ?_
   exact hcut _ uG
  refine sM Z<|bf (k:=35) (d:=41) (v:=.bool (((((s.kind != t.kind) || !(s.name == t.name)) || (s.void != t.void)) || (s.sep != t.sep)) || (((s.args.length:Nat):Int) != (t.args.length:Nat)))) (λhcut=>aG (b:=((((s.kind != t.kind) || !(s.name == t.name)) || (s.void != t.void)) || (s.sep != t.sep))) false (λhg=>?_)<|λhg=>?_) ?_
  ·refine aB Z Z hg ?_
   iterate 6 refine aB rfl rfl hg ?_
   refine sV (vQ (bO Z hg) Z) ?_
   exact hcut _ uG
  ·refine sG Z (bG Z hg) (vF Z ja Z)<|sG Z (bG Z hg) (vY Z oZ) ?_
   refine sG Z (bG Z hg) (aF Z underlying71)<|sG Z (bG Z hg) (vF Z ja Z)<|sG Z (bG Z hg) (vY Z oZ) ?_
   refine sG Z (bG Z hg) (aF Z underlying71)<|sG Z (bG Z hg) (bK Z Z)<|sV (vP (bO Z hg) Z) ?_
   exact hcut _ uG
  refine sK [2,3,4,41] Z<|cC Z (λhq=>?_)<|λhq=>?_
  ·rw [show ((((s.kind == t.kind && s.name == t.name) && s.void == t.void) && s.sep == t.sep) && decide (s.args=t.args))=false by
    cases hw:((((s.kind == t.kind && s.name == t.name) && s.void == t.void) && s.sep == t.sep) && decide (s.args=t.args)) with
    | false=>rfl
    | true =>
     simp only [Bool.and_eq_true,beq_iff_eq,decide_eq_true_eq] at hw
     obtain ⟨⟨⟨⟨w1,w2⟩,w3⟩,w4⟩,w5⟩:=hw
     rw [w5] at hq
     simp [w1,w2,w3,w4] at hq]
   refine cQ<|sA Z<|sK [4] Z<|cT<|xR ?_
   exact aj Z ⟨Z,Z⟩ sbq
  ·have hq:(((((s.kind != t.kind) || !(s.name == t.name)) || (s.void != t.void)) || (s.sep != t.sep)) || (((s.args.length:Nat):Int) != (t.args.length:Nat)))=false:=hq
   simp only [Bool.or_eq_false_iff,bne_eq_false_iff_eq,Bool.not_eq_false',beq_iff_eq] at hq
   obtain ⟨⟨⟨⟨q1,q2⟩,q3⟩,q4⟩,q5⟩:=hq
   have hl:s.args.length=t.args.length:=by omega
   rw [show ((((s.kind == t.kind && s.name == t.name) && s.void == t.void) && s.sep == t.sep) && decide (s.args=t.args))=decide (s.args=t.args) by simp [q1,q2,q3,q4]]
   refine cK<|xT<|cS<|cQ<|sA Z<|sK [2,3,4,5] Z<|cB<|aW (σ := Nat) (λi=>[(2,.pointer (some ⟨b2,0,none⟩)),(3,.pointer (some ⟨b3,0,none⟩)),(5,.int .i64 (i:Nat))]) (λ_=>pt b2 (cl [.int .i64 s.kind,sv s.name,.slice xa s.args.length xc,.bool s.void,.bool s.sep] 73)::pt b3 (cl [.int .i64 t.kind,sv t.name,.slice ya t.args.length yc,.bool t.void,.bool t.sep] 73)::X::hr) (λi=>i≤s.args.length/\s.args.take i=t.args.take i) (λi=>s.args.length - i) 0 ⟨Nat.zero_le _,Z⟩ ?_
   rintro i ⟨hi,hal⟩
   refine cS<|cQ<|sM Z<|sV (vF Z ja Z)<|sV (vY Z oZ) ?_
   refine sV (aF Z underlying71)<|sV (aN Z Z)<|sK [2,3,5,46] Z<|cC Z (λhd=>?_)<|λhd=>?_
   ·have hlt:i<s.args.length:=Zx
    have hlt':i<t.args.length:=by omega
    have hg:=Zy hlt
    have hg':=Zy hlt'
    have hmem:=List.getElem_mem hlt
    obtain ⟨b,o,cap2,us,e1,hus,hrd,hta⟩:=hx.at hg
    cases e1
    obtain ⟨b',o',cap2',us',e1,hus',hrd',htb⟩:=hy.at hg'
    cases e1
    generalize s.args[i]=x at hg hmem hta
    generalize t.args[i]=y at hg' htb
    refine cK<|xT<|cS<|cB<|cS<|bB (ork [(0,2),(1,1),(2,2),(3,2),(4,1),(5,2),(6,1),(7,2),(8,2),(9,1),(10,1),(11,2)] .nil) (λ_=>true) mixed Zz ?_
    refine dV Z (vF Z ja Z)<|bi Z (vY Z oZ) ?_
    refine dV Z (vM Z)<|dV Z (vI (k:=i) Z Z yt Z hlt Z)<|bi Z (af Z fD hus hrd) ?_
    refine dV Z (vF Z ja Z)<|bi Z (vY Z oZ) ?_
    refine dV Z (vM Z)<|dV Z (vI (k:=i) Z Z yt Z hlt' Z)<|bi Z (af Z fD hus' hrd') ?_
    refine gY Z Z Z en40 Z ((hF x y us us' hmem hta htb)) ?_
    refine dV Z (vA Z)<|bA<|nK [2,3,5,6] Z<|nT<|cQ<|sM Z<|sV (aZ Z)<|sK [2,3,5,61] Z<|cC Z (λhne=>?_)<|λhne=>?_
    ·have hne:x≠y:=Zv
     rw [rO hg hg' hne]
     refine cQ<|sA Z<|sK [4] Z<|cT<|xW<|xR<|xR<|xW<|xR ?_
     exact aj Z ⟨Z,Z⟩ sbq
    ·have hne:x=y:=Zv
     refine cK<|xB<|xT<|cR<|sM Z<|sV (aI Z Z Z0)<|sA Z<|sN<|nK [2,3,5] Z<|ax ?_
     refine aM (i+1) ⟨hlt,eH hal hg hg' hne⟩ (by show s.args.length - (i+1)<s.args.length - i; omega)
   ·have hie:i=s.args.length:=Nat.le_antisymm hi<|Nat.not_lt.1 Zx
    subst hie
    rw [take_eq_all hl hal]
    refine aC<|xE<|xE<|xY<|xT<|cQ<|sA Z<|sK [4] Z<|cT ?_
    exact aj Z ⟨Z,Z⟩ sbq
theorem IZ {s t:Kt} {us us':List Value} (hs:Ty X us s) (ht:Ty X us' t):Reads prog 40 #[.agg us.toArray,.agg us'.toArray] [X] (.bool (decide (s=t))):=KE _ s t us us' (Nat.le_refl _) hs ht
end
end Go.Fl
