/-
  The parents the other way round: members and conflicts. The law of FlatTurned. No program in sight.
-/
import Derived.Test.YtknmacdbffgjgaaGreatDoorP3
import Derived.Test.YtknmacdbffgjgaaGreatDoorP1
import Derived.Shelf.Lays
import Derived.Shelf.Sort.Plain
import Derived.Shelf.Slices.In.SortNone
import Derived.RangeFuncNested
import Derived.Test.YtknmacdbffgjgaaGreatDoorP2
import Derived.JoinedCond
import Derived.SizedLaws
set_option linter.unusedVariables false
set_option linter.unusedSimpArgs false
set_option maxRecDepth 100000
set_option maxHeartbeats 16000000
namespace Go.Hr
open Go Go.Ck Go.Proofs Go.Proofs.YtknmacdbffgjgaaGreatDoor Fx
attribute [local irreducible] Go.Ck.Sub St Cd Xt Nx DrL LsW
def rightB (l:Sys):Bool:=((check l).1 == 0) && decide (0<(l.length:Int))
section
variable {S:Res} {v:Value} {l:Sys}
end
end Go.Hr
namespace Go.Hr
open Go Go.Ck Go.Proofs Go.Proofs.Tryz Go.Proofs.YtknmacdbffgjgaaGreatDoor Fx
attribute [local irreducible] Go.Ck.Sub St Cd Xt Nx DrL LsW
def dW (l:Sys) (ns:List Nm):Int:=if (check l).1=0 then (if ns.all (isC l) then 0 else 5) else (check l).1
theorem fu {l:Sys} {ns:List Nm}:dW l ns=0↔Right l/\∀ n∈ns,isC l n=true:=by
 unfold dW
 rw [<- pI,<- List.all_eq_true]
 by_cases h:(check l).1=0
 .rw [if_pos h]
  by_cases h2:ns.all (isC l)=true
  .simp [h,h2]
  .rw [if_neg h2]; simp [h,h2]
 .rw [if_neg h]; simp [h]
theorem N9 {f:Nm->Bool} {ns:List Nm} {i:Nat} (hi:i<ns.length) (h:∀ x∈ns.take i,f x=true) (h2:f ns[i]=true):∀ x∈ns.take (i+1),f x=true:=λx hx=>by
 rw [List.take_succ_eq_append_getElem hi] at hx
 rcases List.mem_append.1 hx with hx | hx
 .exact h x hx
 .simp at hx; rw [hx]; exact h2
def gr0:Value:=.agg #[.slice none 0 0,.map none]
section
variable {S N:Res} {v nv:Value} {l:Sys} {ns:List Nm}
theorem Aq (hv:mQ S v l) (hn:wW N nv ns) (hnl:ns.length<=1099511627776):Ct prog 91 #[v,nv] [S,N] λu h'=>(dW l ns≠0/\u = .tuple #[gr0,.int .i64 (dW l ns)]/\h'=[S,N])\/(dW l ns=0/\∃ mb,u = .tuple #[.agg #[v,.map (some mb)],.int .i64 0]/\h'=[mps mb (bN l),S,N]):=by
 obtain ⟨a,cap,rfl,_⟩:=id hv
 obtain ⟨na,ncap,rfl,_⟩:=id hn
 refine aJ (n:=42) func91 Z Z (len Z) λhr w0=>?_
 refine cQ (au tL λb4=>?_)
 refine sA Z<|sN<|nT<|cS<|cQ<|sM Z<|aH Z Z en63 Z (Gt hv) ?_
 rintro u h' ⟨rfl,rfl⟩
 simp only [lC,lN]
 refine sM Z<|sV (ah Z Z)<|sV (ah Z Z)<|sA Z<|sA Z<|sK [0,1,4,5,6] Z<|cQ<|sM Z<|sV (bT Z Z)<|sK [0,1,4,5,6,19] Z<|cC Z (λhc=>?_)<|λhc=>?_
 .have hc:¬ (check l).1=0:=Zm
  have he:dW l ns=(check l).1:=by unfold dW; rw [if_neg hc]
  rw [he]
  refine cQ<|sV (aP (cells:=[.slice none 0 0,.map none]) Z<|λ_=>Zz) ?_
  refine sM Z<|ai Z Z oL Z Z ?_
  refine sA Z<|sK [4,5] Z<|cT<|xR ?_
  exact bM (.cellN Z ll Z slq<|.tmp Z .nil) (.inl ⟨hc,Z,Z⟩) sbr
 .have hc:(check l).1=0:=Zm
  have hR:=pI.1 hc
  refine cK<|xT<|cQ<|sM Z ?_
  have hFl:=hR.len
  refine aH Z Z en166 Z (of_ct hv<|by omega) ?_
  rintro u h' ⟨mb,rfl,rfl⟩
  simp only [lC,lN]
  refine au tL λb8=>?_
  refine ai Z Z oL Z Z ?_
  refine sK [1,4,5,8] Z<|cS<|cQ<|sM Z<|sV (aC Z underlying40)<|sM Z<|sK [4,5,8,24,25,26] Z<|cB<|aY (σ := Nat) (λi=>[(4,.pointer (some ⟨b4,0,none⟩)),(8,.pointer (some ⟨b8,0,none⟩)),(24,.slice na ns.length ncap),(25,.int .i64 ns.length),(26,.int .i64 (i:Nat))]) (λ_=>pt b4 (cl [.slice none 0 0,.map none] 164)::pt b8 (cl [.slice a l.length cap,.map (some mb)] 164)::mps mb (bN l)::S::N::hr) (λi=>i<=ns.length/\∀ x∈ns.take i,isC l x=true) (λi=>ns.length - i) 0 ⟨Nat.zero_le _,λx hx=>by simp at hx⟩ ?_
  rintro i ⟨hi,hal⟩
  refine cQ<|sV (aO Z Z)<|sN<|nT<|cS<|cC Z (λhd=>?_)<|λhd=>?_
  .have hlt:i<ns.length:=Zx
   obtain ⟨b,o,cap2,hv2,hrd⟩:=um hn<|Zy hlt
   refine cK<|xT<|cS<|cB<|cQ<|sV (vI (k:=i) (congrArg some hv2) Z jG Z hlt Z)<|sV (vY Z ld9) ?_
   refine sA Z<|sK [4,8,10,24,25,26] Z<|cQ<|sV (vF Z EF Z)<|sV (vY Z lh) ?_
   refine sM Z<|sV (d9 Z Z gW oN slq) ?_
   refine sM Z<|sV (ah Z Z)<|sV (ah Z Z)<|sA Z<|sA Z<|sK [4,8,12,24,25,26] Z<|cQ<|sM Z<|sV (bg Z)<|sK [4,8,24,25,26,38] Z ?_
   rw [rR]
   refine cC Z (λhno=>?_)<|λhno=>?_
   .have hno:isC l ns[i]=false:=Zd
    have he:dW l ns=5:=by
     unfold dW
     rw [if_pos hc,if_neg (by rw [List.all_eq_true]; intro h; rw [h _ (List.getElem_mem hlt)] at hno; cases hno)]
    rw [he]
    refine cQ<|sV (aP (cells:=[.slice none 0 0,.map none]) Z<|λ_=>Zz) ?_
    refine ai Z Z oL Z Z ?_
    refine sA Z<|sK [4,5] Z<|cT<|xW<|xR<|xR<|xW<|xR ?_
    exact bM (.cellN Z ll Z slq<|.tmp Z .nil) (.inl ⟨by decide,Z,Z⟩) sbr
   .have hno:isC l ns[i]=true:=Zd
    refine cK<|xB<|xT<|cR<|sV (aI Z Z Z0)<|sM Z<|sN<|nK [4,8,24,25,26] Z<|ax ?_
    refine aL (i+1) ⟨hlt,N9 hlt hal hno⟩ (by show _ - _<_ - _; omega)
  .have hil:i=ns.length:=by
    have:¬ i<ns.length:=Zx
    omega
   subst hil
   rw [List.take_length] at hal
   have he:dW l ns=0:=fu.2 ⟨hR,hal⟩
   refine aB<|xE<|xE<|xY<|xT<|cQ<|sV (af Z ll Z ag) ?_
   refine ai Z Z oL Z Z ?_
   refine sA Z<|sK [4,5] Z<|cT ?_
   exact bM (.cellN Z ll Z slq<|.tmp Z .nil) (.inr ⟨he,mb,Z,Z⟩) sbr
end
def okL {α : Type} (e:Int) (xs:List α):List α := if e=0 then xs else []
theorem Oa {α : Type} {e:Int} {xs:List α} (h:e≠0):okL e xs=[]:=if_neg h
theorem Ob {α : Type} {e:Int} {xs:List α} (h:e=0):okL e xs=xs:=if_pos h
theorem ER {e:Int} (h:e≠0):(e != 0)=true:=Zp
section
variable {S N:Res} {v nv:Value} {l:Sys} {ns:List Nm}
theorem Gu (hv:mQ S v l) (c:Nm):CtN prog 41 #[v,sv c] [S] λu T=>∃ w,u = .tuple #[w,.int .i64 (dW l [c])]/\w.oneCell'=true/\T=NR w (okL (dW l [c]) (above l c)):=by
 obtain ⟨a,cap,rfl,_⟩:=id hv
 refine aJ (n:=21) func41 Z Z (len Z) λhr w0=>?_
 refine cQ<|sA Z<|sA Z<|sN<|nT<|cQ<|sM Z<|sM Z (ak (cells:=[sv c]) Z underlying40 gp Z Z Zz (ltn Z) λb11=>?_)
 refine Aj (Ak (b:=b11) (n:=1) (sz:=1) (E:=9) [nC c] Z (by simp [nC]) Z<|by decide) ?_
 simp only [lC,lN]
 refine ni (r:=NR (.slice (some ⟨b11,0,none⟩) 1 1) [c]) slq λhok=>?_
 refine aH Z Z en91 Z (Aq hv (iX hok)<|by simp) ?_
 rintro u h' (⟨he,rfl,rfl⟩ | ⟨he,mb,rfl,rfl⟩)
 .simp only [lC,lN]
  unfold gr0
  refine sM Z<|sV (ah Z Z)<|sV (ah Z Z) (au tL λb6=>?_)
  refine ai Z Z oL Z Z ?_
  refine sA Z<|sK [1,4,5,6,7] Z<|cS<|cQ<|sM Z<|sV (bT Z Z)<|sK [1,4,5,6,7,16] Z ?_
  rw [ER he]
  refine aQ Z ?_
  refine cQ<|sM Z<|sA Z<|sA Z<|sK [4,5] Z<|cT<|xR ?_
  rw [Oa he]
  refine jq (dn 9 1) ?_
  exact aj Z ⟨NR (.slice none 0 0) [],Z,_,Z,Z,Z⟩ sbq
 .obtain ⟨hR,hm⟩:=fu.1 he
  rw [he,Ob rfl]
  simp only [lC,lN]
  refine sM Z<|sV (ah Z Z)<|sV (ah Z Z) (au tL λb6=>?_)
  refine ai Z Z oL Z Z ?_
  refine sA Z<|sK [1,4,5,6,7] Z<|cS<|cQ<|sM Z<|sV (bT Z Z)<|sK [1,4,5,6,7,16] Z<|aG Z ?_
  refine cK<|xT<|cQ<|sV (af Z ll Z ag) ?_
  refine sM Z<|aH Z Z en103 Z (Gp hv hR.fine hR.acyc<|hm c<|by simp) ?_
  rintro u h' ⟨hu,rfl⟩
  simp only [lC,lN]
  refine sA Z<|sA Z<|sK [4,5] Z<|cT ?_
  exact aj Z ⟨_,Z,_,Z,hu,Z⟩ sbq
theorem Is_ct (hv:mQ S v l) (c x:Nm):Ct prog 27 #[v,sv c,sv x] [S] λu h'=>u = .tuple #[.bool (decide (dW l [c,x]=0) && has l c x),.int .i64 (dW l [c,x])]/\h'=[S]:=by
 obtain ⟨a,cap,rfl,_⟩:=id hv
 refine aJ (n:=25) func27 Z Z (len Z) λhr w0=>?_
 refine cQ<|sA Z<|sA Z<|sN<|nT<|cQ<|sM Z<|sM Z<|sM Z (ak (cells:=[sv c,sv x]) Z underlying40 gp Z Z Zz (ltn Z) λb14=>?_)
 refine Aj (Ak (b:=b14) (n:=2) (sz:=1) (E:=9) [nC c,nC x] Z (by simp [nC]) Z<|by decide) ?_
 simp only [lC,lN]
 refine ni (r:=NR (.slice (some ⟨b14,0,none⟩) 2 2) [c,x]) slq λhok=>?_
 refine aH Z Z en91 Z (Aq hv (iX hok)<|by simp) ?_
 rintro u h' (⟨he,rfl,rfl⟩ | ⟨he,mb,rfl,rfl⟩)
 .simp only [lC,lN]
  unfold gr0
  refine sM Z<|sV (ah Z Z)<|sV (ah Z Z) (au tL λb8=>?_)
  refine ai Z Z oL Z Z ?_
  refine sA Z<|sK [1,2,6,7,8,9] Z<|cS<|cQ<|sM Z<|sV (bT Z Z)<|sK [1,2,6,7,8,9,19] Z ?_
  rw [ER he]
  refine aQ Z ?_
  refine cQ<|sM Z<|sA Z<|sA Z<|sK [6,7] Z<|cT<|xR ?_
  rw [show (decide (dW l [c,x]=0))=false from decide_eq_false he,Bool.false_and]
  exact aj Z ⟨Z,Z⟩ sbq
 .obtain ⟨hR,hm⟩:=fu.1 he
  rw [he]
  simp only [lC,lN]
  refine sM Z<|sV (ah Z Z)<|sV (ah Z Z) (au tL λb8=>?_)
  refine ai Z Z oL Z Z ?_
  refine sA Z<|sK [1,2,6,7,8,9] Z<|cS<|cQ<|sM Z<|sV (bT Z Z)<|sK [1,2,6,7,8,9,19] Z<|aG Z ?_
  refine cK<|xT<|cQ<|sV (af Z ll Z ag) ?_
  refine sM Z<|sM Z<|aH Z Z en92 Z (has_ct hv hR.fine hR.acyc (hm c<|by simp) x) ?_
  rintro u h' ⟨rfl,rfl⟩
  simp only [lC,lN]
  refine sA Z<|sA Z<|sK [6,7] Z<|cT ?_
  exact aj Z ⟨Z,Z⟩ sbq
def wayE (l:Sys) (c x:Nm):Int:=if dW l [c,x]=0 then (if has l c x then 0 else 5) else dW l [c,x]
end
end Go.Hr
namespace Go.Hr
open Go Go.Ck Go.Proofs Go.Proofs.YtknmacdbffgjgaaGreatDoor Fx
attribute [local irreducible] Go.Ck.Sub St Cd Xt Nx DrL LsW
section
variable {S N T:Res} {v nv:Value} {l:Sys} {ns:List Nm}
def touchE (l:Sys) (ns:List Nm):Int:=if 48<ns.length then 3 else dW l []
end
end Go.Hr
namespace Go.Hr
open Go Go.RowKit Go.Ck Go.Proofs Go.Proofs.YtknmacdbffgjgaaGreatDoor Fx
attribute [local irreducible] Go.Ck.Sub St Cd Xt Nx DrL LsW
def iV (n:Nat):Value:=.int .i64 (n:Int)
def okN (e:Int) (n:Nat):Int:=if e=0 then (n:Int) else 0
section
variable {S N:Res} {v nv:Value} {l:Sys} {ns:List Nm}
end
end Go.Hr
namespace Go.Ck
open Go
section
variable {P:Program} {r:Option Nat} {n:Nat} {w0:World} {hr:SH} {R:Value->SH->Prop} {fn:Func} {e:Env} {h h' k:SH} {vs:List Value} {bs:List Nat} {ds:List Deferred}
theorem o6 (hds:ds=bs.map mk) (hv:ResV P k e fn.results.toList vs) (hR:R (lg vs) h') (hk:Sub (h'++hr) k) (hp:Sub (marks bs++k) h):Xt ⟨P,r,n,ds,w0⟩ .ret (bodyPostM (Fw none) 0 P fn (Post w0 hr R)) e h :=
 λa w hk' hh hw=>by
  show LeavesInM (Fw none) 0 P fn a.tmps _ a.defers .returning w
  rw [hk'.defers,hds]
  exact yU bs w (hh.sub hp) hw λw' h1 h2=>⟨_,vC hk' hv h1,_,h',Z,hR,h1.sub hk,h2⟩
end
end Go.Ck
namespace Go.Hr
open Go Go.RowKit Go.Ck Go.Proofs Go.Proofs.Tryz Go.Proofs.YtknmacdbffgjgaaGreatDoor Fx
attribute [local irreducible] Go.Ck.Sub St Cd Xt Nx DrL LsW
def tN (o:List Nm) (D:List (Nm×Unit)):Prop:=∀ x,(eB D x).isSome=o.contains x
theorem tN.look {o:List Nm} {D:List (Nm×Unit)} (h:tN o D) (x:Nm):(bR (mvG tV D) x).getD (.bool false) = .bool (o.contains x):=by
 rw [lQ,<- h x]
 cases eB D x <;> rfl
theorem tN.next {o:List Nm} {D:List (Nm×Unit)} (h:tN o D) (c:Nm):tN (o++[c]) (gG D c ()):=λx=>by
 rw [lJ]
 by_cases hx:x=c
 .subst hx; simp
 .rw [if_neg hx,h x]; simp [hx]
section
variable {S N:Res} {v nv:Value} {l:Sys} {ns:List Nm}
theorem open_ct {c7 c4 mb bd:Nat} {o:List Nm} {D:List (Nm×Unit)} (hv:mQ S v l) (hF:Fine l) (hD:tN o D) (c:Nm):Reads prog 187 #[sv c,.pointer (some ⟨c7,0,none⟩),.pointer (some ⟨c4,0,none⟩)] [pt c7 (cl [.map (some bd)] 265),pt c4 (cl [v,.map (some mb)] 164),mps bd (mvG tV D),S,mps mb (bN l)] (.bool (opn l o c)):=by
 obtain ⟨a,cap,rfl,_⟩:=id hv
 refine rC (n:=17) func187 Z Z (len Z) λhr w0=>?_
 refine cQ (au al4 λb4=>?_)
 refine sN<|nT<|cS<|cQ<|sV (vY Z ld265) ?_
 refine sM Z<|sV (gM (hD.look c)<|bP Z Z xZ inf4 slq) ?_
 refine sK [0,1,2,4,8] Z ?_
 unfold opn
 refine cC Z (λho=>?_)<|λho=>?_
 .rw [ho]
  refine cQ<|bi Z Z sz4 ?_
  refine sK [4] Z<|cT<|xR<|o6 (bs:=[]) (k:=pt b4 (cl [.bool false] 4)::([pt c7 (cl [.map (some bd)] 265),pt c4 (cl [.slice a l.length cap,.map (some mb)] 164),mps bd (mvG tV D),S,mps mb (bN l)]++hr)) Z (.cell1 Z ld4 (bV<|bZ Z) .nil) ⟨Z,Z⟩ ?_ ?_
  .exact Sub.cons<|Sub.refl _
  .unfold marks
   simp only [lC,lN,List.map_nil]
   exact sbq
 .rw [ho,Bool.not_false,Bool.true_and]
  refine cK<|xT<|cS<|cQ<|sV (af Z ll Z ag) ?_
  refine sM Z<|aH Z Z Gf Z (kJ Z) ?_
  rintro u h' ⟨n1,n2,rfl,rfl⟩
  refine sK [1,4,11] Z<|cB ?_
  simp only [lC,lN]
  unfold seqv
  refine ji Z Gh λyl db rec hst hpe hps hasg hbo hkn2=>?_
  refine ⟨_,Ct.perm (Gn (σ := Unit) (b1:=n1) (b2:=n2) (mb:=mb) (yl:=yl) (c:=c) (λ_=>pt yl (.loop rec)::pt db (.deferred<|some [])::pt b4 (cl [.bool false] 4)::pt c7 (cl [.map (some bd)] 265)::pt c4 (cl [.slice a l.length cap,.map (some mb)] 164)::mps bd (mvG tV D)::hr)
   (λk _=>∀ p∈(par l c).take k,o.contains p=true) (λ_ t=>(∃ p∈par l c,o.contains p=false)/\∃ rec',t=pt yl (.loop rec')::pt db (.deferred (some []))::pt b4 (cl [.bool false] 4)::pt c7 (cl [.map (some bd)] 265)::pt c4 (cl [.slice a l.length cap,.map (some mb)] 164)::mps bd (mvG tV D)::hr/\rec'.state≠.busy/\rec'.pending=some .ret) () (λp hp=>by simp at hp) hv hF.few ?_) ?_,?_⟩
  .rintro k _ p hk hal
   obtain ⟨hkl,hke⟩:=List.getElem?_eq_some_iff.1 hk
   refine Yc.perm (rz (n:=17) (rec:=rec) (args:=[sv p]) (hf:=pt db (.deferred<|some [])::pt b4 (cl [.bool false] 4)::pt c7 (cl [.map (some bd)] 265)::pt c4 (cl [.slice a l.length cap,.map (some mb)] 164)::mps bd (mvG tV D)::S::mps mb (bN l)::hr) (by rw [hps]; rfl) hkn2 (by rw [hps]; decide) ?_) (by exact (by repeat (first | exact Pm.refl | refine Pm.cons slq ?_):Pm _ _).perm)
   intro hr2 w1
   rw [hasg,hps,hbo]
   simp only [lC,lN]
   refine cR<|sA Z<|sN<|nK [1,4,5] Z<|ax<|lW Z slq (by first | rfl | assumption) ?_
   refine cB<|cQ<|sV (vY Z ld265) ?_
   refine sM Z<|sV (gM (hD.look p)<|bP Z Z xZ inf4 slq) ?_
   refine sV (bg Z)<|sK [4,16] Z<|cC Z (λhno=>?_)<|λhno=>?_
   .have hno:o.contains p=false:=Zd
    refine cQ<|bi Z Z sz4 ?_
    refine sK [4] Z<|cT<|xW<|lu slq (.inr ⟨Z,_,Z,⟨p,List.mem_of_getElem? hk,hno⟩,{ ({ rec with state:=.busy }:Loop) with state:=.done,pending:=some .ret },Z,by simp,Z⟩) ?_
    exact sbq
   .have hno:o.contains p=true:=Zd
    refine cK<|xB<|dI slq (.inl ⟨Z,(),λq hq=>?_,Z⟩) ?_
    .rw [List.take_succ_eq_append_getElem hkl,hke] at hq
     rcases List.mem_append.1 hq with hq | hq
     .exact hal q hq
     .simp at hq; rw [hq]; exact hno
    .rw [dJ hst hpe]
     exact sbq
  .exact (by repeat (first | exact Pm.refl | refine Pm.cons slq ?_):Pm _ _).perm
  .rintro u h' ⟨rfl, (⟨_, hal, rfl⟩ | ⟨_, _, ⟨⟨p, hp, hno⟩, rec', rfl, h2, h3⟩, rfl⟩)⟩
   .rw [List.take_length] at hal
    rw [show (par l c).all o.contains=true from List.all_eq_true.2 hal]
    refine ⟨rec,_,slq,(by rw [hst]; simp),?_⟩
    rw [hpe]
    dsimp only
    refine xB<|xT<|cQ<|bi Z Z sz4 ?_
    refine sK [4] Z<|cT<|o6 (bs:=[db]) (k:=pt b4 (cl [.bool true] 4)::([pt c7 (cl [.map (some bd)] 265),pt c4 (cl [.slice a l.length cap,.map (some mb)] 164),mps bd (mvG tV D),S,mps mb (bN l)]++hr)) Z (.cell1 Z ld4 (bV<|bZ Z) .nil) ⟨Z,Z⟩ ?_ ?_
    .exact Sub.cons<|Sub.refl _
    .unfold marks
     simp only [lC,lN,List.map_cons,List.map_nil]
     exact sbq
   .rw [show (par l c).all o.contains=false from List.all_eq_false.2 ⟨p,hp,by rw [hno]; decide⟩]
    refine ⟨rec',_,slq,h2,?_⟩
    rw [h3]
    dsimp only
    refine cT<|xW<|xR<|o6 (bs:=[db]) (k:=pt b4 (cl [.bool false] 4)::([pt c7 (cl [.map (some bd)] 265),pt c4 (cl [.slice a l.length cap,.map (some mb)] 164),mps bd (mvG tV D),S,mps mb (bN l)]++hr)) Z (.cell1 Z ld4 (bV<|bZ Z) .nil) ⟨Z,Z⟩ ?_ ?_
    .exact Sub.cons<|Sub.refl _
    .unfold marks
     simp only [lC,lN,List.map_cons,List.map_nil]
     exact sbq
theorem Oc (hv:mQ S v l):CtN prog 116 #[v] [S] λu T=>∃ w,u = .tuple #[w,.int .i64 (dW l [])]/\w.oneCell'=true/\T=NR w (okL (dW l []) (order l)):=by
 obtain ⟨a,cap,rfl,_⟩:=id hv
 refine aJ (n:=36) func116 Z Z (len Z) λhr w0=>?_
 refine cQ<|sA Z<|sA Z<|sN<|nT<|cQ<|sM Z<|rQ (fw (L:=[]))<|aH Z Z en91 Z (Aq hv (N:=Res.star []) (ns:=[]) Row.nil<|by simp) ?_
 rintro u h' (⟨he,rfl,rfl⟩ | ⟨he,mb,rfl,rfl⟩)
 .simp only [lC,lN]
  unfold gr0
  refine sM Z<|sV (ah Z Z)<|sV (ah Z Z) (au tL λb4=>?_)
  refine ai Z Z oL Z Z ?_
  refine sA Z<|sK [0,2,3,4,5] Z<|cS<|cQ<|sM Z<|sV (bT Z Z)<|sK [0,2,3,4,5,16] Z ?_
  rw [ER he]
  refine aQ Z ?_
  refine cQ<|sM Z<|sA Z<|sA Z<|sK [2,3] Z<|cT<|xR ?_
  rw [Oa he]
  refine jq (dn 9 1) ?_
  exact aj Z ⟨NR (.slice none 0 0) [],Z,_,Z,Z,Z⟩ sbq
 .obtain ⟨hR,_⟩:=fu.1 he
  have hFl:=hR.len
  rw [he,Ob rfl]
  simp only [lC,lN]
  refine sM Z<|sV (ah Z Z)<|sV (ah Z Z) (au tL λb4=>?_)
  refine ai Z Z oL Z Z ?_
  refine sA Z<|sK [0,2,3,4,5] Z<|cS<|cQ<|sM Z<|sV (bT Z Z)<|sK [0,2,3,4,5,16] Z<|aG Z ?_
  refine cK<|xT<|cQ<|sA Z<|sK [0,2,3,4,6] Z<|cQ (fq (ltn Z) λb18=>?_)
  refine au al265 λb7=>?_
  refine bi Z Z sz265 ?_
  refine sK [0,2,3,4,6,7] Z<|cQ<|sV (bX Z Z)<|sA Z<|sK [0,2,3,4,6,7,8] Z<|cS<|cQ<|sM Z<|sV (aC Z underlying22)<|sM Z<|sK [2,3,4,6,7,8,21,22] Z<|cB ?_
  refine dY (dn 9 1) ?_
  rw [show ([]:List (Bs×Value))=mvG tV [] from rfl]
  refine aY (σ := Nat×Value×List (Nm×Unit)) (λq=>[(4,.pointer (some ⟨b4,0,none⟩)),(6,q.2.1),(7,.pointer (some ⟨b7,0,none⟩)),(8,.func (.func 187) #[] #[.pointer (some ⟨b7,0,none⟩),.pointer (some ⟨b4,0,none⟩)]),(21,.int .i64 l.length),(22,.int .i64 (q.1:Nat))]) (λq=>NR q.2.1 (iZ l q.1)::pt b4 (cl [.slice a l.length cap,.map (some mb)] 164)::pt b7 (cl [.map (some b18)] 265)::mps b18 (mvG tV q.2.2)::mps mb (bN l)::S::hr) (λq=>q.1<=l.length/\q.2.1.oneCell'=true/\tN (iZ l q.1) q.2.2) (λq=>l.length - q.1) (0,.slice none 0 0,[]) ⟨Nat.zero_le _,Z,λx=>rfl⟩ ?_
  rintro ⟨i,w,D⟩ ⟨hi,hw,hD⟩
  simp only at hi hw hD
  dsimp only
  have holen:=rf l i
  refine cQ<|sV (aO Z Z)<|sN<|nT<|cS<|cC Z (λhd=>?_)<|λhd=>?_
  .refine cK<|xT<|cS<|cB<|cQ ?_
   have hlt:i<l.length:=Zx
   have hne:=Lm hR.acyc hR.uniq hlt
   have hsl:((nms l).filter<|opn l<|iZ l i).length<=24:=Nat.le_trans (List.length_filter_le _ _) (by simp [nms]; omega)
   refine sV (af Z ll Z ag) ?_
   refine sM Z<|aH Z Z en189 Z (kH (N8 (S:=Res.star [pt b7 (cl [.map (some b18)] 265),pt b4 (cl [.slice a l.length cap,.map (some mb)] 164),mps b18 (mvG tV D),S,mps mb (bN l)]) (kf:=187) (cp := #[.pointer (some ⟨b7,0,none⟩),.pointer (some ⟨b4,0,none⟩)]) (g:=opn l<|iZ l i) (mb:=mb) (hv.mono<|bL slq) hR.fine en187 λd _=>lM<|open_ct hv hR.fine hD d)) ?_
   rintro u h' ⟨T,rfl,hu,rfl⟩
   simp only [lC,lN]
   refine ni (r:=NR u<|(nms l).filter<|opn l<|iZ l i) slq λhok=>?_
   refine aH Z Z en188 Z (NU (iX hok) (by omega) hne) ?_
   rintro u2 h' ⟨rfl,rfl⟩
   simp only [lC,lN]
   generalize hmn:iY ((nms l).filter<|opn l<|iZ l i)=z at *
   have hord:iZ l (i+1)=iZ l i++[z]:=by rw [iZ,hmn]
   refine sA Z<|sK [4,6,7,8,9,21,22] Z<|cQ<|sV (vY Z ld265) ?_
   refine sM Z<|dB Z Z Z xZ slq ?_
   refine sK [4,6,7,8,9,21,22] Z<|cR<|sM Z<|sM Z ?_
   rw [show eU (mvG tV D) z (.bool true)=mvG tV (gG D z ()) from o5 tV D z ()]
   refine ak (cells:=[sv z]) Z underlying40 gp Z Z Zz (ltn Z) λb32=>?_
   refine eG [nC z] Z Z underlying40 gp Z (by decide) (show Sel _ (NR w<|iZ l i) _ from slq) (by simp [nC]) Z (λj u2 hu2=>bV<|bZ<|by simpa [nC] using hu2) (by simp [nC,Value.oneCell']) (by rw [List.length_map]; omega) (by rw [List.length_map]; omega) (ltn Z) λw3 hw3 _=>?_
   rw [show (iZ l i).map nC++[nC z]=(iZ l (i+1)).map nC by rw [hord]; simp]
   refine sA Z<|sN<|nK [4,6,7,8,21,22] Z<|ax<|xB<|xT<|cR<|sV (aI Z Z Z0)<|sM Z<|sN<|nK [4,6,7,8,21,22] Z<|ax ?_
   refine aL (i+1,w3,gG D z ()) ⟨hlt,hw3,by show tN (iZ l (i+1)) (gG D z ()); rw [hord]; exact hD.next z⟩ (by show _ - _<_ - _; omega)
  .have hil:i=l.length:=by
    have:¬ i<l.length:=Zx
    omega
   subst hil
   refine aB<|xE<|xE<|xY<|xT<|cQ<|sM Z<|sA Z<|sA Z<|sK [2,3] Z<|cT ?_
   exact aj Z ⟨_,Z,_,Z,hw,Z⟩ sbq
end
end Go.Hr
namespace Go.Hr
open Go Go.RowKit Go.Ck Go.Proofs Go.Proofs.Tryz Go.Proofs.YtknmacdbffgjgaaGreatDoor Fx
def Gv:Go.Shelf.Ren:={
 f:=λ| 190=>265 | 125=>202 | 258=>295 | 128=>258 | 129=>259 | 302=>305 | 303=>306 | 304=>307 | 305=>308 | 306=>309 | 307=>310 | 308=>311 | 309=>312 | 310=>313 | 333=>317 | 329=>290 | 330=>291 | 334=>318 | 335=>319 | 336=>203 | 344=>320 | n=>n
 t:=λ| 31=>40 | 9=>9 | 3=>3 | 46=>275 | 0=>0 | 51=>322 | 53=>324 | 4=>4 | 183=>316 | 182=>315 | 131=>222 | 5=>5 | 218=>345 | 222=>349 | 228=>365 | 229=>366 | n=>n
 g:=λn=>n }
theorem KV:Go.Proofs.Lays.n190 prog Gv:={
 mixed:=rfl
 f125:=func202.trans<|congrArg some Zz
 f128:=func258.trans<|congrArg some Zz
 f129:=func259.trans<|congrArg some Zz
 f190:=func265.trans<|congrArg some Zz
 f258:=func295.trans<|congrArg some Zz
 f302:=func305.trans<|congrArg some Zz
 f303:=func306.trans<|congrArg some Zz
 f304:=func307.trans<|congrArg some Zz
 f305:=func308.trans<|congrArg some Zz
 f306:=func309.trans<|congrArg some Zz
 f307:=func310.trans<|congrArg some Zz
 f308:=func311.trans<|congrArg some Zz
 f309:=func312.trans<|congrArg some Zz
 f310:=func313.trans<|congrArg some Zz
 f329:=func290.trans<|congrArg some Zz
 f330:=func291.trans<|congrArg some Zz
 f333:=func317.trans<|congrArg some Zz
 f334:=func318.trans<|congrArg some Zz
 f335:=func319.trans<|congrArg some Zz
 f336:=func203.trans<|congrArg some Zz
 f344:=func320.trans<|congrArg some Zz
 t0:=underlying0
 a0:=isAgg0
 z0:=sizeOf0
 v0:=zeroValue0
 t3:=underlying3
 a3:=isAgg3
 z3:=sizeOf3
 v3:=zeroValue3
 t4:=underlying4
 a4:=isAgg4
 z4:=sizeOf4
 v4:=zeroValue4
 t5:=underlying5
 a5:=isAgg5
 z5:=sizeOf5
 v5:=zeroValue5
 t9:=underlying9
 a9:=isAgg9
 z9:=sizeOf9
 v9:=zeroValue9
 t31:=underlying40
 a31:=isAgg40
 z31:=sizeOf40
 v31:=zeroValue40
 t46:=underlying275
 a46:=isAgg275
 z46:=sizeOf275
 v46:=zeroValue275
 t51:=underlying322
 a51:=isAgg322
 z51:=sizeOf322
 v51:=zeroValue322
 t53:=underlying324
 a53:=isAgg324
 z53:=sizeOf324
 v53:=zeroValue324
 t131:=underlying222
 a131:=isAgg222
 z131:=sizeOf222
 v131:=zeroValue222
 t182:=underlying315
 a182:=isAgg315
 z182:=sizeOf315
 v182:=zeroValue315
 t183:=underlying316
 a183:=isAgg316
 z183:=sizeOf316
 v183:=zeroValue316
 t218:=underlying345
 a218:=isAgg345
 z218:=sizeOf345
 v218:=zeroValue345
 t222:=underlying349
 a222:=isAgg349
 z222:=sizeOf349
 v222:=zeroValue349
 t228:=underlying365
 a228:=isAgg365
 z228:=sizeOf365
 v228:=zeroValue365
 t229:=underlying366
 a229:=isAgg366
 z229:=sizeOf366
 v229:=zeroValue366 }
theorem Gw:∀ a b:Nm,lt a b=decide (a<b)
 | [],[]=>by simp [lt,Op.bytesLess]
 | [],_::_=>by simp [lt,Op.bytesLess]
 | _::_,[]=>by simp [lt,Op.bytesLess]
 | a::x,b::y=>by
  have ih:=Gw x y
  unfold lt at ih ⊢
  rw [Op.bytesLess,ih,Bool.eq_iff_iff]
  simp only [Bool.or_eq_true,Bool.and_eq_true,decide_eq_true_eq,beq_iff_eq,List.cons_lt_cons_iff,UInt8.lt_iff_toNat_lt]
def leB (x y:Nm):Bool:=decide (x<=y)
theorem ES (x y:Nm):leB x y = !lt y x:=by
 unfold leB
 rw [Gw,<- decide_not]
 rfl
theorem Gx {xs:List Nm} (hn:xs.Nodup):(xs.mergeSort λx y=>decide (x<=y))=srt xs:=by
 have hp:=List.mergeSort_perm xs leB
 refine srt_eq (hp.nodup_iff.2 hn) ?_ λx=>hp.mem_iff
 have:=List.pairwise_mergeSort (le:=leB) (λa b c h1 h2=>?_) (λa b=>?_) xs
 .exact this.imp λ{a b} h=>by rw [ES] at h; simpa using h
 .rw [ES] at h1 h2 ⊢
  simp only [Bool.not_eq_true'] at h1 h2 ⊢
  cases h:lt c a with
  | false=>rfl
  | true =>
   rcases eu a b with h3 | h3 | h3
   .rw [lt_trans h h3] at h2; cases h2
   .rw [h3,h2] at h; cases h
   .rw [h1] at h3; cases h3
 .rw [ES,ES]
  cases h:lt b a with
  | false=>simp
  | true=>rw [iQ h]; simp
theorem LJ {ys xs:List Nm} {pre j:List Value} (hl:ys.length=xs.length):Sort.putCells encStr pre.length ys.toArray (pre++(xs.map sv++j)).toArray=(pre++(ys.map sv++j)).toArray:=by
 apply Array.ext
 .simp [Sort.putCells,hl]
 .intro k h1 h2
  simp only [Sort.putCells,Array.getElem_mapIdx,List.size_toArray,List.getElem_toArray,List.getElem_append,List.length_map,List.getElem_map]
  by_cases hk:k<pre.length
  .have h3:¬ (pre.length<=k/\k<pre.length+ys.length):=by omega
   simp only [hk,h3,dite_true,if_false]
  .by_cases hk2:k - pre.length<ys.length
   .have h3:pre.length<=k/\k<pre.length+ys.length:=by omega
    simp only [hk,h3,hk2,dite_true,dite_false,if_true,and_self]
    rw [getElem!_pos ys.toArray _ (by simpa using hk2)]
    simp [encStr]
   .have h3:¬ (pre.length<=k/\k<pre.length+ys.length):=by omega
    have h4:¬ k - pre.length<xs.length:=by omega
    simp only [hk,hk2,h4,dite_false,hl]
    rw [hl] at h3
    rw [if_neg h3]
section
variable {v:Value}
theorem Sort_ct {xs:List Nm} (hn:xs.Nodup) (hl:xs.length<=1099511627776):Ct prog 265 #[v] [NR v xs] λu h'=>u = .tuple #[]/\h'=[NR v (srt xs)]:=by
 intro hr w hh
 have hv:=hh.1
 rcases hv.2 with ⟨rfl,h0⟩ | ⟨b,o,cp,pre,j,rfl,hb,hpre,hc1,hc2,hc3⟩
 .have hx:xs=[]:=List.map_eq_nil_iff.1 h0
  subst hx
  exact (Any.slices_Sort_string_none KV none 0 w).mono λe w' ⟨h1,h2⟩=>⟨.tuple #[],_,h1,⟨Z,Z⟩,by rw [h2]; exact hh,by rw [h2]; exact Same.refl w⟩
 .rw [nk] at hb
  have hb:w.heap[b]? = some (cl (pre++(xs.map sv++j)) 9):=hb
  have hlt:b<w.heap.size:=(Array.getElem?_eq_some_iff.1 hb).1
  have hH:Sort.Holds encStr w b o xs.toArray:=λi hi=>by
   have hi:i<xs.length:=Zi
   refine ⟨?_,by simp [World.frozen?,hb,cl]⟩
   rw [getElem!_pos xs.toArray i Zi]
   simp only [World.cell?,hb,cl,Option.isSome_none,Bool.false_eq_true,if_false,List.getElem?_toArray]
   rw [<- hpre,List.getElem?_append_right (by omega),Nat.add_sub_cancel_left,List.getElem?_append_left Zi,List.getElem?_map,Zy hi]
   rfl
  have hc:=Any.slices_Sort_string KV b o cp xs w hH hlt<|by omega
  rw [show (xs.map nC).length=xs.length by simp] at *
  refine Calls.mono hc λe w' ⟨h1,n,os,h2⟩=>⟨.tuple #[],_,h1,⟨Z,Z⟩,?_,?_⟩
  all_goals rw [Gx hn] at h2
  .have hsl:(srt xs).length=xs.length:=by
    rw [<- Gx hn]; exact List.length_mergeSort xs
   have hb':w'.heap[b]? = some (cl (pre++((srt xs).map sv++j)) 9):=by
    rw [h2]
    show ((w.heap.modify b<|Sort.onCells<|Sort.putCells encStr o (srt xs).toArray)++os)[b]? = _
    rw [Array.getElem?_append_left (by simpa using hlt),Array.getElem?_modify,if_pos rfl,hb]
    simp only [Option.map_some,Sort.onCells,cl]
    rw [<- hpre,LJ hsl]
   have ho:∀ c,c≠b->c<w.heap.size->w'.heap[c]? = w.heap[c]? := λc hc hlt2=>by
    rw [h2]
    show ((w.heap.modify b<|Sort.onCells<|Sort.putCells encStr o (srt xs).toArray)++os)[c]? = _
    rw [Array.getElem?_append_left (by simpa using hlt2),Array.getElem?_modify,if_neg (λe=>hc e.symm)]
   refine ⟨⟨by simp [nC],.inr ⟨b,o,cp,pre,j,by simp [hsl],by rw [nk]; exact hb',hpre,by simpa [hsl] using hc1,hc2,?_⟩⟩,λc ⟨o',m',cp',he⟩=>?_,bn.loc hh.2.2 λc hc=>?_⟩
   .rw [nk]
    rw [nk] at hc3
    simpa [hsl] using hc3
   .cases he
    exact hh.2.1 b ⟨o,_,cp,Z⟩
   .exact (ho c (λe=>hh.2.1 b ⟨o,_,cp,Z⟩ (e ▸ hc))<|Holds.lt (h:=hr) hh.2.2 hc).symm
  .refine ⟨by rw [h2]; rfl, by rw [h2]; rfl, by rw [h2]; rfl, by rw [h2]; exact Nat.le_add_right _ _, ?_, λa ha => ?_⟩
   .rw [h2]
    show w.heap.size<=((w.heap.modify b<|Sort.onCells<|Sort.putCells encStr o (srt xs).toArray)++os).size
    simp
   .rw [h2]
    unfold World.frozen?
    have:(Sort.grow (Sort.putRow encStr (Sort.ahead w n) b o (srt xs).toArray) os).heap[a.block]? = (w.heap[a.block]?).map λq=>if b=a.block then Sort.onCells (Sort.putCells encStr o (srt xs).toArray) q else q:=by
     show ((w.heap.modify b<|Sort.onCells<|Sort.putCells encStr o (srt xs).toArray)++os)[a.block]? = _
     rw [Array.getElem?_append_left (by simpa using ha),Array.getElem?_modify]
     split
     .rename_i e; subst e; simp
     .simp [*]
    rw [this]
    by_cases e:b=a.block
    .simp only [e,if_true]
     rw [<- e,hb]
     rfl
    .simp [e]
end
end Go.Hr
namespace Go.Ck
open Go Go.RowKit
/-! ## Structs of texts -/
def isStr:Option TypeDesc->Bool
 | some .string=>true
 | _=>false
def ET (P:Program):List Field->Nat->Bool
 | [],_=>true
 | f :: t, i => (f.name != "_") && isStr (P.underlying f.type) && Nat.beq f.offset i && ET P t (i + 1)
def EqS (P:Program) (T:TypeId) (n:Nat):Prop:=P.eqGuardType P.depth T=false/\∀ (xs ys:List Bs) (w:World),xs.length=n->ys.length=n ->
 (Op.equalIn 10000 T (.agg (xs.map sv).toArray)<|.agg (ys.map sv).toArray).run P w = .ok (xs == ys) w
theorem Od {o:Option TypeDesc} (h:isStr o=true):o=some .string:=by
 unfold isStr at h; split at h
 .rfl
 .cases h
theorem vR {P:Program} {T:TypeId} (hu:P.underlying T=some .string) {xs:List Bs} {i:Nat} {x:Bs} (hx:xs[i]? = some x) (w:World):(part T (xs.map sv).toArray i).run P w = .ok (sv x) w:=by
 have hi:(isAgg T).run P w = .ok false w:=by
  unfold isAgg
  simp only [Sem.run_bind,run_underlying hu,Result.andThen_ok]
  rfl
 unfold part
 have:(xs.map sv).toArray[i]? = some (sv x):=by simp [hx]
 simp only [Sem.run_bind,hi,Result.andThen_ok,Bool.false_eq_true,if_false,this,Sem.run_pure]
theorem ut {P : Program} {d : Nat} {xs ys : List Bs} {w : World} : ∀ (fs : List Field) (i : Nat), ET P fs i = true -> xs.length = i + fs.length -> ys.length = i + fs.length ->
  (Op.eqFields (d+1) (xs.map sv).toArray (ys.map sv).toArray fs).run P w = .ok (xs.drop i == ys.drop i) w
 | [],i,_,hx,hy=>by
  have h1:xs.drop i=[]:=List.drop_of_length_le (by simp at hx; omega)
  have h2:ys.drop i=[]:=List.drop_of_length_le (by simp at hy; omega)
  rw [h1,h2]
  simp [Op.eqFields]
 | f::t,i,h,hx,hy=>by
  simp only [ET,Bool.and_eq_true,bne_iff_ne] at h
  obtain ⟨⟨⟨h1,h2⟩,h3⟩,h4⟩:=h
  have h3':=Nat.eq_of_beq_eq_true h3
  simp only [List.length_cons] at hx hy
  have hxi:i<xs.length:=by omega
  have hyi:i<ys.length:=by omega
  have hu:P.underlying f.type=some .string:=Od h2
  unfold Op.eqFields
  rw [if_pos h1,h3']
  simp only [Sem.run_bind,vR hu (Zy hxi),vR hu (Zy hyi),Result.andThen_ok,run_equalIn_string w d f.type _ _ hu,jk]
  have hb:(xs.drop i == ys.drop i)=(xs[i] == ys[i] && (xs.drop (i+1) == ys.drop (i+1))):=by
   rw [List.drop_eq_getElem_cons hxi,List.drop_eq_getElem_cons hyi]; rfl
  rw [hb]
  by_cases he:xs[i]=ys[i]
  .rw [if_neg (by simp [he]),ut t (i+1) h4 (by omega) (by omega),he]
   simp only [beq_self_eq_true,Bool.true_and]
  .rw [if_pos (by simp [he]),beq_eq_false_iff_ne.2 he]
   rfl
theorem EqS.of {P:Program} {T:TypeId} {fs:Array Field} {n:Nat} (h1:P.underlying T=some (.struct fs)) (h2:P.stoodInHeld T=false) (h3:P.eqGuardType P.depth T=false) (h4:ET P fs.toList 0=true) (hn:fs.size=n):EqS P T n:=by
 refine ⟨h3,λxs ys w hx hy=>?_⟩
 have hf:P.fieldsOf T=fs:=by simp [Program.fieldsOf,h1]
 rw [run_equalIn_struct w 9999 T _ _ (by rw [hf]; exact h1) h2,hf,ut fs.toList 0 h4 (by simp [hx,hn]) (by simp [hy,hn])]
 simp
section
variable {P:Program} {e:Env} {h h':SH} {ty:TypeId}
theorem jY {T t':TypeId} {x y:Operand} {a b c d:Bs} (hE:EqS P T 2) (hx:e.ev? x=some (.agg #[sv a,sv b])) (hy:e.ev? y=some (.agg #[sv c,sv d])) :
  Vop P e h (.binOp .eql T x y t') ty (.bool ([a,b] == [c,d])):=
 ⟨by simp,by simp,λρ w dd pos after g hρ _=>by
  have hq:(Op.equalIn 10000 T (.agg #[sv a,sv b]) (.agg #[sv c,sv d])).run P w = .ok ([a,b] == [c,d]) w:=hE.2 [a,b] [c,d] w rfl rfl
  simp only [execOp,hρ x _ hx,hρ y _ hy,Sem.run_bind,run_eqGuard_agg w .eql T x y _ _ hE.1,Result.andThen_ok,run_eql_struct,hq,Sem.run_pure]⟩
theorem wX {T t':TypeId} {x y:Operand} {a b c d:Bs} (hE:EqS P T 2) (hx:e.ev? x=some (.agg #[sv a,sv b])) (hy:e.ev? y=some (.agg #[sv c,sv d])) :
  Vop P e h (.binOp .neq T x y t') ty (.bool (!([a,b] == [c,d]))):=
 ⟨by simp,by simp,λρ w dd pos after g hρ _=>by
  have hq:(Op.equalIn 10000 T (.agg #[sv a,sv b]) (.agg #[sv c,sv d])).run P w = .ok ([a,b] == [c,d]) w:=hE.2 [a,b] [c,d] w rfl rfl
  simp only [execOp,hρ x _ hx,hρ y _ hy,Sem.run_bind,run_eqGuard_agg w .neq T x y _ _ hE.1,Result.andThen_ok,run_neq_struct,hq,Sem.run_pure]⟩
end
theorem KW {a b c d:Bs}:([a,b] == [c,d])=(a == c && b == d):=by
 rw [Bool.eq_iff_iff]
 simp
end Go.Ck
namespace Go.Ck
open Go Go.RowKit Go.ChangeShapes Go.WideShapes
theorem cells_one {v:Value} (h:v.oneCell'=true):v.cells.toList=[v]:=by
 cases v <;> first | rfl | (simp [Value.oneCell'] at h)
theorem row_of {α : Type} {r:Res} {t:Ty} {v:Value} (f:t.D -> α) (X:List Value -> α -> Prop) (hX:∀ us x,Rep r t us x->X us (f x)) {y:(Ty.slice t).D} (h:Rep r (.slice t) [v] y):Row r t.sz X v ((show List t.D from y).map f):=by
 unfold Rep at h
 obtain ⟨a,cap,h1,hl,hm,hn,h2⟩:=h
 refine ⟨a,cap,by rw [List.length_map]; exact (List.cons.inj h1).1,by rw [List.length_map]; exact hl,hm,hn,λi x hi=>?_⟩
 rw [List.getElem?_map] at hi
 cases hy:(show List t.D from y)[i]? with
 | none=>rw [hy] at hi; cases hi
 | some z =>
  rw [hy] at hi
  obtain rfl:=Option.some.inj hi
  rcases h2 with h0 | ⟨b,o,h3,h4⟩
  .rw [show (show List t.D from y)=[] from h0] at hy; simp at hy
  .obtain ⟨us,h5,h6,h7⟩:=h4 i z hy
   exact ⟨b,o,us,h3,h5,h6,hX _ _ h7⟩
theorem one_cell {us:List Value} (h:us.length=1):∃ u,us=[u]:=by
 match us,h with
 | [u],_=>exact ⟨u,rfl⟩
end Go.Ck
namespace Go.Hr
open Go Go.RowKit Go.ChangeShapes Go.WideShapes Go.Ck
def Gy:List TypeId:=[3,4,9,25,59,62,185,186,188,189,191,192,194,196,198,201,203]
def Ar:Ty:=.struct [.str,.slice (.any 5 Gy),.slice (.any 2 Gy),.slice .str,.slice .str,.slice .str]
def yj:Ty:=.struct [.str,.bool,.slice (.any 2 Gy),.slice Ar,.slice .str,.slice (.any 15 Gy),.slice (.any 5 Gy)]
def nmOf (s:ByteArray):Nm:=s.data.toList
def parOf (x:Ar.D):Nm:=nmOf (show ByteArray from x.1)
def clsOf (x:yj.D):Cls:=⟨nmOf (show ByteArray from x.1),(show List Ar.D from x.2.2.2.1).map parOf,(show List Unit from x.2.2.2.2.2.1).length⟩
def sysOf (y:(Ty.slice yj).D):Sys:=(show List yj.D from y).map clsOf
theorem parC_of {r:Res} {us:List Value} {x:Ar.D} (h:Rep r Ar us x):parC us (parOf x):=by
 obtain ⟨x1,x2,x3,x4,x5,x6,x7⟩:=x
 simp only [Ar,Rep,Reps] at h
 obtain ⟨u1,us1,e1,l1,r1,h⟩:=h
 obtain ⟨u2,us2,e2,l2,r2,h⟩:=h
 obtain ⟨u3,us3,e3,l3,r3,h⟩:=h
 obtain ⟨u4,us4,e4,l4,r4,h⟩:=h
 obtain ⟨u5,us5,e5,l5,r5,h⟩:=h
 obtain ⟨u6,us6,e6,l6,r6,h⟩:=h
 have r1:=r1.1
 obtain ⟨a2,c2,g2,_⟩:=r2
 obtain ⟨a3,c3,g3,_⟩:=r3
 obtain ⟨a4,c4,g4,_⟩:=r4
 obtain ⟨a5,c5,g5,_⟩:=r5
 obtain ⟨a6,c6,g6,_⟩:=r6
 subst h r1 g2 g3 g4 g5 g6 e6 e5 e4 e3 e2
 exact ⟨_,_,_,_,_,e1,Z⟩
theorem cls_of {r:Res} {us:List Value} {x:yj.D} (h:Rep r yj us x):clsC r us (clsOf x):=by
 obtain ⟨x1,x2,x3,x4,x5,x6,x7,x8⟩:=x
 simp only [yj,Rep,Reps] at h
 obtain ⟨u1,us1,e1,l1,r1,h⟩:=h
 obtain ⟨u2,us2,e2,l2,r2,h⟩:=h
 obtain ⟨u3,us3,e3,l3,r3,h⟩:=h
 obtain ⟨u4,us4,e4,l4,r4,h⟩:=h
 obtain ⟨u5,us5,e5,l5,r5,h⟩:=h
 obtain ⟨u6,us6,e6,l6,r6,h⟩:=h
 obtain ⟨u7,us7,e7,l7,r7,h⟩:=h
 obtain ⟨p4,rfl⟩:=one_cell l4
 have s4:Rep r (.slice Ar) [p4] x4:=by simp only [Rep]; exact r4
 have r1:=r1.1
 obtain ⟨a3,c3,g3,_⟩:=r3
 obtain ⟨a4,c4,g4,_⟩:=r4
 obtain ⟨a5,c5,g5,_⟩:=r5
 obtain ⟨a6,c6,g6,_⟩:=r6
 obtain ⟨a7,c7,g7,_⟩:=r7
 have g4:=(List.cons.inj g4).1
 subst h r1 r2 g3 g4 g5 g6 g7 e7 e6 e5 e4 e3 e2
 exact ⟨_,_,_,_,_,_,_,e1,Z,row_of parOf parC (λ_ _ h=>parC_of h) s4⟩
theorem wY {r:Res} {v:Value} {y:(Ty.slice yj).D} (h:Rep r (.slice yj) [v] y):mQ r v (sysOf y):=row_of clsOf (clsC r) (λ_ _ h=>cls_of h) h
def nmsOf (y:(Ty.slice .str).D):List Nm:=(show List ByteArray from y).map nmOf
end Go.Hr
namespace Go.Ck
open Go Go.RowKit Go.ChangeShapes Go.WideShapes
section
variable {H:Type}
theorem qM {P:Program} {e:TypeId}:∀ {ds:List (DataW H)} {d:DataW H},d∈ds->∀ n∈d.weights P e,n∈DataW.weightsAll P e ds
 | d0::ds,d,hd,n,hn=>by
  simp only [DataW.weightsAll,List.mem_append]
  rcases List.mem_cons.1 hd with rfl | hd
  .exact .inl hn
  .exact .inr<|qM hd n hn
variable (enc:TypeId×Value->H) (P:Program) (W:World)
def Gd (n:Nat) (t:TypeId) (cs:List Value):Prop:=∃ x,DataW.trod enc P W 0 (λ_=>true) true n t cs=some x/\∀ m∈x.1.weights P t,m<=reachBytes
variable {enc P W}
theorem Gd.slice {n : Nat} {t e : TypeId} {cs : List Value} (h : Gd enc P W n t cs) (hu : P.underlying t = some (.slice e)) (hsz : 0 < P.cellsOf e) :
  cs=[.slice none 0 0]\/∃ a len cap m,n=m+1/\cs=[.slice (some a) len cap]/\len<=cap/\cap<=maxLen/\len * P.bytesOf e<=reachBytes /\
   ∀ i,i<len->∃ b o us,a=⟨b,o,none⟩/\us.length=P.cellsOf e/\Rds (old W) b (o+i * P.cellsOf e) us/\Gd enc P W m e us:=by
 obtain ⟨x,h,hz⟩:=h
 rcases DataW.trod_slice hu h with ⟨h0,_⟩ | ⟨a,len,cap,elems,rest,m,hn,h1,hx,_,hl,hc,hlen,hel,_⟩
 .exact .inl h0
 .refine .inr ⟨a, len, cap, m, hn, h1, hl, hc, ?_, λi hi => ?_⟩
  .have:=hz ((elems.length+rest.length) * P.bytesOf e) (by rw [hx]; simp [DataW.weights,hu])
   rw [hlen] at this
   exact Nat.le_trans (Nat.mul_le_mul_right _<|Nat.le_add_right _ _) this
  .have h2:=hel i hi
   rw [Zy (by omega),Option.bind_eq_some_iff] at h2
   obtain ⟨us,h3,h4⟩:=h2
   obtain ⟨h5,h6⟩:=wM h3
   have hspot:a.spot=none:=by
    have g2:=hel 0<|by omega
    rw [Zy (by omega),Option.bind_eq_some_iff] at g2
    obtain ⟨us0,g3,_⟩:=g2
    obtain ⟨g5,g6⟩:=wM g3
    have:=g6 0<|by omega
    simp only [Nat.zero_mul,Addr.add,if_true] at this
    exact (cell_spot this).1
   obtain ⟨ab,ao,asp⟩:=a
   simp only at hspot
   subst hspot
   refine ⟨ab,ao,us,Z,h5,λj hj=>?_,elems[i]'(by omega),h4,λk hk=>hz k ?_⟩
   .have:=h6 j hj
    rw [Addr.add_lit,Addr.add_lit] at this
    exact Np (cell_spot this).2 this
   .rw [hx]
    simp only [DataW.weights,hu]
    exact List.mem_cons_of_mem _<|List.mem_append_left _<|qM (List.mem_map.2 ⟨_,List.getElem_mem (by omega),Z⟩) _ hk
theorem Gd.struct {n:Nat} {t:TypeId} {fs:Array Field} {cs:List Value} (h:Gd enc P W n t cs) (hu:P.underlying t=some (.struct fs)) :
  ∃ m,n=m+1/\cs.length=P.cellsOf t/\∀ (i:Nat) (f:Field),fs[i]? = some f->Gd enc P W m f.type ((cs.drop f.offset).take<|P.cellsOf f.type):=by
 obtain ⟨x,h,hz⟩:=h
 obtain ⟨xs,m,hn,hx,hcl,hxl,hfe⟩:=DataW.trod_struct hu h
 refine ⟨m,hn,hcl,λi f hf=>?_⟩
 have h1:=hfe i f hf
 have hlt:i<xs.length:=by rw [hxl]; exact (Array.getElem?_eq_some_iff.1 hf).1
 rw [Zy hlt] at h1
 refine ⟨xs[i],h1,λk hk=>hz k ?_⟩
 rw [hx]
 simp only [DataW.weights,hu]
 exact DataW.weights_mem_each (j:=i) (by rw [List.getElem?_map]; simp [hf]) (by rw [List.getElem?_map,Zy hlt]; rfl) _ hk
end
end Go.Ck
namespace Go.Ck
open Go Go.RowKit
theorem Oe {z:Array Value} {sz n:Nat} (hz:z.size=sz) (h0:0<sz):(madeCells z (n * sz)).toList=(List.replicate n z.toList).flatten:=by
 have hfl:((List.replicate n z.toList).flatten).length=n * sz:=by simp [hz]
 apply List.ext_getElem?
 intro i
 rcases Nat.lt_or_ge i (n * sz) with h | h
 .have h1:i / sz<n:=Nat.div_lt_of_lt_mul (by rw [Nat.mul_comm]; exact h)
  have h2:=Nat.mod_lt i h0
  have h3:=mh (rows:=List.replicate n z.toList) (sz:=sz) (m:=i / sz) (k:=i % sz) (r:=z.toList) (x:=z[i % sz]'(by omega)) (λr hr=>by rw [List.eq_of_mem_replicate hr]; simpa using hz) (by simp [h1])<|by simp [hz,h2]
  rw [Nat.div_add_mod' i sz] at h3
  rw [h3]
  simp [madeCells,h,hz,h2]
 .rw [List.getElem?_eq_none (by simp [madeCells]; omega),List.getElem?_eq_none (by omega)]
section
variable {c:Cx} {ops:Array Oper} {K:Act->World->Prop} {rest:List Oper} {e:Env} {h:SH}
theorem Oh {d : Nat} {T E ty : TypeId} {x y : Operand} {pos : String} {after : Array Edge} {z : Value} {sz bytes n : Nat} {i : Int} (hx : e.ev? x = some (.int .i64 i)) (hy : e.ev? y = some (.int .i64 i)) (hn : i = (n : Int))
  (hT:c.P.underlying T=some (.slice E)) (hE:Inf c.P E z sz bytes) (hz:z.cells.size=sz) (h0:0<sz) (hb:bytes * n<=281474976710656) (h63:n<=maxLen) (hd:d<c.n)
  (hnx:∀ b,St c ops K rest ((d,.slice (some ⟨b,0,none⟩) n n)::e) (pt b (cl ((List.replicate n z.cells.toList).flatten) E)::h)) :
  St c ops K (⟨some d,.makeSlice T x y,ty,pos,after,none⟩::rest) e h :=
 eD (by simp) λa w hk hh hs=>by
  obtain ⟨ie,h1,h2,h3,h4⟩:=hE.parts
  have hml:maxLen=9223372036854775807:=rfl
  subst hn
  have hm:=run_make (P:=c.P) w T E ie z hT h1 h2 .i64 .i64 n n (by omega) (by omega) (by rw [h4]; have h:=Int.ofNat_le.2 hb; rw [Int.natCast_mul] at h; omega)<|by omega
  have hcl:(Obj.cells (madeCells z.cells ((n:Int).toNat * ie.size)) E)=cl ((List.replicate n z.cells.toList).flatten) E:=by
   simp only [cl,h3,Int.toNat_natCast,Obj.cells.injEq,and_true]
   apply Array.ext'
   rw [Oe hz h0]
  rw [hcl] at hm
  simp only [Int.toNat_natCast] at hm
  simp only [execOp,hk.ev hx,hk.ev hy,Sem.run_bind,hm,Result.andThen_ok,Sem.run_pure]
  exact hnx _ _ _ (hk.put _ hd) (Holds.alloc hh _)<|hs.trans (Grew.alloc _ _ Z).toSame
theorem Au {sz:Nat}:∀ {rows:List (List Value)},(∀ r∈rows,r.length=sz)->rows.flatten.length=rows.length * sz
 | [],_=>by simp
 | r::t,h=>by
  rw [List.flatten_cons,List.length_append,h r (by simp),Au (rows:=t) λq hq=>h q (by simp [hq]),List.length_cons,Nat.succ_mul]; omega
theorem nu {sz:Nat} {vs:List Value} (hv:vs.length=sz):∀ {rows:List (List Value)} {m:Nat},(∀ r∈rows,r.length=sz)->m<rows.length->splice rows.flatten (m * sz) vs=(rows.set m vs).flatten
 | [],m,_,hm=>by simp at hm
 | r::t,0,h,_=>by
  have hr:=h r<|by simp
  simp [splice,hv,<- hr]
 | r::t,m+1,h,hm=>by
  have hr:=h r<|by simp
  have ih:=nu hv (rows:=t) (m:=m) (λq hq=>h q<|by simp [hq])<|by simpa using hm
  have ht:=Au (sz:=sz) (rows:=t) λq hq=>h q<|by simp [hq]
  rw [List.set_cons_succ,List.flatten_cons,List.flatten_cons,<- ih]
  unfold splice
  rw [Nat.succ_mul,show m * sz+sz=r.length+m * sz by omega]
  rw [List.take_length_add_append,show r.length+m * sz+vs.length=r.length+(m * sz+vs.length) by omega,List.drop_length_add_append]
  simp
end
end Go.Ck
namespace Go.Ck
open Go Go.RowKit Go.ChangeShapes Go.WideShapes
def oneB (P:Program) (L:List TypeId):Bool:=L.all λt=>match P.underlying t with
 | some (.int _)=>true
 | some .bool=>true
 | some .string=>true
 | some (.slice _)=>true
 | some (.struct fs)=>(List.range (P.cellsOf t)).all λk=>fs.toList.any λf=>L.contains f.type && Nat.ble f.offset k && Nat.blt k (f.offset+P.cellsOf f.type)
 | _=>false
theorem Gd.one {H : Type} {enc : TypeId × Value -> H} {P : Program} {W : World} {L : List TypeId} (hL : oneB P L = true) : ∀ (n : Nat) (t : TypeId) (cs : List Value), t ∈ L -> Gd enc P W n t cs -> ∀ u ∈ cs, u.oneCell' = true
 | 0,t,cs,_,⟨x,h,_⟩=>by simp [DataW.trod] at h
 | n + 1, t, cs, ht, hg => by
  have hc:=List.all_eq_true.1 hL t ht
  obtain ⟨x,h,hz⟩:=id hg
  cases hu:P.underlying t with
  | none=>rw [hu] at hc; cases hc
  | some d =>
   rw [hu] at hc
   cases d with
   | int k=>obtain ⟨q,rfl,_⟩:=DataW.trod_int hu h; intro u hm; simp at hm; subst hm; rfl
   | bool=>obtain ⟨q,rfl,_⟩:=DataW.trod_bool hu h; intro u hm; simp at hm; subst hm; rfl
   | string=>obtain ⟨q,rfl,_⟩:=DataW.trod_string hu h; intro u hm; simp at hm; subst hm; rfl
   | slice e =>
    rcases DataW.trod_slice hu h with ⟨rfl,_⟩ | ⟨a,len,cap,_,_,_,_,rfl,_⟩ <;> (intro u hm; simp at hm; subst hm; rfl)
   | struct fs =>
    obtain ⟨m,hm,hcl,hf⟩:=hg.struct hu
    obtain rfl:n=m:=by omega
    intro u hu2
    obtain ⟨k,hk,rfl⟩:=List.getElem_of_mem hu2
    have h1:=List.all_eq_true.1 hc k<|List.mem_range.2<|by omega
    obtain ⟨f,hfm,h2⟩:=List.any_eq_true.1 h1
    simp only [Bool.and_eq_true] at h2
    obtain ⟨⟨h3,h4⟩,h5⟩:=h2
    have h4:=Nat.le_of_ble_eq_true h4
    have h5:k<f.offset+P.cellsOf f.type:=Nat.lt_of_succ_le<|by simpa [Nat.blt] using h5
    obtain ⟨i,hi⟩:=List.getElem?_of_mem hfm
    refine Gd.one hL n f.type _ Zc (hf i f Zi) _ ?_
    refine List.mem_iff_getElem?.2 ⟨k - f.offset,?_⟩
    rw [List.getElem?_take,if_pos (by omega),List.getElem?_drop,show f.offset+(k - f.offset)=k by omega,Zy hk]
   | _=>cases hc
/-! ## The same, out of any resource -/
section
variable (P:Program)
def Gr (S:Res):Nat->TypeId->List Value->Prop
 | 0,_,_=>False
 | n+1,t,cs=>match P.underlying t with
  | some (.int _)=>∃ v,cs=[v]/\v.oneCell'=true
  | some .bool=>∃ v,cs=[v]/\v.oneCell'=true
  | some .string=>∃ v,cs=[v]/\v.oneCell'=true
  | some (.slice e)=>∃ (l:List Unit) (v:Value),cs=[v]/\Row S (P.cellsOf e) (λus _=>Gr S n e us) v l/\l.length * P.bytesOf e<=reachBytes
  | some (.struct fs)=>cs.length=P.cellsOf t/\∀ (i:Nat) (f:Field),fs[i]? = some f->Gr S n f.type ((cs.drop f.offset).take (P.cellsOf f.type))
  | _=>False
def kinB (L:List TypeId):Bool:=L.all λt=>match P.underlying t with
 | some (.int _)=>true
 | some .bool=>true
 | some .string=>true
 | some (.slice e)=>L.contains e && Nat.blt 0 (P.cellsOf e)
 | some (.struct fs)=>fs.toList.all λf=>L.contains f.type
 | _=>false
def flatB (L:List TypeId):Bool:=L.all λt=>match P.underlying t with
 | some (.int _)=>true
 | some .bool=>true
 | some .string=>true
 | some (.struct fs)=>fs.toList.all λf=>L.contains f.type
 | _=>false
inductive Gall (S:Res) (n:Nat) (cs:List Value):List Field->Prop
 | nil:Gall S n cs []
 | cons {f:Field} {fs:List Field}:Gr P S n f.type ((cs.drop f.offset).take (P.cellsOf f.type))->Gall S n cs fs->Gall S n cs (f::fs)
end
section
variable {P:Program} {S T:Res}
theorem Gr.row {n:Nat} {t e:TypeId} {v:Value} (h:Gr P S n t [v]) (hu:P.underlying t=some (.slice e)):∃ (m:Nat) (l:List Unit),n=m+1/\Row S (P.cellsOf e) (λus _=>Gr P S m e us) v l/\l.length * P.bytesOf e<=reachBytes:=by
 cases n with
 | zero=>exact h.elim
 | succ n =>
  simp only [Gr,hu] at h
  obtain ⟨l,v',h1,h2,h3⟩:=h
  cases h1
  exact ⟨n,l,Z,h2,h3⟩
theorem Gr.slice {n : Nat} {t e : TypeId} {v : Value} (h : Gr P S n t [v]) (hu : P.underlying t = some (.slice e)) (_ : 0 < P.cellsOf e) :
  [v]=[Value.slice none 0 0]\/∃ a len cap m,n=m+1/\[v]=[Value.slice (some a) len cap]/\len<=cap/\cap<=maxLen/\len * P.bytesOf e<=reachBytes /\
   ∀ i,i<len->∃ b o us,a=⟨b,o,none⟩/\us.length=P.cellsOf e/\Rds S b (o+i * P.cellsOf e) us/\Gr P S m e us:=by
 obtain ⟨m,l,hm,⟨a,cap,rfl,h1,h2,h3,h4⟩,hb⟩:=h.row hu
 cases a with
 | none =>
  have hc:=h3 rfl
  subst hc
  rw [show l.length=0 by omega]
  exact .inl Z
 | some a =>
  refine .inr ⟨a,l.length,cap,m,hm,Z,h1,h2,hb,λi hi=>?_⟩
  obtain ⟨b,o,us,e1,e2,e3,e4⟩:=h4 i _<|Zy hi
  exact ⟨b,o,us,Option.some.inj e1,e2,e3,e4⟩
theorem Gr.struct {n:Nat} {t:TypeId} {fs:Array Field} {cs:List Value} (h:Gr P S n t cs) (hu:P.underlying t=some (.struct fs)) :
  ∃ m,n=m+1/\cs.length=P.cellsOf t/\∀ (i:Nat) (f:Field),fs[i]? = some f->Gr P S m f.type ((cs.drop f.offset).take<|P.cellsOf f.type):=by
 cases n with
 | zero=>exact h.elim
 | succ n =>
  simp only [Gr,hu] at h
  exact ⟨n,Z,h⟩
theorem Gall.at {n:Nat} {cs:List Value}:∀ {fs:List Field},Gall P S n cs fs->∀ (i:Nat) (f:Field),fs[i]? = some f->Gr P S n f.type ((cs.drop f.offset).take (P.cellsOf f.type))
 | _,.nil,i,f,h=>by simp at h
 | _,.cons h _,0,f,hf=>by simp at hf; subst hf; exact h
 | _,.cons _ ht,i+1,f,hf=>ht.at i f (by simpa using hf)
theorem Gr.mk {n k:Nat} {t:TypeId} {fs:Array Field} {cs:List Value} (hu:P.underlying t=some (.struct fs)) (hk:P.cellsOf t=k) (hl:cs.length=k) (h:Gall P S n cs fs.toList):Gr P S (n+1) t cs:=by
 subst hk
 simp only [Gr,hu]
 exact ⟨hl,λi f hf=>h.at i f<|by simpa using hf⟩
theorem Gr.mono (hr : ∀ p u, Rd S p u -> Rd T p u) : ∀ {n : Nat} {t : TypeId} {cs : List Value}, Gr P S n t cs -> Gr P T n t cs
 | 0,_,_,h=>h.elim
 | n + 1, t, cs, h => by
  unfold Gr at h ⊢
  cases hu:P.underlying t with
  | none=>rw [hu] at h; exact h.elim
  | some d =>
   rw [hu] at h
   cases d with
   | int k=>exact h
   | bool=>exact h
   | string=>exact h
   | slice e =>
    obtain ⟨l,v,h1,h2,h3⟩:=h
    exact ⟨l,v,h1,h2.mono hr λ_ _ _ h=>Gr.mono hr h,h3⟩
   | struct fs=>exact ⟨h.1,λi f hf=>Gr.mono hr (h.2 i f hf)⟩
   | _=>exact h.elim
theorem Gr.up : ∀ {n : Nat} {t : TypeId} {cs : List Value}, Gr P S n t cs -> Gr P S (n + 1) t cs
 | 0,_,_,h=>h.elim
 | n + 1, t, cs, h => by
  unfold Gr at h ⊢
  cases hu:P.underlying t with
  | none=>rw [hu] at h; exact h.elim
  | some d =>
   rw [hu] at h
   cases d with
   | int k=>exact h
   | bool=>exact h
   | string=>exact h
   | slice e =>
    obtain ⟨l,v,h1,h2,h3⟩:=h
    exact ⟨l,v,h1,h2.mono (λ_ _ h=>h) λ_ _ _ h=>Gr.up h,h3⟩
   | struct fs=>exact ⟨h.1,λi f hf=>Gr.up (h.2 i f hf)⟩
   | _=>exact h.elim
theorem Gr.flat {L : List TypeId} (hL : flatB P L = true) : ∀ {n : Nat} {t : TypeId} {cs : List Value}, L.contains t = true -> Gr P S n t cs -> Gr P T n t cs
 | 0,_,_,_,h=>h.elim
 | n+1,t,cs,ht,h=>by
  have hc:=List.all_eq_true.1 hL t<|by simpa using ht
  unfold Gr at h ⊢
  cases hu:P.underlying t with
  | none=>rw [hu] at h; exact h.elim
  | some d =>
   rw [hu] at h hc
   cases d with
   | int k=>exact h
   | bool=>exact h
   | string=>exact h
   | slice e=>cases hc
   | struct fs=>exact ⟨h.1,λi f hf=>Gr.flat hL (List.all_eq_true.1 hc f (List.mem_of_getElem? (i:=i) (by simpa using hf))) (h.2 i f hf)⟩
   | _=>exact h.elim
theorem Gr.one {L : List TypeId} (hL : oneB P L = true) : ∀ (n : Nat) (t : TypeId) (cs : List Value), t ∈ L -> Gr P S n t cs -> ∀ u ∈ cs, u.oneCell' = true
 | 0,t,cs,_,h=>h.elim
 | n + 1, t, cs, ht, hg => by
  have hc:=List.all_eq_true.1 hL t ht
  have h:=hg
  unfold Gr at h
  cases hu:P.underlying t with
  | none=>rw [hu] at hc; cases hc
  | some d =>
   rw [hu] at hc h
   cases d with
   | int k=>obtain ⟨q,rfl,hq⟩:=h; intro u hm; simp at hm; subst hm; exact hq
   | bool=>obtain ⟨q,rfl,hq⟩:=h; intro u hm; simp at hm; subst hm; exact hq
   | string=>obtain ⟨q,rfl,hq⟩:=h; intro u hm; simp at hm; subst hm; exact hq
   | slice e =>
    obtain ⟨l,v,rfl,⟨a,cap,rfl,_⟩,_⟩:=h
    intro u hm; simp at hm; subst hm; rfl
   | struct fs =>
    obtain ⟨hcl,hf⟩:=h
    intro u hu2
    obtain ⟨k,hk,rfl⟩:=List.getElem_of_mem hu2
    have h1:=List.all_eq_true.1 hc k<|List.mem_range.2<|by omega
    obtain ⟨f,hfm,h2⟩:=List.any_eq_true.1 h1
    simp only [Bool.and_eq_true] at h2
    obtain ⟨⟨h3,h4⟩,h5⟩:=h2
    have h4:=Nat.le_of_ble_eq_true h4
    have h5:k<f.offset+P.cellsOf f.type:=Nat.lt_of_succ_le<|by simpa [Nat.blt] using h5
    obtain ⟨i,hi⟩:=List.getElem?_of_mem hfm
    refine Gr.one hL n f.type _ Zc (hf i f Zi) _ ?_
    refine List.mem_iff_getElem?.2 ⟨k - f.offset,?_⟩
    rw [List.getElem?_take,if_pos (by omega),List.getElem?_drop,show f.offset+(k - f.offset)=k by omega,Zy hk]
   | _=>cases hc
theorem Gr.keep {L:List TypeId} (hL:flatB P L=true) {n o k:Nat} {t:TypeId} {us us':List Value} (h:Gr P S n t ((us.drop o).take (P.cellsOf t))) (ht:L.contains t=true) (hk:P.cellsOf t=k) (he:(us.drop o).take k=(us'.drop o).take k):Gr P T n t ((us'.drop o).take (P.cellsOf t)):=by
 rw [hk] at h ⊢
 rw [<- he]
 exact Gr.flat hL ht h
theorem Gr.cut {n o k:Nat} {t:TypeId} {us vs:List Value} (h:Gr P S n t vs) (hk:P.cellsOf t=k) (he:(us.drop o).take k=vs):Gr P S n t ((us.drop o).take (P.cellsOf t)):=by
 rw [hk,he]; exact h
end
end Go.Ck
namespace Go.Fl
open Go Go.Hr
inductive Ex
 | mk (kind:Int) (name:Nm) (n:Int) (kids:List Ex)
namespace Ex
def kind:Ex->Int | .mk k _ _ _=>k
def name:Ex->Nm | .mk _ n _ _=>n
def num:Ex->Int | .mk _ _ n _=>n
def kids:Ex->List Ex | .mk _ _ _ l=>l
end Ex
mutual
def Ex.same:Ex->Ex->Bool
 | .mk k n i l,.mk k' n' i' l'=>k == k' && n == n' && i == i' && exs l l'
def exs:List Ex->List Ex->Bool
 | [],[]=>true
 | a::t,b::u=>a.same b && exs t u
 | [],_::_=>false
 | _::_,[]=>false
end
mutual
theorem Oi:∀ (a b:Ex),a.same b=true↔a=b
 | .mk k n i l,.mk k' n' i' l'=>by
  simp only [Ex.same,Bool.and_eq_true,beq_iff_eq,KX l l',Ex.mk.injEq]
  constructor
  .rintro ⟨⟨⟨h1,h2⟩,h3⟩,h4⟩; exact ⟨h1,h2,h3,h4⟩
  .rintro ⟨h1,h2,h3,h4⟩; exact ⟨⟨⟨h1,h2⟩,h3⟩,h4⟩
theorem KX:∀ (a b:List Ex),exs a b=true↔a=b
 | [],[]=>by simp [exs]
 | a::t,b::u=>by simp only [exs,Bool.and_eq_true,Oi a b,KX t u,List.cons.injEq]
 | [],_::_=>by simp [exs]
 | _::_,[]=>by simp [exs]
end
instance:DecidableEq Ex:=λa b=>decidable_of_iff _ (Oi a b)
mutual
def Ex.depth:Ex->Nat
 | .mk _ _ _ l=>exds l+1
def exds:List Ex->Nat
 | []=>0
 | a::t=>max a.depth (exds t)
end
theorem vS:∀ {l:List Ex} {t:Ex},t∈l->t.depth<=exds l
 | a::l,t,h=>by
  unfold exds
  rcases List.mem_cons.1 h with rfl | h
  .omega
  .have:=vS h; omega
theorem qj {t a:Ex} (h:a∈t.kids):a.depth<t.depth:=by
 cases t
 have:=vS h
 simp only [Ex.kids] at this
 show a.depth<exds _+1; omega
structure Cla where
 tag:Nm
 ex:Ex
 deriving DecidableEq
structure Grp where
 cls:Nm
 cs:List Cla
 deriving DecidableEq
structure Vr where
 name:Nm
 ty:Kt
 deriving DecidableEq
structure Sd where
 cls:Nm
 name:Nm
 deriving DecidableEq
structure Og where
 par:Nm
 name:Nm
 deriving DecidableEq
structure Mb where
 name:Nm
 kind:Int
 seeds:List Sd
 impl:Sd
 args:List Vr
 ty:Kt
 clients:List Nm
 pre:List Grp
 post:List Grp
 deriving DecidableEq
structure Fl where
 name:Nm
 dfd:Bool
 mems:List Mb
 inv:List Grp
 deriving DecidableEq
structure Fe where
 kind:Int
 name:Nm
 clients:List Nm
 args:List Vr
 ty:Kt
 req:List Cla
 ens:List Cla
structure Pn where
 fro:Nm
 to:Nm
structure Pt where
 name:Nm
 args:List Kt
 ren:List Pn
 und:List Nm
 red:List Nm
 sel:List Nm
structure FC where
 name:Nm
 dfd:Bool
 forms:List Fm
 pars:List Pt
 feats:List Fe
 inv:List Cla
abbrev FS:=List FC
def FC.cls (c:FC):Cls:={ name:=c.name,parents:=c.pars.map (·.name),feats:=c.feats.length }
def aZ (l:FS):Hr.Sys:=l.map FC.cls
def bQ (l:FS) (n:Nm):Option FC:=l.find? λc=>c.name == n
def Cg:FC:=⟨[],false,[],[],[],[]⟩
def mb0:Mb:=⟨[],0,[],⟨[],[]⟩,[],.mk 0 [] [] false false,[],[],[]⟩
def fl0:Fl:=⟨[],false,[],[]⟩
def ae (l:FS) (n:Nm):FC:=(bQ l n).getD Cg
def feat (c:FC) (n:Nm):Option Fe:=c.feats.find? λf=>f.name == n
def dF (l:List Mb) (n:Nm):Option Mb:=l.find? λm=>m.name == n
mutual
def dD (F:List Fm) (A:List Kt):Kt->Kt
 | .mk k n az v s=>match (if k=4 then oV F A n else none) with
  | some t=>t.flag v s
  | none=>.mk k n (KY F A az) v s
def KY (F:List Fm) (A:List Kt):List Kt->List Kt
 | []=>[]
 | a::t=>dD F A a::KY F A t
end
theorem Dl {F:List Fm} {A:List Kt}:∀ (l:List Kt),KY F A l=l.map (dD F A)
 | []=>rfl
 | a::t=>by rw [KY,Dl t]; rfl
structure Cm where
 og:Og
 par:Nat
 mem:Mb
 was:Int
 deriving DecidableEq
def Cm.dfd (x:Cm):Bool:=x.mem.kind == 3
def bJ (p:Pt) (n:Nm):Nm:=match p.ren.find? λx=>x.fro == n with
 | some x=>x.to
 | none=>n
def iO (F:List Fm) (i:Nat) (p:Pt) (m:Mb):Cm :=
 { og:=⟨p.name,m.name⟩,par:=i,was:=m.kind,mem:={ m with name:=bJ p m.name,kind:=if p.und.contains (bJ p m.name) then 3 else m.kind,args:=m.args.map λa=>{ a with ty:=dD F p.args a.ty },ty:=dD F p.args m.ty } }
def comes (fl:Nm->Fl) (l:FS) (c:FC):List Cm:=c.pars.zipIdx.flatMap λq=>(fl q.1.name).mems.map<|iO (ae l q.1.name).forms q.2 q.1
def under (cs:List Cm) (n:Nm):List Cm:=cs.filter λx=>x.mem.name == n
def slt (a b:Sd):Bool:=lt a.cls b.cls || (a.cls == b.cls && lt a.name b.name)
def yM:List Sd->Sd->List Sd
 | [],x=>[x]
 | y::t,x=>if slt x y then x::y::t else if x=y then y::t else y::yM t x
def nX (xs:List Sd):List Sd:=xs.foldl yM []
def vT (o:List Grp) (g:Grp):List Grp:=if o.contains g then o else o++[g]
def rV (o l:List Grp):List Grp:=l.foldl vT o
def groups (ls:List (List Grp)):List Grp:=ls.foldl rV []
def joined (l:List Cm):Mb :=
 let m:=match l.find? (λ(x:Cm) => !x.dfd) with
  | some x=>x.mem
  | none=>(l.head?.map λ(x:Cm)=>x.mem).getD mb0
 { m with seeds:=nX (l.flatMap λ(x:Cm)=>x.mem.seeds),pre:=l.foldl (λ(o:List Grp) (x:Cm)=>groups [o,x.mem.pre]) [],post:=l.foldl (λ(o:List Grp) (x:Cm)=>groups [o,x.mem.post]) [] }
def jB (c:FC) (f:Fe) (l:List Cm):Mb :=
 let pre:List Grp:=[⟨c.name,f.req⟩]
 let post:List Grp:=if f.ens=[] then [] else [⟨c.name,f.ens⟩]
 let m:Mb:={ name:=f.name,kind:=f.kind,seeds:=[⟨c.name,f.name⟩],impl:=⟨c.name,f.name⟩,args:=f.args,ty:=f.ty,clients:=f.clients,pre:=pre,post:=post }
 if l=[] then m else { m with seeds:=(joined l).seeds,pre:=groups [(joined l).pre,if f.req=[] then [] else pre],post:=groups [(joined l).post,post] }
def yN:List Mb->Mb->List Mb
 | [],x=>[x]
 | y::t,x=>if lt x.name y.name then x::y::t else y::yN t x
def rW (xs:List Mb):List Mb:=xs.foldl yN []
def keys (cs:List Cm):List Nm:=dd [] (cs.map λx=>x.mem.name)
def members (cs:List Cm) (c:FC):List Mb :=
 rW (((keys cs).filter λn=>(feat c n).isNone).map (λn=>joined<|under cs n)++c.feats.map λf=>jB c f<|under cs f.name)
mutual
def tpw:Kt->Int
 | .mk _ _ az _ _=>tpws 1 az
def tpws:Int->List Kt->Int
 | n,[]=>n
 | n,a::t=>tpws (IntKind.i64.wrap (n+tpw a)) t
end
def over (l:List Mb):Bool:=decide (60<l.length) || l.any λm=>decide (400<tpw m.ty) || m.args.any λv=>decide (400<tpw v.ty)
def flatOf (l:FS) (c:FC) (ms:List Mb):Fl :=
 { name:=c.name,dfd:=c.dfd,mems:=ms,inv:=(above (aZ l) c.name).filterMap λa=>if (ae l a).inv=[] then none else some ⟨a,(ae l a).inv⟩ }
def aX (l:List Mb) (s:Sd):List Nm:=(l.filter λm=>m.seeds.contains s).map (·.name)
def jK:List Nm->Nm
 | []=>[]
 | [a]=>a
 | a::b::t=>a++32::jK (b::t)
def having (cs:List Cm) (s:Sd):List Cm:=cs.filter λx=>x.mem.seeds.contains s
def cO (c:FC) (i:Nat):Pt:=(c.pars[i]?).getD ⟨[],[],[],[],[],[]⟩
def picked (c:FC) (xs:List Cm):List Nm:=dd [] ((xs.filter λx=>(cO c x.par).sel.contains x.mem.name).map λx=>x.mem.name)
def ddn (o xs:List Nat):List Nat:=xs.foldl (λo i=>if o.contains i then o else o++[i]) o
def bE (xs:List Cm):List Nat:=ddn [] (xs.map λx=>x.par)
theorem KZ : ∀ {xs o : List Nat} {i : Nat}, i ∈ ddn o xs ↔ i ∈ o \/ i ∈ xs
 | [],o,i=>by simp [ddn]
 | x::t,o,i=>by
  show i∈ddn (if o.contains x then o else o++[x]) t↔_
  rw [KZ]
  split
  .rename_i h
   have h:x∈o:=by simpa using h
   simp only [List.mem_cons]
   exact ⟨λh2=>h2.elim .inl λh2=>.inr (.inr h2),λh2=>h2.elim .inl λh2=>h2.elim (λe=>.inl (e ▸ h)) .inr⟩
  .simp [or_assoc]
theorem Dm : ∀ {xs o : List Nat}, o.Nodup -> (ddn o xs).Nodup
 | [],_,h=>h
 | x::t,o,h=>by
  show (ddn (if o.contains x then o else o++[x]) t).Nodup
  refine Dm ?_
  split
  .exact h
  .rename_i hx
   have hx:x ∉ o:=by simpa using hx
   refine List.nodup_append.2 ⟨h,by simp,λa ha b hb=>?_⟩
   simp only [List.mem_singleton] at hb
   subst hb
   exact λe=>hx (e ▸ ha)
theorem eX {xs:List Cm} {i:Nat}:i∈bE xs↔∃ x∈xs,x.par=i:=by
 unfold bE
 rw [KZ,List.mem_map]
 simp
theorem rX (xs:List Cm):(bE xs).Nodup:=Dm List.nodup_nil
def dE (fl : Nm -> Fl) (l : FS) : Nat -> FC -> List Mb -> Sd -> Nm × Bool
 | n, c, ms, s => match aX ms s with
  | [a]=>(a,true)
  | _ =>
   let xs:=having (comes fl l c) s
   if picked c xs≠[]\/(bE xs).length≠1 then (jK (picked c xs),(picked c xs).length == 1)
   else match bE xs, n with
    | i::_,n+1 =>
     let p:=cO c i
     if 1<(aX (fl p.name).mems s).length then
      let r:=dE fl l n (ae l p.name) (fl p.name).mems s
      (bJ p r.1,r.2)
     else ([],false)
    | _,_=>([],false)
structure Cf where
 kind:Int
 cls:Nm
 name:Nm
 other:Nm
 a:Og
 b:Og
 deriving DecidableEq
def og0:Og:=⟨[],[]⟩
def cf0:Cf:=⟨0,[],[],[],og0,og0⟩
structure Sk where
 fl:Nm->Fl
 l:FS
 c:FC
 ms:List Mb
 all:Bool
namespace Sk
section
variable (s:Sk)
def cs:List Cm:=comes s.fl s.l s.c
def cf (k:Int) (n:Nm) (a b:Og):Cf:=⟨k,s.c.name,n,[],a,b⟩
def fro (i:Nat) (n:Nm):List Cm:=(under s.cs n).filter λx=>x.par == i
def pairs {α : Type} (l:List α) (is : α -> α -> Bool) (f : α -> α -> Cf):List Cf :=
 l.zipIdx.flatMap λa=>l.zipIdx.flatMap λb=>if a.2=b.2\/(s.all=false/\b.2<a.2)\/is a.1 b.1=false then [] else [f a.1 b.1]
def cut (r:List Cf):List Cf:=if s.all then r else r.take 1
def cpairs (l:List Cm) (k:Int) (is:Cm->Cm->Bool):List Cf:=s.cut (s.pairs l is λa b=>s.cf k a.mem.name a.og b.og)
def pz:List (Pt×Nat):=s.c.pars.zipIdx
def lost:List Cf :=
 (s.pz.flatMap λp=>(p.1.ren.flatMap λr=>if (dF (s.fl p.1.name).mems r.fro).isNone then [s.cf 1 r.fro ⟨p.1.name,r.fro⟩ og0] else []) ++
  (p.1.und++p.1.red++p.1.sel).flatMap λn=>if s.fro p.2 n=[] then [s.cf 1 n ⟨p.1.name,n⟩ og0] else []) ++
 (s.c.pars.flatMap λp=>p.und.flatMap λn=>if p.red.contains n then [s.cf 2 n ⟨p.name,n⟩ og0] else []) ++
 (s.pz.flatMap λp=>(s.fl p.1.name).mems.flatMap λm=>if 1<(s.fro p.2<|bJ p.1 m.name).length then s.cpairs (s.fro p.2<|bJ p.1 m.name) 3 (λ_ _=>true) else []) ++
 (s.pz.flatMap λp=>p.1.und.flatMap λn=>(s.fro p.2 n).flatMap λx=>if x.was≠2 then [s.cf 4 n x.og og0] else []) ++
 (s.c.pars.flatMap λp=>p.red.flatMap λn=>if (feat s.c n).isNone then [s.cf 5 n ⟨p.name,n⟩ og0] else [])
def skeys:List Nm:=srt (keys s.cs)
def redK (f:Fe) (x:Cm):Nat->Bool
 | 0=>x.mem.kind == 1
 | 1 => !x.dfd && !(cO s.c x.par).red.contains f.name
 | _=>f.kind == 3 && !x.dfd
def redeclared:List Cf:=[0,1,2].flatMap λk=>s.skeys.flatMap λn=>match feat s.c n with
 | none=>[]
 | some f=>(under s.cs n).flatMap λx=>if s.redK f x k then [s.cf (6+k) n x.og og0] else []
def sameTy (a b:Mb):Bool:=decide (a.args=b.args) && decide (a.ty=b.ty)
def same (a b:Mb):Bool:=(decide (a.impl=b.impl) && decide (a.seeds=b.seeds)) && sameTy a b
def typed : List Cf :=
 (s.skeys.flatMap λn=>(under s.cs n).flatMap λx=>match feat s.c n with
  | none=>let y:=((under s.cs n).head?).getD x
   if sameTy y.mem x.mem then [] else [s.cf 9 n y.og x.og]
  | some f=>if decide (f.args=x.mem.args) && ((f.ty.kind == 0) == (x.mem.ty.kind == 0)) then [] else [s.cf 9 n ⟨[],n⟩ x.og]) ++
 (s.skeys.flatMap λn=>if (feat s.c n).isSome then [] else s.cpairs (under s.cs n) 10 λa b=>(!a.dfd && !b.dfd) && !same a.mem b.mem)
def seeds:List Sd:=nX (s.ms.flatMap λm=>m.seeds)
def sel (d:Sd):Nm×Bool:=dE s.fl s.l s.l.length s.c s.ms d
def chosen:List Cf :=
 (s.seeds.flatMap λd=>if (s.sel d).2 then [] else s.cut (s.pairs (aX s.ms d) (λ_ _=>true) λa b=>⟨11,s.c.name,a,b,⟨d.cls,d.name⟩,og0⟩)) ++
 (s.pz.flatMap λp=>p.1.sel.flatMap λn=>if s.fro p.2 n≠[]/\(((dF s.ms n).getD mb0).seeds.any λd=>decide (1<(aX s.ms d).length))=false then [s.cf 12 n ⟨p.1.name,n⟩ og0] else []) ++
 (s.ms.flatMap λm=>if s.c.dfd=false/\m.kind=3 then [s.cf 13 m.name og0 og0] else [])
def apart:List Cf:=s.seeds.flatMap λd=>s.pairs (s.ms.filter λm=>m.seeds.contains d) (λa b => !sameTy a b) λa b=>⟨14,s.c.name,a.name,b.name,⟨d.cls,d.name⟩,og0⟩
def conflicts:List Cf:=s.lost++(s.redeclared++(s.typed++(s.chosen++s.apart)))
end
end Sk
structure Bd where
 order:List Nm
 fl:Nm->Fl
 clash:Cf
 err:Int
def look (fs:List (Nm×Fl)) (n:Nm):Fl:=((fs.find? λp=>p.1 == n).map (·.2)).getD fl0
def mo (l:FS) (fs:List (Nm×Fl)) (n:Nm):List Mb:=members (comes (look fs) l<|ae l n) (ae l n)
def rY (l:FS) (fs:List (Nm×Fl)) (n:Nm) (all:Bool):Sk:=⟨look fs,l,ae l n,mo l fs n,all⟩
def mq (l:FS):List Nm->List (Nm×Fl)->List (Nm×Fl)×Cf×Int
 | [],fs=>(fs,cf0,0)
 | n::t,fs=>match (rY l fs n false).conflicts with
  | x::_=>(fs,x,10)
  | []=>if over (mo l fs n) then (fs,cf0,3) else mq l t (fs++[(n,flatOf l (ae l n) (mo l fs n))])
def build (l:FS):List (Nm×Fl)×Cf×Int:=mq l (order<|aZ l) []
def flF (l:FS):Nat->Nm->Fl
 | 0,_=>fl0
 | n+1,c=>flatOf l (ae l c) (members (comes (flF l n) l (ae l c)) (ae l c))
def FL (l:FS) (c:Nm):Fl:=flF l (l.length+1) c
def msF (l:FS) (c:Nm):List Mb:=members (comes (FL l) l<|ae l c) (ae l c)
def skF (l:FS) (c:Nm) (all:Bool):Sk:=⟨FL l,l,ae l c,msF l c,all⟩
def vU (l:FS) (c:Nm) (all:Bool):List Cf:=(skF l c all).conflicts
section
variable {l:FS}
theorem gN:(aZ l).length=l.length:=by simp [aZ]
theorem Dn (c:Nm):Hr.find (aZ l) c=(bQ l c).map FC.cls:=by
 unfold Hr.find aZ bQ
 rw [List.find?_map]; rfl
theorem dx (c:Nm):isC (aZ l) c=(bQ l c).isSome:=by unfold isC; rw [Dn]; cases bQ l c <;> rfl
theorem ql {c:Nm} {x:FC} (h:bQ l c=some x):x.name=c:=by simpa using List.find?_some h
theorem iI {c:Nm} {x:FC} (h:bQ l c=some x):ae l c=x:=by unfold ae; rw [h]; rfl
theorem vV {c:Nm} (h:bQ l c=none):ae l c=Cg:=by unfold ae; rw [h]; rfl
theorem wZ (c:Nm):pars (aZ l) c=(ae l c).pars.map λp=>p.name:=by
 unfold pars; rw [Dn]
 cases h:bQ l c with
 | none=>rw [vV h]; rfl
 | some x=>rw [iI h]; rfl
theorem Av (hr:Right (aZ l)) (c:Nm):par (aZ l) c=(ae l c).pars.map λp=>p.name:=by rw [<- hr.pars_eq,wZ]
theorem dK (hr:Right (aZ l)) {c:Nm} {p:Pt} (hp:p∈(ae l c).pars):p.name∈par (aZ l) c:=by rw [Av hr]; exact List.mem_map.2 ⟨p,hp,rfl⟩
theorem zl {α : Type} {xs:List α} {q : α × Nat} (h:q∈xs.zipIdx):q.1∈xs:=by
 obtain ⟨x,i⟩:=q
 exact List.mem_of_getElem?<|List.mem_zipIdx_iff_getElem?.1 h
theorem dM {α β : Type} {f g : α -> List β}:∀ {xs:List α},(∀ x∈xs,f x=g x)->xs.flatMap f=xs.flatMap g
 | [],_=>rfl
 | a::t,h=>by rw [List.flatMap_cons,List.flatMap_cons,h a (by simp),dM λx hx=>h x (by simp [hx])]
theorem o7 {α β : Type} {f g : α -> Option β}:∀ {xs:List α},(∀ x∈xs,f x=g x)->xs.filterMap f=xs.filterMap g
 | [],_=>rfl
 | a::t,h=>by rw [List.filterMap_cons,List.filterMap_cons,h a (by simp),o7 λx hx=>h x (by simp [hx])]
theorem jZ (ha:gT (aZ l)) {c p:Nm} (h:p∈par (aZ l) c):has (aZ l) c p=true/\p≠c:=⟨sw h,λe=>by have:=iJ ha h; rw [e] at this; omega⟩
theorem vW (ha:gT (aZ l)) {c p a:Nm} (h:p∈par (aZ l) c) (h2:has (aZ l) p a=true):has (aZ l) c a=true/\a≠c:=⟨oD (sw h) h2,λe=>by
 have:=iJ ha h
 rcases has_rk ha h2 with h3 | h3
 .rw [e] at h3; rw [h3] at this; omega
 .rw [e] at h3; omega⟩
theorem gz {fl:Nm->Fl} {c:FC} {x:Cm} (h:x∈comes fl l c):∃ p,c.pars[x.par]? = some p/\∃ m∈(fl p.name).mems,x=iO (ae l p.name).forms x.par p m:=by
 unfold comes at h
 obtain ⟨⟨p,i⟩,hq,hx⟩:=List.mem_flatMap.1 h
 obtain ⟨m,hm,rfl⟩:=List.mem_map.1 hx
 exact ⟨p,List.mem_zipIdx_iff_getElem?.1 hq,m,hm,rfl⟩
theorem o8 {fl:Nm->Fl} {c:FC} {s:Sd} {i:Nat} (h:i∈bE (having (comes fl l c) s)):cO c i∈c.pars:=by
 obtain ⟨x,hx,rfl⟩:=eX.1 h
 obtain ⟨p,hp,_⟩:=gz (List.mem_filter.1 hx).1
 unfold cO; rw [hp]
 exact List.mem_of_getElem? hp
theorem jr {fl fl':Nm->Fl} {c:FC} (h:∀ p∈c.pars,fl p.name=fl' p.name):comes fl l c=comes fl' l c:=by
 unfold comes
 refine dM λq hq=>?_
 rw [h q.1 (zl hq)]
theorem Gz (hr : Right (aZ l)) : ∀ (f g : Nat) (c : Nm), rk (aZ l) c < f -> rk (aZ l) c < g -> flF l f c = flF l g c
 | 0,_,_,h,_=>by omega
 | _+1,0,_,_,h=>by omega
 | f+1,g+1,c,h1,h2=>by
  have:comes (flF l f) l (ae l c)=comes (flF l g) l (ae l c):=jr λp hp=>by
   have:=iJ hr.acyc<|dK hr hp
   exact Gz hr f g p.name (by omega)<|by omega
  unfold flF
  rw [this]
theorem GA (hr:Right (aZ l)) (c:Nm):FL l c=flatOf l (ae l c) (msF l c):=by
 have:comes (flF l l.length) l (ae l c)=comes (FL l) l (ae l c):=jr λp hp=>by
  have h1:=iJ hr.acyc<|dK hr hp
  have h2:=q9 (aZ l) c
  rw [gN] at h2
  exact Gz hr _ _ _ (by omega)<|by omega
 show flatOf l (ae l c) (members (comes (flF l l.length) l<|ae l c)<|ae l c)=_
 rw [this]; rfl
theorem fB (hr:Right (aZ l)) (c:Nm):(FL l c).mems=msF l c:=by rw [GA hr]; rfl
theorem FL_name (hr:Right (aZ l)) (c:Nm):(FL l c).name=(ae l c).name:=by rw [GA hr]; rfl

/-! ### What a class's conflicts depend on -/
theorem uu (hr : Right (aZ l)) {fl fl' : Nm -> Fl} : ∀ (n : Nat) (c : Nm) (ms : List Mb) (s : Sd), (∀ a, has (aZ l) c a = true -> a ≠ c -> fl a = fl' a) -> dE fl l n (ae l c) ms s = dE fl' l n (ae l c) ms s
 | 0, c, ms, s, h => by
  have hc:comes fl l (ae l c)=comes fl' l (ae l c):=jr λp hp=>h _ (jZ hr.acyc<|dK hr hp).1 (jZ hr.acyc<|dK hr hp).2
  unfold dE
  rw [hc]
  split
  .rfl
  .simp only []
   split
   .rfl
   .split
    .rename_i h2; cases h2
    .rfl
 | n + 1, c, ms, s, h => by
  have hp1:∀ p∈(ae l c).pars,fl p.name=fl' p.name:=λp hp=>h _ (jZ hr.acyc<|dK hr hp).1 (jZ hr.acyc<|dK hr hp).2
  have hc:comes fl l (ae l c)=comes fl' l (ae l c):=jr hp1
  unfold dE
  rw [hc]
  split
  .rfl
  .simp only []
   split
   .rfl
   .split
    .rename_i i t n' h1 h2
     cases h2
     have hi:i∈bE (having (comes fl' l<|ae l c) s):=by rw [h1]; simp
     have hpm:cO (ae l c) i∈(ae l c).pars:=o8 hi
     have hpp:=dK hr hpm
     rw [hp1 _ hpm,uu hr n (cO (ae l c) i).name _ s λa ha hne=>h a (vW hr.acyc hpp ha).1 (vW hr.acyc hpp ha).2]
    .rfl
end
section
variable {l:FS}
theorem Dp {fl fl' : Nm -> Fl} {l' : FS} {c : FC} {ms : List Mb} {all : Bool} (hc : comes fl l c = comes fl' l' c) (hp1 : ∀ p ∈ c.pars, fl p.name = fl' p.name) (h6 : ∀ d, (Sk.mk fl l c ms all).sel d = (Sk.mk fl' l' c ms all).sel d) :
  (Sk.mk fl l c ms all).conflicts=(Sk.mk fl' l' c ms all).conflicts:=by
 have h1:(Sk.mk fl l c ms all).cs=(Sk.mk fl' l' c ms all).cs:=hc
 have h2:∀ i n,(Sk.mk fl l c ms all).fro i n=(Sk.mk fl' l' c ms all).fro i n:=λi n=>by unfold Sk.fro; rw [h1]
 have h3 : (Sk.mk fl l c ms all).lost = (Sk.mk fl' l' c ms all).lost := by
  have k1:∀ p∈c.pars.zipIdx,fl p.1.name=fl' p.1.name:=λp hp=>hp1 _<|zl hp
  unfold Sk.lost
  congr 1
  .congr 1
   .congr 1
    .congr 1
     refine dM λp hp=>?_
     have:=k1 p hp
     simp only [h2,this]
     rfl
    .refine dM λp hp=>?_
     have:=k1 p hp
     simp only [h2,this]
     rfl
   .refine dM λp hp=>?_
    simp only [h2]
    rfl
 have h4:(Sk.mk fl l c ms all).redeclared=(Sk.mk fl' l' c ms all).redeclared:=by
  unfold Sk.redeclared Sk.skeys
  simp only [h1]
  rfl
 have h5:(Sk.mk fl l c ms all).typed=(Sk.mk fl' l' c ms all).typed:=by
  unfold Sk.typed Sk.skeys
  simp only [h1]
  rfl
 have h7:(Sk.mk fl l c ms all).chosen=(Sk.mk fl' l' c ms all).chosen:=by
  unfold Sk.chosen
  simp only [h6,h2]
  rfl
 unfold Sk.conflicts
 rw [h3,h4,h5,h7]; rfl
theorem I1 (hr:Right (aZ l)) {fl fl':Nm->Fl} {c:Nm} {ms:List Mb} {all:Bool} (h:∀ a,has (aZ l) c a=true->a≠c->fl a=fl' a):(Sk.mk fl l (ae l c) ms all).conflicts=(Sk.mk fl' l (ae l c) ms all).conflicts :=
 have hp1:∀ p∈(ae l c).pars,fl p.name=fl' p.name:=λp hp=>h _ (jZ hr.acyc<|dK hr hp).1 (jZ hr.acyc<|dK hr hp).2
 Dp (jr hp1) hp1 λd=>uu hr _ c ms d h
def forms (l:FS) (o:List Nm):List (Nm×Fl):=o.map λn=>(n,FL l n)
theorem qm {o:List Nm} {n:Nm} (h:n∈o):look (forms l o) n=FL l n:=by
 unfold look forms
 rw [List.find?_map]
 cases hf:o.find? ((λp:Nm×Fl=>p.1 == n) ∘ λn=>(n,FL l n)) with
 | none =>
  have:=List.find?_eq_none.1 hf n h
  simp at this
 | some x =>
  have hx:=List.find?_some hf
  simp only [Function.comp_apply,beq_iff_eq] at hx
  subst hx; rfl
theorem LK {o:List Nm} {n:Nm} (h:n ∉ o):look (forms l o) n=fl0:=by
 unfold look forms
 rw [List.find?_map]
 cases hf:o.find? ((λp:Nm×Fl=>p.1 == n) ∘ λn=>(n,FL l n)) with
 | none=>rfl
 | some x =>
  have hx:=List.find?_some hf
  simp only [Function.comp_apply,beq_iff_eq] at hx
  exact absurd (hx ▸ List.mem_of_find?_eq_some hf) h
def Upto (l:FS) (o:List Nm) (n:Nm):Prop:=∀ a,has (aZ l) n a=true->a≠n->a∈o
theorem tp_upto (ha:gT (aZ l)) {d t:List Nm} {n:Nm} (h:Tp (aZ l) (d++n::t)):Upto l d n:=λa h1 h2=>by
 have hn:n∈d++n::t:=by simp
 have hm:=h.has hn h1
 rcases List.mem_append.1 hm with hm | hm
 .exact hm
 rcases List.mem_cons.1 hm with hm | hm
 .exact absurd hm h2
 .obtain ⟨j,hj,rfl⟩:=List.getElem_of_mem hm
  have h3:=h.ahead d.length (d.length+1+j) (by omega) (by simp; omega)
  rw [List.getElem_append_right (by omega),List.getElem_append_right (by omega)] at h3
  simp only [Nat.sub_self,List.getElem_cons_zero,show d.length+1+j - d.length=j+1 by omega,List.getElem_cons_succ] at h3
  rw [h1] at h3; cases h3
theorem GD (hr:Right (aZ l)) {o:List Nm} {n:Nm} (h:Upto l o n):mo l (forms l o) n=msF l n:=by
 unfold mo msF
 rw [jr (fl':=FL l) λp hp=>qm (h _ (jZ hr.acyc<|dK hr hp).1 (jZ hr.acyc<|dK hr hp).2)]
theorem I4 (hr:Right (aZ l)) {o:List Nm} {n:Nm} {all:Bool} (h:Upto l o n):(rY l (forms l o) n all).conflicts=vU l n all:=by
 unfold rY vU skF
 rw [GD hr h]
 exact I1 hr λa h1 h2=>qm<|h a h1 h2
def scan (l:FS):List Nm->List Nm×Cf×Int
 | []=>([],cf0,0)
 | n::t=>match vU l n false with
  | x::_=>([],x,10)
  | []=>if over (msF l n) then ([],cf0,3) else (n::(scan l t).1,(scan l t).2)
theorem Dq (hr : Right (aZ l)) : ∀ (t d : List Nm), Tp (aZ l) (d ++ t) -> mq l t (forms l d) = (forms l (d ++ (scan l t).1), (scan l t).2)
 | [],d,_=>by simp [mq,scan]
 | n :: t, d, h => by
  have hu:=tp_upto hr.acyc h
  have h':Tp (aZ l) (d++[n]++t):=by rw [List.append_assoc]; exact h
  unfold mq scan
  rw [I4 hr hu,GD hr hu]
  cases hc:vU l n false with
  | cons x _=>simp only [List.append_nil]
  | nil =>
   simp only []
   split
   .simp only [List.append_nil]
   .rw [<- GA hr,show forms l d++[(n,FL l n)]=forms l (d++[n]) by simp [forms],Dq hr t (d++[n]) h',List.append_assoc]
    rfl
theorem GG (hr:Right (aZ l)):build l=(forms l (scan l (order (aZ l))).1,(scan l (order (aZ l))).2):=by
 have:=Dq hr (order<|aZ l) [] (jU hr.acyc hr.uniq).1
 rw [List.nil_append] at this
 exact this
def okF (l:FS) (n:Nm):Prop:=vU l n false=[]/\over (msF l n)=false
theorem scan_ok {o:List Nm} (h:(scan l o).2.2=0):(scan l o).1=o/\(scan l o).2.1=cf0/\∀ n∈o,okF l n:=by
 induction o with
 | nil=>exact ⟨rfl,rfl,by simp⟩
 | cons n t ih =>
  unfold scan at h ⊢
  cases hc:vU l n false with
  | cons x _=>rw [hc] at h; cases h
  | nil =>
   rw [hc] at h
   simp only [] at h ⊢
   split at h
   .cases h
   .rename_i ho
    obtain ⟨h1,h2,h3⟩:=ih h
    rw [if_neg ho]
    refine ⟨by rw [h1],h2,λm hm=>?_⟩
    rcases List.mem_cons.1 hm with rfl | hm
    .exact ⟨hc,by simpa using ho⟩
    .exact h3 m hm
theorem GH {o:List Nm} (h:∀ n∈o,okF l n):scan l o=(o,cf0,0):=by
 induction o with
 | nil=>rfl
 | cons n t ih =>
  obtain ⟨h1,h2⟩:=h n<|by simp
  unfold scan
  rw [h1,h2,ih λm hm=>h m (by simp [hm])]
  rfl
end
section
variable {fl:Nm->Fl} {l:FS} {c:FC} {ms:List Mb}
def Part (a b:List Cf):Prop:=(∀ x∈a,x∈b)/\(a=[]->b=[])
theorem Part.refl (a:List Cf):Part a a:=⟨λ_ h=>h,λh=>h⟩
theorem Part.app {a b a' b':List Cf} (h:Part a b) (h':Part a' b'):Part (a++a') (b++b'):=by
 refine ⟨λx hx=>?_,λhx=>?_⟩
 .rcases List.mem_append.1 hx with hx | hx
  .exact List.mem_append_left _<|h.1 x hx
  .exact List.mem_append_right _<|h'.1 x hx
 .obtain ⟨h1,h2⟩:=List.append_eq_nil_iff.1 hx
  rw [h.2 h1,h'.2 h2]; rfl
theorem Part.flat {α : Type} {f g : α -> List Cf} {xs:List α} (h:∀ x∈xs,Part (f x) (g x)):Part (xs.flatMap f) (xs.flatMap g):=by
 induction xs with
 | nil=>exact Part.refl _
 | cons a t ih =>
  rw [List.flatMap_cons,List.flatMap_cons]
  exact (h a<|by simp).app (ih λx hx=>h x<|by simp [hx])
theorem Aw {s:Sk} {α : Type} {xs:List α} {is : α -> α -> Bool} {f : α -> α -> Cf} {x:Cf}:x∈s.pairs xs is f↔∃ (i k:Nat) (a b : α),xs[i]? = some a/\xs[k]? = some b/\i≠k/\(s.all=false->i<k)/\is a b=true/\x=f a b:=by
 unfold Sk.pairs
 constructor
 .intro h
  obtain ⟨⟨a,i⟩,h1,h2⟩:=List.mem_flatMap.1 h
  obtain ⟨⟨b,k⟩,h3,h4⟩:=List.mem_flatMap.1 h2
  simp only [] at h4
  split at h4
  .simp at h4
  .rename_i hq
   simp only [not_or,not_and,Bool.not_eq_false] at hq
   obtain ⟨q1,q2,q3⟩:=hq
   simp only [List.mem_singleton] at h4
   exact ⟨i,k,a,b,List.mem_zipIdx_iff_getElem?.1 h1,List.mem_zipIdx_iff_getElem?.1 h3,q1,λh=>by have:=q2 h; omega,q3,h4⟩
 .rintro ⟨i,k,a,b,h1,h2,h3,h4,h5,rfl⟩
  refine List.mem_flatMap.2 ⟨(a,i),List.mem_zipIdx_iff_getElem?.2 h1,List.mem_flatMap.2 ⟨(b,k),List.mem_zipIdx_iff_getElem?.2 h2,?_⟩⟩
  have hq:¬ (i=k\/(s.all=false/\k<i)\/is a b=false):=by
   simp only [not_or,not_and,Bool.not_eq_false]
   exact ⟨h3,λh=>by have:=h4 h; omega,h5⟩
  simp only []
  rw [if_neg hq]; simp
theorem ym {a b:Mb} (h:Sk.sameTy a b=true):Sk.sameTy b a=true:=by
 unfold Sk.sameTy at *
 simp only [Bool.and_eq_true,decide_eq_true_eq] at *
 exact ⟨h.1.symm,h.2.symm⟩
theorem w9 {a b:Mb} (h:Sk.same a b=true):Sk.same b a=true:=by
 unfold Sk.same at *
 simp only [Bool.and_eq_true,decide_eq_true_eq] at *
 exact ⟨⟨h.1.1.symm,h.1.2.symm⟩,ym h.2⟩
end
def lower (b:UInt8):Bool:=decide (97<=b.toNat) && decide (b.toNat<=122)
def okS (b:UInt8):Bool:=(lower b || digit b) || b.toNat == 95
def qo : Nm := "true false void current result and as attached check class create deferred detachable do else end ensure feature from if implies inherit invariant local loop not old or put raise redefine rename require rescue retry select separate then undefine until variant when".toUTF8.data.toList
def rZ:Nm->Nm->List Nm
 | [],w=>if w=[] then [] else [w]
 | b::t,w=>if b=32 then (if w=[] then rZ t [] else w::rZ t []) else rZ t (w++[b])
def kws:List Nm:=rZ qo []
def small (s:Nm):Bool:=match s with
 | []=>false
 | b::_=>decide (s.length<=20) && lower b && s.all okS && !kws.contains s
def kX (xs:List Int):Int:=(xs.find? (· != 0)).getD 0
def xe (fs:List Fe) (q:Fe×Nat):Int :=
 if small q.1.name=false then 4 else if (fs.take q.2).any λg=>g.name == q.1.name then 6
 else if q.1.kind<1\/3<q.1.kind\/(q.1.kind=1/\(q.1.args≠[]\/q.1.ty.kind=0)) then 2 else 0
def vX (c:FC):Int:=if 60<c.feats.length then 3 else kX (c.feats.zipIdx.map<|xe c.feats)
def Ay (p:Pt):Int:=if p.ren.any λx => !small x.to then 4 else if (p.ren.map λx=>x.fro).Nodup then 0 else 6
def jL (l:FS) (c:FC):Int :=
 if 3<c.forms.length then 3 else if ¬ (c.forms.map λf=>f.name).Nodup then 6
 else if c.pars.any λp=>decide (p.args.length≠(ae l p.name).forms.length) then 2
 else if vX c≠0 then vX c else kX (c.pars.map Ay)
def cu (l:FS):Int×Nm :=
 if (check<|aZ l).1≠0 then check (aZ l) else match (l.map λc=>(jL l c,c.name)).find? λe=>e.1 != 0 with
  | some e=>e
  | none=>(0,[])
structure FRight (l:FS):Prop where
 sys:Right (aZ l)
 form:∀ c∈l,jL l c=0
theorem jv {l:FS}:(cu l).1=0↔FRight l:=by
 unfold cu
 split
 .rename_i h
  exact ⟨λh2=>absurd h2 h,λh2=>absurd (pI.2 h2.sys) h⟩
 .rename_i h
  have h:=Classical.not_not.1 h
  split
  .rename_i e he
   have h1:=List.find?_some he
   obtain ⟨c,hc,rfl⟩:=List.mem_map.1<|List.mem_of_find?_eq_some he
   simp only [bne_iff_ne,ne_eq] at h1
   exact ⟨λh2=>absurd h2 h1,λh2=>absurd (h2.form c hc) h1⟩
  .rename_i hn
   refine ⟨λ_=>⟨pI.1 h,λc hc=>?_⟩,λ_=>rfl⟩
   have:=List.find?_eq_none.1 hn (jL l c,c.name)<|List.mem_map.2 ⟨c,hc,rfl⟩
   simpa using this
theorem nz {xs:List Int}:kX xs=0↔∀ x∈xs,x=0:=by
 unfold kX
 cases h:xs.find? (· != 0) with
 | none=>exact ⟨λ_ x hx=>by simpa using List.find?_eq_none.1 h x hx,λ_=>rfl⟩
 | some e =>
  have h1:=List.find?_some h
  simp only [bne_iff_ne,ne_eq] at h1
  exact ⟨λh2=>absurd h2 h1,λh2=>absurd (h2 e<|List.mem_of_find?_eq_some h) h1⟩
structure CRight (l:FS) (c:FC):Prop where
 few:c.forms.length<=3
 once:(c.forms.map λf=>f.name).Nodup
 args:∀ p∈c.pars,p.args.length=(ae l p.name).forms.length
 feats:c.feats.length<=60
 names:(c.feats.map λf=>f.name).Nodup
 fsmall:∀ f∈c.feats,small f.name=true
 fkind:∀ f∈c.feats,1<=f.kind/\f.kind<=3/\(f.kind=1->f.args=[]/\f.ty.kind≠0)
 tosmall:∀ p∈c.pars,∀ x∈p.ren,small x.to=true
 ren:∀ p∈c.pars,(p.ren.map λx=>x.fro).Nodup
theorem I5 {fs:List Fe} (h:∀ (i:Nat) (f:Fe),fs[i]? = some f->((fs.take i).any λg=>g.name == f.name)=false):(fs.map λf=>f.name).Nodup:=by
 rw [List.nodup_iff_pairwise_ne,List.pairwise_iff_getElem]
 intro i j hi hj hij
 simp only [List.length_map] at hi hj
 rw [List.getElem_map,List.getElem_map]
 intro e
 have h1:=h j fs[j]<|List.getElem?_eq_getElem hj
 have:fs[i]∈fs.take j:=by rw [List.mem_take_iff_getElem]; exact ⟨i,by omega,rfl⟩
 have h2:=List.any_eq_false.1 h1 _ this
 simp [e] at h2
theorem gJ {l:FS} {c:FC} (h:jL l c=0):CRight l c:=by
 unfold jL at h
 split at h
 .cases h
 rename_i q1
 split at h
 .cases h
 rename_i q2
 split at h
 .cases h
 rename_i q3
 split at h
 .rename_i q; exact absurd h q
 rename_i q4
 have q4:=Classical.not_not.1 q4
 unfold vX at q4
 split at q4
 .cases q4
 rename_i q5
 have h1:=nz.1 q4
 have h2:=nz.1 h
 have h3:∀ (i:Nat) (f:Fe),c.feats[i]? = some f->xe c.feats (f,i)=0:=λi f hf=>h1 _<|List.mem_map.2 ⟨(f,i),List.mem_zipIdx_iff_getElem?.2 hf,rfl⟩
 have h4:∀ (i:Nat) (f:Fe),c.feats[i]? = some f->small f.name=true/\((c.feats.take i).any λg=>g.name == f.name)=false/\1<=f.kind/\f.kind<=3/\(f.kind=1->f.args=[]/\f.ty.kind≠0):=λi f hf=>by
  have:=h3 i f hf
  unfold xe at this
  simp only [] at this
  split at this
  .cases this
  rename_i k1
  split at this
  .cases this
  rename_i k2
  split at this
  .cases this
  rename_i k3
  simp only [not_or,not_and] at k3
  exact ⟨by simpa using k1,by simpa using k2,by omega,by omega,λhk=>⟨Classical.not_not.1 (k3.2.2 hk).1,(k3.2.2 hk).2⟩⟩
 have h5:∀ p∈c.pars,Ay p=0:=λp hp=>h2 _<|List.mem_map.2 ⟨p,hp,rfl⟩
 have h6:∀ p∈c.pars,(p.ren.any λx => !small x.to)=false/\(p.ren.map λx=>x.fro).Nodup:=λp hp=>by
  have:=h5 p hp
  unfold Ay at this
  split at this
  .cases this
  rename_i k1
  split at this
  .rename_i k2; exact ⟨by simpa using k1,k2⟩
  .cases this
 refine ⟨by omega,Classical.not_not.1 q2,λp hp=>?_,by omega,I5 λi f hf=>(h4 i f hf).2.1,λf hf=>?_,λf hf=>?_,λp hp x hx=>?_,λp hp=>(h6 p hp).2⟩
 .have:=List.any_eq_false.1 (Bool.not_eq_true _ ▸ q3) p hp
  simpa using this
 .obtain ⟨i,hi,rfl⟩:=List.getElem_of_mem hf
  exact (h4 i _<|List.getElem?_eq_getElem hi).1
 .obtain ⟨i,hi,rfl⟩:=List.getElem_of_mem hf
  exact (h4 i _<|List.getElem?_eq_getElem hi).2.2
 .have:=List.any_eq_false.1 (h6 p hp).1 x hx
  simpa using this

/-! ### What the calls return -/
def kY (l:FS):Cf×Bool×Int :=
 if (cu l).1≠0 then (cf0,false,(cu l).1) else if (build l).2.2=3 then (cf0,false,3) else ((build l).2.1,(build l).2.2 == 10,0)
def wholeE (l:FS) (ns:List Nm):Int:=if (cu l).1≠0 then (cu l).1 else if ns.all (λn=>(bQ l n).isSome) then (build l).2.2 else 5
def fF (l:FS):List Fl×Int:=if wholeE l []≠0 then ([],wholeE l []) else ((build l).1.map λp=>p.2,0)
def tO (l:FS) (x:Cf):List Nm->List (Nm×Fl)->Int
 | [],_=>11
 | n::t,fs=>if n=x.cls then (if (rY l fs n true).conflicts.contains x then 0 else 11)
  else if (rY l fs n false).conflicts≠[] then 11 else if over (mo l fs n) then 11 else tO l x t (fs++[(n,flatOf l (ae l n) (mo l fs n))])
def mr (l:FS) (x:Cf):Int:=if (cu l).1≠0 then (cu l).1 else if (bQ l x.cls).isNone then 11 else tO l x (above (aZ l) x.cls) []
section
variable {l:FS}
theorem iy (hr:Right (aZ l)) {n:Nm}:n∈order (aZ l)↔(bQ l n).isSome=true:=by
 rw [(jU hr.acyc hr.uniq).2,<- dx,fV]
theorem Dr (h:(cu l).1≠0):kY l=(cf0,false,(cu l).1)/\fF l=([],(cu l).1)/\∀ x,mr l x=(cu l).1:=by
 have hw:wholeE l []=(cu l).1:=by unfold wholeE; rw [if_pos h]
 exact ⟨by unfold kY; rw [if_pos h],by unfold fF; rw [hw,if_pos h],λx=>by unfold mr; rw [if_pos h]⟩
theorem Az (h:(cu l).1=0):kY l=(if (build l).2.2=3 then (cf0,false,3) else ((build l).2.1,(build l).2.2 == 10,0))/\(fF l).2=(build l).2.2:=by
 have h':¬ (cu l).1≠0:=λh2=>h2 h
 have hw:wholeE l []=(build l).2.2:=by unfold wholeE; rw [if_neg h']; rfl
 refine ⟨by unfold kY; rw [if_neg h'],?_⟩
 unfold fF; rw [hw]
 split
 .rfl
 .rename_i h; exact (Classical.not_not.1 h).symm
end
theorem nY {α : Type} {r : α -> α -> Prop} (irr : ∀ a, ¬ r a a) (asy : ∀ a b, r a b -> ¬ r b a) : ∀ {xs ys : List α}, xs.Pairwise r -> ys.Pairwise r -> (∀ a, a ∈ xs ↔ a ∈ ys) -> xs = ys
 | [],[],_,_,_=>rfl
 | [],y::t,_,_,h=>absurd ((h y).2 (by simp)) (by simp)
 | x::s,[],_,_,h=>absurd ((h x).1 (by simp)) (by simp)
 | x::s,y::t,h1,h2,h=>by
  obtain ⟨a1,a2⟩:=List.pairwise_cons.1 h1
  obtain ⟨b1,b2⟩:=List.pairwise_cons.1 h2
  have hxy:x=y:=by
   rcases List.mem_cons.1 ((h x).1 (by simp)) with e | e
   .exact e
   rcases List.mem_cons.1 ((h y).2 (by simp)) with e2 | e2
   .exact e2.symm
   .exact absurd (b1 x e)<|asy _ _<|a1 y e2
  subst hxy
  refine congrArg _ (nY irr asy a2 b2 λa=>⟨λha=>?_,λha=>?_⟩)
  .rcases List.mem_cons.1 ((h a).1 (by simp [ha])) with e | e
   .subst e; exact absurd (a1 _ ha) (irr _)
   .exact e
  .rcases List.mem_cons.1 ((h a).2 (by simp [ha])) with e | e
   .subst e; exact absurd (b1 _ ha) (irr _)
   .exact e
def tq (xs:List Mb):Prop:=xs.Pairwise λa b=>lt a.name b.name=true
theorem vZ:∀ {o:List Mb} {x y:Mb},y∈yN o x↔y∈o\/y=x
 | [],x,y=>by simp [yN]
 | z::t,x,y=>by
  unfold yN
  split
  .rw [List.mem_cons,or_comm]
  .rw [List.mem_cons,vZ,List.mem_cons,or_assoc]
theorem GI : ∀ {o : List Mb} {x : Mb}, tq o -> (∀ y ∈ o, y.name ≠ x.name) -> tq (yN o x)
 | [],x,_,_=>by simp [yN,tq]
 | z :: t, x, h, hn => by
  obtain ⟨h1,h2⟩:=List.pairwise_cons.1 h
  unfold yN
  split
  .rename_i hz
   refine List.pairwise_cons.2 ⟨λy hy=>?_,h⟩
   rcases List.mem_cons.1 hy with rfl | hy
   .exact hz
   .exact lt_trans hz<|h1 y hy
  .rename_i hz
   have hx:lt z.name x.name=true:=by
    rcases eu x.name z.name with h | h | h
    .exact absurd h hz
    .exact absurd h.symm<|hn z<|by simp
    .exact h
   refine List.pairwise_cons.2 ⟨λy hy=>?_,GI h2 λy hy=>hn y<|by simp [hy]⟩
   rcases vZ.1 hy with hy | rfl
   .exact h1 y hy
   .exact hx
theorem jb {xs:List Mb} (hn:(xs.map λm=>m.name).Nodup):tq (rW xs)/\∀ y,y∈rW xs↔y∈xs:=by
 have key : ∀ (xs o : List Mb), tq o -> (xs.map λm => m.name).Nodup -> (∀ x ∈ xs, ∀ y ∈ o, y.name ≠ x.name) -> tq (xs.foldl yN o) /\ ∀ y, y ∈ xs.foldl yN o ↔ y ∈ o \/ y ∈ xs := by
  intro xs
  induction xs with
  | nil=>intro o h _ _; exact ⟨h,λy=>by simp⟩
  | cons x t ih =>
   intro o h hn hd
   rw [List.map_cons,List.nodup_cons] at hn
   obtain ⟨h1,h2⟩:=ih (yN o x) (GI h λy hy=>hd x (by simp) y hy) hn.2 λz hz y hy=>by
    rcases vZ.1 hy with hy | rfl
    .exact hd z (by simp [hz]) y hy
    .exact λe=>hn.1 (by rw [e]; exact List.mem_map.2 ⟨z,hz,rfl⟩)
   refine ⟨h1,λy=>?_⟩
   rw [List.foldl_cons,h2,vZ,List.mem_cons,or_assoc]
 obtain ⟨h1,h2⟩:=key xs [] List.Pairwise.nil hn<|by simp
 exact ⟨h1,λy=>by rw [show rW xs=xs.foldl yN [] from rfl,h2]; simp⟩
theorem yn {xs ys:List Mb} (h1:tq xs) (h2:tq ys) (h:∀ m,m∈xs↔m∈ys):xs=ys :=
 nY (r:=λ(a b:Mb)=>lt a.name b.name=true) (λa h=>by rw [lt_irrefl] at h; cases h) (λa b h g=>by rw [iQ h] at g; cases g) h1 h2 h
theorem tq.nodup {xs:List Mb} (h:tq xs):(xs.map λm=>m.name).Nodup:=by
 rw [List.nodup_iff_pairwise_ne,List.pairwise_map]
 exact h.imp λ{a b} hab e=>by rw [e,lt_irrefl] at hab; cases hab
theorem I6 {xs:List Mb} {n:Nm} {m:Mb} (h:dF xs n=some m):m∈xs/\m.name=n:=⟨List.mem_of_find?_eq_some h,by simpa using List.find?_some h⟩
/-! ### Seeds -/
theorem qp (a:Sd):slt a a=false:=by simp [slt,lt_irrefl]
theorem sP {a b c:Sd} (h1:slt a b=true) (h2:slt b c=true):slt a c=true:=by
 unfold slt at *
 simp only [Bool.or_eq_true,Bool.and_eq_true,beq_iff_eq] at *
 rcases h1 with h1 | ⟨h1,h3⟩ <;> rcases h2 with h2 | ⟨h2,h4⟩
 .exact .inl<|lt_trans h1 h2
 .exact .inl (h2 ▸ h1)
 .exact .inl (h1 ▸ h2)
 .exact .inr ⟨h1.trans h2,lt_trans h3 h4⟩
theorem sQ (a b:Sd):slt a b=true\/a=b\/slt b a=true:=by
 obtain ⟨a1,a2⟩:=a
 obtain ⟨b1,b2⟩:=b
 unfold slt
 simp only [Bool.or_eq_true,Bool.and_eq_true,beq_iff_eq,Sd.mk.injEq]
 rcases eu a1 b1 with h | h | h
 .exact .inl<|.inl h
 .rcases eu a2 b2 with g | g | g
  .exact .inl<|.inr ⟨h,g⟩
  .exact .inr<|.inl ⟨h,g⟩
  .exact .inr<|.inr<|.inr ⟨h.symm,g⟩
 .exact .inr<|.inr<|.inl h
theorem LM {a b:Sd} (h:slt a b=true):¬ slt b a=true:=λh2=>by
 have:=sP h h2
 rw [qp] at this; cases this
def yO (xs:List Sd):Prop:=xs.Pairwise λa b=>slt a b=true
theorem AA : ∀ {o : List Sd} {x y : Sd}, y ∈ yM o x ↔ y ∈ o \/ y = x
 | [],x,y=>by simp [yM]
 | z :: t, x, y => by
  unfold yM
  split
  .rw [List.mem_cons,or_comm]
  .split
   .rename_i h; subst h
    exact ⟨.inl,λh=>h.elim id λh=>h ▸ List.mem_cons_self⟩
   .rw [List.mem_cons,AA,List.mem_cons,or_assoc]
theorem GJ : ∀ {o : List Sd} {x : Sd}, yO o -> yO (yM o x)
 | [],x,_=>by simp [yM,yO]
 | z :: t, x, h => by
  obtain ⟨h1,h2⟩:=List.pairwise_cons.1 h
  unfold yM
  split
  .rename_i hz
   refine List.pairwise_cons.2 ⟨λy hy=>?_,h⟩
   rcases List.mem_cons.1 hy with rfl | hy
   .exact hz
   .exact sP hz<|h1 y hy
  .rename_i hz
   split
   .exact h
   .rename_i hne
    have hx:slt z x=true:=by
     rcases sQ x z with h | h | h
     .exact absurd h hz
     .exact absurd h hne
     .exact h
    refine List.pairwise_cons.2 ⟨λy hy=>?_,GJ h2⟩
    rcases AA.1 hy with hy | rfl
    .exact h1 y hy
    .exact hx
theorem fG (xs:List Sd):yO (nX xs)/\∀ y,y∈nX xs↔y∈xs:=by
 have key:∀ (xs o:List Sd),yO o->yO (xs.foldl yM o)/\∀ y,y∈xs.foldl yM o↔y∈o\/y∈xs:=by
  intro xs
  induction xs with
  | nil=>intro o h; exact ⟨h,λy=>by simp⟩
  | cons x t ih =>
   intro o h
   obtain ⟨h1,h2⟩:=ih (yM o x)<|GJ h
   refine ⟨h1,λy=>?_⟩
   rw [List.foldl_cons,h2,AA,List.mem_cons,or_assoc]
 obtain ⟨h1,h2⟩:=key xs [] List.Pairwise.nil
 exact ⟨h1,λy=>by rw [show nX xs=xs.foldl yM [] from rfl,h2]; simp⟩
theorem yt {xs ys:List Sd} (h1:yO xs) (h2:yO ys) (h:∀ m,m∈xs↔m∈ys):xs=ys :=
 nY (r:=λ(a b:Sd)=>slt a b=true) (λa h=>by rw [qp] at h; cases h) (λ_ _ h=>LM h) h1 h2 h

/-! ### Members of a class -/
section
variable {l:FS}
theorem kK {cs:List Cm} {n:Nm}:n∈keys cs↔∃ x∈cs,x.mem.name=n:=by
 unfold keys
 rw [zC,List.mem_map]; simp
theorem iB (cs:List Cm):(keys cs).Nodup:=by
 have : ∀ (xs o : List Nm), o.Nodup -> (dd o xs).Nodup := by
  intro xs
  induction xs with
  | nil=>exact λ_ h=>h
  | cons x t ih =>
   intro o h
   refine ih (Hr.step o x) ?_
   by_cases hx:x∈o
   .rw [lV hx]; exact h
   .rw [oF hx]
    refine List.nodup_append.2 ⟨h,by simp,λa ha b hb=>?_⟩
    simp only [List.mem_singleton] at hb
    subst hb
    exact λe=>hx (e ▸ ha)
 exact this _ [] List.nodup_nil
theorem bD {cs:List Cm} {n:Nm} {x:Cm}:x∈under cs n↔x∈cs/\x.mem.name=n:=by simp [under]
theorem jw (l:List Cm) (h:l≠[]):∃ x∈l,(joined l).name=x.mem.name/\(joined l).kind=x.mem.kind/\(joined l).impl=x.mem.impl/\(joined l).args=x.mem.args/\(joined l).ty=x.mem.ty/\(joined l).clients=x.mem.clients:=by
 unfold joined
 cases hf:l.find? (λ(x:Cm) => !x.dfd) with
 | some x=>exact ⟨x,List.mem_of_find?_eq_some hf,rfl,rfl,rfl,rfl,rfl,rfl⟩
 | none =>
  cases l with
  | nil=>exact absurd rfl h
  | cons x t=>exact ⟨x,by simp,rfl,rfl,rfl,rfl,rfl,rfl⟩
theorem yu {cs:List Cm} {n:Nm} (h:n∈keys cs):(joined (under cs n)).name=n:=by
 obtain ⟨x,hx,hn⟩:=kK.1 h
 obtain ⟨y,hy,h1,_⟩:=jw (under cs n)<|List.ne_nil_of_mem<|bD.2 ⟨hx,hn⟩
 rw [h1]; exact (bD.1 hy).2
theorem Dt (c:FC) (f:Fe) (l:List Cm):(jB c f l).name=f.name:=by unfold jB; simp only []; split <;> rfl
theorem LP {c:FC} {n:Nm} {f:Fe} (h:feat c n=some f):f∈c.feats/\f.name=n:=⟨List.mem_of_find?_eq_some h,by simpa using List.find?_some h⟩
theorem GK {c:FC} (hn:(c.feats.map λf=>f.name).Nodup) {f:Fe} (h:f∈c.feats):feat c f.name=some f:=by
 unfold feat
 generalize c.feats=xs at hn h
 induction xs with
 | nil=>cases h
 | cons x t ih =>
  rw [List.map_cons,List.nodup_cons] at hn
  rcases List.mem_cons.1 h with rfl | h
  .rw [List.find?_cons_of_pos (by simp)]
  .have hne:x.name≠f.name:=λe=>hn.1 (by rw [e]; exact List.mem_map.2 ⟨f,h,rfl⟩)
   rw [List.find?_cons_of_neg (by simpa using hne)]
   exact ih hn.2 h
def uw (cs:List Cm) (c:FC):List Mb:=((keys cs).filter λn=>(feat c n).isNone).map (λn=>joined<|under cs n)++c.feats.map λf=>jB c f<|under cs f.name
theorem LQ (cs:List Cm) (c:FC):(uw cs c).map (λm=>m.name)=((keys cs).filter λn=>(feat c n).isNone)++c.feats.map λf=>f.name:=by
 unfold uw
 rw [List.map_append,List.map_map,List.map_map]
 congr 1
 .refine (List.map_congr_left λn hn=>?_).trans<|List.map_id _
  exact yu (List.mem_filter.1 hn).1
 .exact List.map_congr_left λf _=>Dt c f _
theorem Du (cs:List Cm) {c:FC} (hn:(c.feats.map λf=>f.name).Nodup):((uw cs c).map λm=>m.name).Nodup:=by
 rw [LQ]
 refine List.nodup_append.2 ⟨(iB cs).filter _,hn,λa ha b hb e=>?_⟩
 subst e
 obtain ⟨f,hf,rfl⟩:=List.mem_map.1 hb
 have:=(List.mem_filter.1 ha).2
 rw [GK hn hf] at this; cases this
theorem jM (cs:List Cm) {c:FC} (hn:(c.feats.map λf=>f.name).Nodup):tq (members cs c)/\∀ m,m∈members cs c↔m∈uw cs c:=jb (Du cs hn)
theorem gH {cs:List Cm} {c:FC} (hn:(c.feats.map λf=>f.name).Nodup) {m:Mb}:m∈members cs c↔(∃ n,(∃ x∈cs,x.mem.name=n)/\feat c n=none/\m=joined (under cs n))\/∃ f∈c.feats,m=jB c f (under cs f.name):=by
 rw [(jM cs hn).2]
 unfold uw
 rw [List.mem_append,List.mem_map,List.mem_map]
 constructor
 .rintro (⟨n,h,rfl⟩ | ⟨f,h,rfl⟩)
  .obtain ⟨h1,h2⟩:=List.mem_filter.1 h
   exact .inl ⟨n,kK.1 h1,by simpa using h2,rfl⟩
  .exact .inr ⟨f,h,rfl⟩
 .rintro (⟨n,h1,h2,rfl⟩ | ⟨f,h,rfl⟩)
  .exact .inl ⟨n,List.mem_filter.2 ⟨kK.2 h1,by rw [h2]; rfl⟩,rfl⟩
  .exact .inr ⟨f,h,rfl⟩
end
def eY (l:FS) (n:Nm):Fl×Int:=if wholeE l [n]≠0 then (fl0,wholeE l [n]) else (look (build l).1 n,0)
def bY (l:FS) (ns:List Nm) (c n:Nm):Mb×Int:=if wholeE l (ns++[c])≠0 then (mb0,wholeE l (ns++[c])) else match dF (look (build l).1 c).mems n with
 | some m=>(m,0)
 | none=>(mb0,4)
def checkFl (l:FS) (f:List Fl):Int:=if (cu l).1≠0 then (cu l).1 else if (fF l).2≠0\/(fF l).1≠f then 11 else 0
section
variable {l:FS}
structure Good (l:FS):Prop where
 right:FRight l
 ok:∀ n,(bQ l n).isSome=true->okF l n
theorem Good.sys (h:Good l):Right (aZ l):=h.right.sys
theorem AB:(fF l).2=0↔Good l:=by
 by_cases hf:(cu l).1=0
 .have hR:=jv.1 hf
  have hr:=hR.sys
  rw [(Az hf).2,GG hr]
  constructor
  .intro h
   exact ⟨hR,λn hn=>(scan_ok h).2.2 n ((iy hr).2 hn)⟩
  .intro h
   rw [GH λn hn=>h.ok n ((iy hr).1 hn)]
 .rw [(Dr hf).2.1]
  exact ⟨λh=>absurd h hf,λh=>absurd (jv.2 h.right) hf⟩
theorem Good.check (h:Good l):(cu l).1=0:=jv.2 h.right
theorem Good.scan (h:Good l):Fl.scan l (order (aZ l))=(order (aZ l),cf0,0):=GH λn hn=>h.ok n ((iy h.sys).1 hn)
theorem Good.build (h:Good l):Fl.build l=(forms l (order (aZ l)),cf0,0):=by rw [GG h.sys,h.scan]
theorem Good.look (h:Good l) {n:Nm} (hn:(bQ l n).isSome=true):Fl.look (Fl.build l).1 n=FL l n:=by
 rw [h.build]; exact qm ((iy h.sys).2 hn)
theorem Good.whole (h:Good l) {ns:List Nm}:wholeE l ns=0↔∀ n∈ns,(bQ l n).isSome=true:=by
 unfold wholeE
 rw [if_neg (λh2=>h2 h.check),h.build]
 split
 .rename_i h2; simpa using h2
 .rename_i h2
  refine ⟨λh=>(by cases h),λh3=>absurd (by simpa using h3) h2⟩
theorem Good.wholeE (h:Good l) {ns:List Nm} (hn:¬ ∀ n∈ns,(bQ l n).isSome=true):Fl.wholeE l ns=5:=by
 unfold Fl.wholeE
 rw [if_neg (λh2=>h2 h.check),if_neg (by simpa using hn)]
theorem Good.flats (h:Good l):fF l=((order (aZ l)).map (FL l),0):=by
 unfold fF
 rw [if_neg (λh2=>h2<|h.whole.2<|by simp),h.build]
 simp [forms]
theorem Good.flatOf (h:Good l) {n:Nm} (hn:(bQ l n).isSome=true):eY l n=(FL l n,0):=by
 unfold eY
 rw [if_neg (λh2=>h2<|h.whole.2<|by simpa using hn),h.look hn]
theorem Good.class (h:Good l) {n:Nm} (hn:(bQ l n).isSome=true):CRight l (ae l n)/\(ae l n).name=n/\ae l n∈l:=by
 obtain ⟨c,hc⟩:=Option.isSome_iff_exists.1 hn
 rw [iI hc]
 have hm:=List.mem_of_find?_eq_some hc
 exact ⟨gJ (h.right.form c hm),ql hc,hm⟩
theorem Good.mems (h:Good l) {n:Nm} (hn:(bQ l n).isSome=true):(FL l n).name=n/\(FL l n).mems=msF l n/\tq (msF l n)/\∀ m,m∈msF l n↔(∃ k,(∃ x∈comes (FL l) l (ae l n),x.mem.name=k)/\feat (ae l n) k=none/\m=joined (under (comes (FL l) l (ae l n)) k))\/∃ f∈(ae l n).feats,m=jB (ae l n) f (under (comes (FL l) l (ae l n)) f.name):=by
 obtain ⟨h1,h2,_⟩:=h.class hn
 refine ⟨by rw [FL_name h.sys,h2],fB h.sys n,(jM _ h1.names).1,λm=>gH h1.names⟩
theorem Good.member (h:Good l) {ns:List Nm} {c n:Nm} (hns:∀ k∈ns,(bQ l k).isSome=true) (hc:(bQ l c).isSome=true):bY l ns c n=match dF (msF l c) n with
  | some m=>(m,0)
  | none=>(mb0,4):=by
 have hw:Fl.wholeE l (ns++[c])=0:=h.whole.2 λk hk=>by
  rcases List.mem_append.1 hk with hk | hk
  .exact hns k hk
  .rw [List.mem_singleton.1 hk]; exact hc
 unfold bY
 rw [hw,if_neg (by decide),h.look hc,fB h.sys]
end
section
variable {l:FS}
theorem Oj {o:List Grp} {g x:Grp}:x∈vT o g↔x∈o\/x=g:=by
 unfold vT
 split
 .rename_i h
  have h:g∈o:=by simpa using h
  exact ⟨.inl,λh2=>h2.elim id λe=>e ▸ h⟩
 .simp
theorem Ol {o l:List Grp} {x:Grp}:x∈rV o l↔x∈o\/x∈l:=by
 unfold rV
 induction l generalizing o with
 | nil=>simp
 | cons g t ih=>rw [List.foldl_cons,ih,Oj,List.mem_cons,or_assoc]
theorem jc {ls:List (List Grp)} {x:Grp}:x∈groups ls↔∃ a∈ls,x∈a:=by
 have key:∀ (ls:List (List Grp)) (o:List Grp),x∈ls.foldl rV o↔x∈o\/∃ a∈ls,x∈a:=by
  intro ls
  induction ls with
  | nil=>intro o; simp
  | cons a t ih=>intro o; rw [List.foldl_cons,ih,Ol,or_assoc]; simp
 have:=key ls []
 simpa [groups] using this
theorem qN {cs:List Cm} {f:Cm->List Grp} {x:Grp}:x∈cs.foldl (λ(o:List Grp) (y:Cm)=>groups [o,f y]) []↔∃ y∈cs,x∈f y:=by
 have key:∀ (cs:List Cm) (o:List Grp),x∈cs.foldl (λ(o:List Grp) (y:Cm)=>groups [o,f y]) o↔x∈o\/∃ y∈cs,x∈f y:=by
  intro cs
  induction cs with
  | nil=>intro o; simp
  | cons a t ih=>intro o; rw [List.foldl_cons,ih,jc]; simp [or_assoc]
 have:=key cs []
 simpa using this
theorem lF {cs:List Cm} {s:Sd}:s∈(joined cs).seeds↔∃ x∈cs,s∈x.mem.seeds:=by
 show s∈nX _↔_
 rw [(fG _).2,List.mem_flatMap]
theorem mD {cs:List Cm} {g:Grp}:g∈(joined cs).pre↔∃ x∈cs,g∈x.mem.pre:=qN (f:=λx=>x.mem.pre)
theorem kL {cs:List Cm} {g:Grp}:g∈(joined cs).post↔∃ x∈cs,g∈x.mem.post:=qN (f:=λx=>x.mem.post)
theorem Dv {c:FC} {f:Fe} {cs:List Cm} (h:cs≠[]):(jB c f cs).seeds=(joined cs).seeds/\(jB c f cs).args=f.args/\(∀ g∈(joined cs).pre,g∈(jB c f cs).pre)/\(∀ g∈(joined cs).post,g∈(jB c f cs).post):=by
 unfold jB
 simp only []
 rw [if_neg h]
 exact ⟨rfl,rfl,λg hg=>jc.2 ⟨_,by simp,hg⟩,λg hg=>jc.2 ⟨_,by simp,hg⟩⟩
theorem LU {c:FC} {f:Fe}:(jB c f []).seeds=[⟨c.name,f.name⟩]:=rfl
theorem gL {a b:Mb}:Sk.sameTy a b=true↔a.args=b.args/\a.ty=b.ty:=by simp [Sk.sameTy]
theorem flatMap_nil {α β : Type} {f : α -> List β} {xs:List α} (h:xs.flatMap f=[]):∀ x∈xs,f x=[]:=λx hx=>by
 cases hf:f x with
 | nil=>rfl
 | cons y t =>
  have:y∈xs.flatMap f:=List.mem_flatMap.2 ⟨x,hx,by rw [hf]; simp⟩
  rw [h] at this; cases this
structure Calm (l:FS) (n:Nm):Prop where
 lost:(skF l n false).lost=[]
 redecl:(skF l n false).redeclared=[]
 typed:(skF l n false).typed=[]
 chosen:(skF l n false).chosen=[]
 apart:(skF l n false).apart=[]
theorem okF.calm {n:Nm} (h:okF l n):Calm l n:=by
 have h1:(skF l n false).conflicts=[]:=h.1
 unfold Sk.conflicts at h1
 simp only [List.append_eq_nil_iff] at h1
 exact ⟨h1.1,h1.2.1,h1.2.2.1,h1.2.2.2.1,h1.2.2.2.2⟩
theorem xg {fl:Nm->Fl} {c:FC} {i:Nat} {p:Pt} {m:Mb} (hp:c.pars[i]? = some p) (hm:m∈(fl p.name).mems):iO (ae l p.name).forms i p m∈comes fl l c :=
 List.mem_flatMap.2 ⟨(p,i),List.mem_zipIdx_iff_getElem?.2 hp,List.mem_map.2 ⟨m,hm,rfl⟩⟩
theorem o9 {s:Sk} {n:Nm}:n∈s.skeys↔∃ x∈s.cs,x.mem.name=n:=by
 unfold Sk.skeys
 rw [(iR _).2,kK]
theorem Good.come (h : Good l) {n : Nm} (hn : (bQ l n).isSome = true) {x : Cm} (hx : x ∈ comes (FL l) l (ae l n)) :
  ∃ m∈msF l n,m.name=x.mem.name/\(∀ s∈x.mem.seeds,s∈m.seeds)/\m.args=x.mem.args/\(∀ g∈x.mem.pre,g∈m.pre)/\(∀ g∈x.mem.post,g∈m.post):=by
 have hc:=(h.ok n hn).calm
 obtain ⟨g1,g2,g3,g4⟩:=h.mems hn
 obtain ⟨k1,k2,k3⟩:=h.class hn
 have hu:x∈under (comes (FL l) l<|ae l n) x.mem.name:=bD.2 ⟨hx,rfl⟩
 have ht:=(List.append_eq_nil_iff.1 hc.typed).1
 have hk:x.mem.name∈(skF l n false).skeys:=o9.2 ⟨x,hx,rfl⟩
 have ht1:=flatMap_nil<|flatMap_nil ht _ hk
 cases hf:feat (ae l n) x.mem.name with
 | none =>
  refine ⟨joined (under (comes (FL l) l<|ae l n) x.mem.name),(g4 _).2 (.inl ⟨_,⟨x,hx,rfl⟩,hf,rfl⟩),yu (kK.2 ⟨x,hx,rfl⟩),λs hs=>lF.2 ⟨x,hu,hs⟩,?_,λg hg=>mD.2 ⟨x,hu,hg⟩,λg hg=>kL.2 ⟨x,hu,hg⟩⟩
  obtain ⟨y,hy,_,_,_,hya,_⟩:=jw _<|List.ne_nil_of_mem hu
  rw [hya]
  have hs:∀ z∈under (comes (FL l) l<|ae l n) x.mem.name,∀ w,(under (comes (FL l) l<|ae l n) x.mem.name).head? = some w->w.mem.args=z.mem.args:=λz hz w hw=>by
   have h1:=ht1 z hz
   have hf':feat (skF l n false).c x.mem.name=none:=hf
   rw [hf'] at h1
   simp only [] at h1
   have hw':(under (skF l n false).cs x.mem.name).head? = some w:=hw
   rw [hw'] at h1
   by_cases hq:Sk.sameTy ((some w).getD z).mem z.mem=true
   .exact (gL.1 hq).1
   .rw [if_neg hq] at h1; cases h1
  cases hw:(under (comes (FL l) l<|ae l n) x.mem.name).head? with
  | none =>
   rw [List.head?_eq_none_iff] at hw
   rw [hw] at hu; cases hu
  | some w=>rw [<- hs y hy w hw,<- hs x hu w hw]
 | some f =>
  obtain ⟨hfm,hfn⟩:=LP hf
  have hne:under (comes (FL l) l<|ae l n) f.name≠[]:=by rw [hfn]; exact List.ne_nil_of_mem hu
  obtain ⟨o1,o2,o3,o4⟩:=Dv (c:=ae l n) (f:=f) hne
  refine ⟨jB (ae l n) f (under (comes (FL l) l<|ae l n) f.name),(g4 _).2 (.inr ⟨f,hfm,rfl⟩),by rw [Dt,hfn],λs hs=>?_,?_,λg hg=>o3 g (mD.2 ⟨x,by rw [hfn]; exact hu,hg⟩),λg hg=>o4 g<|kL.2 ⟨x,by rw [hfn]; exact hu,hg⟩⟩
  .rw [o1]; exact lF.2 ⟨x,by rw [hfn]; exact hu,hs⟩
  .rw [o2]
   have h1:=ht1 x hu
   have hf':feat (skF l n false).c x.mem.name=some f:=hf
   rw [hf'] at h1
   simp only [] at h1
   split at h1
   .rename_i hq
    simp only [Bool.and_eq_true,decide_eq_true_eq] at hq
    exact hq.1
   .cases h1
theorem Good.seeds_ne (h:Good l):∀ c,(bQ l c).isSome=true->∀ m∈msF l c,m.seeds≠[]:=by
 refine nI h.sys.acyc λc ih hc m hm=>?_
 have hj:∀ xs:List Cm,xs≠[]->(∀ x∈xs,x∈comes (FL l) l (ae l c))->(joined xs).seeds≠[]:=λxs hne hxs=>by
  obtain ⟨x,hx⟩:=List.exists_mem_of_ne_nil _ hne
  obtain ⟨p,hp,m1,hm1,he⟩:=gz<|hxs x hx
  have hpm:=dK h.sys<|List.mem_of_getElem? hp
  rw [fB h.sys] at hm1
  obtain ⟨s,hs⟩:=List.exists_mem_of_ne_nil _<|ih _ hpm (by rw [<- dx]; exact kr hpm) m1 hm1
  exact List.ne_nil_of_mem<|lF.2 ⟨x,hx,by rw [he]; exact hs⟩
 rcases ((h.mems hc).2.2.2 m).1 hm with ⟨n,⟨x,hx,hn⟩,_,rfl⟩ | ⟨f,hf,rfl⟩
 .exact hj _ (List.ne_nil_of_mem<|bD.2 ⟨hx,hn⟩) λy hy=>(bD.1 hy).1
 .by_cases hu:under (comes (FL l) l<|ae l c) f.name=[]
  .rw [hu,LU]; simp
  .rw [(Dv hu).1]
   exact hj _ hu λy hy=>(bD.1 hy).1

/-! ### Names that are selected -/
theorem j4 {ms:List Mb} {s:Sd} {n:Nm}:n∈aX ms s↔∃ m∈ms,s∈m.seeds/\m.name=n:=by
 unfold aX
 rw [List.mem_map]
 constructor
 .rintro ⟨m,h,rfl⟩
  obtain ⟨h1,h2⟩:=List.mem_filter.1 h
  exact ⟨m,h1,by simpa using h2,rfl⟩
 .rintro ⟨m,h1,h2,rfl⟩
  exact ⟨m,List.mem_filter.2 ⟨h1,by simpa using h2⟩,rfl⟩
theorem Good.pick_mem (h:Good l) {s:Sd} {c:Nm} (hc:(bQ l c).isSome=true) (hl:((picked (ae l c) (having (comes (FL l) l (ae l c)) s)).length == 1)=true) :
  jK (picked (ae l c)<|having (comes (FL l) l<|ae l c) s)∈aX (msF l c) s:=by
 have hl:(picked (ae l c)<|having (comes (FL l) l<|ae l c) s).length=1:=by simpa using hl
 match hp:picked (ae l c) (having (comes (FL l) l<|ae l c) s),hl with
 | [a],_ =>
  show a∈_
  have ha:a∈picked (ae l c) (having (comes (FL l) l<|ae l c) s):=by rw [hp]; simp
  unfold picked at ha
  rw [zC] at ha
  rcases ha with ha | ha
  .cases ha
  obtain ⟨x,hx,rfl⟩:=List.mem_map.1 ha
  obtain ⟨hx1,_⟩:=List.mem_filter.1 hx
  obtain ⟨hx2,hx3⟩:=List.mem_filter.1 hx1
  obtain ⟨m,hm,j1,j2,_⟩:=h.come hc hx2
  exact j4.2 ⟨m,hm,j2 s (by simpa using hx3),j1⟩
theorem Good.sel_mem (h:Good l) {s:Sd}:∀ (n:Nat) (c:Nm),(bQ l c).isSome=true->(dE (FL l) l n (ae l c) (msF l c) s).2=true->(dE (FL l) l n (ae l c) (msF l c) s).1∈aX (msF l c) s:=by
 intro n
 induction n with
 | zero =>
  intro c hc
  unfold dE
  split
  .rename_i a ha
   intro _; rw [ha]; simp
  .simp only []
   split
   .rename_i hq
    intro h1
    exact h.pick_mem hc h1
   .split
    .rename_i h2; cases h2
    .intro h1; cases h1
 | succ n ih =>
  intro c hc
  unfold dE
  split
  .rename_i a ha
   intro _; rw [ha]; simp
  .simp only []
   split
   .rename_i hq
    intro h1
    exact h.pick_mem hc h1
   .split
    .rename_i i t n' h1 h2
     cases h2
     have hi:i∈bE (having (comes (FL l) l<|ae l c) s):=by rw [h1]; simp
     have hpm:cO (ae l c) i∈(ae l c).pars:=o8 hi
     have hpp:=dK h.sys hpm
     have hpc:(bQ l (cO (ae l c) i).name).isSome=true:=by rw [<- dx]; exact kr hpp
     split
     .intro h3
      rw [fB h.sys] at h3 ⊢
      obtain ⟨m,hm,hs,hmn⟩:=j4.1<|ih _ hpc h3
      have hpi:(ae l c).pars[i]? = some (cO (ae l c) i):=by
       obtain ⟨x,hx,rfl⟩:=eX.1 hi
       obtain ⟨p,hp,_⟩:=gz (List.mem_filter.1 hx).1
       unfold cO; rw [hp]; rfl
      obtain ⟨m2,hm2,j1,j2,_⟩:=h.come hc<|xg (fl:=FL l) (l:=l) hpi (m:=m) (by rw [fB h.sys]; exact hm)
      refine j4.2 ⟨m2,hm2,j2 s hs,?_⟩
      rw [j1,<- hmn]; rfl
     .intro h3; cases h3
    .intro h1; cases h1
end
def j6 (l:FS) (c:Nm) (s:Sd):List Nm×Int:=if wholeE l [c]≠0 then ([],wholeE l [c]) else if aX (look (build l).1 c).mems s=[] then ([],5) else (aX (look (build l).1 c).mems s,0)
def selOf (l:FS) (c:Nm) (s:Sd):Nm×Bool:=dE (look (build l).1) l l.length (ae l c) (look (build l).1 c).mems s
def Dw (l:FS) (c:Nm) (s:Sd):Nm×Int:=if (j6 l c s).2≠0 then ([],(j6 l c s).2) else ((selOf l c s).1,0)
def uA (ms:List Mb) (ss:List Sd):List Nm:=(ms.filter λx=>ss.all λs=>x.seeds.contains s).map λx=>x.name
def wh (l:FS) (d c n:Nm):Nm×Int :=
 if (bY l [d] c n).2≠0 then ([],(bY l [d] c n).2) else if has (aZ l) d c=false then ([],5) else
 match uA (look (build l).1 d).mems (bY l [d] c n).1.seeds with
 | []=>([],5)
 | [a]=>(a,0)
 | a::b::t=>if (a::b::t).contains (selOf l d ((bY l [d] c n).1.seeds.headD ⟨[],[]⟩)).1 then ((selOf l d ((bY l [d] c n).1.seeds.headD ⟨[],[]⟩)).1,0) else ([],5)
section
variable {l:FS}
theorem LV (h:Good l) {c:Nm} (hc:(bQ l c).isSome=true) (n:Nat) (ms:List Mb) (s:Sd):dE (look (build l).1) l n (ae l c) ms s=dE (FL l) l n (ae l c) ms s :=
 uu h.sys n c ms s λa h1 _=>h.look (by rw [<- dx]; exact sD (by rw [dx]; exact hc) h1)
theorem Good.selOf (h:Good l) {c:Nm} (hc:(bQ l c).isSome=true) (s:Sd):Fl.selOf l c s=dE (FL l) l l.length (ae l c) (msF l c) s:=by
 unfold Fl.selOf
 rw [LV h hc,h.look hc,fB h.sys]
theorem Good.names (h:Good l) {c:Nm} (hc:(bQ l c).isSome=true) (s:Sd):j6 l c s=if aX (msF l c) s=[] then ([],5) else (aX (msF l c) s,0):=by
 unfold j6
 rw [if_neg (λh2=>h2<|h.whole.2<|by simpa using hc),h.look hc,fB h.sys]
theorem Good.sel_ok (h : Good l) {c : Nm} (hc : (bQ l c).isSome = true) {s : Sd} {m : Mb} (hm : m ∈ msF l c) (hs : s ∈ m.seeds) :
  (dE (FL l) l l.length (ae l c) (msF l c) s).2=true/\(dE (FL l) l l.length (ae l c) (msF l c) s).1∈aX (msF l c) s:=by
 have key : (dE (FL l) l l.length (ae l c) (msF l c) s).2 = true := by
  cases hq:(dE (FL l) l l.length (ae l c) (msF l c) s).2 with
  | true=>rfl
  | false =>
   exfalso
   have h1:=(List.append_eq_nil_iff.1 (List.append_eq_nil_iff.1 (h.ok c hc).calm.chosen).1).1
   have hsd:s∈(skF l c false).seeds:=by
    unfold Sk.seeds
    rw [(fG _).2,List.mem_flatMap]
    exact ⟨m,hm,hs⟩
   have h2:=flatMap_nil h1 s hsd
   have hq':((skF l c false).sel s).2=false:=hq
   rw [hq',if_neg (by decide)] at h2
   have hn:m.name∈aX (msF l c) s:=j4.2 ⟨m,hm,hs,rfl⟩
   match hl:aX (msF l c) s,hn with
   | [a],_ =>
    have:(dE (FL l) l l.length (ae l c) (msF l c) s).2=true:=by unfold dE; rw [hl]
    rw [hq] at this; cases this
   | a::b::t,_ =>
    have hmem:∀ f,f a b∈(skF l c false).pairs (aX (msF l c) s) (λ_ _=>true) f:=λf=>Aw.2 ⟨0,1,a,b,by rw [hl]; rfl,by rw [hl]; rfl,by decide,λ_=>by decide,rfl,rfl⟩
    have h3:∀ r:List Cf,(skF l c false).cut r=[]->r=[]:=λr hr=>by
     cases r with
     | nil=>rfl
     | cons x t=>simp [Sk.cut,skF] at hr
    have h4:=h3 _ h2
    have h5:=hmem λa b=>⟨11,(skF l c false).c.name,a,b,⟨s.cls,s.name⟩,og0⟩
    have h6:(skF l c false).pairs (aX (skF l c false).ms s) (λ_ _=>true) (λa b=>⟨11,(skF l c false).c.name,a,b,⟨s.cls,s.name⟩,og0⟩)=[]:=h4
    have h7:(skF l c false).ms=msF l c:=rfl
    rw [h7] at h6
    rw [h6] at h5; cases h5
 exact ⟨key,h.sel_mem _ c hc key⟩
theorem Good.selected (h:Good l) {c:Nm} (hc:(bQ l c).isSome=true) {s:Sd} {m:Mb} (hm:m∈msF l c) (hs:s∈m.seeds):j6 l c s=(aX (msF l c) s,0)/\Dw l c s=((Fl.selOf l c s).1,0)/\(Fl.selOf l c s).1∈aX (msF l c) s:=by
 have hne:aX (msF l c) s≠[]:=List.ne_nil_of_mem<|j4.2 ⟨m,hm,hs,rfl⟩
 have h1:j6 l c s=(aX (msF l c) s,0):=by rw [h.names hc,if_neg hne]
 refine ⟨h1,?_,?_⟩
 .unfold Dw; rw [h1,if_neg (by simp)]
 .rw [h.selOf hc]; exact (h.sel_ok hc hm hs).2
end
section
variable {l m:FS}
theorem Dx (hr:Right (aZ l)) {fl:Nm->Fl}:∀ (f g:Nat) (c:Nm) (ms:List Mb) (s:Sd),(bQ l c).isSome=true->rk (aZ l) c<=f->rk (aZ l) c<=g->dE fl l f (ae l c) ms s=dE fl l g (ae l c) ms s:=by
 have h1:∀ c,(bQ l c).isSome=true->1<=rk (aZ l) c:=λc hc=>by
  unfold rk
  exact List.countP_pos_iff.2 ⟨c,fV.1 (by rw [dx]; exact hc),lU _ c⟩
 intro f
 induction f with
 | zero=>intro g c ms s hc h2; have:=h1 c hc; omega
 | succ f ih =>
  intro g c ms s hc h2 h3
  cases g with
  | zero=>have:=h1 c hc; omega
  | succ g =>
   unfold dE
   split
   .rfl
   .simp only []
    split
    .rfl
    .split
     .rename_i i t n' e1 e2
      cases e2
      rw [e1]
      simp only []
      have hi:i∈bE (having (comes fl l<|ae l c) s):=by rw [e1]; simp
      have hpp:=dK hr<|o8 hi
      have:=iJ hr.acyc hpp
      rw [ih g _ _ s (by rw [<- dx]; exact kr hpp) (by omega) (by omega)]
     .rename_i e1
      split
      .rename_i i t n' e2 e3
       cases e3
       exact absurd rfl<|e1 i t f e2
      .rfl
structure Agree (l m:FS) (D:Nm->Prop):Prop where
 left:Right (aZ l)
 right:Right (aZ m)
 find:∀ c,D c->bQ m c=bQ l c
 up:∀ c,D c->∀ p∈par (aZ l) c,D p
 there:∀ c,D c->(bQ l c).isSome=true
variable {D:Nm->Prop}
theorem Agree.class (h:Agree l m D) {c:Nm} (hc:D c):ae m c=ae l c:=by unfold ae; rw [h.find c hc]
theorem Agree.par (h:Agree l m D) {c:Nm} (hc:D c):Hr.par (aZ m) c=Hr.par (aZ l) c:=by rw [Av h.left,Av h.right,h.class hc]
theorem Agree.W (h:Agree l m D) {a:Nm}:∀ (k:Nat) {c:Nm},D c->Hr.W (aZ m) a k c=Hr.W (aZ l) a k c
 | 0,c,_=>rfl
 | k+1,c,hc=>by
  show (Hr.par (aZ m) c).any _=(Hr.par (aZ l) c).any _
  rw [h.par hc,Bool.eq_iff_iff,List.any_eq_true,List.any_eq_true]
  exact ⟨λ⟨p,h1,h2⟩=>⟨p,h1,by rw [<- h.W k (h.up c hc p h1)]; exact h2⟩,λ⟨p,h1,h2⟩=>⟨p,h1,by rw [h.W k (h.up c hc p h1)]; exact h2⟩⟩
theorem Agree.has (h:Agree l m D) {c a:Nm} (hc:D c):Hr.has (aZ m) c a=Hr.has (aZ l) c a:=by
 rw [Bool.eq_iff_iff,fH,fH]
 exact ⟨λ⟨k,hk⟩=>⟨k,by rw [<- h.W k hc]; exact hk⟩,λ⟨k,hk⟩=>⟨k,by rw [h.W k hc]; exact hk⟩⟩
theorem Agree.above (h:Agree l m D):∀ c,D c->Hr.above (aZ m) c=Hr.above (aZ l) c:=by
 refine nI h.left.acyc λc ih hc=>?_
 rw [CO h.left.acyc,CO h.right.acyc,h.par hc]
 congr 1
 have key:∀ (ps o:List Nm),(∀ p∈ps,p∈Hr.par (aZ l) c)->ps.foldl (λo p=>dd o<|Hr.above (aZ m) p) o=ps.foldl (λo p=>dd o<|Hr.above (aZ l) p) o:=by
  intro ps
  induction ps with
  | nil=>intro _ _; rfl
  | cons p t ih2 =>
   intro o hp
   rw [List.foldl_cons,List.foldl_cons,ih p (hp p<|by simp) (h.up c hc p<|hp p<|by simp)]
   exact ih2 _ λq hq=>hp q<|by simp [hq]
 exact key _ [] λ_ h=>h
theorem Agree.parD (h:Agree l m D) {c:Nm} (hc:D c) {p:Pt} (hp:p∈(ae l c).pars):D p.name:=h.up c hc _ (dK h.left hp)
theorem Agree.upD (h:Agree l m D):∀ c,D c->∀ a,Hr.has (aZ l) c a=true->D a:=by
 refine nI h.left.acyc λc ih hc a ha=>?_
 rcases wH ha with rfl | ⟨p,hp,hpa⟩
 .exact hc
 .exact ih p hp (h.up c hc p hp) a hpa
theorem sS {fl fl':Nm->Fl} {c:FC} (h1:∀ p∈c.pars,fl p.name=fl' p.name) (h2:∀ p∈c.pars,ae m p.name=ae l p.name):comes fl l c=comes fl' m c:=by
 unfold comes
 refine dM λq hq=>?_
 rw [h1 q.1 (zl hq),h2 q.1 (zl hq)]
theorem Agree.FL (h:Agree l m D):∀ c,D c->Fl.FL m c=Fl.FL l c:=by
 refine nI h.left.acyc λc ih hc=>?_
 rw [GA h.left,GA h.right]
 have h1:comes (Fl.FL l) l (ae l c)=comes (Fl.FL m) m (ae l c):=sS (λp hp=>(ih _ (dK h.left hp)<|h.parD hc hp).symm) λp hp=>h.class<|h.parD hc hp
 have h2:msF m c=msF l c:=by unfold msF; rw [h.class hc,h1]
 rw [h.class hc,h2]
 have hn:(ae l c).name=c:=by
  obtain ⟨x,hx⟩:=Option.isSome_iff_exists.1<|h.there c hc
  rw [iI hx,ql hx]
 unfold flatOf
 rw [hn,h.above c hc]
 congr 1
 refine o7 λa ha=>?_
 rw [h.class (h.upD c hc a (((jT h.left.acyc c).2 a).1 ha))]
theorem Agree.ms (h:Agree l m D) {c:Nm} (hc:D c):msF m c=msF l c:=by rw [<- fB h.right,<- fB h.left,h.FL c hc]
theorem Agree.sel (h:Agree l m D) {s:Sd}:∀ (n:Nat) (c:Nm),D c->∀ ms,dE (Fl.FL m) m n (ae l c) ms s=dE (Fl.FL l) l n (ae l c) ms s:=by
 intro n
 induction n with
 | zero =>
  intro c hc ms
  have h1:comes (Fl.FL l) l (ae l c)=comes (Fl.FL m) m (ae l c):=sS (λp hp=>(h.FL _<|h.parD hc hp).symm) λp hp=>h.class<|h.parD hc hp
  unfold dE
  rw [h1]
  split
  .rfl
  .simp only []
   split
   .rfl
   .split
    .rename_i e; cases e
    .rfl
 | succ n ih =>
  intro c hc ms
  have h1:comes (Fl.FL l) l (ae l c)=comes (Fl.FL m) m (ae l c):=sS (λp hp=>(h.FL _<|h.parD hc hp).symm) λp hp=>h.class<|h.parD hc hp
  unfold dE
  rw [h1]
  split
  .rfl
  .simp only []
   split
   .rfl
   .split
    .rename_i i t n' e1 e2
     cases e2
     have hi:i∈bE (having (comes (Fl.FL m) m<|ae l c) s):=by rw [e1]; simp
     have hd:=h.parD hc<|o8 hi
     rw [h.class hd,h.FL _ hd,ih _ hd]
    .rfl
theorem Agree.conf (h:Agree l m D) {c:Nm} (hc:D c) (all:Bool):vU m c all=vU l c all:=by
 unfold vU skF
 rw [h.class hc,h.ms hc]
 refine (Dp (sS (λp hp=>(h.FL _<|h.parD hc hp).symm) λp hp=>h.class<|h.parD hc hp) (λp hp=>(h.FL _<|h.parD hc hp).symm) λd=>?_).symm
 show dE (Fl.FL l) l l.length (ae l c) (msF l c) d=dE (Fl.FL m) m m.length (ae l c) (msF l c) d
 have hr1:=q9 (aZ l) c
 have hr2:=q9 (aZ m) c
 rw [gN] at hr1 hr2
 have e1:dE (Fl.FL m) m m.length (ae l c) (msF l c) d=dE (Fl.FL m) m (l.length+m.length) (ae l c) (msF l c) d:=by
  rw [<- h.class hc]
  exact Dx h.right _ _ c _ d (by rw [h.find c hc]; exact h.there c hc) hr2<|by omega
 rw [e1,h.sel _ c hc,Dx h.left l.length (l.length+m.length) c _ d (h.there c hc) hr1 (by omega)]
theorem Agree.okF (h:Agree l m D) {c:Nm} (hc:D c):Fl.okF m c↔Fl.okF l c:=by unfold Fl.okF; rw [h.conf hc,h.ms hc]

/-! ### The classes in another order -/
/-! ### A class behind the others -/
end
def rv (c:FC):FC:={ c with pars:=c.pars.reverse }
def tl (l:FS):FS:=l.map rv
structure MR (a b:Mb):Prop where
 name:a.name=b.name
 kind:a.kind=b.kind
 seeds:a.seeds=b.seeds
 args:a.args=b.args
 ty:a.ty=b.ty
 impl:a.kind≠3->a.impl=b.impl
 pre:∀ g,g∈a.pre↔g∈b.pre
 post:∀ g,g∈a.post↔g∈b.post
theorem MR.refl (a:Mb):MR a a:=⟨rfl,rfl,rfl,rfl,rfl,λ_=>rfl,λ_=>Iff.rfl,λ_=>Iff.rfl⟩
inductive ML:List Mb->List Mb->Prop
 | nil:ML [] []
 | cons {a b:Mb} {s t:List Mb}:MR a b->ML s t->ML (a::s) (b::t)
theorem ML.left {xs ys:List Mb} (h:ML xs ys):∀ a∈xs,∃ b∈ys,MR a b:=by
 induction h with
 | nil=>simp
 | cons h1 _ ih =>
  intro a ha
  rcases List.mem_cons.1 ha with rfl | ha
  .exact ⟨_,by simp,h1⟩
  .obtain ⟨b,hb,h2⟩:=ih a ha
   exact ⟨b,by simp [hb],h2⟩
theorem ML.right {xs ys:List Mb} (h:ML xs ys):∀ b∈ys,∃ a∈xs,MR a b:=by
 induction h with
 | nil=>simp
 | cons h1 _ ih =>
  intro a ha
  rcases List.mem_cons.1 ha with rfl | ha
  .exact ⟨_,by simp,h1⟩
  .obtain ⟨b,hb,h2⟩:=ih a ha
   exact ⟨b,by simp [hb],h2⟩
theorem ML.len {xs ys:List Mb} (h:ML xs ys):xs.length=ys.length:=by
 induction h with
 | nil=>rfl
 | cons _ _ ih=>simp [ih]
theorem ML.at {xs ys:List Mb} (h:ML xs ys):∀ (i:Nat) (a b:Mb),xs[i]? = some a->ys[i]? = some b->MR a b:=by
 induction h with
 | nil=>intro i a b h; simp at h
 | cons h1 _ ih =>
  intro i a b ha hb
  cases i with
  | zero=>simp at ha hb; subst ha hb; exact h1
  | succ i=>exact ih i a b (by simpa using ha) (by simpa using hb)
theorem ML.filter {xs ys:List Mb} {f g:Mb->Bool} (h:ML xs ys) (hf:∀ a b,MR a b->f a=g b):ML (xs.filter f) (ys.filter g):=by
 induction h with
 | nil=>exact .nil
 | @cons a b s t h1 _ ih =>
  rw [List.filter_cons,List.filter_cons,hf a b h1]
  split
  .exact .cons h1 ih
  .exact ih
theorem ML.map {α : Type} {xs ys:List Mb} {f g:Mb -> α} (h:ML xs ys) (hf:∀ a b,MR a b->f a=g b):xs.map f=ys.map g:=by
 induction h with
 | nil=>rfl
 | @cons a b s t h1 _ ih=>rw [List.map_cons,List.map_cons,ih,hf a b h1]
theorem ML.any {xs ys:List Mb} {f g:Mb->Bool} (h:ML xs ys) (hf:∀ a b,MR a b->f a=g b):xs.any f=ys.any g:=by
 induction h with
 | nil=>rfl
 | @cons a b s t h1 _ ih=>rw [List.any_cons,List.any_cons,ih,hf a b h1]
theorem ML.named {xs ys:List Mb} (h:ML xs ys) (s:Sd):aX xs s=aX ys s:=(h.filter λa b hab=>by rw [hab.seeds]).map λa b hab=>hab.name
theorem ML.find {xs ys:List Mb} (h:ML xs ys) (n:Nm):(dF xs n=none/\dF ys n=none)\/∃ a b,dF xs n=some a/\dF ys n=some b/\MR a b:=by
 induction h with
 | nil=>exact .inl ⟨rfl,rfl⟩
 | @cons a b s t h1 _ ih =>
  unfold dF at ih ⊢
  rw [List.find?_cons,List.find?_cons,<- h1.name]
  cases hq:a.name == n with
  | true=>exact .inr ⟨a,b,rfl,rfl,h1⟩
  | false=>exact ih
theorem ML.of : ∀ {xs ys : List Mb}, tq xs -> tq ys -> (∀ a ∈ xs, ∃ b ∈ ys, MR a b) -> (∀ b ∈ ys, ∃ a ∈ xs, MR a b) -> ML xs ys
 | [],[],_,_,_,_=>.nil
 | [],y::t,_,_,_,h=>by obtain ⟨a,ha,_⟩:=h y (by simp); cases ha
 | x::s,[],_,_,h,_=>by obtain ⟨a,ha,_⟩:=h x (by simp); cases ha
 | x :: s, y :: t, h1, h2, h3, h4 => by
  obtain ⟨a1,a2⟩:=List.pairwise_cons.1 h1
  obtain ⟨b1,b2⟩:=List.pairwise_cons.1 h2
  have hn:x.name=y.name:=by
   obtain ⟨b,hb,hxb⟩:=h3 x<|by simp
   obtain ⟨a,ha,hay⟩:=h4 y<|by simp
   rcases List.mem_cons.1 hb with rfl | hb
   .exact hxb.name
   rcases List.mem_cons.1 ha with rfl | ha
   .exact hay.name
   .have e1:=b1 b hb
    have e2:=a1 a ha
    rw [<- hxb.name] at e1
    rw [hay.name] at e2
    rw [iQ e1] at e2; cases e2
  have hxy:MR x y:=by
   obtain ⟨b,hb,hxb⟩:=h3 x<|by simp
   rcases List.mem_cons.1 hb with rfl | hb
   .exact hxb
   .have e1:=b1 b hb
    rw [<- hxb.name,hn,lt_irrefl] at e1; cases e1
  refine .cons hxy (ML.of a2 b2 (λa ha=>?_) λb hb=>?_)
  .obtain ⟨b,hb,hab⟩:=h3 a<|by simp [ha]
   rcases List.mem_cons.1 hb with rfl | hb
   .have e1:=a1 a ha
    rw [hab.name,hn,lt_irrefl] at e1; cases e1
   .exact ⟨b,hb,hab⟩
  .obtain ⟨a,ha,hab⟩:=h4 b<|by simp [hb]
   rcases List.mem_cons.1 ha with rfl | ha
   .have e1:=b1 b hb
    rw [<- hab.name,hn,lt_irrefl] at e1; cases e1
   .exact ⟨a,ha,hab⟩
section
variable {l:FS}
theorem zm (n:Nm):bQ (tl l) n=(bQ l n).map rv:=by unfold bQ tl; rw [List.find?_map]; rfl
theorem mE (n:Nm):ae (tl l) n=rv (ae l n):=by unfold ae; rw [zm]; cases bQ l n <;> rfl
theorem Om (n:Nm):isC (aZ (tl l)) n=isC (aZ l) n:=by rw [dx,dx,zm]; cases bQ l n <;> rfl
theorem I7 (n:Nm):par (aZ (tl l)) n=(par (aZ l) n).reverse:=by
 unfold par
 rw [wZ,wZ,mE,<- List.filter_reverse,<- List.map_reverse,show isC (aZ<|tl l)=isC (aZ l) from funext Om]
 rfl
theorem tl_W (a:Nm):∀ k c,W (aZ (tl l)) a k c=W (aZ l) a k c
 | 0,c=>rfl
 | k+1,c=>by
  show (par (aZ<|tl l) c).any _=(par (aZ l) c).any _
  rw [I7,List.any_reverse,show W (aZ<|tl l) a k=W (aZ l) a k from funext (tl_W a k)]
theorem tl_has (c a:Nm):has (aZ (tl l)) c a=has (aZ l) c a:=by
 rw [Bool.eq_iff_iff,fH,fH]
 exact ⟨λ⟨k,hk⟩=>⟨k,by rw [<- tl_W]; exact hk⟩,λ⟨k,hk⟩=>⟨k,by rw [tl_W]; exact hk⟩⟩
theorem EU:(tl l).length=l.length:=by simp [tl]
theorem Oo:nms (aZ (tl l))=nms (aZ l):=by
 unfold nms aZ tl
 rw [List.map_map,List.map_map,List.map_map]
 exact List.map_congr_left λc _=>rfl
theorem EW {x:Cls} (h:x∈aZ (tl l)):∃ y∈aZ l,x.name=y.name/\x.parents=y.parents.reverse:=by
 unfold aZ tl at h
 obtain ⟨c,hc,rfl⟩:=List.mem_map.1 h
 obtain ⟨d,hd,rfl⟩:=List.mem_map.1 hc
 exact ⟨d.cls,List.mem_map.2 ⟨d,hd,rfl⟩,rfl,by show (d.pars.reverse.map _)=(d.pars.map _).reverse; rw [List.map_reverse]⟩
theorem AC (h:Right (aZ l)):Right (aZ (tl l)) where
 len:=by rw [gN,EU,<- gN]; exact h.len
 few:=λx hx=>by obtain ⟨y,hy,_,e⟩:=EW hx; rw [e,List.length_reverse]; exact h.few y hy
 nam:=λx hx=>by obtain ⟨y,hy,e,_⟩:=EW hx; rw [e]; exact h.nam y hy
 uniq:=by rw [Oo]; exact h.uniq
 once:=λx hx=>by obtain ⟨y,hy,_,e⟩:=EW hx; rw [e]; exact (List.reverse_perm _).nodup_iff.2 (h.once y hy)
 all:=λx hx p hp=>by
  obtain ⟨y,hy,_,e⟩:=EW hx
  rw [e,List.mem_reverse] at hp
  rw [Om]; exact h.all y hy p hp
 acyc:=λc p hp=>by
  rw [I7,List.mem_reverse] at hp
  rw [tl_has]; exact h.acyc c p hp
theorem Oq:order (aZ (tl l))=order (aZ l):=by
 have key:∀ k,iZ (aZ<|tl l) k=iZ (aZ l) k:=by
  intro k
  induction k with
  | zero=>rfl
  | succ k ih =>
   unfold iZ
   rw [ih,Oo]
   refine congrArg (λx=>iZ (aZ l) k++[iY x]) ?_
   refine List.filter_congr λx _=>?_
   unfold opn
   rw [I7,List.all_reverse]
 unfold order
 rw [gN,gN,EU,key]
theorem rv_form (c:FC):jL (tl l) (rv c)=0↔jL l c=0:=by
 have h1:((rv c).pars.any λp=>decide (p.args.length≠(ae (tl l) p.name).forms.length))=c.pars.any λp=>decide (p.args.length≠(ae l p.name).forms.length):=by
  show (c.pars.reverse.any _)=_
  rw [List.any_reverse]
  refine congrArg (c.pars.any) (funext λp=>?_)
  rw [mE]; rfl
 have h2:kX ((rv c).pars.map Ay)=0↔kX (c.pars.map Ay)=0:=by
  rw [nz,nz]
  show (∀ x∈(c.pars.reverse.map Ay),_)↔_
  rw [List.map_reverse]
  simp only [List.mem_reverse]
 unfold jL
 rw [h1]
 show (if 3<c.forms.length then _ else if ¬ (c.forms.map λf=>f.name).Nodup then _ else if _ then _ else if vX c≠0 then vX c else _)=0↔_
 split
 .exact Iff.rfl
 .split
  .exact Iff.rfl
  .split
   .exact Iff.rfl
   .split
    .exact Iff.rfl
    .exact h2
theorem LW (h:FRight l):FRight (tl l):=⟨AC h.sys,λc hc=>by
 obtain ⟨d,hd,rfl⟩:=List.mem_map.1 hc
 exact (rv_form d).2 (h.form d hd)⟩

/-! ### What comes -/
structure CR (k:Nat) (x y:Cm):Prop where
 og:x.og=y.og
 par:x.par+y.par+1=k
 mem:MR x.mem y.mem
 was:x.was=y.was
theorem CR.dfd {k:Nat} {x y:Cm} (h:CR k x y):x.dfd=y.dfd:=by unfold Cm.dfd; rw [h.mem.kind]
theorem Dy {F:List Fm} {p:Pt} {i k:Nat} {a b:Mb} (h:MR a b) (hi:i<k):CR k (iO F i p a) (iO F (k - 1 - i) p b) where
 og:=by show Og.mk p.name a.name=Og.mk p.name b.name; rw [h.name]
 par:=by show i+(k - 1 - i)+1=k; omega
 was:=h.kind
 mem:={
  name:=by show bJ p a.name=bJ p b.name; rw [h.name]
  kind:=by show (if _ then _ else _)=(if _ then _ else _); rw [h.name,h.kind]
  seeds:=h.seeds
  args:=by show a.args.map _=b.args.map _; rw [h.args]
  ty:=by show dD _ _ a.ty=dD _ _ b.ty; rw [h.ty]
  impl:=λhk=>h.impl<|λh3=>hk (by show (if _ then _ else _)=_; rw [h3]; split <;> rfl)
  pre:=h.pre
  post:=h.post }
def PR (l:FS) (fl fl':Nm->Fl) (c:FC):Prop:=∀ p∈c.pars,ML (fl p.name).mems (fl' p.name).mems
section
variable {fl fl':Nm->Fl} {c:FC}
theorem uB (h:PR l fl fl' c) {x:Cm} (hx:x∈comes fl l c):∃ y∈comes fl' (tl l) (rv c),CR c.pars.length x y:=by
 obtain ⟨p,hp,m,hm,he⟩:=gz hx
 obtain ⟨hlt,hpe⟩:=List.getElem?_eq_some_iff.1 hp
 obtain ⟨m',hm',hr⟩:=(h p<|List.mem_of_getElem? hp).left m hm
 have hp':(rv c).pars[c.pars.length - 1 - x.par]? = some p:=by
  show c.pars.reverse[_]? = _
  rw [List.getElem?_reverse (by omega),<- hp]
  congr 1; omega
 refine ⟨_,xg (l:=tl l) hp' hm',?_⟩
 rw [he,mE]
 exact Dy hr hlt
theorem sU (h:PR l fl fl' c) {y:Cm} (hy:y∈comes fl' (tl l) (rv c)):∃ x∈comes fl l c,CR c.pars.length x y:=by
 obtain ⟨p,hp,m,hm,he⟩:=gz hy
 obtain ⟨hlt,hpe⟩:=List.getElem?_eq_some_iff.1 hp
 have hlt:y.par<c.pars.length:=by simpa [rv] using hlt
 have hp':c.pars[c.pars.length - 1 - y.par]? = some p:=by
  rw [<- hp]
  show _=c.pars.reverse[_]?
  rw [List.getElem?_reverse (by omega)]
 obtain ⟨m',hm',hr⟩:=(h p<|List.mem_of_getElem? hp').right m hm
 refine ⟨_,xg (l:=l) hp' hm',?_⟩
 rw [he,mE]
 have:=Dy (F:=(ae l p.name).forms) (p:=p) (i:=c.pars.length - 1 - y.par) (k:=c.pars.length) hr<|by omega
 rw [show c.pars.length - 1 - (c.pars.length - 1 - y.par)=y.par by omega] at this
 exact this
theorem kM (h:PR l fl fl' c) {n:Nm} {x:Cm} (hx:x∈under (comes fl l c) n):∃ y∈under (comes fl' (tl l) (rv c)) n,CR c.pars.length x y:=by
 obtain ⟨h1,h2⟩:=bD.1 hx
 obtain ⟨y,hy,hr⟩:=uB h h1
 exact ⟨y,bD.2 ⟨hy,by rw [<- hr.mem.name]; exact h2⟩,hr⟩
theorem jd (h:PR l fl fl' c) {n:Nm} {y:Cm} (hy:y∈under (comes fl' (tl l) (rv c)) n):∃ x∈under (comes fl l c) n,CR c.pars.length x y:=by
 obtain ⟨h1,h2⟩:=bD.1 hy
 obtain ⟨x,hx,hr⟩:=sU h h1
 exact ⟨x,bD.2 ⟨hx,by rw [hr.mem.name]; exact h2⟩,hr⟩
theorem EX {x y:Cm} (h:CR c.pars.length x y):cO (rv c) y.par=cO c x.par:=by
 have:=h.par
 unfold cO
 show (c.pars.reverse[_]?).getD _=_
 rw [List.getElem?_reverse (by omega)]
 congr 2; omega
theorem Ot {s : Sk} {i : Nat} {n : Nm} : s.fro i n = match s.c.pars[i]? with
  | some p=>((s.fl p.name).mems.filter λm=>bJ p m.name == n).map (iO (ae s.l p.name).forms i p)
  | none=>[]:=by
 unfold Sk.fro under Sk.cs comes
 rw [List.filter_filter,List.filter_flatMap]
 have key : ∀ (ps : List Pt) (k : Nat), (ps.zipIdx k).flatMap (λq => (((s.fl q.1.name).mems.map<|iO (ae s.l q.1.name).forms q.2 q.1).filter λx => (x.par == i) && (x.mem.name == n))) =
   if k<=i then (match ps[i - k]? with
    | some p=>((s.fl p.name).mems.filter λm=>bJ p m.name == n).map (iO (ae s.l p.name).forms i p)
    | none=>[]) else []:=by
  intro ps
  induction ps with
  | nil=>intro k; simp
  | cons p t ih =>
   intro k
   rw [List.zipIdx_cons,List.flatMap_cons,ih (k+1)]
   simp only []
   have hb : (((s.fl p.name).mems.map<|iO (ae s.l p.name).forms k p).filter λx => (x.par == i) && (x.mem.name == n)) = if k = i then ((s.fl p.name).mems.filter λm => bJ p m.name == n).map (iO (ae s.l p.name).forms i p) else [] := by
    rw [List.filter_map]
    by_cases hk:k=i
    .subst hk
     rw [if_pos rfl]
     congr 1
     refine List.filter_congr λm _=>?_
     show ((k == k) && (bJ p m.name == n))=_
     simp
    .rw [if_neg hk]
     have:((s.fl p.name).mems.filter ((λx:Cm=>(x.par == i) && (x.mem.name == n)) ∘ iO (ae s.l p.name).forms k p))=[]:=by
      rw [List.filter_eq_nil_iff]
      intro m _
      show ¬ ((k == i) && (bJ p m.name == n))=true
      simp [hk]
     rw [this]; rfl
   rw [hb]
   by_cases hk:k=i
   .subst hk
    rw [if_pos rfl,if_neg (by omega),if_pos (Nat.le_refl _),Nat.sub_self]
    simp
   .rw [if_neg hk]
    by_cases hlt:k<i
    .rw [if_pos (by omega),if_pos (by omega),show i - k=(i - (k+1))+1 by omega]
     simp
    .rw [if_neg (by omega),if_neg (by omega)]; rfl
 have:=key s.c.pars 0
 rw [if_pos (Nat.zero_le _),Nat.sub_zero] at this
 exact this
end
end
section
variable {l:FS}
theorem Good.kinds (h:Good l):∀ c,(bQ l c).isSome=true->∀ m∈msF l c,m.kind≠3->∃ f,feat (ae l m.impl.cls) m.impl.name=some f/\f.kind=m.kind:=by
 refine nI h.sys.acyc λc ih hc m hm=>?_
 have hj : ∀ x ∈ comes (FL l) l (ae l c), x.mem.kind ≠ 3 -> ∃ f, feat (ae l x.mem.impl.cls) x.mem.impl.name = some f /\ f.kind = x.mem.kind := λx hx hk => by
  obtain ⟨p,hp,m1,hm1,he⟩:=gz hx
  have hpm:=dK h.sys<|List.mem_of_getElem? hp
  rw [fB h.sys] at hm1
  have hk1:x.mem.kind=m1.kind:=by
   rw [he] at hk ⊢
   show (if _ then _ else _)=_
   split
   .rename_i hq
    exfalso; apply hk
    show (if _ then _ else _)=_
    rw [if_pos hq]
   .rfl
  obtain ⟨f,h1,h2⟩:=ih _ hpm (by rw [<- dx]; exact kr hpm) m1 hm1 (by rw [<- hk1]; exact hk)
  have hi:x.mem.impl=m1.impl:=by rw [he]; rfl
  exact ⟨f,by rw [hi]; exact h1,by rw [hk1]; exact h2⟩
 rcases ((h.mems hc).2.2.2 m).1 hm with ⟨n,⟨x,hx,hn⟩,_,rfl⟩ | ⟨f,hf,rfl⟩
 .intro hk
  obtain ⟨y,hy,_,j2,j3,_⟩:=jw _<|List.ne_nil_of_mem<|bD.2 ⟨hx,hn⟩
  rw [j2] at hk
  rw [j3,j2]
  exact hj y (bD.1 hy).1 hk
 .intro _
  have h1:(jB (ae l c) f<|under (comes (FL l) l<|ae l c) f.name).impl=⟨(ae l c).name,f.name⟩/\(jB (ae l c) f<|under (comes (FL l) l<|ae l c) f.name).kind=f.kind:=by
   unfold jB; simp only []; split <;> exact ⟨rfl,rfl⟩
  rw [h1.1,h1.2]
  obtain ⟨g1,g2,_⟩:=h.class hc
  exact ⟨f,by rw [g2]; exact GK g1.names hf,rfl⟩
theorem pg {s:Sk} {α : Type} {xs:List α} {is : α -> α -> Bool} {f : α -> α -> Cf} (hs:∀ a b,is a b=true->is b a=true):s.pairs xs is f=[]↔∀ (i k:Nat) (a b : α),i<k->xs[i]? = some a->xs[k]? = some b->is a b=false:=by
 constructor
 .intro h i k a b hik h1 h2
  cases hq:is a b with
  | false=>rfl
  | true =>
   have:=(Aw (s:=s) (f:=f)).2 ⟨i,k,a,b,h1,h2,by omega,λ_=>hik,hq,rfl⟩
   rw [h] at this; cases this
 .intro h
  cases hp:s.pairs xs is f with
  | nil=>rfl
  | cons y t =>
   obtain ⟨i,k,a,b,h1,h2,h3,h4,h5,_⟩:=Aw.1 (show y∈s.pairs xs is f by rw [hp]; simp)
   rcases Nat.lt_or_gt_of_ne h3 with h6 | h6
   .rw [h i k a b h6 h1 h2] at h5; cases h5
   .have:=h k i b a h6 h2 h1
    rw [hs a b h5] at this; cases this
theorem zn {s:Sk} {r:List Cf}:s.cut r=[]↔r=[]:=by
 unfold Sk.cut
 split
 .exact Iff.rfl
 .cases r <;> simp
theorem bI {α β : Type} {f : α -> List β} {xs : List α} : xs.flatMap f = [] ↔ ∀ x ∈ xs, f x = [] :=
 ⟨flatMap_nil,λh=>by
  cases hq:xs.flatMap f with
  | nil=>rfl
  | cons y t =>
   obtain ⟨x,hx,hy⟩:=List.mem_flatMap.1 (show y∈xs.flatMap f by rw [hq]; simp)
   rw [h x hx] at hy; cases hy⟩
theorem nZ {p:Prop} [Decidable p] {a:Cf}:(if p then [a] else [])=[]↔¬ p:=by split <;> simp [*]
theorem zo {p:Prop} [Decidable p] {a:Cf}:(if p then [] else [a])=[]↔p:=by split <;> simp [*]
structure Still (s:Sk):Prop where
 l1:∀ (i:Nat) (p:Pt),s.c.pars[i]? = some p->∀ r∈p.ren,(dF (s.fl p.name).mems r.fro).isSome=true
 l1':∀ (i:Nat) (p:Pt),s.c.pars[i]? = some p->∀ n∈p.und++p.red++p.sel,s.fro i n≠[]
 l2:∀ p∈s.c.pars,∀ n∈p.und,n ∉ p.red
 l3:∀ (i:Nat) (p:Pt),s.c.pars[i]? = some p->∀ m∈(s.fl p.name).mems,(s.fro i<|bJ p m.name).length<=1
 l4:∀ (i:Nat) (p:Pt),s.c.pars[i]? = some p->∀ n∈p.und,∀ x∈s.fro i n,x.was=2
 l5:∀ p∈s.c.pars,∀ n∈p.red,(feat s.c n).isSome=true
 red:∀ k,k<3->∀ f,∀ x∈s.cs,feat s.c x.mem.name=some f->s.redK f x k=false
 t1:∀ x∈s.cs,∀ y∈s.cs,x.mem.name=y.mem.name->feat s.c x.mem.name=none->Sk.sameTy x.mem y.mem=true
 t1':∀ x∈s.cs,∀ f,feat s.c x.mem.name=some f->f.args=x.mem.args/\(f.ty.kind == 0)=(x.mem.ty.kind == 0)
 t2:∀ x∈s.cs,∀ y∈s.cs,x.mem.name=y.mem.name->feat s.c x.mem.name=none->x.dfd=false->y.dfd=false->Sk.same x.mem y.mem=true
 c1:∀ d∈s.seeds,(s.sel d).2=true
 c2:∀ (i:Nat) (p:Pt),s.c.pars[i]? = some p->∀ n∈p.sel,s.fro i n=[]\/(((dF s.ms n).getD mb0).seeds.any λd=>decide (1<(aX s.ms d).length))=true
 c3:s.c.dfd=false->∀ m∈s.ms,m.kind≠3
 ap:∀ d∈s.seeds,∀ (i k:Nat) (a b:Mb),i<k->(s.ms.filter λm=>m.seeds.contains d)[i]? = some a->(s.ms.filter λm=>m.seeds.contains d)[k]? = some b->Sk.sameTy a b=true
theorem GL {s:Sk} {d:Sd} (hd:d∈s.seeds):aX s.ms d≠[]:=by
 unfold Sk.seeds at hd
 rw [(fG _).2,List.mem_flatMap] at hd
 obtain ⟨m,hm,hs⟩:=hd
 exact List.ne_nil_of_mem<|j4.2 ⟨m,hm,hs,rfl⟩
theorem sel_one {s:Sk} {d:Sd} {a:Nm} (h:aX s.ms d=[a]):(s.sel d).2=true:=by unfold Sk.sel dE; cases s.l.length <;> (simp only []; rw [h])
theorem xh {s:Sk} (ha:s.all=false):s.conflicts=[]↔Still s:=by
 have hz:∀ {P:Pt->Nat->Prop},(∀ q∈s.pz,P q.1 q.2)↔∀ (i:Nat) (p:Pt),s.c.pars[i]? = some p->P p i:=λ{P}=>
  ⟨λh i p hp=>h (p,i) (List.mem_zipIdx_iff_getElem?.2 hp),λh q hq=>h q.2 q.1<|List.mem_zipIdx_iff_getElem?.1 hq⟩
 have hz2:∀ {P:Pt->Prop},(∀ p∈s.c.pars,P p)↔∀ p∈s.c.pars,P p:=Iff.rfl
 unfold Sk.conflicts
 rw [List.append_eq_nil_iff,List.append_eq_nil_iff,List.append_eq_nil_iff,List.append_eq_nil_iff]
 have e1 : s.lost = [] ↔ ((((∀ (i : Nat) (p : Pt), s.c.pars[i]? = some p -> (∀ r ∈ p.ren, (dF (s.fl p.name).mems r.fro).isSome = true) /\ ∀ n ∈ p.und ++ p.red ++ p.sel, s.fro i n ≠ []) /\ (∀ p ∈ s.c.pars, ∀ n ∈ p.und, n ∉ p.red)) /\
   (∀ (i:Nat) (p:Pt),s.c.pars[i]? = some p->∀ m∈(s.fl p.name).mems,(s.fro i (bJ p m.name)).length<=1))/\(∀ (i:Nat) (p:Pt),s.c.pars[i]? = some p->∀ n∈p.und,∀ x∈s.fro i n,x.was=2))/\∀ p∈s.c.pars,∀ n∈p.red,(feat s.c n).isSome=true:=by
  unfold Sk.lost
  rw [List.append_eq_nil_iff,List.append_eq_nil_iff,List.append_eq_nil_iff,List.append_eq_nil_iff]
  refine and_congr (and_congr (and_congr (and_congr ?_ ?_) ?_) ?_) ?_
  .rw [bI,<- hz (P:=λp i=>(∀ r∈p.ren,(dF (s.fl p.name).mems r.fro).isSome=true)/\∀ n∈p.und++p.red++p.sel,s.fro i n≠[])]
   refine forall_congr' λq=>forall_congr' λhq=>?_
   rw [List.append_eq_nil_iff,bI,bI]
   refine and_congr (forall_congr' λr=>forall_congr' λ_=>?_) (forall_congr' λn=>forall_congr' λ_=>nZ)
   rw [nZ]; cases dF (s.fl q.1.name).mems r.fro <;> simp
  .rw [bI]
   refine forall_congr' λp=>forall_congr' λ_=>?_
   rw [bI]
   refine forall_congr' λn=>forall_congr' λ_=>?_
   rw [nZ]; simp
  .rw [bI,<- hz (P:=λp i=>∀ m∈(s.fl p.name).mems,(s.fro i<|bJ p m.name).length<=1)]
   refine forall_congr' λq=>forall_congr' λ_=>?_
   rw [bI]
   refine forall_congr' λm=>forall_congr' λ_=>?_
   constructor
   .intro h
    refine Classical.byContradiction λh2=>?_
    rw [if_pos (by omega)] at h
    unfold Sk.cpairs at h
    rw [zn,pg (λ_ _ _=>rfl)] at h
    have h3:1<(s.fro q.2<|bJ q.1 m.name).length:=by omega
    have:=h 0 1 _ _ (by decide) (List.getElem?_eq_getElem<|by omega)<|List.getElem?_eq_getElem h3
    cases this
   .intro h; rw [if_neg (by omega)]
  .rw [bI,<- hz (P:=λp i=>∀ n∈p.und,∀ x∈s.fro i n,x.was=2)]
   refine forall_congr' λq=>forall_congr' λ_=>?_
   rw [bI]
   refine forall_congr' λn=>forall_congr' λ_=>?_
   rw [bI]
   refine forall_congr' λx=>forall_congr' λ_=>?_
   rw [nZ]; simp
  .rw [bI]
   refine forall_congr' λp=>forall_congr' λ_=>?_
   rw [bI]
   refine forall_congr' λn=>forall_congr' λ_=>?_
   rw [nZ]; cases feat s.c n <;> simp
 have e2 : s.redeclared = [] ↔ ∀ k, k < 3 -> ∀ f, ∀ x ∈ s.cs, feat s.c x.mem.name = some f -> s.redK f x k = false := by
  unfold Sk.redeclared
  rw [bI]
  constructor
  .intro h k hk f x hx hf
   have h1:=flatMap_nil (h k (by simp; omega)) x.mem.name<|o9.2 ⟨x,hx,rfl⟩
   rw [hf] at h1
   have h2:=flatMap_nil h1 x<|bD.2 ⟨hx,rfl⟩
   simpa using nZ.1 h2
  .intro h k hk
   rw [bI]
   intro n hn
   cases hf:feat s.c n with
   | none=>rfl
   | some f =>
    simp only []
    rw [bI]
    intro x hx
    obtain ⟨h1,rfl⟩:=bD.1 hx
    rw [nZ,h k (by simp at hk; omega) f x h1 hf]
    decide
 have e3 : s.typed = [] ↔ ((∀ x ∈ s.cs, ∀ y ∈ s.cs, x.mem.name = y.mem.name -> feat s.c x.mem.name = none -> Sk.sameTy x.mem y.mem = true) /\ ∀ x ∈ s.cs, ∀ f, feat s.c x.mem.name = some f -> f.args = x.mem.args /\ (f.ty.kind == 0) = (x.mem.ty.kind == 0)) /\
   ∀ x∈s.cs,∀ y∈s.cs,x.mem.name=y.mem.name->feat s.c x.mem.name=none->x.dfd=false->y.dfd=false->Sk.same x.mem y.mem=true:=by
  unfold Sk.typed
  rw [List.append_eq_nil_iff]
  refine and_congr ?_ ?_
  .rw [bI]
   constructor
   .intro h
    have hh:∀ x∈s.cs,feat s.c x.mem.name=none->∀ w,(under s.cs x.mem.name).head? = some w->Sk.sameTy w.mem x.mem=true:=λx hx hf w hw=>by
     have h1:=flatMap_nil (h x.mem.name<|o9.2 ⟨x,hx,rfl⟩) x<|bD.2 ⟨hx,rfl⟩
     rw [hf] at h1
     simp only [] at h1
     rw [hw] at h1
     exact zo.1 h1
    refine ⟨λx hx y hy hxy hf=>?_,λx hx f hf=>?_⟩
    .cases hw:(under s.cs x.mem.name).head? with
     | none =>
      rw [List.head?_eq_none_iff] at hw
      have:=bD.2 ⟨hx,rfl⟩
      rw [hw] at this; cases this
     | some w =>
      have h1:=gL.1<|hh x hx hf w hw
      have h2:=gL.1<|hh y hy (by rw [<- hxy]; exact hf) w (by rw [<- hxy]; exact hw)
      exact gL.2 ⟨h1.1.symm.trans h2.1,h1.2.symm.trans h2.2⟩
    .have h1:=flatMap_nil (h x.mem.name<|o9.2 ⟨x,hx,rfl⟩) x<|bD.2 ⟨hx,rfl⟩
     rw [hf] at h1
     have h2:=zo.1 h1
     simp only [Bool.and_eq_true,decide_eq_true_eq,beq_iff_eq] at h2
     exact h2
   .rintro ⟨h1, h2⟩ n hn
    rw [bI]
    intro x hx
    obtain ⟨hx1,rfl⟩:=bD.1 hx
    cases hf:feat s.c x.mem.name with
    | none =>
     simp only []
     rw [zo]
     cases hw:(under s.cs x.mem.name).head? with
     | none=>exact gL.2 ⟨rfl,rfl⟩
     | some w =>
      have hwm:=bD.1<|List.mem_of_head? hw
      exact h1 w hwm.1 x hx1 hwm.2 (by rw [hwm.2]; exact hf)
    | some f =>
     simp only []
     rw [zo]
     obtain ⟨g1,g2⟩:=h2 x hx1 f hf
     rw [g2]; simp [g1]
  .rw [bI]
   constructor
   .intro h x hx y hy hxy hf hdx hdy
    have h1:=h x.mem.name<|o9.2 ⟨x,hx,rfl⟩
    rw [hf,if_neg (by decide)] at h1
    unfold Sk.cpairs at h1
    rw [zn,pg (λa b h=>by
     simp only [Bool.and_eq_true,Bool.not_eq_true',Bool.eq_false_iff] at h ⊢
     exact ⟨⟨h.1.2,h.1.1⟩,λh2=>h.2 (w9 h2)⟩)] at h1
    obtain ⟨i,hi,hix⟩:=List.getElem_of_mem<|bD.2 ⟨hx,rfl⟩
    obtain ⟨j,hj,hjy⟩:=List.getElem_of_mem (show y∈under s.cs x.mem.name from bD.2 ⟨hy,hxy.symm⟩)
    have hfin:∀ a b:Cm,a.dfd=false->b.dfd=false->((!a.dfd && !b.dfd) && !Sk.same a.mem b.mem)=false->Sk.same a.mem b.mem=true:=λa b h1 h2 h3=>by
     rw [h1,h2] at h3; simpa using h3
    rcases Nat.lt_trichotomy i j with h2 | h2 | h2
    .exact hfin x y hdx hdy<|h1 i j x y h2 (by rw [List.getElem?_eq_getElem hi,hix])<|by rw [List.getElem?_eq_getElem hj,hjy]
    .subst h2
     have:x=y:=by rw [<- hix,hjy]
     subst this
     unfold Sk.same Sk.sameTy; simp
    .exact w9<|hfin y x hdy hdx<|h1 j i y x h2 (by rw [List.getElem?_eq_getElem hj,hjy])<|by rw [List.getElem?_eq_getElem hi,hix]
   .intro h n hn
    cases hf:feat s.c n with
    | some f=>rfl
    | none =>
     rw [if_neg (by decide)]
     unfold Sk.cpairs
     rw [zn,pg (λa b h=>by
      simp only [Bool.and_eq_true,Bool.not_eq_true',Bool.eq_false_iff] at h ⊢
      exact ⟨⟨h.1.2,h.1.1⟩,λh2=>h.2 (w9 h2)⟩)]
     intro i k a b _ h1 h2
     obtain ⟨ha1,ha2⟩:=bD.1<|List.mem_of_getElem? h1
     obtain ⟨hb1,hb2⟩:=bD.1<|List.mem_of_getElem? h2
     cases hda:a.dfd with
     | true=>rfl
     | false =>
      cases hdb:b.dfd with
      | true=>rfl
      | false=>rw [h a ha1 b hb1 (ha2.trans hb2.symm) (by rw [ha2]; exact hf) hda hdb]; rfl
 have e4 : s.chosen = [] ↔ ((∀ d ∈ s.seeds, (s.sel d).2 = true) /\ ∀ (i : Nat) (p : Pt), s.c.pars[i]? = some p -> ∀ n ∈ p.sel, s.fro i n = [] \/ (((dF s.ms n).getD mb0).seeds.any λd => decide (1 < (aX s.ms d).length)) = true) /\ (s.c.dfd = false -> ∀ m ∈ s.ms, m.kind ≠ 3) := by
  unfold Sk.chosen
  rw [List.append_eq_nil_iff,List.append_eq_nil_iff]
  refine and_congr (and_congr ?_ ?_) ?_
  .rw [bI]
   refine forall_congr' λd=>forall_congr' λhd=>?_
   constructor
   .intro h
    cases hq:(s.sel d).2 with
    | true=>rfl
    | false =>
     exfalso
     rw [hq,if_neg (by decide),zn,pg (λ_ _ _=>rfl)] at h
     have hne:=GL hd
     match hl:aX s.ms d,hne with
     | [a],_=>rw [sel_one hl] at hq; cases hq
     | a::b::t,_ =>
      have:=h 0 1 a b (by decide) (by rw [hl]; rfl) (by rw [hl]; rfl)
      cases this
   .intro h; rw [h,if_pos rfl]
  .rw [bI,<- hz (P:=λp i=>∀ n∈p.sel,s.fro i n=[]\/(((dF s.ms n).getD mb0).seeds.any λd=>decide (1<(aX s.ms d).length))=true)]
   refine forall_congr' λq=>forall_congr' λ_=>?_
   rw [bI]
   refine forall_congr' λn=>forall_congr' λ_=>?_
   rw [nZ,not_and]
   constructor
   .intro h
    by_cases hq:s.fro q.2 n=[]
    .exact .inl hq
    .exact .inr<|by simpa using h hq
   .rintro (h | h) h2
    .exact absurd h h2
    .rw [h]; decide
  .rw [bI]
   constructor
   .intro h hd m hm hk
    have:=nZ.1<|h m hm
    exact this ⟨hd,hk⟩
   .intro h m hm
    rw [nZ]
    rintro ⟨h1,h2⟩
    exact h h1 m hm h2
 have e5:s.apart=[]↔∀ d∈s.seeds,∀ (i k:Nat) (a b:Mb),i<k->(s.ms.filter λm=>m.seeds.contains d)[i]? = some a->(s.ms.filter λm=>m.seeds.contains d)[k]? = some b->Sk.sameTy a b=true:=by
  unfold Sk.apart
  rw [bI]
  refine forall_congr' λd=>forall_congr' λ_=>?_
  rw [pg (λa b h=>by
   simp only [Bool.not_eq_true',Bool.eq_false_iff] at h ⊢
   exact λh2=>h (ym h2))]
  refine forall_congr' λi=>forall_congr' λk=>forall_congr' λa=>forall_congr' λb=>forall_congr' λ_=>forall_congr' λ_=>forall_congr' λ_=>?_
  simp
 rw [e1,e2,e3,e4,e5]
 constructor
 .rintro ⟨⟨⟨⟨⟨h1,h2⟩,h3⟩,h4⟩,h5⟩,h6,⟨⟨h7,h8⟩,h9⟩,⟨⟨h10,h11⟩,h12⟩,h13⟩
  exact ⟨λi p hp=>(h1 i p hp).1,λi p hp=>(h1 i p hp).2,h2,h3,h4,h5,h6,h7,h8,h9,h10,h11,h12,h13⟩
 .intro h
  exact ⟨⟨⟨⟨⟨λi p hp=>⟨h.l1 i p hp,h.l1' i p hp⟩,h.l2⟩,h.l3⟩,h.l4⟩,h.l5⟩,h.red,⟨⟨h.t1,h.t1'⟩,h.t2⟩,⟨⟨h.c1,h.c2⟩,h.c3⟩,h.ap⟩
end
end Go.Fl
