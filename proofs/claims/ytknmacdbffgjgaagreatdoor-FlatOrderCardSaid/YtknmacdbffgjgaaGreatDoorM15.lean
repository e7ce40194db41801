/-
  Package flat: what the searches for conflicts ask; pairs yields conflicts. Conditions: what is read.
-/
import Derived.Test.YtknmacdbffgjgaaGreatDoorM14
import Derived.Test.YtknmacdbffgjgaaGreatDoorM10
import Derived.Shelf.Strings.FuncGrows
import Derived.Shelf.Strings.Fields
set_option linter.unusedVariables false
set_option linter.unusedSimpArgs false
set_option maxRecDepth 100000
set_option maxHeartbeats 16000000
namespace Go.Ck
open Go Go.RowKit
theorem v_mlenI {P : Program} {e : Env} {h h' : SH} {t ty' K E : TypeId} {x : Operand} {b : Nat} {m : List (Int × Value)} (hx : e.ev? x = some (.map (some b))) (ht : P.underlying t = some (.map K E)) (hs : Sel h (mpr b m) h') :
  Vop P e h (.call { callee:=.builtin .len,args := #[x],argTypes := #[t] }) ty' (.int .i64 m.length):=
 ⟨by simp,by simp,λρ w d pos after g hρ hh=>by
  obtain ⟨es,ck,h1,h2,_⟩:=(hh.sel hs).1
  have hg:(getObj b).run P w = .ok (.map es ck) w:=run_getObj_map h1
  have hl:es.size=m.length:=by
   have:=congrArg List.length h2
   simpa [mU] using this
  simp [execOp,resolve,invoke,builtin,hρ x _ hx,Builtin.len_,run_underlying ht,goInt,hg,hl]⟩
end Go.Ck
namespace Go.Fl
open Go Go.RowKit Go.Ck Go.Proofs Go.Proofs.Tryz Go.Proofs.YtknmacdbffgjgaaGreatDoor Fx Go.Hr
theorem Hf (cs:List Cm) (x:Cm) (s:Sd):having (cs++[x]) s=if x.mem.seeds.contains s then having cs s++[x] else having cs s:=by
 unfold having
 rw [List.filter_append]
 by_cases h:x.mem.seeds.contains s=true
 ·rw [if_pos h,List.filter_cons,if_pos h]; rfl
 ·rw [if_neg h,List.filter_cons,if_neg h]; simp
theorem Hg (c:FC) (xs:List Cm) (x:Cm):picked c (xs++[x])=if (dG c x.par).sel.contains x.mem.name && !(picked c xs).contains x.mem.name then picked c xs++[x.mem.name] else picked c xs:=by
 unfold picked
 rw [List.filter_append]
 by_cases h:(dG c x.par).sel.contains x.mem.name=true
 ·have e1:[x].filter (λx=>(dG c x.par).sel.contains x.mem.name)=[x]:=by rw [List.filter_cons,if_pos h]; rfl
  rw [e1,List.map_append,List.map_cons,List.map_nil,rT,h,Bool.true_and]
  unfold Hr.step
  by_cases h2:(dd [] ((xs.filter λx=>(dG c x.par).sel.contains x.mem.name).map λx=>x.mem.name)).contains x.mem.name=true
  ·rw [if_pos h2,h2]; rfl
  ·rw [if_neg h2,if_pos Zo]
 ·have e1:[x].filter (λx=>(dG c x.par).sel.contains x.mem.name)=[]:=by rw [List.filter_cons,if_neg h]; rfl
  rw [e1,List.append_nil,Bool.eq_false_iff.2 h]; rfl
theorem OJ (o xs:List Nat) (i:Nat):ddn o (xs++[i])=if (ddn o xs).contains i then ddn o xs else ddn o xs++[i]:=by
 unfold ddn
 rw [List.foldl_append]; rfl
theorem Bn (xs:List Cm) (x:Cm):cu (xs++[x])=if (cu xs).contains x.par then cu xs else cu xs++[x.par]:=by
 unfold cu
 rw [List.map_append,List.map_cons,List.map_nil,OJ]
def qD (ps:List Nat):List (Int×Value):=ps.map λ(i:Nat)=>((i:Int),.bool true)
theorem Hl : ∀ (ps : List Nat) (i : Nat), nL (qD ps) (i : Int) (.bool true) = qD (if ps.contains i then ps else ps ++ [i])
 | [],i=>by simp [qD,nL]
 | p::t,i=>by
  have ih:=Hl t i
  unfold qD at ih ⊢
  rw [List.map_cons,nL]
  by_cases h:p=i
  ·subst h
   simp
  ·have h1:¬ ((p:Nat):Int)=(i:Nat):=by omega
   have h2:(p::t).contains i=t.contains i:=by rw [List.contains_cons]; simp [show (i == p)=false by simpa using λe=>h (by omega)]
   rw [if_neg h1,ih,h2]
   split <;> rfl
structure Fits (l:FS) (fl:Nm->Fl):Prop where
 right:FRight l
 flb:FlB l fl
 lists:∀ c∈l,∀ p∈c.pars,p.ren.length≤12/\p.und.length≤12/\p.red.length≤12/\p.sel.length≤12
section
variable {l:FS} {fl:Nm->Fl}
theorem Fits.hf (h:Fits l fl) {c:FC} (hc:c∈l∨c=Bi):∀ p∈c.pars,(ae l p.name).forms.length=p.args.length/\p.und.length≤1099511627776:=λp hp=>by
 rcases hc with hc | rfl
 ·exact ⟨((gL<|h.right.form c hc).args p hp).symm,by have:=(h.lists c hc p hp).2.1; omega⟩
 ·cases hp
theorem Fits.sel (h:Fits l fl) {c:FC} (hc:c∈l∨c=Bi):∀ p∈c.pars,p.sel.length≤1099511627776:=λp hp=>by
 rcases hc with hc | rfl
 ·have:=(h.lists c hc p hp).2.2.2; omega
 ·cases hp
theorem Fits.few (h:Fits l fl) {c:FC} (hc:c∈l∨c=Bi):(comes fl l c).length≤240:=by
 rcases hc with hc | rfl
 ·exact xk h.right h.flb hc
 ·exact Nat.zero_le _
theorem Fits.name (h:Fits l fl) {c:FC} (hc:c∈l∨c=Bi):∀ x∈comes fl l c,x.mem.name.length≤20:=λx hx=>by
 rcases hc with hc | rfl
 ·exact (y8 h.flb.ok (gL<|h.right.form c hc) hx).name
 ·cases hx
theorem AU (c:FC) (xs:List Cm):(picked c xs).length≤xs.length:=by
 have:(picked c xs).length≤(xs.map λx=>x.mem.name).length:=aW (NW _) λn hn=>by
  obtain ⟨x,hx,_,e⟩:=Ag.1 hn
  exact List.mem_map.2 ⟨x,hx,e⟩
 simpa using this
theorem Fits.join (h:Fits l fl) {c:FC} (hc:c∈l∨c=Bi) (s:Sd):(picked c (having (comes fl l c) s)).length≤240/\(ko (picked c (having (comes fl l c) s))).length≤140737488355328:=by
 have h1:=AU c<|having (comes fl l c) s
 have h2:(having (comes fl l c) s).length≤(comes fl l c).length:=List.length_filter_le _ _
 have h3:=h.few hc
 have h4:=Dp (k:=20) (xs:=picked c<|having (comes fl l c) s) λn hn=>by
  obtain ⟨x,hx,_,e⟩:=Ag.1 hn
  rw [<- e]
  exact h.name hc x (List.mem_filter.1 hx).1
 omega
theorem OL {n:Nat} {c:FC} {ms:List Mb} {s:Sd}:∃ up,eZ fl l n c ms s=Gm fl l c ms s up:=by
 cases n with
 | zero=>exact ⟨_,Lu⟩
 | succ n=>exact ⟨_,CX⟩
theorem OM {n:Nat} {c:FC} {ms:List Mb} {s:Sd} (h:(bn ms s).length=1):eZ fl l n c ms s=((bn ms s).headD [],true):=by
 obtain ⟨up,e⟩:=OL (l:=l) (fl:=fl) (n:=n) (c:=c) (ms:=ms) (s:=s)
 rw [e]; unfold Gm; rw [if_pos h]
theorem Hm {n:Nat} {c:FC} {ms:List Mb} {s:Sd} (h:(bn ms s).length≠1) (h2:picked c (having (comes fl l c) s)≠[]∨(cu (having (comes fl l c) s)).length≠1):eZ fl l n c ms s=(ko (picked c (having (comes fl l c) s)),(picked c (having (comes fl l c) s)).length == 1):=by
 obtain ⟨up,e⟩:=OL (l:=l) (fl:=fl) (n:=n) (c:=c) (ms:=ms) (s:=s)
 rw [e]; unfold Gm; rw [if_neg h,if_pos h2]
theorem sel_up {n:Nat} {c:FC} {ms:List Mb} {s:Sd} {i:Nat} (h:(bn ms s).length≠1) (h2:picked c (having (comes fl l c) s)=[]) (h3:cu (having (comes fl l c) s)=[i]):eZ fl l (n+1) c ms s =
  if 1<(bn (fl (dG c i).name).mems s).length then (bN (dG c i) (eZ fl l n (ae l (dG c i).name) (fl (dG c i).name).mems s).1,(eZ fl l n (ae l (dG c i).name) (fl (dG c i).name).mems s).2) else ([],false):=by
 rw [CX]
 unfold Gm
 rw [if_neg h,if_neg (by rw [h2,h3]; simp),h3]
 rfl
theorem Dq (ms:List Mb) (s:Sd):(bn ms s).length≤ms.length:=by
 unfold bn
 rw [List.length_map]
 exact List.length_filter_le _ _
end
attribute [local irreducible] Go.Ck.Sub St Cd Xt Nx DrL LsW
section
variable {v v':Value}
theorem xZ {mb : Nat} {m : List (Nm × Value)} {fl : Nm -> Fl} {l : FS} (hF : Fits l fl) : ∀ (n : Nat) (X : Res) (c : FC) (cn : Nm) (uc : List Value) (mv : Value) (ms : List Mb) (s : Sd), c = ae l cn -> rk (aO l) cn ≤ n -> Ls X v l -> Enc.rep X uc c -> FlR X m fl -> Ls X mv ms ->
  dQ prog 98 #[.agg #[v,.map (some mb)],.agg uc.toArray,mv,.agg #[sv s.cls,sv s.name]] X [mps mb m] λu Y k'=>k'=[mps mb m]/\u = .tuple #[sv (eZ fl l n c ms s).1,.bool (eZ fl l n c ms s).2]:=by
 intro n
 induction n using Nat.strongRecOn with
 | ind n ih =>
 intro X c cn uc mv ms s hcn hrk hl hc hm hms
 have hcl:c∈l∨c=Bi:=by rw [hcn]; exact G9
 have hnl:=Dq ms s
 have hml:maxLen=9223372036854775807:=rfl
 have huc:=Enc.len hc
 obtain ⟨hj1,hj2⟩:=hF.join hcl s
 unfold dQ
 refine EG (n:=120) func98 Z Z (len Z) λhr w0 hw0=>?_
 refine cQ (aV Z Z λb4=>?_)
 refine aV Z Z λb5=>?_
 refine aV Z Z λb7=>?_
 refine sA Z<|sA Z<|sK [2,4,5,7,8,9] Z<|cQ<|sM Z<|sV (af Z ic Z ah) ?_
 refine aH Z Z FK Z (lQ hms) ?_
 rintro u h' ⟨T,rfl,hu,rfl⟩
 simp only [lC,lN]
 unfold NR
 refine sA Z<|sK [4,5,7,8,9,10] Z<|cS<|cS (fq (v:=u) (E:=9) (sz:=1) (rows:=(bn ms s).map nC) slq λwa wc hwf hwl hwm=>?_)
 rw [List.length_map] at hwf hwl
 subst hwf
 refine cR<|sM Z<|sV (aF Z underlying40)<|sV (dD Z Z)<|sK [4,5,7,8,9,10,23] Z<|cC Z (λhd=>?_)<|λhd=>?_
 ·have h1:(bn ms s).length=1:=by have:=beq_iff_eq.1 hd; omega
  rw [OM h1]
  refine fw (r:=VR (.slice wa (bn ms s).length wc) 9 1<|(bn ms s).map nC) slq λhok=>?_
  obtain ⟨ab,ao,rfl⟩:∃ ab ao,wa=some ⟨ab,ao,none⟩:=by
   obtain ⟨f0,hf0⟩:=hok
   rcases VR.form hf0 with ⟨h3,h4⟩ | ⟨b,o,cp,h3,-⟩
   ·have:=List.map_eq_nil_iff.1 h4
    rw [this] at h1; cases h1
   ·rw [List.length_map] at h3; cases h3; exact ⟨b,o,rfl⟩
  have hnx:((bn ms s).map nC)[0]? = some [sv ((bn ms s).headD [])]:=by
   match hq:bn ms s,h1 with
   | [a],_=>rfl
  refine cQ<|sM Z<|sV (vI (k:=0) Z Z jv Z (by omega) Z)<|sV (vY Z ld9 (ha:=⟨_,_,slq,dN hnx 0<|by simp⟩)) ?_
  refine sA Z<|sA Z<|sK [8,9] Z<|cT<|xR ?_
  exact jS (bs:=[]) Z Z ⟨X,_,Z,Ext.refl X,Z,Z⟩ sbq
 ·have hn1:(bn ms s).length≠1:=λh=>by rw [h] at hd; exact absurd hd (by decide)
  refine cK<|xT<|cQ (ax al40 λb11=>?_)
  refine sK [4,5,7,8,9,11] Z<|cQ (Ik (ltn Z) λbm=>?_)
  refine ax al250 λb12=>?_
  refine bf Z Z sz250 ?_
  refine sK [4,5,7,8,9,11,12] Z<|cS<|cQ<|sV (af Z ig Z ah) ?_
  refine sV (af Z gp huc ah) ?_
  refine aH Z Z en171 Z (Dl (v:=v) (mb:=mb) (uc:=uc)) ?_
  rintro u h' ⟨c1,c2,rfl,rfl⟩
  simp only [lC,lN]
  refine sK [4,5,7,8,9,11,12,30] Z<|cB<|dJ (cO 9 1) (jg Z en237 λyl db rec hst hpe hps hasg hbo hkn2=>?_)
  refine ⟨_,Ct.perm (GQ (σ := Value×List Nm×List Nat) (mb:=mb) (b1:=c1) (b2:=c2) (yl:=yl) (λq=>pt yl (.loop rec)::pt db (.deferred<|some [])::pt b11 (cl [q.1] 40)::VR q.1 9 1 (q.2.1.map nC)::pt b12 (cl [.map (some bm)] 250)::mpr bm (qD q.2.2)::pt b4 (cl [v,.map (some mb)] 114)::pt b5 (cl uc 44)::pt b7 (cl [sv s.cls,sv s.name] 69)::VR (.slice wa (bn ms s).length wc) 9 1 ((bn ms s).map nC)::hr)
   (λk Y q=>q.1.oneCell'=true/\q.2.1=picked c (having ((comes fl l c).take k) s)/\q.2.2=cu (having ((comes fl l c).take k) s)) (λ_ _ _=>False) (.slice none 0 0,[],[]) ⟨rfl,rfl,rfl⟩ hl hc hm (hF.hf hcl) ?_ (λ_ _ _ _ _ h=>h)) ?_,?_⟩
  ·rintro k Y ⟨w, ns, ps⟩ x us hx hE hrep ⟨hw, hns, hps2⟩
   simp only at hw hns hps2 ⊢
   have hone:=Enc.ones hrep
   have hus:=Enc.len hrep
   have hlt:=(List.getElem?_eq_some_iff.1 hx).1
   have htk:(comes fl l c).take (k+1)=(comes fl l c).take k++[x]:=by rw [bV hlt,(List.getElem?_eq_some_iff.1 hx).2]
   obtain ⟨p,hp,-,-,-⟩:=jq<|List.mem_of_getElem? hx
   have hpx:dG c x.par=p:=by unfold dG; rw [hp]; rfl
   have hpm:=List.mem_of_getElem? hp
   have hplt:=(List.getElem?_eq_some_iff.1 hp).1
   have hhs:=Hf ((comes fl l c).take k) x s
   have hpk:=Hg c (having ((comes fl l c).take k) s) x
   have hfp:=Bn (having ((comes fl l c).take k) s) x
   have hnsl:=AU c<|having ((comes fl l c).take k) s
   have hhl:(having ((comes fl l c).take k) s).length≤((comes fl l c).take k).length:=List.length_filter_le _ _
   have hfew:=hF.few hcl
   rw [List.length_take] at hhl
   rw [hpx] at hpk
   rw [<- hns] at hpk hnsl
   rw [<- hps2] at hfp
   obtain ⟨ca,cb,ce,cf,ci,rfl,hca,hcb,hce,hcf,hci⟩:=gB hc
   obtain ⟨pb,po,pcap,pus,e1,hpus,hprd,hpr⟩:=(hcb.up hE).at hp
   subst e1
   have hsl:=hF.sel hcl p hpm
   obtain ⟨pa,pr,pu,pd,pS,rfl,hpa,hpr,hpu,hpd,hpsel⟩:=hpr
   obtain ⟨x2,x5,xy,x11,x12,x13,rfl,hxm⟩:=iC hrep
   obtain ⟨hx2,hx5,hxy,hx11,hx12,hx13⟩:=hxm
   obtain ⟨ax2,kx2,rfl,_⟩:=id hx2.form
   unfold oJ at *
   refine Yc.perm (qJ (n:=120) (rec:=rec) (args:=[.agg [sv x.og.par,sv x.og.name,.int .i64 x.par,sv x.mem.name,.int .i64 x.mem.kind,.slice ax2 x.mem.seeds.length kx2,sv x.mem.impl.cls,sv x.mem.impl.name,x5,.int .i64 x.mem.ty.kind,sv x.mem.ty.name,xy,.bool x.mem.ty.void,.bool x.mem.ty.sep,x11,x12,x13,.int .i64 x.was].toArray]) (hf:=pt db (.deferred<|some [])::pt b11 (cl [w] 40)::VR w 9 1 (ns.map nC)::pt b12 (cl [.map (some bm)] 250)::mpr bm (qD ps)::pt b4 (cl [v,.map (some mb)] 114)::pt b5 (cl [sv c.name,.bool c.dfd,ca,.slice (some ⟨pb,po,none⟩) c.pars.length pcap,ce,cf,ci] 44)::pt b7 (cl [sv s.cls,sv s.name] 69)::VR (.slice wa (bn ms s).length wc) 9 1 ((bn ms s).map nC)::Y::mps mb m::hr) (by rw [hps]; rfl) hkn2 (by rw [hps]; decide) ?_) (by exact (by repeat (first | exact Pm.refl | refine Pm.cons slq ?_):Pm _ _).perm)
   intro hr2 w1
   rw [hasg,hps,hbo]
   simp only [lC,lN]
   refine fw (r:=VR w 9 1<|ns.map nC) slq λhokw=>?_
   refine cR (ax qY λb13=>?_)
   refine ai Z Z mH Z hone ?_
   refine sN<|nK [5,7,8,9,11,12,13] Z<|au<|lI Z slq (by first | rfl | assumption) ?_
   refine cB<|cS<|cQ<|sV (vF Z dW Z)<|sV (vF Z eF Z)<|sV (vY Z oZ) ?_
   refine sV (af Z ic Z ah) ?_
   refine aY Z Z en33 Z (vW hx2) ?_
   refine sV (bi Z)<|sK [5,8,9,11,12,13,37] Z<|cC Z (λhct=>?_)<|λhct=>?_
   ·have hct:x.mem.seeds.contains s=false:=Zd
    rw [hct] at hhs
    simp only [Bool.false_eq_true,if_false] at hhs
    refine aB<|xE<|xY<|dB slq (.inl ⟨Z,Y,(w,ns,ps),Ext.refl Y,⟨hw,by rw [htk,hhs]; exact hns,by rw [htk,hhs]; exact hps2⟩,Z⟩) ?_
    rw [dC hst hpe]
    exact sbq
   ·have hct:x.mem.seeds.contains s=true:=Zd
    rw [hct] at hhs
    simp only [if_true] at hhs
    rw [<- hhs,<- htk] at hpk hfp
    refine cK<|xT<|cQ<|sV (vY Z ld250) ?_
    refine sV (vF Z yQ Z)<|sV (vY Z ld3) ?_
    refine DT Z Z Z mp250 slq ?_
    rw [Hl]
    refine sK [5,8,9,11,13] Z<|cS<|bB (ork [(0,2),(1,1),(2,2),(3,1),(4,2),(5,2),(6,1),(7,2),(8,2),(9,1),(10,1),(11,2),(12,1),(13,2),(14,2),(15,1),(16,1),(17,2),(18,2)] .nil) (λ_=>true) mixed Zz ?_
    refine dV Z (vF Z fC Z)<|bg Z (vY Z mi) ?_
    refine dV Z (vF Z yQ Z)<|bg Z (vY Z ld3) ?_
    have hsel1:=fJ (ED hpsel) x.mem.name hsl
    have hsel2:=fJ (iT hokw) x.mem.name<|by omega
    refine dV Z (vI (k:=x.par) Z Z oV Z hplt Z)<|dV Z (vF Z zP Z)<|bg Z (vY Z fG (ha:=⟨_,_,slq,hprd 5<|by simp⟩)) ?_
    refine dV Z (vF Z dW Z)<|dV Z (vF Z eD Z)<|bg Z (vY Z ld9) ?_
    refine gZ Z Z Z Ed Z (hsel1) ?_
    cases hq1:p.sel.contains x.mem.name
    ·rw [hq1,Bool.false_and] at hpk
     simp only [Bool.false_eq_true,if_false] at hpk
     refine dV Z (vM Z)<|jV Z Z Z Z ?_
     iterate 2 refine ji rfl rfl rfl rfl ?_
     iterate 2 refine jV rfl rfl rfl rfl ?_
     refine ji Z Z Z Z ?_
     refine dV Z (vP Z Z)<|bA<|nK [8,9,11,13,59] Z<|nT<|aG Z ?_
     refine cK<|xB<|dB slq (.inl ⟨Z,Y,(w,ns,if ps.contains x.par then ps else ps++[x.par]),Ext.refl Y,⟨hw,hpk.symm,hfp.symm⟩,Z⟩) ?_
     rw [dC hst hpe]
     exact sbq
    ·rw [hq1,Bool.true_and] at hpk
     refine dV Z (vM Z)<|jI Z Z Z (vY Z fG) ?_
     refine d9 Z Z Z (vF Z dW Z)<|d9 Z Z Z (vF Z eD Z)<|jI Z Z Z (vY Z ld9) ?_
     refine yI Z Z Z Z Z Ed Z (hsel2) ?_
     refine d9 Z Z Z (bi Z)<|dV Z (vQ Z Z)<|bA<|nK [8,9,11,13,59] Z<|nT<|cC Z (λhap=>?_)<|λhap=>?_
     ·have hap:ns.contains x.mem.name=false:=by simpa using hap
      rw [hap] at hpk
      simp only [Bool.not_false,if_true] at hpk
      refine cR<|sV (vY Z fG) ?_
      refine sV (vF Z dW Z)<|sV (vF Z eD Z)<|sV (vY Z ld9) ?_
      refine ak (cells:=[sv x.mem.name]) Z underlying40 gm Z Z Zz (ltn Z) λb64=>?_
      refine dF [[sv x.mem.name]] Z Z underlying40 gm Z (by decide) (show Sel _ (VR w 9 1<|ns.map nC) _ from slq) (by simp) Z (λj u2 hu2=>bQ<|bU Zt) (by simp [sv,Value.oneCell']) (by rw [List.length_map]; omega) (by rw [List.length_map]; omega) (ltn Z) λw2 hw2 _=>?_
      rw [show ns.map nC++[[sv x.mem.name]]=(ns++[x.mem.name]).map nC by simp [nC]]
      refine bf Z Z yn ?_
      refine sN<|nK [8,9] Z<|au<|xB<|dB slq (.inl ⟨Z,Y,(w2,ns++[x.mem.name],if ps.contains x.par then ps else ps++[x.par]),Ext.refl Y,⟨hw2,hpk.symm,hfp.symm⟩,Z⟩) ?_
      rw [dC hst hpe]
      exact sbq
     ·have hap:ns.contains x.mem.name=true:=by simpa using hap
      rw [hap] at hpk
      simp only [Bool.not_true,Bool.false_eq_true,if_false] at hpk
      refine cK<|xB<|dB slq (.inl ⟨Z,Y,(w,ns,if ps.contains x.par then ps else ps++[x.par]),Ext.refl Y,⟨hw,hpk.symm,hfp.symm⟩,Z⟩) ?_
      rw [dC hst hpe]
      exact sbq
  ·exact (by repeat (first | exact Pm.refl | refine Pm.cons slq ?_):Pm _ _).perm
  ·rintro u h' ⟨rfl, (⟨Y, ⟨w, ns, ps⟩, hE, ⟨hw, hns, hps2⟩, rfl⟩ | ⟨k, Y, t, _, hS, rfl⟩)⟩
   ·simp only at hw hns hps2
    rw [List.take_length] at hns hps2
    refine ⟨rec,_,slq,(by rw [hst]; simp),?_⟩
    rw [hpe]
    dsimp only
    refine xB<|xT<|cS<|cS (fq (v:=w) (E:=9) (sz:=1) (rows:=ns.map nC) slq λpa pc hpf hpl hpm=>?_)
    rw [List.length_map] at hpf hpl
    subst hpf
    refine cR<|sV (vY Z fG) ?_
    refine sV (aF Z underlying40)<|sV (bZ Z Z)<|sM Z ?_
    by_cases h0:ns=[]
    ·have hg0:decide ((0:Int)<(ns.length:Nat))=false:=by rw [h0]; rfl
     rw [hg0]
     refine sG Z Z (vY Z ld250) ?_
     refine sG Z Z (v_mlenI Z underlying250 slq) ?_
     refine sG Z Z (bM Z Z)<|sV (vP Z Z)<|sK [4,5,7,8,9,11,12,73] Z ?_
     by_cases h1:ps.length=1
     ·have hg1:((((qD ps).length:Nat):Int) != 1)=false:=by unfold qD; rw [List.length_map,h1]; rfl
      rw [hg1]
      obtain ⟨i,rfl⟩:=List.length_eq_one_iff.1 h1
      have hfr:cu (having (comes fl l c) s)=[i]:=hps2.symm
      have hpk0:picked c (having (comes fl l c) s)=[]:=by rw [<- hns]; exact h0
      have hpm:dG c i∈c.pars:=rD (fl:=fl) (l:=l) (s:=s) (by rw [hfr]; simp)
      obtain ⟨n',rfl,hrk'⟩:∃ n',n=n'+1/\rk (aO l) (dG c i).name≤n':=by
       have h2:=iI hF.right.sys.acyc<|eP hF.right.sys (c:=cn) (p:=dG c i) (by rw [<- hcn]; exact hpm)
       exact ⟨n - 1,by omega,by omega⟩
      have hih:=λZq (hE:Ext X Zq) (cus:List Value) (mxv:Value) hrep hmx=>ih n' (Nat.lt_succ_self _) Zq (ae l (dG c i).name) (dG c i).name cus mxv (fl (dG c i).name).mems s rfl hrk' (hl.up hE) hrep (hm.up hE) hmx
      rw [sel_up hn1 hpk0 hfr]
      obtain ⟨hplt,hpi⟩:i<c.pars.length/\c.pars[i]? = some (dG c i):=by
       have hi:i∈cu (having (comes fl l c) s):=by rw [hfr]; simp
       obtain ⟨x,hx,rfl⟩:=pJ.1 hi
       obtain ⟨p,hp,-⟩:=jq (List.mem_filter.1 hx).1
       refine ⟨(List.getElem?_eq_some_iff.1 hp).1,?_⟩
       unfold dG; rw [hp]; rfl
      generalize eZ fl l n' (ae l (dG c i).name) (fl (dG c i).name).mems s=r at hih ⊢
      generalize dG c i=p at hih hpi hpm ⊢
      obtain ⟨ca,cb,ce,cf,ci,rfl,hca,hcb,hce,hcf,hci⟩:=gB hc
      obtain ⟨cb,ck,rfl,_⟩:=id hcb.form
      clear huc
      refine aG Z ?_
      refine cK<|xT<|cS<|cQ<|sV (vY Z ld250) ?_
      refine Oz Z mp250 slq (ltn Z) λib hnd=>?_
      refine sK [4,5,7,8,9,80] Z<|cB<|aZ (σ := List (Int×Value)×Option (Int×Value)×Res) (λq=>[(4,.pointer (some ⟨b4,0,none⟩)),(5,.pointer (some ⟨b5,0,none⟩)),(7,.pointer (some ⟨b7,0,none⟩)),(80,.pointer (some ⟨ib,0,none⟩))]) (λq=>mit bm ib (qD [i]) q.1 q.2.1::pt db (.deferred<|some [])::pt b4 (cl [v,.map (some mb)] 114)::pt b5 (cl [sv c.name,.bool c.dfd,ca,.slice cb c.pars.length ck,ce,cf,ci] 44)::pt b7 (cl [sv s.cls,sv s.name] 69)::q.2.2::mps mb m::hr) (λq=>Ext X q.2.2/\(q.1=qD [i]∨(q.1=[]/\¬ 1<(bn (fl p.name).mems s).length))) (λq=>q.1.length) (qD [i],none,Y) ⟨hE,.inl Z⟩ ?_
      rintro ⟨left,last,Zq⟩ ⟨hE2,hleft⟩
      simp only at hE2 hleft
      dsimp only
      refine cQ<|st_next Z slq (ltn Z) (λhl0=>?_)<|λk v1 left' hp=>?_
      ·subst hl0
       have hno:¬ 1<(bn (fl p.name).mems s).length:=hleft.elim (λe=>by cases e) λe=>e.2
       rw [if_neg hno]
       refine sV (ag Z Z)<|sK [4,5,7,80,82] Z<|cS<|aG Z ?_
       refine aB<|xE<|xE<|xY<|xT<|cQ<|sA Z<|sA Z<|sK [8,9] Z<|cT ?_
       exact jS (bs:=[db]) Z Z ⟨Zq,_,Z,hE2,Z,Z⟩ sbq
      ·refine sV (ag Z Z)<|sK [4,5,7,80,82] Z<|cS<|aT Z ?_
       refine cK<|xT<|cB<|cQ<|sV (v_entry Z slq) ?_
       have hki:k=(i:Int)/\left'=[]:=by
        rcases hleft with e | ⟨e,_⟩
        ·rw [e] at hp
         have h3:=hp.length_eq
         have h4:(k,v1)∈qD [i]:=hp.mem_iff.2<|by simp
         simp only [qD,List.map_cons,List.map_nil,List.mem_singleton,Prod.mk.injEq] at h4
         simp only [qD,List.map_cons,List.map_nil,List.length_cons,List.length_nil] at h3
         exact ⟨h4.1,List.eq_nil_of_length_eq_zero<|by omega⟩
        ·rw [e] at hp
         have:=hp.length_eq
         simp at this
       obtain ⟨rfl,rfl⟩:=hki
       obtain ⟨pb,po,pcap,pus,e1,hpus,hprd,hpr⟩:=(hcb.up hE2).at hpi
       obtain ⟨rfl,rfl⟩:cb=some ⟨pb,po,none⟩/\ck=pcap:=by cases e1; exact ⟨rfl,rfl⟩
       have hpr0:=hpr
       obtain ⟨pa,pr,pu,pd,pS,rfl,hpa,hpR,hpu,hpd,hpsel⟩:=hpr
       obtain ⟨aA,kA,rfl,_⟩:=id hpa.form
       obtain ⟨aR,kR,rfl,_⟩:=id hpR.form
       obtain ⟨aU,kU,rfl,_⟩:=id hpu.form
       obtain ⟨aD,kD,rfl,_⟩:=id hpd.form
       obtain ⟨aS,kS,rfl,_⟩:=id hpsel.form
       obtain ⟨fus,hfl,hfr2⟩:=hm.up hE2 p.name
       obtain ⟨mx,my,rfl,hmx,hmy⟩:=hfr2
       obtain ⟨mA,mK,rfl,_⟩:=id hmx.form
       refine sV (ag Z Z)<|sA Z<|sK [4,5,7,14,80] Z<|cQ<|sV (vF Z fC Z)<|sV (vY Z mi) ?_
       refine sM Z<|sV (vI (k:=i) Z Z oV Z hplt Z)<|sV (af Z qB Z hprd) ?_
       refine ax vC λb15=>?_
       refine ai Z Z sF Z Z ?_
       refine sK [4,5,7,15,80] Z<|cQ<|sV (vF Z iG Z)<|sV (vY Z oh) ?_
       refine sV (vF Z gT Z)<|sV (vY Z ld9) ?_
       refine sV (gG hfl<|bI Z Z nY kL slq) ?_
       refine sV (iP (k:=2) Z underlying55 Z isAgg52 Z)<|sV (af Z ic Z ah) ?_
       refine aH Z Z FK Z (lQ (s:=s) hmx) ?_
       rintro u h' ⟨T,rfl,hu2,rfl⟩
       simp only [lC,lN]
       unfold NR
       refine jD (v:=u) (E:=9) (sz:=1) (rows:=(bn (fl p.name).mems s).map nC) slq λqa qc hqf hql hqm=>?_
       rw [List.length_map] at hqf hql
       subst hqf
       refine sV (aF Z underlying40)<|sV (bZ Z Z)<|sK [4,5,7,15,80,99] Z<|cC Z (λhmore=>?_)<|λhmore=>?_
       ·have hmore:1<(bn (fl p.name).mems s).length:=by
         have:=of_decide_eq_true hmore
         omega
        rw [if_pos hmore]
        have hcc:=lY (n:=p.name) (fv:=.map<|some mb) (hl.up hE2) rfl
        refine cS<|bB (ork [(0,1),(1,1),(2,2),(3,1),(5,2),(6,1),(7,2),(8,1),(9,1),(10,1),(11,1),(4,0),(12,0),(13,2),(14,2),(15,2),(16,2),(17,2)] .nil) (λi => !(Nat.beq i 12)) mixed Zz ?_
        refine bg Z (af Z ig Z ah) ?_
        refine bg Z (af Z ig Z ah) ?_
        refine dV Z (vF Z gT Z)<|bg Z (vY Z ld9) ?_
        refine dV Z (vF Z iG Z)<|bg Z (vY Z oh) ?_
        refine dV Z (vF Z gT Z)<|bg Z (vY Z ld9) ?_
        refine bg Z (gG hfl<|bI Z Z nY kL slq) ?_
        refine bg Z (iP (k:=2) Z underlying55 Z isAgg52 Z)<|bg Z (af Z ic Z ah) ?_
        refine aP Z<|aH Z Z en56 Z (hcc) ?_
        rintro u h' ⟨rfl,cus,rfl,hcr⟩
        simp only [lC,lN]
        refine aX ?_
        refine aP Z<|bL hw0 Z Z en98 Z (hih Zq hE2 cus _ hcr hmx) ?_
        rintro u h' ⟨Z2,k2,rfl,hE3,rfl,rfl⟩
        simp only [lC,lN]
        refine aX ?_
        refine dV Z (vM Z)<|dV Z (ag Z Z)<|dV Z (ag Z Z)<|dV Z (vA Z)<|dV Z (vA Z)<|bA<|nK [4,5,7,15,16,17,80] Z<|nT<|cQ<|sV (af Z qB Z ah) ?_
        refine sM Z<|aH Z Z en173 Z (uw (n:=r.1)<|Enc.up hE3.rd hpr0) ?_
        rintro u h' ⟨rfl,rfl⟩
        simp only [lC,lN]
        refine sM Z<|sA Z<|sA Z<|sK [8,9] Z<|cT<|xW<|xR<|xW<|xR ?_
        exact jS (bs:=[db]) Z Z ⟨Z2,_,Z,hE2.trans hE3,Z,Z⟩ sbq
       ·have hmore:¬ 1<(bn (fl p.name).mems s).length:=by
         have:=of_decide_eq_false hmore
         omega
        refine cK<|xB ?_
        refine aM ([],some ((i:Int),v1),Zq) ⟨hE2,.inr ⟨rfl,hmore⟩⟩ (by rcases hleft with e | ⟨e,_⟩ <;> rw [e] at hp <;> simp [qD] at hp ⊢ <;> simp [e,qD])
     ·have hg1:((((qD ps).length:Nat):Int) != 1)=true:=by
       unfold qD
       rw [List.length_map]
       simp only [bne_iff_ne,ne_eq]; omega
      rw [hg1]
      refine aT Z ?_
      refine cS<|bB (ork [(0,1),(2,1),(3,2),(4,2),(1,0),(5,2),(6,2)] .nil) (λ_=>true) mixed Zz ?_
      refine bg Z (vY Z fG) ?_
      refine bg Z (vY Z fG) ?_
      refine dV Z (aF Z underlying40)<|dV Z (dD Z Z) ?_
      rw [Hm hn1 (.inr (by rw [<- hps2]; exact h1)),<- hns]
      refine aP Z<|bL hw0 Z Z en172 Z (KR (xs:=ns) (by rw [hns]; omega) (by rw [hns]; exact hj2)) ?_
      rintro u h' ⟨rfl,rfl⟩
      simp only [lC,lN]
      refine aX ?_
      refine dV Z (vA Z)<|dV Z (vA Z)<|bA<|nK [8,9] Z<|nT<|cT<|xR ?_
      rw [show (((ns.length:Nat):Int) == 1)=(ns.length == 1) by rw [Bool.eq_iff_iff]; simp; omega]
      exact jS (bs:=[db]) Z Z ⟨Y,_,Z,hE,Z,Z⟩ sbq
    ·have hg0:decide ((0:Int)<(ns.length:Nat))=true:=by
      have:=List.length_pos_iff.2 h0
      simp; omega
     rw [hg0]
     iterate 3 refine aC rfl rfl rfl ?_
     refine sV (vQ Z Z)<|sK [4,5,7,8,9,11,12,73] Z<|aT Z ?_
     refine cS<|bB (ork [(0,1),(2,1),(3,2),(4,2),(1,0),(5,2),(6,2)] .nil) (λ_=>true) mixed Zz ?_
     refine bg Z (vY Z fG) ?_
     refine bg Z (vY Z fG) ?_
     refine dV Z (aF Z underlying40)<|dV Z (dD Z Z) ?_
     rw [Hm hn1 (.inl (by rw [<- hns]; exact h0)),<- hns]
     refine aP Z<|bL hw0 Z Z en172 Z (KR (xs:=ns) (by rw [hns]; omega) (by rw [hns]; exact hj2)) ?_
     rintro u h' ⟨rfl,rfl⟩
     simp only [lC,lN]
     refine aX ?_
     refine dV Z (vA Z)<|dV Z (vA Z)<|bA<|nK [8,9] Z<|nT<|cT<|xR ?_
     rw [show (((ns.length:Nat):Int) == 1)=(ns.length == 1) by rw [Bool.eq_iff_iff]; simp; omega]
     exact jS (bs:=[db]) Z Z ⟨Y,_,Z,hE,Z,Z⟩ sbq
   ·exact hS.elim
end
def Ho:Go.Shelf.Ren:={
 f:=λ| 17=>225 | 15=>270 | 20=>297 | n=>n
 t:=λ| 9=>9 | 23=>290 | 4=>4 | 3=>3 | 0=>0 | 21=>21 | n=>n
 g:=λn=>n }
theorem lays17g:Go.Proofs.LaysGw.n17 prog Ho:={
 mixed:=rfl
 f15:=func270.trans<|congrArg some Zz
 f17:=func225.trans<|congrArg some Zz
 f20:=func297.trans<|congrArg some Zz
 t0:=underlying0
 a0:=isAgg0
 z0:=sizeOf0
 v0:=zeroValue0
 i0:=Zz
 t3:=underlying3
 a3:=isAgg3
 z3:=sizeOf3
 v3:=zeroValue3
 i3:=Zz
 t4:=underlying4
 a4:=isAgg4
 z4:=sizeOf4
 v4:=zeroValue4
 i4:=Zz
 t9:=underlying9
 a9:=isAgg9
 z9:=sizeOf9
 v9:=zeroValue9
 i9:=Zz
 t21:=underlying21
 a21:=isAgg21
 z21:=sizeOf21
 v21:=zeroValue21
 i21:=Zz
 t23:=underlying290
 a23:=isAgg290
 z23:=sizeOf290
 v23:=zeroValue290
 i23:=by kernel_rfl }
def Hq:Go.Shelf.Ren:={
 f:=λ| 157=>231 | 229=>273 | 199=>274 | 261=>298 | 311=>314 | 312=>315 | n=>n
 t:=λ| 9=>9 | 31=>40 | 3=>3 | 5=>5 | 4=>4 | 119=>335 | 0=>0 | 40=>290 | 152=>355 | 21=>21 | 154=>357 | 51=>322 | 141=>359 | 196=>376 | 193=>373 | 198=>379 | 49=>377 | 194=>374 | 201=>382 | 226=>387 | 46=>275 | 227=>388 | n=>n
 g:=λ| 0=>0 | 6=>1 | n=>n }
theorem lays157:Go.Proofs.Lays.n157 prog Hq:={
 mixed:=rfl
 f157:=func231.trans<|congrArg some Zz
 f199:=func274.trans<|congrArg some Zz
 f229:=func273.trans<|congrArg some Zz
 f261:=func298.trans<|congrArg some Zz
 f311:=func314.trans<|congrArg some Zz
 f312:=func315.trans<|congrArg some Zz
 t0:=underlying0
 a0:=isAgg0
 z0:=sizeOf0
 v0:=zeroValue0
 t3:=underlying3
 a3:=isAgg3
 z3:=sizeOf3
 v3:=zeroValue3
 t4:=underlying4
 a4:=isAgg4
 z4:=sizeOf4
 v4:=zeroValue4
 t5:=underlying5
 a5:=isAgg5
 z5:=sizeOf5
 v5:=zeroValue5
 t9:=underlying9
 a9:=isAgg9
 z9:=sizeOf9
 v9:=zeroValue9
 t21:=underlying21
 a21:=isAgg21
 z21:=sizeOf21
 v21:=zeroValue21
 t31:=underlying40
 a31:=isAgg40
 z31:=sizeOf40
 v31:=zeroValue40
 t40:=underlying290
 a40:=isAgg290
 z40:=sizeOf290
 v40:=zeroValue290
 t46:=underlying275
 a46:=isAgg275
 z46:=sizeOf275
 v46:=zeroValue275
 t49:=underlying377
 a49:=isAgg377
 z49:=sizeOf377
 v49:=zeroValue377
 t51:=underlying322
 a51:=isAgg322
 z51:=sizeOf322
 v51:=zeroValue322
 t119:=underlying335
 a119:=isAgg335
 z119:=sizeOf335
 t141:=underlying359
 a141:=isAgg359
 z141:=sizeOf359
 v141:=zeroValue359
 t152:=underlying355
 a152:=isAgg355
 z152:=sizeOf355
 v152:=zeroValue355
 t154:=underlying357
 a154:=isAgg357
 z154:=sizeOf357
 v154:=zeroValue357
 t193:=underlying373
 a193:=isAgg373
 z193:=sizeOf373
 v193:=zeroValue373
 t194:=underlying374
 a194:=isAgg374
 z194:=sizeOf374
 v194:=zeroValue374
 t196:=underlying376
 a196:=isAgg376
 z196:=sizeOf376
 v196:=zeroValue376
 t198:=underlying379
 a198:=isAgg379
 z198:=sizeOf379
 v198:=zeroValue379
 t201:=underlying382
 a201:=isAgg382
 z201:=sizeOf382
 v201:=zeroValue382
 t226:=underlying387
 a226:=isAgg387
 z226:=sizeOf387
 v226:=zeroValue387
 t227:=underlying388
 a227:=isAgg388
 z227:=sizeOf388
 v227:=zeroValue388
 g0:=Zz
 g6:=by kernel_rfl }
def okR (x:Nat):Bool:=(decide (97≤x) && decide (x≤122) || (decide (48≤x) && decide (x≤57))) || x == 95
theorem EH {x:Nat} (h:128≤x):okR x=false:=by
 unfold okR
 rw [decide_eq_false (show ¬ x≤122 by omega),decide_eq_false (show ¬ x≤57 by omega),Bool.and_false,Bool.and_false]
 simp; omega
theorem okS_ge {b:UInt8} (h:128≤b.toNat):okS b=false:=EH h
theorem OO (s:ByteArray) (i:Nat):okR (Utf8.decode s i).1=okS (s.get! i)/\(okS (s.get! i)=true->(Utf8.decode s i).2=1):=by
 unfold Utf8.decode
 simp only [Nat.add_zero]
 by_cases h:(s.get! i).toNat<128
 ·rw [if_pos h]; exact ⟨rfl,λ_=>rfl⟩
 ·rw [if_neg h, okS_ge (by omega)]
  refine ⟨?_,λh=>by cases h⟩
  have he:okR Utf8.runeError=false:=by decide
  split
  ·split
   ·rename_i h2; exact EH h2
   ·exact he
  ·split
   ·split
    ·rename_i h2; rw [Bool.and_eq_true,decide_eq_true_eq] at h2; exact EH (by omega)
    ·exact he
   ·split
    ·split
     ·rename_i h2; rw [Bool.and_eq_true,decide_eq_true_eq] at h2; exact EH (by omega)
     ·exact he
    ·exact he
theorem OP (s : ByteArray) : ∀ (f pos : Nat), s.size ≤ pos + f -> (0 ≤ Lib.idxFuncFrom (λx => !okR x) true s f pos ↔ ∃ j, pos ≤ j /\ j < s.size /\ okS (s.get! j) = false)
 | 0,pos,h=>by
  show 0≤(-1:Int)↔_
  exact ⟨λh=>by omega,λ⟨j,h1,h2,_⟩=>by omega⟩
 | f + 1, pos, h => by
  unfold Lib.idxFuncFrom
  by_cases hp:pos<s.size
  ·rw [if_pos hp, (OO s pos).1]
   cases hk:okS (s.get! pos) with
   | true =>
    rw [if_neg (by simp),(OO s pos).2 hk,OP s f (pos+1) (by omega)]
    refine ⟨λ⟨j,h1,h2⟩=>⟨j,by omega,h2⟩,λ⟨j,h1,h2,h3⟩=>⟨j,?_,h2,h3⟩⟩
    rcases Nat.lt_or_ge pos j with h4 | h4
    ·exact h4
    ·have:j=pos:=by omega
     subst this
     rw [hk] at h3; cases h3
   | false=>rw [if_pos (by simp)]; exact ⟨λ_=>⟨pos,Nat.le_refl _,hp,hk⟩,λ_=>by omega⟩
  ·rw [if_neg hp]
   exact ⟨λh=>by omega,λ⟨j,h1,h2,_⟩=>by omega⟩
theorem has_bad (n:Nm):decide (0≤Lib.idxFunc (λx => !okR x) true ⟨⟨n⟩⟩) = !n.all okS:=by
 have hsz:(⟨⟨n⟩⟩:ByteArray).size=n.length:=rfl
 have hg:∀ j (hj:j<n.length),(⟨⟨n⟩⟩:ByteArray).get! j=n[j]:=λj hj=>by
  show (Array.mk n)[j]! = _
  rw [getElem!_pos (Array.mk n) j Zg]; rfl
 unfold Lib.idxFunc
 rw [Bool.eq_iff_iff,decide_eq_true_eq,OP _ _ _ (by omega),Bool.not_eq_true',List.all_eq_false]
 constructor
 ·rintro ⟨j,_,h2,h3⟩
  rw [hsz] at h2
  exact ⟨n[j],List.getElem_mem h2,by rw [<- hg j h2,h3]; simp⟩
 ·rintro ⟨x,hx,h3⟩
  obtain ⟨j,hj,rfl⟩:=List.getElem_of_mem hx
  exact ⟨j,Nat.zero_le _,hj,by rw [hg j hj]; simpa using h3⟩
theorem Dr : ∀ (s w : Nm), (∀ b ∈ s, Lib.isSp b = (b == 32)) -> rE s w = Lib.fieldsGo w s
 | [],w,_=>by cases w <;> rfl
 | b::t,w,h=>by
  have hb:=h b<|by simp
  have ht:=λw=>Dr t w λb hb=>h b<|by simp [hb]
  show (if b=32 then (if w=[] then rE t [] else w::rE t []) else rE t (w++[b]))=_
  unfold Lib.fieldsGo
  rw [hb,ht,ht]
  by_cases h32:b=32
  ·subst h32
   cases w <;> rfl
  ·rw [if_neg h32,if_neg (by simpa using h32)]
theorem kw_sp:∀ b∈pQ,Lib.isSp b=(b == 32)/\b.toNat<128:=by
 have h:(pQ.all λb=>(Lib.isSp b == (b == 32)) && decide (b.toNat<128))=true:=by decide +kernel
 intro b hb
 have:=List.all_eq_true.1 h b hb
 rw [Bool.and_eq_true,beq_iff_eq,decide_eq_true_eq] at this
 exact this
theorem kws_eq:Lib.fields pQ=kws:=(Dr pQ [] λb hb=>(kw_sp b hb).1).symm
def Spc (X:Res):Prop:=∀ c:Nat,c<256->Rd X ⟨0,c,none⟩ (.int .u8 (if Lib.isSp (UInt8.ofNat c) then 1 else 0))
theorem Spc.up {X Y:Res} (h:Spc X) (hE:Ext X Y):Spc Y:=λc hc=>hE.rd _ _<|h c hc
section
variable {X:Res}
theorem Jq (x:Nat):Reads prog 230 #[.int .i32 x] [] (.bool (!okR x)):=by
 have hok:okR x=(((decide (97≤(x:Int)) && decide ((x:Int)≤122)) || (decide (48≤(x:Int)) && decide ((x:Int)≤57))) || decide ((x:Int)=95)):=by
  unfold okR
  rw [Bool.eq_iff_iff]; simp; omega
 rw [hok]
 refine aL (n:=22) func230 Z Z (len Z) λhr w0=>?_
 refine cQ<|sA Z<|sN<|nT<|cQ<|sM Z<|sV (qh Z Z)<|sM Z<|bC (k:=6) (d:=8) (v:=.bool (decide (97≤(x:Int)) && decide ((x:Int)≤122))) (λhcut=>aJ (b:=(decide (97≤(x:Int)))) true (λhg=>?_)<|λhg=>?_) ?_
 ·refine aC Z Z hg ?_
  refine aC Z Z hg ?_
  refine sV (vP (bO Z hg) Z) ?_
  exact hcut _ uG
 ·refine sG Z (bG Z hg) (vM Z)<|sG Z (bG Z hg) (Cj Z Z)<|sV (vQ (bO Z hg) Z) ?_
  exact hcut _ uG
 refine sM Z<|bC (k:=14) (d:=16) (v:=.bool ((decide (97≤(x:Int)) && decide ((x:Int)≤122)) || (decide (48≤(x:Int)) && decide ((x:Int)≤57)))) (λhcut=>aJ (b:=(decide (97≤(x:Int)) && decide ((x:Int)≤122))) false (λhg=>?_)<|λhg=>?_) ?_
 ·refine aC Z Z hg ?_
  iterate 2 refine aC rfl rfl hg ?_
  refine cz Z Z ?_
  refine cz Z Z ?_
  refine aC Z Z hg ?_
  refine sV (vQ (bO Z hg) Z) ?_
  exact hcut _ uG
 ·refine sG Z (bG Z hg) (vM Z)<|sG Z (bG Z hg) (qh Z Z)<|sG Z (bG Z hg) (vM Z)<|bC (k:=13) (d:=15) (v:=.bool (decide (48≤(x:Int)) && decide ((x:Int)≤57))) (λhcut=>aJ (b:=(decide (48≤(x:Int)))) true (λhg1=>?_)<|λhg1=>?_) ?_
  ·refine aC Z Z hg1 ?_
   refine aC Z Z hg1 ?_
   refine sG Z (bG Z hg) (vP (bO Z hg1) Z) ?_
   exact hcut _<|uH (by first | rfl | (rw [hg1]; rfl) | simp_all)<|uS Z<|uS Z<|uR
  ·refine sG Z (bG Z hg1) (vM Z)<|sG Z (bG Z hg1) (Cj Z Z)<|sG Z (bG Z hg) (vQ (bO Z hg1) Z) ?_
   exact hcut _<|uH (by first | rfl | (rw [hg1]; rfl) | simp_all)<|uS Z<|uS Z<|uR
  refine sV (vP (bO Z hg) Z) ?_
  exact hcut _<|uH (by first | rfl | (rw [hg]; rfl) | simp_all) (by repeat (first | exact uR | refine uS Z ?_))
 refine sM Z<|bC (k:=18) (d:=20) (v:=.bool (((decide (97≤(x:Int)) && decide ((x:Int)≤122)) || (decide (48≤(x:Int)) && decide ((x:Int)≤57))) || decide ((x:Int)=95))) (λhcut=>aJ (b:=((decide (97≤(x:Int)) && decide ((x:Int)≤122)) || (decide (48≤(x:Int)) && decide ((x:Int)≤57)))) false (λhg=>?_)<|λhg=>?_) ?_
 ·refine aC Z Z hg ?_
  refine aC Z Z hg ?_
  refine sV (vQ (bO Z hg) Z) ?_
  exact hcut _ uG
 ·refine sG Z (bG Z hg) (vM Z)<|sG Z (bG Z hg) (dD Z Z)<|sV (vP (bO Z hg) Z) ?_
  exact hcut _ uG
 refine sV (bi Z)<|sA Z<|sK [2] Z<|cT ?_
 exact aj Z ⟨Z,Z⟩ sbq
theorem OQ {P:Program} {g:FuncId} {args:Array Value} {v:Value} (h:Reads P g args [] v) (w:World):Calls P g args w λe w'=>e = .returned v/\Below w.heap.size w w':=by
 refine (h [old w] w<|wD w).mono ?_
 rintro e w' ⟨u,h',rfl,⟨rfl,rfl⟩,hh,hs⟩
 exact ⟨Z,hs.os,hs.tape,hs.output,hs.size,λk hk=>hh.1 k hk⟩
theorem Ht (n:Nm):Ctw prog 225 #[sv n,.func (.func 230) #[] #[]] [] λu h'=>u = .bool (!n.all okS)/\h'=[]:=by
 intro hr w hh
 have hc:=Any.strings_ContainsFunc_grows lays17g 230 #[] (enters_of func230 Zz rfl) (λx => !okR x) ⟨⟨n⟩⟩ w λW x _ _=>OQ (Jq x) W
 rw [has_bad] at hc
 exact Calls.mono hc λe w' ⟨h1,h2⟩=>⟨_,[],h1,⟨Z,Z⟩,xX h2 hh,AR h2⟩
theorem Me (hX:Spc X):Ctw prog 231 #[sv pQ] [X] λu h'=>h'=[X,NR u kws]/\wN (NR u kws) u kws:=by
 intro hr w hh
 have hml:maxLen=9223372036854775807:=rfl
 have hkl:kws.length<100:=by decide +kernel
 have hc:=Any.strings_Fields_core lays157 Zz ⟨⟨pQ⟩⟩ w (by decide +kernel) (λj b hj=>(kw_sp b<|List.mem_of_getElem? hj).2) λc hc=>hX c hc w hh.1
 rw [show (⟨⟨pQ⟩⟩:ByteArray).data.toList=pQ from rfl,kws_eq] at hc
 refine Calls.mono hc λe w' ⟨h1,h2⟩=>⟨.slice (some ⟨w.heap.size,0,none⟩) kws.length kws.length,[X,NR (.slice (some ⟨w.heap.size,0,none⟩) kws.length kws.length) kws],h1,?_⟩
 have h9:Holds w' (NR (.slice (some ⟨w.heap.size,0,none⟩) kws.length kws.length) kws::([X]++hr)):=by
  subst h2
  have h3:=Holds.alloc hh<|cl (kws.map sv) 9
  exact vw_of (E:=9) (sz:=1) (n:=kws.length) (kws.map nC) (mJ _).symm (λr hr=>by obtain ⟨_,_,rfl⟩:=List.mem_map.1 hr; rfl) (by simp) (by omega) _ h3
 refine ⟨⟨Z,iT ⟨_,h9.1⟩⟩,h9.perm (List.Perm.swap _ _ _),?_⟩
 subst h2
 exact (vX w).trans (Grew.alloc _ _ Z).toSame
def smV (n:Nm):Bool:=(((n == [] || decide ((20:Int)<(n.length:Nat))) || decide (((n.headD 0).toNat:Int)<97)) || decide ((122:Int)<(n.headD 0).toNat)) || !n.all okS
theorem smV_eq (n:Nm):small n=(!smV n && !kws.contains n):=by
 cases n with
 | nil=>rfl
 | cons b t =>
  show (decide ((b::t).length≤20) && lower b && (b::t).all okS && !kws.contains (b::t))=_
  congr 1
  unfold smV lower
  rw [show ((b::t:Nm) == [])=false from rfl,List.headD_cons]
  generalize (b::t).all okS=A
  generalize (b::t).length=L
  generalize b.toNat=c
  have e1:decide ((20:Int)<(L:Nat)) = !decide (L≤20):=by rw [<- decide_not]; exact decide_eq_decide.2 (by omega)
  have e2:decide ((c:Int)<97) = !decide (97≤c):=by rw [<- decide_not]; exact decide_eq_decide.2 (by omega)
  have e3:decide ((122:Int)<(c:Nat)) = !decide (c≤122):=by rw [<- decide_not]; exact decide_eq_decide.2 (by omega)
  rw [e1,e2,e3]
  cases decide (L≤20) <;> cases decide (97≤c) <;> cases decide (c≤122) <;> cases A <;> rfl
theorem at0 {n:Nm} (h:(n == [])=false):n[0]? = some (n.headD 0):=by
 cases n with
 | nil=>cases h
 | cons b t=>rfl
theorem Hu (hX:Spc X) (n:Nm):Ctw prog 147 #[sv n] [X] λu h'=>u = .bool (small n)/\h'=[X]:=by
 have hkl:kws.length≤1099511627776:=by
  have:kws.length<100:=by decide +kernel
  omega
 have hfl:=Me hX
 rw [smV_eq]
 unfold smV
 refine fQ (n:=28) func147 Z Z (len Z) λhr w0 hw0=>?_
 refine cQ<|sA Z<|sN<|nT<|cS<|cQ<|sM Z<|sV (gQ Z Z)<|sM Z<|bC (k:=7) (d:=9) (v:=.bool (n == [] || decide ((20:Int)<(n.length:Nat)))) (λhcut=>aJ (b:=(n == [])) false (λhg=>?_)<|λhg=>?_) ?_
 ·refine aC Z Z hg ?_
  iterate 2 refine aC rfl rfl hg ?_
  refine sV (vQ (bO Z hg) Z) ?_
  exact hcut _ uG
 ·refine sG Z (bG Z hg) (vM Z)<|sG Z (bG Z hg) (DY Z underlying9)<|sG Z (bG Z hg) (bZ Z Z)<|sV (vP (bO Z hg) Z) ?_
  exact hcut _ uG
 refine sM Z<|bC (k:=12) (d:=14) (v:=.bool ((n == [] || decide ((20:Int)<(n.length:Nat))) || decide (((n.headD 0).toNat:Int)<97))) (λhcut=>aJ (b:=(n == [] || decide ((20:Int)<(n.length:Nat)))) false (λhg=>?_)<|λhg=>?_) ?_
 ·refine aC Z Z hg ?_
  iterate 2 refine aC rfl rfl hg ?_
  refine sV (vQ (bO Z hg) Z) ?_
  exact hcut _ uG
 ·refine sG Z (bG Z hg) (vM Z)<|sG Z (bG Z hg) (uZ (k:=0) Z Z underlying9 Z (at0 (Bool.or_eq_false_iff.1 hg).1))<|sG Z (bG Z hg) (aN Z Z)<|sV (vP (bO Z hg) Z) ?_
  exact hcut _ uG
 refine sM Z<|bC (k:=17) (d:=19) (v:=.bool (((n == [] || decide ((20:Int)<(n.length:Nat))) || decide (((n.headD 0).toNat:Int)<97)) || decide ((122:Int)<(n.headD 0).toNat))) (λhcut=>aJ (b:=((n == [] || decide ((20:Int)<(n.length:Nat))) || decide (((n.headD 0).toNat:Int)<97))) false (λhg=>?_)<|λhg=>?_) ?_
 ·refine aC Z Z hg ?_
  iterate 2 refine aC rfl rfl hg ?_
  refine sV (vQ (bO Z hg) Z) ?_
  exact hcut _ uG
 ·refine sG Z (bG Z hg) (vM Z)<|sG Z (bG Z hg) (uZ (k:=0) Z Z underlying9 Z (at0 (Bool.or_eq_false_iff.1 (Bool.or_eq_false_iff.1 hg).1).1))<|sG Z (bG Z hg) (bZ Z Z)<|sV (vP (bO Z hg) Z) ?_
  exact hcut _ uG
 refine sM Z<|bC (k:=21) (d:=23) (v:=.bool ((((n == [] || decide ((20:Int)<(n.length:Nat))) || decide (((n.headD 0).toNat:Int)<97)) || decide ((122:Int)<(n.headD 0).toNat)) || !n.all okS)) (λhcut=>aJ (b:=(((n == [] || decide ((20:Int)<(n.length:Nat))) || decide (((n.headD 0).toNat:Int)<97)) || decide ((122:Int)<(n.headD 0).toNat))) false (λhg=>?_)<|λhg=>?_) ?_
 ·refine aC Z Z hg ?_
  refine aC Z Z hg ?_
  refine sV (vQ (bO Z hg) Z) ?_
  exact hcut _ uG
 ·refine sG Z (bG Z hg) (vM Z)<|kF Z (bG Z hg)<|bL hw0 Z Z en225 Z (Ht n) ?_
  rintro u h' ⟨rfl,rfl⟩
  simp only [List.nil_append]
  refine sV (vP (bO Z hg) Z) ?_
  exact hcut _ uG
 refine sK [0,2,23] Z ?_
 generalize ((((n == [] || decide ((20:Int)<(n.length:Nat))) || decide (((n.headD 0).toNat:Int)<97)) || decide ((122:Int)<(n.headD 0).toNat)) || !n.all okS)=bad
 refine cC Z (λhb=>?_)<|λhb=>?_
 ·have hb:bad=true:=hb
  subst hb
  refine cQ<|sA Z<|sK [2] Z<|cT<|xR ?_
  exact aj Z ⟨Z,Z⟩ sbq
 ·have hb:bad=false:=hb
  subst hb
  refine cK<|xT<|cQ<|bL hw0 Z Z en231 Z (hfl) ?_
  rintro u h' ⟨rfl,hnm⟩
  simp only [lC,lN]
  refine sM Z<|aY Z Z Ed Z (fJ hnm n hkl) ?_
  refine sV (bi Z)<|sA Z<|sK [2] Z<|cT ?_
  exact aj Z ⟨Z,Z⟩ sbq
end
end Go.Fl
namespace Go.Ck
open Go Go.RowKit
section
variable {c:Cx} {ops:Array Oper} {K:Act->World->Prop} {rest:List Oper} {e:Env} {h hr:SH}
theorem vZ {P : Program} {e : Env} {h : SH} {ty T E : TypeId} {x y : Operand} {a : Option Addr} {n cp hi sz : Nat} {i : Int} {k : IntKind} (hx : e.ev? x = some (.slice a n cp)) (hy : e.ev? y = some (.int k i)) (hT : SlE P T E sz)
  (hi':i=(hi:Int)) (h1:hi≤cp):Vop P e h (.slice T x none (some y) none) ty (.slice a hi cp):=
 ⟨by simp,by simp,λρ w d pos after g hρ _=>by
  subst hi'
  have hT':P.underlying T=some (.slice<|P.elem T):=by simp [Program.elem,hT.1]
  have he:P.elem T=E:=by simp [Program.elem,hT.1]
  have hr:=run_slice_h (P:=P) w T a n cp hT' k hi (by omega)<|by omega
  have hs:sliced a 0 hi cp sz = .slice a hi cp:=by
   unfold sliced; by_cases hcl:cp=0 <;> cases a <;> simp [hcl,Addr.add]
  simp only [he,hT.2 w,Result.andThen_ok,Int.toNat_natCast,Int.toNat_zero,hs] at hr
  simp only [execOp,hρ x _ hx,Option.map_some,Option.map_none,hρ y _ hy,Sem.run_bind,run_sliceAt_slice w T _ _ _ _ hT',hr,Result.andThen_ok,Sem.run_pure]⟩
theorem v_cap {P:Program} {e:Env} {h:SH} {t ty' E:TypeId} {x:Operand} {a:Option Addr} {n cp:Nat} (hx:e.ev? x=some (.slice a n cp)) (ht:P.underlying t=some (.slice E)) :
  Vop P e h (.call { callee:=.builtin .cap,args := #[x],argTypes := #[t] }) ty' (.int .i64 (cp:Nat)):=
 ⟨by simp,by simp,λρ w d pos after g hρ _=>by simp [execOp,resolve,invoke,builtin,hρ x _ hx,Builtin.cap_,run_underlying ht,goInt]⟩
theorem yC {P:Program} {w:World} {t tx E:TypeId} (ty:TypeId) {k:IntKind} {i:TypeInfo} {z:Value} (ht:P.underlying t=some (.slice E)) (htx:P.underlying tx=some (.int k)) (hi:P.info? E=some i) (hz:i.zero=some z) {n:Nat} (h0:0<n) (hs:0<i.size) (hb:n * i.bytes≤140737488355328) (h63:n≤9223372036854775807) :
  (Builtin.append_ #[t,tx] ty #[.slice none 0 0,.int .i64 (n:Nat)]).run P w = .ok (.slice (some ⟨w.heap.size,0,none⟩) n<|grownCap w n 0 E) (w.drew.alloc<|.cells (Builtin.zeroCells z.cells n++Builtin.zeroCells z.cells (grownCap w n 0 E - n)) E):=by
 have e1:IntKind.i64.wrap (n:Int)=(n:Int):=I64.wrap (by unfold I64; omega)
 have e2:¬ ((n:Int)<0):=by omega
 have e3:¬ (281474976710656<(n:Int) * (i.bytes:Nat)):=by
  have:=Int.ofNat_le.2 hb
  rw [Int.natCast_mul] at this
  omega
 have e4:Builtin.nextslicecap n 0=n:=by unfold Builtin.nextslicecap; rw [if_pos (by omega)]
 have e5:¬ (281474976710656<n * i.bytes):=by omega
 have e6:¬ n≤0:=by omega
 have e7:¬ (n=0∨i.size=0):=by omega
 have e8:¬ ((9223372036854775807:Int)<(n:Nat)):=by omega
 have e11:max (n:Int) 0=(n:Int):=by omega
 have e9:n≠0:=by omega
 have e10:i.size≠0:=by omega
 simp [Builtin.append_,run_underlying ht,run_underlying htx,sizeOf,typeInfo,zeroValue,hi,hz,asInt,asIntOf,e1,e2,e3,e4,e5,e6,e7,e8,e9,e10,e11,Builtin.firstCells,Question.forced,newRow,grownCap,IntKind.max,IntKind.signed,IntKind.bits]
 intro hq
 have:=Nat.mul_pos h0 hs
 omega
theorem st_apm {d : Nat} {t tx E ty : TypeId} {x y : Operand} {pos : String} {after : Array Edge} {k : IntKind} {z : Value} {sz bytes n : Nat} (hx : e.ev? x = some (.slice none 0 0)) (hy : e.ev? y = some (.int .i64 (n : Nat)))
  (ht:c.P.underlying t=some (.slice E)) (htx:c.P.underlying tx=some (.int k)) (hE:Inf c.P E z sz bytes) (hzs:z.cells.size=sz) (hsz:0<sz) (h0:0<n) (hb:n * bytes≤140737488355328) (h63:n≤9223372036854775807) (hd:d<c.n)
  (hnx:∀ b cp,n≤cp->St c ops K rest ((d,.slice (some ⟨b,0,none⟩) n cp)::e) (VR (.slice (some ⟨b,0,none⟩) n cp) E sz (List.replicate n z.cells.toList)::h)) :
  St c ops K (⟨some d,.call { callee:=.builtin .append,args := #[x,y],argTypes := #[t,tx] },ty,pos,after,none⟩::rest) e h :=
 eB (by simp) λa w hk hh hw=>by
  obtain ⟨i,hi,hz,hisz,hiby⟩:=hE.parts
  subst hisz hiby
  have hr:=yC (P:=c.P) (w:=w) ty ht htx hi hz h0 hsz hb h63
  simp only [execOp,resolve,invoke,builtin,hk.ev hx,hk.ev hy,Sem.run_bind,Sem.run_pure,Result.andThen_ok,List.map_toArray,List.map_cons,List.map_nil,hr]
  have hmax:maxLen=9223372036854775807:=rfl
  have hge:=grownCap_ge w n 0 E
  have hcm:grownCap w n 0 E≤maxLen:=grownCap_le_maxLen w n 0 E (by rw [hmax]; exact h63)
  have hH:Holds w.drew h:=Holds.grew hh<|Grew.drawn w _
  have hA:=Holds.alloc hH<|.cells (Builtin.zeroCells z.cells n++Builtin.zeroCells z.cells (grownCap w n 0 E - n)) E
  have hall:∀ r∈List.replicate n z.cells.toList,r.length=i.size:=λr hr=>by rw [List.eq_of_mem_replicate hr]; simpa using hzs
  have hobj:(Obj.cells (Builtin.zeroCells z.cells n++Builtin.zeroCells z.cells (grownCap w n 0 E - n)) E)=cl ([]++((List.replicate n z.cells.toList).flatten++(Builtin.zeroCells z.cells (grownCap w n 0 E - n)).toList)) E:=by
   simp only [cl,Obj.cells.injEq,and_true]
   apply Array.ext'
   simp [De hzs]
  rw [hobj] at hA ⊢
  refine hnx w.heap.size _ hge _ _ (hk.put _ hd) ⟨⟨hall,.inr ⟨w.heap.size,0,_,[],_,by rw [List.length_replicate],hA.1,Z,by rw [List.length_replicate]; exact hge,hcm,?_⟩⟩,λb ⟨o',m',cp',hv⟩=>?_,hA.2.2⟩<|hw.trans<|(Grew.drawn w _).toSame.trans (Grew.alloc _ _ Z).toSame
  ·have hzl:(Builtin.zeroCells z.cells (grownCap w n 0 E - n)).toList.length=(grownCap w n 0 E - n) * i.size:=by rw [Array.length_toList,size_zeroCells,hzs]
   rw [List.length_append,jl hall,List.length_replicate,hzl,<- Nat.add_mul]
   apply Nat.mul_le_mul_right; omega
  ·cases hv; exact hA.2.1 _ rfl
theorem kw {d:Nat} {f:Operand} {az:Array Operand} {ts:Array TypeId} {ty:TypeId} {pos:String} {after:Array Edge} {l:Nat} {vs:List Value} {r:Res} {R:Value->SH->Prop} {gu:Option (Nat×Bool)} {gd:Nat}
  (hgu:gu=none∨∃ g want,gu=some (g,want)/\((ops[g]?).bind (·.dst))=some gd/\e.get? gd=some (.bool want))
  (hv:e.ev? f=some (.func (.yield l) #[] #[])) (has:az.toList.mapM e.ev? = some vs) (yc:Yc c.P l vs.toArray [r] R)
  (hn:∀ v h',R v h'->St c ops K rest ((d,v)::e) (h'++hr))
  (pk:Pk h [r] hr:=by repeat (first | exact Pk.nil | (apply Pk.cons; (repeat (first | exact Sel.here | apply Sel.there))))) (hd:d<c.n:=by exact ltn rfl) :
  St c ops K (⟨some d,.call { callee:=.value f,args:=az,argTypes:=ts },ty,pos,after,gu⟩::rest) e h:=uT hgu hv has yc pk hd hn
end
end Go.Ck
namespace Go.Fl
open Go Go.RowKit Go.Ck Go.Proofs Go.Proofs.Tryz Go.Proofs.YtknmacdbffgjgaaGreatDoor Fx Go.Hr
def Yh (yl:Nat) (Φ : List Cf->Res->Prop) (Stop:Cf->Res->Prop):Prop:=∀ x rest r,Φ (x::rest) r->Yc prog yl #[cfV x] [r] λu h'=>(u = .bool true/\∃ r',Φ rest r'/\h'=[r'])∨(u = .bool false/\∃ r',Stop x r'/\h'=[r'])
def Yend (Φ : List Cf->Res->Prop) (Stop:Cf->Res->Prop) (R:List Cf) (u:Value) (r:Res):Prop:=(u = .bool true /\ Φ R r)∨(u = .bool false/\∃ x,Stop x r)
theorem rows_nm {Y:Res} {news:List (List Value)} {xs:List Nm} (h1:news.length=xs.length) (h2:∀ (i:Nat) us x,news[i]? = some us->xs[i]? = some x->Enc.rep Y us x):news=xs.map nC:=by
 refine List.ext_getElem (by rw [List.length_map,h1]) λi g1 g2=>?_
 rw [List.length_map] at g2
 have:news[i]=[sv (xs[i])]:=h2 i _ _ (Zy g1)<|Zy g2
 rw [this,List.getElem_map]; rfl
theorem eu {α β : Type} {f : α -> List β} {xs:List α} {i:Nat} (h:i<xs.length):(xs.drop i).flatMap f=f xs[i]++(xs.drop (i+1)).flatMap f:=by
 rw [List.drop_eq_getElem_cons h,List.flatMap_cons]
theorem dL {α β : Type} {f : α -> List β} {xs:List α}:(xs.drop xs.length).flatMap f=[]:=by rw [List.drop_length]; rfl
theorem kC {α β : Type} {f : α × Nat->List β} {xs:List α} {i:Nat} (h:i<xs.length):(xs.zipIdx.drop i).flatMap f=f (xs[i],i)++(xs.zipIdx.drop (i+1)).flatMap f:=by
 rw [eu Zp]
 simp
theorem mR {α β : Type} {f : α × Nat->List β} {xs:List α}:(xs.zipIdx.drop xs.length).flatMap f=[]:=by
 have:xs.zipIdx.drop xs.length=[]:=List.drop_eq_nil_of_le<|by simp
 rw [this]; rfl
theorem KS {α : Type} {ls:List (List α)} {i:Nat} (h:i<ls.length):(ls.take (i+1)).flatten=(ls.take i).flatten++ls[i]/\(ls.take i).flatten.length+(ls[i]).length≤ls.flatten.length:=by
 have h1:ls=ls.take i++ls[i]::ls.drop (i+1):=by rw [List.getElem_cons_drop,List.take_append_drop]
 have h2:=congrArg (λx=>x.flatten.length) h1
 simp only [List.flatten_append,List.flatten_cons,List.length_append] at h2
 refine ⟨by rw [List.take_succ_eq_append_getElem h,List.flatten_append,List.flatten_cons,List.flatten_nil,List.append_nil],by omega⟩
attribute [local irreducible] Go.Ck.Sub St Cd Xt Nx DrL LsW
section
variable {X Y:Res} {v v':Value} {us us':List Value}
theorem Jr {n:Nat} (hb:n * 16≤1099511627776):CtN prog 260 #[.slice none 0 0,.int .i64 (n:Nat)] [] λu T=>u.oneCell'=true/\T=VR u 9 1 []:=by
 refine aL (n:=27) func260 Z Z (len Z) λhr w0=>?_
 refine cQ<|sA Z<|sN<|nT<|cS<|cQ<|sM Z<|sV (aN Z Z)<|sK [0,1,4,6] Z<|cC Z (λh1=>?_)<|λh1=>?_
 ·exfalso
  have:=of_decide_eq_true h1
  omega
 ·refine cK<|xT<|cS<|cQ<|sM Z<|sM Z<|sV (v_cap Z underlying40)<|sM Z<|sV (aF Z underlying40)<|sV (gG (show Value.int .i64 (0 - 0)=Value.int .i64 0 from Z)<|Ci (a:=0) (b:=0) Z Z (by unfold I64; omega)) ?_
  refine sV (gG (show Value.int .i64 (((n:Nat):Int) - 0)=Value.int .i64 (n:Nat) by rw [Int.sub_zero])<|Ci (a:=(n:Nat)) (b:=0) Z Z (by unfold I64; omega)) ?_
  refine sA Z<|sK [0,1,4] Z<|cQ<|sM Z<|sV (bZ Z Z)<|sK [0,1,4,16] Z<|cC Z (λh2=>?_)<|λh2=>?_
  ·have hpos:0<n:=by have:=of_decide_eq_true h2; omega
   refine cR<|sM Z<|sM Z<|sV (v_cap Z underlying40)<|sV (vZ (hi:=0) Z Z jv Z<|Nat.le_refl _)<|sM Z (st_apm Z Z underlying40 underlying3 gm Z (by decide) hpos (by omega) (by omega) (ltn Z) λb cp hcp=>?_)
   refine sM Z<|sV (aF Z underlying40)<|sV (jm (hi:=0) Z Z jv Z<|Nat.zero_le _)<|ql (vD (m:=0)<|Nat.zero_le _) ?_
   rw [List.take_zero]
   refine sA Z<|sK [0,4] Z<|cQ<|sM Z<|sA Z<|sK [4] Z<|cT ?_
   exact aj Z ⟨_,Z,Z,Z⟩ sbq
  ·refine cK<|xT<|cQ<|sM Z<|sA Z<|sK [4] Z<|cT<|jC (cO 9 1) ?_
   exact aj Z ⟨_,Z,Z,Z⟩ sbq
theorem EI {ls:List (List Nm)} (hv:Ls X v ls) (hb:ls.flatten.length * 16≤1099511627776):CtN prog 205 #[v] [X] λu T=>u.oneCell'=true/\T=NR u ls.flatten:=by
 have hml:maxLen=9223372036854775807:=rfl
 obtain ⟨a,cap,rfl,hlc,hcm,_⟩:=id hv.form
 refine aL (n:=36) func205 Z Z (len Z) λhr w0=>?_
 refine cQ<|sA Z<|sN<|nT<|cQ<|sA Z<|sN<|nT<|cS<|cQ<|sM Z<|sV (aF Z underlying325)<|sM Z ?_
 refine sN<|nT<|cB<|aZ (σ := Nat) (λq=>[(0,.slice a ls.length cap),(3,.int .i64 ((ls.take q).flatten.length:Nat)),(9,.slice a ls.length cap),(10,.int .i64 ls.length),(11,.int .i64 (q:Nat))]) (λq=>X::hr) (λq=>q≤ls.length) (λq=>ls.length - q) 0 (Nat.zero_le _) ?_
 intro i hi
 dsimp only
 refine cQ<|sV (aN Z Z)<|sN<|nT<|cS<|cC Z (λhd=>?_)<|λhd=>?_
 ·have hlt:i<ls.length:=Zx
  obtain ⟨b,o,cap2,us,e1,hus,hrd,u1,rfl,hu1⟩:=hv.at<|Zy hlt
  cases e1
  have hrd1:Rd X ⟨b,o+i * 1,none⟩ u1:=hrd 0<|by simp
  obtain ⟨htk,hsz⟩:=KS hlt
  generalize ls[i]=xs at hu1 htk hsz
  obtain ⟨ua,uc,rfl,_⟩:=id hu1.form
  refine cK<|xT<|cS<|cB<|cQ<|sV (vI (k:=i) Z Z sl325 Z hlt Z)<|sV (vY Z fG (ha:=⟨_,_,slq,hrd1⟩)) ?_
  refine sA Z<|sK [0,3,5,9,10,11] Z<|cQ<|sM Z<|sM Z<|sV (aF Z underlying40)<|sV (aI Z Z Z6)<|sA Z<|sK [0,3,9,10,11] Z<|cQ<|sM Z<|sV (aN Z Z) ?_
  refine sK [0,3,9,10,11,20] Z<|cC Z (λhneg=>?_)<|λhneg=>?_
  ·exfalso
   have:=of_decide_eq_true hneg
   omega
  ·refine cK<|xB<|xT<|cR<|sV (aI Z Z Z6)<|sM Z<|sN<|nK [0,3,9,10,11] Z<|au ?_
   rw [show (((ls.take i).flatten.length:Nat):Int)+(xs.length:Nat)=(((ls.take (i+1)).flatten.length:Nat):Int) by rw [htk,List.length_append]; omega]
   refine aM (i+1) hlt (by show _ - _<_ - _; omega)
 ·have hie:i=ls.length:=by
   have:¬ i<ls.length:=Zx
   omega
  subst hie
  rw [List.take_length]
  refine aB<|xE<|xE<|xY<|xT<|cQ<|sM Z<|aH Z Z en260 Z (Jr hb) ?_
  rintro u h' ⟨T,rfl,hu,rfl⟩
  simp only [lC,lN]
  refine sA Z<|sK [0,6] Z<|cS<|cQ<|sM Z<|sV (aF Z underlying325)<|sM Z<|sK [6,25,26,27] Z<|cB<|aZ (σ := Value×Nat) (λq=>[(6,q.1),(25,.slice a ls.length cap),(26,.int .i64 ls.length),(27,.int .i64 (q.2:Nat))]) (λq=>VR q.1 9 1 ((ls.take q.2).flatten.map nC)::X::hr) (λq=>q.2≤ls.length/\q.1.oneCell'=true) (λq=>ls.length - q.2) (u,0) ⟨Nat.zero_le _,hu⟩ ?_
  rintro ⟨w,i⟩ ⟨hi,hw⟩
  simp only at hi hw
  dsimp only
  refine cQ<|sV (aN Z Z)<|sN<|nT<|cS<|cC Z (λhd2=>?_)<|λhd2=>?_
  ·have hlt:i<ls.length:=Zw
   obtain ⟨b,o,cap2,us,e1,hus,hrd,u1,rfl,hu1⟩:=hv.at<|Zy hlt
   cases e1
   have hrd1:Rd X ⟨b,o+i * 1,none⟩ u1:=hrd 0<|by simp
   obtain ⟨htk,hsz⟩:=KS hlt
   generalize ls[i]=xs at hu1 htk hsz
   obtain ⟨ua,uc,rfl,_⟩:=id hu1.form
   refine cK<|xT<|cS<|cB<|cQ<|sV (vI (k:=i) Z Z sl325 Z hlt Z)<|sV (vY Z fG (ha:=⟨_,_,slq,hrd1⟩)) ?_
   refine sA Z<|sK [6,8,25,26,27] Z<|cR<|sM Z<|sM Z (pV hu1.1 Z Z underlying40 gm Z (by decide) (show Sel _ (VR w 9 1<|(ls.take i).flatten.map nC) _ from slq) (show Sel _ X _ from slq) (λus x _ hr u hu=>List.all_eq_true.1 (Enc.ones hr) u hu) (by rw [List.length_map]; omega) (by rw [List.length_map]; omega) (ltn Z) λw2 news hw2 hn1 hn2 hn3=>?_)
   rw [rows_nm hn1 hn3,<- List.map_append,<- htk]
   refine sA Z<|sN<|nK [6,25,26,27] Z<|au<|xB<|xT<|cR<|sV (aI Z Z Z6)<|sM Z<|sN<|nK [6,25,26,27] Z<|au ?_
   refine aM (w2,i+1) ⟨hlt,hw2⟩ (by dsimp only; omega)
  ·have hie:i=ls.length:=by
    have:¬ i<ls.length:=Zw
    omega
   subst hie
   rw [List.take_length]
   refine aB<|xE<|xE<|xY<|xT<|cQ<|sM Z<|sA Z<|sK [2] Z<|cT ?_
   exact aj Z ⟨_,Z,hw,Z⟩ sbq
end
end Go.Fl
namespace Go.Fl
open Go Go.RowKit Go.Ck Go.Proofs Go.Proofs.Tryz Go.Proofs.YtknmacdbffgjgaaGreatDoor Fx Go.Hr
theorem Js {b:Nat} {x:Cm} {x2 x5 y x11 x12 x13:Value}:Rds (pt b (cl (oJ x x2 x5 y x11 x12 x13) 191)) b (0+3) (iB x.mem x2 x5 y x11 x12 x13):=bD (k:=3) ah rfl
theorem nD {b:Nat} {x:Cm} {x2 x5 y x11 x12 x13:Value}:Rds (pt b (cl (oJ x x2 x5 y x11 x12 x13) 191)) b (0+0) [sv x.og.par,sv x.og.name]:=bD (k:=0) ah rfl
attribute [local irreducible] Go.Ck.Sub St Cd Xt Nx DrL LsW
section
variable {X Y:Res} {v v':Value} {us us':List Value}
theorem Jt {a b:Cm} (h:Enc.rep X us a) (h':Enc.rep X us' b):Reads prog 208 #[.agg us.toArray,.agg us'.toArray] [] (.bool true):=by
 refine aL (n:=5) func208 Z Z (len Z) λhr w0=>?_
 refine cQ (aV Z Z λb2=>?_)
 refine aV Z Z λb3=>?_
 refine sA Z<|sK [4] Z<|cQ<|sA Z<|sN<|nT<|cT ?_
 exact aj Z ⟨Z,Z⟩ sbq
theorem Ju {f:Fe} {x:Cm} (h:Enc.rep X us f) (h':Enc.rep X us' x):Reads prog 209 #[.agg us.toArray,.agg us'.toArray] [] (.bool (x.mem.kind == 1)):=by
 obtain ⟨x2,x5,xy,x11,x12,x13,rfl,_⟩:=iC h'
 unfold oJ
 refine aL (n:=9) func209 Z Z (len Z) λhr w0=>?_
 refine cQ (aV Z Z λb2=>?_)
 refine aV Z Z λb3=>?_
 refine sA Z<|sK [3,4] Z<|cQ<|sV (vF Z dW Z)<|sV (vF Z tO Z)<|sV (vY Z ld3) ?_
 refine sV (dD Z Z)<|sA Z<|sK [4] Z<|cT ?_
 exact aj Z ⟨Z,Z⟩ sbq
theorem Jv {f:Fe} {x:Cm} (h:Enc.rep X us f) (h':Enc.rep X us' x):Reads prog 211 #[.agg us.toArray,.agg us'.toArray] [X] (.bool (f.kind == 3 && !x.dfd)):=by
 have hd:=Ao h'
 have hl:=Enc.len h'
 obtain ⟨x2,x3,fy,x9,x10,x11,x12,x13,x14,rfl,-⟩:=nz h
 unfold Az
 refine aL (n:=13) func211 Z Z (len Z) λhr w0=>?_
 refine cQ (aV Z Z λb2=>?_)
 refine aV Z Z λb3=>?_
 refine sA Z<|sK [2,3,4] Z<|cQ<|sV (vF Z vB Z)<|sV (vY Z ld3) ?_
 refine sV (dD Z Z)<|sM Z ?_
 cases hk:f.kind == 3
 ·rw [Bool.false_and]
  iterate 3 refine aC rfl rfl rfl ?_
  refine sV (vP Z Z)<|sA Z<|sK [4] Z<|cT ?_
  exact aj Z ⟨Z,Z⟩ sbq
 ·rw [Bool.true_and]
  refine sG Z Z (af Z ik hl ah) ?_
  refine bR Z Z Z Z FN Z (hd) ?_
  refine sG Z Z (bi Z)<|sV (vQ Z Z)<|sA Z<|sK [4] Z<|cT ?_
  exact aj Z ⟨Z,Z⟩ sbq
theorem Jw {a b:Cm} (h:Enc.rep X us a) (h':Enc.rep X us' b):Reads prog 217 #[.agg us.toArray,.agg us'.toArray] [X] (.bool ((!a.dfd && !b.dfd) && !Sk.same a.mem b.mem)):=by
 have hd:=Ao h
 have hd':=Ao h'
 have hl:=Enc.len h
 have hl':=Enc.len h'
 obtain ⟨x2,x5,xy,x11,x12,x13,rfl,hx⟩:=iC h
 obtain ⟨y2,y5,yy,y11,y12,y13,rfl,hy⟩:=iC h'
 have hs:=same_ct (qp hx)<|qp hy
 unfold oJ iB at *
 refine aL (n:=21) func217 Z Z (len Z) λhr w0=>?_
 refine cQ (aV Z Z λb2=>?_)
 refine aV Z Z λb3=>?_
 refine sA Z<|sK [2,3,4] Z<|cQ<|sV (af Z ik hl ah) ?_
 refine aY Z Z FN Z (hd) ?_
 refine sV (bi Z)<|sM Z ?_
 cases hk:a.dfd
 ·rw [Bool.not_false,Bool.true_and]
  refine sG Z Z (af Z ik hl' ah) ?_
  refine bR Z Z Z Z FN Z (hd') ?_
  refine sG Z Z (bi Z)<|sV (vQ Z Z)<|sM Z ?_
  cases hk2:b.dfd
  ·rw [Bool.not_false,Bool.true_and]
   refine sG Z Z (vF Z dW Z)<|sG Z Z (af Z fB Z<|Js (x:=a)) ?_
   refine sG Z Z (vF Z dW Z)<|sG Z Z (af Z fB Z<|Js (x:=b)) ?_
   refine bR Z Z Z Z en218 Z (hs) ?_
   refine sG Z Z (bi Z)<|sV (vQ Z Z)<|sA Z<|sK [4] Z<|cT ?_
   exact aj Z ⟨Z,Z⟩ sbq
  ·rw [Bool.not_true,Bool.false_and]
   iterate 6 refine aC rfl rfl rfl ?_
   refine sV (vP Z Z)<|sA Z<|sK [4] Z<|cT ?_
   exact aj Z ⟨Z,Z⟩ sbq
 ·rw [Bool.not_true,Bool.false_and,Bool.false_and]
  iterate 3 refine aC rfl rfl rfl ?_
  refine sV (vP Z Z)<|sM Z<|aC Z Z Z ?_
  iterate 5 refine aC rfl rfl rfl ?_
  refine sV (vP Z Z)<|sA Z<|sK [4] Z<|cT ?_
  exact aj Z ⟨Z,Z⟩ sbq
theorem Jy {m:Mb} {d:Sd} {b1:Nat} (h:Enc.rep X us m) (hrd:Rds X b1 0 [sv d.cls,sv d.name]):Reads prog 269 #[.agg us.toArray,.pointer (some ⟨b1,0,none⟩)] [X] (.bool (!m.seeds.contains d)):=by
 obtain ⟨x2,x5,xy,x11,x12,x13,rfl,hx2,_⟩:=dI h
 obtain ⟨ax2,kx2,rfl,_⟩:=id hx2.form
 unfold iB
 refine aL (n:=9) func269 Z Z (len Z) λhr w0=>?_
 refine cQ (aV Z Z λb2=>?_)
 refine sA Z<|sK [1,2,3] Z<|cQ<|sV (vF Z eF Z)<|sV (vY Z oZ) ?_
 refine sV (af Z ic Z hrd) ?_
 refine aY Z Z en33 Z (vW hx2) ?_
 refine sV (bi Z)<|sA Z<|sK [3] Z<|cT ?_
 exact aj Z ⟨Z,Z⟩ sbq
theorem Jz {ms:List Mb} {d:Sd} {b1:Nat} {mv:Value} (h:Enc.rep X us d) (hrd:Rd X ⟨b1,9,none⟩ mv) (hm:Ls X mv ms):Reads prog 220 #[.agg us.toArray,.pointer (some ⟨b1,0,none⟩)] [X] (.bool (decide (1<(bn ms d).length))):=by
 have hus:us=[sv d.cls,sv d.name]:=h
 subst hus
 refine aL (n:=10) func220 Z Z (len Z) λhr w0=>?_
 refine cQ (aV Z Z λb2=>?_)
 refine sA Z<|sK [1,2,3] Z<|cQ<|sV (vF Z mI Z)<|sV (vY Z oW (ha:=⟨_,_,slq,hrd⟩)) ?_
 refine sV (af Z ic Z ah) ?_
 refine aH Z Z FK Z (lQ (s:=d) hm) ?_
 rintro u h' ⟨T,rfl,hu,rfl⟩
 simp only [lC,lN]
 unfold NR
 refine jD (v:=u) (E:=9) (sz:=1) (rows:=(bn ms d).map nC) slq λwa wc hwf hwl hwm=>?_
 rw [List.length_map] at hwf hwl
 subst hwf
 refine sV (aF Z underlying40)<|sV (bZ Z Z)<|sA Z<|sK [3] Z<|cT ?_
 rw [show decide ((1:Int)<((bn ms d).length:Nat))=decide (1<(bn ms d).length) by rw [Bool.eq_iff_iff]; simp; omega]
 exact aj Z ⟨Z,Z⟩ sbq
theorem JA {f:Fe} {x:Cm} {p:Pt} {c:FC} {b2:Nat} {pv:Value} (h:Enc.rep X us f) (h':Enc.rep X us' x) (hrd:Rd X ⟨b2,5,none⟩ pv) (hpv:Ls X pv c.pars) (hp:c.pars[x.par]? = some p) (hl:p.red.length≤1099511627776):Reads prog 210 #[.agg us.toArray,.agg us'.toArray,.pointer (some ⟨b2,0,none⟩)] [X] (.bool (!x.dfd && !p.red.contains f.name)):=by
 have hd:=Ao h'
 have hlx:=Enc.len h'
 have hplt:=(List.getElem?_eq_some_iff.1 hp).1
 obtain ⟨x2,x5,xy,x11,x12,x13,rfl,_⟩:=iC h'
 obtain ⟨y2,y3,fy,y9,y10,y11,y12,y13,y14,rfl,-⟩:=nz h
 obtain ⟨pb,po,pcap,pus,rfl,hpus,hprd,hpr⟩:=hpv.at hp
 obtain ⟨pa,pr,pu,pd,pS,rfl,hpa,hpr,hpu,hpd,hpsel⟩:=hpr
 unfold oJ Az at *
 have hct:=fJ (ED hpd) f.name hl
 refine aL (n:=23) func210 Z Z (len Z) λhr w0=>?_
 refine cQ (aV Z Z λb3=>?_)
 refine aV Z Z λb4=>?_
 refine sA Z<|sK [2,3,4,5] Z<|cS<|bB (ork [(0,1),(1,1),(2,2),(3,2),(4,2),(5,2),(6,1),(7,2),(8,1),(9,2),(10,2),(11,1),(12,2),(13,1),(14,1),(15,2),(16,2),(17,2)] .nil) (λ_=>true) mixed Zz ?_
 refine bg Z (af Z ik hlx ah) ?_
 refine gZ Z Z Z FN Z (hd) ?_
 refine dV Z (bi Z)<|dV Z (vM Z) ?_
 cases hk:x.dfd
 ·rw [Bool.not_false,Bool.true_and]
  refine d9 Z Z Z (vF Z gV Z)<|d9 Z Z Z (vF Z fC Z)<|jI Z Z Z (vY Z mi (ha:=⟨_,_,slq,hrd⟩)) ?_
  refine d9 Z Z Z (vF Z yQ Z)<|jI Z Z Z (vY Z ld3) ?_
  refine d9 Z Z Z (vI (k:=x.par) Z Z oV Z hplt Z)<|d9 Z Z Z (vF Z wL Z)<|jI Z Z Z (vY Z fG (ha:=⟨_,_,slq,hprd 4<|by simp⟩)) ?_
  refine d9 Z Z Z (vF Z o8 Z)<|jI Z Z Z (vY Z ld9) ?_
  refine yI Z Z Z Z Z Ed Z (hct) ?_
  refine d9 Z Z Z (bi Z)<|dV Z (vQ Z Z)<|dV Z (vA Z)<|bA<|nK [5] Z<|nT<|cT ?_
  exact aj Z ⟨Z,Z⟩ sbq
 ·rw [Bool.not_true,Bool.false_and]
  iterate 2 refine ji rfl rfl rfl rfl ?_
  refine jV Z Z Z Z ?_
  refine ji Z Z Z Z ?_
  refine jV Z Z Z Z ?_
  iterate 2 refine ji rfl rfl rfl rfl ?_
  refine jV Z Z Z Z ?_
  refine ji Z Z Z Z ?_
  iterate 2 refine jV rfl rfl rfl rfl ?_
  refine ji Z Z Z Z ?_
  refine dV Z (vP Z Z)<|dV Z (vA Z)<|bA<|nK [5] Z<|nT<|cT ?_
  exact aj Z ⟨Z,Z⟩ sbq
def kZ {α : Type} (S:Sk) (l:List α) (is : α -> α -> Bool) (f : α -> α -> Cf) (a : α × Nat) (k:Nat):List Cf:=(l.zipIdx.drop k).flatMap λb=>if a.2=b.2∨(S.all=false/\b.2<a.2)∨is a.1 b.1=false then [] else [f a.1 b.1]
theorem wh (S:Sk) (x:Cf) (t:List Cf):S.cut (x::t)=x::(if S.all then t else []):=by
 unfold Sk.cut
 cases S.all <;> rfl
theorem EJ {α : Type} {S:Sk} {l:List α} {is : α -> α -> Bool} {f : α -> α -> Cf} {a : α × Nat} {k:Nat} (h:k<l.length):kZ S l is f a k=(if a.2=k∨(S.all=false/\k<a.2)∨is a.1 l[k]=false then [] else [f a.1 l[k]])++kZ S l is f a (k+1):=by
 unfold kZ
 rw [kC h]
theorem AV {α : Type} {S:Sk} {l:List α} {is : α -> α -> Bool} {f : α -> α -> Cf} {a : α × Nat}:kZ S l is f a l.length=[]:=by
 unfold kZ
 rw [mR]
theorem Hw {yl : Nat} {Φ : List Cf -> Res -> Prop} {Stop : Cf -> Res -> Prop} (hy : Yh yl Φ Stop) {S : Sk} {all : Bool} (hall : S.all = all) {l : List Cm} {kf : FuncId} {is : Cm -> Cm -> Bool} (hE : Ck.Enters prog kf) (his : ∀ a ∈ l, ∀ b ∈ l, ∀ us us' : List Value, Enc.rep X us a -> Enc.rep X us' b -> Reads prog kf #[.agg us.toArray, .agg us'.toArray] [X] (.bool (is a b)))
  (hv:Ls X v l) {vv fv ca cb ce cf ci mv bv:Value} (kk:Int) (R:List Cf) (r0:Res) (h0 : Φ (S.cpairs l kk is++R) r0) :
  Ct prog 207 #[.agg (fu vv fv S.c ca cb ce cf ci mv bv all).toArray,v,.int .i64 kk,.func (.func kf) #[] #[],.func (.yield yl) #[] #[]] [X,r0] λu h'=>∃ r,h'=[X,r]/\Yend Φ Stop R u r:=by
 obtain ⟨a,cap,rfl,hlc,hcm,_⟩:=id hv.form
 have hml:maxLen=9223372036854775807:=rfl
 have hcn:=λb=>gD (fv:=fv) (c:=S.c) (v:=vv) (ca:=ca) (cb:=cb) (ce:=ce) (cf:=cf) (ci:=ci) (mv:=mv) (bv:=bv) (all:=all) b
 unfold fu at *
 refine aL (n:=67) func207 Z Z (len Z) λhr w0=>?_
 refine cQ (aV Z Z λb5=>?_)
 refine sA Z<|sK [1,2,3,4,5,10] Z<|cS<|cQ<|sM Z<|sV (aF Z underlying187)<|sM Z<|sN<|nT<|cB<|aZ (σ := Res×Nat) (λq=>[(1,.slice a l.length cap),(2,.int .i64 kk),(3,.func (.func kf) #[] #[]),(4,.func (.yield yl) #[] #[]),(5,.pointer (some ⟨b5,0,none⟩)),(15,.slice a l.length cap),(16,.int .i64 l.length),(17,.int .i64 (q.2:Nat))]) (λq=>pt b5 (cl [vv,fv,sv S.c.name,.bool S.c.dfd,ca,cb,ce,cf,ci,mv,bv,.bool all] 206)::X::q.1::hr) (λq=>q.2≤l.length /\ Φ (S.cut ((l.zipIdx.drop q.2).flatMap λa=>kZ S l is (λa b=>S.cf kk a.mem.name a.og b.og) a 0)++R) q.1) (λq=>l.length - q.2) (r0,0) ⟨Nat.zero_le _,h0⟩ ?_
 rintro ⟨r,i⟩ ⟨hi,hΦ⟩
 simp only at hi hΦ
 dsimp only
 refine cQ<|sV (aN Z Z)<|sN<|nT<|cS<|cC Z (λhd=>?_)<|λhd=>?_
 ·have hlt:i<l.length:=Zx
  rw [kC hlt] at hΦ
  have hai:=List.getElem_mem hlt
  obtain ⟨ab,ao,acap,aus,e1,haus,hard,hare⟩:=hv.at<|Zy hlt
  obtain ⟨rfl,rfl⟩:a=some ⟨ab,ao,none⟩/\cap=acap:=by cases e1; exact ⟨rfl,rfl⟩
  have hisa:=his _ hai
  generalize hxa:l[i]=x at hΦ hare hisa
  have hone:=Enc.ones hare
  have hre:=hare
  obtain ⟨x2,x5,xy,x11,x12,x13,rfl,hxm⟩:=iC hare
  have hogx:=λb=>nD (b:=b) (x:=x) (x2:=x2) (x5:=x5) (y:=xy) (x11:=x11) (x12:=x12) (x13:=x13)
  unfold oJ at *
  refine cK<|xT<|cS<|cB<|cQ<|sM Z<|sV (vI (k:=i) Z Z lJ Z hlt Z)<|sV (af Z ik Z hard) ?_
  refine ax qY λb12=>?_
  refine sA Z<|ai Z Z mH Z hone ?_
  refine sK [1,2,3,4,5,11,12,15,16,17] Z<|cQ<|sM Z<|sV (aF Z underlying187)<|sM Z<|sN<|nT<|cB<|aZ (σ := Res×Nat) (λq=>[(1,.slice (some ⟨ab,ao,none⟩) l.length cap),(2,.int .i64 kk),(3,.func (.func kf) #[] #[]),(4,.func (.yield yl) #[] #[]),(5,.pointer (some ⟨b5,0,none⟩)),(15,.slice (some ⟨ab,ao,none⟩) l.length cap),(16,.int .i64 l.length),(17,.int .i64 (i:Nat)),(11,.int .i64 (i:Nat)),(12,.pointer (some ⟨b12,0,none⟩)),(22,.slice (some ⟨ab,ao,none⟩) l.length cap),(23,.int .i64 l.length),(24,.int .i64 (q.2:Nat))]) (λq=>pt b12 (cl [sv x.og.par,sv x.og.name,.int .i64 x.par,sv x.mem.name,.int .i64 x.mem.kind,x2,sv x.mem.impl.cls,sv x.mem.impl.name,x5,.int .i64 x.mem.ty.kind,sv x.mem.ty.name,xy,.bool x.mem.ty.void,.bool x.mem.ty.sep,x11,x12,x13,.int .i64 x.was] 191)::pt b5 (cl [vv,fv,sv S.c.name,.bool S.c.dfd,ca,cb,ce,cf,ci,mv,bv,.bool all] 206)::X::q.1::hr) (λq=>q.2≤l.length /\ Φ (S.cut (kZ S l is (λa b=>S.cf kk a.mem.name a.og b.og) (x,i) q.2++(l.zipIdx.drop (i+1)).flatMap λa=>kZ S l is (λa b=>S.cf kk a.mem.name a.og b.og) a 0)++R) q.1) (λq=>l.length - q.2) (r,0) ⟨Nat.zero_le _,hΦ⟩ ?_
  clear hΦ
  rintro ⟨r,k⟩ ⟨hk,hΦ⟩
  simp only at hk hΦ
  dsimp only
  refine cQ<|sV (aN Z Z)<|sN<|nT<|cS<|cC Z (λhd2=>?_)<|λhd2=>?_
  ·have hltk:k<l.length:=Zw
   rw [EJ hltk] at hΦ
   have hbi:=List.getElem_mem hltk
   obtain ⟨bb,bo,bcap,bus,e2,hbus,hbrd,hbre⟩:=hv.at<|Zy hltk
   obtain ⟨rfl,rfl⟩:ab=bb/\ao=bo:=by cases e2; exact ⟨rfl,rfl⟩
   have hisb:=λus'=>hisa _ hbi _ us' hre
   generalize l[k]=y at hΦ hbre hisb
   have honeb:=Enc.ones hbre
   have hisy:=hisb _ hbre
   obtain ⟨y2,y5,yy,y11,y12,y13,rfl,hym⟩:=iC hbre
   have hogy:=λb=>nD (b:=b) (x:=y) (x2:=y2) (x5:=y5) (y:=yy) (x11:=y11) (x12:=y12) (x13:=y13)
   unfold oJ at *
   refine cK<|xT<|cS<|cB<|cQ<|sM Z<|sV (vI (k:=k) Z Z lJ Z hltk Z)<|sV (af Z ik Z hbrd) ?_
   refine ax qY λb14=>?_
   refine sA Z<|ai Z Z mH Z honeb ?_
   refine sK [1,2,3,4,5,11,12,13,14,15,16,17,22,23,24] Z<|cS<|cQ<|sM Z<|sM Z<|sV (dD Z Z)<|sM Z ?_
   by_cases hik:i=k
   ·have hq:(((i:Nat):Int) == ((k:Nat):Int))=true:=by rw [hik]; simp
    rw [hq]
    iterate 4 refine aC rfl rfl rfl ?_
    refine cz Z Z ?_
    refine cz Z Z ?_
    refine cz Z Z ?_
    refine aC Z Z Z ?_
    refine sV (vQ Z Z)<|sM Z<|aC Z Z Z ?_
    iterate 4 refine aC rfl rfl rfl ?_
    refine sV (vQ Z Z)<|sK [1,2,3,4,5,11,12,14,15,16,17,22,23,24,48] Z<|aT Z ?_
    refine aB<|xE<|xY<|xT<|cR<|sV (aI Z Z Z6)<|sM Z<|sN<|nK [1,2,3,4,5,11,12,15,16,17,22,23,24] Z<|au ?_
    refine aM (r,k+1) ⟨hltk,by rw [if_pos (.inl hik)] at hΦ; exact hΦ⟩ (by dsimp only; omega)
   ·have hq:(((i:Nat):Int) == ((k:Nat):Int))=false:=by simp; omega
    rw [hq]
    refine sG Z Z (vF Z pg Z)<|sG Z Z (vY Z ld4) ?_
    refine sG Z Z (bi Z)<|sG Z Z (vM Z) ?_
    cases all
    ·refine sG Z Z (vM Z)<|sG Z Z (vM Z)<|sG Z Z (aN Z Z)<|sG Z Z (vQ Z Z)<|sV (vP Z Z)<|sM Z ?_
     by_cases hki:k<i
     ·have hq2:decide (((k:Nat):Int)<((i:Nat):Int))=true:=by simp; omega
      rw [hq2]
      iterate 5 refine aC rfl rfl rfl ?_
      refine sV (vQ Z Z)<|sK [1,2,3,4,5,11,12,14,15,16,17,22,23,24,48] Z<|aT Z ?_
      refine aB<|xE<|xY<|xT<|cR<|sV (aI Z Z Z6)<|sM Z<|sN<|nK [1,2,3,4,5,11,12,15,16,17,22,23,24] Z<|au ?_
      refine aM (r,k+1) ⟨hltk,by rw [if_pos (.inr<|.inl ⟨hall,hki⟩)] at hΦ; exact hΦ⟩ (by dsimp only; omega)
     ·have hq2:decide (((k:Nat):Int)<((i:Nat):Int))=false:=by simp; omega
      rw [hq2]
      refine sG Z Z (vM Z)<|sG Z Z (af Z ik Z ah) ?_
      refine sG Z Z (af Z ik Z ah) ?_
      refine bR Z Z Z Z hE Z (hisy) ?_
      refine sG Z Z (bi Z)<|sV (vP Z Z)<|sK [1,2,3,4,5,11,12,14,15,16,17,22,23,24,48] Z<|cC Z (λhn=>?_)<|λhn=>?_
      ·have hn:is x y=false:=Zk
       refine aB<|xE<|xY<|xT<|cR<|sV (aI Z Z Z6)<|sM Z<|sN<|nK [1,2,3,4,5,11,12,15,16,17,22,23,24] Z<|au ?_
       refine aM (r,k+1) ⟨hltk,by rw [if_pos (.inr<|.inr hn)] at hΦ; exact hΦ⟩ (by dsimp only; omega)
      ·have hn:¬ is x y=false:=Zk
       have hΦ3 : Φ (S.cf kk x.mem.name x.og y.og::((if S.all then kZ S l is (λa b=>S.cf kk a.mem.name a.og b.og) (x,i) (k+1)++(l.zipIdx.drop (i+1)).flatMap (λa=>kZ S l is (λa b=>S.cf kk a.mem.name a.og b.og) a 0) else [])++R)) r:=by
        rw [if_neg (λh=>h.elim hik λh=>h.elim (λh=>hki h.2) hn)] at hΦ
        rw [lC,lN,List.cons_append,wh] at hΦ
        exact hΦ
       refine cK<|xT<|cS<|cQ<|sM Z<|sV (af Z fT Z ah) ?_
       refine sM Z<|sV (vF Z dW Z)<|sV (vF Z eD Z)<|sV (vY Z ld9) ?_
       refine sV (vF Z jA Z)<|sV (af Z qz Z<|nD (x:=x)) ?_
       refine sV (vF Z jA Z)<|sV (af Z qz Z<|nD (x:=y)) ?_
       refine aY Z Z jZ Z (hcn kk x.mem.name x.og y.og) ?_
       refine kw (gd:=0) (.inl Z) Z Z (hy _ _ _ hΦ3) ?_
       rintro u h' (⟨rfl,r',hΦ4,rfl⟩ | ⟨rfl,r',hst,rfl⟩)
       ·simp only [lC,lN]
        refine sV (bi Z)<|sK [1,2,3,4,5,11,12,15,16,17,22,23,24,61] Z<|aG Z ?_
        refine cK<|xT<|cQ<|sV (vF Z pg Z)<|sV (vY Z ld4) ?_
        refine sV (bi Z)<|sK [1,2,3,4,5,11,12,15,16,17,22,23,24,64] Z<|aT Z ?_
        refine cQ<|sA Z<|sK [10] Z<|cT<|xW<|xR<|xR<|xW<|xW<|xR<|xR<|xW<|xR ?_
        rw [hall] at hΦ4
        exact aj Z ⟨r',Z,.inl ⟨Z,hΦ4⟩⟩ sbq
       ·simp only [lC,lN]
        refine sV (bi Z)<|sK [1,2,3,4,5,11,12,15,16,17,22,23,24,61] Z<|aT Z ?_
        refine cQ<|sA Z<|sK [10] Z<|cT<|xR<|xW<|xR<|xR<|xW<|xW<|xR<|xR<|xW ?_
        refine xR ?_
        exact aj Z ⟨r',Z,.inr ⟨Z,_,hst⟩⟩ sbq
    ·iterate 3 refine aC rfl rfl rfl ?_
     refine sG Z Z (vP Z Z)<|sV (vP Z Z)<|sM Z<|sG Z Z (vM Z)<|sG Z Z (af Z ik Z ah) ?_
     refine sG Z Z (af Z ik Z ah) ?_
     refine bR Z Z Z Z hE Z (hisy) ?_
     refine sG Z Z (bi Z)<|sV (vP Z Z)<|sK [1,2,3,4,5,11,12,14,15,16,17,22,23,24,48] Z<|cC Z (λhn=>?_)<|λhn=>?_
     ·have hn:is x y=false:=Zk
      refine aB<|xE<|xY<|xT<|cR<|sV (aI Z Z Z6)<|sM Z<|sN<|nK [1,2,3,4,5,11,12,15,16,17,22,23,24] Z<|au ?_
      refine aM (r,k+1) ⟨hltk,by rw [if_pos (.inr<|.inr hn)] at hΦ; exact hΦ⟩ (by dsimp only; omega)
     ·have hn:¬ is x y=false:=Zk
      have hΦ3 : Φ (S.cf kk x.mem.name x.og y.og::((if S.all then kZ S l is (λa b=>S.cf kk a.mem.name a.og b.og) (x,i) (k+1)++(l.zipIdx.drop (i+1)).flatMap (λa=>kZ S l is (λa b=>S.cf kk a.mem.name a.og b.og) a 0) else [])++R)) r:=by
       rw [if_neg (λh=>h.elim hik λh=>h.elim (λh=>by rw [hall] at h; cases h.1) hn)] at hΦ
       rw [lC,lN,List.cons_append,wh] at hΦ
       exact hΦ
      refine cK<|xT<|cS<|cQ<|sM Z<|sV (af Z fT Z ah) ?_
      refine sM Z<|sV (vF Z dW Z)<|sV (vF Z eD Z)<|sV (vY Z ld9) ?_
      refine sV (vF Z jA Z)<|sV (af Z qz Z<|nD (x:=x)) ?_
      refine sV (vF Z jA Z)<|sV (af Z qz Z<|nD (x:=y)) ?_
      refine aY Z Z jZ Z (hcn kk x.mem.name x.og y.og) ?_
      refine kw (gd:=0) (.inl Z) Z Z (hy _ _ _ hΦ3) ?_
      rintro u h' (⟨rfl,r',hΦ4,rfl⟩ | ⟨rfl,r',hst,rfl⟩)
      ·simp only [lC,lN]
       refine sV (bi Z)<|sK [1,2,3,4,5,11,12,15,16,17,22,23,24,61] Z<|aG Z ?_
       refine cK<|xT<|cQ<|sV (vF Z pg Z)<|sV (vY Z ld4) ?_
       refine sV (bi Z)<|sK [1,2,3,4,5,11,12,15,16,17,22,23,24,64] Z<|aG Z ?_
       refine cK<|xB<|xT<|cR<|sV (aI Z Z Z6)<|sM Z<|sN<|nK [1,2,3,4,5,11,12,15,16,17,22,23,24] Z<|au ?_
       rw [hall] at hΦ4
       refine aM (r',k+1) ⟨hltk,by unfold Sk.cut; rw [hall]; exact hΦ4⟩ (by dsimp only; omega)
      ·simp only [lC,lN]
       refine sV (bi Z)<|sK [1,2,3,4,5,11,12,15,16,17,22,23,24,61] Z<|aT Z ?_
       refine cQ<|sA Z<|sK [10] Z<|cT<|xR<|xW<|xR<|xR<|xW<|xW<|xR<|xR<|xW ?_
       refine xR ?_
       exact aj Z ⟨r',Z,.inr ⟨Z,_,hst⟩⟩ sbq
  ·have hie:k=l.length:=by
    have:¬ k<l.length:=Zw
    omega
   subst hie
   rw [AV,List.nil_append] at hΦ
   refine aB<|xE<|xE<|xY<|xB<|xT<|cR<|sV (aI Z Z Z6)<|sM Z<|sN<|nK [1,2,3,4,5,15,16,17] Z<|au ?_
   refine aM (r,i+1) ⟨hlt,hΦ⟩ (by dsimp only; omega)
 ·have hie:i=l.length:=by
   have:¬ i<l.length:=Zx
   omega
  subst hie
  rw [mR] at hΦ
  have hΦ : Φ R r:=by
   have:S.cut []=[]:=by unfold Sk.cut; split <;> rfl
   rw [this] at hΦ; exact hΦ
  refine aB<|xE<|xE<|xY<|xT<|cQ<|sA Z<|sK [10] Z<|cT ?_
  exact aj Z ⟨r,Z,.inl ⟨Z,hΦ⟩⟩ sbq
end
end Go.Fl
