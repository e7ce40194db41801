/-
  Go's library: slices.Grow,slices.Concat at names. Package flat: pairs yields conflicts. Conditions: what is read.
-/
import Derived.Test.YtknmacdbffgjgaaGreatDoorM20
import Derived.Test.YtknmacdbffgjgaaGreatDoorM14
import Derived.Shelf.Strings.FuncGrows
import Derived.Shelf.Strings.Fields
set_option linter.unusedVariables false
set_option linter.unusedSimpArgs false
set_option maxRecDepth 100000
set_option maxHeartbeats 16000000
namespace Go.Ck
open Go Go.RowKit
theorem v_mlenI {P : Program} {e : Env} {h h' : SH} {t ty' K E : TypeId} {x : Operand} {b : Nat} {m : List (Int × Value)} (hx : e.ev? x = some (.map (some b))) (ht : P.underlying t = some (.map K E)) (hs : Sel h (mpr b m) h') :
  Vop P e h (.call { callee:=.builtin .len,args := #[x],argTypes := #[t] }) ty' (.int .i64 m.length):=
 ⟨by simp,by simp,λρ w d pos after g hρ hh=>by
  obtain ⟨es,ck,h1,h2,_⟩:=(hh.sel hs).1
  have hg:(getObj b).run P w = .ok (.map es ck) w:=run_getObj_map h1
  have hl:es.size=m.length:=by
   have:=congrArg List.length h2
   simpa [ng] using this
  simp [execOp,resolve,invoke,builtin,hρ x _ hx,Builtin.len_,run_underlying ht,goInt,hg,hl]⟩
end Go.Ck
namespace Go.Fl
open Go Go.RowKit Go.Ck Go.Proofs Go.Proofs.Tryz Go.Proofs.YtknmacdbffgjgaaGreatDoor Fx Go.Hr
theorem G7 (cs:List Cm) (x:Cm) (s:Sd):having (cs++[x]) s=if x.mem.seeds.contains s then having cs s++[x] else having cs s:=by
 unfold having
 rw [List.filter_append]
 by_cases h:x.mem.seeds.contains s=true
 ·rw [if_pos h,List.filter_cons,if_pos h]; rfl
 ·rw [if_neg h,List.filter_cons,if_neg h]; simp
theorem G8 (c:FC) (xs:List Cm) (x:Cm):picked c (xs++[x])=if (dF c x.par).sel.contains x.mem.name && !(picked c xs).contains x.mem.name then picked c xs++[x.mem.name] else picked c xs:=by
 unfold picked
 rw [List.filter_append]
 by_cases h:(dF c x.par).sel.contains x.mem.name=true
 ·have e1:[x].filter (λx=>(dF c x.par).sel.contains x.mem.name)=[x]:=by rw [List.filter_cons,if_pos h]; rfl
  rw [e1,List.map_append,List.map_cons,List.map_nil,rT,h,Bool.true_and]
  unfold Hr.step
  by_cases h2:(dd [] ((xs.filter λx=>(dF c x.par).sel.contains x.mem.name).map λx=>x.mem.name)).contains x.mem.name=true
  ·rw [if_pos h2,h2]; rfl
  ·rw [if_neg h2,if_pos Zm]
 ·have e1:[x].filter (λx=>(dF c x.par).sel.contains x.mem.name)=[]:=by rw [List.filter_cons,if_neg h]; rfl
  rw [e1,List.append_nil,Bool.eq_false_iff.2 h]; rfl
theorem OD (o xs:List Nat) (i:Nat):ddn o (xs++[i])=if (ddn o xs).contains i then ddn o xs else ddn o xs++[i]:=by
 unfold ddn
 rw [List.foldl_append]; rfl
theorem Bf (xs:List Cm) (x:Cm):bX (xs++[x])=if (bX xs).contains x.par then bX xs else bX xs++[x.par]:=by
 unfold bX
 rw [List.map_append,List.map_cons,List.map_nil,OD]
def qG (ps:List Nat):List (Int×Value):=ps.map λ(i:Nat)=>((i:Int),.bool true)
theorem G9 : ∀ (ps : List Nat) (i : Nat), nR (qG ps) (i : Int) (.bool true) = qG (if ps.contains i then ps else ps ++ [i])
 | [],i=>by simp [qG,nR]
 | p::t,i=>by
  have ih:=G9 t i
  unfold qG at ih ⊢
  rw [List.map_cons,nR]
  by_cases h:p=i
  ·subst h
   simp
  ·have h1:¬ ((p:Nat):Int)=(i:Nat):=by omega
   have h2:(p::t).contains i=t.contains i:=by rw [List.contains_cons]; simp [show (i == p)=false by simpa using λe=>h (by omega)]
   rw [if_neg h1,ih,h2]
   split <;> rfl
structure Fits (l:FS) (fl:Nm->Fl):Prop where
 right:FRight l
 flb:FlB l fl
 lists:∀ c∈l,∀ p∈c.pars,p.ren.length≤12/\p.und.length≤12/\p.red.length≤12/\p.sel.length≤12
section
variable {l:FS} {fl:Nm->Fl}
theorem Fits.hf (h:Fits l fl) {c:FC} (hc:c∈l∨c=Bb):∀ p∈c.pars,(ae l p.name).forms.length=p.args.length/\p.und.length≤1099511627776:=λp hp=>by
 rcases hc with hc | rfl
 ·exact ⟨((gB<|h.right.form c hc).args p hp).symm,by have:=(h.lists c hc p hp).2.1; omega⟩
 ·cases hp
theorem Fits.sel (h:Fits l fl) {c:FC} (hc:c∈l∨c=Bb):∀ p∈c.pars,p.sel.length≤1099511627776:=λp hp=>by
 rcases hc with hc | rfl
 ·have:=(h.lists c hc p hp).2.2.2; omega
 ·cases hp
theorem Fits.few (h:Fits l fl) {c:FC} (hc:c∈l∨c=Bb):(comes fl l c).length≤240:=by
 rcases hc with hc | rfl
 ·exact xg h.right h.flb hc
 ·exact Nat.zero_le _
theorem Fits.name (h:Fits l fl) {c:FC} (hc:c∈l∨c=Bb):∀ x∈comes fl l c,x.mem.name.length≤20:=λx hx=>by
 rcases hc with hc | rfl
 ·exact (yY h.flb.ok (gB<|h.right.form c hc) hx).name
 ·cases hx
theorem AL (c:FC) (xs:List Cm):(picked c xs).length≤xs.length:=by
 have:(picked c xs).length≤(xs.map λx=>x.mem.name).length:=aT (NS _) λn hn=>by
  obtain ⟨x,hx,_,e⟩:=Ac.1 hn
  exact List.mem_map.2 ⟨x,hx,e⟩
 simpa using this
theorem Fits.join (h:Fits l fl) {c:FC} (hc:c∈l∨c=Bb) (s:Sd):(picked c (having (comes fl l c) s)).length≤240/\(ko (picked c (having (comes fl l c) s))).length≤140737488355328:=by
 have h1:=AL c<|having (comes fl l c) s
 have h2:(having (comes fl l c) s).length≤(comes fl l c).length:=List.length_filter_le _ _
 have h3:=h.few hc
 have h4:=Di (k:=20) (xs:=picked c<|having (comes fl l c) s) λn hn=>by
  obtain ⟨x,hx,_,e⟩:=Ac.1 hn
  rw [<- e]
  exact h.name hc x (List.mem_filter.1 hx).1
 omega
theorem OE {n:Nat} {c:FC} {ms:List Mb} {s:Sd}:∃ up,eT fl l n c ms s=Gb fl l c ms s up:=by
 cases n with
 | zero=>exact ⟨_,Lr⟩
 | succ n=>exact ⟨_,CO⟩
theorem OG {n:Nat} {c:FC} {ms:List Mb} {s:Sd} (h:(bn ms s).length=1):eT fl l n c ms s=((bn ms s).headD [],true):=by
 obtain ⟨up,e⟩:=OE (l:=l) (fl:=fl) (n:=n) (c:=c) (ms:=ms) (s:=s)
 rw [e]; unfold Gb; rw [if_pos h]
theorem Ha {n:Nat} {c:FC} {ms:List Mb} {s:Sd} (h:(bn ms s).length≠1) (h2:picked c (having (comes fl l c) s)≠[]∨(bX (having (comes fl l c) s)).length≠1):eT fl l n c ms s=(ko (picked c (having (comes fl l c) s)),(picked c (having (comes fl l c) s)).length == 1):=by
 obtain ⟨up,e⟩:=OE (l:=l) (fl:=fl) (n:=n) (c:=c) (ms:=ms) (s:=s)
 rw [e]; unfold Gb; rw [if_neg h,if_pos h2]
theorem sel_up {n:Nat} {c:FC} {ms:List Mb} {s:Sd} {i:Nat} (h:(bn ms s).length≠1) (h2:picked c (having (comes fl l c) s)=[]) (h3:bX (having (comes fl l c) s)=[i]):eT fl l (n+1) c ms s =
  if 1<(bn (fl (dF c i).name).mems s).length then (bN (dF c i) (eT fl l n (ae l (dF c i).name) (fl (dF c i).name).mems s).1,(eT fl l n (ae l (dF c i).name) (fl (dF c i).name).mems s).2) else ([],false):=by
 rw [CO]
 unfold Gb
 rw [if_neg h,if_neg (by rw [h2,h3]; simp),h3]
 rfl
theorem Dj (ms:List Mb) (s:Sd):(bn ms s).length≤ms.length:=by
 unfold bn
 rw [List.length_map]
 exact List.length_filter_le _ _
end
attribute [local irreducible] Go.Ck.Sub St Cd Xt Nx DrL LsW
section
variable {v v':Value}
theorem yf {mb : Nat} {m : List (Nm × Value)} {fl : Nm -> Fl} {l : FS} (hF : Fits l fl) : ∀ (n : Nat) (X : Res) (c : FC) (cn : Nm) (uc : List Value) (mv : Value) (ms : List Mb) (s : Sd), c = ae l cn -> rk (bC l) cn ≤ n -> Ls X v l -> Enc.rep X uc c -> FlR X m fl -> Ls X mv ms ->
  eu prog 98 #[.agg #[v,.map (some mb)],.agg uc.toArray,mv,.agg #[sv s.cls,sv s.name]] X [mps mb m] λu Y k'=>k'=[mps mb m]/\u = .tuple #[sv (eT fl l n c ms s).1,.bool (eT fl l n c ms s).2]:=by
 intro n
 induction n using Nat.strongRecOn with
 | ind n ih =>
 intro X c cn uc mv ms s hcn hrk hl hc hm hms
 have hcl:c∈l∨c=Bb:=by rw [hcn]; exact GY
 have hnl:=Dj ms s
 have hml:maxLen=9223372036854775807:=rfl
 have huc:=Enc.len hc
 obtain ⟨hj1,hj2⟩:=hF.join hcl s
 unfold eu
 refine Ew (n:=120) func98 Z Z (len Z) λhr w0 hw0=>?_
 refine cQ (aP Z Z λb4=>?_)
 refine aP Z Z λb5=>?_
 refine aP Z Z λb7=>?_
 refine sA Z<|sA Z<|sK [2,4,5,7,8,9] Z<|cQ<|sM Z<|sV (af Z gM Z ag) ?_
 refine aJ Z Z Fy Z (lU hms) ?_
 rintro u h' ⟨T,rfl,hu,rfl⟩
 simp only [lC,lN]
 unfold NR
 refine sA Z<|sK [4,5,7,8,9,10] Z<|cS<|cS (gz (v:=u) (E:=9) (sz:=1) (rows:=(bn ms s).map nC) slq λwa wc hwf hwl hwm=>?_)
 rw [List.length_map] at hwf hwl
 subst hwf
 refine cR<|sM Z<|sV (aF Z underlying40)<|sV (dE Z Z)<|sK [4,5,7,8,9,10,23] Z<|cC Z (λhd=>?_)<|λhd=>?_
 ·have h1:(bn ms s).length=1:=by have:=beq_iff_eq.1 hd; omega
  rw [OG h1]
  refine fQ (r:=VR (.slice wa (bn ms s).length wc) 9 1<|(bn ms s).map nC) slq λhok=>?_
  obtain ⟨ab,ao,rfl⟩:∃ ab ao,wa=some ⟨ab,ao,none⟩:=by
   obtain ⟨f0,hf0⟩:=hok
   rcases VR.form hf0 with ⟨h3,h4⟩ | ⟨b,o,cp,h3,-⟩
   ·have:=List.map_eq_nil_iff.1 h4
    rw [this] at h1; cases h1
   ·rw [List.length_map] at h3; cases h3; exact ⟨b,o,rfl⟩
  have hnx:((bn ms s).map nC)[0]? = some [sv ((bn ms s).headD [])]:=by
   match hq:bn ms s,h1 with
   | [a],_=>rfl
  refine cQ<|sM Z<|sV (vI (k:=0) Z Z iZ Z (by omega) Z)<|sV (vY Z ld9 (ha:=⟨_,_,slq,eX hnx 0<|by simp⟩)) ?_
  refine sA Z<|sA Z<|sK [8,9] Z<|cT<|xR ?_
  exact jU (bs:=[]) Z Z ⟨X,_,Z,Ext.refl X,Z,Z⟩ sbq
 ·have hn1:(bn ms s).length≠1:=λh=>by rw [h] at hd; exact absurd hd (by decide)
  refine cK<|xT<|cQ (ak al40 λb11=>?_)
  refine sK [4,5,7,8,9,11] Z<|cQ (Ie (ltn Z) λbm=>?_)
  refine ak al250 λb12=>?_
  refine bg Z Z sz250 ?_
  refine sK [4,5,7,8,9,11,12] Z<|cS<|cQ<|sV (af Z gZ Z ag) ?_
  refine sV (af Z gL huc ag) ?_
  refine aJ Z Z en171 Z (Df (v:=v) (mb:=mb) (uc:=uc)) ?_
  rintro u h' ⟨c1,c2,rfl,rfl⟩
  simp only [lC,lN]
  refine sK [4,5,7,8,9,11,12,30] Z<|cB<|dK (cZ 9 1) (jg Z en237 λyl db rec hst hpe hps hasg hbo hkn2=>?_)
  refine ⟨_,Ct.perm (GI (σ := Value×List Nm×List Nat) (mb:=mb) (b1:=c1) (b2:=c2) (yl:=yl) (λq=>pt yl (.loop rec)::pt db (.deferred<|some [])::pt b11 (cl [q.1] 40)::VR q.1 9 1 (q.2.1.map nC)::pt b12 (cl [.map (some bm)] 250)::mpr bm (qG q.2.2)::pt b4 (cl [v,.map (some mb)] 114)::pt b5 (cl uc 44)::pt b7 (cl [sv s.cls,sv s.name] 69)::VR (.slice wa (bn ms s).length wc) 9 1 ((bn ms s).map nC)::hr)
   (λk Y q=>q.1.oneCell'=true/\q.2.1=picked c (having ((comes fl l c).take k) s)/\q.2.2=bX (having ((comes fl l c).take k) s)) (λ_ _ _=>False) (.slice none 0 0,[],[]) ⟨rfl,rfl,rfl⟩ hl hc hm (hF.hf hcl) ?_ (λ_ _ _ _ _ h=>h)) ?_,?_⟩
  ·rintro k Y ⟨w, ns, ps⟩ x us hx hE hrep ⟨hw, hns, hps2⟩
   simp only at hw hns hps2 ⊢
   have hone:=Enc.ones hrep
   have hus:=Enc.len hrep
   have hlt:=(List.getElem?_eq_some_iff.1 hx).1
   have htk:(comes fl l c).take (k+1)=(comes fl l c).take k++[x]:=by rw [bV hlt,(List.getElem?_eq_some_iff.1 hx).2]
   obtain ⟨p,hp,-,-,-⟩:=jl<|List.mem_of_getElem? hx
   have hpx:dF c x.par=p:=by unfold dF; rw [hp]; rfl
   have hpm:=List.mem_of_getElem? hp
   have hplt:=(List.getElem?_eq_some_iff.1 hp).1
   have hhs:=G7 ((comes fl l c).take k) x s
   have hpk:=G8 c (having ((comes fl l c).take k) s) x
   have hfp:=Bf (having ((comes fl l c).take k) s) x
   have hnsl:=AL c<|having ((comes fl l c).take k) s
   have hhl:(having ((comes fl l c).take k) s).length≤((comes fl l c).take k).length:=List.length_filter_le _ _
   have hfew:=hF.few hcl
   rw [List.length_take] at hhl
   rw [hpx] at hpk
   rw [<- hns] at hpk hnsl
   rw [<- hps2] at hfp
   obtain ⟨ca,cb,ce,cf,ci,rfl,hca,hcb,hce,hcf,hci⟩:=gD hc
   obtain ⟨pb,po,pcap,pus,e1,hpus,hprd,hpr⟩:=(hcb.up hE).at hp
   subst e1
   have hsl:=hF.sel hcl p hpm
   obtain ⟨pa,pr,pu,pd,pS,rfl,hpa,hpr,hpu,hpd,hpsel⟩:=hpr
   obtain ⟨x2,x5,xy,x11,x12,x13,rfl,hxm⟩:=iB hrep
   obtain ⟨hx2,hx5,hxy,hx11,hx12,hx13⟩:=hxm
   obtain ⟨ax2,kx2,rfl,_⟩:=id hx2.form
   unfold oL at *
   refine Yc.perm (qO (n:=120) (rec:=rec) (args:=[.agg [sv x.og.par,sv x.og.name,.int .i64 x.par,sv x.mem.name,.int .i64 x.mem.kind,.slice ax2 x.mem.seeds.length kx2,sv x.mem.impl.cls,sv x.mem.impl.name,x5,.int .i64 x.mem.ty.kind,sv x.mem.ty.name,xy,.bool x.mem.ty.void,.bool x.mem.ty.sep,x11,x12,x13,.int .i64 x.was].toArray]) (hf:=pt db (.deferred<|some [])::pt b11 (cl [w] 40)::VR w 9 1 (ns.map nC)::pt b12 (cl [.map (some bm)] 250)::mpr bm (qG ps)::pt b4 (cl [v,.map (some mb)] 114)::pt b5 (cl [sv c.name,.bool c.dfd,ca,.slice (some ⟨pb,po,none⟩) c.pars.length pcap,ce,cf,ci] 44)::pt b7 (cl [sv s.cls,sv s.name] 69)::VR (.slice wa (bn ms s).length wc) 9 1 ((bn ms s).map nC)::Y::mps mb m::hr) (by rw [hps]; rfl) hkn2 (by rw [hps]; decide) ?_) (by exact (by repeat (first | exact Pm.refl | refine Pm.cons slq ?_):Pm _ _).perm)
   intro hr2 w1
   rw [hasg,hps,hbo]
   simp only [lC,lN]
   refine fQ (r:=VR w 9 1<|ns.map nC) slq λhokw=>?_
   refine cR (ak q8 λb13=>?_)
   refine ai Z Z mM Z hone ?_
   refine sN<|nK [5,7,8,9,11,12,13] Z<|ax<|lG Z slq (by first | rfl | assumption) ?_
   refine cB<|cS<|cQ<|sV (vF Z dW Z)<|sV (vF Z dP Z)<|sV (vY Z nz) ?_
   refine sV (af Z gM Z ag) ?_
   refine aX Z Z en33 Z (vW hx2) ?_
   refine sV (aZ Z)<|sK [5,8,9,11,12,13,37] Z<|cC Z (λhct=>?_)<|λhct=>?_
   ·have hct:x.mem.seeds.contains s=false:=Zd
    rw [hct] at hhs
    simp only [Bool.false_eq_true,if_false] at hhs
    refine aC<|xE<|xY<|dA slq (.inl ⟨Z,Y,(w,ns,ps),Ext.refl Y,⟨hw,by rw [htk,hhs]; exact hns,by rw [htk,hhs]; exact hps2⟩,Z⟩) ?_
    rw [dB hst hpe]
    exact sbq
   ·have hct:x.mem.seeds.contains s=true:=Zd
    rw [hct] at hhs
    simp only [if_true] at hhs
    rw [<- hhs,<- htk] at hpk hfp
    refine cK<|xT<|cQ<|sV (vY Z ld250) ?_
    refine sV (vF Z yM Z)<|sV (vY Z ld3) ?_
    refine Dz Z Z Z mp250 slq ?_
    rw [G9]
    refine sK [5,8,9,11,13] Z<|cS<|bB (ork [(0,2),(1,1),(2,2),(3,1),(4,2),(5,2),(6,1),(7,2),(8,2),(9,1),(10,1),(11,2),(12,1),(13,2),(14,2),(15,1),(16,1),(17,2),(18,2)] .nil) (λ_=>true) mixed Zz ?_
    refine dV Z (vF Z fu Z)<|bi Z (vY Z mr) ?_
    refine dV Z (vF Z yM Z)<|bi Z (vY Z ld3) ?_
    have hsel1:=fF (Eu hpsel) x.mem.name hsl
    have hsel2:=fF (iY hokw) x.mem.name<|by omega
    refine dV Z (vI (k:=x.par) Z Z oW Z hplt Z)<|dV Z (vF Z zL Z)<|bi Z (vY Z fq (ha:=⟨_,_,slq,hprd 5<|by simp⟩)) ?_
    refine dV Z (vF Z dW Z)<|dV Z (vF Z dC Z)<|bi Z (vY Z ld9) ?_
    refine gY Z Z Z D5 Z (hsel1) ?_
    cases hq1:p.sel.contains x.mem.name
    ·rw [hq1,Bool.false_and] at hpk
     simp only [Bool.false_eq_true,if_false] at hpk
     refine dV Z (vM Z)<|jh Z Z Z Z ?_
     iterate 2 refine gP rfl rfl rfl rfl ?_
     iterate 2 refine jh rfl rfl rfl rfl ?_
     refine gP Z Z Z Z ?_
     refine dV Z (vP Z Z)<|bA<|nK [8,9,11,13,59] Z<|nT<|aH Z ?_
     refine cK<|xB<|dA slq (.inl ⟨Z,Y,(w,ns,if ps.contains x.par then ps else ps++[x.par]),Ext.refl Y,⟨hw,hpk.symm,hfp.symm⟩,Z⟩) ?_
     rw [dB hst hpe]
     exact sbq
    ·rw [hq1,Bool.true_and] at hpk
     refine dV Z (vM Z)<|gX Z Z Z (vY Z fq) ?_
     refine cu Z Z Z (vF Z dW Z)<|cu Z Z Z (vF Z dC Z)<|gX Z Z Z (vY Z ld9) ?_
     refine vg Z Z Z Z Z D5 Z (hsel2) ?_
     refine cu Z Z Z (aZ Z)<|dV Z (vQ Z Z)<|bA<|nK [8,9,11,13,59] Z<|nT<|cC Z (λhap=>?_)<|λhap=>?_
     ·have hap:ns.contains x.mem.name=false:=by simpa using hap
      rw [hap] at hpk
      simp only [Bool.not_false,if_true] at hpk
      refine cR<|sV (vY Z fq) ?_
      refine sV (vF Z dW Z)<|sV (vF Z dC Z)<|sV (vY Z ld9) ?_
      refine au (cells:=[sv x.mem.name]) Z underlying40 fP Z Z Zz (ltn Z) λb64=>?_
      refine d9 [[sv x.mem.name]] Z Z underlying40 fP Z (by decide) (show Sel _ (VR w 9 1<|ns.map nC) _ from slq) (by simp) Z (λj u2 hu2=>bS<|bU Zr) (by simp [sv,Value.oneCell']) (by rw [List.length_map]; omega) (by rw [List.length_map]; omega) (ltn Z) λw2 hw2 _=>?_
      rw [show ns.map nC++[[sv x.mem.name]]=(ns++[x.mem.name]).map nC by simp [nC]]
      refine bg Z Z yn ?_
      refine sN<|nK [8,9] Z<|ax<|xB<|dA slq (.inl ⟨Z,Y,(w2,ns++[x.mem.name],if ps.contains x.par then ps else ps++[x.par]),Ext.refl Y,⟨hw2,hpk.symm,hfp.symm⟩,Z⟩) ?_
      rw [dB hst hpe]
      exact sbq
     ·have hap:ns.contains x.mem.name=true:=by simpa using hap
      rw [hap] at hpk
      simp only [Bool.not_true,Bool.false_eq_true,if_false] at hpk
      refine cK<|xB<|dA slq (.inl ⟨Z,Y,(w,ns,if ps.contains x.par then ps else ps++[x.par]),Ext.refl Y,⟨hw,hpk.symm,hfp.symm⟩,Z⟩) ?_
      rw [dB hst hpe]
      exact sbq
  ·exact (by repeat (first | exact Pm.refl | refine Pm.cons slq ?_):Pm _ _).perm
  ·rintro u h' ⟨rfl, (⟨Y, ⟨w, ns, ps⟩, hE, ⟨hw, hns, hps2⟩, rfl⟩ | ⟨k, Y, t, _, hS, rfl⟩)⟩
   ·simp only at hw hns hps2
    rw [List.take_length] at hns hps2
    refine ⟨rec,_,slq,(by rw [hst]; simp),?_⟩
    rw [hpe]
    dsimp only
    refine xB<|xT<|cS<|cS (gz (v:=w) (E:=9) (sz:=1) (rows:=ns.map nC) slq λpa pc hpf hpl hpm=>?_)
    rw [List.length_map] at hpf hpl
    subst hpf
    refine cR<|sV (vY Z fq) ?_
    refine sV (aF Z underlying40)<|sV (bW Z Z)<|sM Z ?_
    by_cases h0:ns=[]
    ·have hg0:decide ((0:Int)<(ns.length:Nat))=false:=by rw [h0]; rfl
     rw [hg0]
     refine sG Z Z (vY Z ld250) ?_
     refine sG Z Z (v_mlenI Z underlying250 slq) ?_
     refine sG Z Z (bK Z Z)<|sV (vP Z Z)<|sK [4,5,7,8,9,11,12,73] Z ?_
     by_cases h1:ps.length=1
     ·have hg1:((((qG ps).length:Nat):Int) != 1)=false:=by unfold qG; rw [List.length_map,h1]; rfl
      rw [hg1]
      obtain ⟨i,rfl⟩:=List.length_eq_one_iff.1 h1
      have hfr:bX (having (comes fl l c) s)=[i]:=hps2.symm
      have hpk0:picked c (having (comes fl l c) s)=[]:=by rw [<- hns]; exact h0
      have hpm:dF c i∈c.pars:=rE (fl:=fl) (l:=l) (s:=s) (by rw [hfr]; simp)
      obtain ⟨n',rfl,hrk'⟩:∃ n',n=n'+1/\rk (bC l) (dF c i).name≤n':=by
       have h2:=iM hF.right.sys.acyc<|eY hF.right.sys (c:=cn) (p:=dF c i) (by rw [<- hcn]; exact hpm)
       exact ⟨n - 1,by omega,by omega⟩
      have hih:=λZq (hE:Ext X Zq) (cus:List Value) (mxv:Value) hrep hmx=>ih n' (Nat.lt_succ_self _) Zq (ae l (dF c i).name) (dF c i).name cus mxv (fl (dF c i).name).mems s rfl hrk' (hl.up hE) hrep (hm.up hE) hmx
      rw [sel_up hn1 hpk0 hfr]
      obtain ⟨hplt,hpi⟩:i<c.pars.length/\c.pars[i]? = some (dF c i):=by
       have hi:i∈bX (having (comes fl l c) s):=by rw [hfr]; simp
       obtain ⟨x,hx,rfl⟩:=pJ.1 hi
       obtain ⟨p,hp,-⟩:=jl (List.mem_filter.1 hx).1
       refine ⟨(List.getElem?_eq_some_iff.1 hp).1,?_⟩
       unfold dF; rw [hp]; rfl
      generalize eT fl l n' (ae l (dF c i).name) (fl (dF c i).name).mems s=r at hih ⊢
      generalize dF c i=p at hih hpi hpm ⊢
      obtain ⟨ca,cb,ce,cf,ci,rfl,hca,hcb,hce,hcf,hci⟩:=gD hc
      obtain ⟨cb,ck,rfl,_⟩:=id hcb.form
      clear huc
      refine aH Z ?_
      refine cK<|xT<|cS<|cQ<|sV (vY Z ld250) ?_
      refine Ou Z mp250 slq (ltn Z) λib hnd=>?_
      refine sK [4,5,7,8,9,80] Z<|cB<|aW (σ := List (Int×Value)×Option (Int×Value)×Res) (λq=>[(4,.pointer (some ⟨b4,0,none⟩)),(5,.pointer (some ⟨b5,0,none⟩)),(7,.pointer (some ⟨b7,0,none⟩)),(80,.pointer (some ⟨ib,0,none⟩))]) (λq=>mit bm ib (qG [i]) q.1 q.2.1::pt db (.deferred<|some [])::pt b4 (cl [v,.map (some mb)] 114)::pt b5 (cl [sv c.name,.bool c.dfd,ca,.slice cb c.pars.length ck,ce,cf,ci] 44)::pt b7 (cl [sv s.cls,sv s.name] 69)::q.2.2::mps mb m::hr) (λq=>Ext X q.2.2/\(q.1=qG [i]∨(q.1=[]/\¬ 1<(bn (fl p.name).mems s).length))) (λq=>q.1.length) (qG [i],none,Y) ⟨hE,.inl Z⟩ ?_
      rintro ⟨left,last,Zq⟩ ⟨hE2,hleft⟩
      simp only at hE2 hleft
      dsimp only
      refine cQ<|st_next Z slq (ltn Z) (λhl0=>?_)<|λk v1 left' hp=>?_
      ·subst hl0
       have hno:¬ 1<(bn (fl p.name).mems s).length:=hleft.elim (λe=>by cases e) λe=>e.2
       rw [if_neg hno]
       refine sV (ah Z Z)<|sK [4,5,7,80,82] Z<|cS<|aH Z ?_
       refine aC<|xE<|xE<|xY<|xT<|cQ<|sA Z<|sA Z<|sK [8,9] Z<|cT ?_
       exact jU (bs:=[db]) Z Z ⟨Zq,_,Z,hE2,Z,Z⟩ sbq
      ·refine sV (ah Z Z)<|sK [4,5,7,80,82] Z<|cS<|aQ Z ?_
       refine cK<|xT<|cB<|cQ<|sV (v_entry Z slq) ?_
       have hki:k=(i:Int)/\left'=[]:=by
        rcases hleft with e | ⟨e,_⟩
        ·rw [e] at hp
         have h3:=hp.length_eq
         have h4:(k,v1)∈qG [i]:=hp.mem_iff.2<|by simp
         simp only [qG,List.map_cons,List.map_nil,List.mem_singleton,Prod.mk.injEq] at h4
         simp only [qG,List.map_cons,List.map_nil,List.length_cons,List.length_nil] at h3
         exact ⟨h4.1,List.eq_nil_of_length_eq_zero<|by omega⟩
        ·rw [e] at hp
         have:=hp.length_eq
         simp at this
       obtain ⟨rfl,rfl⟩:=hki
       obtain ⟨pb,po,pcap,pus,e1,hpus,hprd,hpr⟩:=(hcb.up hE2).at hpi
       obtain ⟨rfl,rfl⟩:cb=some ⟨pb,po,none⟩/\ck=pcap:=by cases e1; exact ⟨rfl,rfl⟩
       have hpr0:=hpr
       obtain ⟨pa,pr,pu,pd,pS,rfl,hpa,hpR,hpu,hpd,hpsel⟩:=hpr
       obtain ⟨aA,kA,rfl,_⟩:=id hpa.form
       obtain ⟨aR,kR,rfl,_⟩:=id hpR.form
       obtain ⟨aU,kU,rfl,_⟩:=id hpu.form
       obtain ⟨aD,kD,rfl,_⟩:=id hpd.form
       obtain ⟨aS,kS,rfl,_⟩:=id hpsel.form
       obtain ⟨fus,hfl,hfr2⟩:=hm.up hE2 p.name
       obtain ⟨mx,my,rfl,hmx,hmy⟩:=hfr2
       obtain ⟨mA,mK,rfl,_⟩:=id hmx.form
       refine sV (ah Z Z)<|sA Z<|sK [4,5,7,14,80] Z<|cQ<|sV (vF Z fu Z)<|sV (vY Z mr) ?_
       refine sM Z<|sV (vI (k:=i) Z Z oW Z hplt Z)<|sV (af Z qD Z hprd) ?_
       refine ak vG λb15=>?_
       refine ai Z Z sH Z Z ?_
       refine sK [4,5,7,15,80] Z<|cQ<|sV (vF Z iX Z)<|sV (vY Z qm) ?_
       refine sV (vF Z gN Z)<|sV (vY Z ld9) ?_
       refine sV (gG hfl<|bI Z Z qj ql slq) ?_
       refine sV (iU (k:=2) Z underlying55 Z isAgg52 Z)<|sV (af Z gM Z ag) ?_
       refine aJ Z Z Fy Z (lU (s:=s) hmx) ?_
       rintro u h' ⟨T,rfl,hu2,rfl⟩
       simp only [lC,lN]
       unfold NR
       refine jB (v:=u) (E:=9) (sz:=1) (rows:=(bn (fl p.name).mems s).map nC) slq λqa qc hqf hql hqm=>?_
       rw [List.length_map] at hqf hql
       subst hqf
       refine sV (aF Z underlying40)<|sV (bW Z Z)<|sK [4,5,7,15,80,99] Z<|cC Z (λhmore=>?_)<|λhmore=>?_
       ·have hmore:1<(bn (fl p.name).mems s).length:=by
         have:=of_decide_eq_true hmore
         omega
        rw [if_pos hmore]
        have hcc:=l9 (n:=p.name) (fv:=.map<|some mb) (hl.up hE2) rfl
        refine cS<|bB (ork [(0,1),(1,1),(2,2),(3,1),(5,2),(6,1),(7,2),(8,1),(9,1),(10,1),(11,1),(4,0),(12,0),(13,2),(14,2),(15,2),(16,2),(17,2)] .nil) (λi => !(Nat.beq i 12)) mixed Zz ?_
        refine bi Z (af Z gZ Z ag) ?_
        refine bi Z (af Z gZ Z ag) ?_
        refine dV Z (vF Z gN Z)<|bi Z (vY Z ld9) ?_
        refine dV Z (vF Z iX Z)<|bi Z (vY Z qm) ?_
        refine dV Z (vF Z gN Z)<|bi Z (vY Z ld9) ?_
        refine bi Z (gG hfl<|bI Z Z qj ql slq) ?_
        refine bi Z (iU (k:=2) Z underlying55 Z isAgg52 Z)<|bi Z (af Z gM Z ag) ?_
        refine aV Z<|aJ Z Z en56 Z (hcc) ?_
        rintro u h' ⟨rfl,cus,rfl,hcr⟩
        simp only [lC,lN]
        refine aY ?_
        refine aV Z<|bM hw0 Z Z en98 Z (hih Zq hE2 cus _ hcr hmx) ?_
        rintro u h' ⟨Z2,k2,rfl,hE3,rfl,rfl⟩
        simp only [lC,lN]
        refine aY ?_
        refine dV Z (vM Z)<|dV Z (ah Z Z)<|dV Z (ah Z Z)<|dV Z (vA Z)<|dV Z (vA Z)<|bA<|nK [4,5,7,15,16,17,80] Z<|nT<|cQ<|sV (af Z qD Z ag) ?_
        refine sM Z<|aJ Z Z en173 Z (uw (n:=r.1)<|Enc.up hE3.rd hpr0) ?_
        rintro u h' ⟨rfl,rfl⟩
        simp only [lC,lN]
        refine sM Z<|sA Z<|sA Z<|sK [8,9] Z<|cT<|xW<|xR<|xW<|xR ?_
        exact jU (bs:=[db]) Z Z ⟨Z2,_,Z,hE2.trans hE3,Z,Z⟩ sbq
       ·have hmore:¬ 1<(bn (fl p.name).mems s).length:=by
         have:=of_decide_eq_false hmore
         omega
        refine cK<|xB ?_
        refine aM ([],some ((i:Int),v1),Zq) ⟨hE2,.inr ⟨rfl,hmore⟩⟩ (by rcases hleft with e | ⟨e,_⟩ <;> rw [e] at hp <;> simp [qG] at hp ⊢ <;> simp [e,qG])
     ·have hg1:((((qG ps).length:Nat):Int) != 1)=true:=by
       unfold qG
       rw [List.length_map]
       simp only [bne_iff_ne,ne_eq]; omega
      rw [hg1]
      refine aQ Z ?_
      refine cS<|bB (ork [(0,1),(2,1),(3,2),(4,2),(1,0),(5,2),(6,2)] .nil) (λ_=>true) mixed Zz ?_
      refine bi Z (vY Z fq) ?_
      refine bi Z (vY Z fq) ?_
      refine dV Z (aF Z underlying40)<|dV Z (dE Z Z) ?_
      rw [Ha hn1 (.inr (by rw [<- hps2]; exact h1)),<- hns]
      refine aV Z<|bM hw0 Z Z en172 Z (KM (xs:=ns) (by rw [hns]; omega) (by rw [hns]; exact hj2)) ?_
      rintro u h' ⟨rfl,rfl⟩
      simp only [lC,lN]
      refine aY ?_
      refine dV Z (vA Z)<|dV Z (vA Z)<|bA<|nK [8,9] Z<|nT<|cT<|xR ?_
      rw [show (((ns.length:Nat):Int) == 1)=(ns.length == 1) by rw [Bool.eq_iff_iff]; simp; omega]
      exact jU (bs:=[db]) Z Z ⟨Y,_,Z,hE,Z,Z⟩ sbq
    ·have hg0:decide ((0:Int)<(ns.length:Nat))=true:=by
      have:=List.length_pos_iff.2 h0
      simp; omega
     rw [hg0]
     iterate 3 refine aB rfl rfl rfl ?_
     refine sV (vQ Z Z)<|sK [4,5,7,8,9,11,12,73] Z<|aQ Z ?_
     refine cS<|bB (ork [(0,1),(2,1),(3,2),(4,2),(1,0),(5,2),(6,2)] .nil) (λ_=>true) mixed Zz ?_
     refine bi Z (vY Z fq) ?_
     refine bi Z (vY Z fq) ?_
     refine dV Z (aF Z underlying40)<|dV Z (dE Z Z) ?_
     rw [Ha hn1 (.inl (by rw [<- hns]; exact h0)),<- hns]
     refine aV Z<|bM hw0 Z Z en172 Z (KM (xs:=ns) (by rw [hns]; omega) (by rw [hns]; exact hj2)) ?_
     rintro u h' ⟨rfl,rfl⟩
     simp only [lC,lN]
     refine aY ?_
     refine dV Z (vA Z)<|dV Z (vA Z)<|bA<|nK [8,9] Z<|nT<|cT<|xR ?_
     rw [show (((ns.length:Nat):Int) == 1)=(ns.length == 1) by rw [Bool.eq_iff_iff]; simp; omega]
     exact jU (bs:=[db]) Z Z ⟨Y,_,Z,hE,Z,Z⟩ sbq
   ·exact hS.elim
end
def Hd:Go.Shelf.Ren:={
 f:=λ| 17=>225 | 15=>270 | 20=>297 | n=>n
 t:=λ| 9=>9 | 23=>290 | 4=>4 | 3=>3 | 0=>0 | 21=>21 | n=>n
 g:=λn=>n }
theorem lays17g:Go.Proofs.LaysGw.n17 prog Hd:={
 mixed:=rfl
 f15:=func270.trans<|congrArg some Zz
 f17:=func225.trans<|congrArg some Zz
 f20:=func297.trans<|congrArg some Zz
 t0:=underlying0
 a0:=isAgg0
 z0:=sizeOf0
 v0:=zeroValue0
 i0:=Zz
 t3:=underlying3
 a3:=isAgg3
 z3:=sizeOf3
 v3:=zeroValue3
 i3:=Zz
 t4:=underlying4
 a4:=isAgg4
 z4:=sizeOf4
 v4:=zeroValue4
 i4:=Zz
 t9:=underlying9
 a9:=isAgg9
 z9:=sizeOf9
 v9:=zeroValue9
 i9:=Zz
 t21:=underlying21
 a21:=isAgg21
 z21:=sizeOf21
 v21:=zeroValue21
 i21:=Zz
 t23:=underlying290
 a23:=isAgg290
 z23:=sizeOf290
 v23:=zeroValue290
 i23:=by kernel_rfl }
def He:Go.Shelf.Ren:={
 f:=λ| 157=>231 | 229=>273 | 199=>274 | 261=>298 | 311=>314 | 312=>315 | n=>n
 t:=λ| 9=>9 | 31=>40 | 3=>3 | 5=>5 | 4=>4 | 119=>335 | 0=>0 | 40=>290 | 152=>355 | 21=>21 | 154=>357 | 51=>322 | 141=>359 | 196=>376 | 193=>373 | 198=>379 | 49=>377 | 194=>374 | 201=>382 | 226=>387 | 46=>275 | 227=>388 | n=>n
 g:=λ| 0=>0 | 6=>1 | n=>n }
theorem lays157:Go.Proofs.Lays.n157 prog He:={
 mixed:=rfl
 f157:=func231.trans<|congrArg some Zz
 f199:=func274.trans<|congrArg some Zz
 f229:=func273.trans<|congrArg some Zz
 f261:=func298.trans<|congrArg some Zz
 f311:=func314.trans<|congrArg some Zz
 f312:=func315.trans<|congrArg some Zz
 t0:=underlying0
 a0:=isAgg0
 z0:=sizeOf0
 v0:=zeroValue0
 t3:=underlying3
 a3:=isAgg3
 z3:=sizeOf3
 v3:=zeroValue3
 t4:=underlying4
 a4:=isAgg4
 z4:=sizeOf4
 v4:=zeroValue4
 t5:=underlying5
 a5:=isAgg5
 z5:=sizeOf5
 v5:=zeroValue5
 t9:=underlying9
 a9:=isAgg9
 z9:=sizeOf9
 v9:=zeroValue9
 t21:=underlying21
 a21:=isAgg21
 z21:=sizeOf21
 v21:=zeroValue21
 t31:=underlying40
 a31:=isAgg40
 z31:=sizeOf40
 v31:=zeroValue40
 t40:=underlying290
 a40:=isAgg290
 z40:=sizeOf290
 v40:=zeroValue290
 t46:=underlying275
 a46:=isAgg275
 z46:=sizeOf275
 v46:=zeroValue275
 t49:=underlying377
 a49:=isAgg377
 z49:=sizeOf377
 v49:=zeroValue377
 t51:=underlying322
 a51:=isAgg322
 z51:=sizeOf322
 v51:=zeroValue322
 t119:=underlying335
 a119:=isAgg335
 z119:=sizeOf335
 t141:=underlying359
 a141:=isAgg359
 z141:=sizeOf359
 v141:=zeroValue359
 t152:=underlying355
 a152:=isAgg355
 z152:=sizeOf355
 v152:=zeroValue355
 t154:=underlying357
 a154:=isAgg357
 z154:=sizeOf357
 v154:=zeroValue357
 t193:=underlying373
 a193:=isAgg373
 z193:=sizeOf373
 v193:=zeroValue373
 t194:=underlying374
 a194:=isAgg374
 z194:=sizeOf374
 v194:=zeroValue374
 t196:=underlying376
 a196:=isAgg376
 z196:=sizeOf376
 v196:=zeroValue376
 t198:=underlying379
 a198:=isAgg379
 z198:=sizeOf379
 v198:=zeroValue379
 t201:=underlying382
 a201:=isAgg382
 z201:=sizeOf382
 v201:=zeroValue382
 t226:=underlying387
 a226:=isAgg387
 z226:=sizeOf387
 v226:=zeroValue387
 t227:=underlying388
 a227:=isAgg388
 z227:=sizeOf388
 v227:=zeroValue388
 g0:=Zz
 g6:=by kernel_rfl }
def okR (x:Nat):Bool:=(decide (97≤x) && decide (x≤122) || (decide (48≤x) && decide (x≤57))) || x == 95
theorem Ey {x:Nat} (h:128≤x):okR x=false:=by
 unfold okR
 rw [decide_eq_false (show ¬ x≤122 by omega),decide_eq_false (show ¬ x≤57 by omega),Bool.and_false,Bool.and_false]
 simp; omega
theorem okS_ge {b:UInt8} (h:128≤b.toNat):okS b=false:=Ey h
theorem OH (s:ByteArray) (i:Nat):okR (Utf8.decode s i).1=okS (s.get! i)/\(okS (s.get! i)=true->(Utf8.decode s i).2=1):=by
 unfold Utf8.decode
 simp only [Nat.add_zero]
 by_cases h:(s.get! i).toNat<128
 ·rw [if_pos h]; exact ⟨rfl,λ_=>rfl⟩
 ·rw [if_neg h, okS_ge (by omega)]
  refine ⟨?_,λh=>by cases h⟩
  have he:okR Utf8.runeError=false:=by decide
  split
  ·split
   ·rename_i h2; exact Ey h2
   ·exact he
  ·split
   ·split
    ·rename_i h2; rw [Bool.and_eq_true,decide_eq_true_eq] at h2; exact Ey (by omega)
    ·exact he
   ·split
    ·split
     ·rename_i h2; rw [Bool.and_eq_true,decide_eq_true_eq] at h2; exact Ey (by omega)
     ·exact he
    ·exact he
theorem OI (s : ByteArray) : ∀ (f pos : Nat), s.size ≤ pos + f -> (0 ≤ Lib.idxFuncFrom (λx => !okR x) true s f pos ↔ ∃ j, pos ≤ j /\ j < s.size /\ okS (s.get! j) = false)
 | 0,pos,h=>by
  show 0≤(-1:Int)↔_
  exact ⟨λh=>by omega,λ⟨j,h1,h2,_⟩=>by omega⟩
 | f + 1, pos, h => by
  unfold Lib.idxFuncFrom
  by_cases hp:pos<s.size
  ·rw [if_pos hp, (OH s pos).1]
   cases hk:okS (s.get! pos) with
   | true =>
    rw [if_neg (by simp),(OH s pos).2 hk,OI s f (pos+1) (by omega)]
    refine ⟨λ⟨j,h1,h2⟩=>⟨j,by omega,h2⟩,λ⟨j,h1,h2,h3⟩=>⟨j,?_,h2,h3⟩⟩
    rcases Nat.lt_or_ge pos j with h4 | h4
    ·exact h4
    ·have:j=pos:=by omega
     subst this
     rw [hk] at h3; cases h3
   | false=>rw [if_pos (by simp)]; exact ⟨λ_=>⟨pos,Nat.le_refl _,hp,hk⟩,λ_=>by omega⟩
  ·rw [if_neg hp]
   exact ⟨λh=>by omega,λ⟨j,h1,h2,_⟩=>by omega⟩
theorem has_bad (n:Nm):decide (0≤Lib.idxFunc (λx => !okR x) true ⟨⟨n⟩⟩) = !n.all okS:=by
 have hsz:(⟨⟨n⟩⟩:ByteArray).size=n.length:=rfl
 have hg:∀ j (hj:j<n.length),(⟨⟨n⟩⟩:ByteArray).get! j=n[j]:=λj hj=>by
  show (Array.mk n)[j]! = _
  rw [getElem!_pos (Array.mk n) j Zg]; rfl
 unfold Lib.idxFunc
 rw [Bool.eq_iff_iff,decide_eq_true_eq,OI _ _ _ (by omega),Bool.not_eq_true',List.all_eq_false]
 constructor
 ·rintro ⟨j,_,h2,h3⟩
  rw [hsz] at h2
  exact ⟨n[j],List.getElem_mem h2,by rw [<- hg j h2,h3]; simp⟩
 ·rintro ⟨x,hx,h3⟩
  obtain ⟨j,hj,rfl⟩:=List.getElem_of_mem hx
  exact ⟨j,Nat.zero_le _,hj,by rw [hg j hj]; simpa using h3⟩
theorem Dk : ∀ (s w : Nm), (∀ b ∈ s, Lib.isSp b = (b == 32)) -> rF s w = Lib.fieldsGo w s
 | [],w,_=>by cases w <;> rfl
 | b::t,w,h=>by
  have hb:=h b<|by simp
  have ht:=λw=>Dk t w λb hb=>h b<|by simp [hb]
  show (if b=32 then (if w=[] then rF t [] else w::rF t []) else rF t (w++[b]))=_
  unfold Lib.fieldsGo
  rw [hb,ht,ht]
  by_cases h32:b=32
  ·subst h32
   cases w <;> rfl
  ·rw [if_neg h32,if_neg (by simpa using h32)]
theorem kw_sp:∀ b∈pQ,Lib.isSp b=(b == 32)/\b.toNat<128:=by
 have h:(pQ.all λb=>(Lib.isSp b == (b == 32)) && decide (b.toNat<128))=true:=by decide +kernel
 intro b hb
 have:=List.all_eq_true.1 h b hb
 rw [Bool.and_eq_true,beq_iff_eq,decide_eq_true_eq] at this
 exact this
theorem kws_eq:Lib.fields pQ=kws:=(Dk pQ [] λb hb=>(kw_sp b hb).1).symm
def Spc (X:Res):Prop:=∀ c:Nat,c<256->Rd X ⟨0,c,none⟩ (.int .u8 (if Lib.isSp (UInt8.ofNat c) then 1 else 0))
theorem Spc.up {X Y:Res} (h:Spc X) (hE:Ext X Y):Spc Y:=λc hc=>hE.rd _ _<|h c hc
section
variable {X:Res}
theorem Jd (x:Nat):Reads prog 230 #[.int .i32 x] [] (.bool (!okR x)):=by
 have hok:okR x=(((decide (97≤(x:Int)) && decide ((x:Int)≤122)) || (decide (48≤(x:Int)) && decide ((x:Int)≤57))) || decide ((x:Int)=95)):=by
  unfold okR
  rw [Bool.eq_iff_iff]; simp; omega
 rw [hok]
 refine aL (n:=22) func230 Z Z (len Z) λhr w0=>?_
 refine cQ<|sA Z<|sN<|nT<|cQ<|sM Z<|sV (qh Z Z)<|sM Z<|bf (k:=6) (d:=8) (v:=.bool (decide (97≤(x:Int)) && decide ((x:Int)≤122))) (λhcut=>aG (b:=(decide (97≤(x:Int)))) true (λhg=>?_)<|λhg=>?_) ?_
 ·refine aB Z Z hg ?_
  refine aB Z Z hg ?_
  refine sV (vP (bO Z hg) Z) ?_
  exact hcut _ uG
 ·refine sG Z (bG Z hg) (vM Z)<|sG Z (bG Z hg) (Ca Z Z)<|sV (vQ (bO Z hg) Z) ?_
  exact hcut _ uG
 refine sM Z<|bf (k:=14) (d:=16) (v:=.bool ((decide (97≤(x:Int)) && decide ((x:Int)≤122)) || (decide (48≤(x:Int)) && decide ((x:Int)≤57)))) (λhcut=>aG (b:=(decide (97≤(x:Int)) && decide ((x:Int)≤122))) false (λhg=>?_)<|λhg=>?_) ?_
 ·refine aB Z Z hg ?_
  iterate 2 refine aB rfl rfl hg ?_
  refine bY Z Z ?_
  refine bY Z Z ?_
  refine aB Z Z hg ?_
  refine sV (vQ (bO Z hg) Z) ?_
  exact hcut _ uG
 ·refine sG Z (bG Z hg) (vM Z)<|sG Z (bG Z hg) (qh Z Z)<|sG Z (bG Z hg) (vM Z)<|bf (k:=13) (d:=15) (v:=.bool (decide (48≤(x:Int)) && decide ((x:Int)≤57))) (λhcut=>aG (b:=(decide (48≤(x:Int)))) true (λhg1=>?_)<|λhg1=>?_) ?_
  ·refine aB Z Z hg1 ?_
   refine aB Z Z hg1 ?_
   refine sG Z (bG Z hg) (vP (bO Z hg1) Z) ?_
   exact hcut _<|uH (by first | rfl | (rw [hg1]; rfl) | simp_all)<|uS Z<|uS Z<|uR
  ·refine sG Z (bG Z hg1) (vM Z)<|sG Z (bG Z hg1) (Ca Z Z)<|sG Z (bG Z hg) (vQ (bO Z hg1) Z) ?_
   exact hcut _<|uH (by first | rfl | (rw [hg1]; rfl) | simp_all)<|uS Z<|uS Z<|uR
  refine sV (vP (bO Z hg) Z) ?_
  exact hcut _<|uH (by first | rfl | (rw [hg]; rfl) | simp_all) (by repeat (first | exact uR | refine uS Z ?_))
 refine sM Z<|bf (k:=18) (d:=20) (v:=.bool (((decide (97≤(x:Int)) && decide ((x:Int)≤122)) || (decide (48≤(x:Int)) && decide ((x:Int)≤57))) || decide ((x:Int)=95))) (λhcut=>aG (b:=((decide (97≤(x:Int)) && decide ((x:Int)≤122)) || (decide (48≤(x:Int)) && decide ((x:Int)≤57)))) false (λhg=>?_)<|λhg=>?_) ?_
 ·refine aB Z Z hg ?_
  refine aB Z Z hg ?_
  refine sV (vQ (bO Z hg) Z) ?_
  exact hcut _ uG
 ·refine sG Z (bG Z hg) (vM Z)<|sG Z (bG Z hg) (dE Z Z)<|sV (vP (bO Z hg) Z) ?_
  exact hcut _ uG
 refine sV (aZ Z)<|sA Z<|sK [2] Z<|cT ?_
 exact aj Z ⟨Z,Z⟩ sbq
theorem OJ {P:Program} {g:FuncId} {args:Array Value} {v:Value} (h:Reads P g args [] v) (w:World):Calls P g args w λe w'=>e = .returned v/\Below w.heap.size w w':=by
 refine (h [old w] w<|wE w).mono ?_
 rintro e w' ⟨u,h',rfl,⟨rfl,rfl⟩,hh,hs⟩
 exact ⟨Z,hs.os,hs.tape,hs.output,hs.size,λk hk=>hh.1 k hk⟩
theorem Hf (n:Nm):Ctw prog 225 #[sv n,.func (.func 230) #[] #[]] [] λu h'=>u = .bool (!n.all okS)/\h'=[]:=by
 intro hr w hh
 have hc:=Any.strings_ContainsFunc_grows lays17g 230 #[] (enters_of func230 Zz rfl) (λx => !okR x) ⟨⟨n⟩⟩ w λW x _ _=>OJ (Jd x) W
 rw [has_bad] at hc
 exact Calls.mono hc λe w' ⟨h1,h2⟩=>⟨_,[],h1,⟨Z,Z⟩,xZ h2 hh,AJ h2⟩
theorem Mf (hX:Spc X):Ctw prog 231 #[sv pQ] [X] λu h'=>h'=[X,NR u kws]/\wP (NR u kws) u kws:=by
 intro hr w hh
 have hml:maxLen=9223372036854775807:=rfl
 have hkl:kws.length<100:=by decide +kernel
 have hc:=Any.strings_Fields_core lays157 Zz ⟨⟨pQ⟩⟩ w (by decide +kernel) (λj b hj=>(kw_sp b<|List.mem_of_getElem? hj).2) λc hc=>hX c hc w hh.1
 rw [show (⟨⟨pQ⟩⟩:ByteArray).data.toList=pQ from rfl,kws_eq] at hc
 refine Calls.mono hc λe w' ⟨h1,h2⟩=>⟨.slice (some ⟨w.heap.size,0,none⟩) kws.length kws.length,[X,NR (.slice (some ⟨w.heap.size,0,none⟩) kws.length kws.length) kws],h1,?_⟩
 have h9:Holds w' (NR (.slice (some ⟨w.heap.size,0,none⟩) kws.length kws.length) kws::([X]++hr)):=by
  subst h2
  have h3:=Holds.alloc hh<|cl (kws.map sv) 9
  exact vw_of (E:=9) (sz:=1) (n:=kws.length) (kws.map nC) (mQ _).symm (λr hr=>by obtain ⟨_,_,rfl⟩:=List.mem_map.1 hr; rfl) (by simp) (by omega) _ h3
 refine ⟨⟨Z,iY ⟨_,h9.1⟩⟩,h9.perm (List.Perm.swap _ _ _),?_⟩
 subst h2
 exact (vX w).trans (Grew.alloc _ _ Z).toSame
def smV (n:Nm):Bool:=(((n == [] || decide ((20:Int)<(n.length:Nat))) || decide (((n.headD 0).toNat:Int)<97)) || decide ((122:Int)<(n.headD 0).toNat)) || !n.all okS
theorem smV_eq (n:Nm):small n=(!smV n && !kws.contains n):=by
 cases n with
 | nil=>rfl
 | cons b t =>
  show (decide ((b::t).length≤20) && lower b && (b::t).all okS && !kws.contains (b::t))=_
  congr 1
  unfold smV lower
  rw [show ((b::t:Nm) == [])=false from rfl,List.headD_cons]
  generalize (b::t).all okS=A
  generalize (b::t).length=L
  generalize b.toNat=c
  have e1:decide ((20:Int)<(L:Nat)) = !decide (L≤20):=by rw [<- decide_not]; exact decide_eq_decide.2 (by omega)
  have e2:decide ((c:Int)<97) = !decide (97≤c):=by rw [<- decide_not]; exact decide_eq_decide.2 (by omega)
  have e3:decide ((122:Int)<(c:Nat)) = !decide (c≤122):=by rw [<- decide_not]; exact decide_eq_decide.2 (by omega)
  rw [e1,e2,e3]
  cases decide (L≤20) <;> cases decide (97≤c) <;> cases decide (c≤122) <;> cases A <;> rfl
theorem at0 {n:Nm} (h:(n == [])=false):n[0]? = some (n.headD 0):=by
 cases n with
 | nil=>cases h
 | cons b t=>rfl
theorem Hg (hX:Spc X) (n:Nm):Ctw prog 147 #[sv n] [X] λu h'=>u = .bool (small n)/\h'=[X]:=by
 have hkl:kws.length≤1099511627776:=by
  have:kws.length<100:=by decide +kernel
  omega
 have hfl:=Mf hX
 rw [smV_eq]
 unfold smV
 refine fw (n:=28) func147 Z Z (len Z) λhr w0 hw0=>?_
 refine cQ<|sA Z<|sN<|nT<|cS<|cQ<|sM Z<|sV (gq Z Z)<|sM Z<|bf (k:=7) (d:=9) (v:=.bool (n == [] || decide ((20:Int)<(n.length:Nat)))) (λhcut=>aG (b:=(n == [])) false (λhg=>?_)<|λhg=>?_) ?_
 ·refine aB Z Z hg ?_
  iterate 2 refine aB rfl rfl hg ?_
  refine sV (vQ (bO Z hg) Z) ?_
  exact hcut _ uG
 ·refine sG Z (bG Z hg) (vM Z)<|sG Z (bG Z hg) (DJ Z underlying9)<|sG Z (bG Z hg) (bW Z Z)<|sV (vP (bO Z hg) Z) ?_
  exact hcut _ uG
 refine sM Z<|bf (k:=12) (d:=14) (v:=.bool ((n == [] || decide ((20:Int)<(n.length:Nat))) || decide (((n.headD 0).toNat:Int)<97))) (λhcut=>aG (b:=(n == [] || decide ((20:Int)<(n.length:Nat)))) false (λhg=>?_)<|λhg=>?_) ?_
 ·refine aB Z Z hg ?_
  iterate 2 refine aB rfl rfl hg ?_
  refine sV (vQ (bO Z hg) Z) ?_
  exact hcut _ uG
 ·refine sG Z (bG Z hg) (vM Z)<|sG Z (bG Z hg) (ve (k:=0) Z Z underlying9 Z (at0 (Bool.or_eq_false_iff.1 hg).1))<|sG Z (bG Z hg) (aN Z Z)<|sV (vP (bO Z hg) Z) ?_
  exact hcut _ uG
 refine sM Z<|bf (k:=17) (d:=19) (v:=.bool (((n == [] || decide ((20:Int)<(n.length:Nat))) || decide (((n.headD 0).toNat:Int)<97)) || decide ((122:Int)<(n.headD 0).toNat))) (λhcut=>aG (b:=((n == [] || decide ((20:Int)<(n.length:Nat))) || decide (((n.headD 0).toNat:Int)<97))) false (λhg=>?_)<|λhg=>?_) ?_
 ·refine aB Z Z hg ?_
  iterate 2 refine aB rfl rfl hg ?_
  refine sV (vQ (bO Z hg) Z) ?_
  exact hcut _ uG
 ·refine sG Z (bG Z hg) (vM Z)<|sG Z (bG Z hg) (ve (k:=0) Z Z underlying9 Z (at0 (Bool.or_eq_false_iff.1 (Bool.or_eq_false_iff.1 hg).1).1))<|sG Z (bG Z hg) (bW Z Z)<|sV (vP (bO Z hg) Z) ?_
  exact hcut _ uG
 refine sM Z<|bf (k:=21) (d:=23) (v:=.bool ((((n == [] || decide ((20:Int)<(n.length:Nat))) || decide (((n.headD 0).toNat:Int)<97)) || decide ((122:Int)<(n.headD 0).toNat)) || !n.all okS)) (λhcut=>aG (b:=(((n == [] || decide ((20:Int)<(n.length:Nat))) || decide (((n.headD 0).toNat:Int)<97)) || decide ((122:Int)<(n.headD 0).toNat))) false (λhg=>?_)<|λhg=>?_) ?_
 ·refine aB Z Z hg ?_
  refine aB Z Z hg ?_
  refine sV (vQ (bO Z hg) Z) ?_
  exact hcut _ uG
 ·refine sG Z (bG Z hg) (vM Z)<|lI Z (bG Z hg)<|bM hw0 Z Z en225 Z (Hf n) ?_
  rintro u h' ⟨rfl,rfl⟩
  simp only [List.nil_append]
  refine sV (vP (bO Z hg) Z) ?_
  exact hcut _ uG
 refine sK [0,2,23] Z ?_
 generalize ((((n == [] || decide ((20:Int)<(n.length:Nat))) || decide (((n.headD 0).toNat:Int)<97)) || decide ((122:Int)<(n.headD 0).toNat)) || !n.all okS)=bad
 refine cC Z (λhb=>?_)<|λhb=>?_
 ·have hb:bad=true:=hb
  subst hb
  refine cQ<|sA Z<|sK [2] Z<|cT<|xR ?_
  exact aj Z ⟨Z,Z⟩ sbq
 ·have hb:bad=false:=hb
  subst hb
  refine cK<|xT<|cQ<|bM hw0 Z Z en231 Z (hfl) ?_
  rintro u h' ⟨rfl,hnm⟩
  simp only [lC,lN]
  refine sM Z<|aX Z Z D5 Z (fF hnm n hkl) ?_
  refine sV (aZ Z)<|sA Z<|sK [2] Z<|cT ?_
  exact aj Z ⟨Z,Z⟩ sbq
end
end Go.Fl
namespace Go.Ck
open Go Go.RowKit
section
variable {c:Cx} {ops:Array Oper} {K:Act->World->Prop} {rest:List Oper} {e:Env} {h hr:SH}
theorem vZ {P : Program} {e : Env} {h : SH} {ty T E : TypeId} {x y : Operand} {a : Option Addr} {n cp hi sz : Nat} {i : Int} {k : IntKind} (hx : e.ev? x = some (.slice a n cp)) (hy : e.ev? y = some (.int k i)) (hT : SlE P T E sz)
  (hi':i=(hi:Int)) (h1:hi≤cp):Vop P e h (.slice T x none (some y) none) ty (.slice a hi cp):=
 ⟨by simp,by simp,λρ w d pos after g hρ _=>by
  subst hi'
  have hT':P.underlying T=some (.slice<|P.elem T):=by simp [Program.elem,hT.1]
  have he:P.elem T=E:=by simp [Program.elem,hT.1]
  have hr:=run_slice_h (P:=P) w T a n cp hT' k hi (by omega)<|by omega
  have hs:sliced a 0 hi cp sz = .slice a hi cp:=by
   unfold sliced; by_cases hcl:cp=0 <;> cases a <;> simp [hcl,Addr.add]
  simp only [he,hT.2 w,Result.andThen_ok,Int.toNat_natCast,Int.toNat_zero,hs] at hr
  simp only [execOp,hρ x _ hx,Option.map_some,Option.map_none,hρ y _ hy,Sem.run_bind,run_sliceAt_slice w T _ _ _ _ hT',hr,Result.andThen_ok,Sem.run_pure]⟩
theorem v_cap {P:Program} {e:Env} {h:SH} {t ty' E:TypeId} {x:Operand} {a:Option Addr} {n cp:Nat} (hx:e.ev? x=some (.slice a n cp)) (ht:P.underlying t=some (.slice E)) :
  Vop P e h (.call { callee:=.builtin .cap,args := #[x],argTypes := #[t] }) ty' (.int .i64 (cp:Nat)):=
 ⟨by simp,by simp,λρ w d pos after g hρ _=>by simp [execOp,resolve,invoke,builtin,hρ x _ hx,Builtin.cap_,run_underlying ht,goInt]⟩
theorem yB {P:Program} {w:World} {t tx E:TypeId} (ty:TypeId) {k:IntKind} {i:TypeInfo} {z:Value} (ht:P.underlying t=some (.slice E)) (htx:P.underlying tx=some (.int k)) (hi:P.info? E=some i) (hz:i.zero=some z) {n:Nat} (h0:0<n) (hs:0<i.size) (hb:n * i.bytes≤140737488355328) (h63:n≤9223372036854775807) :
  (Builtin.append_ #[t,tx] ty #[.slice none 0 0,.int .i64 (n:Nat)]).run P w = .ok (.slice (some ⟨w.heap.size,0,none⟩) n<|grownCap w n 0 E) (w.drew.alloc<|.cells (Builtin.zeroCells z.cells n++Builtin.zeroCells z.cells (grownCap w n 0 E - n)) E):=by
 have e1:IntKind.i64.wrap (n:Int)=(n:Int):=I64.wrap (by unfold I64; omega)
 have e2:¬ ((n:Int)<0):=by omega
 have e3:¬ (281474976710656<(n:Int) * (i.bytes:Nat)):=by
  have:=Int.ofNat_le.2 hb
  rw [Int.natCast_mul] at this
  omega
 have e4:Builtin.nextslicecap n 0=n:=by unfold Builtin.nextslicecap; rw [if_pos (by omega)]
 have e5:¬ (281474976710656<n * i.bytes):=by omega
 have e6:¬ n≤0:=by omega
 have e7:¬ (n=0∨i.size=0):=by omega
 have e8:¬ ((9223372036854775807:Int)<(n:Nat)):=by omega
 have e11:max (n:Int) 0=(n:Int):=by omega
 have e9:n≠0:=by omega
 have e10:i.size≠0:=by omega
 simp [Builtin.append_,run_underlying ht,run_underlying htx,sizeOf,typeInfo,zeroValue,hi,hz,asInt,asIntOf,e1,e2,e3,e4,e5,e6,e7,e8,e9,e10,e11,Builtin.firstCells,Question.forced,newRow,grownCap,IntKind.max,IntKind.signed,IntKind.bits]
 intro hq
 have:=Nat.mul_pos h0 hs
 omega
theorem st_apm {d : Nat} {t tx E ty : TypeId} {x y : Operand} {pos : String} {after : Array Edge} {k : IntKind} {z : Value} {sz bytes n : Nat} (hx : e.ev? x = some (.slice none 0 0)) (hy : e.ev? y = some (.int .i64 (n : Nat)))
  (ht:c.P.underlying t=some (.slice E)) (htx:c.P.underlying tx=some (.int k)) (hE:Inf c.P E z sz bytes) (hzs:z.cells.size=sz) (hsz:0<sz) (h0:0<n) (hb:n * bytes≤140737488355328) (h63:n≤9223372036854775807) (hd:d<c.n)
  (hnx:∀ b cp,n≤cp->St c ops K rest ((d,.slice (some ⟨b,0,none⟩) n cp)::e) (VR (.slice (some ⟨b,0,none⟩) n cp) E sz (List.replicate n z.cells.toList)::h)) :
  St c ops K (⟨some d,.call { callee:=.builtin .append,args := #[x,y],argTypes := #[t,tx] },ty,pos,after,none⟩::rest) e h :=
 eF (by simp) λa w hk hh hw=>by
  obtain ⟨i,hi,hz,hisz,hiby⟩:=hE.parts
  subst hisz hiby
  have hr:=yB (P:=c.P) (w:=w) ty ht htx hi hz h0 hsz hb h63
  simp only [execOp,resolve,invoke,builtin,hk.ev hx,hk.ev hy,Sem.run_bind,Sem.run_pure,Result.andThen_ok,List.map_toArray,List.map_cons,List.map_nil,hr]
  have hmax:maxLen=9223372036854775807:=rfl
  have hge:=grownCap_ge w n 0 E
  have hcm:grownCap w n 0 E≤maxLen:=grownCap_le_maxLen w n 0 E (by rw [hmax]; exact h63)
  have hH:Holds w.drew h:=Holds.grew hh<|Grew.drawn w _
  have hA:=Holds.alloc hH<|.cells (Builtin.zeroCells z.cells n++Builtin.zeroCells z.cells (grownCap w n 0 E - n)) E
  have hall:∀ r∈List.replicate n z.cells.toList,r.length=i.size:=λr hr=>by rw [List.eq_of_mem_replicate hr]; simpa using hzs
  have hobj:(Obj.cells (Builtin.zeroCells z.cells n++Builtin.zeroCells z.cells (grownCap w n 0 E - n)) E)=cl ([]++((List.replicate n z.cells.toList).flatten++(Builtin.zeroCells z.cells (grownCap w n 0 E - n)).toList)) E:=by
   simp only [cl,Obj.cells.injEq,and_true]
   apply Array.ext'
   simp [C8 hzs]
  rw [hobj] at hA ⊢
  refine hnx w.heap.size _ hge _ _ (hk.put _ hd) ⟨⟨hall,.inr ⟨w.heap.size,0,_,[],_,by rw [List.length_replicate],hA.1,Z,by rw [List.length_replicate]; exact hge,hcm,?_⟩⟩,λb ⟨o',m',cp',hv⟩=>?_,hA.2.2⟩<|hw.trans<|(Grew.drawn w _).toSame.trans (Grew.alloc _ _ Z).toSame
  ·have hzl:(Builtin.zeroCells z.cells (grownCap w n 0 E - n)).toList.length=(grownCap w n 0 E - n) * i.size:=by rw [Array.length_toList,size_zeroCells,hzs]
   rw [List.length_append,jk hall,List.length_replicate,hzl,<- Nat.add_mul]
   apply Nat.mul_le_mul_right; omega
  ·cases hv; exact hA.2.1 _ rfl
theorem kz {d:Nat} {f:Operand} {az:Array Operand} {ts:Array TypeId} {ty:TypeId} {pos:String} {after:Array Edge} {l:Nat} {vs:List Value} {r:Res} {R:Value->SH->Prop} {gu:Option (Nat×Bool)} {gd:Nat}
  (hgu:gu=none∨∃ g want,gu=some (g,want)/\((ops[g]?).bind (·.dst))=some gd/\e.get? gd=some (.bool want))
  (hv:e.ev? f=some (.func (.yield l) #[] #[])) (has:az.toList.mapM e.ev? = some vs) (yc:Yc c.P l vs.toArray [r] R)
  (hn:∀ v h',R v h'->St c ops K rest ((d,v)::e) (h'++hr))
  (pk:Pk h [r] hr:=by repeat (first | exact Pk.nil | (apply Pk.cons; (repeat (first | exact Sel.here | apply Sel.there))))) (hd:d<c.n:=by exact ltn rfl) :
  St c ops K (⟨some d,.call { callee:=.value f,args:=az,argTypes:=ts },ty,pos,after,gu⟩::rest) e h:=uU hgu hv has yc pk hd hn
end
end Go.Ck
namespace Go.Fl
open Go Go.RowKit Go.Ck Go.Proofs Go.Proofs.Tryz Go.Proofs.YtknmacdbffgjgaaGreatDoor Fx Go.Hr
def Yh (yl:Nat) (Φ : List Cf->Res->Prop) (Stop:Cf->Res->Prop):Prop:=∀ x rest r,Φ (x::rest) r->Yc prog yl #[cfV x] [r] λu h'=>(u = .bool true/\∃ r',Φ rest r'/\h'=[r'])∨(u = .bool false/\∃ r',Stop x r'/\h'=[r'])
def Yend (Φ : List Cf->Res->Prop) (Stop:Cf->Res->Prop) (R:List Cf) (u:Value) (r:Res):Prop:=(u = .bool true /\ Φ R r)∨(u = .bool false/\∃ x,Stop x r)
theorem rows_nm {Y:Res} {news:List (List Value)} {xs:List Nm} (h1:news.length=xs.length) (h2:∀ (i:Nat) us x,news[i]? = some us->xs[i]? = some x->Enc.rep Y us x):news=xs.map nC:=by
 refine List.ext_getElem (by rw [List.length_map,h1]) λi g1 g2=>?_
 rw [List.length_map] at g2
 have:news[i]=[sv (xs[i])]:=h2 i _ _ (Zy g1)<|Zy g2
 rw [this,List.getElem_map]; rfl
theorem eD {α β : Type} {f : α -> List β} {xs:List α} {i:Nat} (h:i<xs.length):(xs.drop i).flatMap f=f xs[i]++(xs.drop (i+1)).flatMap f:=by
 rw [List.drop_eq_getElem_cons h,List.flatMap_cons]
theorem dL {α β : Type} {f : α -> List β} {xs:List α}:(xs.drop xs.length).flatMap f=[]:=by rw [List.drop_length]; rfl
theorem kC {α β : Type} {f : α × Nat->List β} {xs:List α} {i:Nat} (h:i<xs.length):(xs.zipIdx.drop i).flatMap f=f (xs[i],i)++(xs.zipIdx.drop (i+1)).flatMap f:=by
 rw [eD Zo]
 simp
theorem mY {α β : Type} {f : α × Nat->List β} {xs:List α}:(xs.zipIdx.drop xs.length).flatMap f=[]:=by
 have:xs.zipIdx.drop xs.length=[]:=List.drop_eq_nil_of_le<|by simp
 rw [this]; rfl
theorem KN {α : Type} {ls:List (List α)} {i:Nat} (h:i<ls.length):(ls.take (i+1)).flatten=(ls.take i).flatten++ls[i]/\(ls.take i).flatten.length+(ls[i]).length≤ls.flatten.length:=by
 have h1:ls=ls.take i++ls[i]::ls.drop (i+1):=by rw [List.getElem_cons_drop,List.take_append_drop]
 have h2:=congrArg (λx=>x.flatten.length) h1
 simp only [List.flatten_append,List.flatten_cons,List.length_append] at h2
 refine ⟨by rw [List.take_succ_eq_append_getElem h,List.flatten_append,List.flatten_cons,List.flatten_nil,List.append_nil],by omega⟩
attribute [local irreducible] Go.Ck.Sub St Cd Xt Nx DrL LsW
section
variable {X Y:Res} {v v':Value} {us us':List Value}
theorem Je {n:Nat} (hb:n * 16≤1099511627776):CtN prog 260 #[.slice none 0 0,.int .i64 (n:Nat)] [] λu T=>u.oneCell'=true/\T=VR u 9 1 []:=by
 refine aL (n:=27) func260 Z Z (len Z) λhr w0=>?_
 refine cQ<|sA Z<|sN<|nT<|cS<|cQ<|sM Z<|sV (aN Z Z)<|sK [0,1,4,6] Z<|cC Z (λh1=>?_)<|λh1=>?_
 ·exfalso
  have:=of_decide_eq_true h1
  omega
 ·refine cK<|xT<|cS<|cQ<|sM Z<|sM Z<|sV (v_cap Z underlying40)<|sM Z<|sV (aF Z underlying40)<|sV (gG (show Value.int .i64 (0 - 0)=Value.int .i64 0 from Z)<|zn (a:=0) (b:=0) Z Z (by unfold I64; omega)) ?_
  refine sV (gG (show Value.int .i64 (((n:Nat):Int) - 0)=Value.int .i64 (n:Nat) by rw [Int.sub_zero])<|zn (a:=(n:Nat)) (b:=0) Z Z (by unfold I64; omega)) ?_
  refine sA Z<|sK [0,1,4] Z<|cQ<|sM Z<|sV (bW Z Z)<|sK [0,1,4,16] Z<|cC Z (λh2=>?_)<|λh2=>?_
  ·have hpos:0<n:=by have:=of_decide_eq_true h2; omega
   refine cR<|sM Z<|sM Z<|sV (v_cap Z underlying40)<|sV (vZ (hi:=0) Z Z iZ Z<|Nat.le_refl _)<|sM Z (st_apm Z Z underlying40 underlying3 fP Z (by decide) hpos (by omega) (by omega) (ltn Z) λb cp hcp=>?_)
   refine sM Z<|sV (aF Z underlying40)<|sV (j6 (hi:=0) Z Z iZ Z<|Nat.zero_le _)<|qp (yR (m:=0)<|Nat.zero_le _) ?_
   rw [List.take_zero]
   refine sA Z<|sK [0,4] Z<|cQ<|sM Z<|sA Z<|sK [4] Z<|cT ?_
   exact aj Z ⟨_,Z,Z,Z⟩ sbq
  ·refine cK<|xT<|cQ<|sM Z<|sA Z<|sK [4] Z<|cT<|jG (cZ 9 1) ?_
   exact aj Z ⟨_,Z,Z,Z⟩ sbq
theorem Ez {ls:List (List Nm)} (hv:Ls X v ls) (hb:ls.flatten.length * 16≤1099511627776):CtN prog 205 #[v] [X] λu T=>u.oneCell'=true/\T=NR u ls.flatten:=by
 have hml:maxLen=9223372036854775807:=rfl
 obtain ⟨a,cap,rfl,hlc,hcm,_⟩:=id hv.form
 refine aL (n:=36) func205 Z Z (len Z) λhr w0=>?_
 refine cQ<|sA Z<|sN<|nT<|cQ<|sA Z<|sN<|nT<|cS<|cQ<|sM Z<|sV (aF Z underlying325)<|sM Z ?_
 refine sN<|nT<|cB<|aW (σ := Nat) (λq=>[(0,.slice a ls.length cap),(3,.int .i64 ((ls.take q).flatten.length:Nat)),(9,.slice a ls.length cap),(10,.int .i64 ls.length),(11,.int .i64 (q:Nat))]) (λq=>X::hr) (λq=>q≤ls.length) (λq=>ls.length - q) 0 (Nat.zero_le _) ?_
 intro i hi
 dsimp only
 refine cQ<|sV (aN Z Z)<|sN<|nT<|cS<|cC Z (λhd=>?_)<|λhd=>?_
 ·have hlt:i<ls.length:=Zx
  obtain ⟨b,o,cap2,us,e1,hus,hrd,u1,rfl,hu1⟩:=hv.at<|Zy hlt
  cases e1
  have hrd1:Rd X ⟨b,o+i * 1,none⟩ u1:=hrd 0<|by simp
  obtain ⟨htk,hsz⟩:=KN hlt
  generalize ls[i]=xs at hu1 htk hsz
  obtain ⟨ua,uc,rfl,_⟩:=id hu1.form
  refine cK<|xT<|cS<|cB<|cQ<|sV (vI (k:=i) Z Z sl325 Z hlt Z)<|sV (vY Z fq (ha:=⟨_,_,slq,hrd1⟩)) ?_
  refine sA Z<|sK [0,3,5,9,10,11] Z<|cQ<|sM Z<|sM Z<|sV (aF Z underlying40)<|sV (aI Z Z Z0)<|sA Z<|sK [0,3,9,10,11] Z<|cQ<|sM Z<|sV (aN Z Z) ?_
  refine sK [0,3,9,10,11,20] Z<|cC Z (λhneg=>?_)<|λhneg=>?_
  ·exfalso
   have:=of_decide_eq_true hneg
   omega
  ·refine cK<|xB<|xT<|cR<|sV (aI Z Z Z0)<|sM Z<|sN<|nK [0,3,9,10,11] Z<|ax ?_
   rw [show (((ls.take i).flatten.length:Nat):Int)+(xs.length:Nat)=(((ls.take (i+1)).flatten.length:Nat):Int) by rw [htk,List.length_append]; omega]
   refine aM (i+1) hlt (by show _ - _<_ - _; omega)
 ·have hie:i=ls.length:=by
   have:¬ i<ls.length:=Zx
   omega
  subst hie
  rw [List.take_length]
  refine aC<|xE<|xE<|xY<|xT<|cQ<|sM Z<|aJ Z Z en260 Z (Je hb) ?_
  rintro u h' ⟨T,rfl,hu,rfl⟩
  simp only [lC,lN]
  refine sA Z<|sK [0,6] Z<|cS<|cQ<|sM Z<|sV (aF Z underlying325)<|sM Z<|sK [6,25,26,27] Z<|cB<|aW (σ := Value×Nat) (λq=>[(6,q.1),(25,.slice a ls.length cap),(26,.int .i64 ls.length),(27,.int .i64 (q.2:Nat))]) (λq=>VR q.1 9 1 ((ls.take q.2).flatten.map nC)::X::hr) (λq=>q.2≤ls.length/\q.1.oneCell'=true) (λq=>ls.length - q.2) (u,0) ⟨Nat.zero_le _,hu⟩ ?_
  rintro ⟨w,i⟩ ⟨hi,hw⟩
  simp only at hi hw
  dsimp only
  refine cQ<|sV (aN Z Z)<|sN<|nT<|cS<|cC Z (λhd2=>?_)<|λhd2=>?_
  ·have hlt:i<ls.length:=Zw
   obtain ⟨b,o,cap2,us,e1,hus,hrd,u1,rfl,hu1⟩:=hv.at<|Zy hlt
   cases e1
   have hrd1:Rd X ⟨b,o+i * 1,none⟩ u1:=hrd 0<|by simp
   obtain ⟨htk,hsz⟩:=KN hlt
   generalize ls[i]=xs at hu1 htk hsz
   obtain ⟨ua,uc,rfl,_⟩:=id hu1.form
   refine cK<|xT<|cS<|cB<|cQ<|sV (vI (k:=i) Z Z sl325 Z hlt Z)<|sV (vY Z fq (ha:=⟨_,_,slq,hrd1⟩)) ?_
   refine sA Z<|sK [6,8,25,26,27] Z<|cR<|sM Z<|sM Z (rH hu1.1 Z Z underlying40 fP Z (by decide) (show Sel _ (VR w 9 1<|(ls.take i).flatten.map nC) _ from slq) (show Sel _ X _ from slq) (λus x _ hr u hu=>List.all_eq_true.1 (Enc.ones hr) u hu) (by rw [List.length_map]; omega) (by rw [List.length_map]; omega) (ltn Z) λw2 news hw2 hn1 hn2 hn3=>?_)
   rw [rows_nm hn1 hn3,<- List.map_append,<- htk]
   refine sA Z<|sN<|nK [6,25,26,27] Z<|ax<|xB<|xT<|cR<|sV (aI Z Z Z0)<|sM Z<|sN<|nK [6,25,26,27] Z<|ax ?_
   refine aM (w2,i+1) ⟨hlt,hw2⟩ (by dsimp only; omega)
  ·have hie:i=ls.length:=by
    have:¬ i<ls.length:=Zw
    omega
   subst hie
   rw [List.take_length]
   refine aC<|xE<|xE<|xY<|xT<|cQ<|sM Z<|sA Z<|sK [2] Z<|cT ?_
   exact aj Z ⟨_,Z,hw,Z⟩ sbq
end
end Go.Fl
