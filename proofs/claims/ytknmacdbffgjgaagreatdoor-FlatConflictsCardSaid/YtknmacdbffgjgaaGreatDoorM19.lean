/-
  Go's library: strings.Join at names,by the kit's contract laid at this program. Conditions: the result's length.
-/
import Derived.Test.YtknmacdbffgjgaaGreatDoorM18
import Derived.Test.YtknmacdbffgjgaaGreatDoorM9
import Derived.Test.YtknmacdbffgjgaaGreatDoorM11
import Derived.Shelf.Strings.OnBuilder
set_option linter.unusedVariables false
set_option linter.unusedSimpArgs false
set_option maxRecDepth 100000
set_option maxHeartbeats 16000000
namespace Go.Fl
open Go Go.RowKit Go.Ck Go.Proofs Go.Proofs.Tryz Go.Proofs.YtknmacdbffgjgaaGreatDoor Fx Go.Hr
theorem Ke {S:Res} {α β : Type} {sz:Nat} {X:List Value → α → Prop} {Y:List Value → β → Prop} {g : α → β} {v:Value} {l:List α} (h:Row S sz X v l) (hx:∀ us x,X us x→Y us (g x)):Row S sz Y v (l.map g):=by
 obtain ⟨a,cap,h1,h2,h3,h4,h5⟩:=h
 refine ⟨a,cap,by rw [h1,List.length_map],by rw [List.length_map]; exact h2,h3,h4,fun i y hi=>?_⟩
 rw [List.getElem?_map] at hi
 obtain ⟨x,hx1,rfl⟩:=Option.map_eq_some_iff.1 hi
 obtain ⟨b,o,us,g1,g2,g3,g4⟩:=h5 i x hx1
 exact ⟨b,o,us,g1,g2,g3,hx _ _ g4⟩
theorem xe {X:Res} {v:Value} {l:FS} (h:Ls X v l):lU X v (bn l):=Ke h.1 fun us c hc=>by
 have ho:=Enc.ones hc
 obtain ⟨a,b,e,f,i,rfl,h1,h2,h3,h4,h5⟩:=hc
 obtain ⟨fa,fc,rfl,_⟩:=id h4.form
 exact ⟨.bool c.dfd,a,b,e,fa,fc,i,Z,ho,Ke h2.1 fun us p hp=>by
  have ho:=Enc.ones hp
  obtain ⟨x1,x2,x3,x4,x5,rfl,_⟩:=hp
  exact ⟨x1,x2,x3,x4,x5,Z,ho⟩⟩
attribute [local irreducible] Go.Ck.Sub St Cd Xt Nx DrL LsW
section
variable {X Y:Res} {v v':Value} {us us':List Value}
def Em (l:FS) (a:Nm):Option Grp:=if (ae l a).inv=[] then none else some ⟨a,(ae l a).inv⟩

theorem Kg {l : FS} {c : FC} {ms : List Mb} {fv mv : Value} {uc : List Value} (hl : Ls X v l) (hc : Enc.rep X uc c) (hm : Ls X mv ms) (hfv : fv.oneCell' = true) (hR : dI (bn l) [c.name] = 0) (hb : (above (bn l) c.name).length ≤ 1099511627776) :
  CtX prog 60 #[.agg #[v,fv],.agg uc.toArray,mv] X [] fun u Y k'=>k'=[]∧∃ us',u = .agg us'.toArray∧Enc.rep Y us' (flatOf l c ms):=by
 have hml:maxLen=9223372036854775807:=rfl
 have hrb:reachBytes=140737488351232:=rfl
 have hab:=Fh (xe hl) c.name
 rw [hR] at hab
 rw [show okL 0 (above (bn l) c.name)=above (bn l) c.name from rfl] at hab
 have hfo:flatOf l c ms={ name:=c.name,dfd:=c.dfd,mems:=ms,inv:=(above (bn l) c.name).filterMap (Em l) }:=rfl
 rw [hfo]
 generalize above (bn l) c.name=xs at hab hb ⊢
 obtain ⟨ca,cb,ce,cf,ci,rfl,hca,hcb,hce,hcf,hci⟩:=gq hc
 obtain ⟨ma,mk,rfl,_⟩:=id hm.form
 unfold CtX
 refine aL (n:=50) func60 Z Z (len Z) fun hr w0=>?_
 refine cQ (aV Z Z fun b3=>?_)
 refine aV Z Z fun b4=>?_
 refine au al55 fun b6=>?_
 refine sN (nK9 [2,3,4,6] Z (nT (cQ (sV (vF Z dH Z) (sV (vY Z ld9) ?_)))))
 refine sV (vF Z MU Z) (sV (vY Z ld4) ?_)
 refine sM Z (sV (aN (cells:=[sv c.name,.bool c.dfd,.slice ma ms.length mk,.slice none 0 0]) Z (fun _=>by kernel_rfl)) ?_)
 refine au al55 fun b7=>?_
 refine ai Z Z EN Z Z ?_
 refine sN (nK9 [3,4,6,7] Z (nT (cQ (sV (vF Z Jw Z) (sV (vY Z ld22) ?_)))))
 refine sV (vF Z dH Z) (sV (vY Z ld9) ?_)
 refine aH Z Z en41 Z (hab) ?_
 rintro u h' ⟨T,rfl,w,rfl,hw,rfl⟩
 simp only [lC,lN]
 refine sM Z (sV (ah Z Z) (sV (ah Z Z) (sV (vA9 Z) (sV (vA9 Z) (sN (nK9 [3,6,7,8] Z (nT (cS (cS ?_)))))))))
 unfold NR
 refine fV (v:=w) (E:=9) (sz:=1) (rows:=xs.map nC) slq fun wa wc hwf hwl hwm=>?_
 rw [List.length_map] at hwf hwl
 subst hwf
 refine dK (cz 170 2) (cR (sM Z (sV (aF Z underlying40) (sM Z (sN (nK9 [3,6,7,27,28,29] Z (nT (cB (aZ (σ := Value×List (List Value)×Nat) (fun q=>[(3,.pointer (some ⟨b3,0,none⟩)),(6,.pointer (some ⟨b6,0,none⟩)),(7,.pointer (some ⟨b7,0,none⟩)),(27,.slice wa xs.length wc),(28,.int .i64 xs.length),(29,.int .i64 (q.2.2:Nat))]) (fun q=>pt b7 (cl [sv c.name,.bool c.dfd,.slice ma ms.length mk,q.1] 55)::VR q.1 170 2 q.2.1::VR (.slice wa xs.length wc) 9 1 (xs.map nC)::pt b6 (cl [.string ⟨#[]⟩,.bool false,.slice none 0 0,.slice none 0 0] 55)::pt b3 (cl [v,fv] 114)::X::hr) (fun q=>q.2.2≤xs.length∧q.1.oneCell'=true∧Rws X q.2.1 ((xs.take q.2.2).filterMap (Em l))) (fun q=>xs.length - q.2.2) (.slice none 0 0,[],0) ⟨Nat.zero_le _,Z,Rws.nil⟩ ?_)))))))))
 rintro ⟨iw,rows,i⟩ ⟨hi,hiw,hro⟩
 simp only at hi hiw hro
 dsimp only
 refine cQ (sV (aO Z Z) (sN (nT (cS (cC Z (fun hd=>?_) (fun hd=>?_))))))
 ·have hlt:i<xs.length:=by simpa using hd
  have htk:=bV hlt
  have hrl:rows.length≤i:=by
   rw [hro.1]
   have:=List.length_filterMap_le (Em l) (xs.take i)
   rw [List.length_take] at this
   omega
  have hnx:(xs.map nC)[i]? = some [sv xs[i]]:=by rw [List.getElem?_map,List.getElem?_eq_getElem hlt]; rfl
  refine fI (r:=VR (.slice wa xs.length wc) 9 1 (xs.map nC)) slq fun hok=>?_
  obtain ⟨ab,ao,rfl⟩:∃ ab ao,wa=some ⟨ab,ao,none⟩:=by
   obtain ⟨f0,hf0⟩:=hok
   rcases VR.form hf0 with ⟨h3,h4⟩ | ⟨b,o,cp,h3,-⟩
   ·have:=List.map_eq_nil_iff.1 h4
    subst this; simp at hlt
   ·rw [List.length_map] at h3; cases h3; exact ⟨b,o,rfl⟩
  generalize hxi:xs[i]=x at hnx htk
  have hcc:=lI (n:=x) (fv:=fv) hl hfv
  refine cK9 (xT (cS (cB (cQ (sV (vI (k:=i) Z Z jh Z hlt Z) (sV (vY Z ld9 (ha:=⟨_,_,slq,eQ hnx 0 (by simp)⟩)) ?_))))))
  refine sV (vA9 Z) (sN (nK9 [3,6,7,11,27,28,29] Z (nT (cQ (sV (ag Z gT Z af) ?_)))))
  refine sM Z (aH Z Z en56 Z (hcc) ?_)
  rintro u h' ⟨rfl,cus,rfl,hcr⟩
  simp only [lC,lN]
  obtain ⟨fa,fb,fc,fd,fe,rfl,-,-,-,-,hfi⟩:=gq hcr
  obtain ⟨fA,fK,rfl,_⟩:=id hfi.form
  refine sV (iF (k:=6) Z underlying44 Z isAgg42 Z) (sV (vA9 Z) (sN (nK9 [3,6,7,11,12,27,28,29] Z (nT (cQ (sM Z (sV (aF Z underlying42) (sV (bZ Z Z) (sN (nK9 [3,6,7,11,12,27,28,29,39] Z (nT (cC Z (fun hpos=>?_) (fun hpos=>?_)))))))))))))
  ·have hne:¬ (ae l x).inv=[]:=fun e=>by rw [e] at hpos; simp at hpos
   have hinv:Em l x=some ⟨x,(ae l x).inv⟩:=by unfold Em; rw [if_neg hne]
   refine cR (sV (vF Z DD Z) (sV (vY Z zW) ?_))
   refine sM Z (sM Z (sV (aN (cells:=[sv x,.slice fA (ae l x).inv.length fK]) Z (fun _=>by kernel_rfl)) ?_))
   refine ak (cells:=[sv x,.slice fA (ae l x).inv.length fK]) Z underlying53 mO Z Z (by kernel_rfl) (ltn Z) fun b45=>?_
   refine dU [[sv x,.slice fA (ae l x).inv.length fK]] Z Z underlying53 mO Z (by decide) (show Sel _ (VR iw 170 2 rows) _ from slq) (by simp) Z (fun j u2 hu2=>bP (bU (by simpa using hu2))) (by simp [sv,Value.oneCell']) (by omega) (by omega) (ltn Z) fun w2 hw2 _=>?_
   refine sV (vF Z DD Z) (aX Z Z mM ?_)
   refine sN (nK9 [3,6,7,27,28,29] Z (ax (xB (xT (cR (sV (aI Z Z (by unfold I64 at *; omega)) (sM Z (sN (nK9 [3,6,7,27,28,29] Z (ax ?_))))))))))
   refine aJ (w2,rows++[[sv x,.slice fA (ae l x).inv.length fK]],i+1) ⟨hlt,hw2,by rw [htk,List.filterMap_append]; simp only [List.filterMap_cons,hinv,List.filterMap_nil]; exact hro.snoc ⟨_,Z,hfi⟩⟩ (by dsimp only; omega)
  ·have hne:(ae l x).inv=[]:=by simpa using hpos
   have hinv:Em l x=none:=by unfold Em; rw [if_pos hne]
   refine cK9 (xB (xT (cR (sV (aI Z Z (by unfold I64 at *; omega)) (sM Z (sN (nK9 [3,6,7,27,28,29] Z (ax ?_))))))))
   refine aJ (iw,rows,i+1) ⟨hlt,hiw,by rw [htk,List.filterMap_append]; simp only [List.filterMap_cons,hinv,List.filterMap_nil,List.append_nil]; exact hro⟩ (by dsimp only; omega)
 ·have hie:i=xs.length:=by
   have:¬ i<xs.length:=by simpa using hd
   omega
  subst hie
  rw [List.take_length] at hro
  refine aB (xE (xE (xY (xT (cQ (sV (ag Z ld55 Z af) ?_))))))
  have hone2:([sv c.name,.bool c.dfd,.slice ma ms.length mk,iw]:List Value).all Value.oneCell'=true:=by simp only [List.all_cons,List.all_nil,hiw,Bool.and_true,Bool.true_and]; rfl
  refine ai Z Z EN Z hone2 ?_
  refine sN (nK9 [6] Z (nT (cT ?_)))
  have hil:(xs.filterMap (Em l)).length * 40≤reachBytes:=by
   have:=List.length_filterMap_le (Em l) xs
   omega
  refine dS (r:=VR iw 170 2 rows) slq fun hok=>?_
  refine iy [VR iw 170 2 rows] X fun Y2 hE2 hsel=>?_
  exact bC (.cellN Z ld55 Z slq .nil) ⟨Y2,[],Z,hE2,Z,_,Z,_,_,Z,hm.up hE2,Rws.ls (E:=170) (hro.up hE2) hok (hsel _ _ .here) hil⟩ sbr
end
end Go.Fl
namespace Go.Fl
open Go Go.RowKit Go.Ck Go.Proofs Go.Proofs.Tryz Go.Proofs.YtknmacdbffgjgaaGreatDoor Fx Go.Hr
theorem Gi {c:Cx} {ex:Exit} {Q:Exit→Act→World→Prop} {e:Env} {h h':SH} {mb ib:Nat} {m left:List (Bs×Value)} {last:Option (Bs×Value)} (s:Sel h (xz mb ib m left last) h') (hx:Xt c ex Q e (mps mb m::h')):Xt c ex Q e h:=fun a w hk hh hw=>by
 have hh':=hh.sel s
 obtain ⟨_,es,ck,seen,g1,g2,hB,_⟩:=hh'.1
 exact hx a w hk ⟨⟨es,ck,g1,g2,hB⟩,fun b hb=>hh'.2.1 b (.inl hb),hh'.2.2⟩ hw
attribute [local irreducible] Go.Ck.Sub St Cd Xt Nx DrL LsW
section
variable {X Y:Res} {v v':Value} {us us':List Value}
theorem Lv {σ : Type} {b1 bm yl : Nat} {m : List (Nm × Value)} (Inv : σ → SH) (Φ : List Nm → σ → Prop) (s0 : σ) (h0 : Φ [] s0) (hy : ∀ (ds : List Nm) (k : Nm) (s : σ), ds.length < m.length → Φ ds s → Yc prog yl #[sv k] (Inv s) fun u h' => u = .bool true ∧ ∃ s', Φ (ds ++ [k]) s' ∧ h' = Inv s') :
  Ct prog 266 #[.func (.yield yl) #[] #[],.pointer (some ⟨b1,0,none⟩)] (pt b1 (cl [.map (some bm)] 188)::mps bm m::Inv s0) fun u h'=>u = .tuple #[]∧∃ ds s,ds.Perm (m.map fun p=>p.1) ∧ Φ ds s∧h'=pt b1 (cl [.map (some bm)] 188)::mps bm m::Inv s:=by
 refine aL (n:=14) func266 Z Z (len Z) fun hr w0=>?_
 refine cQ (sV (vY Z qC) ?_)
 refine AY Z rV slq (ltn Z) fun ib hnd=>?_
 refine sN (nK9 [0,5] Z (nT (cB (aZ (σ := List Nm×List (Nm×Value)×Option (Nm×Value) × σ) (fun q=>[(0,.func (.yield yl) #[] #[]),(5,.pointer (some ⟨ib,0,none⟩))]) (fun q=>xz bm ib m q.2.1 q.2.2.1::pt b1 (cl [.map (some bm)] 188)::(Inv q.2.2.2++hr)) (fun q=>(q.1++q.2.1.map fun p=>p.1).Perm (m.map fun p=>p.1) ∧ Φ q.1 q.2.2.2) (fun q=>q.2.1.length) ([],m,none,s0) ⟨by simp,h0⟩ ?_))))
 rintro ⟨ds,left,last,s⟩ ⟨hds,hΦ⟩
 simp only at hds hΦ
 dsimp only
 refine cQ (CP Z slq (ltn Z) (fun hl0=>?_) (fun k v1 left' hp=>?_))
 ·subst hl0
  rw [List.map_nil,List.append_nil] at hds
  refine sV (ah Z Z) (sN (nK9 [0,5,7] Z (nT (cS (aG Z ?_)))))
  refine aB (xE (xE (xY (Gi slq ?_))))
  refine Ca (k:=pt b1 (cl [.map (some bm)] 188)::mps bm m::(Inv s++hr)) (.swap _ _ _) ?_
  exact zR Z ⟨Z,ds,s,hds,hΦ,Z⟩ sbq
 ·refine sV (ah Z Z) (sN (nK9 [0,5,7] Z (nT (cS (aT Z ?_)))))
  refine cK9 (xT (cB (cQ (sV (CQ Z slq) ?_))))
  have hlen:ds.length<m.length:=by
   have h1:=hds.length_eq
   have h2:=hp.length_eq
   simp only [List.length_append,List.length_map,List.length_cons] at h1 h2
   omega
  have hyy:=hy ds k s hlen hΦ
  refine sV (ah Z Z) (sV (vA9 Z) (sN (nK9 [0,3,5] Z (nT (cQ (sM Z (sM Z (uC (gd:=0) (.inl Z) Z Z hyy (Pk.of (hr:=xz bm ib m left' (some (k,v1))::pt b1 (cl [.map (some bm)] 188)::hr) (by exact List.perm_append_comm_assoc [xz bm ib m left' (some (k,v1)),pt b1 (cl [.map (some bm)] 188)] (Inv s) hr)) (ltn Z) ?_))))))))
  rintro u h' ⟨rfl,s2,hΦ2,rfl⟩
  refine sV (bi Z) (sN (nK9 [0,5,13] Z (nT (aG Z ?_))))
  refine cK9 (xB (Ca (k:=xz bm ib m left' (some (k,v1))::pt b1 (cl [.map (some bm)] 188)::(Inv s2++hr)) (by exact List.perm_append_comm_assoc (Inv s2) [xz bm ib m left' (some (k,v1)),pt b1 (cl [.map (some bm)] 188)] hr) ?_))
  refine aJ (ds++[k],left',some (k,v1),s2) ⟨by rw [List.append_assoc]; exact ((hp.map fun p=>p.1).append_left ds).symm.trans hds,hΦ2⟩ (by dsimp only; rw [hp.length_eq,List.length_cons]; omega)
theorem en266:Ck.Enters prog 266:=enters_of func266 (by kernel_rfl) rfl
theorem Lx {b1 bm:Nat} {m:List (Nm×Value)} (hb:m.length * 16≤1099511627776):Ct prog 294 #[.slice none 0 0,.func (.func 266) #[] #[.pointer (some ⟨b1,0,none⟩)]] [pt b1 (cl [.map (some bm)] 188),mps bm m] fun u h'=>∃ ds,ds.Perm (m.map fun p=>p.1)∧u.oneCell'=true∧h'=[NR u ds,pt b1 (cl [.map (some bm)] 188),mps bm m]:=by
 have hml:maxLen=9223372036854775807:=rfl
 refine qw (n:=13) func294 Z Z (len Z) fun hr w0=>?_
 refine cQ (aV Z Z fun b2=>?_)
 refine sV (vA9 Z) (sN (nK9 [1,2,4] Z (nT (cS (cQ (sM Z (sN (nK9 [2,4,6] Z (nT (cB (dK (cz 9 1) (iU Z en266 fun yl db rec hst hpe hps hasg hbo hkn2=>?_))))))))))))
 refine ⟨_,Ct.perm (Lv (σ := Value×List Nm) (b1:=b1) (bm:=bm) (yl:=yl) (m:=m) (fun q=>pt yl (.loop rec)::pt db (.deferred (some []))::pt b2 (cl [q.1] 40)::NR q.1 q.2::hr) (fun ds q=>q.2=ds∧q.1.oneCell'=true) (.slice none 0 0,[]) ⟨Z,Z⟩ ?_) ?_,?_⟩
 ·rintro ds k ⟨w,xs⟩ hlt ⟨rfl,hw⟩
  dsimp only at hlt hw ⊢
  unfold NR
  refine Yc.perm (qo (n:=13) (rec:=rec) (args:=[sv k]) (hf:=pt db (.deferred (some []))::pt b2 (cl [w] 40)::VR w 9 1 (xs.map nC)::hr) (by rw [hps]; rfl) hkn2 (by rw [hps]; decide) ?_) (by exact (by repeat (first | exact Pm.refl | refine Pm.cons slq ?_):Pm _ _).perm)
  intro hr2 w1
  rw [hasg,hps,hbo]
  simp only [lC,lN]
  refine cR (sV (vA9 Z) (sN (nK9 [2,4,5] Z (ax (kY Z slq (by first | rfl | assumption) ?_)))))
  refine cB (cR (sV (vY Z fH) ?_))
  refine sM Z (ak (cells:=[sv k]) Z underlying40 fG Z Z (by kernel_rfl) (ltn Z) fun b10=>?_)
  refine dU [[sv k]] Z Z underlying40 fG Z (by decide) (show Sel _ (VR w 9 1 (xs.map nC)) _ from slq) (by simp) Z (fun j u2 hu2=>bP (bU (by simpa using hu2))) (by simp [sv,Value.oneCell']) (by rw [List.length_map]; omega) (by rw [List.length_map]; omega) (ltn Z) fun w2 hw2 _=>?_
  rw [show xs.map nC++[[sv k]]=(xs++[k]).map nC by simp [nC]]
  refine aX Z Z yQ ?_
  refine sN (nK9 [4] Z (ax (xB (dn slq ⟨Z,(w2,xs++[k]),⟨Z,hw2⟩,Z⟩ ?_))))
  rw [dx hst hpe]
  exact sbq
 ·simp only [lC,lN]
  exact (by repeat (first | exact Pm.refl | refine Pm.cons slq ?_):Pm _ _).perm
 ·rintro u h' ⟨rfl,ds,⟨w,xs⟩,hds,⟨rfl,hw⟩,rfl⟩
  dsimp only at hw ⊢
  refine ⟨rec,_,slq,(by rw [hst]; simp),?_⟩
  rw [hpe]
  dsimp only
  refine xB (xT (cQ (sV (vY Z fH) ?_)))
  refine sV (vA9 Z) (sN (nK9 [4] Z (nT (cT ?_))))
  exact jN (bs:=[db]) Z Z ⟨xs,hds,hw,Z⟩ sbq
theorem tQ {bm:Nat}:Ct prog 213 #[.map (some bm)] [] fun u h'=>∃ b1,u = .func (.func 266) #[] #[.pointer (some ⟨b1,0,none⟩)]∧h'=[pt b1 (cl [.map (some bm)] 188)]:=by
 refine aL (n:=4) func213 Z Z (len Z) fun hr w0=>?_
 refine cQ (aV Z Z fun b1=>?_)
 refine sV (vA9 Z) (sN (nK9 [1,2] Z (nT (cQ (sV (bY Z Z) (sV (vA9 Z) (sN (nK9 [2] Z (nT (cT ?_))))))))))
 exact aj Z ⟨_,Z,Z⟩ sbq
theorem Bu {b1 bm:Nat} {m:List (Nm×Value)} (hb:m.length * 16≤1099511627776):Ct prog 264 #[.func (.func 266) #[] #[.pointer (some ⟨b1,0,none⟩)]] [pt b1 (cl [.map (some bm)] 188),mps bm m] fun u h'=>∃ ds,ds.Perm (m.map fun p=>p.1)∧u.oneCell'=true∧h'=[NR u ds,pt b1 (cl [.map (some bm)] 188),mps bm m]:=by
 refine aL (n:=5) func264 Z Z (len Z) fun hr w0=>?_
 refine cQ (sV (vA9 Z) (sN (nT (cQ (sM Z (aH Z Z en294 Z (Lx hb) ?_))))))
 rintro u h' ⟨ds,hds,hu,rfl⟩
 simp only [lC,lN]
 refine sV (vA9 Z) (sN (nK9 [2] Z (nT (cT ?_))))
 exact aj Z ⟨ds,hds,hu,Z⟩ sbq
theorem o7 {b1 bm:Nat} {m:List (Nm×Value)} (hb:m.length * 16≤1099511627776) (hn:(m.map fun p=>p.1).Nodup):Ct prog 212 #[.func (.func 266) #[] #[.pointer (some ⟨b1,0,none⟩)]] [pt b1 (cl [.map (some bm)] 188),mps bm m] fun u h'=>u.oneCell'=true∧h'=[NR u (srt (m.map fun p=>p.1)),pt b1 (cl [.map (some bm)] 188),mps bm m]:=by
 refine aL (n:=9) func212 Z Z (len Z) fun hr w0=>?_
 refine cQ (sV (vA9 Z) (sN (nT (cQ (sM Z (aH Z Z en264 Z (Bu hb) ?_))))))
 rintro u h' ⟨ds,hds,hu,rfl⟩
 simp only [lC,lN]
 have hnd:=hds.nodup_iff.2 hn
 have hdl:ds.length≤1099511627776:=by rw [hds.length_eq,List.length_map]; omega
 have hsr:srt ds=srt (m.map fun p=>p.1):=(iC ds).1.ext (iC _).1 fun x=>by rw [(iC ds).2,(iC _).2,hds.mem_iff]
 refine sV (vA9 Z) (sN (nK9 [2,3] Z (nT (cQ (sM Z (aH Z Z en265 Z (Sort_ct hnd hdl) ?_))))))
 rintro u2 h' ⟨rfl,rfl⟩
 simp only [lC,lN]
 rw [hsr]
 refine sN (nK9 [2,3] Z (nT (cQ (sM Z (sV (vA9 Z) (sN (nK9 [2] Z (nT (cT ?_)))))))))
 exact aj Z ⟨hu,Z⟩ sbq
end
section
variable {X Y:Res} {v v':Value} {us us':List Value}
def eU (v fv:Value) (c:FC) (ca cb ce cf ci:Value) (mv bv:Value) (all:Bool):List Value:=[v,fv,sv c.name,.bool c.dfd,ca,cb,ce,cf,ci,mv,bv,.bool all]
theorem fM {fv:Value} {c:FC} {ca cb ce cf ci mv bv:Value} {all:Bool} (k:Int) (n:Nm) (a b:Og):Ct prog 204 #[.agg (eU v fv c ca cb ce cf ci mv bv all).toArray,.int .i64 k,sv n,.agg #[sv a.par,sv a.name],.agg #[sv b.par,sv b.name]] [] fun u h'=>u=cfV ⟨k,c.name,n,[],a,b⟩∧h'=[]:=by
 unfold eU cfV cfC
 refine aL (n:=19) func204 Z Z (len Z) fun hr w0=>?_
 refine cQ (aV Z Z fun b5=>?_)
 refine aV Z Z fun b8=>?_
 refine aV Z Z fun b9=>?_
 refine au Bo fun b10=>?_
 refine sN (nK9 [1,2,5,8,9,10] Z (nT (cQ (sM Z (sV (vF Z gM Z) (sV (vF Z dH Z) (sV (vY Z ld9) ?_)))))))
 refine sM Z (sV (ag Z pY Z af) ?_)
 refine sV (ag Z pY Z af) ?_
 refine sV (aN (cells:=[.int .i64 k,sv c.name,sv n,sv [],sv a.par,sv a.name,sv b.par,sv b.name]) Z (fun _=>by kernel_rfl)) ?_
 refine ai Z Z uL Z Z ?_
 refine sN (nK9 [10] Z (nT (cT ?_)))
 exact bC (.cellN Z qy Z slq .nil) ⟨Z,Z⟩ sbr
theorem NV {β : Type} (f:Mb→List β) {l:List Mb} {i:Nat} (h:i<l.length):((l.take i).flatMap f).length+(f l[i]).length≤(l.flatMap f).length:=by
 have h1:l=l.take i++l[i]::l.drop (i+1):=by rw [List.getElem_cons_drop,List.take_append_drop]
 have h2:=congrArg (fun x=>(x.flatMap f).length) h1
 simp only [List.flatMap_append,List.flatMap_cons,List.length_append] at h2
 omega
theorem yH {ms:List Mb} (hv:Ls X v ms) (hb:(ms.flatMap fun m=>m.seeds).length * 32≤1099511627776):Ct prog 219 #[v] [X] fun u h'=>u.oneCell'=true∧h'=[VR u 69 2 ((qM (ms.flatMap fun m=>m.seeds)).map sdC),X]:=by
 have hml:maxLen=9223372036854775807:=rfl
 obtain ⟨a,cap,rfl,hlc,hcm,_⟩:=id hv.form
 refine aL (n:=21) func219 Z Z (len Z) fun hr w0=>?_
 refine cQ (sV (vA9 Z) (sN (nT (cQ (sV (vA9 Z) (sN (nT (cS (cQ (sM Z (sV (aF Z underlying52) (sM Z ?_))))))))))))
 refine sN (nK9 [2,3,6,7,8] Z (nT (cB (dK (cz 69 2) (aZ (σ := Value×Nat) (fun q=>[(3,q.1),(6,.slice a ms.length cap),(7,.int .i64 ms.length),(8,.int .i64 (q.2:Nat))]) (fun q=>VR q.1 69 2 (((ms.take q.2).flatMap fun m=>m.seeds).map sdC)::X::hr) (fun q=>q.2≤ms.length∧q.1.oneCell'=true) (fun q=>ms.length - q.2) (.slice none 0 0,0) ⟨Nat.zero_le _,Z⟩ ?_)))))
 rintro ⟨w,i⟩ ⟨hi,hw⟩
 simp only at hi hw
 dsimp only
 refine cQ (sV (aO Z Z) (sN (nT (cS (cC Z (fun hd=>?_) (fun hd=>?_))))))
 ·have hlt:i<ms.length:=by simpa using hd
  obtain ⟨b,o,cap2,us,e1,hus,hrd,hre⟩:=hv.at (List.getElem?_eq_getElem hlt)
  cases e1
  have hS:=NV (fun m=>m.seeds) hlt
  have htk:=bV hlt
  generalize ms[i]=x at hre hS htk
  have hone:=Enc.ones hre
  obtain ⟨x2,x5,xy,x11,x12,x13,rfl,hx2,-⟩:=dJ hre
  obtain ⟨ax2,kx2,rfl,_⟩:=id hx2.form
  unfold ik at *
  have hfm:(ms.take (i+1)).flatMap (fun m=>m.seeds)=(ms.take i).flatMap (fun m=>m.seeds)++x.seeds:=by rw [htk]; simp
  refine cK9 (xT (cS (cB (cQ (sV (vI (k:=i) Z Z pW Z hlt Z) (sV (ag Z fB Z hrd) ?_))))))
  refine au jQ fun b5=>?_
  refine ai Z Z iD Z hone ?_
  refine sN (nK9 [3,5,6,7,8] Z (nT (cR (sM Z (sV (vF Z eO Z) (sV (vY Z qz) ?_))))))
  refine qW hx2.1 Z Z underlying67 BX Z (by decide) (show Sel _ (VR w 69 2 (((ms.take i).flatMap fun m=>m.seeds).map sdC)) _ from slq) (show Sel _ X _ from slq) (fun us x _ hr u hu=>List.all_eq_true.1 (Enc.ones hr) u hu) (by rw [List.length_map]; omega) (by rw [List.length_map]; omega) (ltn Z) fun w2 news hw2 hn1 hn2 hn3=>?_
  rw [Ka hn1 hn3,← List.map_append,← hfm]
  refine sV (vA9 Z) (sN (nK9 [3,6,7,8] Z (ax (xB (xT (cR (sV (aI Z Z (by unfold I64 at *; omega)) (sM Z (sN (nK9 [3,6,7,8] Z (ax ?_)))))))))))
  refine aJ (w2,i+1) ⟨hlt,hw2⟩ (by dsimp only; omega)
 ·have hie:i=ms.length:=by
   have:¬ i<ms.length:=by simpa using hd
   omega
  subst hie
  have hjs:(ms.flatMap fun m=>m.seeds).length≤1099511627776:=by omega
  rw [List.take_length]
  refine aB (xE (xE (xY (xT (cQ (sM Z (aH Z Z en197 Z (AP hjs) ?_)))))))
  rintro u h' ⟨rfl,ys,hperm,hcs,rfl⟩
  simp only [lC,lN]
  refine sN (nK9 [3] Z (nT (cQ (sM Z (aH Z Z en199 Z (AQ (xs:=ys)) ?_)))))
  rintro u h' ⟨hu,rfl⟩
  simp only [lC,lN]
  rw [hcs]
  refine sV (vA9 Z) (sN (nK9 [2] Z (nT (cT ?_))))
  exact aj Z ⟨hu,Z⟩ sbq
end
end Go.Fl
namespace Go.Fl
open Go Go.RowKit Go.Ck Go.Proofs Go.Proofs.Tryz Go.Proofs.YtknmacdbffgjgaaGreatDoor Fx Go.Hr
theorem Gj {o:Option Nat}:(ixI o == -1)=o.isNone:=by
 cases o with
 | none=>rfl
 | some i=>rfl
attribute [local irreducible] Go.Ck.Sub St Cd Xt Nx DrL LsW
section
variable {X Y:Res} {v v':Value} {us us':List Value}
theorem LA {v : Value} {rows : List (List Value)} {xs : List Cm} {kf : FuncId} {cp : Array Value} {g : Cm → Bool} (hro : Rws X rows xs) (hb : xs.length * 280 ≤ 1099511627776) (hE : Ck.Enters prog kf) (hf : ∀ R : Res, (∀ p u, Rd X p u → Rd R p u) → ∀ a ∈ xs, ∀ us, Enc.rep R us a → Reads prog kf (#[] ++ ([.agg us.toArray] : List Value).toArray ++ cp) [R] (.bool (g a))) :
  Ct prog 261 #[v,.func (.func kf) #[] cp] [VR v 191 18 rows,X] fun u h'=>∃ rows',u.oneCell'=true∧Rws X rows' (xs.filter fun x => !g x)∧h'=[VR u 191 18 rows',X]:=by
 have hml:maxLen=9223372036854775807:=rfl
 have hrb:reachBytes=140737488351232:=rfl
 have hrl:=hro.1
 refine aL (n:=42) func261 Z Z (len Z) fun hr w0=>?_
 refine fI (r:=VR v 191 18 rows) slq fun hok=>?_
 have ho:=VR.one hok.choose_spec
 have hls:Ls (Res.star [VR v 191 18 rows,X]) v xs:=Rws.ls (E:=191) (jq hro (bH (.there .here))) hok (bH .here) (show xs.length * 280≤reachBytes by omega)
 have hix:=eP (Cz (g:=g) (cp:=cp) hls hE (hf _ (bH (.there .here))))
 refine fV (v:=v) (E:=191) (sz:=18) (rows:=rows) slq fun wa wc hwf hwl hwm=>?_
 rw [hrl] at hwf hwl
 subst hwf
 refine cQ (sV (vA9 Z) (sN (nT (cQ (sM Z (sM Z (bg Z Z en193 Z (hix) ?_)))))))
 refine sV (vA9 Z) (sN (nK9 [0,1,4,5] Z (nT (cS (cQ (sM Z (sV (dB Z Z) (sN (nK9 [0,1,4,5,12] Z (nT ?_))))))))))
 rw [Gj]
 cases hq:xs.findIdx? g with
 | none =>
  have hall:(xs.filter fun x => !g x)=xs:=by
   rw [List.filter_eq_self]
   intro x hx
   simp [List.findIdx?_eq_none_iff.1 hq x hx]
  rw [hall]
  refine aT Z ?_
  refine cQ (sM Z (sV (vA9 Z) (sN (nK9 [4] Z (nT (cT (xR ?_)))))))
  exact aj Z ⟨rows,ho,hro,Z⟩ sbq
 | some i0 =>
  obtain ⟨hi0,hg0,hbf⟩:=List.findIdx?_eq_some_iff_getElem.1 hq
  obtain ⟨b,o,rfl⟩:∃ b o,wa=some ⟨b,o,none⟩:=by
   obtain ⟨f0,hf0⟩:=hok
   rcases VR.form hf0 with ⟨h3,h4⟩ | ⟨b,o,cp,h3,-⟩
   ·rw [h4] at hrl; simp at hrl; omega
   ·rw [hrl] at h3; cases h3; exact ⟨b,o,rfl⟩
  have hf0:(xs.take i0).filter (fun x => !g x)=xs.take i0:=by
   rw [List.filter_eq_self]
   intro x hx
   obtain ⟨j,hj,rfl⟩:=List.getElem_of_mem hx
   rw [List.length_take] at hj
   rw [List.getElem_take]
   simpa using hbf j (by omega)
  have hstart:Rws X (rows.take i0) ((xs.take (i0+1)).filter fun x => !g x):=by
   rw [List.take_succ_eq_append_getElem hi0,List.filter_append,hf0]
   have:[xs[i0]].filter (fun x => !g x)=[]:=by simp [hg0]
   rw [this,List.append_nil]
   refine ⟨by rw [List.length_take,List.length_take,hrl],fun j us x h1 h2=>?_⟩
   rw [List.getElem?_take] at h1 h2
   split at h1
   ·rename_i hji; rw [if_pos hji] at h2; exact hro.2 j us x h1 h2
   ·cases h1
  rw [show ixI (some i0)=((i0:Nat):Int) from rfl]
  refine aG Z ?_
  refine cK9 (xT (cS (cQ (sM Z (sV (aI Z Z (by unfold I64 at *; omega)) (sV (vA9 Z) (sN (nK9 [0,1,4,5,6] Z (nT (cB (aZ (σ := Nat×Nat×List (List Value)) (fun q=>[(0,.slice (some ⟨b,o,none⟩) xs.length wc),(1,.func (.func kf) #[] cp),(5,.int .i64 (q.1:Nat)),(6,.int .i64 (q.2.1:Nat))]) (fun q=>VR (.slice (some ⟨b,o,none⟩) xs.length wc) 191 18 q.2.2::X::hr) (fun q=>q.1<q.2.1∧q.2.1≤xs.length∧q.2.2.length=xs.length∧Rws X (q.2.2.take q.1) ((xs.take q.2.1).filter fun x => !g x)∧∀ k,q.2.1≤k→q.2.2[k]? = rows[k]?) (fun q=>xs.length - q.2.1) (i0,i0+1,rows) ⟨Nat.lt_succ_self _,hi0,hrl,hstart,fun _ _=>rfl⟩ ?_)))))))))))
  rintro ⟨m,j,rws⟩ ⟨hmj,hjn,hwl2,hpre,hrest⟩
  simp only at hmj hjn hwl2 hpre hrest
  dsimp only
  refine cS (cQ (sM Z (sM Z (sV (aF Z underlying187) (sV (aO Z Z) (sN (nK9 [0,1,5,6,19] Z (nT (cC Z (fun hd=>?_) (fun hd=>?_))))))))))
  ·have hlt:j<xs.length:=by simpa using hd
   have hjr:j<rows.length:=by omega
   have hrow:rws[j]? = some rows[j]:=(hrest j (Nat.le_refl _)).trans (List.getElem?_eq_getElem hjr)
   have hrep:=hro.2 j _ xs[j] (List.getElem?_eq_getElem hjr) (List.getElem?_eq_getElem hlt)
   have hfx:=hf X (fun _ _ h=>h) xs[j] (List.getElem_mem hlt) _ hrep
   have htk:=bV hlt
   have hset:∀ r,(rws.set m r).take (m+1)=rws.take m++[r]:=fun r=>by
    rw [List.take_succ_eq_append_getElem (by rw [List.length_set]; omega),List.take_set_of_le (Nat.le_refl _),List.getElem_set_self]
   generalize xs[j]=x at hrep hfx htk
   generalize rows[j]=r at hrow hrep hfx
   have hsz:r.length=18:=Enc.len hrep
   have hone:=Enc.ones hrep
   refine cK9 (xT (cS (cB (cQ (sM Z (sM Z (sV (vI (k:=j) Z Z lg Z hlt Z) (sV (ag Z gU hsz (eQ hrow)) ?_))))))))
   refine au qF fun b7=>?_
   refine ai (hl:=by rw [hsz]; rfl) Z Z l9 hsz hone ?_
   refine sN (nK9 [0,1,5,6,7] Z (nT (cQ (sM Z (sV (ag Z gU hsz af) ?_)))))
   refine bg Z Z hE Z (hfx) ?_
   refine sV (bi Z) (sN (nK9 [0,1,5,6,7,29] Z (nT (cC Z (fun hg=>?_) (fun hg=>?_)))))
   ·have hgf:g x=false:=by simpa using hg
    have e1:[x].filter (fun x => !g x)=[x]:=by simp [hgf]
    refine cQ (sM Z (sM Z (sV (ag Z gU hsz af) ?_)))
    refine sV (vI (k:=m) Z Z lg Z (by omega) Z) (Il (m:=m) (rows:=rws) (vs:=r) Z Z l9 hsz (fun u hu=>List.all_eq_true.1 hone u hu) (by omega) slq ?_)
    refine sN (nK9 [0,1,5,6] Z (nT (cR (sM Z (sV (aI Z Z (by unfold I64 at *; omega)) (sV (vA9 Z) (sN (nK9 [0,1,5,6] Z (ax (xB (xT (cR (sM Z (sV (aI Z Z (by unfold I64 at *; omega)) (sV (vA9 Z) (sN (nK9 [0,1,5,6] Z (ax ?_))))))))))))))))))
    refine aJ (m+1,j+1,rws.set m r) ⟨by dsimp only; omega,hlt,by rw [List.length_set]; exact hwl2,by rw [hset,htk,List.filter_append,e1]; exact hpre.snoc hrep,fun k hk=>by
     have hk:j+1≤k:=hk
     rw [List.getElem?_set_ne (by omega)]; exact hrest k (by omega)⟩ (by dsimp only; omega)
   ·have hgt:g x=true:=by simpa using hg
    have e1:[x].filter (fun x => !g x)=[]:=by simp [hgt]
    refine cK9 (xB (xT (cR (sM Z (sV (aI Z Z (by unfold I64 at *; omega)) (sV (vA9 Z) (sN (nK9 [0,1,5,6] Z (ax ?_)))))))))
    refine aJ (m,j+1,rws) ⟨by dsimp only; omega,hlt,hwl2,by rw [htk,List.filter_append,e1,List.append_nil]; exact hpre,fun k hk=>hrest k (by dsimp only at hk; omega)⟩ (by dsimp only; omega)
  ·have hje:j=xs.length:=by
    have:¬ j<xs.length:=by simpa using hd
    omega
   subst hje
   rw [List.take_length] at hpre
   refine aB (xE (xE (xY (xT (cQ (sM Z (sM Z (sV (gB (show Value.slice (some ⟨b,if wc=m then o else o+m * 18,none⟩) (xs.length - m) (wc - m)=Value.slice (some ⟨b,o+m * 18,none⟩) (rws.length - m) (wc - m) by rw [if_neg (by omega),hwl2]) (mi (lo:=m) Z Z lg Z (by omega) (by omega))) ?_))))))))
   refine tN (m:=m) (rows:=rws) rfl underlying187 zV rfl (fun v hv=>by simp [Value.cells] at hv; (repeat (first | (rcases hv with rfl | hv; · rfl) | (subst hv; rfl)))) (by omega) slq ?_
   refine sN (nK9 [0,5] Z (nT (cQ (sM Z (sM Z (sV (jT (hi:=m) Z Z lg Z (by omega)) (qG (zi (m:=m) ?_) ?_)))))))
   ·rw [List.length_append,List.length_take,List.length_replicate]; omega
   rw [List.take_append_of_le_length (by rw [List.length_take]; omega),List.take_take,Nat.min_self]
   refine sV (vA9 Z) (sN (nK9 [4] Z (nT (cT ?_))))
   exact aj Z ⟨_,Z,hpre,Z⟩ sbq
theorem LB {v : Value} {rows : List (List Value)} {xs : List Mb} {kf : FuncId} {cp : Array Value} {g : Mb → Bool} (hro : Rws X rows xs) (hb : xs.length * 232 ≤ 1099511627776) (hE : Ck.Enters prog kf) (hf : ∀ R : Res, (∀ p u, Rd X p u → Rd R p u) → ∀ a ∈ xs, ∀ us, Enc.rep R us a → Reads prog kf (#[] ++ ([.agg us.toArray] : List Value).toArray ++ cp) [R] (.bool (g a))) :
  Ct prog 268 #[v,.func (.func kf) #[] cp] [VR v 75 14 rows,X] fun u h'=>∃ rows',u.oneCell'=true∧Rws X rows' (xs.filter fun x => !g x)∧h'=[VR u 75 14 rows',X]:=by
 have hml:maxLen=9223372036854775807:=rfl
 have hrb:reachBytes=140737488351232:=rfl
 have hrl:=hro.1
 refine aL (n:=42) func268 Z Z (len Z) fun hr w0=>?_
 refine fI (r:=VR v 75 14 rows) slq fun hok=>?_
 have ho:=VR.one hok.choose_spec
 have hls:Ls (Res.star [VR v 75 14 rows,X]) v xs:=Rws.ls (E:=75) (jq hro (bH (.there .here))) hok (bH .here) (show xs.length * 232≤reachBytes by omega)
 have hix:=eP (xk (g:=g) (cp:=cp) hls hE (hf _ (bH (.there .here))))
 refine fV (v:=v) (E:=75) (sz:=14) (rows:=rows) slq fun wa wc hwf hwl hwm=>?_
 rw [hrl] at hwf hwl
 subst hwf
 refine cQ (sV (vA9 Z) (sN (nT (cQ (sM Z (sM Z (bg Z Z en222 Z (hix) ?_)))))))
 refine sV (vA9 Z) (sN (nK9 [0,1,4,5] Z (nT (cS (cQ (sM Z (sV (dB Z Z) (sN (nK9 [0,1,4,5,12] Z (nT ?_))))))))))
 rw [Gj]
 cases hq:xs.findIdx? g with
 | none =>
  have hall:(xs.filter fun x => !g x)=xs:=by
   rw [List.filter_eq_self]
   intro x hx
   simp [List.findIdx?_eq_none_iff.1 hq x hx]
  rw [hall]
  refine aT Z ?_
  refine cQ (sM Z (sV (vA9 Z) (sN (nK9 [4] Z (nT (cT (xR ?_)))))))
  exact aj Z ⟨rows,ho,hro,Z⟩ sbq
 | some i0 =>
  obtain ⟨hi0,hg0,hbf⟩:=List.findIdx?_eq_some_iff_getElem.1 hq
  obtain ⟨b,o,rfl⟩:∃ b o,wa=some ⟨b,o,none⟩:=by
   obtain ⟨f0,hf0⟩:=hok
   rcases VR.form hf0 with ⟨h3,h4⟩ | ⟨b,o,cp,h3,-⟩
   ·rw [h4] at hrl; simp at hrl; omega
   ·rw [hrl] at h3; cases h3; exact ⟨b,o,rfl⟩
  have hf0:(xs.take i0).filter (fun x => !g x)=xs.take i0:=by
   rw [List.filter_eq_self]
   intro x hx
   obtain ⟨j,hj,rfl⟩:=List.getElem_of_mem hx
   rw [List.length_take] at hj
   rw [List.getElem_take]
   simpa using hbf j (by omega)
  have hstart:Rws X (rows.take i0) ((xs.take (i0+1)).filter fun x => !g x):=by
   rw [List.take_succ_eq_append_getElem hi0,List.filter_append,hf0]
   have:[xs[i0]].filter (fun x => !g x)=[]:=by simp [hg0]
   rw [this,List.append_nil]
   refine ⟨by rw [List.length_take,List.length_take,hrl],fun j us x h1 h2=>?_⟩
   rw [List.getElem?_take] at h1 h2
   split at h1
   ·rename_i hji; rw [if_pos hji] at h2; exact hro.2 j us x h1 h2
   ·cases h1
  rw [show ixI (some i0)=((i0:Nat):Int) from rfl]
  refine aG Z ?_
  refine cK9 (xT (cS (cQ (sM Z (sV (aI Z Z (by unfold I64 at *; omega)) (sV (vA9 Z) (sN (nK9 [0,1,4,5,6] Z (nT (cB (aZ (σ := Nat×Nat×List (List Value)) (fun q=>[(0,.slice (some ⟨b,o,none⟩) xs.length wc),(1,.func (.func kf) #[] cp),(5,.int .i64 (q.1:Nat)),(6,.int .i64 (q.2.1:Nat))]) (fun q=>VR (.slice (some ⟨b,o,none⟩) xs.length wc) 75 14 q.2.2::X::hr) (fun q=>q.1<q.2.1∧q.2.1≤xs.length∧q.2.2.length=xs.length∧Rws X (q.2.2.take q.1) ((xs.take q.2.1).filter fun x => !g x)∧∀ k,q.2.1≤k→q.2.2[k]? = rows[k]?) (fun q=>xs.length - q.2.1) (i0,i0+1,rows) ⟨Nat.lt_succ_self _,hi0,hrl,hstart,fun _ _=>rfl⟩ ?_)))))))))))
  rintro ⟨m,j,rws⟩ ⟨hmj,hjn,hwl2,hpre,hrest⟩
  simp only at hmj hjn hwl2 hpre hrest
  dsimp only
  refine cS (cQ (sM Z (sM Z (sV (aF Z underlying52) (sV (aO Z Z) (sN (nK9 [0,1,5,6,19] Z (nT (cC Z (fun hd=>?_) (fun hd=>?_))))))))))
  ·have hlt:j<xs.length:=by simpa using hd
   have hjr:j<rows.length:=by omega
   have hrow:rws[j]? = some rows[j]:=(hrest j (Nat.le_refl _)).trans (List.getElem?_eq_getElem hjr)
   have hrep:=hro.2 j _ xs[j] (List.getElem?_eq_getElem hjr) (List.getElem?_eq_getElem hlt)
   have hfx:=hf X (fun _ _ h=>h) xs[j] (List.getElem_mem hlt) _ hrep
   have htk:=bV hlt
   have hset:∀ r,(rws.set m r).take (m+1)=rws.take m++[r]:=fun r=>by
    rw [List.take_succ_eq_append_getElem (by rw [List.length_set]; omega),List.take_set_of_le (Nat.le_refl _),List.getElem_set_self]
   generalize xs[j]=x at hrep hfx htk
   generalize rows[j]=r at hrow hrep hfx
   have hsz:r.length=14:=Enc.len hrep
   have hone:=Enc.ones hrep
   refine cK9 (xT (cS (cB (cQ (sM Z (sM Z (sV (vI (k:=j) Z Z pW Z hlt Z) (sV (ag Z fB hsz (eQ hrow)) ?_))))))))
   refine au jQ fun b7=>?_
   refine ai (hl:=by rw [hsz]; rfl) Z Z iD hsz hone ?_
   refine sN (nK9 [0,1,5,6,7] Z (nT (cQ (sM Z (sV (ag Z fB hsz af) ?_)))))
   refine bg Z Z hE Z (hfx) ?_
   refine sV (bi Z) (sN (nK9 [0,1,5,6,7,29] Z (nT (cC Z (fun hg=>?_) (fun hg=>?_)))))
   ·have hgf:g x=false:=by simpa using hg
    have e1:[x].filter (fun x => !g x)=[x]:=by simp [hgf]
    refine cQ (sM Z (sM Z (sV (ag Z fB hsz af) ?_)))
    refine sV (vI (k:=m) Z Z pW Z (by omega) Z) (Il (m:=m) (rows:=rws) (vs:=r) Z Z iD hsz (fun u hu=>List.all_eq_true.1 hone u hu) (by omega) slq ?_)
    refine sN (nK9 [0,1,5,6] Z (nT (cR (sM Z (sV (aI Z Z (by unfold I64 at *; omega)) (sV (vA9 Z) (sN (nK9 [0,1,5,6] Z (ax (xB (xT (cR (sM Z (sV (aI Z Z (by unfold I64 at *; omega)) (sV (vA9 Z) (sN (nK9 [0,1,5,6] Z (ax ?_))))))))))))))))))
    refine aJ (m+1,j+1,rws.set m r) ⟨by dsimp only; omega,hlt,by rw [List.length_set]; exact hwl2,by rw [hset,htk,List.filter_append,e1]; exact hpre.snoc hrep,fun k hk=>by
     have hk:j+1≤k:=hk
     rw [List.getElem?_set_ne (by omega)]; exact hrest k (by omega)⟩ (by dsimp only; omega)
   ·have hgt:g x=true:=by simpa using hg
    have e1:[x].filter (fun x => !g x)=[]:=by simp [hgt]
    refine cK9 (xB (xT (cR (sM Z (sV (aI Z Z (by unfold I64 at *; omega)) (sV (vA9 Z) (sN (nK9 [0,1,5,6] Z (ax ?_)))))))))
    refine aJ (m,j+1,rws) ⟨by dsimp only; omega,hlt,hwl2,by rw [htk,List.filter_append,e1,List.append_nil]; exact hpre,fun k hk=>hrest k (by dsimp only at hk; omega)⟩ (by dsimp only; omega)
  ·have hje:j=xs.length:=by
    have:¬ j<xs.length:=by simpa using hd
    omega
   subst hje
   rw [List.take_length] at hpre
   refine aB (xE (xE (xY (xT (cQ (sM Z (sM Z (sV (gB (show Value.slice (some ⟨b,if wc=m then o else o+m * 14,none⟩) (xs.length - m) (wc - m)=Value.slice (some ⟨b,o+m * 14,none⟩) (rws.length - m) (wc - m) by rw [if_neg (by omega),hwl2]) (mi (lo:=m) Z Z pW Z (by omega) (by omega))) ?_))))))))
   refine tN (m:=m) (rows:=rws) rfl underlying52 uN rfl (fun v hv=>by simp [Value.cells] at hv; (repeat (first | (rcases hv with rfl | hv; · rfl) | (subst hv; rfl)))) (by omega) slq ?_
   refine sN (nK9 [0,5] Z (nT (cQ (sM Z (sM Z (sV (jT (hi:=m) Z Z pW Z (by omega)) (qG (zi (m:=m) ?_) ?_)))))))
   ·rw [List.length_append,List.length_take,List.length_replicate]; omega
   rw [List.take_append_of_le_length (by rw [List.length_take]; omega),List.take_take,Nat.min_self]
   refine sV (vA9 Z) (sN (nK9 [4] Z (nT (cT ?_))))
   exact aj Z ⟨_,Z,hpre,Z⟩ sbq
end
section
variable {X Y:Res} {v v':Value} {us us':List Value}
theorem Iy {x:Cm} {b4 i:Nat} (h:Enc.rep X us x) (hrd:Rd X ⟨b4,0,none⟩ (.int .i64 (i:Nat))):Reads prog 263 #[.agg us.toArray,.pointer (some ⟨b4,0,none⟩)] [X] (.bool (!(x.par == i))):=by
 obtain ⟨x2,x5,xy,x11,x12,x13,rfl,_⟩:=gX h
 unfold nX
 refine aL (n:=8) func263 Z Z (len Z) fun hr w0=>?_
 refine cQ (aV Z Z fun b2=>?_)
 refine sV (vA9 Z) (sN (nK9 [1,2,3] Z (nT (cQ (sV (vF Z zh Z) (sV (vY Z ld3) ?_))))))
 refine sV (vY Z ld3) ?_
 refine sV (bT Z Z) (sV (vA9 Z) (sN (nK9 [3] Z (nT (cT ?_)))))
 rw [show (((x.par:Nat):Int) != ((i:Nat):Int)) = !(x.par == i) by
  rw [Bool.eq_iff_iff]; simp; omega]
 exact aj Z ⟨Z,Z⟩ sbq
theorem en263:Ck.Enters prog 263:=enters_of func263 (by kernel_rfl) rfl
theorem o8 {fv:Value} {c:FC} {ca cb ce cf ci mv:Value} {all:Bool} {bm i:Nat} {m:List (Nm×Value)} {n:Nm} {xs:List Cm} (hlk:Ls X ((bJ m n).getD (.slice none 0 0)) xs) (hb:xs.length * 280≤1099511627776) :
  CtX prog 206 #[.agg (eU v fv c ca cb ce cf ci mv (.map (some bm)) all).toArray,.int .i64 (i:Nat),sv n] X [mps bm m] fun u Y k'=>∃ rows,u.oneCell'=true∧Rws Y rows (xs.filter fun x=>x.par == i)∧k'=[VR u 191 18 rows,mps bm m]:=by
 have hfl:(xs.filter fun x => !(!(x.par == i)))=xs.filter fun x=>x.par == i:=by simp
 unfold eU CtX
 refine aL (n:=14) func206 Z Z (len Z) fun hr w0=>?_
 refine cQ (aV Z Z fun b3=>?_)
 refine aV Z Z fun b4=>?_
 refine sV (vA9 Z) (sN (nK9 [2,3,4,6] Z (nT (cQ (sV (vF Z oK Z) (sV (vY Z qC) ?_))))))
 refine sM Z (sV (bI Z Z rV sD slq) ?_)
 refine aH Z Z en262 Z (FU hlk) ?_
 rintro u h' ⟨T,rfl,rows,rfl,ho,hr⟩
 simp only [lC,lN]
 refine sV (bY Z Z) (J8 [pt b4 (cl [.int .i64 (i:Nat)] 3)] X fun Y hE hsel hpk=>?_)
 refine aH Z Z en261 Z (LA (g:=fun x => !(x.par == i)) (cp := #[.pointer (some ⟨b4,0,none⟩)]) (hr.up hE) hb en263 fun R hRY a _ us h=>Iy (i:=i) h (hRY _ _ (hsel _ _ .here _ _ (bU Z)))) ?_
 rintro u h' ⟨rows',hu,hr',rfl⟩
 simp only [lC,lN]
 rw [hfl] at hr'
 refine sV (vA9 Z) (sN (nK9 [6] Z (nT (cT ?_))))
 exact aj Z ⟨Y,_,Z,hE,rows',hu,hr',Z⟩ sbq
end
end Go.Fl
namespace Go.Fl
open Go Go.Hr
def dSds (l:FS):List Sd:=l.flatMap fun c=>c.feats.map fun f=>⟨c.name,f.name⟩
def dPre (l:FS):List Grp:=l.flatMap fun c=>c.feats.map fun f=>⟨c.name,f.req⟩
def dPost (l:FS):List Grp:=l.flatMap fun c=>c.feats.map fun f=>⟨c.name,f.ens⟩
structure MOk (l:FS) (m:Mb):Prop where
 name:m.name.length≤20
 snd:m.seeds.Nodup
 sds:∀ s∈m.seeds,s∈dSds l
 pnd:m.pre.Nodup
 pre:∀ g∈m.pre,g∈dPre l
 qnd:m.post.Nodup
 post:∀ g∈m.post,g∈dPost l
theorem Iz {o:List Grp} {g:Grp} (h:o.Nodup):(uZ o g).Nodup:=by
 unfold uZ
 split
 ·exact h
 ·rename_i hg
  have hg:g ∉ o:=by simpa using hg
  refine List.nodup_append.2 ⟨h,by simp,fun a ha b hb e=>?_⟩
  rw [List.mem_singleton.1 hb] at e
  exact hg (e ▸ ha)
theorem IA {l o:List Grp} (h:o.Nodup):(qN o l).Nodup:=by
 unfold qN
 induction l generalizing o with
 | nil=>exact h
 | cons g t ih=>exact ih (Iz h)
theorem o9 (ls:List (List Grp)):(groups ls).Nodup:=by
 have key:∀ (ls:List (List Grp)) (o:List Grp),o.Nodup→(ls.foldl qN o).Nodup:=by
  intro ls
  induction ls with
  | nil=>exact fun _ h=>h
  | cons a t ih=>exact fun o h=>ih _ (IA h)
 exact key ls [] List.nodup_nil
theorem mF (cs:List Cm) (f:Cm→List Grp):(cs.foldl (fun (o:List Grp) (y:Cm)=>groups [o,f y]) []).Nodup:=by
 have key:∀ (cs:List Cm) (o:List Grp),o.Nodup→(cs.foldl (fun (o:List Grp) (y:Cm)=>groups [o,f y]) o).Nodup:=by
  intro cs
  induction cs with
  | nil=>exact fun _ h=>h
  | cons a t ih=>exact fun o h=>ih _ (o9 _)
 exact key cs [] List.nodup_nil
theorem yX.nodup {xs:List Sd} (h:yX xs):xs.Nodup:=by
 rw [List.nodup_iff_pairwise_ne]
 exact h.imp fun {a b} hab e=>by
  subst e
  rw [oU] at hab; cases hab
theorem CU {s:Nm} (h:small s=true):s.length≤20:=by
 unfold small at h
 split at h
 ·simp
 ·simp only [Bool.and_eq_true,decide_eq_true_eq] at h
  exact h.1.1.1
section
variable {l:FS}
theorem Gl {c:FC} (hc:CRight l c) {p:Pt} (hp:p∈c.pars) {n:Nm} (hn:n.length≤20):(bK p n).length≤20:=by
 unfold bK
 cases hf:p.ren.find? fun x=>x.fro == n with
 | none=>exact hn
 | some x=>exact CU (hc.tosmall p hp x (List.mem_of_find?_eq_some hf))
theorem zq {fl:Nm→Fl} (h:∀ n,∀ m∈(fl n).mems,MOk l m) {c:FC} (hc:CRight l c) {x:Cm} (hx:x∈comes fl l c):MOk l x.mem:=by
 obtain ⟨p,hp,m,hm,e⟩:=iZ hx
 have h1:=h _ m hm
 rw [e]
 exact ⟨Gl hc (List.mem_of_getElem? hp) h1.name,h1.snd,h1.sds,h1.pnd,h1.pre,h1.qnd,h1.post⟩
theorem CV {cs:List Cm} (h:∀ x∈cs,MOk l x.mem) (h0:cs≠[]):MOk l (joined cs):=by
 obtain ⟨x,hx,h1,_⟩:=mr cs h0
 exact ⟨h1 ▸ (h x hx).name,(jI _).1.nodup,fun s hs=>by
   obtain ⟨y,hy,h2⟩:=kI.1 hs
   exact (h y hy).sds s h2,mF cs fun x=>x.mem.pre,fun g hg=>by
   obtain ⟨y,hy,h2⟩:=tq.1 hg
   exact (h y hy).pre g h2,mF cs fun x=>x.mem.post,fun g hg=>by
   obtain ⟨y,hy,h2⟩:=qV.1 hg
   exact (h y hy).post g h2⟩
theorem own_ok {cs:List Cm} {c:FC} {f:Fe} (hc:CRight l c) (hcl:c∈l) (hf:f∈c.feats) (h:∀ x∈cs,MOk l x.mem):MOk l (jH c f cs):=by
 have hp:(⟨c.name,f.req⟩:Grp)∈dPre l:=List.mem_flatMap.2 ⟨c,hcl,List.mem_map.2 ⟨f,hf,rfl⟩⟩
 have hq:(⟨c.name,f.ens⟩:Grp)∈dPost l:=List.mem_flatMap.2 ⟨c,hcl,List.mem_map.2 ⟨f,hf,rfl⟩⟩
 have hs:(⟨c.name,f.name⟩:Sd)∈dSds l:=List.mem_flatMap.2 ⟨c,hcl,List.mem_map.2 ⟨f,hf,rfl⟩⟩
 have hn:=CU (hc.fsmall f hf)
 have hpost:∀ g∈(if f.ens=[] then ([]:List Grp) else [⟨c.name,f.ens⟩]),g∈dPost l:=fun g hg=>by
  split at hg
  ·cases hg
  ·rw [List.mem_singleton.1 hg]; exact hq
 by_cases h0:cs=[]
 ·subst h0
  refine ⟨hn,?_,?_,?_,?_,?_,hpost⟩
  ·show ([_]:List Sd).Nodup
   simp
  ·intro s h2
   have h2:s∈([⟨c.name,f.name⟩]:List Sd):=h2
   rw [List.mem_singleton.1 h2]; exact hs
  ·show ([_]:List Grp).Nodup
   simp
  ·intro s h2
   have h2:s∈([⟨c.name,f.req⟩]:List Grp):=h2
   rw [List.mem_singleton.1 h2]; exact hp
  ·show (if f.ens=[] then ([]:List Grp) else [⟨c.name,f.ens⟩]).Nodup
   split <;> simp
 ·have hj := CV h h0
  unfold jH
  simp only []
  rw [if_neg h0]
  refine ⟨hn,hj.snd,hj.sds,o9 _,fun g hg=>?_,o9 _,fun g hg=>?_⟩
  ·obtain ⟨a,ha,hga⟩:=lG.1 hg
   simp only [List.mem_cons,List.not_mem_nil,or_false] at ha
   rcases ha with rfl | rfl
   ·exact hj.pre g hga
   ·split at hga
    ·cases hga
    ·rw [List.mem_singleton.1 hga]; exact hp
  ·obtain ⟨a,ha,hga⟩:=lG.1 hg
   simp only [List.mem_cons,List.not_mem_nil,or_false] at ha
   rcases ha with rfl | rfl
   ·exact hj.post g hga
   ·exact hpost g hga
theorem zt {fl:Nm→Fl} (h:∀ n,∀ m∈(fl n).mems,MOk l m) {c:FC} (hc:CRight l c) (hcl:c∈l):∀ m∈members (comes fl l c) c,MOk l m:=fun m hm=>by
 rcases (yF hc.names).1 hm with ⟨n,⟨x,hx,hxn⟩,_,rfl⟩ | ⟨f,hf,rfl⟩
 ·exact CV (fun y hy=>zq h hc (fJ.1 hy).1) (List.ne_nil_of_mem (fJ.2 ⟨hx,hxn⟩))
 ·exact own_ok hc hcl hf fun y hy=>zq h hc (fJ.1 hy).1
theorem Gm {c:Nm}:ae l c∈l∨ae l c=Bq:=by
 cases h:bL l c with
 | none=>exact .inr (ve h)
 | some x=>rw [fZ h]; exact .inl (List.mem_of_find?_eq_some h)
theorem NW (hR : FRight l) : ∀ (n : Nat) (c : Nm), ∀ m ∈ (flF l n c).mems, MOk l m
 | 0,c,m,hm=>by cases hm
 | n + 1, c, m, hm => by
  rcases Gm (l:=l) (c:=c) with h | h
  ·exact zt (NW hR n) (gm (hR.form _ h)) h m hm
  ·have:(flF l (n+1) c).mems=[]:=by
    show members (comes (flF l n) l (ae l c)) (ae l c)=[]
    rw [h]; rfl
   rw [this] at hm; cases hm
theorem FL_ok (hR:FRight l) (c:Nm):∀ m∈(FL l c).mems,MOk l m:=NW hR _ c
structure FlB (l:FS) (fl:Nm→Fl):Prop where
 few:∀ n,(fl n).mems.length≤60
 ok:∀ n,∀ m∈(fl n).mems,MOk l m
theorem NY (hR:FRight l) {o:List Nm} (h:∀ n∈o,okF l n):FlB l (look (forms l o)):=by
 have key:∀ n,look (forms l o) n=fl0∨(n∈o∧look (forms l o) n=FL l n):=fun n=>by
  by_cases hn:n∈o
  ·exact .inr ⟨hn,oP hn⟩
  ·exact .inl (KN hn)
 constructor
 ·intro n
  rcases key n with h1 | ⟨h1,h2⟩
  ·rw [h1]; exact Nat.zero_le _
  ·rw [h2,jl hR.sys]
   have:=(h n h1).2
   unfold over at this
   simp only [Bool.or_eq_false_iff,decide_eq_false_iff_not] at this
   omega
 ·intro n m hm
  rcases key n with h1 | ⟨h1,h2⟩
  ·rw [h1] at hm; cases hm
  ·rw [h2] at hm; exact FL_ok hR n m hm
theorem iQ {α β : Type} {f : α → List β} {k:Nat}:∀ {xs:List α},(∀ x∈xs,(f x).length≤k)→(xs.flatMap f).length≤xs.length * k
 | [],_=>by simp
 | a::t,h=>by
  have h1:=h a (by simp)
  have h2:=iQ (f:=f) (xs:=t) fun x hx=>h x (by simp [hx])
  rw [List.flatMap_cons,List.length_append,List.length_cons,Nat.add_mul,Nat.one_mul]
  omega
theorem dLen {β : Type} (hR:FRight l) (g:FC→Fe → β):(l.flatMap fun c=>c.feats.map (g c)).length≤1440:=by
 have h1:=iQ (xs:=l) (f:=fun c=>c.feats.map (g c)) (k:=60) fun c hc=>by
  rw [List.length_map]; exact (gm (hR.form c hc)).feats
 have h2:=hR.sys.len
 rw [jW] at h2
 omega
theorem MOk.lens (hR:FRight l) {m:Mb} (h:MOk l m):m.seeds.length≤1440∧m.pre.length≤1440∧m.post.length≤1440 :=
 ⟨Nat.le_trans (aP h.snd h.sds) (dLen hR _),Nat.le_trans (aP h.pnd h.pre) (dLen hR _),Nat.le_trans (aP h.qnd h.post) (dLen hR _)⟩
theorem NZ (hR:FRight l) {c:FC} (hc:c∈l):c.pars.length≤4:=by
 have:=hR.sys.few c.cls (List.mem_map.2 ⟨c,hc,rfl⟩)
 simpa [FC.cls] using this
theorem xD (hR:FRight l) {fl:Nm→Fl} (h:FlB l fl) {c:FC} (hc:c∈l):(comes fl l c).length≤240:=by
 have h1:=iQ (xs:=c.pars.zipIdx) (f:=fun q:Pt×Nat=>(fl q.1.name).mems.map (qL (ae l q.1.name).forms q.2 q.1)) (k:=60) fun q _=>by
  rw [List.length_map]; exact h.few _
 have h2:=NZ hR hc
 have h3:(comes fl l c).length≤c.pars.zipIdx.length * 60:=h1
 rw [List.length_zipIdx] at h3
 omega
theorem IB (hR:FRight l) {fl:Nm→Fl} (h:FlB l fl) {c:FC} (hc:c∈l):((comes fl l c).flatMap fun x=>x.mem.seeds).length≤345600∧((comes fl l c).flatMap fun x=>x.mem.pre).length≤345600∧((comes fl l c).flatMap fun x=>x.mem.post).length≤345600:=by
 have h1:=xD hR h hc
 have h2:=fun x (hx:x∈comes fl l c)=>(zq h.ok (gm (hR.form c hc)) hx).lens hR
 have g1:=iQ (xs:=comes fl l c) (f:=fun x=>x.mem.seeds) (k:=1440) fun x hx=>(h2 x hx).1
 have g2:=iQ (xs:=comes fl l c) (f:=fun x=>x.mem.pre) (k:=1440) fun x hx=>(h2 x hx).2.1
 have g3:=iQ (xs:=comes fl l c) (f:=fun x=>x.mem.post) (k:=1440) fun x hx=>(h2 x hx).2.2
 omega
theorem Gn (hR:FRight l) {fl:Nm→Fl} (h:FlB l fl) {c:FC} (hc:c∈l):(members (comes fl l c) c).length≤300∧((members (comes fl l c) c).flatMap fun m=>m.seeds).length≤432000:=by
 have hC:=gm (hR.form c hc)
 have h1:=xD hR h hc
 have hn:=(oV (comes fl l c) hC.names)
 have hk:(keys (comes fl l c)).length≤(comes fl l c).length:=by
  have:(keys (comes fl l c)).length≤((comes fl l c).map fun x=>x.mem.name).length:=aP (gW _) fun n hn=>by
   obtain ⟨x,hx,e⟩:=jX.1 hn
   exact List.mem_map.2 ⟨x,hx,e⟩
  simpa using this
 have h2:(members (comes fl l c) c).length≤(sZ (comes fl l c) c).length:=by
  have:((members (comes fl l c) c).map fun m=>m.name).length≤((sZ (comes fl l c) c).map fun m=>m.name).length:=aP hn.1.nodup fun n hn'=>by
   obtain ⟨m,hm,e⟩:=List.mem_map.1 hn'
   exact List.mem_map.2 ⟨m,(hn.2 m).1 hm,e⟩
  simpa using this
 have h3:(sZ (comes fl l c) c).length≤300:=by
  unfold sZ
  rw [List.length_append,List.length_map,List.length_map]
  have:=List.length_filter_le (fun n=>(feat c n).isNone) (keys (comes fl l c))
  have:=hC.feats
  omega
 have g1:=iQ (xs:=members (comes fl l c) c) (f:=fun m=>m.seeds) (k:=1440) fun m hm=>((zt h.ok hC hc m hm).lens hR).1
 omega
end
end Go.Fl
namespace Go.Ck
open Go Go.RowKit
def dz (w:World):World:={ w with drawn:=0 }
theorem vJ (w:World):Same (dz w) w:=⟨rfl,rfl,rfl,Nat.zero_le _,Nat.le_refl _,fun _ _=>rfl⟩
theorem Same.dz {w w':World} (h:Same w w'):Same (dz w) w':=(vJ w).trans h
theorem Same.dtrans {w0 w w':World} (h:Same w0 w) (h0:w0.drawn=0) (k:Same (Go.Ck.dz w) w'):Same w0 w' :=
 ⟨k.os.trans h.os,k.tape.trans h.tape,k.output.trans h.output,by rw [h0]; exact Nat.zero_le _,Nat.le_trans h.size k.size,fun x hx=>(k.fz x (Nat.lt_of_lt_of_le hx h.size)).trans (h.fz x hx)⟩
def Ctw (P:Program) (k:FuncId) (args:Array Value) (hf:SH) (R:Value→SH→Prop):Prop :=
 ∀ (hr:SH) (w:World),Holds w (hf++hr)→Calls P k args w fun e w'=>∃ v h',e = .returned v∧R v h'∧Holds w' (h'++hr)∧Same (dz w) w'
theorem Ct.w {P:Program} {k:FuncId} {args:Array Value} {hf:SH} {R:Value→SH→Prop} (h:Ct P k args hf R):Ctw P k args hf R :=
 fun hr w hh=>(h hr w hh).mono fun _ _ ⟨v,h',e,r,g,s⟩=>⟨v,h',e,r,g,s.dz⟩
theorem Ctw.mono {P:Program} {k:FuncId} {args:Array Value} {hf:SH} {R R':Value→SH→Prop} (h:Ctw P k args hf R) (hr:∀ v h',R v h'→R' v h'):Ctw P k args hf R' :=
 fun hr' w hw=>(h hr' w hw).mono fun _ _ ⟨v,h',e,r,rest⟩=>⟨v,h',e,hr v h' r,rest⟩
theorem Ctw.perm {P:Program} {k:FuncId} {args:Array Value} {hf hf':SH} {R:Value→SH→Prop} (h:Ctw P k args hf R) (p:hf.Perm hf'):Ctw P k args hf' R :=
 fun hr w hw=>h hr w ((bf.perm (p.append_right hr)).2 hw)
def eG (P:Program) (k:FuncId) (args:Array Value) (X:Res) (hf:SH) (R:Value→Res→SH→Prop):Prop:=Ctw P k args (X::hf) fun u h'=>∃ Y k',h'=Y::k'∧Ext X Y∧R u Y k'
theorem fO {P:Program} {k:FuncId} {fn:Func} {x:Code} {n:Nat} {l:List Value} {hf:SH} {R:Value→SH→Prop} (hF:P.funcs[k]? = some fn) (hb:fn.body=some x) (hnt:fn.ntmps=n) (hn:l.length≤n)
  (hc:∀ (hr:SH) (w0:World),w0.drawn=0→Cd ⟨P,none,n,[],w0⟩ x (bodyPost P fn (Post w0 hr R)) (Env.ofArgs 0 l) (hf++hr)):Ctw P k l.toArray hf R:=fun hr w hh=>by
 refine uw (r:=none) (n:=0) (callsIn_of_wp hF hb trivial (hc hr (dz w) Z _ w ⟨?_,Z,fun i v hi=>?_⟩ hh (vJ w)))
 ·simp; omega
 ·obtain ⟨_,h2⟩:=Env.ofArgs_get hi
  simp only [Nat.sub_zero] at h2
  have hlt:i<l.length:=(List.getElem?_eq_some_iff.1 h2).1
  rw [List.getElem?_eq_getElem hlt,Option.some.injEq] at h2
  simp [Array.getElem?_append,hlt,h2]
theorem En {P:Program} {k:FuncId} {fn:Func} {x:Code} {n:Nat} {l:List Value} {hf:SH} {R:Value→SH→Prop} (hF:P.funcs[k]? = some fn) (hb:fn.body=some x) (hnt:fn.ntmps=n) (hn:l.length≤n)
  (hc:∀ (hr:SH) (w0:World),w0.drawn=0→Cd ⟨P,none,n,[],w0⟩ x (bodyPostM (Fw none) 0 P fn (Post w0 hr R)) (Env.ofArgs 0 l) (hf++hr)):Ctw P k l.toArray hf R:=fun hr w hh=>by
 refine uw (r:=none) (n:=0) (callsIn_of_wp_marks hF hb trivial (hc hr (dz w) Z _ w ⟨?_,Z,fun i v hi=>?_⟩ hh (vJ w)))
 ·simp; omega
 ·obtain ⟨_,h2⟩:=Env.ofArgs_get hi
  simp only [Nat.sub_zero] at h2
  have hlt:i<l.length:=(List.getElem?_eq_some_iff.1 h2).1
  rw [List.getElem?_eq_getElem hlt,Option.some.injEq] at h2
  simp [Array.getElem?_append,hlt,h2]
section
variable {c:Cx} {ops:Array Oper} {K:Act→World→Prop} {rest:List Oper} {e:Env} {h hr:SH}
theorem bM {d:Nat} {f:Operand} {az:Array Operand} {ts:Array TypeId} {ty:TypeId} {pos:String} {after:Array Edge} {k:FuncId} {fi cp:Array Value} {vs:List Value} {args:Array Value} {hf:SH} {R:Value→SH→Prop} (h0:c.w0.drawn=0)
  (hv:e.ev? f=some (.func (.func k) fi cp)) (has:az.toList.mapM e.ev? = some vs) (hE:Enters c.P k) (ha:fi++vs.toArray++cp=args) (ct:Ctw c.P k args hf R)
  (hn:∀ v h',R v h'→St c ops K rest ((d,v)::e) (h'++hr)) (pk:Pk h hf hr:=by repeat (first | exact Pk.nil | (apply Pk.cons; (repeat (first | exact Sel.here | apply Sel.there))))) (hd:d<c.n:=by exact ltn rfl) :
  St c ops K (⟨some d,.call { callee:=.value f,args:=az,argTypes:=ts },ty,pos,after,none⟩::rest) e h :=
 dY (by simp) fun a w hk hh hs=>by
  rw [ql hv has hE ha hk.evs]
  exact (ct hr w (hh.pk pk)).mono fun _ w' ⟨v,h',he,hR,hH,hS⟩=>⟨v,he,hn v h' hR _ w' (hk.put v hd) hH (hs.dtrans h0 hS)⟩
end
theorem xG {P : Program} {n : Nat} {ds : List Deferred} {w0 : World} {Q : Exit → Act → World → Prop} {e : Env} {h : SH} {g : Operand} {k : FuncId} {fi cp : Array Value} {ps : Array Tmp} {assign body : Code} (h0 : w0.drawn = 0)
  (hg:e.ev? g=some (.func (.func k) fi cp)) (hE:Enters P k)
  (hct:∀ (l db:Nat) (rec:Loop),rec.state = .ready→rec.pending=none→rec.params=ps→rec.assign=assign→rec.body=body→Kn n [] { tmps:=rec.tmps,defers:=[] } e →
   ∃ R',Ctw P k (fi ++ #[.func (.yield l) #[] #[]]++cp) (pt l (.loop rec)::pt db (.deferred (some []))::h) R' ∧
    ∀ v h',R' v h'→∃ rec h'',Sel h' (pt l (.loop rec)) h''∧rec.state≠.busy∧(match rec.pending with | none=>Xt ⟨P,none,n,mk db::ds,w0⟩ .normal Q e h'' | some x=>Cd ⟨P,none,n,mk db::ds,w0⟩ x Q e h'')) :
  Cd ⟨P,none,n,ds,w0⟩ (.rangeFunc g ps assign body) Q e h:=fun a w hk hh hw=>by
 refine wpIn_rangeFunc fun fn _=>?_
 obtain ⟨R',ct,hR'⟩:=hct (w.heap.size+1) w.heap.size (qp fn a.tmps ps assign body w.heap.size) rfl rfl rfl rfl rfl ⟨hk.size,rfl,hk.get⟩
 have h1:=Holds.alloc (Holds.alloc hh (.deferred (some []))) (.loop (qp fn a.tmps ps assign body w.heap.size))
 have hsz:(w.alloc (.deferred (some []))).heap.size=w.heap.size+1:=World.size_alloc _ _
 rw [hsz] at h1
 refine ⟨_,_,_,⟨.fn (.func k) cp,fi ++ #[.func (.yield (w.heap.size+1)) #[] #[]]⟩,(w.alloc (.deferred (some []))).alloc (.loop (qp fn a.tmps ps assign body w.heap.size)),k,fi ++ #[.func (.yield (w.heap.size+1)) #[] #[]]++cp,(w.alloc (.deferred (some []))).alloc (.loop (qp fn a.tmps ps assign body w.heap.size)),run_enterLoop_outer fn a.tmps ps assign body,?_,fun _ _=>trivial,?_,fun h=>by simp [Fw,Fence.wide] at h,?_⟩
 ·simp only [resolve,hk.ev hg,Deferred.ofValue,Sem.run_bind,Sem.run_pure,Result.andThen_ok]
  simp [Act.eval,qp]
 ·have:(invoke (.fn (.func k) cp) (fi ++ #[.func (.yield (w.heap.size+1)) #[] #[]])).run P ((w.alloc (.deferred (some []))).alloc (.loop (qp fn a.tmps ps assign body w.heap.size))) = .ok (.enter k (fi ++ #[.func (.yield (w.heap.size+1)) #[] #[]]++cp)) ((w.alloc (.deferred (some []))).alloc (.loop (qp fn a.tmps ps assign body w.heap.size))):=hE _ _
  exact this
 ·have hgr:Same w ((w.alloc (.deferred (some []))).alloc (.loop (qp fn a.tmps ps assign body w.heap.size))):=(Grew.alloc _ _ rfl).toSame.trans (Grew.alloc _ _ rfl).toSame
  have hctw:=ct [] _ (by simpa using h1)
  refine sj (Calls.mono hctw fun en w' ⟨v,h',he,hRv,hH,hS⟩=>?_)
  subst he
  obtain ⟨rec,h'',s,hbusy,hj⟩:=hR' v h' hRv
  have hH':=(show Holds w' h' by simpa using hH).sel s
  refine ⟨rec.pending,_,run_endLoop hH'.1 hbusy,?_⟩
  have hk2:Kn n (mk w.heap.size::ds) { a with defers:=[{ target:=.collected w.heap.size,args := #[] }]++a.defers } e:=⟨hk.size,by simp [mk,hk.defers],hk.get⟩
  have hH2:∀ o,Holds (w'.putObj (w.heap.size+1) o) h'':=fun o=>(Holds.putObj hH' o).2.2
  have hS2:∀ r,Same w0 (w'.putObj (w.heap.size+1) (.loop r)):=fun r=>((hw.trans hgr).dtrans h0 hS).trans (Same.putObj _ _ _ hH'.1 rfl rfl)
  generalize rec.pending=j at hj ⊢
  cases j with
  | none=>exact hj _ _ hk2 (hH2 _) (hS2 _)
  | some x=>exact hj _ _ hk2 (hH2 _) (hS2 _)
end Go.Ck
namespace Go.Fl
open Go Go.RowKit Go.Ck Go.Proofs Go.Proofs.Tryz Go.Proofs.YtknmacdbffgjgaaGreatDoor Fx Go.Hr
def yI:Go.Shelf.Ren:={
 f:=fun | 156=>172 | 165=>238 | 166=>239 | 169=>240 | 240=>276 | 241=>277 | 276=>299 | 277=>300 | n=>n
 t:=fun | 31=>40 | 9=>9 | 3=>3 | 4=>4 | 0=>0 | 20=>20 | 72=>301 | 76=>305 | 70=>299 | 37=>37 | 75=>304 | 127=>338 | 164=>360 | 5=>5 | 80=>307 | n=>n
 g:=fun n=>n }
theorem Kh:Go.Proofs.Lays.n156 prog yI:={
 mixed:=rfl
 f156:=func172.trans (congrArg some (by kernel_rfl))
 f165:=func238.trans (congrArg some (by kernel_rfl))
 f166:=func239.trans (congrArg some (by kernel_rfl))
 f169:=func240.trans (congrArg some (by kernel_rfl))
 f240:=func276.trans (congrArg some (by kernel_rfl))
 f241:=func277.trans (congrArg some (by kernel_rfl))
 f276:=func299.trans (congrArg some (by kernel_rfl))
 f277:=func300.trans (congrArg some (by kernel_rfl))
 t0:=underlying0
 a0:=isAgg0
 z0:=sizeOf0
 v0:=zeroValue0
 t3:=underlying3
 a3:=isAgg3
 z3:=sizeOf3
 v3:=zeroValue3
 t4:=underlying4
 a4:=isAgg4
 z4:=sizeOf4
 v4:=zeroValue4
 t9:=underlying9
 a9:=isAgg9
 z9:=sizeOf9
 v9:=zeroValue9
 t20:=underlying20
 a20:=isAgg20
 z20:=sizeOf20
 v20:=zeroValue20
 t31:=underlying40
 a31:=isAgg40
 z31:=sizeOf40
 v31:=zeroValue40
 t37:=underlying37
 a37:=isAgg37
 z37:=sizeOf37
 v37:=zeroValue37
 t70:=underlying299
 a70:=isAgg299
 z70:=sizeOf299
 v70:=zeroValue299
 t72:=underlying301
 a72:=isAgg301
 z72:=sizeOf301
 v72:=zeroValue301
 t75:=underlying304
 a75:=isAgg304
 z75:=sizeOf304
 v75:=zeroValue304
 t76:=underlying305
 a76:=isAgg305
 z76:=sizeOf305
 v76:=zeroValue305
 t127:=underlying338
 a127:=isAgg338
 z127:=sizeOf338
 v127:=zeroValue338
 t164:=underlying360
 a164:=isAgg360
 z164:=sizeOf360
 v164:=zeroValue360 }
theorem Gp:Builder.Extra prog yI where
 sizeBuilder:=by kernel_rfl
 liesBuilder:=by kernel_rfl
 t5:=by kernel_rfl
 a5:=isAgg5
 z5:=sizeOf5
 v5:=zeroValue5
 infoByte:=by kernel_rfl
 cellsByte:=by kernel_rfl
 sizeByte:=by kernel_rfl
 neB5:=by decide
theorem Ba {w w':World} (h:Below w.heap.size w w'):Same (dz w) w':=⟨h.os,h.tape,h.output,Nat.zero_le _,h.size,fun a ha=>h.frozen ha⟩
theorem yJ {w w':World} {H:SH} (h:Below w.heap.size w w') (hh:Holds w H):Holds w' H:=bf.loc hh fun b hb=>(h.block b (Holds.lt hh hb)).symm
theorem IC (a:Nm) (t:List Nm):jV (a::t)=a++Lib.joinTail [32] t:=by
 induction t generalizing a with
 | nil=>simp [jV,Lib.joinTail]
 | cons b t ih =>
  show a++32::jV (b::t)=_
  rw [ih b]
  simp [Lib.joinTail]
theorem Gq (xs:List Nm):Lib.join xs [32]=jV xs:=by
 cases xs with
 | nil=>rfl
 | cons a t=>rw [Lib.join_cons,IC]
theorem CW {k:Nat}:∀ {xs:List Nm},(∀ x∈xs,x.length≤k)→(jV xs).length≤xs.length * (k+1)
 | [],_=>by simp [jV]
 | [a],h=>by
  have:=h a (by simp)
  show a.length≤_
  simp only [List.length_singleton,Nat.one_mul]; omega
 | a::b::t,h=>by
  have h1:=h a (by simp)
  have h2:=CW (xs:=b::t) fun x hx=>h x (by simp only [List.mem_cons] at hx ⊢; exact .inr hx)
  have h3:jV (a::b::t)=a++32::jV (b::t):=rfl
  rw [h3,List.length_append,List.length_cons,List.length_cons (a:=a),Nat.add_mul,Nat.one_mul]
  omega
theorem Ki {v:Value} {xs:List Nm} (hl:xs.length≤1099511627776) (hj:(jV xs).length≤140737488355328):Ctw prog 172 #[v,sv [32]] [NR v xs] fun u h'=>u=sv (jV xs)∧h'=[NR v xs]:=by
 intro hr w hh
 have hv:=hh.1
 rcases hv.2 with ⟨rfl,h0⟩ | ⟨b,o,cp,pre,j,rfl,hb,hpre,hc1,hc2,hc3⟩
 ·have hx:xs=[]:=List.map_eq_nil_iff.1 h0
  subst hx
  exact (Any.strings_Join_none Kh Gp none 0 ⟨⟨[32]⟩⟩ w).mono fun e w' ⟨h1,h2⟩=>⟨sv [],_,h1,⟨Z,Z⟩,by rw [h2]; exact hh,by rw [h2]; exact vJ w⟩
 ·rw [mo] at hb
  have hb:w.heap[b]? = some (cl (pre++(xs.map sv++j)) 9):=hb
  have hlt:b<w.heap.size:=(Array.getElem?_eq_some_iff.1 hb).1
  have hml:(xs.map fun n=>(⟨⟨n⟩⟩:ByteArray)).map (·.data.toList)=xs:=by rw [List.map_map]; exact List.map_id _
  have hc:=Any.strings_Join Kh Gp b o cp (xs.map fun n=>(⟨⟨n⟩⟩:ByteArray)) ⟨⟨[32]⟩⟩ w (fun i x hi=>by
   rw [List.getElem?_map] at hi
   obtain ⟨n,hn,rfl⟩:=Option.map_eq_some_iff.1 hi
   have hil:=(List.getElem?_eq_some_iff.1 hn).1
   simp only [World.cell?,hb,cl,Option.isSome_none,Bool.false_eq_true,if_false,List.getElem?_toArray]
   rw [← hpre,List.getElem?_append_right (by omega),Nat.add_sub_cancel_left,List.getElem?_append_left (by simpa using hil),List.getElem?_map,hn]
   rfl) hlt (by rw [List.length_map]; omega) (by
    rw [List.length_map]
    have:(xs.map nC).length=xs.length:=by simp
    omega) (by rw [hml,Gq]; exact hj)
  rw [hml,Gq,List.length_map] at hc
  rw [show (xs.map nC).length=xs.length by simp]
  rw [show (xs.map nC).length=xs.length by simp] at hh
  exact Calls.mono hc fun e w' ⟨h1,h2⟩=>⟨sv (jV xs),_,h1,⟨Z,Z⟩,yJ h2 hh,Ba h2⟩
end Go.Fl
