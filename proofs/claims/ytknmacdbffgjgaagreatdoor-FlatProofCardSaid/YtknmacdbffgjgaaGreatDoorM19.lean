/-
  Package flat: what the search for conflicts knows; conflict. Conditions: what is read.
-/
import Derived.Test.YtknmacdbffgjgaaGreatDoorM16
import Derived.Test.YtknmacdbffgjgaaGreatDoorM18
import Derived.Test.YtknmacdbffgjgaaGreatDoorM8
set_option linter.unusedVariables false
set_option linter.unusedSimpArgs false
set_option maxRecDepth 100000
set_option maxHeartbeats 16000000
namespace Go.Fl
open Go Go.RowKit Go.Ck Go.Proofs Go.Proofs.Tryz Go.Proofs.YtknmacdbffgjgaaGreatDoor Fx Go.Hr
abbrev BE:=Nm×Value×List (List Value)
def BN (E:List BE):Res:=Res.star (E.map λe=>VR e.2.1 191 18 e.2.2)
def kw (E:List BE):List (Nm×Value):=E.map λe=>(e.1,e.2.1)
def BOk (Y:Res) (E:List BE) (cs:List Cm):Prop:=E.map (λe=>e.1)=keys cs/\∀ e∈E,e.2.1.oneCell'=true/\Rws Y e.2.2 (under cs e.1)
theorem BOk.up {X Y:Res} {E:List BE} {cs:List Cm} (h:BOk X E cs) (he:Ext X Y):BOk Y E cs:=⟨h.1,λe hm=>⟨(h.2 e hm).1,(h.2 e hm).2.up he⟩⟩
theorem jQ (E:List BE):(kw E).map (·.1)=E.map λe=>e.1:=by simp [kw]
theorem Ov {m:List (Nm×Value)} {n:Nm} {v:Value} (h:n ∉ m.map (·.1)):eG m n v=m++[(n,v)]:=by
 induction m with
 | nil=>rfl
 | cons p t ih =>
  rw [List.map_cons,List.mem_cons,not_or] at h
  rw [eG,if_neg (λe=>h.1 e.symm),ih h.2]; rfl
theorem Ow {m1 m2:List (Nm×Value)} {n:Nm} {v v2:Value} (h:n ∉ m1.map (·.1)):eG (m1++(n,v)::m2) n v2=m1++(n,v2)::m2:=by
 induction m1 with
 | nil=>simp [eG]
 | cons p t ih =>
  rw [List.map_cons,List.mem_cons,not_or] at h
  rw [List.cons_append,eG,if_neg (λe=>h.1 e.symm),ih h.2]; rfl
theorem L8 {m1 m2:List (Nm×Value)} {n:Nm} {v:Value} (h:n ∉ m1.map (·.1)):bL (m1++(n,v)::m2) n=some v:=by
 unfold bL
 have:m1.find? (λp=>p.1 == n)=none:=by
  rw [List.find?_eq_none]
  intro p hp
  simp only [beq_iff_eq]
  exact λe=>h<|List.mem_map.2 ⟨p,hp,e⟩
 rw [List.find?_append,this]
 simp
theorem GN (E : List BE) (n : Nm) (hn : (E.map λe => e.1).Nodup) : ∃ (v : Value) (rows : List (List Value)) (BO : Res) (F : Value -> List (List Value) -> List BE), (bL (kw E) n).getD (.slice none 0 0) = v /\ (∀ t, Vw (BN E :: t) (VR v 191 18 rows :: BO :: t)) /\ (∀ v2 r2 t, Vw (Res.star [VR v2 191 18 r2, BO] :: t) (BN (F v2 r2) :: t)) /\ (∀ v2 r2, eG (kw E) n v2 = kw (F v2 r2)) /\
  ((n ∉ (E.map λe=>e.1)/\rows=[]/\∀ v2 r2,F v2 r2=E++[(n,v2,r2)])∨∃ E1 E2,E=E1++(n,v,rows)::E2/\∀ v2 r2,F v2 r2=E1++(n,v2,r2)::E2):=by
 by_cases hm:n∈E.map λe=>e.1
 ·obtain ⟨e, he, rfl⟩ := List.mem_map.1 hm
  obtain ⟨E1,E2,rfl⟩:=List.append_of_mem he
  obtain ⟨n,v,rows⟩:=e
  have h1:n ∉ E1.map λe=>e.1:=λh=>by
   rw [List.map_append,List.map_cons] at hn
   exact (List.nodup_append.1 hn).2.2 n h n (by simp) Z
  have h2:n ∉ (kw E1).map (·.1):=by rw [jQ]; exact h1
  have hb:∀ v2 r2,kw (E1++(n,v2,r2)::E2)=kw E1++(n,v2)::kw E2:=λv2 r2=>by simp [kw]
  refine ⟨v,rows,Res.star ((E1++E2).map λe=>VR e.2.1 191 18 e.2.2),λv2 r2=>E1++(n,v2,r2)::E2,by rw [hb,L8 h2]; rfl,λt w hh=>?_,λv2 r2 t w hh=>?_,λv2 r2=>by rw [hb,hb,Ow h2],.inr ⟨E1,E2,Z,λ_ _=>rfl⟩⟩
  ·have h3:bu (hp w) (((E1++(n,v,rows)::E2).map λe=>VR e.2.1 191 18 e.2.2)++t):=dD.1 hh
   have h4:bu (hp w) (((VR v 191 18 rows)::(E1++E2).map λe=>VR e.2.1 191 18 e.2.2)++t):=(bu.perm (List.Perm.append_right t (by
    rw [List.map_append,List.map_cons,List.map_append]; exact List.perm_middle))).1 h3
   have h5:bu (hp w) (((E1++E2).map λe=>VR e.2.1 191 18 e.2.2)++(VR v 191 18 rows::t)):=(bu.perm (by
    rw [List.cons_append]; exact List.perm_middle.symm)).1 h4
   have h6:=dD.2 h5
   exact (bu.perm<|.swap _ _ _).1 h6
  ·have h3:bu (hp w) ([VR v2 191 18 r2,Res.star ((E1++E2).map λe=>VR e.2.1 191 18 e.2.2)]++t):=dD.1 hh
   have h4:=dD.1 ((bu.perm<|.swap _ _ _).1 h3)
   refine dD.2 ((bu.perm ?_).1 h4)
   rw [List.map_append,List.map_append,List.map_cons,List.append_assoc,List.append_assoc]
   refine List.Perm.append_left _ ?_
   rw [List.cons_append]
   exact List.perm_middle
 ·have h2:n ∉ (kw E).map (·.1):=by rw [jQ]; exact hm
  refine ⟨.slice none 0 0,[],BN E,λv2 r2=>E++[(n,v2,r2)],by rw [zz.2 h2]; rfl,λt w hh=>hh.vr_nil 191 18,λv2 r2 t w hh=>?_,λv2 r2=>by rw [Ov h2]; simp [kw],.inl ⟨hm,Z,λ_ _=>rfl⟩⟩
  have h3:bu (hp w) ([VR v2 191 18 r2,BN E]++t):=dD.1 hh
  have h4:=dD.1 ((bu.perm<|.swap _ _ _).1 h3)
  refine dD.2 ((bu.perm ?_).1 h4)
  rw [List.map_append,List.append_assoc]
  exact .refl _
theorem w9 (cs:List Cm) (x:Cm):keys (cs++[x])=if x.mem.name∈keys cs then keys cs else keys cs++[x.mem.name]:=by
 unfold keys
 rw [List.map_append,List.map_cons,List.map_nil,rT]
 unfold Hr.step
 by_cases h:x.mem.name∈dd [] (cs.map λx=>x.mem.name)
 ·rw [if_pos h,if_pos Zo]
 ·rw [if_neg h,if_neg Zo]
theorem pY (cs:List Cm) (x:Cm) (n:Nm):under (cs++[x]) n=if x.mem.name=n then under cs n++[x] else under cs n:=by
 unfold under
 rw [List.filter_append]
 by_cases h:x.mem.name=n <;> simp [h]
theorem Az {cs:List Cm} {n:Nm} (h:n ∉ keys cs):under cs n=[]:=by
 unfold under
 rw [List.filter_eq_nil_iff]
 intro x hx
 simp only [beq_iff_eq]
 exact λe=>h<|ku.2 ⟨x,hx,e⟩
theorem Ox {Y : Res} {E : List BE} {cs : List Cm} {x : Cm} {us : List Value} {v v2 : Value} {rows : List (List Value)} {F : Value -> List (List Value) -> List BE} (hb : BOk Y E cs) (hx : Enc.rep Y us x) (hv : v2.oneCell' = true)
  (hF:(x.mem.name ∉ (E.map λe=>e.1)/\rows=[]/\∀ v2 r2,F v2 r2=E++[(x.mem.name,v2,r2)])∨∃ E1 E2,E=E1++(x.mem.name,v,rows)::E2/\∀ v2 r2,F v2 r2=E1++(x.mem.name,v2,r2)::E2):BOk Y (F v2 (rows++[us])) (cs++[x]):=by
 obtain ⟨hk,hr⟩:=hb
 rcases hF with ⟨h1,rfl,h3⟩ | ⟨E1,E2,rfl,h3⟩
 ·rw [h3]
  have h4:x.mem.name ∉ keys cs:=by rw [<- hk]; exact h1
  refine ⟨by rw [w9,if_neg h4,List.map_append,hk]; rfl,λe he=>?_⟩
  rcases List.mem_append.1 he with he | he
  ·have h5:e.1≠x.mem.name:=λq=>h1 (q ▸ List.mem_map.2 ⟨e,he,rfl⟩)
   rw [pY,if_neg (λq=>h5 q.symm)]
   exact hr e he
  ·rw [List.mem_singleton.1 he]
   dsimp only
   rw [pY,if_pos rfl,Az h4]
   exact ⟨hv,Rws.nil.snoc hx⟩
 ·rw [h3]
  have h4:x.mem.name∈keys cs:=by rw [<- hk]; simp
  have hnd:(E1.map (λe=>e.1)++x.mem.name::E2.map λe=>e.1).Nodup:=by
   have:=iq cs
   rw [<- hk,List.map_append,List.map_cons] at this
   exact this
  refine ⟨by rw [w9,if_pos h4,<- hk,List.map_append,List.map_append]; rfl,λe he=>?_⟩
  have hother:∀ e∈E1++E2,e.1≠x.mem.name:=λe he q=>by
   have h6:=List.nodup_append.1 hnd
   rcases List.mem_append.1 he with he | he
   ·exact h6.2.2 e.1 (List.mem_map.2 ⟨e,he,Z⟩) x.mem.name (by simp) q
   ·exact (List.nodup_cons.1 h6.2.1).1 (q ▸ List.mem_map.2 ⟨e,he,Z⟩)
  have hcase:e=(x.mem.name,v2,rows++[us])∨e∈E1++E2:=by
   rcases List.mem_append.1 he with he | he
   ·exact .inr<|List.mem_append_left _ he
   ·rcases List.mem_cons.1 he with he | he
    ·exact .inl he
    ·exact .inr<|List.mem_append_right _ he
  rcases hcase with rfl | he2
  ·dsimp only
   rw [pY,if_pos rfl]
   exact ⟨hv,(hr (x.mem.name,v,rows)<|by simp).2.snoc hx⟩
  ·rw [pY,if_neg (λq=>hother e he2 q.symm)]
   exact hr e (by rcases List.mem_append.1 he2 with h | h <;> simp [h])
theorem Oy {Y:Res} {E:List BE} {cs:List Cm} {n:Nm} {v:Value} {rows:List (List Value)} {F:Value->List (List Value)->List BE} (hb:BOk Y E cs) (hF:(n ∉ (E.map λe=>e.1)/\rows=[]/\∀ v2 r2,F v2 r2=E++[(n,v2,r2)])∨∃ E1 E2,E=E1++(n,v,rows)::E2/\∀ v2 r2,F v2 r2=E1++(n,v2,r2)::E2):rows.length≤cs.length:=by
 rcases hF with ⟨_,rfl,_⟩ | ⟨E1,E2,rfl,_⟩
 ·simp
 ·rw [(hb.2 (n,v,rows)<|by simp).2.1]
  exact List.length_filter_le _ _
attribute [local irreducible] Go.Ck.Sub St Cd Xt Nx DrL LsW
section
variable {X Y:Res} {v v':Value} {us us':List Value}
theorem Df {mb:Nat} {uc:List Value}:Ct prog 171 #[.agg #[v,.map (some mb)],.agg uc.toArray] [] λu h'=>∃ b1 b2,u = .func (.func 237) #[] #[.pointer (some ⟨b1,0,none⟩),.pointer (some ⟨b2,0,none⟩)]/\h'=[pt b1 (cl uc 44),pt b2 (cl [v,.map (some mb)] 114)]:=by
 refine aL (n:=6) func171 Z Z (len Z) λhr w0=>?_
 refine cQ (aP Z Z λb2=>?_)
 refine aP Z Z λb3=>?_
 refine sA Z<|sK [2,3,4] Z<|cQ<|sV (cz Z Z)<|sA Z<|sK [4] Z<|cT ?_
 exact aj Z ⟨_,_,Z,Z⟩ sbq
theorem en237:Ck.Enters prog 237:=enters_of func237 Zz rfl

theorem xe {mb : Nat} {m : List (Nm × Value)} {fl : Nm -> Fl} {l : FS} {c : FC} {uc : List Value} (hl : Ls X v l) (hc : Enc.rep X uc c) (hm : FlR X m fl) (hf : ∀ p ∈ c.pars, (ae l p.name).forms.length = p.args.length /\ p.und.length ≤ 1099511627776) (hb : (comes fl l c).length * 280 ≤ 1099511627776) :
  CtX prog 113 #[.agg #[v,.map (some mb)],.agg uc.toArray] X [mps mb m] λu Y k'=>∃ bm E,u = .map (some bm)/\k'=[mps mb m,mps bm (kw E),BN E]/\BOk Y E (comes fl l c):=by
 have hml:maxLen=9223372036854775807:=rfl
 have hcl:uc.length=7:=Enc.len hc
 unfold CtX
 refine qQ (n:=25) func113 Z Z (len Z) λhr w0=>?_
 refine cQ (aP Z Z λb2=>?_)
 refine aP Z Z λb3=>?_
 refine sA Z<|sK [2,3,4] Z<|cQ (eO (ltn Z) λbm=>?_)
 refine ak al188 λb5=>?_
 refine bg Z Z sz188 ?_
 refine sK [2,3,4,5] Z<|cS<|cQ<|sV (af Z gZ Z ag) ?_
 refine sV (af Z gL hcl ag) ?_
 refine aJ Z Z en171 Z (Df (v:=v) (mb:=mb) (uc:=uc)) ?_
 rintro u h' ⟨c1,c2,rfl,rfl⟩
 simp only [lC,lN]
 refine sK [4,5,10] Z<|cB<|dK (eQ (L:=[])) (jg Z en237 λyl db rec hst hpe hps hasg hbo hkn2=>?_)
 refine ⟨_,Ct.perm (GI (σ := List BE) (mb:=mb) (b1:=c1) (b2:=c2) (yl:=yl) (λE=>pt yl (.loop rec)::pt db (.deferred<|some [])::pt b5 (cl [.map (some bm)] 188)::mps bm (kw E)::BN E::pt b3 (cl uc 44)::pt b2 (cl [v,.map (some mb)] 114)::hr)
  (λk Y E=>BOk Y E ((comes fl l c).take k)) (λ_ _ _=>False) [] ⟨rfl,λe he=>by cases he⟩ hl hc hm hf ?_ (λ_ _ _ _ he h=>h.up he)) ?_,?_⟩
 ·rintro k Y E x us hx hE hrep hbk
  have hone:=Enc.ones hrep
  have hlt:=(List.getElem?_eq_some_iff.1 hx).1
  have htk:(comes fl l c).take (k+1)=(comes fl l c).take k++[x]:=by rw [bV hlt,(List.getElem?_eq_some_iff.1 hx).2]
  obtain ⟨v1,rows,BO,F,hlook,hV1,hV2,hsupd,hcase⟩:=GN E x.mem.name (by rw [hbk.1]; exact iq _)
  have hrl:=Oy hbk hcase
  rw [List.length_take] at hrl
  have hstep:=λ(v2:Value) (hv2:v2.oneCell'=true)=>Ox (us:=us) hbk hrep hv2 hcase
  obtain ⟨x2,x5,xy,x11,x12,x13,rfl,hxm⟩:=iB hrep
  unfold oL at *
  refine Yc.perm (qO (n:=25) (rec:=rec) (args:=[.agg [sv x.og.par,sv x.og.name,.int .i64 x.par,sv x.mem.name,.int .i64 x.mem.kind,x2,sv x.mem.impl.cls,sv x.mem.impl.name,x5,.int .i64 x.mem.ty.kind,sv x.mem.ty.name,xy,.bool x.mem.ty.void,.bool x.mem.ty.sep,x11,x12,x13,.int .i64 x.was].toArray]) (hf:=pt db (.deferred<|some [])::pt b5 (cl [.map (some bm)] 188)::mps bm (kw E)::BN E::Y::mps mb m::pt b3 (cl uc 44)::pt b2 (cl [v,.map (some mb)] 114)::hr) (by rw [hps]; rfl) hkn2 (by rw [hps]; decide) ?_) (by exact (by repeat (first | exact Pm.refl | refine Pm.cons slq ?_):Pm _ _).perm)
  intro hr2 w1
  rw [hasg,hps,hbo]
  simp only [lC,lN]
  refine cR (ak q8 λb6=>?_)
  refine ai Z Z mM Z hone ?_
  refine sN<|nK [4,5,6] Z<|ax<|lG Z slq (by first | rfl | assumption) ?_
  refine cB<|dK (Vw.sel (r:=BN E) slq<|hV1 _) ?_
  refine jr (ork [(0,1),(1,2),(2,2),(3,1),(4,1),(5,2),(6,2),(7,1),(8,1),(9,1),(10,0),(11,0),(12,0)] .nil) (λi => !(Nat.beq i 12)) [pt b5 (cl [.map (some bm)] 188),pt b6 (cl [sv x.og.par,sv x.og.name,.int .i64 x.par,sv x.mem.name,.int .i64 x.mem.kind,x2,sv x.mem.impl.cls,sv x.mem.impl.name,x5,.int .i64 x.mem.ty.kind,sv x.mem.ty.name,xy,.bool x.mem.ty.void,.bool x.mem.ty.sep,x11,x12,x13,.int .i64 x.was] 191),mps bm (kw E)] mixed Zz ?_
  refine bi Z (vY Z qW) ?_
  refine dV Z (vF Z dW Z)<|dV Z (vF Z dC Z)<|bi Z (vY Z ld9) ?_
  refine bi Z (vY Z qW) ?_
  refine dV Z (vF Z dW Z)<|dV Z (vF Z dC Z)<|bi Z (vY Z ld9) ?_
  refine bi Z (gG hlook<|bI Z Z sQ tN slq) ?_
  refine bi Z (af Z ic Z ag) ?_
  refine aV Z (au (cells:=[sv x.og.par,sv x.og.name,.int .i64 x.par,sv x.mem.name,.int .i64 x.mem.kind,x2,sv x.mem.impl.cls,sv x.mem.impl.name,x5,.int .i64 x.mem.ty.kind,sv x.mem.ty.name,xy,.bool x.mem.ty.void,.bool x.mem.ty.sep,x11,x12,x13,.int .i64 x.was]) Z underlying187 zI Z Z Zz (ltn Z) λb22=>aY ?_)
  refine aV Z (d9 [[sv x.og.par,sv x.og.name,.int .i64 x.par,sv x.mem.name,.int .i64 x.mem.kind,x2,sv x.mem.impl.cls,sv x.mem.impl.name,x5,.int .i64 x.mem.ty.kind,sv x.mem.ty.name,xy,.bool x.mem.ty.void,.bool x.mem.ty.sep,x11,x12,x13,.int .i64 x.was]] Z Z underlying187 zI Z (by decide) (show Sel _ (VR v1 191 18 rows) _ from slq) (by simp) Z (λj u2 hu2=>bS<|bU Zr) (by simpa using hone) (by omega) (by omega) (ltn Z) λw2 hw2 _=>aY ?_)
  refine aV Z<|cO Z Z Z sQ slq<|aY ?_
  rw [hsupd]
  refine bA<|nK [4] Z<|ax<|xB<|kK (fE (L:=[VR w2 191 18 (rows++[[sv x.og.par,sv x.og.name,.int .i64 x.par,sv x.mem.name,.int .i64 x.mem.kind,x2,sv x.mem.impl.cls,sv x.mem.impl.name,x5,.int .i64 x.mem.ty.kind,sv x.mem.ty.name,xy,.bool x.mem.ty.void,.bool x.mem.ty.sep,x11,x12,x13,.int .i64 x.was]]),BO])) ?_
  simp only [lC,lN]
  refine jG (hV2 _ _ _)<|dA slq (.inl ⟨Z,Y,_,Ext.refl Y,by rw [htk]; exact hstep w2 hw2,Z⟩) ?_
  rw [dB hst hpe]
  exact sbq
 ·exact (by repeat (first | exact Pm.refl | refine Pm.cons slq ?_):Pm _ _).perm
 ·rintro u h' ⟨rfl,(⟨Y,E,hE,hbk,rfl⟩ | ⟨k,Y,t,_,hS,rfl⟩)⟩
  ·rw [List.take_length] at hbk
   refine ⟨rec,_,slq,(by rw [hst]; simp),?_⟩
   rw [hpe]
   dsimp only
   refine xB<|xT<|cQ<|sV (vY Z qW) ?_
   refine sA Z<|sK [4] Z<|cT ?_
   exact jU (bs:=[db]) Z Z ⟨Y,_,Z,hE,bm,E,Z,Z,hbk⟩ sbq
  ·exact hS.elim
end
end Go.Fl
namespace Go.Fl
open Go Go.RowKit Go.Ck Go.Proofs Go.Proofs.Tryz Go.Proofs.YtknmacdbffgjgaaGreatDoor Fx Go.Hr

def I5:Go.Shelf.Ren:={
 f:=λ| 6=>124 | 15=>202 | 14=>201 | 28=>258 | 29=>259 | 20=>250 | 21=>251 | 22=>252 | 23=>253 | 24=>254 | 25=>255 | 26=>256 | 27=>257 | 46=>289 | 47=>290 | 48=>291 | 49=>292 | 50=>293 | 57=>304 | n=>n
 t:=λ| 22=>52 | 24=>75 | 25=>204 | 3=>3 | 39=>275 | 0=>0 | 53=>322 | 55=>324 | 4=>4 | 46=>316 | 45=>315 | 50=>222 | 5=>5 | 9=>9 | 66=>345 | 70=>349 | 76=>365 | 77=>366 | n=>n
 g:=λn=>n }
theorem laysMb:Go.Proofs.SlLaysF0.n6 prog I5:={
 mixed:=rfl
 f6 := bR "slices.SortFunc[[]cosigner/api.Member,cosigner/api.Member]" rfl (func124.trans (congrArg some Zz))
 f14 := bR "slices.pdqsortCmpFunc[cosigner/api.Member]" rfl (func201.trans (congrArg some Zz))
 f15:=func202.trans<|congrArg some Zz
 f20 := bR "slices.insertionSortCmpFunc[cosigner/api.Member]" rfl (func250.trans (congrArg some Zz))
 f21 := bR "slices.heapSortCmpFunc[cosigner/api.Member]" rfl (func251.trans (congrArg some Zz))
 f22 := bR "slices.breakPatternsCmpFunc[cosigner/api.Member]" rfl (func252.trans (congrArg some Zz))
 f23 := bR "slices.choosePivotCmpFunc[cosigner/api.Member]" rfl (func253.trans (congrArg some Zz))
 f24 := bR "slices.reverseRangeCmpFunc[cosigner/api.Member]" rfl (func254.trans (congrArg some Zz))
 f25 := bR "slices.partialInsertionSortCmpFunc[cosigner/api.Member]" rfl (func255.trans (congrArg some Zz))
 f26 := bR "slices.partitionEqualCmpFunc[cosigner/api.Member]" rfl (func256.trans (congrArg some Zz))
 f27 := bR "slices.partitionCmpFunc[cosigner/api.Member]" rfl (func257.trans (congrArg some Zz))
 f28:=func258.trans<|congrArg some Zz
 f29:=func259.trans<|congrArg some Zz
 f46 := bR "slices.siftDownCmpFunc[cosigner/api.Member]" rfl (func289.trans (congrArg some Zz))
 f47:=func290.trans<|congrArg some Zz
 f48:=func291.trans<|congrArg some Zz
 f49 := bR "slices.medianAdjacentCmpFunc[cosigner/api.Member]" rfl (func292.trans (congrArg some Zz))
 f50 := bR "slices.medianCmpFunc[cosigner/api.Member]" rfl (func293.trans (congrArg some Zz))
 f57 := bR "slices.order2CmpFunc[cosigner/api.Member]" rfl (func304.trans (congrArg some Zz))
 t0:=underlying0
 a0:=isAgg0
 z0:=sizeOf0
 v0:=zeroValue0
 t3:=underlying3
 a3:=isAgg3
 z3:=sizeOf3
 v3:=zeroValue3
 t4:=underlying4
 a4:=isAgg4
 z4:=sizeOf4
 v4:=zeroValue4
 t5:=underlying5
 a5:=isAgg5
 z5:=sizeOf5
 v5:=zeroValue5
 t9:=underlying9
 a9:=isAgg9
 z9:=sizeOf9
 v9:=zeroValue9
 t22:=underlying52
 a22:=isAgg52
 z22:=sizeOf52
 v22:=zeroValue52
 t25:=underlying204
 a25:=isAgg204
 z25:=sizeOf204
 v25:=zeroValue204
 t39:=underlying275
 a39:=isAgg275
 z39:=sizeOf275
 v39:=zeroValue275
 t45:=underlying315
 a45:=isAgg315
 z45:=sizeOf315
 v45:=zeroValue315
 t46:=underlying316
 a46:=isAgg316
 z46:=sizeOf316
 v46:=zeroValue316
 t50:=underlying222
 a50:=isAgg222
 z50:=sizeOf222
 v50:=zeroValue222
 t53:=underlying322
 a53:=isAgg322
 z53:=sizeOf322
 v53:=zeroValue322
 t55:=underlying324
 a55:=isAgg324
 z55:=sizeOf324
 v55:=zeroValue324
 t66:=underlying345
 a66:=isAgg345
 z66:=sizeOf345
 v66:=zeroValue345
 t70:=underlying349
 a70:=isAgg349
 z70:=sizeOf349
 v70:=zeroValue349
 t76:=underlying365
 a76:=isAgg365
 z76:=sizeOf365
 v76:=zeroValue365
 t77:=underlying366
 a77:=isAgg366
 z77:=sizeOf366
 v77:=zeroValue366 }
abbrev MC:Type:={ p:Mb×List Value // p.2.length=14/\p.2.all Value.oneCell'=true/\p.2[0]? = some (sv p.1.name) }
instance:Inhabited MC:=⟨⟨(mb0,sv []::List.replicate 13 (.bool false)),rfl,rfl,rfl⟩⟩
def GQ (a b:MC):Int:=rf a.1.1.name b.1.1.name
theorem GR (a b:Nm):(rf a b<0)↔lt a b=true:=by
 unfold rf
 rcases dX a b with h | h | h
 ·simp [h]
 ·rw [h]; simp [lt_irrefl]
 ·simp [h,iP h]
theorem swoMC:Sort.SWO (ltOf GQ):=by
 have key:∀ x y,ltOf GQ x y=lt x.1.1.name y.1.1.name:=λx y=>by
  unfold ltOf GQ
  rw [Bool.eq_iff_iff,decide_eq_true_iff,GR]
 refine ⟨λx=>by rw [key,lt_irrefl],λx y z h1 h2=>by rw [key] at *; exact lt_trans h1 h2,λx y z h1 h2=>?_⟩
 rw [key] at *
 cases h3:lt x.1.1.name z.1.1.name with
 | false=>rfl
 | true =>
  rcases dX x.1.1.name y.1.1.name with h4 | h4 | h4
  ·rw [h1] at h4; cases h4
  ·rw [h4,h2] at h3; cases h3
  ·rw [lt_trans h4 h3] at h2; cases h2
attribute [local irreducible] Go.Ck.Sub St Cd Xt Nx DrL LsW
section
variable {X Y:Res} {v v':Value} {us us':List Value}
theorem L9 (a b:MC):Reads prog 125 #[.agg a.1.2.toArray,.agg b.1.2.toArray] [] (.int .i64 (GQ a b)):=by
 obtain ⟨⟨n,us⟩,h1,h2,h3⟩:=a
 obtain ⟨⟨n',us'⟩,h1',h2',h3'⟩:=b
 dsimp only at h1 h2 h3 h1' h2' h3' ⊢
 obtain ⟨c,t,rfl⟩:∃ c t,us=c::t:=by cases us with | nil=>cases h1 | cons c t=>exact ⟨c,t,rfl⟩
 obtain ⟨c',t',rfl⟩:∃ c t,us'=c::t:=by cases us' with | nil=>cases h1' | cons c t=>exact ⟨c,t,rfl⟩
 obtain rfl:c=sv n.name:=Zb
 obtain rfl:c'=sv n'.name:=by simpa using h3'
 unfold GQ
 refine aL (n:=10) func125 Z Z (len Z) λhr w0=>?_
 refine cQ (aP Z Z λb2=>?_)
 refine aP Z Z λb3=>?_
 refine sA Z<|sK [2,3,4] Z<|cQ<|sV (vF Z dC Z)<|sV (vY Z ld9) ?_
 refine sV (vF Z dC Z)<|sV (vY Z ld9) ?_
 refine aX Z Z Kc Z (yS n.name n'.name) ?_
 refine sA Z<|sK [4] Z<|cT ?_
 exact aj Z ⟨Z,Z⟩ sbq
theorem mb_name {m:Mb} (h:Enc.rep X us m):us.length=14/\us.all Value.oneCell'=true/\us[0]? = some (sv m.name):=by
 refine ⟨Enc.len h,Enc.ones h,?_⟩
 obtain ⟨x2,x5,xy,x11,x12,x13,rfl,_⟩:=bZ h
 rfl
theorem I6 {Y:Res} {v:Value} {rows:List (List Value)} {ms:List Mb} (hr:Rws Y rows ms) (hn:(ms.map λm=>m.name).Nodup) (hl:ms.length≤1099511627776):Ct prog 124 #[v,.func (.func 125) #[] #[]] [VR v 75 14 rows] λu h'=>u = .tuple #[]/\∃ rows',Rws Y rows' (rA ms)/\rows'.length=rows.length/\h'=[VR v 75 14 rows']:=by
  have hex : ∃ xs : List MC, xs.map (λx => x.1.2) = rows /\ xs.map (λx => x.1.1) = ms /\ ∀ x ∈ xs, Enc.rep Y x.1.2 x.1.1 := by
    obtain ⟨hlen,hr⟩:=hr
    clear hn hl
    induction rows generalizing ms with
    | nil => have : ms = [] := by cases ms with | nil => rfl | cons _ _ => cases hlen
             subst this; exact ⟨[],rfl,rfl,λx hx=>by cases hx⟩
    | cons r t ih =>
      cases ms with
      | nil=>cases hlen
      | cons m mt =>
        have h0:=hr 0 r m rfl rfl
        have h1:=mb_name h0
        obtain ⟨xs,h2,h3,h4⟩:=ih (ms:=mt) (by simpa using hlen) λj us x g1 g2=>hr (j+1) us x g1 g2
        refine ⟨⟨(m,r),h1⟩::xs,by rw [List.map_cons,h2],by rw [List.map_cons,h3],λx hx=>?_⟩
        rcases List.mem_cons.1 hx with rfl | hx
        · exact h0
        · exact h4 x hx
  obtain ⟨xs,hx1,hx2,hx3⟩:=hex
  have hxl:xs.length=ms.length:=by have:=congrArg List.length hx2; simpa using this
  have h:=GH (E:=75) (v:=v) laysMb (k:=14) isAgg75 sizeOf75 (enc:=λx:MC=>x.1.2) (λx=>x.2.1) (λx u hu=>List.all_eq_true.1 x.2.2.1 u hu) swoMC (g:=125) (enters_of func125 Zz rfl) (λx y=>L9 x y) (xs:=xs)<|by omega
  rw [hx1] at h
  refine Ct.mono h ?_
  rintro u h' ⟨rfl,ys,hp,hs,rfl⟩
  refine ⟨Z,_,?_,by rw [<- hx1,List.length_map,List.length_map]; exact hp.length_eq,Z⟩
  have hpm:(ys.map λy=>y.1.1).Perm ms:=by rw [<- hx2]; exact hp.map _
  have hnd:((ys.map λy=>y.1.1).map λm=>m.name).Nodup:=(hpm.map _).nodup_iff.2 hn
  have hsrt:qE (ys.map λy=>y.1.1):=by
    unfold qE
    rw [List.pairwise_map]
    rw [List.map_map] at hnd
    have h7:=List.pairwise_map.1 hnd
    refine (hs.and h7).imp λ{a b} hab=>?_
    rcases dX a.1.1.name b.1.1.name with g | g | g
    · exact g
    · exact absurd g hab.2
    · exact (hab.1 ((GR _ _).2 g)).elim
  have he:(ys.map λy=>y.1.1)=rA ms:=xP hsrt (jb hn).1 λm=>by rw [(jb hn).2,hpm.mem_iff]
  rw [<- he]
  refine ⟨by simp,λj us x g1 g2=>?_⟩
  rw [List.getElem?_map] at g1 g2
  cases hj:ys[j]? with
  | none=>rw [hj] at g1; cases g1
  | some y =>
    rw [hj] at g1 g2
    cases g1; cases g2
    exact hx3 y<|hp.mem_iff.1<|List.mem_of_getElem? hj
end
end Go.Fl
namespace Go.Fl
open Go Go.RowKit Go.Ck Go.Proofs Go.Proofs.Tryz Go.Proofs.YtknmacdbffgjgaaGreatDoor Fx Go.Hr
theorem KH {Y Y2:Res} {E:List BE} {cs:List Cm} (hb:BOk Y E cs) (he:Ext Y Y2) (hok:∃ f,(BN E).ok f) (hr:∀ p u,Rd (BN E) p u->Rd Y2 p u) (hs:cs.length * 280≤1099511627776):∀ e∈E,Ls Y2 e.2.1 (under cs e.1):=λe hm=>by
 obtain ⟨s,t,rfl⟩:=List.append_of_mem hm
 have hrw:=(hb.2 e hm).2.up he
 have hul:(under cs e.1).length≤cs.length:=List.length_filter_le _ _
 have hrb:reachBytes=140737488351232:=rfl
 have hsel:∀ (s t:List BE),Sel ((s++e::t).map λe=>VR e.2.1 191 18 e.2.2) (VR e.2.1 191 18 e.2.2) ((s++t).map λe=>VR e.2.1 191 18 e.2.2):=λs t=>by
  induction s with
  | nil=>exact .here
  | cons a s ih=>exact .there ih
 have h9:(under cs e.1).length * 280≤140737488351232:=by omega
 rw [<- hrb] at h9
 have hrd2:∀ p u,Rd (VR e.2.1 191 18 e.2.2) p u->Rd Y2 p u:=λp u h=>hr p u (by unfold BN; exact rU (hsel s t) h)
 refine Rws.ls (E:=191) hrw ?_ hrd2 h9
 obtain ⟨f,hf⟩:=hok
 have h1:bu f ((s++e::t).map λe=>VR e.2.1 191 18 e.2.2):=hf
 exact ⟨f,((bu.perm (hsel s t).perm).1 h1).1⟩
theorem AA (cs:List Cm):(keys cs).length≤cs.length:=by
 have:∀ ys:List Cm,(keys ys.reverse).length≤ys.reverse.length:=λys=>by
  induction ys with
  | nil=>simp [keys,dd]
  | cons y t ih =>
   rw [List.reverse_cons,w9]
   split <;> simp at ih ⊢ <;> omega
 simpa using this cs.reverse
theorem AB {β : Type} (f:Cm->List β) (cs:List Cm) (n:Nm):((under cs n).flatMap f).length≤(cs.flatMap f).length:=by
 unfold under
 induction cs with
 | nil=>simp
 | cons x t ih =>
  rw [List.filter_cons]
  split <;> simp only [List.flatMap_cons,List.length_append] <;> omega
theorem I7 {xs ys:List Mb} (hp:xs.Perm ys) (hn:(ys.map λm=>m.name).Nodup):rA xs=rA ys:=by
 have hn':(xs.map λm=>m.name).Nodup:=(hp.map _).nodup_iff.2 hn
 exact xP (jb hn').1 (jb hn).1 λm=>by rw [(jb hn').2,(jb hn).2,hp.mem_iff]
theorem yX {Y:Res} {E:List BE} {cs:List Cm} (hk:E.map (λe=>e.1)=keys cs) (h:∀ e∈E,Ls Y e.2.1 (under cs e.1)) (n:Nm):Ls Y ((bL (kw E) n).getD (.slice none 0 0)) (under cs n):=by
 obtain ⟨v,rows,BO,F,h1,-,-,-,h5⟩:=GN E n (by rw [hk]; exact iq _)
 rw [h1]
 rcases h5 with ⟨h6,-,-⟩ | ⟨E1,E2,rfl,-⟩
 ·have h7:bL (kw E) n=none:=zz.2 (by rw [jQ]; exact h6)
  rw [h7] at h1
  rw [Az (by rw [<- hk]; exact h6),<- h1]
  exact Ls.nil
 ·exact h (n,v,rows)<|by simp
def Mid1 (Y:Res) (rows:List (List Value)) (cs:List Cm) (c:FC) (left:List (Nm×Value)):Prop:=∃ ds:List Nm,Rws Y rows ((ds.filter λn=>(feat c n).isNone).map λn=>joined<|under cs n)/\(ds++left.map (λp=>p.1)).Perm (keys cs)
theorem Mid1.len {Y:Res} {rows:List (List Value)} {cs:List Cm} {c:FC} {left:List (Nm×Value)} (h:Mid1 Y rows cs c left):rows.length≤cs.length:=by
 obtain ⟨ds,h1,h2⟩:=h
 have h3:=h2.length_eq
 have h4:=AA cs
 have h5:=List.length_filter_le (λn=>(feat c n).isNone) ds
 rw [h1.1,List.length_map]
 rw [List.length_append] at h3
 omega
attribute [local irreducible] Go.Ck.Sub St Cd Xt Nx DrL LsW
section
variable {X Y:Res} {v v':Value} {us us':List Value}

theorem AC {mb : Nat} {m : List (Nm × Value)} {fl : Nm -> Fl} {l : FS} {c : FC} {uc : List Value} (hl : Ls X v l) (hc : Enc.rep X uc c) (hm : FlR X m fl) (hf : ∀ p ∈ c.pars, (ae l p.name).forms.length = p.args.length /\ p.und.length ≤ 1099511627776) (hb : (comes fl l c).length * 280 ≤ 1099511627776) (hn : (c.feats.map λf => f.name).Nodup)
  (hbS:(nI<|comes fl l c).length * 32≤1099511627776) (hbP:((comes fl l c).flatMap λx=>x.mem.pre).length * 40≤1099511627776) (hbQ:((comes fl l c).flatMap λx=>x.mem.post).length * 40≤1099511627776) (hbF:c.feats.length * 256≤1099511627776) :
  CtX prog 57 #[.agg #[v,.map (some mb)],.agg uc.toArray] X [mps mb m] λu Y k'=>k'=[mps mb m]/\Ls Y u (members (comes fl l c) c):=by
 have hml:maxLen=9223372036854775807:=rfl
 have hrb:reachBytes=140737488351232:=rfl
 have hby:=xe (mb:=mb) hl hc hm hf hb
 have hc0:=hc
 obtain ⟨ca,cb,ce,cf,ci,rfl,hca,hcb,hce,hcf,hci⟩:=gD hc
 obtain ⟨cf,cfk,rfl,hcfl,_⟩:=id hcf.form
 have hkl:=AA<|comes fl l c
 have hraw:=CG (comes fl l c) hn
 have hmem:members (comes fl l c) c=rA (ui (comes fl l c) c):=rfl
 rw [hmem]
 have hSu:=λn=>AB (λx=>x.mem.seeds) (comes fl l c) n
 have hPu:=λn=>AB (λx=>x.mem.pre) (comes fl l c) n
 have hQu:=λn=>AB (λx=>x.mem.post) (comes fl l c) n
 unfold nI at hbS
 generalize comes fl l c=cs at hb hbS hbP hbQ hkl hraw hSu hPu hQu hby ⊢
 unfold CtX at hby ⊢
 refine aL (n:=58) func57 Z Z (len Z) λhr w0=>?_
 refine cQ (aP Z Z λb2=>?_)
 refine aP Z Z λb3=>?_
 refine sA Z<|sK [2,3,4] Z<|cQ<|sV (af Z gZ Z ag) ?_
 refine sV (af Z gL Z ag) ?_
 refine aJ Z Z J9 Z (hby) ?_
 rintro u h' ⟨Y,k',rfl,hE,bm,E,rfl,rfl,hbk⟩
 simp only [lC,lN]
 refine sA Z<|sK [3,4,5] Z<|cQ<|sA Z<|sN<|nT<|cS<|cS (fQ (r:=BN E) slq λhokE=>?_)
 refine Iw [BN E] Y λY2 hE2 hsel=>?_
 have hls:=KH hbk hE2 hokE (hsel _ _ .here) hb
 have hlk:=yX hbk.1 hls
 have hk0:=hbk.1
 refine dK (cZ 75 14)<|cR<|sM Z (Ay Z sQ slq (ltn Z) λib hndE=>?_)
 refine sK [3,4,5,6,17] Z<|cB<|aW (σ := Value×List (List Value)×Res×List (Nm×Value)×Option (Nm×Value)) (λq=>[(3,.pointer (some ⟨b3,0,none⟩)),(5,.map (some bm)),(6,q.1),(17,.pointer (some ⟨ib,0,none⟩))]) (λq=>wZ bm ib (kw E) q.2.2.2.1 q.2.2.2.2::VR q.1 75 14 q.2.1::pt b3 (cl [sv c.name,.bool c.dfd,ca,cb,ce,.slice cf c.feats.length cfk,ci] 44)::q.2.2.1::mps mb m::hr) (λq=>q.1.oneCell'=true/\Ext Y2 q.2.2.1/\Mid1 q.2.2.1 q.2.1 cs c q.2.2.2.1/\∀ p∈q.2.2.2.1,p∈kw E) (λq=>q.2.2.2.1.length) (.slice none 0 0,[],Y2,kw E,none) ⟨Z,Ext.refl Y2,⟨[],Rws.nil,by rw [List.nil_append,jQ,hk0]⟩,λp hp=>hp⟩ ?_
 rintro ⟨w,rows,Zq,left,last⟩ ⟨hw,hE3,hmid,hsub⟩
 simp only at hw hE3 hmid hsub
 dsimp only
 refine cQ<|Dc Z slq (ltn Z) (λhl0=>?_)<|λk v1 left' hp=>?_
 ·subst hl0
  obtain ⟨ds,hr0,hds⟩:=hmid
  rw [List.map_nil,List.append_nil] at hds
  have hfin:(((ds.filter λn=>(feat c n).isNone).map λn=>joined<|under cs n)++c.feats.map λf=>jN c f<|under cs f.name).Perm (ui cs c):=((hds.filter _).map _).append_right _
  generalize ((ds.filter λn=>(feat c n).isNone).map λn=>joined<|under cs n)=ms0 at hr0 hfin
  have hnfin:=(hfin.map λm=>m.name).nodup_iff.2 hraw
  have hlen0:ms0.length+c.feats.length≤cs.length+c.feats.length:=by
   have:=hfin.length_eq
   simp only [List.length_append,List.length_map] at this
   have h8:(ui cs c).length≤cs.length+c.feats.length:=by
    unfold ui
    rw [List.length_append,List.length_map,List.length_map]
    have:=List.length_filter_le (λn=>(feat c n).isNone)<|keys cs
    omega
   omega
  have hlenF:=hfin.length_eq
  rw [List.length_append,List.length_map] at hlenF
  refine sV (ah Z Z)<|sK [3,5,6,17,19] Z<|cS<|aH Z ?_
  refine aC<|xE<|xE<|xY<|xT<|cS<|cS<|GM slq ?_
  refine cR<|sV (vF Z kF Z)<|sV (vY Z yu) ?_
  refine sV (aF Z underlying41)<|sM Z<|sK [3,5,6,38,39,40] Z<|cB<|aW (σ := Value×List (List Value)×Res×Nat) (λq=>[(3,.pointer (some ⟨b3,0,none⟩)),(5,.map (some bm)),(6,q.1),(38,.slice cf c.feats.length cfk),(39,.int .i64 c.feats.length),(40,.int .i64 (q.2.2.2:Nat))]) (λq=>mps bm (kw E)::VR q.1 75 14 q.2.1::pt b3 (cl [sv c.name,.bool c.dfd,ca,cb,ce,.slice cf c.feats.length cfk,ci] 44)::q.2.2.1::mps mb m::hr) (λq=>q.1.oneCell'=true/\Ext Y2 q.2.2.1/\Rws q.2.2.1 q.2.1 (ms0++(c.feats.take q.2.2.2).map λf=>jN c f<|under cs f.name)/\q.2.2.2≤c.feats.length) (λq=>c.feats.length - q.2.2.2) (w,rows,Zq,0) ⟨hw,hE3,by simpa using hr0,Nat.zero_le _⟩ ?_
  rintro ⟨w,rows,Zq,i⟩ ⟨hw,hE3,hro,hi⟩
  simp only at hw hE3 hro hi
  dsimp only
  refine cQ<|sV (aN Z Z)<|sN<|nT<|cS<|cC Z (λhd=>?_)<|λhd=>?_
  ·have hlt:i<c.feats.length:=Zx
   have hrl:rows.length=ms0.length+i:=by rw [hro.1]; simp; omega
   have htk:=bV hlt
   obtain ⟨fb,fo,fcap,fus,e1,hfus,hfrd,hfr⟩:=((hcf.up<|hE.trans hE2).up hE3).at<|Zy hlt
   obtain ⟨rfl,rfl⟩:cf=some ⟨fb,fo,none⟩/\cfk=fcap:=by cases e1; exact ⟨rfl,rfl⟩
   generalize c.feats[i]=f at hfr htk
   have hfr0:=hfr
   obtain ⟨x2,x3,fy,x9,x10,x11,x12,x13,x14,rfl,-⟩:=nJ hfr
   have hfo:=Enc.ones hfr0
   have how:=own_ct (Enc.up ((hE.trans hE2).trans hE3).rd hc0) hfr0 ((hlk f.name).up hE3) (by have:=hSu f.name; unfold nI; omega) (by have:=hPu f.name; omega) (by have:=hQu f.name; omega)
   unfold CtX at how
   generalize hJ:jN c f (under cs f.name)=J at how
   unfold Au at *
   refine cK<|xT<|cS<|cB<|cQ<|sV (vI (k:=i) Z Z sl41 Z hlt Z)<|sV (af Z oq Z hfrd) ?_
   refine ak lS λb12=>?_
   refine ai Z Z jX Z hfo ?_
   refine sK [3,5,6,12,38,39,40] Z<|cR<|sM Z<|sV (af Z gL Z ag) ?_
   refine sV (af Z oq Z ag) ?_
   refine sM Z<|sV (vF Z o8 Z)<|sV (vY Z ld9) ?_
   refine sV (bI Z Z sQ tN slq) ?_
   refine aJ Z Z en123 Z (how) ?_
   rintro u h' ⟨Z2,k2,rfl,hE4,rfl,us,rfl,hrep⟩
   simp only [lC,lN]
   have hone:=Enc.ones hrep
   obtain ⟨j2,j5,jy,j11,j12,j13,rfl,-⟩:=bZ hrep
   unfold fI at *
   refine au (cells:=[sv J.name,.int .i64 J.kind,j2,sv J.impl.cls,sv J.impl.name,j5,.int .i64 J.ty.kind,sv J.ty.name,jy,.bool J.ty.void,.bool J.ty.sep,j11,j12,j13]) Z underlying52 vB Z Z Zz (ltn Z) λb52=>?_
   refine d9 [[sv J.name,.int .i64 J.kind,j2,sv J.impl.cls,sv J.impl.name,j5,.int .i64 J.ty.kind,sv J.ty.name,jy,.bool J.ty.void,.bool J.ty.sep,j11,j12,j13]] Z Z underlying52 vB Z (by decide) (show Sel _ (VR w 75 14 rows) _ from slq) (by simp) Z (λj u2 hu2=>bS<|bU Zr) (by simpa using hone) (by omega) (by omega) (ltn Z) λw2 hw2 _=>?_
   refine sA Z<|sN<|nK [3,5,6,38,39,40] Z<|ax<|xB<|xT<|cR<|sV (aI Z Z Z0)<|sM Z<|sN<|nK [3,5,6,38,39,40] Z<|ax ?_
   refine aM (w2,rows++[[sv J.name,.int .i64 J.kind,j2,sv J.impl.cls,sv J.impl.name,j5,.int .i64 J.ty.kind,sv J.ty.name,jy,.bool J.ty.void,.bool J.ty.sep,j11,j12,j13]],Z2,i+1) ⟨hw2,hE3.trans hE4,by rw [htk,List.map_append,<- List.append_assoc]; exact (hro.up hE4).snoc (show Enc.rep Z2 _ (jN c f<|under cs f.name) from by rw [hJ]; exact hrep),hlt⟩ (by dsimp only; omega)
  ·have hie:i=c.feats.length:=by
    have:¬ i<c.feats.length:=Zx
    omega
   subst hie
   rw [List.take_length] at hro
   have hsl:(ms0++c.feats.map λf=>jN c f<|under cs f.name).length≤1099511627776:=by rw [List.length_append,List.length_map]; omega
   refine aC<|xE<|xE<|xY<|xT<|cQ<|sM Z<|aJ Z Z en124 Z (I6 hro hnfin hsl) ?_
   rintro u h' ⟨rfl,rows',hr',hrl',rfl⟩
   simp only [lC,lN]
   rw [I7 hfin hraw] at hr'
   have hml2:(rA<|ui cs c).length * 232≤reachBytes:=by
    have h1:(rA<|ui cs c).length=rows'.length:=hr'.1.symm
    have h2:=hro.1
    rw [List.length_append,List.length_map] at h2
    omega
   refine sK [6] Z<|cQ<|sM Z<|sA Z<|sK [4] Z<|cT (dZ (r:=VR w 75 14 rows') slq λhok=>?_)
   refine iy [VR w 75 14 rows'] Zq λY3 hE5 hsel3=>?_
   exact aj Z ⟨Y3,[mps mb m],Z,((hE.trans hE2).trans hE3).trans hE5,Z,Rws.ls (E:=75) (hr'.up hE5) hok (hsel3 _ _ .here) hml2⟩ sbq
 ·refine sV (ah Z Z)<|sK [3,5,6,17,19] Z<|cS<|aQ Z ?_
  refine cK<|xT<|cB<|cQ<|sV (De Z slq) ?_
  have hkv:(k,v1)∈kw E:=hsub _<|hp.mem_iff.2<|by simp
  have hsub':∀ p∈left',p∈kw E:=λp hp'=>hsub p<|hp.mem_iff.2<|by simp [hp']
  have hv1:Ls Zq v1 (under cs k):=by
   obtain ⟨e,he,hev⟩:=List.mem_map.1 hkv
   cases hev
   exact (hls e he).up hE3
  have hkk:k∈keys cs:=by rw [<- hk0,<- jQ]; exact List.mem_map.2 ⟨_,hkv,rfl⟩
  have hne:under cs k≠[]:=by
   obtain ⟨x,hx,hxn⟩:=ku.1 hkk
   exact List.ne_nil_of_mem<|List.mem_filter.2 ⟨hx,by simpa using hxn⟩
  have hrl:=hmid.len
  have hstep:∀ (Z2:Res) (us:List Value),Ext Zq Z2->Enc.rep Z2 us (joined<|under cs k)->feat c k=none->Mid1 Z2 (rows++[us]) cs c left':=λZ2 us he hr hfn=>by
   obtain ⟨ds,g1,g2⟩:=hmid
   have e1:[k].filter (λn=>(feat c n).isNone)=[k]:=by simp [hfn]
   refine ⟨ds++[k],by rw [List.filter_append,List.map_append,e1]; exact (g1.up he).snoc hr,?_⟩
   rw [List.append_assoc]
   exact ((hp.map λp=>p.1).append_left ds).symm.trans g2
  have hskip:(feat c k).isSome=true->Mid1 Zq rows cs c left':=λhfn=>by
   obtain ⟨ds,g1,g2⟩:=hmid
   refine ⟨ds++[k],?_,?_⟩
   ·have:(feat c k).isNone=false:=by cases hq:feat c k <;> simp [hq] at hfn ⊢
    have e1:[k].filter (λn=>(feat c n).isNone)=[]:=by simp [this]
    rw [List.filter_append,List.map_append,e1]
    simpa using g1
   ·rw [List.append_assoc]
    exact ((hp.map λp=>p.1).append_left ds).symm.trans g2
  refine sV (ah Z Z)<|sV (ah Z Z)<|sA Z<|sA Z<|sK [3,5,6,7,8,17] Z<|cQ<|sV (vF Z kF Z)<|sV (vY Z yu) ?_
  refine sM Z<|aJ Z Z xM Z (jc (n:=k)<|(hcf.up<|hE.trans hE2).up hE3) ?_
  rintro u h' ⟨rfl,fus,rfl,hfr⟩
  simp only [lC,lN]
  have hf15:fus.length=15:=Enc.len hfr
  have hfo:=Enc.ones hfr
  have hfeat:(c.feats.find? λf=>f.name == k)=feat c k:=rfl
  rw [hfeat]
  refine sM Z<|sV (ah Z Z)<|sV (ah Z Z) (ak lS λb9=>?_)
  refine ai (hl:=by rw [hf15]; rfl) Z Z jX hf15 hfo ?_
  refine sA Z<|sK [3,5,6,8,10,17] Z<|cQ<|sM Z<|sV (aZ Z)<|sK [3,5,6,8,17,31] Z<|cC Z (λhnf=>?_)<|λhnf=>?_
  ·have hfn:feat c k=none:=by cases hq:feat c k <;> simp [hq] at hnf ⊢
   have hj:=Db hv1 hne (by have:=hSu k; unfold nI; omega) (by have:=hPu k; omega) (by have:=hQu k; omega)
   unfold CtX at hj
   generalize hJ:joined (under cs k)=J at hj
   refine cR<|sM Z<|sM Z<|aJ Z Z en122 Z (hj) ?_
   rintro u h' ⟨Z2,k2,rfl,hE4,rfl,us,rfl,hrep⟩
   simp only [lC,lN]
   have hst:=hstep Z2 us hE4 (by rw [hJ]; exact hrep) hfn
   have hone:=Enc.ones hrep
   obtain ⟨j2,j5,jy,j11,j12,j13,rfl,-⟩:=bZ hrep
   unfold fI at *
   refine au (cells:=[sv J.name,.int .i64 J.kind,j2,sv J.impl.cls,sv J.impl.name,j5,.int .i64 J.ty.kind,sv J.ty.name,jy,.bool J.ty.void,.bool J.ty.sep,j11,j12,j13]) Z underlying52 vB Z Z Zz (ltn Z) λb35=>?_
   refine d9 [[sv J.name,.int .i64 J.kind,j2,sv J.impl.cls,sv J.impl.name,j5,.int .i64 J.ty.kind,sv J.ty.name,jy,.bool J.ty.void,.bool J.ty.sep,j11,j12,j13]] Z Z underlying52 vB Z (by decide) (show Sel _ (VR w 75 14 rows) _ from slq) (by simp) Z (λj u2 hu2=>bS<|bU Zr) (by simpa using hone) (by omega) (by omega) (ltn Z) λw2 hw2 _=>?_
   refine sA Z<|sN<|nK [3,5,6,17] Z<|ax<|xB ?_
   refine aM (w2,rows++[[sv J.name,.int .i64 J.kind,j2,sv J.impl.cls,sv J.impl.name,j5,.int .i64 J.ty.kind,sv J.ty.name,jy,.bool J.ty.void,.bool J.ty.sep,j11,j12,j13]],Z2,left',some (k,v1)) ⟨hw2,hE3.trans hE4,hst,hsub'⟩ (by dsimp only; rw [hp.length_eq,List.length_cons]; omega)
  ·have hfn:(feat c k).isSome=true:=by cases hq:feat c k <;> simp [hq] at hnf ⊢
   refine cK<|xB ?_
   refine aM (w,rows,Zq,left',some (k,v1)) ⟨hw,hE3,hskip hfn,hsub'⟩ (by dsimp only; rw [hp.length_eq,List.length_cons]; omega)
end
end Go.Fl
namespace Go.Fl
open Go Go.RowKit Go.Ck Go.Proofs Go.Proofs.Tryz Go.Proofs.YtknmacdbffgjgaaGreatDoor Fx Go.Hr
theorem KI {S:Res} {α β : Type} {sz:Nat} {X:List Value -> α -> Prop} {Y:List Value -> β -> Prop} {g : α -> β} {v:Value} {l:List α} (h:Row S sz X v l) (hx:∀ us x,X us x->Y us (g x)):Row S sz Y v (l.map g):=by
 obtain ⟨a,cap,h1,h2,h3,h4,h5⟩:=h
 refine ⟨a,cap,by rw [h1,List.length_map],by rw [List.length_map]; exact h2,h3,h4,λi y hi=>?_⟩
 rw [List.getElem?_map] at hi
 obtain ⟨x,hx1,rfl⟩:=Option.map_eq_some_iff.1 hi
 obtain ⟨b,o,us,g1,g2,g3,g4⟩:=h5 i x hx1
 exact ⟨b,o,us,g1,g2,g3,hx _ _ g4⟩
theorem wR {X:Res} {v:Value} {l:FS} (h:Ls X v l):mD X v (bC l):=KI h.1 λus c hc=>by
 have ho:=Enc.ones hc
 obtain ⟨a,b,e,f,i,rfl,h1,h2,h3,h4,h5⟩:=hc
 obtain ⟨fa,fc,rfl,_⟩:=id h4.form
 exact ⟨.bool c.dfd,a,b,e,fa,fc,i,Z,ho,KI h2.1 λus p hp=>by
  have ho:=Enc.ones hp
  obtain ⟨x1,x2,x3,x4,x5,rfl,_⟩:=hp
  exact ⟨x1,x2,x3,x4,x5,Z,ho⟩⟩
attribute [local irreducible] Go.Ck.Sub St Cd Xt Nx DrL LsW
section
variable {X Y:Res} {v v':Value} {us us':List Value}
def Ev (l:FS) (a:Nm):Option Grp:=if (ae l a).inv=[] then none else some ⟨a,(ae l a).inv⟩

theorem KJ {l : FS} {c : FC} {ms : List Mb} {fv mv : Value} {uc : List Value} (hl : Ls X v l) (hc : Enc.rep X uc c) (hm : Ls X mv ms) (hfv : fv.oneCell' = true) (hR : dQ (bC l) [c.name] = 0) (hb : (above (bC l) c.name).length ≤ 1099511627776) :
  CtX prog 60 #[.agg #[v,fv],.agg uc.toArray,mv] X [] λu Y k'=>k'=[]/\∃ us',u = .agg us'.toArray/\Enc.rep Y us' (flatOf l c ms):=by
 have hml:maxLen=9223372036854775807:=rfl
 have hrb:reachBytes=140737488351232:=rfl
 have hab:=FR (wR hl) c.name
 rw [hR] at hab
 rw [show okL 0 (above (bC l) c.name)=above (bC l) c.name from rfl] at hab
 have hfo:flatOf l c ms={ name:=c.name,dfd:=c.dfd,mems:=ms,inv:=(above (bC l) c.name).filterMap (Ev l) }:=rfl
 rw [hfo]
 generalize above (bC l) c.name=xs at hab hb ⊢
 obtain ⟨ca,cb,ce,cf,ci,rfl,hca,hcb,hce,hcf,hci⟩:=gD hc
 obtain ⟨ma,mk,rfl,_⟩:=id hm.form
 unfold CtX
 refine aL (n:=50) func60 Z Z (len Z) λhr w0=>?_
 refine cQ (aP Z Z λb3=>?_)
 refine aP Z Z λb4=>?_
 refine ak A9 λb6=>?_
 refine sK [2,3,4,6] Z<|cQ<|sV (vF Z dN Z)<|sV (vY Z ld9) ?_
 refine sV (vF Z Nq Z)<|sV (vY Z ld4) ?_
 refine sM Z<|sV (aO (cells:=[sv c.name,.bool c.dfd,.slice ma ms.length mk,.slice none 0 0]) Z<|λ_=>Zz) ?_
 refine ak A9 λb7=>?_
 refine ai Z Z wG Z Z ?_
 refine sK [3,4,6,7] Z<|cQ<|sV (vF Z J2 Z)<|sV (vY Z ld22) ?_
 refine sV (vF Z dN Z)<|sV (vY Z ld9) ?_
 refine aJ Z Z en41 Z (hab) ?_
 rintro u h' ⟨T,rfl,w,rfl,hw,rfl⟩
 simp only [lC,lN]
 refine sM Z<|sV (ah Z Z)<|sV (ah Z Z)<|sA Z<|sA Z<|sK [3,6,7,8] Z<|cS<|cS ?_
 unfold NR
 refine gz (v:=w) (E:=9) (sz:=1) (rows:=xs.map nC) slq λwa wc hwf hwl hwm=>?_
 rw [List.length_map] at hwf hwl
 subst hwf
 refine dK (cZ 170 2)<|cR<|sM Z<|sV (aF Z underlying40)<|sM Z<|sK [3,6,7,27,28,29] Z<|cB<|aW (σ := Value×List (List Value)×Nat) (λq=>[(3,.pointer (some ⟨b3,0,none⟩)),(6,.pointer (some ⟨b6,0,none⟩)),(7,.pointer (some ⟨b7,0,none⟩)),(27,.slice wa xs.length wc),(28,.int .i64 xs.length),(29,.int .i64 (q.2.2:Nat))]) (λq=>pt b7 (cl [sv c.name,.bool c.dfd,.slice ma ms.length mk,q.1] 55)::VR q.1 170 2 q.2.1::VR (.slice wa xs.length wc) 9 1 (xs.map nC)::pt b6 (cl [.string ⟨#[]⟩,.bool false,.slice none 0 0,.slice none 0 0] 55)::pt b3 (cl [v,fv] 114)::X::hr) (λq=>q.2.2≤xs.length/\q.1.oneCell'=true/\Rws X q.2.1 ((xs.take q.2.2).filterMap<|Ev l)) (λq=>xs.length - q.2.2) (.slice none 0 0,[],0) ⟨Nat.zero_le _,Z,Rws.nil⟩ ?_
 rintro ⟨iw,rows,i⟩ ⟨hi,hiw,hro⟩
 simp only at hi hiw hro
 dsimp only
 refine cQ<|sV (aN Z Z)<|sN<|nT<|cS<|cC Z (λhd=>?_)<|λhd=>?_
 ·have hlt:i<xs.length:=Zx
  have htk:=bV hlt
  have hrl:rows.length≤i:=by
   rw [hro.1]
   have:=List.length_filterMap_le (Ev l)<|xs.take i
   rw [List.length_take] at this
   omega
  have hnx:(xs.map nC)[i]? = some [sv xs[i]]:=by rw [List.getElem?_map,Zy hlt]; rfl
  refine fQ (r:=VR (.slice wa xs.length wc) 9 1<|xs.map nC) slq λhok=>?_
  obtain ⟨ab,ao,rfl⟩:∃ ab ao,wa=some ⟨ab,ao,none⟩:=by
   obtain ⟨f0,hf0⟩:=hok
   rcases VR.form hf0 with ⟨h3,h4⟩ | ⟨b,o,cp,h3,-⟩
   ·have:=List.map_eq_nil_iff.1 h4
    subst this; simp at hlt
   ·rw [List.length_map] at h3; cases h3; exact ⟨b,o,rfl⟩
  generalize hxi:xs[i]=x at hnx htk
  have hcc:=l9 (n:=x) (fv:=fv) hl hfv
  refine cK<|xT<|cS<|cB<|cQ<|sV (vI (k:=i) Z Z iZ Z hlt Z)<|sV (vY Z ld9 (ha:=⟨_,_,slq,eX hnx 0<|by simp⟩)) ?_
  refine sA Z<|sK [3,6,7,11,27,28,29] Z<|cQ<|sV (af Z gZ Z ag) ?_
  refine sM Z<|aJ Z Z en56 Z (hcc) ?_
  rintro u h' ⟨rfl,cus,rfl,hcr⟩
  simp only [lC,lN]
  obtain ⟨fa,fb,fc,fd,fe,rfl,-,-,-,-,hfi⟩:=gD hcr
  obtain ⟨fA,fK,rfl,_⟩:=id hfi.form
  refine sV (iU (k:=6) Z underlying44 Z isAgg42 Z)<|sA Z<|sK [3,6,7,11,12,27,28,29] Z<|cQ<|sM Z<|sV (aF Z underlying42)<|sV (bW Z Z)<|sK [3,6,7,11,12,27,28,29,39] Z<|cC Z (λhpos=>?_)<|λhpos=>?_
  ·have hne:¬ (ae l x).inv=[]:=λe=>by rw [e] at hpos; simp at hpos
   have hinv:Ev l x=some ⟨x,(ae l x).inv⟩:=by unfold Ev; rw [if_neg hne]
   refine cR<|sV (vF Z qX Z)<|sV (vY Z lL) ?_
   refine sM Z<|sM Z<|sV (aO (cells:=[sv x,.slice fA (ae l x).inv.length fK]) Z<|λ_=>Zz) ?_
   refine au (cells:=[sv x,.slice fA (ae l x).inv.length fK]) Z underlying53 nu Z Z Zz (ltn Z) λb45=>?_
   refine d9 [[sv x,.slice fA (ae l x).inv.length fK]] Z Z underlying53 nu Z (by decide) (show Sel _ (VR iw 170 2 rows) _ from slq) (by simp) Z (λj u2 hu2=>bS<|bU Zr) (by simp [sv,Value.oneCell']) (by omega) (by omega) (ltn Z) λw2 hw2 _=>?_
   refine sV (vF Z qX Z)<|bg Z Z nk ?_
   refine sN<|nK [3,6,7,27,28,29] Z<|ax<|xB<|xT<|cR<|sV (aI Z Z Z0)<|sM Z<|sN<|nK [3,6,7,27,28,29] Z<|ax ?_
   refine aM (w2,rows++[[sv x,.slice fA (ae l x).inv.length fK]],i+1) ⟨hlt,hw2,by rw [htk,List.filterMap_append]; simp only [List.filterMap_cons,hinv,List.filterMap_nil]; exact hro.snoc ⟨_,Z,hfi⟩⟩ (by dsimp only; omega)
  ·have hne:(ae l x).inv=[]:=by simpa using hpos
   have hinv:Ev l x=none:=by unfold Ev; rw [if_pos hne]
   refine cK<|xB<|xT<|cR<|sV (aI Z Z Z0)<|sM Z<|sN<|nK [3,6,7,27,28,29] Z<|ax ?_
   refine aM (iw,rows,i+1) ⟨hlt,hiw,by rw [htk,List.filterMap_append]; simp only [List.filterMap_cons,hinv,List.filterMap_nil,List.append_nil]; exact hro⟩ (by dsimp only; omega)
 ·have hie:i=xs.length:=by
   have:¬ i<xs.length:=Zx
   omega
  subst hie
  rw [List.take_length] at hro
  refine aC<|xE<|xE<|xY<|xT<|cQ<|sV (af Z tT Z ag) ?_
  have hone2:([sv c.name,.bool c.dfd,.slice ma ms.length mk,iw]:List Value).all Value.oneCell'=true:=by simp only [List.all_cons,List.all_nil,hiw,Bool.and_true,Bool.true_and]; rfl
  refine ai Z Z wG Z hone2 ?_
  refine sK [6] Z<|cT ?_
  have hil:(xs.filterMap<|Ev l).length * 40≤reachBytes:=by
   have:=List.length_filterMap_le (Ev l) xs
   omega
  refine dZ (r:=VR iw 170 2 rows) slq λhok=>?_
  refine iy [VR iw 170 2 rows] X λY2 hE2 hsel=>?_
  exact bE (.cellN Z tT Z slq .nil) ⟨Y2,[],Z,hE2,Z,_,Z,_,_,Z,hm.up hE2,Rws.ls (E:=170) (hro.up hE2) hok (hsel _ _ .here) hil⟩ sbr
end
end Go.Fl
namespace Go.Fl
open Go Go.RowKit Go.Ck Go.Proofs Go.Proofs.Tryz Go.Proofs.YtknmacdbffgjgaaGreatDoor Fx Go.Hr
theorem GU {c:Cx} {ex:Exit} {Q:Exit->Act->World->Prop} {e:Env} {h h':SH} {mb ib:Nat} {m left:List (Bs×Value)} {last:Option (Bs×Value)} (s:Sel h (wZ mb ib m left last) h') (hx:Xt c ex Q e (mps mb m::h')):Xt c ex Q e h:=λa w hk hh hw=>by
 have hh':=hh.sel s
 obtain ⟨_,es,ck,seen,g1,g2,hB,_⟩:=hh'.1
 exact hx a w hk ⟨⟨es,ck,g1,g2,hB⟩,λb hb=>hh'.2.1 b (.inl hb),hh'.2.2⟩ hw
attribute [local irreducible] Go.Ck.Sub St Cd Xt Nx DrL LsW
section
variable {X Y:Res} {v v':Value} {us us':List Value}
theorem Ma {σ : Type} {b1 bm yl : Nat} {m : List (Nm × Value)} (Inv : σ -> SH) (Φ : List Nm -> σ -> Prop) (s0 : σ) (h0 : Φ [] s0) (hy : ∀ (ds : List Nm) (k : Nm) (s : σ), ds.length < m.length -> Φ ds s -> Yc prog yl #[sv k] (Inv s) λu h' => u = .bool true /\ ∃ s', Φ (ds ++ [k]) s' /\ h' = Inv s') :
  Ct prog 266 #[.func (.yield yl) #[] #[],.pointer (some ⟨b1,0,none⟩)] (pt b1 (cl [.map (some bm)] 188)::mps bm m::Inv s0) λu h'=>u = .tuple #[]/\∃ ds s,ds.Perm (m.map λp=>p.1) /\ Φ ds s/\h'=pt b1 (cl [.map (some bm)] 188)::mps bm m::Inv s:=by
 refine aL (n:=14) func266 Z Z (len Z) λhr w0=>?_
 refine cQ<|sV (vY Z qW) ?_
 refine Ay Z sQ slq (ltn Z) λib hnd=>?_
 refine sK [0,5] Z<|cB<|aW (σ := List Nm×List (Nm×Value)×Option (Nm×Value) × σ) (λq=>[(0,.func (.yield yl) #[] #[]),(5,.pointer (some ⟨ib,0,none⟩))]) (λq=>wZ bm ib m q.2.1 q.2.2.1::pt b1 (cl [.map (some bm)] 188)::(Inv q.2.2.2++hr)) (λq=>(q.1++q.2.1.map λp=>p.1).Perm (m.map λp=>p.1) /\ Φ q.1 q.2.2.2) (λq=>q.2.1.length) ([],m,none,s0) ⟨by simp,h0⟩ ?_
 rintro ⟨ds,left,last,s⟩ ⟨hds,hΦ⟩
 simp only at hds hΦ
 dsimp only
 refine cQ<|Dc Z slq (ltn Z) (λhl0=>?_)<|λk v1 left' hp=>?_
 ·subst hl0
  rw [List.map_nil,List.append_nil] at hds
  refine sV (ah Z Z)<|sK [0,5,7] Z<|cS<|aH Z ?_
  refine aC<|xE<|xE<|xY<|GU slq ?_
  refine Cu (k:=pt b1 (cl [.map (some bm)] 188)::mps bm m::(Inv s++hr)) (.swap _ _ _) ?_
  exact zA Z ⟨Z,ds,s,hds,hΦ,Z⟩ sbq
 ·refine sV (ah Z Z)<|sK [0,5,7] Z<|cS<|aQ Z ?_
  refine cK<|xT<|cB<|cQ<|sV (De Z slq) ?_
  have hlen:ds.length<m.length:=by
   have h1:=hds.length_eq
   have h2:=hp.length_eq
   simp only [List.length_append,List.length_map,List.length_cons] at h1 h2
   omega
  have hyy:=hy ds k s hlen hΦ
  refine sV (ah Z Z)<|sA Z<|sK [0,3,5] Z<|cQ<|sM Z<|sM Z<|uU (gd:=0) (.inl Z) Z Z hyy (Pk.of (hr:=wZ bm ib m left' (some (k,v1))::pt b1 (cl [.map (some bm)] 188)::hr)<|by exact List.perm_append_comm_assoc [wZ bm ib m left' (some (k,v1)),pt b1 (cl [.map (some bm)] 188)] (Inv s) hr) (ltn Z) ?_
  rintro u h' ⟨rfl,s2,hΦ2,rfl⟩
  refine sV (aZ Z)<|sK [0,5,13] Z<|aH Z ?_
  refine cK<|xB<|Cu (k:=wZ bm ib m left' (some (k,v1))::pt b1 (cl [.map (some bm)] 188)::(Inv s2++hr)) (by exact List.perm_append_comm_assoc (Inv s2) [wZ bm ib m left' (some (k,v1)),pt b1 (cl [.map (some bm)] 188)] hr) ?_
  refine aM (ds++[k],left',some (k,v1),s2) ⟨by rw [List.append_assoc]; exact ((hp.map λp=>p.1).append_left ds).symm.trans hds,hΦ2⟩ (by dsimp only; rw [hp.length_eq,List.length_cons]; omega)
theorem en266:Ck.Enters prog 266:=enters_of func266 Zz rfl
theorem Mc {b1 bm:Nat} {m:List (Nm×Value)} (hb:m.length * 16≤1099511627776):Ct prog 294 #[.slice none 0 0,.func (.func 266) #[] #[.pointer (some ⟨b1,0,none⟩)]] [pt b1 (cl [.map (some bm)] 188),mps bm m] λu h'=>∃ ds,ds.Perm (m.map λp=>p.1)/\u.oneCell'=true/\h'=[NR u ds,pt b1 (cl [.map (some bm)] 188),mps bm m]:=by
 have hml:maxLen=9223372036854775807:=rfl
 refine qQ (n:=13) func294 Z Z (len Z) λhr w0=>?_
 refine cQ (aP Z Z λb2=>?_)
 refine sA Z<|sK [1,2,4] Z<|cS<|cQ<|sM Z<|sK [2,4,6] Z<|cB<|dK (cZ 9 1) (jg Z en266 λyl db rec hst hpe hps hasg hbo hkn2=>?_)
 refine ⟨_,Ct.perm (Ma (σ := Value×List Nm) (b1:=b1) (bm:=bm) (yl:=yl) (m:=m) (λq=>pt yl (.loop rec)::pt db (.deferred<|some [])::pt b2 (cl [q.1] 40)::NR q.1 q.2::hr) (λds q=>q.2=ds/\q.1.oneCell'=true) (.slice none 0 0,[]) ⟨Z,Z⟩ ?_) ?_,?_⟩
 ·rintro ds k ⟨w,xs⟩ hlt ⟨rfl,hw⟩
  dsimp only at hlt hw ⊢
  unfold NR
  refine Yc.perm (qO (n:=13) (rec:=rec) (args:=[sv k]) (hf:=pt db (.deferred<|some [])::pt b2 (cl [w] 40)::VR w 9 1 (xs.map nC)::hr) (by rw [hps]; rfl) hkn2 (by rw [hps]; decide) ?_) (by exact (by repeat (first | exact Pm.refl | refine Pm.cons slq ?_):Pm _ _).perm)
  intro hr2 w1
  rw [hasg,hps,hbo]
  simp only [lC,lN]
  refine cR<|sA Z<|sN<|nK [2,4,5] Z<|ax<|lG Z slq (by first | rfl | assumption) ?_
  refine cB<|cR<|sV (vY Z fq) ?_
  refine sM Z (au (cells:=[sv k]) Z underlying40 fP Z Z Zz (ltn Z) λb10=>?_)
  refine d9 [[sv k]] Z Z underlying40 fP Z (by decide) (show Sel _ (VR w 9 1<|xs.map nC) _ from slq) (by simp) Z (λj u2 hu2=>bS<|bU Zr) (by simp [sv,Value.oneCell']) (by rw [List.length_map]; omega) (by rw [List.length_map]; omega) (ltn Z) λw2 hw2 _=>?_
  rw [show xs.map nC++[[sv k]]=(xs++[k]).map nC by simp [nC]]
  refine bg Z Z yn ?_
  refine sN<|nK [4] Z<|ax<|xB<|dA slq ⟨Z,(w2,xs++[k]),⟨Z,hw2⟩,Z⟩ ?_
  rw [dB hst hpe]
  exact sbq
 ·simp only [lC,lN]
  exact (by repeat (first | exact Pm.refl | refine Pm.cons slq ?_):Pm _ _).perm
 ·rintro u h' ⟨rfl,ds,⟨w,xs⟩,hds,⟨rfl,hw⟩,rfl⟩
  dsimp only at hw ⊢
  refine ⟨rec,_,slq,(by rw [hst]; simp),?_⟩
  rw [hpe]
  dsimp only
  refine xB<|xT<|cQ<|sV (vY Z fq) ?_
  refine sA Z<|sK [4] Z<|cT ?_
  exact jU (bs:=[db]) Z Z ⟨xs,hds,hw,Z⟩ sbq
theorem uC {bm:Nat}:Ct prog 213 #[.map (some bm)] [] λu h'=>∃ b1,u = .func (.func 266) #[] #[.pointer (some ⟨b1,0,none⟩)]/\h'=[pt b1 (cl [.map (some bm)] 188)]:=by
 refine aL (n:=4) func213 Z Z (len Z) λhr w0=>?_
 refine cQ (aP Z Z λb1=>?_)
 refine sA Z<|sK [1,2] Z<|cQ<|sV (cz Z Z)<|sA Z<|sK [2] Z<|cT ?_
 exact aj Z ⟨_,Z,Z⟩ sbq
theorem Be {b1 bm:Nat} {m:List (Nm×Value)} (hb:m.length * 16≤1099511627776):Ct prog 264 #[.func (.func 266) #[] #[.pointer (some ⟨b1,0,none⟩)]] [pt b1 (cl [.map (some bm)] 188),mps bm m] λu h'=>∃ ds,ds.Perm (m.map λp=>p.1)/\u.oneCell'=true/\h'=[NR u ds,pt b1 (cl [.map (some bm)] 188),mps bm m]:=by
 refine aL (n:=5) func264 Z Z (len Z) λhr w0=>?_
 refine cQ<|sA Z<|sN<|nT<|cQ<|sM Z<|aJ Z Z en294 Z (Mc hb) ?_
 rintro u h' ⟨ds,hds,hu,rfl⟩
 simp only [lC,lN]
 refine sA Z<|sK [2] Z<|cT ?_
 exact aj Z ⟨ds,hds,hu,Z⟩ sbq
theorem p8 {b1 bm:Nat} {m:List (Nm×Value)} (hb:m.length * 16≤1099511627776) (hn:(m.map λp=>p.1).Nodup):Ct prog 212 #[.func (.func 266) #[] #[.pointer (some ⟨b1,0,none⟩)]] [pt b1 (cl [.map (some bm)] 188),mps bm m] λu h'=>u.oneCell'=true/\h'=[NR u (srt (m.map λp=>p.1)),pt b1 (cl [.map (some bm)] 188),mps bm m]:=by
 refine aL (n:=9) func212 Z Z (len Z) λhr w0=>?_
 refine cQ<|sA Z<|sN<|nT<|cQ<|sM Z<|aJ Z Z en264 Z (Be hb) ?_
 rintro u h' ⟨ds,hds,hu,rfl⟩
 simp only [lC,lN]
 have hnd:=hds.nodup_iff.2 hn
 have hdl:ds.length≤1099511627776:=by rw [hds.length_eq,List.length_map]; omega
 have hsr:srt ds=srt (m.map λp=>p.1):=(iQ ds).1.ext (iQ _).1 λx=>by rw [(iQ ds).2,(iQ _).2,hds.mem_iff]
 refine sA Z<|sK [2,3] Z<|cQ<|sM Z<|aJ Z Z en265 Z (Sort_ct hnd hdl) ?_
 rintro u2 h' ⟨rfl,rfl⟩
 simp only [lC,lN]
 rw [hsr]
 refine sK [2,3] Z<|cQ<|sM Z<|sA Z<|sK [2] Z<|cT ?_
 exact aj Z ⟨hu,Z⟩ sbq
end
section
variable {X Y:Res} {v v':Value} {us us':List Value}
def eZ (v fv:Value) (c:FC) (ca cb ce cf ci:Value) (mv bv:Value) (all:Bool):List Value:=[v,fv,sv c.name,.bool c.dfd,ca,cb,ce,cf,ci,mv,bv,.bool all]
theorem fU {fv:Value} {c:FC} {ca cb ce cf ci mv bv:Value} {all:Bool} (k:Int) (n:Nm) (a b:Og):Ct prog 204 #[.agg (eZ v fv c ca cb ce cf ci mv bv all).toArray,.int .i64 k,sv n,.agg #[sv a.par,sv a.name],.agg #[sv b.par,sv b.name]] [] λu h'=>u=cfV ⟨k,c.name,n,[],a,b⟩/\h'=[]:=by
 unfold eZ cfV cfC
 refine aL (n:=19) func204 Z Z (len Z) λhr w0=>?_
 refine cQ (aP Z Z λb5=>?_)
 refine aP Z Z λb8=>?_
 refine aP Z Z λb9=>?_
 refine ak DZ λb10=>?_
 refine sK [1,2,5,8,9,10] Z<|cQ<|sM Z<|sV (vF Z gU Z)<|sV (vF Z dN Z)<|sV (vY Z ld9) ?_
 refine sM Z<|sV (af Z qC Z ag) ?_
 refine sV (af Z qC Z ag) ?_
 refine sV (aO (cells:=[.int .i64 k,sv c.name,sv n,sv [],sv a.par,sv a.name,sv b.par,sv b.name]) Z<|λ_=>Zz) ?_
 refine ai Z Z wF Z Z ?_
 refine sK [10] Z<|cT ?_
 exact bE (.cellN Z tO Z slq .nil) ⟨Z,Z⟩ sbr
theorem Oz {β : Type} (f:Mb->List β) {l:List Mb} {i:Nat} (h:i<l.length):((l.take i).flatMap f).length+(f l[i]).length≤(l.flatMap f).length:=by
 have h1:l=l.take i++l[i]::l.drop (i+1):=by rw [List.getElem_cons_drop,List.take_append_drop]
 have h2:=congrArg (λx=>(x.flatMap f).length) h1
 simp only [List.flatMap_append,List.flatMap_cons,List.length_append] at h2
 omega
theorem xV {ms:List Mb} (hv:Ls X v ms) (hb:(ms.flatMap λm=>m.seeds).length * 32≤1099511627776):Ct prog 219 #[v] [X] λu h'=>u.oneCell'=true/\h'=[VR u 69 2 ((ry (ms.flatMap λm=>m.seeds)).map sdC),X]:=by
 have hml:maxLen=9223372036854775807:=rfl
 obtain ⟨a,cap,rfl,hlc,hcm,_⟩:=id hv.form
 refine aL (n:=21) func219 Z Z (len Z) λhr w0=>?_
 refine cQ<|sA Z<|sN<|nT<|cQ<|sA Z<|sN<|nT<|cS<|cQ<|sM Z<|sV (aF Z underlying52)<|sM Z ?_
 refine sK [2,3,6,7,8] Z<|cB<|dK (cZ 69 2)<|aW (σ := Value×Nat) (λq=>[(3,q.1),(6,.slice a ms.length cap),(7,.int .i64 ms.length),(8,.int .i64 (q.2:Nat))]) (λq=>VR q.1 69 2 (((ms.take q.2).flatMap λm=>m.seeds).map sdC)::X::hr) (λq=>q.2≤ms.length/\q.1.oneCell'=true) (λq=>ms.length - q.2) (.slice none 0 0,0) ⟨Nat.zero_le _,Z⟩ ?_
 rintro ⟨w,i⟩ ⟨hi,hw⟩
 simp only at hi hw
 dsimp only
 refine cQ<|sV (aN Z Z)<|sN<|nT<|cS<|cC Z (λhd=>?_)<|λhd=>?_
 ·have hlt:i<ms.length:=Zx
  obtain ⟨b,o,cap2,us,e1,hus,hrd,hre⟩:=hv.at<|Zy hlt
  cases e1
  have hS:=Oz (λm=>m.seeds) hlt
  have htk:=bV hlt
  generalize ms[i]=x at hre hS htk
  have hone:=Enc.ones hre
  obtain ⟨x2,x5,xy,x11,x12,x13,rfl,hx2,-⟩:=bZ hre
  obtain ⟨ax2,kx2,rfl,_⟩:=id hx2.form
  unfold fI at *
  have hfm:(ms.take (i+1)).flatMap (λm=>m.seeds)=(ms.take i).flatMap (λm=>m.seeds)++x.seeds:=by rw [htk]; simp
  refine cK<|xT<|cS<|cB<|cQ<|sV (vI (k:=i) Z Z kQ Z hlt Z)<|sV (af Z dJ Z hrd) ?_
  refine ak iR λb5=>?_
  refine ai Z Z gF Z hone ?_
  refine sK [3,5,6,7,8] Z<|cR<|sM Z<|sV (vF Z dP Z)<|sV (vY Z nz) ?_
  refine rH hx2.1 Z Z underlying67 Cr Z (by decide) (show Sel _ (VR w 69 2<|((ms.take i).flatMap λm=>m.seeds).map sdC) _ from slq) (show Sel _ X _ from slq) (λus x _ hr u hu=>List.all_eq_true.1 (Enc.ones hr) u hu) (by rw [List.length_map]; omega) (by rw [List.length_map]; omega) (ltn Z) λw2 news hw2 hn1 hn2 hn3=>?_
  rw [KC hn1 hn3,<- List.map_append,<- hfm]
  refine sA Z<|sN<|nK [3,6,7,8] Z<|ax<|xB<|xT<|cR<|sV (aI Z Z Z0)<|sM Z<|sN<|nK [3,6,7,8] Z<|ax ?_
  refine aM (w2,i+1) ⟨hlt,hw2⟩ (by dsimp only; omega)
 ·have hie:i=ms.length:=by
   have:¬ i<ms.length:=Zx
   omega
  subst hie
  have hjs:(ms.flatMap λm=>m.seeds).length≤1099511627776:=by omega
  rw [List.take_length]
  refine aC<|xE<|xE<|xY<|xT<|cQ<|sM Z<|aJ Z Z en197 Z (Ao hjs) ?_
  rintro u h' ⟨rfl,ys,hperm,hcs,rfl⟩
  simp only [lC,lN]
  refine sK [3] Z<|cQ<|sM Z<|aJ Z Z en199 Z (Ap (xs:=ys)) ?_
  rintro u h' ⟨hu,rfl⟩
  simp only [lC,lN]
  rw [hcs]
  refine sA Z<|sK [2] Z<|cT ?_
  exact aj Z ⟨hu,Z⟩ sbq
end
end Go.Fl
