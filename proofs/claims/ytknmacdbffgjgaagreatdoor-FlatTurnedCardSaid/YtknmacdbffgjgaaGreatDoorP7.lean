/-
  The reference: whether lists of variables,expressions,clauses,groups,members,flat forms are equal. Conditions: what is read.
-/
import Derived.Test.YtknmacdbffgjgaaGreatDoorP6
set_option linter.unusedVariables false
set_option linter.unusedSimpArgs false
set_option maxRecDepth 100000
set_option maxHeartbeats 16000000
namespace Go.Fl
open Go Go.RowKit Go.Ck Go.Proofs Go.Proofs.Tryz Go.Proofs.YtknmacdbffgjgaaGreatDoor Fx Go.Hr
theorem v_imax {P:Program} {e:Env} {h:SH} {ty':TypeId} {x y:Operand} {ts:Array TypeId} {k:IntKind} {a b:Int} (hx:e.ev? x=some (.int k a)) (hy:e.ev? y=some (.int k b)):Vop P e h (.call { callee:=.builtin .max,args := #[x,y],argTypes:=ts }) ty' (.int k (if b>a then b else a)):=
 ⟨by simp,by simp,λρ w d pos after g hρ _=>by
  simp [execOp,resolve,invoke,builtin,hρ x _ hx,hρ y _ hy,Builtin.max_,Builtin.max2]⟩
attribute [local irreducible] Go.Ck.Sub St Cd Xt Nx DrL LsW
section
variable {X:Res} {v v':Value} {us us':List Value}
def pE (x:Cm) (x2 x5 y x11 x12 x13:Value):List Value:=[sv x.og.par,sv x.og.name,.int .i64 x.par,sv x.mem.name,.int .i64 x.mem.kind,x2,sv x.mem.impl.cls,sv x.mem.impl.name,x5,.int .i64 x.mem.ty.kind,sv x.mem.ty.name,y,.bool x.mem.ty.void,.bool x.mem.ty.sep,x11,x12,x13,.int .i64 x.was]
theorem iD {x:Cm} (h:Enc.rep X us x):∃ x2 x5 y x11 x12 x13,us=pE x x2 x5 y x11 x12 x13/\mbL X x.mem x2 x5 y x11 x12 x13:=by
 obtain ⟨ms,rfl,hm⟩:=h
 obtain ⟨x2,x5,y,x11,x12,x13,rfl,hl⟩:=dN hm
 exact ⟨x2,x5,y,x11,x12,x13,Z,hl⟩
theorem cm_of {x:Cm} {x2 x5 y x11 x12 x13:Value} (h:mbL X x.mem x2 x5 y x11 x12 x13):Enc.rep X (pE x x2 x5 y x11 x12 x13) x:=⟨_,rfl,qP h⟩
theorem Fj {α : Type} [Enc α] {R:Res} {b:Nat} {p q : α} {ux uy:List Value} (h1:Enc.rep R ux p) (h2:Enc.rep R uy q) (hx:Rds R b 0 ux) (hy:Rds R b (Enc.sz α) uy) (hb:2 * Enc.by' α <= reachBytes):Ls R (.slice (some ⟨b,0,none⟩) 2 2) [p,q]:=
 ⟨⟨some ⟨b,0,none⟩,2,rfl,Nat.le_refl _,by decide,(λh=>by cases h),λi z hi=>by
  match i,hi with
  | 0,hi=>cases hi; exact ⟨b,0,ux,rfl,Enc.len h1,by rw [Nat.zero_mul,Nat.add_zero]; exact hx,h1⟩
  | 1,hi=>cases hi; exact ⟨b,0,uy,rfl,Enc.len h2,by rw [Nat.one_mul,Nat.zero_add]; exact hy,h2⟩⟩,hb⟩
theorem jN {α : Type} [Enc α] {R:Res} {b:Nat} {p : α} {ux:List Value} (h1:Enc.rep R ux p) (hx:Rds R b 0 ux) (hb:1 * Enc.by' α <= reachBytes):Ls R (.slice (some ⟨b,0,none⟩) 1 1) [p]:=
 ⟨⟨some ⟨b,0,none⟩,1,rfl,Nat.le_refl _,by decide,(λh=>by cases h),λi z hi=>by
  match i,hi with
  | 0,hi=>cases hi; exact ⟨b,0,ux,rfl,Enc.len h1,by rw [Nat.zero_mul,Nat.add_zero]; exact hx,h1⟩⟩,hb⟩
theorem Jt {x:Cm} (h:Enc.rep X us x):Reads prog 194 #[.agg us.toArray] [X] (.bool (!x.dfd)):=by
 have hd:=AX h
 obtain ⟨x2,x5,xy,x11,x12,x13,rfl,hx2,hx5,hxy,hx11,hx12,hx13⟩:=iD h
 have ho:=Enc.ones h
 have hl:=Enc.len h
 unfold pE at *
 refine aJ (n:=6) func194 Z Z (len Z) λhr w0=>?_
 refine cQ (aV Z Z λb1=>?_)
 refine sA Z<|sK [1,2] Z<|cQ<|sV (af Z ik Z ag) ?_
 refine bf Z Z Gg Z (hd) ?_
 refine sV (bg Z)<|sA Z<|sK [2] Z<|cT ?_
 exact aj Z ⟨Z,Z⟩ sbq
theorem en194:Ck.Enters prog 194:=enters_of func194 Zz rfl


def jix (l:List Cm):Nat:=(l.findIdx? λx => !x.dfd).getD 0
theorem Ju {l:List Cm} (h:l≠[]):jix l<l.length:=by
 unfold jix
 cases hq:l.findIdx? λx => !x.dfd with
 | none=>exact List.length_pos_iff.2 h
 | some i=>exact (List.findIdx?_eq_some_iff_getElem.1 hq).1
theorem jix_mem {l:List Cm} (h:l≠[]):(match l.find? (λ(x:Cm) => !x.dfd) with | some x=>x.mem | none=>(l.head?.map λ(x:Cm)=>x.mem).getD mb0)=(l[jix l]'(Ju h)).mem:=by
 cases hq:l.findIdx? λx => !x.dfd with
 | none =>
  have h1:l.find? (λ(x:Cm) => !x.dfd)=none:=by
   rw [List.find?_eq_none]
   intro x hx
   have:=List.findIdx?_eq_none_iff.1 hq x hx
   simp [this]
  rw [h1]
  have h2:jix l=0:=by unfold jix; rw [hq]; rfl
  simp only [h2]
  cases l with
  | nil=>exact absurd rfl h
  | cons x t=>rfl
 | some i =>
  obtain ⟨hi,hg,hb⟩:=List.findIdx?_eq_some_iff_getElem.1 hq
  have h1:l.find? (λ(x:Cm) => !x.dfd)=some l[i]:=by
   rw [List.find?_eq_some_iff_getElem]
   exact ⟨hg,i,hi,Z,λj hj=>by simpa using hb j hj⟩
  have h2:jix l=i:=by unfold jix; rw [hq]; rfl
  rw [h1]
  simp only [h2]
theorem jix_max {l:List Cm}:(if ixI (l.findIdx? λx => !x.dfd)>0 then ixI (l.findIdx? λx => !x.dfd) else 0)=(jix l:Nat):=by
 unfold jix
 cases l.findIdx? λx => !x.dfd with
 | none=>rfl
 | some i=>show (if (i:Int)>0 then (i:Int) else 0)=(i:Nat); split <;> omega
def mR (l:List Cm):List Grp:=l.foldl (λ(o:List Grp) (x:Cm)=>groups [o,x.mem.pre]) []
def iE (l:List Cm):List Grp:=l.foldl (λ(o:List Grp) (x:Cm)=>groups [o,x.mem.post]) []
def oq (l:List Cm):List Sd:=l.flatMap λ(x:Cm)=>x.mem.seeds
theorem xw {l:List Cm} (h:l≠[]):joined l={ (l[jix l]'(Ju h)).mem with seeds:=nX (oq l),pre:=mR l,post:=iE l }:=by
 have e:joined l={ (match l.find? (λ(x:Cm) => !x.dfd) with | some x=>x.mem | none=>(l.head?.map λ(x:Cm)=>x.mem).getD mb0) with seeds:=nX (oq l),pre:=mR l,post:=iE l }:=rfl
 rw [e,jix_mem h]
theorem DU (l:List Cm) (x:Cm):mR (l++[x])=groups [mR l,x.mem.pre]:=by simp [mR]
theorem Bb (l:List Cm) (x:Cm):iE (l++[x])=groups [iE l,x.mem.post]:=by simp [iE]
theorem Mo (l:List Cm) (x:Cm):oq (l++[x])=oq l++x.mem.seeds:=by simp [oq]
theorem mM (a b:List Grp):[a,b].flatten.length=a.length+b.length:=by simp
theorem Bc (l:List Cm):(mR l).length<=(l.flatMap λx=>x.mem.pre).length:=by
 have:∀ ys:List Cm,(mR ys.reverse).length<=(ys.reverse.flatMap λx=>x.mem.pre).length:=λys=>by
  induction ys with
  | nil=>simp [mR]
  | cons y t ih =>
   rw [List.reverse_cons,DU]
   have:=mH [mR t.reverse,y.mem.pre]
   rw [mM] at this
   simp only [List.flatMap_append,List.length_append,List.flatMap_cons,List.flatMap_nil,List.append_nil]
   omega
 simpa using this l.reverse
theorem xx (l:List Cm):(iE l).length<=(l.flatMap λx=>x.mem.post).length:=by
 have:∀ ys:List Cm,(iE ys.reverse).length<=(ys.reverse.flatMap λx=>x.mem.post).length:=λys=>by
  induction ys with
  | nil=>simp [iE]
  | cons y t ih =>
   rw [List.reverse_cons,Bb]
   have:=mH [iE t.reverse,y.mem.post]
   rw [mM] at this
   simp only [List.flatMap_append,List.length_append,List.flatMap_cons,List.flatMap_nil,List.append_nil]
   omega
 simpa using this l.reverse
theorem Fp {β : Type} (f:Cm->List β) {l:List Cm} {i:Nat} (h:i<l.length):((l.take i).flatMap f).length+(f l[i]).length<=(l.flatMap f).length:=by
 have h1:l=l.take i++l[i]::l.drop (i+1):=by rw [List.getElem_cons_drop,List.take_append_drop]
 have h2:=congrArg (λx=>(x.flatMap f).length) h1
 simp only [List.flatMap_append,List.flatMap_cons,List.length_append] at h2
 omega
theorem K7 {Y:Res} {news:List (List Value)} {xs:List Sd} (h1:news.length=xs.length) (h2:∀ (i:Nat) us x,news[i]? = some us->xs[i]? = some x->Enc.rep Y us x):news=xs.map sdC:=by
 refine List.ext_getElem (by rw [List.length_map,h1]) λi g1 g2=>?_
 rw [List.length_map] at g2
 have:news[i]=[sv (xs[i]).cls,sv (xs[i]).name]:=h2 i _ _ (Zy g1)<|Zy g2
 rw [this,List.getElem_map]; rfl
theorem jO {α : Type} [Enc α] {X Y:Res} {rows:List (List Value)} {xs:List α} (h:Rws X rows xs) (hr:∀ p u,Rd X p u->Rd Y p u):Rws Y rows xs:=⟨h.1,λj us x h1 h2=>Enc.up hr<|h.2 j us x h1 h2⟩
theorem zt {Y:Res} {b:Nat} {x y:Value} {p q:List Grp} (h1:Ls Y x p) (h2:Ls Y y q):Ls (Res.star [pt b (cl [x,y] 53),Y]) (.slice (some ⟨b,0,none⟩) 2 2) [p,q]:=
 Fj (ux:=[x]) (uy:=[y]) ⟨x,rfl,h1.up'<|bL<|.there .here⟩ ⟨y,rfl,h2.up'<|bL<|.there .here⟩ (λi hi=>by match i,hi with | 0,_=>exact bL .here _ _ (bZ rfl)) (λi hi=>by match i,hi with | 0,_=>exact bL .here _ _ (bZ rfl)) (by decide)
theorem rws_sd {Y:Res} (xs:List Sd):Rws Y (xs.map sdC) xs:=⟨by simp,λj us x h1 h2=>by
 rw [List.getElem?_map,h2] at h1
 cases h1; rfl⟩
theorem cpS_len (xs:List Sd):(cpS xs).length<=xs.length:=by
 refine zq (P:=λxs=>(cpS xs).length<=xs.length) (Nat.le_refl _) (λxs y ih=>?_) xs
 rw [mJ]
 split <;> simp <;> omega
theorem DV {l : List Cm} (hv : Ls X v l) (h0 : l ≠ []) (hbS : (oq l).length * 32 <= 1099511627776) (hbP : (l.flatMap λx => x.mem.pre).length * 40 <= 1099511627776) (hbQ : (l.flatMap λx => x.mem.post).length * 40 <= 1099511627776) :
  CtX prog 122 #[v] X [] λu Y k'=>k'=[]/\∃ us',u = .agg us'.toArray/\Enc.rep Y us' (joined l):=by
 have hml:maxLen=9223372036854775807:=rfl
 have hrb:reachBytes=140737488351232:=rfl
 obtain ⟨a,cap,rfl,hlc,hcm,_⟩:=id hv.form
 have hjl:=Ju h0
 obtain ⟨b,o,cap2,us,e1,hus,hrd,hre⟩:=hv.at<|Zy hjl
 cases e1
 rw [xw h0]
 generalize hm:l[jix l].mem=m
 obtain ⟨x2,x5,xy,x11,x12,x13,rfl,hx⟩:=iD hre
 have hxm:mbL X m x2 x5 xy x11 x12 x13:=hm ▸ hx
 obtain ⟨hx2,hx5,hxy,hx11,hx12,hx13⟩:=hxm
 obtain ⟨ax5,kx5,rfl,_⟩:=id hx5.form
 obtain ⟨axy,kxy,rfl,_⟩:=id hxy.form
 obtain ⟨ax11,kx11,rfl,_⟩:=id hx11.form
 obtain ⟨ax2,kx2,rfl,_⟩:=id hx2.form
 obtain ⟨ax12,kx12,rfl,_⟩:=id hx12.form
 obtain ⟨ax13,kx13,rfl,_⟩:=id hx13.form
 have hrd14:Rds X b (o+jix l * 18+3) (iC m (.slice ax2 m.seeds.length kx2) (.slice ax5 m.args.length kx5) (.slice axy m.ty.args.length kxy) (.slice ax11 m.clients.length kx11) (.slice ax12 m.pre.length kx12)<|.slice ax13 m.post.length kx13):=by
  subst hm
  exact bF (k:=3) hrd Z
 unfold iC at hrd14
 unfold CtX
 refine aJ (n:=56) func122 Z Z (len Z) λhr w0=>?_
 refine cQ (au jR λb2=>?_)
 refine sN<|nT<|cQ<|sM Z<|bf Z Z en193 Z (DD (g:=λx:Cm => !x.dfd) hv en194 λa _ us h=>Jt h) ?_
 refine sV (gM (show _=Value.int .i64 (jix l:Nat) by rw [jix_max])<|v_imax Z Z) ?_
 refine sA Z<|sK [0,2,3] Z<|cQ<|sM Z<|sM Z<|sV (vI (k:=jix l) Z Z lZ Z hjl Z)<|sV (vF Z ed Z)<|sV (af Z fE Z hrd14) ?_
 refine au jR λb4=>?_
 refine ai Z Z iH Z Z ?_
 refine sK [0,2,4] Z<|cQ<|sV (vF Z eT Z)<|bi Z Z F7 ?_
 refine sV (vF Z il Z)<|bi Z Z nN ?_
 refine sV (vF Z iq Z)<|bi Z Z nN ?_
 refine sK [0,2,4] Z<|cS<|cQ<|sM Z<|sV (aC Z underlying187)<|sM Z<|sK [2,4,18,19,20] Z<|cB<|dY (dn 69 2)<|aY (σ := Value×Value×Value×Res×Nat) (λq=>[(2,.pointer (some ⟨b2,0,none⟩)),(4,.pointer (some ⟨b4,0,none⟩)),(18,.slice (some ⟨b,o,none⟩) l.length cap),(19,.int .i64 l.length),(20,.int .i64 (q.2.2.2.2:Nat))]) (λq=>pt b2 (cl [.string ⟨#[]⟩,.int .i64 0,.slice none 0 0,.string ⟨#[]⟩,.string ⟨#[]⟩,.slice none 0 0,.int .i64 0,.string ⟨#[]⟩,.slice none 0 0,.bool false,.bool false,.slice none 0 0,.slice none 0 0,.slice none 0 0] 75)::pt b4 (cl [sv m.name,.int .i64 m.kind,q.1,sv m.impl.cls,sv m.impl.name,.slice ax5 m.args.length kx5,.int .i64 m.ty.kind,sv m.ty.name,.slice axy m.ty.args.length kxy,.bool m.ty.void,.bool m.ty.sep,.slice ax11 m.clients.length kx11,q.2.1,q.2.2.1] 75)::VR q.1 69 2 ((oq<|l.take q.2.2.2.2).map sdC)::q.2.2.2.1::hr) (λq=>q.2.2.2.2<=l.length/\q.1.oneCell'=true/\Ext X q.2.2.2.1/\Ls q.2.2.2.1 q.2.1 (mR<|l.take q.2.2.2.2)/\Ls q.2.2.2.1 q.2.2.1 (iE<|l.take q.2.2.2.2)) (λq=>l.length - q.2.2.2.2) (.slice none 0 0,.slice none 0 0,.slice none 0 0,X,0) ⟨Nat.zero_le _,Z,Ext.refl X,Ls.nil,Ls.nil⟩ ?_
 rintro ⟨w,p,q,Y,i⟩ ⟨hi,hw,hE,hp,hq⟩
 simp only at hi hw hE hp hq
 dsimp only
 refine cQ<|sV (aO Z Z)<|sN<|nT<|cS<|cC Z (λhd=>?_)<|λhd=>?_
 .have hlt:i<l.length:=Zx
  obtain ⟨b',o',cap3,us,e2,hus,hrd,hre⟩:=(hv.up hE).at<|Zy hlt
  obtain ⟨rfl,rfl⟩:b=b'/\o=o':=by cases e2; exact ⟨rfl,rfl⟩
  have hS:=Fp (λx=>x.mem.seeds) hlt
  have hP:=Fp (λx=>x.mem.pre) hlt
  have hQ:=Fp (λx=>x.mem.post) hlt
  have hpl:=Bc<|l.take i
  have hql:=xx<|l.take i
  have htk:=cz hlt
  generalize l[i]=x at hre hS hP hQ htk
  have hone:=Enc.ones hre
  obtain ⟨y2,y5,yy,y11,y12,y13,rfl,hy2,hy5,hyy,hy11,hy12,hy13⟩:=iD hre
  obtain ⟨ay2,ky2,rfl,_⟩:=id hy2.form
  obtain ⟨ay12,ky12,rfl,_⟩:=id hy12.form
  obtain ⟨ay13,ky13,rfl,_⟩:=id hy13.form
  obtain ⟨ap,kp,rfl,_⟩:=id hp.form
  obtain ⟨aq,kq,rfl,_⟩:=id hq.form
  have hb1:(mR<|l.take (i+1)).length * 40<=reachBytes:=by
   have:=Bc<|l.take (i+1)
   rw [htk] at this ⊢
   simp only [List.flatMap_append,List.length_append,List.flatMap_cons,List.flatMap_nil,List.append_nil] at this
   omega
  have hb2:(iE<|l.take (i+1)).length * 40<=reachBytes:=by
   have:=xx<|l.take (i+1)
   rw [htk] at this ⊢
   simp only [List.flatMap_append,List.length_append,List.flatMap_cons,List.flatMap_nil,List.append_nil] at this
   omega
  have hgP:∀ b36,CtN prog 196 #[.slice (some ⟨b36,0,none⟩) 2 2] [pt b36 (cl [.slice ap (mR<|l.take i).length kp,.slice ay12 x.mem.pre.length ky12] 53),Y] λu T=>u.oneCell'=true/\∃ rows,T=VR u 170 2 rows/\Rws (Res.star [pt b36 (cl [.slice ap (mR<|l.take i).length kp,.slice ay12 x.mem.pre.length ky12] 53),Y]) rows (mR<|l.take (i+1)):=λb36=>by
   have h:=sZ (zt (b:=b36) hp hy12) (by rw [mM]; omega)
   rw [<- DU,<- htk] at h
   exact kH h
  have hgQ:∀ b43,CtN prog 196 #[.slice (some ⟨b43,0,none⟩) 2 2] [pt b43 (cl [.slice aq (iE<|l.take i).length kq,.slice ay13 x.mem.post.length ky13] 53),Y] λu T=>u.oneCell'=true/\∃ rows,T=VR u 170 2 rows/\Rws (Res.star [pt b43 (cl [.slice aq (iE<|l.take i).length kq,.slice ay13 x.mem.post.length ky13] 53),Y]) rows (iE<|l.take (i+1)):=λb43=>by
   have h:=sZ (zt (b:=b43) hq hy13) (by rw [mM]; omega)
   rw [<- Bb,<- htk] at h
   exact kH h
  unfold pE at *
  refine cK<|xT<|cS<|cB<|cQ<|sV (vI (k:=i) Z Z lZ Z hlt Z)<|sV (af Z ik Z hrd) ?_
  refine au rP λb6=>?_
  refine ai Z Z mY Z hone ?_
  refine sK [2,4,6,18,19,20] Z<|cQ<|sV (vF Z eT Z)<|sV (vY Z pW) ?_
  refine sV (vF Z ed Z)<|sV (vF Z eT Z)<|sV (vY Z pW) ?_
  refine om hy2.1 Z Z underlying67 Dh Z (by decide) (show Sel _ (VR w 69 2<|(oq<|l.take i).map sdC) _ from slq) (show Sel _ Y _ from slq) (λus x _ hr u hu=>List.all_eq_true.1 (Enc.ones hr) u hu) (by rw [List.length_map]; unfold oq at *; omega) (by rw [List.length_map]; unfold oq at *; omega) (ltn Z) λw2 news hw2 hn1 hn2 hn3=>?_
  rw [K7 hn1 hn3,<- List.map_append,<- Mo,<- htk]
  refine sV (vF Z eT Z)<|bi Z Z F7 ?_
  refine sK [2,4,6,18,19,20] Z<|bC (ork [(0,2),(1,1),(2,2),(3,2),(4,1),(7,2),(8,1),(9,2),(10,2),(11,1)]<|.two 5 (.two 6 (ork [(14,2),(12,0),(13,0),(15,0),(16,2),(17,0)] .nil) 12<|ork [(6,0),(14,2),(13,0),(15,0),(16,2),(17,0)] .nil) 12<|ork [(5,0),(6,0),(14,2),(13,0),(15,0),(16,2),(17,0)] .nil) (λi => !(Nat.beq i 13 || Nat.beq i 15 || Nat.beq i 17)) mixed Zz ?_
  refine dV Z (vF Z il Z)<|bu Z (vY Z oO) ?_
  refine dV Z (vF Z ed Z)<|dV Z (vF Z il Z)<|bu Z (vY Z oO) ?_
  refine dV Z (vF Z iq Z)<|bu Z (vY Z oO) ?_
  refine dV Z (vF Z ed Z)<|dV Z (vF Z iq Z)<|bu Z (vY Z oO) ?_
  refine nJ Z Z ?_ ?_
  .refine ak (cells:=[.slice ap (mR<|l.take i).length kp,.slice ay12 x.mem.pre.length ky12]) Z underlying312 tJ Z Z Zz (ltn Z) λb36=>aW ?_
   refine nJ Z Z ?_ ?_
   .refine aH Z Z qL Z (hgP b36) ?_
    rintro u1 h1 ⟨T1,rfl,hu1,rows1,rfl,hr1⟩
    simp only [lC,lN]
    refine aW ?_
    refine dV Z (vF Z il Z)<|aT Z (ak (cells:=[.slice aq (iE<|l.take i).length kq,.slice ay13 x.mem.post.length ky13]) Z underlying312 tJ Z Z Zz (ltn Z) λb43=>aW ?_)
    refine aT Z<|aH Z Z qL Z (hgQ b43) ?_
    rintro u2 h2 ⟨T2,rfl,hu2,rows2,rfl,hr2⟩
    simp only [lC,lN]
    refine aW ?_
    refine aT Z<|bi Z Z nN<|aW ?_
    refine dV Z (vF Z iq Z)<|aT Z<|bi Z Z nN<|aW ?_
    refine bB<|nK [2,4,18,19,20] Z<|ax<|xB<|xT<|cR<|sV (aI Z Z Z0)<|sM Z<|sN<|nK [2,4,18,19,20] Z<|ax (eF (r:=VR u1 170 2 rows1) slq λhok1=>?_)
    refine eF (r:=VR u2 170 2 rows2) slq λhok2=>?_
    refine qx [VR u1 170 2 rows1,VR u2 170 2 rows2,pt b36 (cl [.slice ap (mR<|l.take i).length kp,.slice ay12 x.mem.pre.length ky12] 53),pt b43 (cl [.slice aq (iE<|l.take i).length kq,.slice ay13 x.mem.post.length ky13] 53)] Y λY2 hE2 hsel hpk=>?_
    refine aL (w2,u1,u2,Y2,i+1) ⟨hlt,hw2,hE.trans hE2,Rws.ls (E:=170) (jO hr1<|hpk _ _<|.there<|.there .here) hok1 (hsel _ _ .here) hb1,Rws.ls (E:=170) (jO hr2<|hpk _ _<|.there<|.there<|.there .here) hok2 (hsel _ _<|.there .here) hb2⟩ (by dsimp only; omega)
   .refine ak (cells:=[.slice aq (iE<|l.take i).length kq,.slice ay13 x.mem.post.length ky13]) Z underlying312 tJ Z Z Zz (ltn Z) λb43=>aW ?_
    refine aT Z<|aH Z Z qL Z (hgP b36) ?_
    rintro u1 h1 ⟨T1,rfl,hu1,rows1,rfl,hr1⟩
    simp only [lC,lN]
    refine aW ?_
    refine dV Z (vF Z il Z)<|aT Z<|aH Z Z qL Z (hgQ b43) ?_
    rintro u2 h2 ⟨T2,rfl,hu2,rows2,rfl,hr2⟩
    simp only [lC,lN]
    refine aW ?_
    refine aT Z<|bi Z Z nN<|aW ?_
    refine dV Z (vF Z iq Z)<|aT Z<|bi Z Z nN<|aW ?_
    refine bB<|nK [2,4,18,19,20] Z<|ax<|xB<|xT<|cR<|sV (aI Z Z Z0)<|sM Z<|sN<|nK [2,4,18,19,20] Z<|ax (eF (r:=VR u1 170 2 rows1) slq λhok1=>?_)
    refine eF (r:=VR u2 170 2 rows2) slq λhok2=>?_
    refine qx [VR u1 170 2 rows1,VR u2 170 2 rows2,pt b36 (cl [.slice ap (mR<|l.take i).length kp,.slice ay12 x.mem.pre.length ky12] 53),pt b43 (cl [.slice aq (iE<|l.take i).length kq,.slice ay13 x.mem.post.length ky13] 53)] Y λY2 hE2 hsel hpk=>?_
    refine aL (w2,u1,u2,Y2,i+1) ⟨hlt,hw2,hE.trans hE2,Rws.ls (E:=170) (jO hr1<|hpk _ _<|.there<|.there .here) hok1 (hsel _ _ .here) hb1,Rws.ls (E:=170) (jO hr2<|hpk _ _<|.there<|.there<|.there .here) hok2 (hsel _ _<|.there .here) hb2⟩ (by dsimp only; omega)
  .refine ak (cells:=[.slice aq (iE<|l.take i).length kq,.slice ay13 x.mem.post.length ky13]) Z underlying312 tJ Z Z Zz (ltn Z) λb43=>aW ?_
   refine aT Z (ak (cells:=[.slice ap (mR<|l.take i).length kp,.slice ay12 x.mem.pre.length ky12]) Z underlying312 tJ Z Z Zz (ltn Z) λb36=>aW ?_)
   refine aT Z<|aH Z Z qL Z (hgP b36) ?_
   rintro u1 h1 ⟨T1,rfl,hu1,rows1,rfl,hr1⟩
   simp only [lC,lN]
   refine aW ?_
   refine dV Z (vF Z il Z)<|aT Z<|aH Z Z qL Z (hgQ b43) ?_
   rintro u2 h2 ⟨T2,rfl,hu2,rows2,rfl,hr2⟩
   simp only [lC,lN]
   refine aW ?_
   refine aT Z<|bi Z Z nN<|aW ?_
   refine dV Z (vF Z iq Z)<|aT Z<|bi Z Z nN<|aW ?_
   refine bB<|nK [2,4,18,19,20] Z<|ax<|xB<|xT<|cR<|sV (aI Z Z Z0)<|sM Z<|sN<|nK [2,4,18,19,20] Z<|ax (eF (r:=VR u1 170 2 rows1) slq λhok1=>?_)
   refine eF (r:=VR u2 170 2 rows2) slq λhok2=>?_
   refine qx [VR u1 170 2 rows1,VR u2 170 2 rows2,pt b36 (cl [.slice ap (mR<|l.take i).length kp,.slice ay12 x.mem.pre.length ky12] 53),pt b43 (cl [.slice aq (iE<|l.take i).length kq,.slice ay13 x.mem.post.length ky13] 53)] Y λY2 hE2 hsel hpk=>?_
   refine aL (w2,u1,u2,Y2,i+1) ⟨hlt,hw2,hE.trans hE2,Rws.ls (E:=170) (jO hr1<|hpk _ _<|.there<|.there .here) hok1 (hsel _ _ .here) hb1,Rws.ls (E:=170) (jO hr2<|hpk _ _<|.there<|.there<|.there .here) hok2 (hsel _ _<|.there .here) hb2⟩ (by dsimp only; omega)
 .have hil:i=l.length:=by
   have:¬ i<l.length:=Zx
   omega
  subst hil
  rw [List.take_length] at hp hq ⊢
  have hjs:(oq l).length<=1099511627776:=by omega
  refine aB<|xE<|xE<|xY<|xT<|cQ<|sV (vF Z eT Z)<|sV (vY Z pW) ?_
  refine aH Z Z en197 Z (A9 hjs) ?_
  rintro u h' ⟨rfl,ys,hperm,hcs,rfl⟩
  simp only [lC,lN]
  refine sK [2,4] Z<|cQ<|sV (vF Z eT Z)<|sV (vY Z pW) ?_
  refine aH Z Z en199 Z (Ba (xs:=ys)) ?_
  rintro u h' ⟨hu,rfl⟩
  simp only [lC,lN]
  have hyl:=cpS_len ys
  rw [hcs,hperm.length_eq] at hyl
  rw [hcs]
  refine sV (vF Z eT Z)<|bi Z Z F7 ?_
  refine sK [2,4] Z<|cQ<|sV (af Z fE Z ag) ?_
  obtain ⟨ap,kp,rfl,_⟩:=id hp.form
  obtain ⟨aq,kq,rfl,_⟩:=id hq.form
  have hone2:([sv m.name,.int .i64 m.kind,u,sv m.impl.cls,sv m.impl.name,.slice ax5 m.args.length kx5,.int .i64 m.ty.kind,sv m.ty.name,.slice axy m.ty.args.length kxy,.bool m.ty.void,.bool m.ty.sep,.slice ax11 m.clients.length kx11,.slice ap (mR l).length kp,.slice aq (iE l).length kq]:List Value).all Value.oneCell'=true:=by simp only [List.all_cons,List.all_nil,hu,Bool.and_true,Bool.true_and]; rfl
  refine ai Z Z iH Z hone2 ?_
  refine sK [2] Z<|cT (eF (r:=VR u 69 2<|(nX<|oq l).map sdC) slq λhok=>?_)
  refine iP [VR u 69 2 ((nX<|oq l).map sdC)] Y λY2 hE2 hsel=>?_
  have hE3:=hE.trans hE2
  exact bM (.cellN Z fE Z slq .nil) ⟨Y2,[],Z,hE3,Z,_,Z,qP (m:={ m with seeds:=nX (oq l),pre:=mR l,post:=iE l }) ⟨Rws.ls (E:=69) (rws_sd _) hok (hsel _ _ .here) (show (nX<|oq l).length * 32<=reachBytes by omega),hx5.up hE3,hxy.up hE3,hx11.up hE3,hp.up hE2,hq.up hE2⟩⟩ sbr
end
section
variable {X:Res} {v v':Value} {us us':List Value}
theorem pF {P:Program} {k:FuncId} {args:Array Value} {hf:SH} {E:TypeId} {sz:Nat} {Q:Value->List (List Value)->Prop} (h:CtN P k args hf λu T=>∃ rows,T=VR u E sz rows/\Q u rows) :
  CtN P k args hf λu T=>∃ rows,T=VR u E sz rows/\Q u rows/\∃ a cp,u = .slice a rows.length cp:=λhr w hh =>
 (h hr w hh).mono λ_ _ ⟨u,h',he,⟨T,hT,rows,hR,hQ⟩,hH,hS⟩=>by
  subst hT hR
  refine ⟨u,_,he,⟨_,Z,rows,Z,hQ,?_⟩,hH,hS⟩
  rcases VR.form hH.1 with ⟨rfl,rfl⟩ | ⟨b,o,cp,rfl,_⟩
  .exact ⟨none,0,Z⟩
  .exact ⟨_,cp,Z⟩
theorem gB {c:FC} (h:Enc.rep X us c):∃ a b e f i,us=[sv c.name,.bool c.dfd,a,b,e,f,i]/\Ls X a c.forms/\Ls X b c.pars/\e.oneCell'=true/\Ls X f c.feats/\Ls X i c.inv:=h
def Be (f:Fe) (x2 x3 y x9 x10 x11 x12 x13 x14:Value):List Value:=[.int .i64 f.kind,sv f.name,x2,x3,.int .i64 f.ty.kind,sv f.ty.name,y,.bool f.ty.void,.bool f.ty.sep,x9,x10,x11,x12,x13,x14]
theorem oz {f:Fe} (h:Enc.rep X us f):∃ x2 x3 y x9 x10 x11 x12 x13 x14,us=Be f x2 x3 y x9 x10 x11 x12 x13 x14/\Ls X x2 f.clients/\Ls X x3 f.args/\Tys X y f.ty.args/\Ls X x10 f.req/\Ls X x11 f.ens/\[x9,x12,x13,x14].all Value.oneCell'=true:=by
 obtain ⟨x2,x3,ts,x9,x10,x11,x12,x13,x14,rfl,h2,h3,h4,h5,h6,h7⟩:=h
 obtain ⟨y,rfl,hy⟩:=eH h4
 exact ⟨x2,x3,y,x9,x10,x11,x12,x13,x14,Z,h2,h3,hy,h5,h6,h7⟩
theorem Fq {Y:Res} {b:Nat} {n:Nm} {y:Value} {cs:List Cla} (h:Ls Y y cs) (hr:∀ p u,Rd (pt b (cl [sv n,y] 170)) p u->Rd Y p u):Ls Y (.slice (some ⟨b,0,none⟩) 1 1) [(⟨n,cs⟩:Grp)]:=
 jN (ux:=[sv n,y]) ⟨y,rfl,h⟩ (λi hi=>hr _ _<|ag i hi) (by decide)
def preL (c:FC) (f:Fe):List Grp:=[⟨c.name,f.req⟩]
def iL (c:FC) (f:Fe):List Grp:=if f.ens=[] then [] else [⟨c.name,f.ens⟩]
def qY (c:FC) (f:Fe):List Grp:=if f.req=[] then [] else [⟨c.name,f.req⟩]

theorem own_ct {c : FC} {f : Fe} {l : List Cm} {uc uf : List Value} (hc : Enc.rep X uc c) (hf : Enc.rep X uf f) (hv : Ls X v l) (hbS : (oq l).length * 32 <= 1099511627776) (hbP : (l.flatMap λx => x.mem.pre).length * 40 <= 1099511627776) (hbQ : (l.flatMap λx => x.mem.post).length * 40 <= 1099511627776) :
  CtX prog 123 #[.agg uc.toArray,.agg uf.toArray,v] X [] λu Y k'=>k'=[]/\∃ us',u = .agg us'.toArray/\Enc.rep Y us' (jB c f l):=by
 have hml:maxLen=9223372036854775807:=rfl
 have hrb:reachBytes=140737488351232:=rfl
 obtain ⟨a,cap,rfl,hlc,hcm,_⟩:=id hv.form
 obtain ⟨ca,cb,ce,cf,ci,rfl,hca,hcb,hce,hcf,hci⟩:=gB hc
 obtain ⟨x2,x3,y,x9,x10,x11,x12,x13,x14,rfl,h2,h3,hy,h10,h11,h9⟩:=oz hf
 unfold Be
 obtain ⟨a2,k2,rfl,_⟩:=id h2.form
 obtain ⟨a3,k3,rfl,_⟩:=id h3.form
 obtain ⟨ay,ky,rfl,_⟩:=id hy.form
 obtain ⟨a10,k10,rfl,_⟩:=id h10.form
 obtain ⟨a11,k11,rfl,_⟩:=id h11.form
 unfold CtX
 refine aJ (n:=79) func123 Z Z (len Z) λhr w0=>?_
 refine cQ (aV Z Z λb3=>?_)
 refine aV Z Z λb4=>?_
 refine au jR λb6=>?_
 refine sK [2,3,4,6] Z<|cS<|nE (ex:=.normal) (α := {q:Nat×(Option Addr×Nat)×(Option Addr×Nat)×Res // Ext X q.2.2.2/\Ls q.2.2.2 (.slice q.2.1.1 f.args.length q.2.1.2) f.args/\Ls q.2.2.2 (.slice q.2.2.1.1 f.clients.length q.2.2.1.2) f.clients}) (λq=>[(2,.slice a l.length cap),(3,.pointer (some ⟨b3,0,none⟩)),(4,.pointer (some ⟨b4,0,none⟩)),(6,.pointer (some ⟨b6,0,none⟩)),(7,.pointer (some ⟨q.1.1,0,none⟩))]) (λq=>pt b6 (cl [.string ⟨#[]⟩,.int .i64 0,.slice none 0 0,.string ⟨#[]⟩,.string ⟨#[]⟩,.slice none 0 0,.int .i64 0,.string ⟨#[]⟩,.slice none 0 0,.bool false,.bool false,.slice none 0 0,.slice none 0 0,.slice none 0 0] 75)::pt q.1.1 (cl [sv f.name,.int .i64 f.kind,.slice none 0 0,sv c.name,sv f.name,.slice q.1.2.1.1 f.args.length q.1.2.1.2,.int .i64 f.ty.kind,sv f.ty.name,.slice ay f.ty.args.length ky,.bool f.ty.void,.bool f.ty.sep,.slice q.1.2.2.1.1 f.clients.length q.1.2.2.1.2,.slice none 0 0,.slice none 0 0] 75)::pt b3 (cl [sv c.name,.bool c.dfd,ca,cb,ce,cf,ci] 44)::pt b4 (cl [.int .i64 f.kind,sv f.name,.slice a2 f.clients.length k2,.slice a3 f.args.length k3,.int .i64 f.ty.kind,sv f.ty.name,.slice ay f.ty.args.length ky,.bool f.ty.void,.bool f.ty.sep,x9,.slice a10 f.req.length k10,.slice a11 f.ens.length k11,x12,x13,x14] 130)::q.1.2.2.2::hr) (λhcont=>?_)<|λq=>?_
 .refine bC (ork [(0,2),(1,1),(2,2),(3,1),(4,2),(5,1),(6,2),(7,1),(8,2),(9,2),(10,1),(12,2),(13,1),(14,2),(15,1)]<|.two 11 (.two 16 (ork [(17,2),(18,0),(19,0)] .nil) 18<|ork [(16,0),(17,2),(19,0)] .nil) 18<|ork [(11,0),(16,0),(17,2),(19,0)] .nil) (λi => !(Nat.beq i 19)) mixed Zz ?_
  refine dV Z (vF Z p9 Z)<|bu Z (vY Z ld9) ?_
  refine dV Z (vF Z vL Z)<|bu Z (vY Z ld3) ?_
  refine dV Z (vF Z dR Z)<|bu Z (vY Z ld9) ?_
  refine dV Z (vF Z p9 Z)<|bu Z (vY Z ld9) ?_
  refine dV Z (aP (cells:=[sv c.name,sv f.name]) Z<|λ_=>Zz) ?_
  refine dV Z (vF Z sH Z)<|bu Z (vY Z rF) ?_
  refine dV Z (vF Z yX Z)<|bu Z (af Z fM Z<|bF (us:=[.int .i64 f.kind,sv f.name,.slice a2 f.clients.length k2,.slice a3 f.args.length k3,.int .i64 f.ty.kind,sv f.ty.name,.slice ay f.ty.args.length ky,.bool f.ty.void,.bool f.ty.sep,x9,.slice a10 f.req.length k10,.slice a11 f.ens.length k11,x12,x13,x14]) (vs:=[.int .i64 f.ty.kind,sv f.ty.name,.slice ay f.ty.args.length ky,.bool f.ty.void,.bool f.ty.sep]) (k:=4) ag Z) ?_
  refine dV Z (vF Z KC Z)<|bu Z (vY Z gq) ?_
  refine nJ Z Z ?_ ?_
  .refine aH Z Z en200 Z (pF<|r9 h3) ?_
   rintro u h1 ⟨T1,rfl,rows1,rfl,⟨o1,w1⟩,ua,uk,hu⟩
   rw [w1.1] at hu; subst hu
   simp only [lC,lN]
   refine aW ?_
   refine nJ Z Z ?_ ?_
   .refine aH Z Z KM Z (pF<|nD h2) ?_
    rintro u h2 ⟨T2,rfl,rows2,rfl,⟨o2,w2⟩,va,vk,hu⟩
    rw [w2.1] at hu; subst hu
    simp only [lC,lN]
    refine aW ?_
    refine dV Z (aP (cells:=[sv f.name,.int .i64 f.kind,.slice none 0 0,sv c.name,sv f.name,.slice ua f.args.length uk,.int .i64 f.ty.kind,sv f.ty.name,.slice ay f.ty.args.length ky,.bool f.ty.void,.bool f.ty.sep,.slice va f.clients.length vk,.slice none 0 0,.slice none 0 0]) Z<|λ_=>Zz) ?_
    refine aT Z (au jR λb7=>aW ?_)
    refine aT Z<|ai Z Z iH Z Z<|aW ?_
    refine bB<|nK [2,3,4,6,7] Z<|ax (eF (r:=VR (.slice ua f.args.length uk) 132 6 rows1) slq λhok1=>?_)
    refine eF (r:=VR (.slice va f.clients.length vk) 9 1 rows2) slq λhok2=>?_
    refine iP [VR (.slice ua f.args.length uk) 132 6 rows1,VR (.slice va f.clients.length vk) 9 1 rows2] X λY hE hsel=>?_
    exact hcont ⟨(b7,(ua,uk),(va,vk),Y),hE,Rws.ls (E:=132) (w1.up hE) hok1 (hsel _ _ .here) h3.sizes,Rws.ls (E:=9) (w2.up hE) hok2 (hsel _ _<|.there .here) h2.sizes⟩ _ _ ⟨Z,Z,Z,Z,Z,trivial⟩ sbq
   .refine au jR λb7=>aW ?_
    refine aT Z<|aH Z Z KM Z (pF<|nD h2) ?_
    rintro u h2 ⟨T2,rfl,rows2,rfl,⟨o2,w2⟩,va,vk,hu⟩
    rw [w2.1] at hu; subst hu
    simp only [lC,lN]
    refine aW ?_
    refine dV Z (aP (cells:=[sv f.name,.int .i64 f.kind,.slice none 0 0,sv c.name,sv f.name,.slice ua f.args.length uk,.int .i64 f.ty.kind,sv f.ty.name,.slice ay f.ty.args.length ky,.bool f.ty.void,.bool f.ty.sep,.slice va f.clients.length vk,.slice none 0 0,.slice none 0 0]) Z<|λ_=>Zz) ?_
    refine aT Z<|ai Z Z iH Z Z<|aW ?_
    refine bB<|nK [2,3,4,6,7] Z<|ax (eF (r:=VR (.slice ua f.args.length uk) 132 6 rows1) slq λhok1=>?_)
    refine eF (r:=VR (.slice va f.clients.length vk) 9 1 rows2) slq λhok2=>?_
    refine iP [VR (.slice ua f.args.length uk) 132 6 rows1,VR (.slice va f.clients.length vk) 9 1 rows2] X λY hE hsel=>?_
    exact hcont ⟨(b7,(ua,uk),(va,vk),Y),hE,Rws.ls (E:=132) (w1.up hE) hok1 (hsel _ _ .here) h3.sizes,Rws.ls (E:=9) (w2.up hE) hok2 (hsel _ _<|.there .here) h2.sizes⟩ _ _ ⟨Z,Z,Z,Z,Z,trivial⟩ sbq
  .refine au jR λb7=>aW ?_
   refine aT Z<|aH Z Z en200 Z (pF<|r9 h3) ?_
   rintro u h1 ⟨T1,rfl,rows1,rfl,⟨o1,w1⟩,ua,uk,hu⟩
   rw [w1.1] at hu; subst hu
   simp only [lC,lN]
   refine aW ?_
   refine aT Z<|aH Z Z KM Z (pF<|nD h2) ?_
   rintro u h2 ⟨T2,rfl,rows2,rfl,⟨o2,w2⟩,va,vk,hu⟩
   rw [w2.1] at hu; subst hu
   simp only [lC,lN]
   refine aW ?_
   refine dV Z (aP (cells:=[sv f.name,.int .i64 f.kind,.slice none 0 0,sv c.name,sv f.name,.slice ua f.args.length uk,.int .i64 f.ty.kind,sv f.ty.name,.slice ay f.ty.args.length ky,.bool f.ty.void,.bool f.ty.sep,.slice va f.clients.length vk,.slice none 0 0,.slice none 0 0]) Z<|λ_=>Zz) ?_
   refine aT Z<|ai Z Z iH Z Z<|aW ?_
   refine bB<|nK [2,3,4,6,7] Z<|ax (eF (r:=VR (.slice ua f.args.length uk) 132 6 rows1) slq λhok1=>?_)
   refine eF (r:=VR (.slice va f.clients.length vk) 9 1 rows2) slq λhok2=>?_
   refine iP [VR (.slice ua f.args.length uk) 132 6 rows1,VR (.slice va f.clients.length vk) 9 1 rows2] X λY hE hsel=>?_
   exact hcont ⟨(b7,(ua,uk),(va,vk),Y),hE,Rws.ls (E:=132) (w1.up hE) hok1 (hsel _ _ .here) h3.sizes,Rws.ls (E:=9) (w2.up hE) hok2 (hsel _ _<|.there .here) h2.sizes⟩ _ _ ⟨Z,Z,Z,Z,Z,trivial⟩ sbq
 obtain ⟨⟨b7,⟨ua,uk⟩,⟨va,vk⟩,Y⟩,hE,hYa,hYc⟩:=q
 dsimp only at hE hYa hYc ⊢
 have hY10:=h10.up hE
 have hY11:=h11.up hE
 refine xT<|cS<|nE (ex:=.normal) (α := {q:Value×Value×Res // Ext Y q.2.2/\Ls q.2.2 q.1 (preL c f)/\Ls q.2.2 q.2.1 ([⟨c.name,f.ens⟩]:List Grp)}) (λq=>[(2,.slice a l.length cap),(3,.pointer (some ⟨b3,0,none⟩)),(4,.pointer (some ⟨b4,0,none⟩)),(6,.pointer (some ⟨b6,0,none⟩)),(7,.pointer (some ⟨b7,0,none⟩)),(8,q.1.1),(9,q.1.2.1)]) (λq=>pt b6 (cl [.string ⟨#[]⟩,.int .i64 0,.slice none 0 0,.string ⟨#[]⟩,.string ⟨#[]⟩,.slice none 0 0,.int .i64 0,.string ⟨#[]⟩,.slice none 0 0,.bool false,.bool false,.slice none 0 0,.slice none 0 0,.slice none 0 0] 75)::pt b7 (cl [sv f.name,.int .i64 f.kind,.slice none 0 0,sv c.name,sv f.name,.slice ua f.args.length uk,.int .i64 f.ty.kind,sv f.ty.name,.slice ay f.ty.args.length ky,.bool f.ty.void,.bool f.ty.sep,.slice va f.clients.length vk,.slice none 0 0,.slice none 0 0] 75)::pt b3 (cl [sv c.name,.bool c.dfd,ca,cb,ce,cf,ci] 44)::pt b4 (cl [.int .i64 f.kind,sv f.name,.slice a2 f.clients.length k2,.slice a3 f.args.length k3,.int .i64 f.ty.kind,sv f.ty.name,.slice ay f.ty.args.length ky,.bool f.ty.void,.bool f.ty.sep,x9,.slice a10 f.req.length k10,.slice a11 f.ens.length k11,x12,x13,x14] 130)::q.1.2.2::hr) (λhcont=>?_)<|λq=>?_
 .refine bC (ork [(0,2),(1,1),(2,2),(3,1),(4,2),(6,2),(7,1),(8,2),(9,1),(10,2)]<|.two 5 (ork [(12,2),(11,0),(13,2)] .nil) 11<|ork [(5,0),(12,2),(13,2)] .nil) (λ_=>true) mixed Zz ?_
  refine dV Z (vF Z dR Z)<|bu Z (vY Z ld9) ?_
  refine dV Z (vF Z yY Z)<|bu Z (vY Z ui) ?_
  refine dV Z (aP (cells:=[sv c.name,.slice a10 f.req.length k10]) Z<|λ_=>Zz) ?_
  refine dV Z (vF Z dR Z)<|bu Z (vY Z ld9) ?_
  refine dV Z (vF Z yZ Z)<|bu Z (vY Z ui) ?_
  refine dV Z (aP (cells:=[sv c.name,.slice a11 f.ens.length k11]) Z<|λ_=>Zz) ?_
  refine nJ Z Z ?_ ?_
  .refine ak (cells:=[sv c.name,.slice a10 f.req.length k10]) Z underlying53 nO Z Z Zz (ltn Z) λb34=>aW ?_
   refine dV Z (vA Z)<|aT Z (ak (cells:=[sv c.name,.slice a11 f.ens.length k11]) Z underlying53 nO Z Z Zz (ltn Z) λb40=>aW ?_)
   refine dV Z (vA Z)<|bB<|nK [2,3,4,6,7,8,9] Z<|ax (iP [pt b34 (cl [sv c.name,.slice a10 f.req.length k10] 170),pt b40 (cl [sv c.name,.slice a11 f.ens.length k11] 170)] Y λY2 hE2 hsel=>?_)
   exact hcont ⟨(.slice (some ⟨b34,0,none⟩) 1 1,.slice (some ⟨b40,0,none⟩) 1 1,Y2),hE2,Fq (hY10.up hE2) (hsel _ _ .here),Fq (hY11.up hE2)<|hsel _ _<|.there .here⟩ _ _ ⟨Z,Z,Z,Z,Z,Z,Z,trivial⟩ sbq
  .refine ak (cells:=[sv c.name,.slice a11 f.ens.length k11]) Z underlying53 nO Z Z Zz (ltn Z) λb40=>aW ?_
   refine aT Z (ak (cells:=[sv c.name,.slice a10 f.req.length k10]) Z underlying53 nO Z Z Zz (ltn Z) λb34=>aW ?_)
   refine dV Z (vA Z)<|dV Z (vA Z)<|bB<|nK [2,3,4,6,7,8,9] Z<|ax (iP [pt b34 (cl [sv c.name,.slice a10 f.req.length k10] 170),pt b40 (cl [sv c.name,.slice a11 f.ens.length k11] 170)] Y λY2 hE2 hsel=>?_)
   exact hcont ⟨(.slice (some ⟨b34,0,none⟩) 1 1,.slice (some ⟨b40,0,none⟩) 1 1,Y2),hE2,Fq (hY10.up hE2) (hsel _ _ .here),Fq (hY11.up hE2)<|hsel _ _<|.there .here⟩ _ _ ⟨Z,Z,Z,Z,Z,Z,Z,trivial⟩ sbq
 obtain ⟨⟨p,pq,Zq⟩,hE2,hp,hq⟩:=q
 dsimp only at hE2 hp hq ⊢
 refine xT<|cS<|cQ<|sV (vF Z yZ Z)<|sV (vY Z ui) ?_
 refine sV (aC Z underlying42)<|sV (dX Z Z)<|sK [2,4,6,7,8,9,44] Z<|nE (ex:=.normal) (α := {q:Value // Ls Zq q (iL c f)}) (λq=>[(2,.slice a l.length cap),(4,.pointer (some ⟨b4,0,none⟩)),(6,.pointer (some ⟨b6,0,none⟩)),(7,.pointer (some ⟨b7,0,none⟩)),(8,p),(9,q.1)]) (λq=>pt b6 (cl [.string ⟨#[]⟩,.int .i64 0,.slice none 0 0,.string ⟨#[]⟩,.string ⟨#[]⟩,.slice none 0 0,.int .i64 0,.string ⟨#[]⟩,.slice none 0 0,.bool false,.bool false,.slice none 0 0,.slice none 0 0,.slice none 0 0] 75)::pt b7 (cl [sv f.name,.int .i64 f.kind,.slice none 0 0,sv c.name,sv f.name,.slice ua f.args.length uk,.int .i64 f.ty.kind,sv f.ty.name,.slice ay f.ty.args.length ky,.bool f.ty.void,.bool f.ty.sep,.slice va f.clients.length vk,.slice none 0 0,.slice none 0 0] 75)::pt b3 (cl [sv c.name,.bool c.dfd,ca,cb,ce,cf,ci] 44)::pt b4 (cl [.int .i64 f.kind,sv f.name,.slice a2 f.clients.length k2,.slice a3 f.args.length k3,.int .i64 f.ty.kind,sv f.ty.name,.slice ay f.ty.args.length ky,.bool f.ty.void,.bool f.ty.sep,x9,.slice a10 f.req.length k10,.slice a11 f.ens.length k11,x12,x13,x14] 130)::Zq::hr) (λhcont=>?_)<|λq=>?_
 .refine cC Z (λhe=>?_)<|λhe=>?_
  .have he:f.ens=[]:=Zj
   refine cR<|sA Z<|sN<|nK [2,4,6,7,8,9] Z<|ax ?_
   exact hcont ⟨.slice none 0 0,by unfold iL; rw [if_pos he]; exact Ls.nil⟩ _ _ ⟨Z,Z,Z,Z,Z,Z,trivial⟩ sbq
  .have he:¬ f.ens=[]:=Zj
   refine cK ?_
   exact hcont ⟨pq,by unfold iL; rw [if_neg he]; exact hq⟩ _ _ ⟨Z,Z,Z,Z,Z,Z,trivial⟩ sbq
 obtain ⟨pq,hq⟩:=q
 dsimp only at hq ⊢
 obtain ⟨qa,qk,rfl,_⟩:=id hq.form
 refine xT<|cS<|cQ<|sM Z<|sV (aC Z underlying187)<|sV (dX Z Z)<|sK [2,4,6,7,8,9,47] Z<|cC Z (λhl=>?_)<|λhl=>?_
 .have hl:l=[]:=Zn
  subst hl
  obtain ⟨pa,pk,rfl,_⟩:=id hp.form
  have hown:jB c f []={ name:=f.name,kind:=f.kind,seeds:=[⟨c.name,f.name⟩],impl:=⟨c.name,f.name⟩,args:=f.args,ty:=f.ty,clients:=f.clients,pre:=preL c f,post:=iL c f }:=rfl
  rw [hown]
  refine cQ<|sV (vF Z wS Z)<|sV (af Z iN Z<|bF (us:=[sv f.name,.int .i64 f.kind,.slice none 0 0,sv c.name,sv f.name,.slice ua f.args.length uk,.int .i64 f.ty.kind,sv f.ty.name,.slice ay f.ty.args.length ky,.bool f.ty.void,.bool f.ty.sep,.slice va f.clients.length vk,.slice none 0 0,.slice none 0 0]) (vs:=[sv c.name,sv f.name]) (k:=3) ag Z) ?_
  refine ak (cells:=[sv c.name,sv f.name]) Z underlying67 Dh Z Z Zz (ltn Z) λb50=>?_
  refine sM Z<|sM Z<|sV (vF Z eT Z)<|bi Z Z F7 ?_
  refine sV (vF Z il Z)<|bi Z Z nN ?_
  refine sV (vF Z iq Z)<|bi Z Z nN ?_
  refine sK [2,4,6,7,8,9] Z<|cQ<|sV (af Z fE Z ag) ?_
  refine ai Z Z iH Z Z ?_
  refine sK [6] Z<|cT<|xR (iP [pt b50 (cl [sv c.name,sv f.name] 69)] Zq λY3 hE3 hsel=>?_)
  have hE5:=hE2.trans hE3
  exact bM (.cellN Z fE Z slq .nil) ⟨Y3,[],Z,(hE.trans hE2).trans hE3,Z,_,Z,qP (m:={ name:=f.name,kind:=f.kind,seeds:=[⟨c.name,f.name⟩],impl:=⟨c.name,f.name⟩,args:=f.args,ty:=f.ty,clients:=f.clients,pre:=preL c f,post:=iL c f }) ⟨jN (ux:=[sv c.name,sv f.name]) Z (λi hi=>hsel _ _ .here _ _<|ag i hi) (by decide),hYa.up hE5,(hy.up<|hE.trans hE5),hYc.up hE5,hp.up hE3,hq.up hE3⟩⟩ sbr
 .have hl:l≠[]:=Zn
  have hown:jB c f l={ name:=f.name,kind:=f.kind,seeds:=(joined l).seeds,impl:=⟨c.name,f.name⟩,args:=f.args,ty:=f.ty,clients:=f.clients,pre:=groups [(joined l).pre,qY c f],post:=groups [(joined l).post,iL c f] }:=by unfold jB; rw [if_neg hl]; rfl
  rw [hown]
  have hjp:(joined l).pre=mR l:=by rw [xw hl]
  have hjq:(joined l).post=iE l:=by rw [xw hl]
  have hpl:=Bc l
  have hql:=xx l
  rw [<- hjp] at hpl
  rw [<- hjq] at hql
  have hpm:(qY c f).length<=1:=by unfold qY; split <;> simp
  have hqm:(iL c f).length<=1:=by unfold iL; split <;> simp
  have hj:=DV (hv.up<|hE.trans hE2) hl hbS hbP hbQ
  unfold CtX at hj
  refine cK<|xT<|cS<|cQ<|sV (vF Z yY Z)<|sV (vY Z ui) ?_
  refine sV (aC Z underlying42)<|sV (dX Z Z)<|sK [2,6,7,8,9,60] Z<|nE (ex:=.normal) (α := {q:Value // Ls Zq q (qY c f)}) (λq=>[(2,.slice a l.length cap),(6,.pointer (some ⟨b6,0,none⟩)),(7,.pointer (some ⟨b7,0,none⟩)),(8,q.1),(9,.slice qa (iL c f).length qk)]) (λq=>pt b6 (cl [.string ⟨#[]⟩,.int .i64 0,.slice none 0 0,.string ⟨#[]⟩,.string ⟨#[]⟩,.slice none 0 0,.int .i64 0,.string ⟨#[]⟩,.slice none 0 0,.bool false,.bool false,.slice none 0 0,.slice none 0 0,.slice none 0 0] 75)::pt b7 (cl [sv f.name,.int .i64 f.kind,.slice none 0 0,sv c.name,sv f.name,.slice ua f.args.length uk,.int .i64 f.ty.kind,sv f.ty.name,.slice ay f.ty.args.length ky,.bool f.ty.void,.bool f.ty.sep,.slice va f.clients.length vk,.slice none 0 0,.slice none 0 0] 75)::pt b3 (cl [sv c.name,.bool c.dfd,ca,cb,ce,cf,ci] 44)::pt b4 (cl [.int .i64 f.kind,sv f.name,.slice a2 f.clients.length k2,.slice a3 f.args.length k3,.int .i64 f.ty.kind,sv f.ty.name,.slice ay f.ty.args.length ky,.bool f.ty.void,.bool f.ty.sep,x9,.slice a10 f.req.length k10,.slice a11 f.ens.length k11,x12,x13,x14] 130)::Zq::hr) (λhcont=>?_)<|λq=>?_
  .refine cC Z (λhr=>?_)<|λhr=>?_
   .have hr:f.req=[]:=by simpa using hr
    refine cR<|sA Z<|sN<|nK [2,6,7,8,9] Z<|ax ?_
    exact hcont ⟨.slice none 0 0,by unfold qY; rw [if_pos hr]; exact Ls.nil⟩ _ _ ⟨Z,Z,Z,Z,Z,trivial⟩ sbq
   .have hr:¬ f.req=[]:=by simpa using hr
    refine cK ?_
    exact hcont ⟨p,by unfold qY; rw [if_neg hr]; exact hp⟩ _ _ ⟨Z,Z,Z,Z,Z,trivial⟩ sbq
  obtain ⟨p,hp⟩:=q
  dsimp only at hp ⊢
  obtain ⟨pa,pk,rfl,_⟩:=id hp.form
  refine xT<|cQ<|sM Z<|aH Z Z en122 Z (hj) ?_
  rintro u h2 ⟨Z2,k2,rfl,hE3,rfl,us,rfl,hrep⟩
  simp only [lC,lN]
  have honeJ:=Enc.ones hrep
  obtain ⟨j2,j5,jy,j11,j12,j13,rfl,hj2,hj5,hjy,hj11,hj12,hj13⟩:=dN hrep
  unfold iC at *
  obtain ⟨ja2,jk2,rfl,_⟩:=id hj2.form
  obtain ⟨jp12,jk12,rfl,_⟩:=id hj12.form
  obtain ⟨jp13,jk13,rfl,_⟩:=id hj13.form
  have hgb1:=mH [(joined l).pre,qY c f]
  have hgb2:=mH [(joined l).post,iL c f]
  rw [mM] at hgb1 hgb2
  have hb1:(groups [(joined l).pre,qY c f]).length * 40<=reachBytes:=by omega
  have hb2:(groups [(joined l).post,iL c f]).length * 40<=reachBytes:=by omega
  have hgP:∀ b68,CtN prog 196 #[.slice (some ⟨b68,0,none⟩) 2 2] [pt b68 (cl [.slice jp12 (joined l).pre.length jk12,.slice pa (qY c f).length pk] 53),Z2] λu T=>u.oneCell'=true/\∃ rows,T=VR u 170 2 rows/\Rws (Res.star [pt b68 (cl [.slice jp12 (joined l).pre.length jk12,.slice pa (qY c f).length pk] 53),Z2]) rows (groups [(joined l).pre,qY c f]):=λb68=>kH<|sZ (zt (b:=b68) hj12<|hp.up hE3) (by rw [mM]; omega)
  have hgQ:∀ b73,CtN prog 196 #[.slice (some ⟨b73,0,none⟩) 2 2] [pt b73 (cl [.slice jp13 (joined l).post.length jk13,.slice qa (iL c f).length qk] 53),Z2] λu T=>u.oneCell'=true/\∃ rows,T=VR u 170 2 rows/\Rws (Res.star [pt b73 (cl [.slice jp13 (joined l).post.length jk13,.slice qa (iL c f).length qk] 53),Z2]) rows (groups [(joined l).post,iL c f]):=λb73=>kH<|sZ (zt (b:=b73) hj13<|hq.up hE3) (by rw [mM]; omega)
  refine au jR λb10=>?_
  refine ai Z Z iH Z honeJ ?_
  refine sK [6,7,8,9,10] Z<|cS<|nE (ex:=.normal) (α := {q:Value×Value×Res // Ext Z2 q.2.2/\q.1.oneCell'=true/\q.2.1.oneCell'=true/\Ls q.2.2 q.1 (groups [(joined l).pre,qY c f])/\Ls q.2.2 q.2.1 (groups [(joined l).post,iL c f])}) (λq=>[(6,.pointer (some ⟨b6,0,none⟩)),(7,.pointer (some ⟨b7,0,none⟩))]) (λq=>pt b6 (cl [.string ⟨#[]⟩,.int .i64 0,.slice none 0 0,.string ⟨#[]⟩,.string ⟨#[]⟩,.slice none 0 0,.int .i64 0,.string ⟨#[]⟩,.slice none 0 0,.bool false,.bool false,.slice none 0 0,.slice none 0 0,.slice none 0 0] 75)::pt b7 (cl [sv f.name,.int .i64 f.kind,.slice ja2 (joined l).seeds.length jk2,sv c.name,sv f.name,.slice ua f.args.length uk,.int .i64 f.ty.kind,sv f.ty.name,.slice ay f.ty.args.length ky,.bool f.ty.void,.bool f.ty.sep,.slice va f.clients.length vk,q.1.1,q.1.2.1] 75)::q.1.2.2::hr) (λhcont=>?_)<|λq=>?_
  .refine bC (ork [(0,2),(1,1),(2,2),(3,1),(4,2),(7,2),(8,1),(9,2),(12,2)]<|.two 5 (.two 6 (ork [(10,0),(11,0),(13,0),(14,2),(15,0),(16,2),(17,0)] .nil) 10<|ork [(6,0),(11,0),(13,0),(14,2),(15,0),(16,2),(17,0)] .nil) 10<|ork [(5,0),(6,0),(11,0),(13,0),(14,2),(15,0),(16,2),(17,0)] .nil) (λi => !(Nat.beq i 13 || Nat.beq i 15 || Nat.beq i 17)) mixed Zz ?_
   refine dV Z (vF Z eT Z)<|bu Z (vY Z pW) ?_
   refine dV Z (vF Z il Z)<|bu Z (vY Z oO) ?_
   refine dV Z (vM Z)<|dV Z (vF Z iq Z)<|bu Z (vY Z oO) ?_
   refine dV Z (vM Z)<|dV Z (vF Z eT Z)<|nJ Z Z ?_ ?_
   .refine ak (cells:=[.slice jp12 (joined l).pre.length jk12,.slice pa (qY c f).length pk]) Z underlying312 tJ Z Z Zz (ltn Z) λb68=>aW ?_
    refine nJ Z Z ?_ ?_
    .refine aH Z Z qL Z (hgP b68) ?_
     rintro u1 h1 ⟨T1,rfl,hu1,rows3,rfl,hr1⟩
     simp only [lC,lN]
     refine aW ?_
     refine aT Z (ak (cells:=[.slice jp13 (joined l).post.length jk13,.slice qa (iL c f).length qk]) Z underlying312 tJ Z Z Zz (ltn Z) λb73=>aW ?_)
     refine aT Z<|aH Z Z qL Z (hgQ b73) ?_
     rintro u2 h2 ⟨T2,rfl,hu2,rows4,rfl,hr2⟩
     simp only [lC,lN]
     refine aW ?_
     refine aT Z<|bi Z Z F7<|aW ?_
     refine dV Z (vF Z il Z)<|aT Z<|bi Z Z nN<|aW ?_
     refine dV Z (vF Z iq Z)<|aT Z<|bi Z Z nN<|aW ?_
     refine bB<|nK [6,7] Z<|ax (eF (r:=VR u1 170 2 rows3) slq λhok1=>?_)
     refine eF (r:=VR u2 170 2 rows4) slq λhok2=>?_
     refine qx [VR u1 170 2 rows3,VR u2 170 2 rows4,pt b68 (cl [.slice jp12 (joined l).pre.length jk12,.slice pa (qY c f).length pk] 53),pt b73 (cl [.slice jp13 (joined l).post.length jk13,.slice qa (iL c f).length qk] 53)] Z2 λY2 hE2 hsel hpk=>?_
     exact hcont ⟨(u1,u2,Y2),hE2,hu1,hu2,Rws.ls (E:=170) (jO hr1<|hpk _ _<|.there<|.there .here) hok1 (hsel _ _ .here) hb1,Rws.ls (E:=170) (jO hr2<|hpk _ _<|.there<|.there<|.there .here) hok2 (hsel _ _<|.there .here) hb2⟩ _ _ ⟨Z,Z,trivial⟩ sbq
    .refine ak (cells:=[.slice jp13 (joined l).post.length jk13,.slice qa (iL c f).length qk]) Z underlying312 tJ Z Z Zz (ltn Z) λb73=>aW ?_
     refine aT Z<|aH Z Z qL Z (hgP b68) ?_
     rintro u1 h1 ⟨T1,rfl,hu1,rows3,rfl,hr1⟩
     simp only [lC,lN]
     refine aW ?_
     refine aT Z<|aH Z Z qL Z (hgQ b73) ?_
     rintro u2 h2 ⟨T2,rfl,hu2,rows4,rfl,hr2⟩
     simp only [lC,lN]
     refine aW ?_
     refine aT Z<|bi Z Z F7<|aW ?_
     refine dV Z (vF Z il Z)<|aT Z<|bi Z Z nN<|aW ?_
     refine dV Z (vF Z iq Z)<|aT Z<|bi Z Z nN<|aW ?_
     refine bB<|nK [6,7] Z<|ax (eF (r:=VR u1 170 2 rows3) slq λhok1=>?_)
     refine eF (r:=VR u2 170 2 rows4) slq λhok2=>?_
     refine qx [VR u1 170 2 rows3,VR u2 170 2 rows4,pt b68 (cl [.slice jp12 (joined l).pre.length jk12,.slice pa (qY c f).length pk] 53),pt b73 (cl [.slice jp13 (joined l).post.length jk13,.slice qa (iL c f).length qk] 53)] Z2 λY2 hE2 hsel hpk=>?_
     exact hcont ⟨(u1,u2,Y2),hE2,hu1,hu2,Rws.ls (E:=170) (jO hr1<|hpk _ _<|.there<|.there .here) hok1 (hsel _ _ .here) hb1,Rws.ls (E:=170) (jO hr2<|hpk _ _<|.there<|.there<|.there .here) hok2 (hsel _ _<|.there .here) hb2⟩ _ _ ⟨Z,Z,trivial⟩ sbq
   .refine ak (cells:=[.slice jp13 (joined l).post.length jk13,.slice qa (iL c f).length qk]) Z underlying312 tJ Z Z Zz (ltn Z) λb73=>aW ?_
    refine aT Z (ak (cells:=[.slice jp12 (joined l).pre.length jk12,.slice pa (qY c f).length pk]) Z underlying312 tJ Z Z Zz (ltn Z) λb68=>aW ?_)
    refine aT Z<|aH Z Z qL Z (hgP b68) ?_
    rintro u1 h1 ⟨T1,rfl,hu1,rows3,rfl,hr1⟩
    simp only [lC,lN]
    refine aW ?_
    refine aT Z<|aH Z Z qL Z (hgQ b73) ?_
    rintro u2 h2 ⟨T2,rfl,hu2,rows4,rfl,hr2⟩
    simp only [lC,lN]
    refine aW ?_
    refine aT Z<|bi Z Z F7<|aW ?_
    refine dV Z (vF Z il Z)<|aT Z<|bi Z Z nN<|aW ?_
    refine dV Z (vF Z iq Z)<|aT Z<|bi Z Z nN<|aW ?_
    refine bB<|nK [6,7] Z<|ax (eF (r:=VR u1 170 2 rows3) slq λhok1=>?_)
    refine eF (r:=VR u2 170 2 rows4) slq λhok2=>?_
    refine qx [VR u1 170 2 rows3,VR u2 170 2 rows4,pt b68 (cl [.slice jp12 (joined l).pre.length jk12,.slice pa (qY c f).length pk] 53),pt b73 (cl [.slice jp13 (joined l).post.length jk13,.slice qa (iL c f).length qk] 53)] Z2 λY2 hE2 hsel hpk=>?_
    exact hcont ⟨(u1,u2,Y2),hE2,hu1,hu2,Rws.ls (E:=170) (jO hr1<|hpk _ _<|.there<|.there .here) hok1 (hsel _ _ .here) hb1,Rws.ls (E:=170) (jO hr2<|hpk _ _<|.there<|.there<|.there .here) hok2 (hsel _ _<|.there .here) hb2⟩ _ _ ⟨Z,Z,trivial⟩ sbq
  obtain ⟨⟨g1,g2,Y3⟩,hE4,hg1,hg2,hG1,hG2⟩:=q
  dsimp only at hE4 hg1 hg2 hG1 hG2 ⊢
  have hE5:=(hE2.trans hE3).trans hE4
  refine xT<|cQ<|sV (af Z fE Z ag) ?_
  have hone2:([sv f.name,.int .i64 f.kind,.slice ja2 (joined l).seeds.length jk2,sv c.name,sv f.name,.slice ua f.args.length uk,.int .i64 f.ty.kind,sv f.ty.name,.slice ay f.ty.args.length ky,.bool f.ty.void,.bool f.ty.sep,.slice va f.clients.length vk,g1,g2]:List Value).all Value.oneCell'=true:=by simp only [List.all_cons,List.all_nil,hg1,hg2,Bool.and_true,Bool.true_and]; rfl
  refine ai Z Z iH Z hone2 ?_
  refine sK [6] Z<|cT ?_
  exact bM (.cellN Z fE Z slq .nil) ⟨Y3,[],Z,hE.trans hE5,Z,_,Z,qP (m:={ name:=f.name,kind:=f.kind,seeds:=(joined l).seeds,impl:=⟨c.name,f.name⟩,args:=f.args,ty:=f.ty,clients:=f.clients,pre:=groups [(joined l).pre,qY c f],post:=groups [(joined l).post,iL c f] }) ⟨hj2.up hE4,hYa.up hE5,hy.up (hE.trans hE5),hYc.up hE5,hG1,hG2⟩⟩ sbr
end
end Go.Fl
namespace Go.Ck
open Go Go.RowKit
theorem iU {P:Program} {e:Env} {h:SH} {ty T:TypeId} {x:Operand} {cs:List Value} {fs:Array Field} {k:Nat} {f:Field} {u:Value} (hx:e.ev? x=some (.agg cs.toArray)) (hT:P.underlying T=some (.struct fs)) (hf:fs[k]? = some f) (hA:∀ w,(isAgg f.type).run P w = .ok false w) (hu:cs[f.offset]? = some u):Vop P e h (.field T x k) ty u :=
 ⟨by simp,by simp,λρ w d pos after g hρ _=>by
  simp only [execOp,hρ x _ hx,Instr.field,Sem.run_bind,run_underlying hT,Result.andThen_ok,hf,part,asAgg,Sem.run_pure,hA]
  simp [hu]⟩
end Go.Ck
namespace Go.Fl
open Go Go.RowKit Go.Ck Go.Proofs Go.Proofs.Tryz Go.Proofs.YtknmacdbffgjgaaGreatDoor Fx Go.Hr
attribute [local irreducible] Go.Ck.Sub St Cd Xt Nx DrL LsW
section
variable {X Y:Res} {v v':Value} {us us':List Value}
def FlR (X:Res) (m:List (Nm×Value)) (fl:Nm->Fl):Prop:=∀ n,∃ us:List Value,(bR m n).getD (.agg #[.string ⟨#[]⟩,.bool false,.slice none 0 0,.slice none 0 0]) = .agg us.toArray/\Enc.rep X us (fl n)
theorem FlR.up {m:List (Nm×Value)} {fl:Nm->Fl} (h:FlR X m fl) (he:Ext X Y):FlR Y m fl:=λn=>by
 obtain ⟨us,h1,h2⟩:=h n
 exact ⟨us,h1,Enc.up he.rd h2⟩
def cq (fl:Nm->Fl) (l:FS) (q:Pt×Nat):List Cm:=(fl q.1.name).mems.map (iO (ae l q.1.name).forms q.2 q.1)
def Fs (fl:Nm->Fl) (l:FS) (c:FC) (i:Nat):Nat:=((c.pars.zipIdx.take i).flatMap<|cq fl l).length
theorem OM {c:FC} {i:Nat} (h:i<c.pars.length):c.pars.zipIdx[i]'Zp=(c.pars[i],i):=by simp
theorem Mq {fl:Nm->Fl} {l:FS} {c:FC} {i:Nat} (h:i<c.pars.length):Fs fl l c (i+1)=Fs fl l c i+(fl c.pars[i].name).mems.length:=by
 unfold Fs
 rw [List.take_succ_eq_append_getElem Zp,List.flatMap_append,List.length_append,OM h]
 simp [cq]
theorem OO {fl:Nm->Fl} {l:FS} {c:FC} {i j:Nat} (h:i<c.pars.length) (hj:j<(fl c.pars[i].name).mems.length):(comes fl l c)[Fs fl l c i+j]? = some (iO (ae l c.pars[i].name).forms i c.pars[i] (fl c.pars[i].name).mems[j]):=by
 have hz:i<c.pars.zipIdx.length:=Zp
 have h1:c.pars.zipIdx=c.pars.zipIdx.take i++c.pars.zipIdx[i]::c.pars.zipIdx.drop (i+1):=by rw [List.getElem_cons_drop,List.take_append_drop]
 have h2:comes fl l c=(c.pars.zipIdx.take i).flatMap (cq fl l)++(cq fl l c.pars.zipIdx[i]++(c.pars.zipIdx.drop (i+1)).flatMap (cq fl l)):=by
  show c.pars.zipIdx.flatMap (cq fl l)=_
  conv=>lhs; rw [h1]
  rw [List.flatMap_append,List.flatMap_cons]
 rw [h2]
 unfold Fs
 rw [List.getElem?_append_right (by omega),Nat.add_sub_cancel_left,OM h,List.getElem?_append_left (by simpa [cq] using hj)]
 simp [cq,hj]
theorem Mr (fl:Nm->Fl) (l:FS) (c:FC):Fs fl l c c.pars.length=(comes fl l c).length:=by
 unfold Fs comes
 rw [List.take_of_length_le (by simp)]
 rfl
theorem rws_set {α : Type} [Enc α] {X:Res} {rows:List (List Value)} {xs:List α} (h:Rws X rows xs) {k:Nat} {us:List Value} {a : α} (hr:Enc.rep X us a):Rws X (rows.set k us) (xs.set k a):=by
 refine ⟨by simp [h.1],λj vs x h1 h2=>?_⟩
 by_cases hj:k=j
 .subst hj
  have e1:k<rows.length:=by simpa using (List.getElem?_eq_some_iff.1 h1).1
  rw [List.getElem?_set_self e1] at h1
  rw [List.getElem?_set_self (by rw [<- h.1]; exact e1)] at h2
  cases h1; cases h2; exact hr
 .rw [List.getElem?_set_ne hj] at h1 h2
  exact h.2 j vs x h1 h2
theorem map_set {α : Type} {xs:List α} {g : α -> α} {k:Nat} (h:k<xs.length):((xs.take k).map g++xs.drop k).set k (g xs[k])=(xs.take (k+1)).map g++xs.drop (k+1):=by
 have hl:((xs.take k).map g).length=k:=by simp; omega
 rw [List.set_append_right _ _ (by omega),hl,Nat.sub_self,List.drop_eq_getElem_cons h,List.set_cons_zero,List.take_succ_eq_append_getElem h,List.map_append]
 simp
theorem map_at {α : Type} {xs:List α} {g : α -> α} {k:Nat} (h:k<xs.length):((xs.take k).map g++xs.drop k)[k]? = some xs[k]:=by
 have hl:((xs.take k).map g).length=k:=by simp; omega
 rw [List.getElem?_append_right (by omega),hl,Nat.sub_self,List.getElem?_drop,Nat.add_zero,Zy h]
def subV (F:List Fm) (A:List Kt) (a:Vr):Vr:={ a with ty:=dD F A a.ty }
theorem Fu {xs:List Nm} (h:Ls X v xs):wW X v xs:=h.1

theorem Hu {σ : Type} {b1 b2 mb yl : Nat} {m : List (Nm × Value)} {fl : Nm -> Fl} {l : FS} {c : FC} {uc : List Value} (Inv : σ -> SH) (Φ : Nat -> Res -> σ -> Prop) (Stop : Nat -> Res -> SH -> Prop) (s0 : σ) (h0 : Φ 0 X s0) (hl : Ls X v l) (hc : Enc.rep X uc c) (hm : FlR X m fl) (hf : ∀ p ∈ c.pars, (ae l p.name).forms.length = p.args.length /\ p.und.length <= 1099511627776)
  (hy:∀ (k:Nat) (Y:Res) (s : σ) (x:Cm) (us:List Value),(comes fl l c)[k]? = some x->Ext X Y->Enc.rep Y us x -> Φ k Y s->Yc prog yl #[.agg us.toArray] (Y::mps mb m::Inv s) λu h'=>(u = .bool true/\∃ Y' s',Ext Y Y' /\ Φ (k+1) Y' s'/\h'=Y'::mps mb m::Inv s')\/(u = .bool false/\∃ Y' t,Ext Y Y'/\Stop k Y' t/\h'=Y'::mps mb m::t)) (hmon:∀ k Y Y' s,Ext Y Y' -> Φ k Y s -> Φ k Y' s) :
  Ct prog 237 #[.func (.yield yl) #[] #[],.pointer (some ⟨b1,0,none⟩),.pointer (some ⟨b2,0,none⟩)] (pt b1 (cl uc 44)::pt b2 (cl [v,.map (some mb)] 114)::X::mps mb m::Inv s0) λu h'=>u = .tuple #[] /\
   ((∃ Y s,Ext X Y /\ Φ (comes fl l c).length Y s/\h'=pt b1 (cl uc 44)::pt b2 (cl [v,.map (some mb)] 114)::Y::mps mb m::Inv s)\/∃ k Y t,Ext X Y/\Stop k Y t/\h'=pt b1 (cl uc 44)::pt b2 (cl [v,.map (some mb)] 114)::Y::mps mb m::t):=by
 have hml:maxLen=9223372036854775807:=rfl
 obtain ⟨ca,cb,ce,cf,ci,rfl,hca,hcb,hce,hcf,hci⟩:=gB hc
 obtain ⟨cb,ck,rfl,hck,hckm,_⟩:=id hcb.form
 refine aJ (n:=113) func237 Z Z (len Z) λhr w0=>?_
 refine cQ<|sV (vF Z eP Z)<|sV (vY Z lD) ?_
 refine sV (aC Z underlying39)<|sM Z<|sK [0,2,13,14,15] Z<|cB<|aY (σ := Nat×Res × σ) (λq=>[(0,.func (.yield yl) #[] #[]),(2,.pointer (some ⟨b2,0,none⟩)),(13,.slice cb c.pars.length ck),(14,.int .i64 c.pars.length),(15,.int .i64 (q.1:Nat))]) (λq=>pt b1 (cl [sv c.name,.bool c.dfd,ca,.slice cb c.pars.length ck,ce,cf,ci] 44)::pt b2 (cl [v,.map (some mb)] 114)::q.2.1::mps mb m::(Inv q.2.2++hr)) (λq=>q.1<=c.pars.length/\Ext X q.2.1 /\ Φ (Fs fl l c q.1) q.2.1 q.2.2) (λq=>c.pars.length - q.1) (0,X,s0) ⟨Nat.zero_le _,Ext.refl X,h0⟩ ?_
 rintro ⟨i,Y,s⟩ ⟨hi,hE,hΦ⟩
 simp only at hi hE hΦ
 dsimp only
 refine cQ<|sV (aO Z Z)<|sN<|nT<|cS<|cC Z (λhd=>?_)<|λhd=>?_
 .have hlt:i<c.pars.length:=Zx
  have hsucc:=Mq (fl:=fl) (l:=l) hlt
  have hat:=λj=>OO (fl:=fl) (l:=l) (j:=j) hlt
  have hfp:=hf c.pars[i]<|List.getElem_mem hlt
  obtain ⟨pb,po,pcap,pus,e1,hpus,hprd,hp⟩:=(hcb.up hE).at<|Zy hlt
  obtain ⟨rfl,rfl⟩:cb=some ⟨pb,po,none⟩/\ck=pcap:=by cases e1; exact ⟨rfl,rfl⟩
  generalize c.pars[i]=p at hsucc hat hfp hp
  have hp0:=hp
  obtain ⟨pa,pr,pu,pd,ps,rfl,hpa,hpr,hpu,hpd,hps⟩:=hp
  obtain ⟨aA,kA,rfl,_⟩:=id hpa.form
  obtain ⟨aR,kR,rfl,_⟩:=id hpr.form
  obtain ⟨aU,kU,rfl,_⟩:=id hpu.form
  obtain ⟨aD,kD,rfl,_⟩:=id hpd.form
  obtain ⟨aS,kS,rfl,_⟩:=id hps.form
  obtain ⟨fus,hfl,hfr⟩:=hm.up hE p.name
  obtain ⟨mx,my,rfl,hmx,hmy⟩:=hfr
  obtain ⟨mA,mK,rfl,_⟩:=id hmx.form
  have hcc:=mG (n:=p.name) (fv:=.map<|some mb) (hl.up hE) rfl
  refine cK<|xT<|cS<|cB<|cQ<|sM Z<|sV (vI (k:=i) Z Z lY Z hlt Z)<|sV (af Z oP Z hprd) ?_
  refine au vO λb5=>?_
  refine sA Z<|ai Z Z qU Z Z ?_
  refine sK [0,2,4,5,13,14,15] Z<|cQ<|sV (af Z ig Z ag) ?_
  refine sV (vF Z gV Z)<|sV (vY Z ld9) ?_
  refine aH Z Z en56 Z (hcc) ?_
  rintro u h' ⟨rfl,cus,rfl,hcr⟩
  simp only [lC,lN]
  obtain ⟨fa,fb,fc,fd,fe,rfl,hfa,-,-,-,-⟩:=gB hcr
  obtain ⟨fA,fK,rfl,_⟩:=id hfa.form
  refine sV (iU (k:=2) Z underlying44 Z isAgg38 Z)<|sA Z<|sK [0,2,4,5,6,13,14,15] Z<|cQ<|sV (vF Z iW Z)<|sV (vY Z qI) ?_
  refine sV (vF Z gV Z)<|sV (vY Z ld9) ?_
  refine sV (gM hfl<|bP Z Z qG qH slq) ?_
  refine sV (iU (k:=2) Z underlying55 Z isAgg52 Z)<|sV (aC Z underlying52)<|sM Z<|sK [0,2,4,5,6,13,14,15,30,31,32] Z<|cB<|aY (σ := Nat×Res × σ) (λq=>[(0,.func (.yield yl) #[] #[]),(2,.pointer (some ⟨b2,0,none⟩)),(13,.slice (some ⟨pb,po,none⟩) c.pars.length ck),(14,.int .i64 c.pars.length),(15,.int .i64 (i:Nat)),(4,.int .i64 (i:Nat)),(5,.pointer (some ⟨b5,0,none⟩)),(6,.slice fA (ae l p.name).forms.length fK),(30,.slice mA (fl p.name).mems.length mK),(31,.int .i64 (fl p.name).mems.length),(32,.int .i64 (q.1:Nat))]) (λq=>pt b5 (cl [sv p.name,.slice aA p.args.length kA,.slice aR p.ren.length kR,.slice aU p.und.length kU,.slice aD p.red.length kD,.slice aS p.sel.length kS] 88)::pt b1 (cl [sv c.name,.bool c.dfd,ca,.slice (some ⟨pb,po,none⟩) c.pars.length ck,ce,cf,ci] 44)::pt b2 (cl [v,.map (some mb)] 114)::q.2.1::mps mb m::(Inv q.2.2++hr)) (λq=>q.1<=(fl p.name).mems.length/\Ext Y q.2.1 /\ Φ (Fs fl l c i+q.1) q.2.1 q.2.2) (λq=>(fl p.name).mems.length - q.1) (0,Y,s) ⟨Nat.zero_le _,Ext.refl Y,hΦ⟩ ?_
  clear hΦ
  rintro ⟨j,Zq,s⟩ ⟨hj,hE2,hΦ⟩
  simp only at hj hE2 hΦ
  dsimp only
  refine cQ<|sV (aO Z Z)<|sN<|nT<|cS<|cC Z (λhd2=>?_)<|λhd2=>?_
  .have hltj:j<(fl p.name).mems.length:=Zw
   have hatj:=hat j hltj
   obtain ⟨xb,xo,xcap,xus,e2,hxus,hxrd,hx⟩:=(hmx.up hE2).at<|Zy hltj
   obtain ⟨rfl,rfl⟩:mA=some ⟨xb,xo,none⟩/\mK=xcap:=by cases e2; exact ⟨rfl,rfl⟩
   generalize (fl p.name).mems[j]=x at hatj hx
   obtain ⟨x2,x5,xy,x11,x12,x13,rfl,hx2,hx5,hxy,hx11,hx12,hx13⟩:=dN hx
   obtain ⟨ax2,kx2,rfl,_⟩:=id hx2.form
   obtain ⟨ax5,kx5,rfl,_⟩:=id hx5.form
   obtain ⟨axy,kxy,rfl,_⟩:=id hxy.form
   obtain ⟨ax11,kx11,rfl,_⟩:=id hx11.form
   obtain ⟨ax12,kx12,rfl,_⟩:=id hx12.form
   obtain ⟨ax13,kx13,rfl,_⟩:=id hx13.form
   unfold iC at *
   have hp1:=Enc.up hE2.rd hp0
   refine cK<|xT<|cS<|cB<|cQ<|sV (vI (k:=j) Z Z oM Z hltj Z)<|sV (af Z fE Z hxrd) ?_
   refine au jR λb8=>?_
   refine ai Z Z iH Z Z ?_
   refine sK [0,2,4,5,6,8,13,14,15,30,31,32] Z<|cQ<|sV (vF Z gV Z)<|sV (vY Z ld9) ?_
   refine sV (vF Z eQ Z)<|sV (vY Z ld9) ?_
   refine sV (aP (cells:=[sv p.name,sv x.name]) Z<|λ_=>Zz) ?_
   refine sM Z<|sV (af Z fE Z ag) ?_
   refine sV (vF Z rO Z)<|sV (vY Z ld3) ?_
   refine sV (aP (cells:=[sv p.name,sv x.name,.int .i64 (i:Nat),sv x.name,.int .i64 x.kind,.slice ax2 x.seeds.length kx2,sv x.impl.cls,sv x.impl.name,.slice ax5 x.args.length kx5,.int .i64 x.ty.kind,sv x.ty.name,.slice axy x.ty.args.length kxy,.bool x.ty.void,.bool x.ty.sep,.slice ax11 x.clients.length kx11,.slice ax12 x.pre.length kx12,.slice ax13 x.post.length kx13,.int .i64 x.kind]) Z<|λ_=>Zz) ?_
   refine au rP λb9=>?_
   refine ai Z Z mY Z Z ?_
   refine sK [0,2,4,5,6,8,9,13,14,15,30,31,32] Z<|cQ<|sV (vF Z ed Z)<|sA Z<|sK [0,2,4,5,6,8,9,10,13,14,15,30,31,32] Z<|cQ<|sM Z<|sV (af Z oP Z ag) ?_
   refine sV (vF Z eQ Z)<|sV (vY Z ld9) ?_
   refine aH Z Z en173 Z (uI (n:=x.name) hp1) ?_
   rintro u h' ⟨rfl,rfl⟩
   simp only [lC,lN]
   refine sV (vN Z)<|sV (vF Z eQ Z)<|bi Z Z sz9 ?_
   refine sK [0,2,4,5,6,8,9,10,13,14,15,30,31,32] Z<|cS<|cS<|bC (ork [(0,2),(1,1),(2,2),(3,2),(4,2),(5,1),(6,1)] .nil) (λ_=>true) mixed Zz ?_
   refine dV Z (vF Z wU Z)<|bu Z (vY Z gq) ?_
   refine dV Z (vM Z)<|dV Z (vN Z)<|dV Z (vF Z eQ Z)<|bu Z (vY Z ld9) ?_
   refine jE Z Z Z EI Z (fQ (Fu<|hpu.up hE2) (bJ p x.name) hfp.2) ?_
   refine bB<|nK [0,2,4,5,6,8,9,10,13,14,15,30,31,32,60] Z<|nT<|nE (ex:=.normal) (α := {k:Int // k=if p.und.contains (bJ p x.name) then 3 else x.kind}) (λq=>[(0,.func (.yield yl) #[] #[]),(2,.pointer (some ⟨b2,0,none⟩)),(13,.slice (some ⟨pb,po,none⟩) c.pars.length ck),(14,.int .i64 c.pars.length),(15,.int .i64 (i:Nat)),(4,.int .i64 (i:Nat)),(5,.pointer (some ⟨b5,0,none⟩)),(6,.slice fA (ae l p.name).forms.length fK),(30,.slice (some ⟨xb,xo,none⟩) (fl p.name).mems.length mK),(31,.int .i64 (fl p.name).mems.length),(32,.int .i64 (j:Nat)),(8,.pointer (some ⟨b8,0,none⟩)),(9,.pointer (some ⟨b9,0,none⟩)),(10,.pointer (some ⟨b9,3,none⟩))]) (λq=>pt b9 (cl [sv p.name,sv x.name,.int .i64 (i:Nat),sv (bJ p x.name),.int .i64 q.1,.slice ax2 x.seeds.length kx2,sv x.impl.cls,sv x.impl.name,.slice ax5 x.args.length kx5,.int .i64 x.ty.kind,sv x.ty.name,.slice axy x.ty.args.length kxy,.bool x.ty.void,.bool x.ty.sep,.slice ax11 x.clients.length kx11,.slice ax12 x.pre.length kx12,.slice ax13 x.post.length kx13,.int .i64 x.kind] 191)::pt b8 (cl [sv x.name,.int .i64 x.kind,.slice ax2 x.seeds.length kx2,sv x.impl.cls,sv x.impl.name,.slice ax5 x.args.length kx5,.int .i64 x.ty.kind,sv x.ty.name,.slice axy x.ty.args.length kxy,.bool x.ty.void,.bool x.ty.sep,.slice ax11 x.clients.length kx11,.slice ax12 x.pre.length kx12,.slice ax13 x.post.length kx13] 75)::pt b5 (cl [sv p.name,.slice aA p.args.length kA,.slice aR p.ren.length kR,.slice aU p.und.length kU,.slice aD p.red.length kD,.slice aS p.sel.length kS] 88)::pt b1 (cl [sv c.name,.bool c.dfd,ca,.slice (some ⟨pb,po,none⟩) c.pars.length ck,ce,cf,ci] 44)::pt b2 (cl [v,.map (some mb)] 114)::Zq::mps mb m::(Inv s++hr)) (λhcont=>?_)<|λq=>?_
   .refine cC Z (λhu=>?_)<|λhu=>?_
    .refine cR<|sM Z<|sV (vN Z)<|sV (vF Z rO Z)<|bi Z Z sz3 ?_
     refine sN<|nK [0,2,4,5,6,8,9,10,13,14,15,30,31,32] Z<|ax ?_
     exact hcont ⟨3,by rw [if_pos hu]⟩ _ _ ⟨Z,Z,Z,Z,Z,Z,Z,Z,Z,Z,Z,Z,Z,Z,trivial⟩ sbq
    .refine cK ?_
     exact hcont ⟨x.kind,by rw [if_neg (by rw [hu]; decide)]⟩ _ _ ⟨Z,Z,Z,Z,Z,Z,Z,Z,Z,Z,Z,Z,Z,Z,trivial⟩ sbq
   obtain ⟨kd,hkd⟩:=q
   dsimp only
   refine xT<|cQ<|sM Z<|sV (vF Z jW Z)<|sV (vY Z rF) ?_
   refine aH Z Z en200 Z (pF<|r9 hx5) ?_
   rintro u h' ⟨T1,rfl,rows1,rfl,⟨o1,w1⟩,ua,uk,hu⟩
   rw [w1.1] at hu; subst hu
   simp only [lC,lN]
   refine sV (vN Z)<|sV (vF Z jW Z)<|bi Z Z sz70 ?_
   refine sK [0,2,4,5,6,8,9,10,13,14,15,30,31,32] Z<|cS<|cQ<|sM Z<|sV (vN Z)<|sV (vF Z jW Z)<|sV (vY Z rF) ?_
   refine sV (aC Z underlying70)<|sM Z<|sK [0,2,4,5,6,8,9,10,13,14,15,30,31,32,74,75] Z<|cB<|aY (σ := List (List Value)×Res×Nat) (λq=>[(0,.func (.yield yl) #[] #[]),(2,.pointer (some ⟨b2,0,none⟩)),(13,.slice (some ⟨pb,po,none⟩) c.pars.length ck),(14,.int .i64 c.pars.length),(15,.int .i64 (i:Nat)),(4,.int .i64 (i:Nat)),(5,.pointer (some ⟨b5,0,none⟩)),(6,.slice fA (ae l p.name).forms.length fK),(30,.slice (some ⟨xb,xo,none⟩) (fl p.name).mems.length mK),(31,.int .i64 (fl p.name).mems.length),(32,.int .i64 (j:Nat)),(8,.pointer (some ⟨b8,0,none⟩)),(9,.pointer (some ⟨b9,0,none⟩)),(10,.pointer (some ⟨b9,3,none⟩)),(74,.int .i64 x.args.length),(75,.int .i64 (q.2.2:Nat))]) (λq=>pt b9 (cl [sv p.name,sv x.name,.int .i64 (i:Nat),sv (bJ p x.name),.int .i64 kd,.slice ax2 x.seeds.length kx2,sv x.impl.cls,sv x.impl.name,.slice ua x.args.length uk,.int .i64 x.ty.kind,sv x.ty.name,.slice axy x.ty.args.length kxy,.bool x.ty.void,.bool x.ty.sep,.slice ax11 x.clients.length kx11,.slice ax12 x.pre.length kx12,.slice ax13 x.post.length kx13,.int .i64 x.kind] 191)::VR (.slice ua x.args.length uk) 132 6 q.1::pt b8 (cl [sv x.name,.int .i64 x.kind,.slice ax2 x.seeds.length kx2,sv x.impl.cls,sv x.impl.name,.slice ax5 x.args.length kx5,.int .i64 x.ty.kind,sv x.ty.name,.slice axy x.ty.args.length kxy,.bool x.ty.void,.bool x.ty.sep,.slice ax11 x.clients.length kx11,.slice ax12 x.pre.length kx12,.slice ax13 x.post.length kx13] 75)::pt b5 (cl [sv p.name,.slice aA p.args.length kA,.slice aR p.ren.length kR,.slice aU p.und.length kU,.slice aD p.red.length kD,.slice aS p.sel.length kS] 88)::pt b1 (cl [sv c.name,.bool c.dfd,ca,.slice (some ⟨pb,po,none⟩) c.pars.length ck,ce,cf,ci] 44)::pt b2 (cl [v,.map (some mb)] 114)::q.2.1::mps mb m::(Inv s++hr)) (λq=>q.2.2<=x.args.length/\Ext Zq q.2.1/\Rws q.2.1 q.1 ((x.args.take q.2.2).map (subV (ae l p.name).forms p.args)++x.args.drop q.2.2)) (λq=>x.args.length - q.2.2) (rows1,Zq,0) ⟨Nat.zero_le _,Ext.refl Zq,by simpa using w1⟩ ?_
   rintro ⟨rows,W,k⟩ ⟨hk,hE3,hro⟩
   simp only at hk hE3 hro
   dsimp only
   refine cQ<|sV (aO Z Z)<|sN<|nT<|cS<|cC Z (λhd3=>?_)<|λhd3=>?_
   .have hltk:k<x.args.length:=Zr
    have hset:=map_set (g:=subV (ae l p.name).forms p.args) hltk
    refine fD (r:=VR (.slice ua x.args.length uk) 132 6 rows) slq λhok=>?_
    have hrl:rows.length=x.args.length:=by rw [hro.1]; simp; omega
    have hkr:k<rows.length:=by omega
    obtain ⟨ub,uo,rfl⟩:∃ ub uo,ua=some ⟨ub,uo,none⟩:=by
     obtain ⟨f0,hf0⟩:=hok
     rcases VR.form hf0 with ⟨h3,h4⟩ | ⟨b,o,cp,h3,-⟩
     .rw [h4] at hkr; simp at hkr
     .rw [hrl] at h3; cases h3; exact ⟨b,o,rfl⟩
    have hrow:=Zy hkr
    have hrepk:=hro.2 k _ x.args[k] hrow<|map_at hltk
    generalize hrk:rows[k]=r at hrow hrepk
    generalize x.args[k]=g at hset hrepk
    obtain ⟨ts,rfl,hty⟩:=hrepk
    obtain ⟨gy,rfl,hgy⟩:=eH hty
    obtain ⟨gya,gyc,rfl,_⟩:=id hgy.form
    have hrdT:=bF (k:=1) (vs:=[.int .i64 g.ty.kind,sv g.ty.name,.slice gya g.ty.args.length gyc,.bool g.ty.void,.bool g.ty.sep]) (dU (b:=ub) (o:=uo) (n:=x.args.length) (cp:=uk) (E:=132) (sz:=6) hrow) rfl
    have hcs:=AY hfp.1 ((hfa.up hE2).up hE3) ((hpa.up hE2).up hE3) hty
    unfold tyC at hcs
    refine cK<|xT<|cS<|cB<|cQ<|sM Z<|sA Z<|sK [0,2,4,5,6,8,9,10,11,13,14,15,30,31,32,74,75] Z<|bC (ork [(0,2),(1,2),(2,2),(3,1),(4,2),(5,2),(6,2),(7,2),(8,1),(9,2),(10,2),(11,2),(12,1),(13,2),(14,2),(15,1),(16,0),(17,2),(18,2),(19,0)] .nil) (λi => !(Nat.beq i 19)) mixed Zz ?_
    refine dV Z (vM Z)<|dV Z (vN Z)<|dV Z (vF Z jW Z)<|bu Z (vY Z rF) ?_
    refine dV Z (vM Z)<|dV Z (vM Z)<|dV Z (vN Z)<|dV Z (vF Z jW Z)<|bu Z (vY Z rF) ?_
    refine dV Z (vM Z)<|dV Z (vI (k:=k) Z Z Aa Z hltk Z)<|dV Z (vF Z kw Z)<|bu Z (af Z fM Z hrdT) ?_
    refine dV Z (vM Z)<|dV Z (vF Z wT Z)<|bu Z (vY Z pX) ?_
    refine aT Z<|aH Z Z KJ Z (hcs) ?_
    rintro u h' ⟨T,rfl,us5,rfl,hT⟩
    simp only [lC,lN]
    have h5:us5.length=5:=Enc.len hT
    have hone5:=Enc.ones hT
    obtain ⟨t0,t1,t2,t3,t4,rfl⟩:=len5 h5
    refine aW ?_
    refine dV Z (vI (k:=k) Z Z Aa Z hltk Z)<|dV Z (vF Z kw Z)<|aT Z<|st_vrS (m:=k) (k:=1) (rows:=rows) Z Z oK Z (λu hu=>List.all_eq_true.1 hone5 u hu) hrow (by decide) slq<|aW ?_
    rw [show splice (sv g.name::tyC g.ty (.slice gya g.ty.args.length gyc)) 1 [t0,t1,t2,t3,t4]=[sv g.name,t0,t1,t2,t3,t4] from rfl]
    refine bB<|nK [0,2,4,5,6,8,9,10,13,14,15,30,31,32,74,75] Z<|ax<|xB<|xT<|cR<|sV (aI Z Z Z0)<|sM Z<|sN<|nK [0,2,4,5,6,8,9,10,13,14,15,30,31,32,74,75] Z<|ax (qx [T] W λW2 hE4 hsel hpk=>?_)
    refine aL (rows.set k [sv g.name,t0,t1,t2,t3,t4],W2,k+1) ⟨hltk,hE3.trans hE4,by rw [<- hset]; exact rws_set (hro.up hE4) ⟨[t0,t1,t2,t3,t4],Z,Enc.up (hpk _ _ .here) hT⟩⟩ (by dsimp only; omega)
   .have hke:k=x.args.length:=by
     have:¬ k<x.args.length:=Zr
     omega
    subst hke
    rw [List.take_length,List.drop_length,List.append_nil] at hro
    have hcs:=AY hfp.1 ((hfa.up hE2).up hE3) ((hpa.up hE2).up hE3)<|gI (t:=x.ty) rfl<|hxy.up hE3
    unfold tyC at hcs
    refine aB<|xE<|xE<|xY<|xT<|cQ<|sM Z<|sV (vF Z nR Z)<|sV (af Z fM Z<|bF (us:=[sv x.name,.int .i64 x.kind,.slice ax2 x.seeds.length kx2,sv x.impl.cls,sv x.impl.name,.slice ax5 x.args.length kx5,.int .i64 x.ty.kind,sv x.ty.name,.slice axy x.ty.args.length kxy,.bool x.ty.void,.bool x.ty.sep,.slice ax11 x.clients.length kx11,.slice ax12 x.pre.length kx12,.slice ax13 x.post.length kx13]) (vs:=[.int .i64 x.ty.kind,sv x.ty.name,.slice axy x.ty.args.length kxy,.bool x.ty.void,.bool x.ty.sep]) (k:=6) ag Z) ?_
    refine sM Z<|sV (vF Z wT Z)<|sV (vY Z pX) ?_
    refine aH Z Z KJ Z (hcs) ?_
    rintro u h' ⟨T,rfl,us5,rfl,hT⟩
    simp only [lC,lN]
    obtain ⟨ny,rfl,hny⟩:=eH hT
    obtain ⟨nya,nyc,rfl,_⟩:=id hny.form
    unfold tyC
    refine sV (vN rfl)<|sV (vF rfl nR rfl)<|iG rfl rfl oK rfl (λu hu=>by simp at hu; rcases hu with rfl | rfl | rfl | rfl | rfl <;> rfl) (show Sel _ (pt b9<|cl [sv p.name,sv x.name,.int .i64 (i:Nat),sv (bJ p x.name),.int .i64 kd,.slice ax2 x.seeds.length kx2,sv x.impl.cls,sv x.impl.name,.slice ua x.args.length uk,.int .i64 x.ty.kind,sv x.ty.name,.slice axy x.ty.args.length kxy,.bool x.ty.void,.bool x.ty.sep,.slice ax11 x.clients.length kx11,.slice ax12 x.pre.length kx12,.slice ax13 x.post.length kx13,.int .i64 x.kind] 191) _ from slq) (by simp) ?_
    rw [show splice [sv p.name,sv x.name,.int .i64 (i:Nat),sv (bJ p x.name),.int .i64 kd,.slice ax2 x.seeds.length kx2,sv x.impl.cls,sv x.impl.name,.slice ua x.args.length uk,.int .i64 x.ty.kind,sv x.ty.name,.slice axy x.ty.args.length kxy,.bool x.ty.void,.bool x.ty.sep,.slice ax11 x.clients.length kx11,.slice ax12 x.pre.length kx12,.slice ax13 x.post.length kx13,.int .i64 x.kind] (3+6) [.int .i64 (dD (ae l p.name).forms p.args x.ty).kind,sv (dD (ae l p.name).forms p.args x.ty).name,.slice nya (dD (ae l p.name).forms p.args x.ty).args.length nyc,.bool (dD (ae l p.name).forms p.args x.ty).void,.bool (dD (ae l p.name).forms p.args x.ty).sep]=[sv p.name,sv x.name,.int .i64 (i:Nat),sv (bJ p x.name),.int .i64 kd,.slice ax2 x.seeds.length kx2,sv x.impl.cls,sv x.impl.name,.slice ua x.args.length uk,.int .i64 (dD (ae l p.name).forms p.args x.ty).kind,sv (dD (ae l p.name).forms p.args x.ty).name,.slice nya (dD (ae l p.name).forms p.args x.ty).args.length nyc,.bool (dD (ae l p.name).forms p.args x.ty).void,.bool (dD (ae l p.name).forms p.args x.ty).sep,.slice ax11 x.clients.length kx11,.slice ax12 x.pre.length kx12,.slice ax13 x.post.length kx13,.int .i64 x.kind] from rfl]
    refine sK [0,2,4,5,6,9,13,14,15,30,31,32] Z<|cS (fD (r:=VR (.slice ua x.args.length uk) 132 6 rows) slq λhok=>?_)
    refine cd_abs2 [T,VR (.slice ua x.args.length uk) 132 6 rows] W λW2 hE4 hsel hpk=>?_
    have hE5:=hE3.trans hE4
    have hargs:Ls W2 (.slice ua x.args.length uk) (x.args.map<|subV (ae l p.name).forms p.args):=by
     have:=Rws.ls (E:=132) (hro.up hE4) hok (hsel _ _<|.there .here) (show (x.args.map<|subV (ae l p.name).forms p.args).length * 72<=reachBytes by rw [List.length_map]; exact hx5.sizes)
     exact this
    have hrc:Enc.rep W2 [sv p.name,sv x.name,.int .i64 (i:Nat),sv (bJ p x.name),.int .i64 kd,.slice ax2 x.seeds.length kx2,sv x.impl.cls,sv x.impl.name,.slice ua x.args.length uk,.int .i64 (dD (ae l p.name).forms p.args x.ty).kind,sv (dD (ae l p.name).forms p.args x.ty).name,.slice nya (dD (ae l p.name).forms p.args x.ty).args.length nyc,.bool (dD (ae l p.name).forms p.args x.ty).void,.bool (dD (ae l p.name).forms p.args x.ty).sep,.slice ax11 x.clients.length kx11,.slice ax12 x.pre.length kx12,.slice ax13 x.post.length kx13,.int .i64 x.kind] (iO (ae l p.name).forms i p x):=by
     subst hkd
     exact cm_of (x:=iO (ae l p.name).forms i p x) ⟨hx2.up hE5,hargs,hny.up' (hpk _ _ .here),hx11.up hE5,hx12.up hE5,hx13.up hE5⟩
    have hyy:=hy _ W2 s _ _ hatj ((hE.trans hE2).trans hE5) hrc<|hmon _ _ _ _ hE5 hΦ
    refine cR<|sM Z<|sV (af Z ik Z ag) ?_
    refine ve (gd:=0) (.inl Z) Z Z hyy (Pk.of (hr:=pt b9 (cl [sv p.name,sv x.name,.int .i64 (i:Nat),sv (bJ p x.name),.int .i64 kd,.slice ax2 x.seeds.length kx2,sv x.impl.cls,sv x.impl.name,.slice ua x.args.length uk,.int .i64 (dD (ae l p.name).forms p.args x.ty).kind,sv (dD (ae l p.name).forms p.args x.ty).name,.slice nya (dD (ae l p.name).forms p.args x.ty).args.length nyc,.bool (dD (ae l p.name).forms p.args x.ty).void,.bool (dD (ae l p.name).forms p.args x.ty).sep,.slice ax11 x.clients.length kx11,.slice ax12 x.pre.length kx12,.slice ax13 x.post.length kx13,.int .i64 x.kind] 191)::pt b8 (cl [sv x.name,.int .i64 x.kind,.slice ax2 x.seeds.length kx2,sv x.impl.cls,sv x.impl.name,.slice ax5 x.args.length kx5,.int .i64 x.ty.kind,sv x.ty.name,.slice axy x.ty.args.length kxy,.bool x.ty.void,.bool x.ty.sep,.slice ax11 x.clients.length kx11,.slice ax12 x.pre.length kx12,.slice ax13 x.post.length kx13] 75)::pt b5 (cl [sv p.name,.slice aA p.args.length kA,.slice aR p.ren.length kR,.slice aU p.und.length kU,.slice aD p.red.length kD,.slice aS p.sel.length kS] 88)::pt b1 (cl [sv c.name,.bool c.dfd,ca,.slice (some ⟨pb,po,none⟩) c.pars.length ck,ce,cf,ci] 44)::pt b2 (cl [v,.map (some mb)] 114)::hr)<|by exact .cons _<|List.perm_append_comm_assoc [pt b9 (cl [sv p.name,sv x.name,.int .i64 (i:Nat),sv (bJ p x.name),.int .i64 kd,.slice ax2 x.seeds.length kx2,sv x.impl.cls,sv x.impl.name,.slice ua x.args.length uk,.int .i64 (dD (ae l p.name).forms p.args x.ty).kind,sv (dD (ae l p.name).forms p.args x.ty).name,.slice nya (dD (ae l p.name).forms p.args x.ty).args.length nyc,.bool (dD (ae l p.name).forms p.args x.ty).void,.bool (dD (ae l p.name).forms p.args x.ty).sep,.slice ax11 x.clients.length kx11,.slice ax12 x.pre.length kx12,.slice ax13 x.post.length kx13,.int .i64 x.kind] 191),pt b8 (cl [sv x.name,.int .i64 x.kind,.slice ax2 x.seeds.length kx2,sv x.impl.cls,sv x.impl.name,.slice ax5 x.args.length kx5,.int .i64 x.ty.kind,sv x.ty.name,.slice axy x.ty.args.length kxy,.bool x.ty.void,.bool x.ty.sep,.slice ax11 x.clients.length kx11,.slice ax12 x.pre.length kx12,.slice ax13 x.post.length kx13] 75),pt b5 (cl [sv p.name,.slice aA p.args.length kA,.slice aR p.ren.length kR,.slice aU p.und.length kU,.slice aD p.red.length kD,.slice aS p.sel.length kS] 88),pt b1 (cl [sv c.name,.bool c.dfd,ca,.slice (some ⟨pb,po,none⟩) c.pars.length ck,ce,cf,ci] 44),pt b2 (cl [v,.map (some mb)] 114)] (mps mb m::Inv s) hr) (ltn Z) ?_
    rintro u h' (⟨rfl,Y2,s2,hE6,hΦ2,rfl⟩ | ⟨rfl,Y2,t,hE6,hS,rfl⟩)
    .refine sV (bg Z)<|sK [0,2,4,5,6,13,14,15,30,31,32,110] Z<|aG Z ?_
     refine cK<|xB<|xT<|cR<|sV (aI Z Z Z0)<|sM Z<|sN<|nK [0,2,4,5,6,13,14,15,30,31,32] Z<|ax<|Dj (k:=pt b9 (cl [sv p.name,sv x.name,.int .i64 (i:Nat),sv (bJ p x.name),.int .i64 kd,.slice ax2 x.seeds.length kx2,sv x.impl.cls,sv x.impl.name,.slice ua x.args.length uk,.int .i64 (dD (ae l p.name).forms p.args x.ty).kind,sv (dD (ae l p.name).forms p.args x.ty).name,.slice nya (dD (ae l p.name).forms p.args x.ty).args.length nyc,.bool (dD (ae l p.name).forms p.args x.ty).void,.bool (dD (ae l p.name).forms p.args x.ty).sep,.slice ax11 x.clients.length kx11,.slice ax12 x.pre.length kx12,.slice ax13 x.post.length kx13,.int .i64 x.kind] 191)::pt b8 (cl [sv x.name,.int .i64 x.kind,.slice ax2 x.seeds.length kx2,sv x.impl.cls,sv x.impl.name,.slice ax5 x.args.length kx5,.int .i64 x.ty.kind,sv x.ty.name,.slice axy x.ty.args.length kxy,.bool x.ty.void,.bool x.ty.sep,.slice ax11 x.clients.length kx11,.slice ax12 x.pre.length kx12,.slice ax13 x.post.length kx13] 75)::pt b5 (cl [sv p.name,.slice aA p.args.length kA,.slice aR p.ren.length kR,.slice aU p.und.length kU,.slice aD p.red.length kD,.slice aS p.sel.length kS] 88)::pt b1 (cl [sv c.name,.bool c.dfd,ca,.slice (some ⟨pb,po,none⟩) c.pars.length ck,ce,cf,ci] 44)::pt b2 (cl [v,.map (some mb)] 114)::Y2::mps mb m::(Inv s2++hr)) (by exact List.perm_append_comm_assoc (Y2::mps mb m::Inv s2) [pt b9 (cl [sv p.name,sv x.name,.int .i64 (i:Nat),sv (bJ p x.name),.int .i64 kd,.slice ax2 x.seeds.length kx2,sv x.impl.cls,sv x.impl.name,.slice ua x.args.length uk,.int .i64 (dD (ae l p.name).forms p.args x.ty).kind,sv (dD (ae l p.name).forms p.args x.ty).name,.slice nya (dD (ae l p.name).forms p.args x.ty).args.length nyc,.bool (dD (ae l p.name).forms p.args x.ty).void,.bool (dD (ae l p.name).forms p.args x.ty).sep,.slice ax11 x.clients.length kx11,.slice ax12 x.pre.length kx12,.slice ax13 x.post.length kx13,.int .i64 x.kind] 191),pt b8 (cl [sv x.name,.int .i64 x.kind,.slice ax2 x.seeds.length kx2,sv x.impl.cls,sv x.impl.name,.slice ax5 x.args.length kx5,.int .i64 x.ty.kind,sv x.ty.name,.slice axy x.ty.args.length kxy,.bool x.ty.void,.bool x.ty.sep,.slice ax11 x.clients.length kx11,.slice ax12 x.pre.length kx12,.slice ax13 x.post.length kx13] 75),pt b5 (cl [sv p.name,.slice aA p.args.length kA,.slice aR p.ren.length kR,.slice aU p.und.length kU,.slice aD p.red.length kD,.slice aS p.sel.length kS] 88),pt b1 (cl [sv c.name,.bool c.dfd,ca,.slice (some ⟨pb,po,none⟩) c.pars.length ck,ce,cf,ci] 44),pt b2 (cl [v,.map (some mb)] 114)] hr) ?_
     refine aL (j+1,Y2,s2) ⟨hltj,(hE2.trans hE5).trans hE6,hΦ2⟩ (by dsimp only; omega)
    .refine sV (bg Z)<|sK [0,2,4,5,6,13,14,15,30,31,32,110] Z<|aQ Z ?_
     refine cT<|xW<|xR<|xR<|xW<|xW<|xR<|xR<|xW<|Dj (k:=pt b9 (cl [sv p.name,sv x.name,.int .i64 (i:Nat),sv (bJ p x.name),.int .i64 kd,.slice ax2 x.seeds.length kx2,sv x.impl.cls,sv x.impl.name,.slice ua x.args.length uk,.int .i64 (dD (ae l p.name).forms p.args x.ty).kind,sv (dD (ae l p.name).forms p.args x.ty).name,.slice nya (dD (ae l p.name).forms p.args x.ty).args.length nyc,.bool (dD (ae l p.name).forms p.args x.ty).void,.bool (dD (ae l p.name).forms p.args x.ty).sep,.slice ax11 x.clients.length kx11,.slice ax12 x.pre.length kx12,.slice ax13 x.post.length kx13,.int .i64 x.kind] 191)::pt b8 (cl [sv x.name,.int .i64 x.kind,.slice ax2 x.seeds.length kx2,sv x.impl.cls,sv x.impl.name,.slice ax5 x.args.length kx5,.int .i64 x.ty.kind,sv x.ty.name,.slice axy x.ty.args.length kxy,.bool x.ty.void,.bool x.ty.sep,.slice ax11 x.clients.length kx11,.slice ax12 x.pre.length kx12,.slice ax13 x.post.length kx13] 75)::pt b5 (cl [sv p.name,.slice aA p.args.length kA,.slice aR p.ren.length kR,.slice aU p.und.length kU,.slice aD p.red.length kD,.slice aS p.sel.length kS] 88)::pt b1 (cl [sv c.name,.bool c.dfd,ca,.slice (some ⟨pb,po,none⟩) c.pars.length ck,ce,cf,ci] 44)::pt b2 (cl [v,.map (some mb)] 114)::Y2::mps mb m::(t++hr)) (by exact List.perm_append_comm_assoc (Y2::mps mb m::t) [pt b9 (cl [sv p.name,sv x.name,.int .i64 (i:Nat),sv (bJ p x.name),.int .i64 kd,.slice ax2 x.seeds.length kx2,sv x.impl.cls,sv x.impl.name,.slice ua x.args.length uk,.int .i64 (dD (ae l p.name).forms p.args x.ty).kind,sv (dD (ae l p.name).forms p.args x.ty).name,.slice nya (dD (ae l p.name).forms p.args x.ty).args.length nyc,.bool (dD (ae l p.name).forms p.args x.ty).void,.bool (dD (ae l p.name).forms p.args x.ty).sep,.slice ax11 x.clients.length kx11,.slice ax12 x.pre.length kx12,.slice ax13 x.post.length kx13,.int .i64 x.kind] 191),pt b8 (cl [sv x.name,.int .i64 x.kind,.slice ax2 x.seeds.length kx2,sv x.impl.cls,sv x.impl.name,.slice ax5 x.args.length kx5,.int .i64 x.ty.kind,sv x.ty.name,.slice axy x.ty.args.length kxy,.bool x.ty.void,.bool x.ty.sep,.slice ax11 x.clients.length kx11,.slice ax12 x.pre.length kx12,.slice ax13 x.post.length kx13] 75),pt b5 (cl [sv p.name,.slice aA p.args.length kA,.slice aR p.ren.length kR,.slice aU p.und.length kU,.slice aD p.red.length kD,.slice aS p.sel.length kS] 88),pt b1 (cl [sv c.name,.bool c.dfd,ca,.slice (some ⟨pb,po,none⟩) c.pars.length ck,ce,cf,ci] 44),pt b2 (cl [v,.map (some mb)] 114)] hr) ?_
     exact aj Z ⟨Z,.inr ⟨_,Y2,t,((hE.trans hE2).trans hE5).trans hE6,hS,Z⟩⟩ sbq
  .have hje:j=(fl p.name).mems.length:=by
    have:¬ j<(fl p.name).mems.length:=Zw
    omega
   subst hje
   rw [<- hsucc] at hΦ
   refine aB<|xE<|xE<|xY<|xB<|xT<|cR<|sV (aI Z Z Z0)<|sM Z<|sN<|nK [0,2,13,14,15] Z<|ax ?_
   refine aL (i+1,Zq,s) ⟨hlt,hE.trans hE2,hΦ⟩ (by dsimp only; omega)
 .have hie:i=c.pars.length:=by
   have:¬ i<c.pars.length:=Zx
   omega
  subst hie
  rw [Mr] at hΦ
  refine aB<|xE<|xE<|xY ?_
  exact xV Z ⟨Z,.inl ⟨Y,s,hE,hΦ,Z⟩⟩ sbq
end
end Go.Fl
namespace Go.Fl
open Go Go.RowKit Go.Ck Go.Proofs Go.Proofs.Tryz Go.Proofs.YtknmacdbffgjgaaGreatDoor Fx Go.Hr
structure SmP (p:Pt):Prop where
 args:p.args.length<=5
 ren:p.ren.length<=12
 und:p.und.length<=12
 red:p.red.length<=12
 sel:p.sel.length<=12
structure SmF (f:Fe):Prop where
 args:f.args.length<=18
 clients:f.clients.length<=12
 req:f.req.length<=12
 ens:f.ens.length<=12
structure SmC (c:FC):Prop where
 pars:c.pars.length<=6
 feats:c.feats.length<=65
 forms:c.forms.length<=5
 inv:c.inv.length<=12
 par:∀ p∈c.pars,SmP p
 feat:∀ f∈c.feats,SmF f
structure SmL (l:FS):Prop where
 len:l.length<=30
 cls:∀ c∈l,SmC c
def Crt (X:Res) (us:List Value):Prop:=∃ (ce:Value) (ns:List Nm),us[4]? = some ce/\Ls X ce ns
def Cre (X:Res) (v:Value) (l:FS):Prop:=∀ (i:Nat) c,l[i]? = some c->∃ b o cap us,v = .slice (some ⟨b,o,none⟩) l.length cap/\Rds X b (o+i * 7) us/\Enc.rep X us c/\Crt X us
theorem Crt.up {X Y:Res} {us:List Value} (h:Crt X us) (he:Ext X Y):Crt Y us:=by
 obtain ⟨ce,ns,h1,h2⟩:=h
 exact ⟨ce,ns,h1,h2.up he⟩
theorem Cre.up {X Y:Res} {v:Value} {l:FS} (h:Cre X v l) (he:Ext X Y):Cre Y v l:=λi c hc=>by
 obtain ⟨b,o,cap,us,h1,h2,h3,h4⟩:=h i c hc
 exact ⟨b,o,cap,us,h1,λj hj=>he.rd _ _ (h2 j hj),Enc.up he.rd h3,h4.up he⟩
attribute [local irreducible] Go.Ck.Sub St Cd Xt Nx DrL LsW
section
variable {X:Res} {v:Value} {l:FS}
theorem uK:∀ (D:Nat) (t:Kt) (y:Value),t.depth<=D->Tys X y t.args->Ct prog 61 #[.agg (tyC t y).toArray] [X] λu h'=>∃ k:Int,u = .int .i64 k/\h'=[X]:=by
 intro D
 induction D with
 | zero=>intro t y hd; cases t; simp [Kt.depth] at hd
 | succ D ih =>
  intro t y hd hy
  have hml:maxLen=9223372036854775807:=rfl
  have hF:∀ a∈t.args,∀ y,Tys X y a.args->_:=λa ha y=>ih a y (by have:=jX ha; omega)
  clear ih
  obtain ⟨xa,xc,rfl,hlc,hcm,_⟩:=hy.form
  unfold tyC
  refine aJ (n:=21) func61 Z Z (len Z) λhr w0=>?_
  refine cQ (aV Z Z λb1=>?_)
  refine sA Z<|sK [1,2] Z<|cQ<|sA Z<|sN<|nT<|cS<|cQ<|sA Z<|sN<|nT<|cB<|aY (σ := Int×Nat) (λq=>[(1,.pointer (some ⟨b1,0,none⟩)),(3,.int .i64 q.1),(4,.int .i64 (q.2:Nat))]) (λq=>pt b1 (cl [.int .i64 t.kind,sv t.name,.slice xa t.args.length xc,.bool t.void,.bool t.sep] 73)::X::hr) (λq=>q.2<=t.args.length) (λq=>t.args.length - q.2) (1,0) (Nat.zero_le _) ?_
  rintro ⟨k,i⟩ hi
  try simp only at hi
  try dsimp only
  refine cS<|cQ<|sM Z<|sV (vF Z ja Z)<|sV (vY Z pX) ?_
  refine sV (aC Z underlying71)<|sV (aO Z Z)<|sK [1,3,4,9] Z<|cC Z (λhd2=>?_)<|λhd2=>?_
  .have hlt:i<t.args.length:=Zw
   have hg:=Zy hlt
   have hmem:=List.getElem_mem hlt
   obtain ⟨b2,o,cap2,us,e1,hus,hrd,hta⟩:=hy.at hg
   cases e1
   generalize t.args[i]=a at hmem hta
   obtain ⟨z,rfl,hz⟩:=eH hta
   have hca:=hF a hmem z hz
   unfold tyC at hrd hca
   refine cK<|xT<|cS<|cB<|cR<|sM Z<|sV (vF Z ja Z)<|sV (vY Z pX) ?_
   refine sM Z<|sV (vI (k:=i) Z Z yJ Z hlt Z)<|sV (af Z fM Z hrd) ?_
   refine aH Z Z en61 Z (hca) ?_
   rintro u h' ⟨k2,rfl,rfl⟩
   simp only [lC,lN]
   refine sV (El Z Z)<|sA Z<|sN<|nK [1,3,4] Z<|ax<|xB<|xT<|cR<|sM Z<|sV (aI Z Z Z0)<|sA Z<|sN<|nK [1,3,4] Z<|ax ?_
   refine aL (_,i+1) hlt (by show t.args.length - (i+1)<t.args.length - i; omega)
  .refine aB<|xE<|xE<|xY<|xT<|cQ<|sM Z<|sA Z<|sK [2] Z<|cT ?_
   exact aj Z ⟨k,Z,Z⟩ sbq

theorem Hw:∀ (D:Nat) (t:Ex) (y:Value),t.depth<=D->Ls X y t.kids->Ct prog 137 #[.agg (exC t y).toArray] [X] λu h'=>∃ k:Int,u = .int .i64 k/\h'=[X]:=by
 intro D
 induction D with
 | zero=>intro t y hd; cases t; simp [Ex.depth] at hd
 | succ D ih =>
  intro t y hd hy
  have hml:maxLen=9223372036854775807:=rfl
  have hF:∀ a∈t.kids,∀ y,Ls X y a.kids->_:=λa ha y=>ih a y (by have:=qj ha; omega)
  clear ih
  obtain ⟨xa,xc,rfl,hlc,hcm,_⟩:=hy.form
  unfold exC
  refine aJ (n:=21) func137 Z Z (len Z) λhr w0=>?_
  refine cQ (aV Z Z λb1=>?_)
  refine sA Z<|sK [1,2] Z<|cQ<|sA Z<|sN<|nT<|cS<|cQ<|sA Z<|sN<|nT<|cB<|aY (σ := Int×Nat) (λq=>[(1,.pointer (some ⟨b1,0,none⟩)),(3,.int .i64 q.1),(4,.int .i64 (q.2:Nat))]) (λq=>pt b1 (cl [.int .i64 t.kind,sv t.name,.int .i64 t.num,.slice xa t.kids.length xc] 216)::X::hr) (λq=>q.2<=t.kids.length) (λq=>t.kids.length - q.2) (1,0) (Nat.zero_le _) ?_
  rintro ⟨k,i⟩ hi
  try simp only at hi
  try dsimp only
  refine cS<|cQ<|sM Z<|sV (vF Z jI Z)<|sV (vY Z tK) ?_
  refine sV (aC Z underlying214)<|sV (aO Z Z)<|sK [1,3,4,9] Z<|cC Z (λhd2=>?_)<|λhd2=>?_
  .have hlt:i<t.kids.length:=Zw
   have hg:=Zy hlt
   have hmem:=List.getElem_mem hlt
   obtain ⟨b2,o,cap2,us,e1,hus,hrd,hta⟩:=hy.at hg
   cases e1
   generalize t.kids[i]=a at hmem hta
   obtain ⟨z,rfl,hz⟩:=mF hta
   have hca:=hF a hmem z hz
   unfold exC at hrd hca
   refine cK<|xT<|cS<|cB<|cR<|sM Z<|sV (vF Z jI Z)<|sV (vY Z tK) ?_
   refine sM Z<|sV (vI (k:=i) Z Z Dg Z hlt Z)<|sV (af Z kF Z hrd) ?_
   refine aH Z Z en137 Z (hca) ?_
   rintro u h' ⟨k2,rfl,rfl⟩
   simp only [lC,lN]
   refine sV (El Z Z)<|sA Z<|sN<|nK [1,3,4] Z<|ax<|xB<|xT<|cR<|sM Z<|sV (aI Z Z Z0)<|sA Z<|sN<|nK [1,3,4] Z<|ax ?_
   refine aL (_,i+1) hlt (by show t.kids.length - (i+1)<t.kids.length - i; omega)
  .refine aB<|xE<|xE<|xY<|xT<|cQ<|sM Z<|sA Z<|sK [2] Z<|cT ?_
   exact aj Z ⟨k,Z,Z⟩ sbq

theorem qy {cs:List Cla} {y:Value} (hy:Ls X y cs):Ct prog 62 #[y] [X] λu h'=>∃ k:Int,u = .int .i64 k/\h'=[X]:=by
 have hml:maxLen=9223372036854775807:=rfl
 obtain ⟨xa,xc,rfl,hlc,hcm,_⟩:=hy.form
 refine aJ (n:=20) func62 Z Z (len Z) λhr w0=>?_
 refine cQ<|sA Z<|sN<|nT<|cQ<|sA Z<|sN<|nT<|cS<|cQ<|sA Z<|sN<|nT<|cB ?_
 refine aY (σ := Int×Nat) (λq=>[(0,.slice xa cs.length xc),(3,.int .i64 q.1),(4,.int .i64 (q.2:Nat))]) (λq=>X::hr) (λq=>q.2<=cs.length) (λq=>cs.length - q.2) (0,0) (Nat.zero_le _) ?_
 rintro ⟨k,i⟩ hi
 try simp only at hi
 try dsimp only
 refine cS<|cQ<|sM Z<|sM Z<|sV (aC Z underlying42)<|sV (aO Z Z)<|sK [0,3,4,8] Z<|cC Z (λhd2=>?_)<|λhd2=>?_
 .have hlt:i<cs.length:=Zw
  obtain ⟨b2,o,cap2,us,e1,hus,hrd,hta⟩:=hy.at<|Zy hlt
  cases e1
  generalize cs[i]=a at hta
  obtain ⟨es,rfl,hes⟩:=hta
  obtain ⟨z,rfl,hz⟩:=mF hes
  have hca:=Hw _ a.ex z (Nat.le_refl _) hz
  unfold exC at hrd hca
  refine cK<|xT<|cS<|cB<|cR<|sM Z<|sM Z<|sM Z<|sV (vI (k:=i) Z Z F9 Z hlt Z)<|sV (vF Z qh Z)<|sV (af Z kF Z<|bF (k:=1) hrd (vs:=[.int .i64 a.ex.kind,sv a.ex.name,.int .i64 a.ex.num,z]) Z) ?_
  refine aH Z Z en137 Z (hca) ?_
  rintro u h' ⟨k2,rfl,rfl⟩
  simp only [lC,lN]
  refine sV (El Z Z)<|sA Z<|sN<|nK [0,3,4] Z<|ax<|xB<|xT<|cR<|sM Z<|sV (aI Z Z Z0)<|sA Z<|sN<|nK [0,3,4] Z<|ax ?_
  refine aL (_,i+1) hlt (by show cs.length - (i+1)<cs.length - i; omega)
 .refine aB<|xE<|xE<|xY<|xT<|cQ<|sM Z<|sA Z<|sK [2] Z<|cT ?_
  exact aj Z ⟨k,Z,Z⟩ sbq
theorem Ms {us:List Value} {c:FC} (hc:Enc.rep X us c) (hcr:Crt X us):Ct prog 15 #[.agg us.toArray] [X] λu h'=>∃ ok,u = .bool ok/\h'=[X]/\(ok=true->SmC c):=by
 have hml:maxLen=9223372036854775807:=rfl
 obtain ⟨ca,cb,ce,cf,ci,rfl,hca,hcb,hce,hcf,hci⟩:=gB hc
 obtain ⟨ce2,ns,e4,hns⟩:=hcr
 obtain rfl:ce=ce2:=by simpa using e4
 obtain ⟨ca,fak,rfl,_⟩:=id hca.form
 obtain ⟨cb,ck,rfl,hcl1,hcm1,_⟩:=id hcb.form
 obtain ⟨cea,cek,rfl,_⟩:=id hns.form
 obtain ⟨cf,cfk,rfl,hfl1,hfm1,_⟩:=id hcf.form
 obtain ⟨ci,cik,rfl,_⟩:=id hci.form
 refine aJ (n:=168) func15 Z Z (len Z) λhr w0=>?_
 refine cQ (aV Z Z λb1=>?_)
 refine sA Z<|sK [1,2] Z<|cQ<|sV (vF Z kW Z)<|sV (vY Z yK) ?_
 refine sV (aC Z underlying41)<|sA Z<|sK [1,2,3] Z<|cS<|cQ<|sV (vF Z eP Z)<|sV (vY Z lD) ?_
 refine sV (aC Z underlying39)<|sV (dh Z Z)<|sM Z<|bH (k:=12) (d:=24) (v:=.bool ((decide ((6:Int)<(c.pars.length:Nat))) || ((decide ((12:Int)<(c.feats.length:Nat))) && (decide (((c.feats.length:Nat):Int)<=60))))) (λhcut=>aM (b:=(decide ((6:Int)<(c.pars.length:Nat)))) false (λhg=>?_)<|λhg=>?_) ?_
 .refine aF Z Z hg ?_
  iterate 2 refine aF rfl rfl hg ?_
  refine cZ Z Z ?_
  refine cZ Z Z ?_
  refine aF Z Z hg ?_
  refine sV (vQ (bO Z hg) Z) ?_
  exact hcut _ uG
 .refine sG Z (bG Z hg) (vM Z)<|sG Z (bG Z hg) (dh Z Z)<|sG Z (bG Z hg) (vM Z)<|bH (k:=11) (d:=23) (v:=.bool ((decide ((12:Int)<(c.feats.length:Nat))) && (decide (((c.feats.length:Nat):Int)<=60)))) (λhcut=>aM (b:=(decide ((12:Int)<(c.feats.length:Nat)))) true (λhg1=>?_)<|λhg1=>?_) ?_
  .refine aF Z Z hg1 ?_
   refine aF Z Z hg1 ?_
   refine sG Z (bG Z hg) (vP (bO Z hg1) Z) ?_
   exact hcut _<|uH (by first | rfl | (rw [hg1]; rfl) | simp_all)<|uS Z<|uS Z<|uR
  .refine sG Z (bG Z hg1) (vM Z)<|sG Z (bG Z hg1) (CY Z Z)<|sG Z (bG Z hg) (vQ (bO Z hg1) Z) ?_
   exact hcut _<|uH (by first | rfl | (rw [hg1]; rfl) | simp_all)<|uS Z<|uS Z<|uR
  refine sV (vP (bO Z hg) Z) ?_
  exact hcut _<|uH (by first | rfl | (rw [hg]; rfl) | simp_all) (by repeat (first | exact uR | refine uS Z ?_))
 refine sM Z<|bH (k:=16) (d:=28) (v:=.bool (((decide ((6:Int)<(c.pars.length:Nat))) || ((decide ((12:Int)<(c.feats.length:Nat))) && (decide (((c.feats.length:Nat):Int)<=60)))) || (decide ((65:Int)<(c.feats.length:Nat))))) (λhcut=>aM (b:=((decide ((6:Int)<(c.pars.length:Nat))) || ((decide ((12:Int)<(c.feats.length:Nat))) && (decide (((c.feats.length:Nat):Int)<=60))))) false (λhg=>?_)<|λhg=>?_) ?_
 .refine aF Z Z hg ?_
  refine aF Z Z hg ?_
  refine sV (vQ (bO Z hg) Z) ?_
  exact hcut _ uG
 .refine sG Z (bG Z hg) (vM Z)<|sG Z (bG Z hg) (dh Z Z)<|sV (vP (bO Z hg) Z) ?_
  exact hcut _ uG
 refine sM Z<|bH (k:=22) (d:=34) (v:=.bool ((((decide ((6:Int)<(c.pars.length:Nat))) || ((decide ((12:Int)<(c.feats.length:Nat))) && (decide (((c.feats.length:Nat):Int)<=60)))) || (decide ((65:Int)<(c.feats.length:Nat)))) || (decide ((5:Int)<(c.forms.length:Nat))))) (λhcut=>aM (b:=(((decide ((6:Int)<(c.pars.length:Nat))) || ((decide ((12:Int)<(c.feats.length:Nat))) && (decide (((c.feats.length:Nat):Int)<=60)))) || (decide ((65:Int)<(c.feats.length:Nat))))) false (λhg=>?_)<|λhg=>?_) ?_
 .refine aF Z Z hg ?_
  iterate 3 refine aF rfl rfl hg ?_
  refine sV (vQ (bO Z hg) Z) ?_
  exact hcut _ uG
 .refine sG Z (bG Z hg) (vF Z EB Z)<|sG Z (bG Z hg) (vY Z ld38) ?_
  refine sG Z (bG Z hg) (aC Z underlying38)<|sG Z (bG Z hg) (dh Z Z)<|sV (vP (bO Z hg) Z) ?_
  exact hcut _ uG
 refine sM Z<|bH (k:=28) (d:=40) (v:=.bool (((((decide ((6:Int)<(c.pars.length:Nat))) || ((decide ((12:Int)<(c.feats.length:Nat))) && (decide (((c.feats.length:Nat):Int)<=60)))) || (decide ((65:Int)<(c.feats.length:Nat)))) || (decide ((5:Int)<(c.forms.length:Nat)))) || (decide ((12:Int)<(ns.length:Nat))))) (λhcut=>aM (b:=((((decide ((6:Int)<(c.pars.length:Nat))) || ((decide ((12:Int)<(c.feats.length:Nat))) && (decide (((c.feats.length:Nat):Int)<=60)))) || (decide ((65:Int)<(c.feats.length:Nat)))) || (decide ((5:Int)<(c.forms.length:Nat))))) false (λhg=>?_)<|λhg=>?_) ?_
 .refine aF Z Z hg ?_
  iterate 3 refine aF rfl rfl hg ?_
  refine sV (vQ (bO Z hg) Z) ?_
  exact hcut _ uG
 .refine sG Z (bG Z hg) (vF Z fa44_4 Z)<|sG Z (bG Z hg) (vY Z gq) ?_
  refine sG Z (bG Z hg) (aC Z underlying40)<|sG Z (bG Z hg) (dh Z Z)<|sV (vP (bO Z hg) Z) ?_
  exact hcut _ uG
 refine sM Z<|bH (k:=34) (d:=46) (v:=.bool ((((((decide ((6:Int)<(c.pars.length:Nat))) || ((decide ((12:Int)<(c.feats.length:Nat))) && (decide (((c.feats.length:Nat):Int)<=60)))) || (decide ((65:Int)<(c.feats.length:Nat)))) || (decide ((5:Int)<(c.forms.length:Nat)))) || (decide ((12:Int)<(ns.length:Nat)))) || (decide ((12:Int)<(c.inv.length:Nat))))) (λhcut=>aM (b:=(((((decide ((6:Int)<(c.pars.length:Nat))) || ((decide ((12:Int)<(c.feats.length:Nat))) && (decide (((c.feats.length:Nat):Int)<=60)))) || (decide ((65:Int)<(c.feats.length:Nat)))) || (decide ((5:Int)<(c.forms.length:Nat)))) || (decide ((12:Int)<(ns.length:Nat))))) false (λhg=>?_)<|λhg=>?_) ?_
 .refine aF Z Z hg ?_
  iterate 3 refine aF rfl rfl hg ?_
  refine sV (vQ (bO Z hg) Z) ?_
  exact hcut _ uG
 .refine sG Z (bG Z hg) (vF Z NK Z)<|sG Z (bG Z hg) (vY Z ui) ?_
  refine sG Z (bG Z hg) (aC Z underlying42)<|sG Z (bG Z hg) (dh Z Z)<|sV (vP (bO Z hg) Z) ?_
  exact hcut _ uG
 refine sK [1,2,3,46] Z<|cC Z (λhq=>?_)<|λhq=>?_
 .refine cQ<|sA Z<|sK [2] Z<|cT<|xR ?_
  exact aj rfl ⟨false,rfl,rfl,λh=>by cases h⟩ sbq
 .have hq:((((((decide ((6:Int)<(c.pars.length:Nat))) || ((decide ((12:Int)<(c.feats.length:Nat))) && (decide (((c.feats.length:Nat):Int)<=60)))) || (decide ((65:Int)<(c.feats.length:Nat)))) || (decide ((5:Int)<(c.forms.length:Nat)))) || (decide ((12:Int)<(ns.length:Nat)))) || (decide ((12:Int)<(c.inv.length:Nat))))=false:=hq
  simp only [Bool.or_eq_false_iff,Bool.and_eq_false_iff,decide_eq_false_iff_not] at hq
  obtain ⟨⟨⟨⟨⟨q1,-⟩,q2⟩,q3⟩,-⟩,q4⟩:=hq
  refine cK<|xT<|cS<|cQ<|sA Z<|sK [1,2,3,4] Z<|cB<|aY (σ := Nat) (λi=>[(1,.pointer (some ⟨b1,0,none⟩)),(3,.int .i64 (c.feats.length:Nat)),(4,.int .i64 (i:Nat))]) (λ_=>pt b1 (cl [sv c.name,.bool c.dfd,.slice ca c.forms.length fak,.slice cb c.pars.length ck,.slice cea ns.length cek,.slice cf c.feats.length cfk,.slice ci c.inv.length cik] 44)::X::hr) (λi=>i<=c.pars.length/\∀ k (hk:k<c.pars.length),k<i->SmP c.pars[k]) (λi=>c.pars.length - i) 0 ⟨Nat.zero_le _,λk _ hk=>absurd hk<|Nat.not_lt_zero _⟩ ?_
  rintro i ⟨hi,hal⟩
  try simp only at hi hal
  try dsimp only
  refine cS<|cQ<|sM Z<|sV (vF Z eP Z)<|sV (vY Z lD) ?_
  refine sV (aC Z underlying39)<|sV (aO Z Z)<|sK [1,3,4,51] Z<|cC Z (λhd=>?_)<|λhd=>?_
  .have hlt:i<c.pars.length:=Zx
   obtain ⟨b2,o,cap2,us,e1,hus,hrd,hp⟩:=hcb.at<|Zy hlt
   obtain ⟨rfl,rfl⟩:cb=some ⟨b2,o,none⟩/\ck=cap2:=by cases e1; exact ⟨rfl,rfl⟩
   have hnx:SmP c.pars[i]->∀ k (hk:k<c.pars.length),k<i+1->SmP c.pars[k]:=λh0 k hk hki=>by
    by_cases h:k=i
    .subst h; exact h0
    .exact hal k hk<|by omega
   generalize c.pars[i]=p at hp hnx
   have hpo:=Enc.ones hp
   obtain ⟨x1,x2,x3,x4,x5,rfl,h1,h2,h3,h4,h5⟩:=hp
   obtain ⟨a1,k1,rfl,hl1,hm1,_⟩:=id h1.form
   obtain ⟨a2,k2,rfl,_⟩:=id h2.form
   obtain ⟨a3,k3,rfl,_⟩:=id h3.form
   obtain ⟨a4,k4,rfl,_⟩:=id h4.form
   obtain ⟨a5,k5,rfl,_⟩:=id h5.form
   refine cK<|xT<|cS<|cB<|cQ<|sV (vF Z eP Z)<|sV (vY Z lD) ?_
   refine sM Z<|sV (vI (k:=i) Z Z lY Z hlt Z)<|sV (af Z oP Z hrd) ?_
   refine au vO λb5=>?_
   refine ai Z Z qU Z hpo ?_
   refine sK [1,3,4,5] Z<|cS<|cQ<|sV (vF Z wT Z)<|sV (vY Z pX) ?_
   refine sV (aC Z underlying71)<|sV (dh Z Z)<|sM Z<|bH (k:=10) (d:=68) (v:=.bool ((decide ((5:Int)<(p.args.length:Nat))) || (decide ((12:Int)<(p.ren.length:Nat))))) (λhcut=>aM (b:=(decide ((5:Int)<(p.args.length:Nat)))) false (λhg=>?_)<|λhg=>?_) ?_
   .refine aF Z Z hg ?_
    iterate 3 refine aF rfl rfl hg ?_
    refine sV (vQ (bO Z hg) Z) ?_
    exact hcut _ uG
   .refine sG Z (bG Z hg) (vF Z Ad Z)<|sG Z (bG Z hg) (vY Z ld86) ?_
    refine sG Z (bG Z hg) (aC Z underlying86)<|sG Z (bG Z hg) (dh Z Z)<|sV (vP (bO Z hg) Z) ?_
    exact hcut _ uG
   refine sM Z<|bH (k:=16) (d:=74) (v:=.bool (((decide ((5:Int)<(p.args.length:Nat))) || (decide ((12:Int)<(p.ren.length:Nat)))) || (decide ((12:Int)<(p.und.length:Nat))))) (λhcut=>aM (b:=((decide ((5:Int)<(p.args.length:Nat))) || (decide ((12:Int)<(p.ren.length:Nat))))) false (λhg=>?_)<|λhg=>?_) ?_
   .refine aF Z Z hg ?_
    iterate 3 refine aF rfl rfl hg ?_
    refine sV (vQ (bO Z hg) Z) ?_
    exact hcut _ uG
   .refine sG Z (bG Z hg) (vF Z wU Z)<|sG Z (bG Z hg) (vY Z gq) ?_
    refine sG Z (bG Z hg) (aC Z underlying40)<|sG Z (bG Z hg) (dh Z Z)<|sV (vP (bO Z hg) Z) ?_
    exact hcut _ uG
   refine sM Z<|bH (k:=22) (d:=80) (v:=.bool ((((decide ((5:Int)<(p.args.length:Nat))) || (decide ((12:Int)<(p.ren.length:Nat)))) || (decide ((12:Int)<(p.und.length:Nat)))) || (decide ((12:Int)<(p.red.length:Nat))))) (λhcut=>aM (b:=(((decide ((5:Int)<(p.args.length:Nat))) || (decide ((12:Int)<(p.ren.length:Nat)))) || (decide ((12:Int)<(p.und.length:Nat))))) false (λhg=>?_)<|λhg=>?_) ?_
   .refine aF Z Z hg ?_
    iterate 3 refine aF rfl rfl hg ?_
    refine sV (vQ (bO Z hg) Z) ?_
    exact hcut _ uG
   .refine sG Z (bG Z hg) (vF Z wV Z)<|sG Z (bG Z hg) (vY Z gq) ?_
    refine sG Z (bG Z hg) (aC Z underlying40)<|sG Z (bG Z hg) (dh Z Z)<|sV (vP (bO Z hg) Z) ?_
    exact hcut _ uG
   refine sM Z<|bH (k:=28) (d:=86) (v:=.bool (((((decide ((5:Int)<(p.args.length:Nat))) || (decide ((12:Int)<(p.ren.length:Nat)))) || (decide ((12:Int)<(p.und.length:Nat)))) || (decide ((12:Int)<(p.red.length:Nat)))) || (decide ((12:Int)<(p.sel.length:Nat))))) (λhcut=>aM (b:=((((decide ((5:Int)<(p.args.length:Nat))) || (decide ((12:Int)<(p.ren.length:Nat)))) || (decide ((12:Int)<(p.und.length:Nat)))) || (decide ((12:Int)<(p.red.length:Nat))))) false (λhg=>?_)<|λhg=>?_) ?_
   .refine aF Z Z hg ?_
    iterate 3 refine aF rfl rfl hg ?_
    refine sV (vQ (bO Z hg) Z) ?_
    exact hcut _ uG
   .refine sG Z (bG Z hg) (vF Z Ae Z)<|sG Z (bG Z hg) (vY Z gq) ?_
    refine sG Z (bG Z hg) (aC Z underlying40)<|sG Z (bG Z hg) (dh Z Z)<|sV (vP (bO Z hg) Z) ?_
    exact hcut _ uG
   refine sK [1,3,4,5,86] Z<|cC Z (λhq2=>?_)<|λhq2=>?_
   .refine cQ<|sA Z<|sK [2] Z<|cT<|xR<|xW<|xR<|xR<|xW<|xR ?_
    exact aj rfl ⟨false,rfl,rfl,λh=>by cases h⟩ sbq
   .have hq2:(((((decide ((5:Int)<(p.args.length:Nat))) || (decide ((12:Int)<(p.ren.length:Nat)))) || (decide ((12:Int)<(p.und.length:Nat)))) || (decide ((12:Int)<(p.red.length:Nat)))) || (decide ((12:Int)<(p.sel.length:Nat))))=false:=hq2
    simp only [Bool.or_eq_false_iff,decide_eq_false_iff_not] at hq2
    have hsp:SmP p:=⟨by omega,by omega,by omega,by omega,by omega⟩
    refine cK<|xT<|cQ<|sA Z<|sK [1,3,4,5,6] Z<|cB<|aY (σ := Nat) (λj=>[(1,.pointer (some ⟨b1,0,none⟩)),(3,.int .i64 (c.feats.length:Nat)),(4,.int .i64 (i:Nat)),(5,.pointer (some ⟨b5,0,none⟩)),(6,.int .i64 (j:Nat))]) (λ_=>pt b5 (cl [sv p.name,.slice a1 p.args.length k1,.slice a2 p.ren.length k2,.slice a3 p.und.length k3,.slice a4 p.red.length k4,.slice a5 p.sel.length k5] 88)::pt b1 (cl [sv c.name,.bool c.dfd,.slice ca c.forms.length fak,.slice (some ⟨b2,o,none⟩) c.pars.length ck,.slice cea ns.length cek,.slice cf c.feats.length cfk,.slice ci c.inv.length cik] 44)::X::hr) (λj=>j<=p.args.length) (λj=>p.args.length - j) 0 (Nat.zero_le _) ?_
    rintro j hj
    try simp only at hj
    try dsimp only
    refine cS<|cQ<|sM Z<|sV (vF Z wT Z)<|sV (vY Z pX) ?_
    refine sV (aC Z underlying71)<|sV (aO Z Z)<|sK [1,3,4,5,6,91] Z<|cC Z (λhd3=>?_)<|λhd3=>?_
    .have hltj:j<p.args.length:=Zr
     obtain ⟨g2,go,gcap,gus,e2,hgus,hgrd,hta⟩:=h1.at<|Zy hltj
     obtain ⟨rfl,rfl⟩:a1=some ⟨g2,go,none⟩/\k1=gcap:=by cases e2; exact ⟨rfl,rfl⟩
     generalize p.args[j]=a at hta
     obtain ⟨z,rfl,hz⟩:=eH hta
     have hca:=uK _ a z (Nat.le_refl _) hz
     unfold tyC at hgrd hca
     refine cK<|xT<|cS<|cB<|cQ<|sV (vF Z wT Z)<|sV (vY Z pX) ?_
     refine sM Z<|sV (vI (k:=j) Z Z yJ Z hltj Z)<|sV (af Z fM Z hgrd) ?_
     refine aH Z Z en61 Z (hca) ?_
     rintro u h' ⟨kk,rfl,rfl⟩
     simp only [lC,lN]
     refine sV (dh Z Z)<|sK [1,3,4,5,6,100] Z<|cC Z (λhbig=>?_)<|λhbig=>?_
     .refine cQ<|sA Z<|sK [2] Z<|cT<|xW<|xR<|xR<|xW<|xW<|xR<|xR<|xW<|xR ?_
      exact aj rfl ⟨false,rfl,rfl,λh=>by cases h⟩ sbq
     .refine cK<|xB<|xT<|cR<|sM Z<|sV (aI Z Z Z0)<|sA Z<|sN<|nK [1,3,4,5,6] Z<|ax ?_
      refine aL (j+1) hltj (by show p.args.length - (j+1)<p.args.length - j; omega)
    .refine aB<|xE<|xE<|xY<|xB<|xT<|cR<|sM Z<|sV (aI Z Z Z0)<|sA Z<|sN<|nK [1,3,4] Z<|ax ?_
     refine aL (i+1) ⟨hlt,hnx hsp⟩ (by show c.pars.length - (i+1)<c.pars.length - i; omega)
  .have hie:i=c.pars.length:=Nat.le_antisymm hi<|Nat.not_lt.1 Zx
   subst hie
   have hpars:∀ p∈c.pars,SmP p:=λp hp=>by
    obtain ⟨k,hk,rfl⟩:=List.getElem_of_mem hp
    exact hal k hk hk
   refine aB<|xE<|xE<|xY<|xT<|cS<|cQ<|sA Z<|sK [1,3,7] Z<|cB<|aY (σ := Nat) (λi=>[(1,.pointer (some ⟨b1,0,none⟩)),(3,.int .i64 (c.feats.length:Nat)),(7,.int .i64 (i:Nat))]) (λ_=>pt b1 (cl [sv c.name,.bool c.dfd,.slice ca c.forms.length fak,.slice cb c.pars.length ck,.slice cea ns.length cek,.slice cf c.feats.length cfk,.slice ci c.inv.length cik] 44)::X::hr) (λi=>i<=c.feats.length/\∀ k (hk:k<c.feats.length),k<i->SmF c.feats[k]) (λi=>c.feats.length - i) 0 ⟨Nat.zero_le _,λk _ hk=>absurd hk<|Nat.not_lt_zero _⟩ ?_
   rintro i ⟨hi,hal⟩
   try simp only at hi hal
   try dsimp only
   refine cS<|cQ<|sM Z<|sM Z<|sV (aO Z Z)<|sK [1,3,7,103] Z<|cC Z (λhd=>?_)<|λhd=>?_
   .have hlt:i<c.feats.length:=Zx
    obtain ⟨b2,o,cap2,us,e1,hus,hrd,hf⟩:=hcf.at<|Zy hlt
    obtain ⟨rfl,rfl⟩:cf=some ⟨b2,o,none⟩/\cfk=cap2:=by cases e1; exact ⟨rfl,rfl⟩
    have hnx:SmF c.feats[i]->∀ k (hk:k<c.feats.length),k<i+1->SmF c.feats[k]:=λh0 k hk hki=>by
     by_cases h:k=i
     .subst h; exact h0
     .exact hal k hk<|by omega
    generalize c.feats[i]=f at hf hnx
    have hfo:=Enc.ones hf
    obtain ⟨x2,x3,fy,x9,x10,x11,x12,x13,x14,rfl,h2,h3,hy,h10,h11,-⟩:=oz hf
    obtain ⟨a2,k2,rfl,_⟩:=id h2.form
    obtain ⟨a3,k3,rfl,hl3,hm3,_⟩:=id h3.form
    obtain ⟨a10,k10,rfl,_⟩:=id h10.form
    obtain ⟨a11,k11,rfl,_⟩:=id h11.form
    have hft:=uK _ f.ty fy (Nat.le_refl _) hy
    have hcq:=qy h10
    have hce2:=qy h11
    unfold Be tyC at *
    refine cK<|xT<|cS<|cB<|cQ<|sV (vF Z kW Z)<|sV (vY Z yK) ?_
    refine sM Z<|sV (vI (k:=i) Z Z sl41 Z hlt Z)<|sV (af Z oQ Z hrd) ?_
    refine au mg λb8=>?_
    refine ai Z Z kE Z hfo ?_
    refine sK [1,3,7,8] Z<|cS<|cQ<|sV (vF Z sH Z)<|sV (vY Z rF) ?_
    refine sV (aC Z underlying70)<|sV (dh Z Z)<|sM Z<|bH (k:=10) (d:=120) (v:=.bool ((decide ((18:Int)<(f.args.length:Nat))) || (decide ((12:Int)<(f.clients.length:Nat))))) (λhcut=>aM (b:=(decide ((18:Int)<(f.args.length:Nat)))) false (λhg=>?_)<|λhg=>?_) ?_
    .refine aF Z Z hg ?_
     iterate 3 refine aF rfl rfl hg ?_
     refine sV (vQ (bO Z hg) Z) ?_
     exact hcut _ uG
    .refine sG Z (bG Z hg) (vF Z KC Z)<|sG Z (bG Z hg) (vY Z gq) ?_
     refine sG Z (bG Z hg) (aC Z underlying40)<|sG Z (bG Z hg) (dh Z Z)<|sV (vP (bO Z hg) Z) ?_
     exact hcut _ uG
    refine sM Z<|bH (k:=16) (d:=126) (v:=.bool (((decide ((18:Int)<(f.args.length:Nat))) || (decide ((12:Int)<(f.clients.length:Nat)))) || (decide ((12:Int)<(f.req.length:Nat))))) (λhcut=>aM (b:=((decide ((18:Int)<(f.args.length:Nat))) || (decide ((12:Int)<(f.clients.length:Nat))))) false (λhg=>?_)<|λhg=>?_) ?_
    .refine aF Z Z hg ?_
     iterate 3 refine aF rfl rfl hg ?_
     refine sV (vQ (bO Z hg) Z) ?_
     exact hcut _ uG
    .refine sG Z (bG Z hg) (vF Z yY Z)<|sG Z (bG Z hg) (vY Z ui) ?_
     refine sG Z (bG Z hg) (aC Z underlying42)<|sG Z (bG Z hg) (dh Z Z)<|sV (vP (bO Z hg) Z) ?_
     exact hcut _ uG
    refine sM Z<|bH (k:=22) (d:=132) (v:=.bool ((((decide ((18:Int)<(f.args.length:Nat))) || (decide ((12:Int)<(f.clients.length:Nat)))) || (decide ((12:Int)<(f.req.length:Nat)))) || (decide ((12:Int)<(f.ens.length:Nat))))) (λhcut=>aM (b:=(((decide ((18:Int)<(f.args.length:Nat))) || (decide ((12:Int)<(f.clients.length:Nat)))) || (decide ((12:Int)<(f.req.length:Nat))))) false (λhg=>?_)<|λhg=>?_) ?_
    .refine aF Z Z hg ?_
     iterate 3 refine aF rfl rfl hg ?_
     refine sV (vQ (bO Z hg) Z) ?_
     exact hcut _ uG
    .refine sG Z (bG Z hg) (vF Z yZ Z)<|sG Z (bG Z hg) (vY Z ui) ?_
     refine sG Z (bG Z hg) (aC Z underlying42)<|sG Z (bG Z hg) (dh Z Z)<|sV (vP (bO Z hg) Z) ?_
     exact hcut _ uG
    refine sM Z ?_
    generalize hA:((((decide ((18:Int)<(f.args.length:Nat))) || (decide ((12:Int)<(f.clients.length:Nat)))) || (decide ((12:Int)<(f.req.length:Nat)))) || (decide ((12:Int)<(f.ens.length:Nat))))=A
    cases A with
    | true =>
     iterate 4 refine aF rfl rfl rfl ?_
     refine sV (vQ Z Z)<|sK [1,3,7,8,138] Z<|aQ Z ?_
     refine cQ<|sA Z<|sK [2] Z<|cT<|xR<|xW<|xR<|xR<|xW<|xR ?_
     exact aj rfl ⟨false,rfl,rfl,λh=>by cases h⟩ sbq
    | false =>
     simp only [Bool.or_eq_false_iff,decide_eq_false_iff_not] at hA
     have hsf:SmF f:=⟨by omega,by omega,by omega,by omega⟩
     refine sG Z Z (vF Z yX Z)<|sG Z Z (af Z fM Z<|bF (k:=4) ag (vs:=[.int .i64 f.ty.kind,sv f.ty.name,fy,.bool f.ty.void,.bool f.ty.sep]) Z) ?_
     refine lX Z Z<|aH Z Z en61 Z (hft) ?_
     rintro u h' ⟨kk,rfl,rfl⟩
     simp only [lC,lN]
     refine sG Z Z (dh Z Z)<|sV (vP Z Z)<|sK [1,3,7,8,138] Z<|cC Z (λhbig=>?_)<|λhbig=>?_
     .refine cQ<|sA Z<|sK [2] Z<|cT<|xR<|xW<|xR<|xR<|xW<|xR ?_
      exact aj rfl ⟨false,rfl,rfl,λh=>by cases h⟩ sbq
     .refine cK<|xT<|cS<|cQ<|sA Z<|sK [1,3,7,8,9] Z<|cB<|aY (σ := Nat) (λj=>[(1,.pointer (some ⟨b1,0,none⟩)),(3,.int .i64 (c.feats.length:Nat)),(7,.int .i64 (i:Nat)),(8,.pointer (some ⟨b8,0,none⟩)),(9,.int .i64 (j:Nat))]) (λ_=>pt b8 (cl [.int .i64 f.kind,sv f.name,.slice a2 f.clients.length k2,.slice a3 f.args.length k3,.int .i64 f.ty.kind,sv f.ty.name,fy,.bool f.ty.void,.bool f.ty.sep,x9,.slice a10 f.req.length k10,.slice a11 f.ens.length k11,x12,x13,x14] 130)::pt b1 (cl [sv c.name,.bool c.dfd,.slice ca c.forms.length fak,.slice cb c.pars.length ck,.slice cea ns.length cek,.slice (some ⟨b2,o,none⟩) c.feats.length cfk,.slice ci c.inv.length cik] 44)::X::hr) (λj=>j<=f.args.length) (λj=>f.args.length - j) 0 (Nat.zero_le _) ?_
      rintro j hj
      try simp only at hj
      try dsimp only
      refine cS<|cQ<|sM Z<|sV (vF Z sH Z)<|sV (vY Z rF) ?_
      refine sV (aC Z underlying70)<|sV (aO Z Z)<|sK [1,3,7,8,9,143] Z<|cC Z (λhd3=>?_)<|λhd3=>?_
      .have hltj:j<f.args.length:=Zr
       obtain ⟨g2,go,gcap,gus,e2,hgus,hgrd,hta⟩:=h3.at<|Zy hltj
       obtain ⟨rfl,rfl⟩:a3=some ⟨g2,go,none⟩/\k3=gcap:=by cases e2; exact ⟨rfl,rfl⟩
       generalize f.args[j]=a at hta
       obtain ⟨ts,rfl,hts⟩:=hta
       obtain ⟨z,rfl,hz⟩:=eH hts
       have hca:=uK _ a.ty z (Nat.le_refl _) hz
       unfold tyC at hgrd hca
       refine cK<|xT<|cS<|cB<|cQ<|sV (vF Z sH Z)<|sV (vY Z rF) ?_
       refine sM Z<|sV (vI (k:=j) Z Z Aa Z hltj Z)<|sV (vF Z kw Z)<|sV (af Z fM Z<|bF (k:=1) hgrd (vs:=[.int .i64 a.ty.kind,sv a.ty.name,z,.bool a.ty.void,.bool a.ty.sep]) Z) ?_
       refine aH Z Z en61 Z (hca) ?_
       rintro u h' ⟨k9,rfl,rfl⟩
       simp only [lC,lN]
       refine sV (dh Z Z)<|sK [1,3,7,8,9,153] Z<|cC Z (λhbig2=>?_)<|λhbig2=>?_
       .refine cQ<|sA Z<|sK [2] Z<|cT<|xW<|xR<|xR<|xW<|xR<|xW<|xR<|xR<|xW ?_
        refine xR ?_
        exact aj rfl ⟨false,rfl,rfl,λh=>by cases h⟩ sbq
       .refine cK<|xB<|xT<|cR<|sM Z<|sV (aI Z Z Z0)<|sA Z<|sN<|nK [1,3,7,8,9] Z<|ax ?_
        refine aL (j+1) hltj (by show f.args.length - (j+1)<f.args.length - j; omega)
      .refine aB<|xE<|xE<|xY<|xT<|cQ<|sV (vF Z yY Z)<|sV (vY Z ui) ?_
       refine aH Z Z en62 Z (hcq) ?_
       rintro u h' ⟨k9,rfl,rfl⟩
       simp only [lC,lN]
       refine sV (dh Z Z)<|sM Z ?_
       generalize hB:decide ((200:Int)<k9)=B
       cases B with
       | true =>
        iterate 4 refine aF rfl rfl rfl ?_
        refine sV (vQ Z Z)<|sK [1,3,7,163] Z<|aQ Z ?_
        refine cQ<|sA Z<|sK [2] Z<|cT<|xW<|xR<|xR<|xW<|xR ?_
        exact aj rfl ⟨false,rfl,rfl,λh=>by cases h⟩ sbq
       | false =>
        refine sG Z Z (vF Z yZ Z)<|sG Z Z (vY Z ui) ?_
        refine lX Z Z<|aH Z Z en62 Z (hce2) ?_
        rintro u h' ⟨k8,rfl,rfl⟩
        simp only [lC,lN]
        refine sG Z Z (dh Z Z)<|sV (vP Z Z)<|sK [1,3,7,163] Z<|cC Z (λhbig2=>?_)<|λhbig2=>?_
        .refine cQ<|sA Z<|sK [2] Z<|cT<|xW<|xR<|xR<|xW<|xR ?_
         exact aj rfl ⟨false,rfl,rfl,λh=>by cases h⟩ sbq
        .refine cK<|xB<|xT<|cR<|sM Z<|sV (aI Z Z Z0)<|sA Z<|sN<|nK [1,3,7] Z<|ax ?_
         refine aL (i+1) ⟨hlt,hnx hsf⟩ (by show c.feats.length - (i+1)<c.feats.length - i; omega)
   .have hie:i=c.feats.length:=Nat.le_antisymm hi<|Nat.not_lt.1 Zx
    subst hie
    have hfeats:∀ f∈c.feats,SmF f:=λf hf=>by
     obtain ⟨k,hk,rfl⟩:=List.getElem_of_mem hf
     exact hal k hk hk
    have hcq:=qy hci
    refine aB<|xE<|xE<|xY<|xT<|cQ<|sV (vF Z NK Z)<|sV (vY Z ui) ?_
    refine aH Z Z en62 Z (hcq) ?_
    rintro u h' ⟨kk,rfl,rfl⟩
    simp only [lC,lN]
    refine sV (CY Z Z)<|sA Z<|sK [2] Z<|cT ?_
    exact aj Z ⟨_,Z,Z,λ_=>⟨by omega,by omega,by omega,by omega,hpars,hfeats⟩⟩ sbq
theorem OP (hl:Cre X v l) (hls:Ls X v l):Ct prog 10 #[v] [X] λu h'=>∃ ok,u = .bool ok/\h'=[X]/\(ok=true->SmL l):=by
 have hml:maxLen=9223372036854775807:=rfl
 obtain ⟨vAq,vK,rfl,hvl,hvm,_⟩:=id hls.form
 refine aJ (n:=31) func10 Z Z (len Z) λhr w0=>?_
 refine cQ<|sA Z<|sN<|nT<|cS<|cQ<|sA Z<|sN<|nT<|cB<|aY (σ := Nat) (λi=>[(0,.slice vAq l.length vK),(3,.int .i64 (i:Nat))]) (λ_=>X::hr) (λi=>i<=l.length/\∀ k (hk:k<l.length),k<i->SmC l[k]) (λi=>l.length - i) 0 ⟨Nat.zero_le _,λk _ hk=>absurd hk<|Nat.not_lt_zero _⟩ ?_
 rintro i ⟨hi,hal⟩
 try simp only at hi hal
 try dsimp only
 refine cS<|cQ<|sM Z<|sM Z<|sV (aC Z underlying22)<|sV (aO Z Z)<|sK [0,3,8] Z<|cC Z (λhd=>?_)<|λhd=>?_
 .have hlt:i<l.length:=Zx
  obtain ⟨b2,o,cap2,us,e1,hrd,hc,hcr⟩:=hl i _<|Zy hlt
  cases e1
  have hnx:SmC l[i]->∀ k (hk:k<l.length),k<i+1->SmC l[k]:=λh0 k hk hki=>by
   by_cases h:k=i
   .subst h; exact h0
   .exact hal k hk<|by omega
  generalize l[i]=c at hc hnx
  have hsm:=Ms hc hcr
  obtain ⟨ca,cb,ce,cf,ci,rfl,-⟩:=gB hc
  refine cK<|xT<|cS<|cB<|cQ<|sM Z<|sM Z<|sV (vI (k:=i) Z Z rE Z hlt Z)<|sV (af Z gU Z hrd) ?_
  refine aH Z Z en15 Z (hsm) ?_
  rintro u h' ⟨ok,rfl,rfl,hok⟩
  simp only [lC,lN]
  refine sA Z<|sK [0,3,4] Z<|cQ<|sM Z<|sV (bg Z)<|sK [0,3,17] Z ?_
  cases ok with
  | false =>
   refine aQ Z ?_
   refine cQ<|sA Z<|sK [2] Z<|cT<|xW<|xR<|xR<|xW<|xR ?_
   exact aj rfl ⟨false,rfl,rfl,λh=>by cases h⟩ sbq
  | true =>
   refine aG Z ?_
   refine cK<|xB<|xT<|cR<|sM Z<|sV (aI Z Z Z0)<|sA Z<|sN<|nK [0,3] Z<|ax ?_
   refine aL (i+1) ⟨hlt,hnx<|hok Z⟩ (by show l.length - (i+1)<l.length - i; omega)
 .have hie:i=l.length:=Nat.le_antisymm hi<|Nat.not_lt.1 Zx
  subst hie
  have hcls:∀ c∈l,SmC c:=λc hc=>by
   obtain ⟨k,hk,rfl⟩:=List.getElem_of_mem hc
   exact hal k hk hk
  refine aB<|xE<|xE<|xY<|xT<|cQ<|sM Z<|sV (aC Z underlying22)<|sV (CY Z Z)<|sM Z<|bH (k:=13) (d:=30) (v:=.bool ((decide (((l.length:Nat):Int)<=10)) || ((decide ((24:Int)<(l.length:Nat))) && (decide (((l.length:Nat):Int)<=30))))) (λhcut=>aM (b:=(decide (((l.length:Nat):Int)<=10))) false (λhg=>?_)<|λhg=>?_) ?_
  .refine aF Z Z hg ?_
   iterate 3 refine aF rfl rfl hg ?_
   refine cZ Z Z ?_
   refine cZ Z Z ?_
   refine cZ Z Z ?_
   refine aF Z Z hg ?_
   refine sV (vQ (bO Z hg) Z) ?_
   exact hcut _ uG
  .refine sG Z (bG Z hg) (vM Z)<|sG Z (bG Z hg) (aC Z underlying22)<|sG Z (bG Z hg) (dh Z Z)<|sG Z (bG Z hg) (vM Z)<|bH (k:=12) (d:=29) (v:=.bool ((decide ((24:Int)<(l.length:Nat))) && (decide (((l.length:Nat):Int)<=30)))) (λhcut=>aM (b:=(decide ((24:Int)<(l.length:Nat)))) true (λhg1=>?_)<|λhg1=>?_) ?_
   .refine aF Z Z hg1 ?_
    iterate 2 refine aF rfl rfl hg1 ?_
    refine sG Z (bG Z hg) (vP (bO Z hg1) Z) ?_
    exact hcut _<|uH (by first | rfl | (rw [hg1]; rfl) | simp_all)<|uS Z<|uS Z<|uS Z<|uR
   .refine sG Z (bG Z hg1) (vM Z)<|sG Z (bG Z hg1) (aC Z underlying22)<|sG Z (bG Z hg1) (CY Z Z)<|sG Z (bG Z hg) (vQ (bO Z hg1) Z) ?_
    exact hcut _<|uH (by first | rfl | (rw [hg1]; rfl) | simp_all)<|uS Z<|uS Z<|uS Z<|uR
   refine sV (vP (bO Z hg) Z) ?_
   exact hcut _<|uH (by first | rfl | (rw [hg]; rfl) | simp_all) (by repeat (first | exact uR | refine uS Z ?_))
  refine sA Z<|sK [2] Z<|cT ?_
  exact aj Z ⟨_,Z,Z,λh=>⟨by simp only [Bool.or_eq_true,Bool.and_eq_true,decide_eq_true_eq] at h; omega,hcls⟩⟩ sbq
end
end Go.Fl
namespace Go.Fl
open Go Go.RowKit Go.Ck Go.Proofs Go.Proofs.Tryz Go.Proofs.YtknmacdbffgjgaaGreatDoor Fx Go.Hr
theorem Bf {α : Type} [DecidableEq α] {xs ys:List α} {i:Nat} {x y : α} (hg:xs[i]? = some x) (hg':ys[i]? = some y) (h:x≠y):decide (xs=ys)=false:=by
 apply decide_eq_false
 rintro rfl
 rw [hg] at hg'
 exact h<|Option.some.inj hg'
theorem Jv {α : Type} [DecidableEq α] {xs ys:List α} (h:xs.length≠ys.length):decide (xs=ys)=false:=by
 apply decide_eq_false
 rintro rfl
 exact h Z
theorem jP {α : Type} {xs ys:List α} {i:Nat} {x y : α} (h:xs.take i=ys.take i) (hg:xs[i]? = some x) (hg':ys[i]? = some y) (e:x=y):xs.take (i+1)=ys.take (i+1):=by
 rw [List.take_add_one,List.take_add_one,h,hg,hg',e]
theorem take_eq_all {α : Type} [DecidableEq α] {xs ys:List α} (hl:xs.length=ys.length) (h:xs.take xs.length=ys.take xs.length):decide (xs=ys)=true:=by
 rw [List.take_length] at h
 apply decide_eq_true
 rw [h,hl,List.take_length]
attribute [local irreducible] Go.Ck.Sub St Cd Xt Nx DrL LsW
section
variable {X:Res} {v v':Value}
theorem eq51_ct {xs ys:List Nm} (hx:Ls X v xs) (hy:Ls X v' ys):Reads prog 51 #[v,v'] [X] (.bool (decide (xs=ys))):=by
 have hml:maxLen=9223372036854775807:=rfl
 obtain ⟨xa,xc,rfl,hlc,hcm,_⟩:=id hx.form
 obtain ⟨ya,yc,rfl,hlc',hcm',_⟩:=id hy.form
 refine aJ (n:=26) func51 Z Z (len Z) λhr w0=>?_
 refine cQ<|sA Z<|sN<|nT<|cS<|cQ<|sM Z<|sV (aC Z underlying40)<|sM Z<|sV (aC Z underlying40)<|sV (bT Z Z)<|sK [0,1,4,10] Z<|cC Z (λhq=>?_)<|λhq=>?_
 .rw [Jv (show xs.length≠ys.length from λh=>by rw [h] at hq; simp at hq)]
  refine cQ<|sA Z<|sK [4] Z<|cT<|xR ?_
  exact aj Z ⟨Z,Z⟩ sbq
 .have hl:xs.length=ys.length:=by
   have hq:((xs.length:Nat):Int)=(ys.length:Nat):=Zu
   omega
  refine cK<|xT<|cS<|cQ<|sA Z<|sK [0,1,4,5] Z<|cB<|aY (σ := Nat) (λi=>[(0,.slice xa xs.length xc),(1,.slice ya ys.length yc),(5,.int .i64 (i:Nat))]) (λ_=>X::hr) (λi=>i<=xs.length/\xs.take i=ys.take i) (λi=>xs.length - i) 0 ⟨Nat.zero_le _,Z⟩ ?_
  rintro i ⟨hi,hal⟩
  refine cS<|cQ<|sM Z<|sM Z<|sV (aC Z underlying40)<|sV (aO Z Z)<|sK [0,1,5,14] Z<|cC Z (λhd=>?_)<|λhd=>?_
  .have hlt:i<xs.length:=Zx
   have hlt':i<ys.length:=by omega
   have hg:=Zy hlt
   have hg':=Zy hlt'
   obtain ⟨b,o,cap2,us,e1,hus,hrd,hta⟩:=hx.at hg
   cases e1
   obtain ⟨b',o',cap2',us',e1,hus',hrd',htb⟩:=hy.at hg'
   cases e1
   generalize xs[i]=x at hg hta
   generalize ys[i]=y at hg' htb
   obtain rfl:us=[sv x]:=hta
   obtain rfl:us'=[sv y]:=htb
   refine cK<|xT<|cS<|cB<|cS<|bC (ork [(0,2),(1,2),(2,2),(3,1),(4,2),(5,2),(6,2),(7,1),(8,1)] .nil) (λ_=>true) mixed Zz ?_
   refine dV Z (vM Z)<|dV Z (vM Z)<|dV Z (vI (k:=i) Z Z jG Z hlt Z)<|bu Z (vY Z ld9 (ha:=⟨X,_,slq,hrd 0<|by simp⟩)) ?_
   refine dV Z (vM Z)<|dV Z (vM Z)<|dV Z (vI (k:=i) Z Z jG Z hlt' Z)<|bu Z (vY Z ld9 (ha:=⟨X,_,slq,hrd' 0<|by simp⟩)) ?_
   refine bu Z (pV Z Z)<|bB<|nK [0,1,5,25] Z<|nT<|cC Z (λhne=>?_)<|λhne=>?_
   .have hne:x≠y:=Zv
    rw [Bf hg hg' hne]
    refine cQ<|sA Z<|sK [4] Z<|cT<|xW<|xR<|xR<|xW<|xR ?_
    exact aj Z ⟨Z,Z⟩ sbq
   .have hne:x=y:=Zv
    refine cK<|xB<|xT<|cR<|sM Z<|sV (aI Z Z Z0)<|sA Z<|sN<|nK [0,1,5] Z<|ax ?_
    refine aL (i+1) ⟨hlt,jP hal hg hg' hne⟩ (by show xs.length - (i+1)<xs.length - i; omega)
  .have hie:i=xs.length:=Nat.le_antisymm hi<|Nat.not_lt.1 Zx
   subst hie
   rw [take_eq_all hl hal]
   refine aB<|xE<|xE<|xY<|xT<|cQ<|sA Z<|sK [4] Z<|cT ?_
   exact aj Z ⟨Z,Z⟩ sbq
theorem K8 : ∀ (d : Nat) (s t : Kt) (us us' : List Value), s.depth <= d -> Ty X us s -> Ty X us' t -> Reads prog 40 #[.agg us.toArray, .agg us'.toArray] [X] (.bool (decide (s = t)))
 | 0,s,_,_,_,hd,_,_=>by cases s; simp [Kt.depth] at hd
 | d + 1, s, t, us, us', hd, hs, ht => by
  have hml:maxLen=9223372036854775807:=rfl
  obtain ⟨x,rfl,hx⟩:=eH hs
  obtain ⟨y,rfl,hy⟩:=eH ht
  have hF:∀ (a b:Kt) us us',a∈s.args->Ty X us a->Ty X us' b->Reads prog 40 #[.agg us.toArray,.agg us'.toArray] [X] (.bool<|decide (a=b)):=λa b us us' ha h1 h2=>K8 d a b us us' (by have:=jX ha; omega) h1 h2
  rw [DI]
  obtain ⟨xa,xc,rfl,hlc,hcm,_⟩:=hx.form
  obtain ⟨ya,yc,rfl,hlc',hcm',_⟩:=hy.form
  unfold tyC
  refine aJ (n:=62) func40 Z Z (len Z) λhr w0=>?_
  refine cQ (aV Z Z λb2=>?_)
  refine aV Z Z λb3=>?_
  refine sA Z<|sK [2,3,4] Z<|cS<|cQ<|sV (vF Z rM Z)<|sV (vY Z ld3) ?_
  refine sV (vF Z rM Z)<|sV (vY Z ld3) ?_
  refine sV (bT Z Z)<|sM Z<|bH (k:=12) (d:=18) (v:=.bool ((s.kind != t.kind) || !(s.name == t.name))) (λhcut=>aM (b:=(s.kind != t.kind)) false (λhg=>?_)<|λhg=>?_) ?_
  .refine aF Z Z hg ?_
   iterate 4 refine aF rfl rfl hg ?_
   refine sV (vQ (bO Z hg) Z) ?_
   exact hcut _ uG
  .refine sG Z (bG Z hg) (vF Z Ac Z)<|sG Z (bG Z hg) (vY Z ld9) ?_
   refine sG Z (bG Z hg) (vF Z Ac Z)<|sG Z (bG Z hg) (vY Z ld9) ?_
   refine sG Z (bG Z hg) (pV Z Z)<|sV (vP (bO Z hg) Z) ?_
   exact hcut _ uG
  refine sM Z<|bH (k:=19) (d:=25) (v:=.bool (((s.kind != t.kind) || !(s.name == t.name)) || (s.void != t.void))) (λhcut=>aM (b:=((s.kind != t.kind) || !(s.name == t.name))) false (λhg=>?_)<|λhg=>?_) ?_
  .refine aF Z Z hg ?_
   iterate 4 refine aF rfl rfl hg ?_
   refine sV (vQ (bO Z hg) Z) ?_
   exact hcut _ uG
  .refine sG Z (bG Z hg) (vF Z pY Z)<|sG Z (bG Z hg) (vY Z ld4) ?_
   refine sG Z (bG Z hg) (vF Z pY Z)<|sG Z (bG Z hg) (vY Z ld4) ?_
   refine sG Z (bG Z hg) (zU underlying4 Z Z)<|sV (vP (bO Z hg) Z) ?_
   exact hcut _ uG
  refine sM Z<|bH (k:=26) (d:=32) (v:=.bool ((((s.kind != t.kind) || !(s.name == t.name)) || (s.void != t.void)) || (s.sep != t.sep))) (λhcut=>aM (b:=(((s.kind != t.kind) || !(s.name == t.name)) || (s.void != t.void))) false (λhg=>?_)<|λhg=>?_) ?_
  .refine aF Z Z hg ?_
   iterate 4 refine aF rfl rfl hg ?_
   refine sV (vQ (bO Z hg) Z) ?_
   exact hcut _ uG
  .refine sG Z (bG Z hg) (vF Z p8 Z)<|sG Z (bG Z hg) (vY Z ld4) ?_
   refine sG Z (bG Z hg) (vF Z p8 Z)<|sG Z (bG Z hg) (vY Z ld4) ?_
   refine sG Z (bG Z hg) (zU underlying4 Z Z)<|sV (vP (bO Z hg) Z) ?_
   exact hcut _ uG
  refine sM Z<|bH (k:=35) (d:=41) (v:=.bool (((((s.kind != t.kind) || !(s.name == t.name)) || (s.void != t.void)) || (s.sep != t.sep)) || (((s.args.length:Nat):Int) != (t.args.length:Nat)))) (λhcut=>aM (b:=((((s.kind != t.kind) || !(s.name == t.name)) || (s.void != t.void)) || (s.sep != t.sep))) false (λhg=>?_)<|λhg=>?_) ?_
  .refine aF Z Z hg ?_
   iterate 6 refine aF rfl rfl hg ?_
   refine sV (vQ (bO Z hg) Z) ?_
   exact hcut _ uG
  .refine sG Z (bG Z hg) (vF Z ja Z)<|sG Z (bG Z hg) (vY Z pX) ?_
   refine sG Z (bG Z hg) (aC Z underlying71)<|sG Z (bG Z hg) (vF Z ja Z)<|sG Z (bG Z hg) (vY Z pX) ?_
   refine sG Z (bG Z hg) (aC Z underlying71)<|sG Z (bG Z hg) (bT Z Z)<|sV (vP (bO Z hg) Z) ?_
   exact hcut _ uG
  refine sK [2,3,4,41] Z<|cC Z (λhq=>?_)<|λhq=>?_
  .rw [show ((((s.kind == t.kind && s.name == t.name) && s.void == t.void) && s.sep == t.sep) && decide (s.args=t.args))=false by
    cases hw:((((s.kind == t.kind && s.name == t.name) && s.void == t.void) && s.sep == t.sep) && decide (s.args=t.args)) with
    | false=>rfl
    | true =>
     simp only [Bool.and_eq_true,beq_iff_eq,decide_eq_true_eq] at hw
     obtain ⟨⟨⟨⟨w1,w2⟩,w3⟩,w4⟩,w5⟩:=hw
     rw [w5] at hq
     simp [w1,w2,w3,w4] at hq]
   refine cQ<|sA Z<|sK [4] Z<|cT<|xR ?_
   exact aj Z ⟨Z,Z⟩ sbq
  .have hq:(((((s.kind != t.kind) || !(s.name == t.name)) || (s.void != t.void)) || (s.sep != t.sep)) || (((s.args.length:Nat):Int) != (t.args.length:Nat)))=false:=hq
   simp only [Bool.or_eq_false_iff,bne_eq_false_iff_eq,Bool.not_eq_false',beq_iff_eq] at hq
   obtain ⟨⟨⟨⟨q1,q2⟩,q3⟩,q4⟩,q5⟩:=hq
   have hl:s.args.length=t.args.length:=by omega
   rw [show ((((s.kind == t.kind && s.name == t.name) && s.void == t.void) && s.sep == t.sep) && decide (s.args=t.args))=decide (s.args=t.args) by simp [q1,q2,q3,q4]]
   refine cK<|xT<|cS<|cQ<|sA Z<|sK [2,3,4,5] Z<|cB<|aY (σ := Nat) (λi=>[(2,.pointer (some ⟨b2,0,none⟩)),(3,.pointer (some ⟨b3,0,none⟩)),(5,.int .i64 (i:Nat))]) (λ_=>pt b2 (cl [.int .i64 s.kind,sv s.name,.slice xa s.args.length xc,.bool s.void,.bool s.sep] 73)::pt b3 (cl [.int .i64 t.kind,sv t.name,.slice ya t.args.length yc,.bool t.void,.bool t.sep] 73)::X::hr) (λi=>i<=s.args.length/\s.args.take i=t.args.take i) (λi=>s.args.length - i) 0 ⟨Nat.zero_le _,Z⟩ ?_
   rintro i ⟨hi,hal⟩
   refine cS<|cQ<|sM Z<|sV (vF Z ja Z)<|sV (vY Z pX) ?_
   refine sV (aC Z underlying71)<|sV (aO Z Z)<|sK [2,3,5,46] Z<|cC Z (λhd=>?_)<|λhd=>?_
   .have hlt:i<s.args.length:=Zx
    have hlt':i<t.args.length:=by omega
    have hg:=Zy hlt
    have hg':=Zy hlt'
    have hmem:=List.getElem_mem hlt
    obtain ⟨b,o,cap2,us,e1,hus,hrd,hta⟩:=hx.at hg
    cases e1
    obtain ⟨b',o',cap2',us',e1,hus',hrd',htb⟩:=hy.at hg'
    cases e1
    generalize s.args[i]=x at hg hmem hta
    generalize t.args[i]=y at hg' htb
    refine cK<|xT<|cS<|cB<|cS<|bC (ork [(0,2),(1,1),(2,2),(3,2),(4,1),(5,2),(6,1),(7,2),(8,2),(9,1),(10,1),(11,2)] .nil) (λ_=>true) mixed Zz ?_
    refine dV Z (vF Z ja Z)<|bu Z (vY Z pX) ?_
    refine dV Z (vM Z)<|dV Z (vI (k:=i) Z Z yJ Z hlt Z)<|bu Z (af Z fM hus hrd) ?_
    refine dV Z (vF Z ja Z)<|bu Z (vY Z pX) ?_
    refine dV Z (vM Z)<|dV Z (vI (k:=i) Z Z yJ Z hlt' Z)<|bu Z (af Z fM hus' hrd') ?_
    refine jE Z Z Z en40 Z ((hF x y us us' hmem hta htb)) ?_
    refine dV Z (vA Z)<|bB<|nK [2,3,5,6] Z<|nT<|cQ<|sM Z<|sV (bg Z)<|sK [2,3,5,61] Z<|cC Z (λhne=>?_)<|λhne=>?_
    .have hne:x≠y:=Zv
     rw [Bf hg hg' hne]
     refine cQ<|sA Z<|sK [4] Z<|cT<|xW<|xR<|xR<|xW<|xR ?_
     exact aj Z ⟨Z,Z⟩ sbq
    .have hne:x=y:=Zv
     refine cK<|xB<|xT<|cR<|sM Z<|sV (aI Z Z Z0)<|sA Z<|sN<|nK [2,3,5] Z<|ax ?_
     refine aL (i+1) ⟨hlt,jP hal hg hg' hne⟩ (by show s.args.length - (i+1)<s.args.length - i; omega)
   .have hie:i=s.args.length:=Nat.le_antisymm hi<|Nat.not_lt.1 Zx
    subst hie
    rw [take_eq_all hl hal]
    refine aB<|xE<|xE<|xY<|xT<|cQ<|sA Z<|sK [4] Z<|cT ?_
    exact aj Z ⟨Z,Z⟩ sbq
theorem Jw {s t:Kt} {us us':List Value} (hs:Ty X us s) (ht:Ty X us' t):Reads prog 40 #[.agg us.toArray,.agg us'.toArray] [X] (.bool (decide (s=t))):=K8 _ s t us us' (Nat.le_refl _) hs ht
end
end Go.Fl
namespace Go.Fl
open Go Go.RowKit Go.Ck Go.Proofs Go.Proofs.Tryz Go.Proofs.YtknmacdbffgjgaaGreatDoor Fx Go.Hr
theorem Hy {s t:Cla}:decide (s=t)=(decide (s.ex=t.ex) && s.tag == t.tag):=by
 obtain ⟨a,b⟩:=s
 obtain ⟨c,d⟩:=t
 rw [Bool.eq_iff_iff]
 simp [and_comm]
theorem Jy {s t:Vr}:decide (s=t)=(decide (s.ty=t.ty) && s.name == t.name):=by
 obtain ⟨a,b⟩:=s
 obtain ⟨c,d⟩:=t
 rw [Bool.eq_iff_iff]
 simp [and_comm]
attribute [local irreducible] Go.Ck.Sub St Cd Xt Nx DrL LsW
section
variable {X:Res} {v v':Value}
theorem eq39_ct {xs ys:List Vr} (hx:Ls X v xs) (hy:Ls X v' ys):Reads prog 39 #[v,v'] [X] (.bool (decide (xs=ys))):=by
 have hml:maxLen=9223372036854775807:=rfl
 obtain ⟨xa,xc,rfl,hlc,hcm,_⟩:=id hx.form
 obtain ⟨ya,yc,rfl,hlc',hcm',_⟩:=id hy.form
 refine aJ (n:=44) func39 Z Z (len Z) λhr w0=>?_
 refine cQ<|sA Z<|sN<|nT<|cS<|cQ<|sM Z<|sV (aC Z underlying70)<|sM Z<|sV (aC Z underlying70)<|sV (bT Z Z)<|sK [0,1,4,11] Z<|cC Z (λhq=>?_)<|λhq=>?_
 .rw [Jv (show xs.length≠ys.length from λh=>by rw [h] at hq; simp at hq)]
  refine cQ<|sA Z<|sK [4] Z<|cT<|xR ?_
  exact aj Z ⟨Z,Z⟩ sbq
 .have hl:xs.length=ys.length:=by
   have hq:((xs.length:Nat):Int)=(ys.length:Nat):=Zu
   omega
  refine cK<|xT<|cS<|cQ<|sA Z<|sK [0,1,4,5] Z<|cB<|aY (σ := Nat) (λi=>[(0,.slice xa xs.length xc),(1,.slice ya ys.length yc),(5,.int .i64 (i:Nat))]) (λ_=>X::hr) (λi=>i<=xs.length/\xs.take i=ys.take i) (λi=>xs.length - i) 0 ⟨Nat.zero_le _,Z⟩ ?_
  rintro i ⟨hi,hal⟩
  refine cS<|cQ<|sM Z<|sM Z<|sV (aC Z underlying70)<|sV (aO Z Z)<|sK [0,1,5,15] Z<|cC Z (λhd=>?_)<|λhd=>?_
  .have hlt:i<xs.length:=Zx
   have hlt':i<ys.length:=by omega
   have hg:=Zy hlt
   have hg':=Zy hlt'
   obtain ⟨b,o,cap2,us,e1,hus,hrd,hta⟩:=hx.at hg
   cases e1
   obtain ⟨b',o',cap2',us',e1,hus',hrd',htb⟩:=hy.at hg'
   cases e1
   generalize xs[i]=x at hg hta
   generalize ys[i]=y at hg' htb
   obtain ⟨ts,rfl,hts⟩:=hta
   obtain ⟨us2,rfl,hus2⟩:=htb
   have hel:=Jw hts hus2
   obtain ⟨p,rfl,hp⟩:=eH hts
   obtain ⟨q,rfl,hq2⟩:=eH hus2
   unfold tyC at hrd hrd' hel
   refine cK<|xT<|cS<|cB<|cS<|bC (ork [(0,2),(1,2),(2,2),(3,2),(4,1),(5,2),(6,2),(7,2),(8,2),(9,1),(10,1),(11,2)] .nil) (λ_=>true) mixed Zz ?_
   refine dV Z (vM Z)<|dV Z (vM Z)<|dV Z (vI (k:=i) Z Z Aa Z hlt Z)<|dV Z (vF Z kw Z)<|bu Z (af Z fM Z<|bF (k:=1) hrd (vs:=[.int .i64 x.ty.kind,sv x.ty.name,p,.bool x.ty.void,.bool x.ty.sep]) Z) ?_
   refine dV Z (vM Z)<|dV Z (vM Z)<|dV Z (vI (k:=i) Z Z Aa Z hlt' Z)<|dV Z (vF Z kw Z)<|bu Z (af Z fM Z<|bF (k:=1) hrd' (vs:=[.int .i64 y.ty.kind,sv y.ty.name,q,.bool y.ty.void,.bool y.ty.sep]) Z) ?_
   refine jE Z Z Z en40 Z (hel) ?_
   refine dV Z (vA Z)<|bB<|nK [0,1,5,6] Z<|nT<|cS<|bC (ork [(0,2),(1,2),(2,2),(3,2),(4,2),(5,2),(6,2),(7,1),(8,2),(9,2),(10,2),(11,2),(12,1),(13,1),(14,2)] .nil) (λ_=>true) mixed Zz ?_
   refine dV Z (vM Z)<|dV Z (bg Z)<|dV Z (vM Z) ?_
   have hxy:=Jy (s:=x) (t:=y)
   generalize hB:decide (x.ty=y.ty)=B
   rw [hB] at hxy
   cases B with
   | false =>
    have hne:x≠y:=by
     rw [Bool.false_and] at hxy; exact of_decide_eq_false hxy
    rw [Bf hg hg' hne]
    iterate 4 refine jm rfl rfl rfl rfl ?_
    refine kC Z Z Z Z ?_
    iterate 4 refine jm rfl rfl rfl rfl ?_
    iterate 2 refine kC rfl rfl rfl rfl ?_
    refine dV Z (vQ Z Z)<|bB<|nK [0,1,5,43] Z<|nT<|aQ Z ?_
    refine cQ<|sA Z<|sK [4] Z<|cT<|xW<|xR<|xR<|xW<|xR ?_
    exact aj Z ⟨Z,Z⟩ sbq
   | true =>
    refine dC Z Z Z (vM Z)<|dC Z Z Z (vM Z)<|dC Z Z Z (vI (k:=i) Z Z Aa Z hlt Z)<|dC Z Z Z (vF Z y7 Z)<|jl Z Z Z (vY Z ld9 (ha:=⟨X,_,slq,nS (k:=0) hrd Z⟩)) ?_
    refine dC Z Z Z (vM Z)<|dC Z Z Z (vM Z)<|dC Z Z Z (vI (k:=i) Z Z Aa Z hlt' Z)<|dC Z Z Z (vF Z y7 Z)<|jl Z Z Z (vY Z ld9 (ha:=⟨X,_,slq,nS (k:=0) hrd' Z⟩)) ?_
    refine jl Z Z Z (pV Z Z)<|dV Z (vP Z Z)<|bB<|nK [0,1,5,43] Z<|nT<|cC Z (λhne=>?_)<|λhne=>?_
    .have hne:x≠y:=by
      have h2:(x.name == y.name)=false:=Zv
      rw [h2] at hxy
      exact of_decide_eq_false hxy
     rw [Bf hg hg' hne]
     refine cQ<|sA Z<|sK [4] Z<|cT<|xW<|xR<|xR<|xW<|xR ?_
     exact aj Z ⟨Z,Z⟩ sbq
    .have hne:x=y:=by
      have h2:(x.name == y.name)=true:=Zv
      rw [h2] at hxy
      exact of_decide_eq_true hxy
     refine cK<|xB<|xT<|cR<|sM Z<|sV (aI Z Z Z0)<|sA Z<|sN<|nK [0,1,5] Z<|ax ?_
     refine aL (i+1) ⟨hlt,jP hal hg hg' hne⟩ (by show xs.length - (i+1)<xs.length - i; omega)
  .have hie:i=xs.length:=Nat.le_antisymm hi<|Nat.not_lt.1 Zx
   subst hie
   rw [take_eq_all hl hal]
   refine aB<|xE<|xE<|xY<|xT<|cQ<|sA Z<|sK [4] Z<|cT ?_
   exact aj Z ⟨Z,Z⟩ sbq
theorem Hz : ∀ (d : Nat) (s t : Ex) (us us' : List Value), s.depth <= d -> Enc.rep X us s -> Enc.rep X us' t -> Reads prog 235 #[.agg us.toArray, .agg us'.toArray] [X] (.bool (decide (s = t)))
 | 0,s,_,_,_,hd,_,_=>by cases s; simp [Ex.depth] at hd
 | d + 1, s, t, us, us', hd, hs, ht => by
  have hml:maxLen=9223372036854775807:=rfl
  obtain ⟨x,rfl,hx⟩:=mF hs
  obtain ⟨y,rfl,hy⟩:=mF ht
  have hF:∀ (a b:Ex) us us',a∈s.kids->Enc.rep X us a->Enc.rep X us' b->Reads prog 235 #[.agg us.toArray,.agg us'.toArray] [X] (.bool<|decide (a=b)):=λa b us us' ha h1 h2=>Hz d a b us us' (by have:=qj ha; omega) h1 h2
  rw [DJ]
  obtain ⟨xa,xc,rfl,hlc,hcm,_⟩:=hx.form
  obtain ⟨ya,yc,rfl,hlc',hcm',_⟩:=hy.form
  unfold exC
  refine aJ (n:=55) func235 Z Z (len Z) λhr w0=>?_
  refine cQ (aV Z Z λb2=>?_)
  refine aV Z Z λb3=>?_
  refine sA Z<|sK [2,3,4] Z<|cS<|cQ<|sV (vF Z ze Z)<|sV (vY Z ld3) ?_
  refine sV (vF Z ze Z)<|sV (vY Z ld3) ?_
  refine sV (bT Z Z)<|sM Z<|bH (k:=12) (d:=18) (v:=.bool ((s.kind != t.kind) || !(s.name == t.name))) (λhcut=>aM (b:=(s.kind != t.kind)) false (λhg=>?_)<|λhg=>?_) ?_
  .refine aF Z Z hg ?_
   iterate 4 refine aF rfl rfl hg ?_
   refine sV (vQ (bO Z hg) Z) ?_
   exact hcut _ uG
  .refine sG Z (bG Z hg) (vF Z zf Z)<|sG Z (bG Z hg) (vY Z ld9) ?_
   refine sG Z (bG Z hg) (vF Z zf Z)<|sG Z (bG Z hg) (vY Z ld9) ?_
   refine sG Z (bG Z hg) (pV Z Z)<|sV (vP (bO Z hg) Z) ?_
   exact hcut _ uG
  refine sM Z<|bH (k:=19) (d:=25) (v:=.bool (((s.kind != t.kind) || !(s.name == t.name)) || (s.num != t.num))) (λhcut=>aM (b:=((s.kind != t.kind) || !(s.name == t.name))) false (λhg=>?_)<|λhg=>?_) ?_
  .refine aF Z Z hg ?_
   iterate 4 refine aF rfl rfl hg ?_
   refine sV (vQ (bO Z hg) Z) ?_
   exact hcut _ uG
  .refine sG Z (bG Z hg) (vF Z zg Z)<|sG Z (bG Z hg) (vY Z ld3) ?_
   refine sG Z (bG Z hg) (vF Z zg Z)<|sG Z (bG Z hg) (vY Z ld3) ?_
   refine sG Z (bG Z hg) (bT Z Z)<|sV (vP (bO Z hg) Z) ?_
   exact hcut _ uG
  refine sM Z<|bH (k:=28) (d:=34) (v:=.bool ((((s.kind != t.kind) || !(s.name == t.name)) || (s.num != t.num)) || (((s.kids.length:Nat):Int) != (t.kids.length:Nat)))) (λhcut=>aM (b:=(((s.kind != t.kind) || !(s.name == t.name)) || (s.num != t.num))) false (λhg=>?_)<|λhg=>?_) ?_
  .refine aF Z Z hg ?_
   iterate 6 refine aF rfl rfl hg ?_
   refine sV (vQ (bO Z hg) Z) ?_
   exact hcut _ uG
  .refine sG Z (bG Z hg) (vF Z jI Z)<|sG Z (bG Z hg) (vY Z tK) ?_
   refine sG Z (bG Z hg) (aC Z underlying214)<|sG Z (bG Z hg) (vF Z jI Z)<|sG Z (bG Z hg) (vY Z tK) ?_
   refine sG Z (bG Z hg) (aC Z underlying214)<|sG Z (bG Z hg) (bT Z Z)<|sV (vP (bO Z hg) Z) ?_
   exact hcut _ uG
  refine sK [2,3,4,34] Z<|cC Z (λhq=>?_)<|λhq=>?_
  .rw [show (((s.kind == t.kind && s.name == t.name) && s.num == t.num) && decide (s.kids=t.kids))=false by
    cases hw:(((s.kind == t.kind && s.name == t.name) && s.num == t.num) && decide (s.kids=t.kids)) with
    | false=>rfl
    | true =>
     simp only [Bool.and_eq_true,beq_iff_eq,decide_eq_true_eq] at hw
     obtain ⟨⟨⟨w1,w2⟩,w3⟩,w4⟩:=hw
     rw [w4] at hq
     simp [w1,w2,w3] at hq]
   refine cQ<|sA Z<|sK [4] Z<|cT<|xR ?_
   exact aj Z ⟨Z,Z⟩ sbq
  .have hq:((((s.kind != t.kind) || !(s.name == t.name)) || (s.num != t.num)) || (((s.kids.length:Nat):Int) != (t.kids.length:Nat)))=false:=hq
   simp only [Bool.or_eq_false_iff,bne_eq_false_iff_eq,Bool.not_eq_false',beq_iff_eq] at hq
   obtain ⟨⟨⟨q1,q2⟩,q3⟩,q5⟩:=hq
   have hl:s.kids.length=t.kids.length:=by omega
   rw [show (((s.kind == t.kind && s.name == t.name) && s.num == t.num) && decide (s.kids=t.kids))=decide (s.kids=t.kids) by simp [q1,q2,q3]]
   refine cK<|xT<|cS<|cQ<|sA Z<|sK [2,3,4,5] Z<|cB<|aY (σ := Nat) (λi=>[(2,.pointer (some ⟨b2,0,none⟩)),(3,.pointer (some ⟨b3,0,none⟩)),(5,.int .i64 (i:Nat))]) (λ_=>pt b2 (cl [.int .i64 s.kind,sv s.name,.int .i64 s.num,.slice xa s.kids.length xc] 216)::pt b3 (cl [.int .i64 t.kind,sv t.name,.int .i64 t.num,.slice ya t.kids.length yc] 216)::X::hr) (λi=>i<=s.kids.length/\s.kids.take i=t.kids.take i) (λi=>s.kids.length - i) 0 ⟨Nat.zero_le _,Z⟩ ?_
   rintro i ⟨hi,hal⟩
   refine cS<|cQ<|sM Z<|sV (vF Z jI Z)<|sV (vY Z tK) ?_
   refine sV (aC Z underlying214)<|sV (aO Z Z)<|sK [2,3,5,39] Z<|cC Z (λhd=>?_)<|λhd=>?_
   .have hlt:i<s.kids.length:=Zx
    have hlt':i<t.kids.length:=by omega
    have hg:=Zy hlt
    have hg':=Zy hlt'
    have hmem:=List.getElem_mem hlt
    obtain ⟨b,o,cap2,us,e1,hus,hrd,hta⟩:=hx.at hg
    cases e1
    obtain ⟨b',o',cap2',us',e1,hus',hrd',htb⟩:=hy.at hg'
    cases e1
    generalize s.kids[i]=x at hg hmem hta
    generalize t.kids[i]=y at hg' htb
    refine cK<|xT<|cS<|cB<|cS<|bC (ork [(0,2),(1,1),(2,2),(3,2),(4,1),(5,2),(6,1),(7,2),(8,2),(9,1),(10,1),(11,2)] .nil) (λ_=>true) mixed Zz ?_
    refine dV Z (vF Z jI Z)<|bu Z (vY Z tK) ?_
    refine dV Z (vM Z)<|dV Z (vI (k:=i) Z Z Dg Z hlt Z)<|bu Z (af Z kF hus hrd) ?_
    refine dV Z (vF Z jI Z)<|bu Z (vY Z tK) ?_
    refine dV Z (vM Z)<|dV Z (vI (k:=i) Z Z Dg Z hlt' Z)<|bu Z (af Z kF hus' hrd') ?_
    refine jE Z Z Z en235 Z ((hF x y us us' hmem hta htb)) ?_
    refine dV Z (vA Z)<|bB<|nK [2,3,5,6] Z<|nT<|cQ<|sM Z<|sV (bg Z)<|sK [2,3,5,54] Z<|cC Z (λhne=>?_)<|λhne=>?_
    .have hne:x≠y:=Zv
     rw [Bf hg hg' hne]
     refine cQ<|sA Z<|sK [4] Z<|cT<|xW<|xR<|xR<|xW<|xR ?_
     exact aj Z ⟨Z,Z⟩ sbq
    .have hne:x=y:=Zv
     refine cK<|xB<|xT<|cR<|sM Z<|sV (aI Z Z Z0)<|sA Z<|sN<|nK [2,3,5] Z<|ax ?_
     refine aL (i+1) ⟨hlt,jP hal hg hg' hne⟩ (by show s.kids.length - (i+1)<s.kids.length - i; omega)
   .have hie:i=s.kids.length:=Nat.le_antisymm hi<|Nat.not_lt.1 Zx
    subst hie
    rw [take_eq_all hl hal]
    refine aB<|xE<|xE<|xY<|xT<|cQ<|sA Z<|sK [4] Z<|cT ?_
    exact aj Z ⟨Z,Z⟩ sbq
theorem eqE_ct {s t:Ex} {us us':List Value} (hs:Enc.rep X us s) (ht:Enc.rep X us' t):Reads prog 235 #[.agg us.toArray,.agg us'.toArray] [X] (.bool (decide (s=t))):=Hz _ s t us us' (Nat.le_refl _) hs ht
theorem OQ {xs ys:List Cla} (hx:Ls X v xs) (hy:Ls X v' ys):Reads prog 168 #[v,v'] [X] (.bool (decide (xs=ys))):=by
 have hml:maxLen=9223372036854775807:=rfl
 obtain ⟨xa,xc,rfl,hlc,hcm,_⟩:=id hx.form
 obtain ⟨ya,yc,rfl,hlc',hcm',_⟩:=id hy.form
 refine aJ (n:=44) func168 Z Z (len Z) λhr w0=>?_
 refine cQ<|sA Z<|sN<|nT<|cS<|cQ<|sM Z<|sV (aC Z underlying42)<|sM Z<|sV (aC Z underlying42)<|sV (bT Z Z)<|sK [0,1,4,11] Z<|cC Z (λhq=>?_)<|λhq=>?_
 .rw [Jv (show xs.length≠ys.length from λh=>by rw [h] at hq; simp at hq)]
  refine cQ<|sA Z<|sK [4] Z<|cT<|xR ?_
  exact aj Z ⟨Z,Z⟩ sbq
 .have hl:xs.length=ys.length:=by
   have hq:((xs.length:Nat):Int)=(ys.length:Nat):=Zu
   omega
  refine cK<|xT<|cS<|cQ<|sA Z<|sK [0,1,4,5] Z<|cB<|aY (σ := Nat) (λi=>[(0,.slice xa xs.length xc),(1,.slice ya ys.length yc),(5,.int .i64 (i:Nat))]) (λ_=>X::hr) (λi=>i<=xs.length/\xs.take i=ys.take i) (λi=>xs.length - i) 0 ⟨Nat.zero_le _,Z⟩ ?_
  rintro i ⟨hi,hal⟩
  refine cS<|cQ<|sM Z<|sM Z<|sV (aC Z underlying42)<|sV (aO Z Z)<|sK [0,1,5,15] Z<|cC Z (λhd=>?_)<|λhd=>?_
  .have hlt:i<xs.length:=Zx
   have hlt':i<ys.length:=by omega
   have hg:=Zy hlt
   have hg':=Zy hlt'
   obtain ⟨b,o,cap2,us,e1,hus,hrd,hta⟩:=hx.at hg
   cases e1
   obtain ⟨b',o',cap2',us',e1,hus',hrd',htb⟩:=hy.at hg'
   cases e1
   generalize xs[i]=x at hg hta
   generalize ys[i]=y at hg' htb
   obtain ⟨ts,rfl,hts⟩:=hta
   obtain ⟨us2,rfl,hus2⟩:=htb
   have hel:=eqE_ct hts hus2
   obtain ⟨p,rfl,hp⟩:=mF hts
   obtain ⟨q,rfl,hq2⟩:=mF hus2
   unfold exC at hrd hrd' hel
   refine cK<|xT<|cS<|cB<|cS<|bC (ork [(0,2),(1,2),(2,2),(3,2),(4,1),(5,2),(6,2),(7,2),(8,2),(9,1),(10,1),(11,2)] .nil) (λ_=>true) mixed Zz ?_
   refine dV Z (vM Z)<|dV Z (vM Z)<|dV Z (vI (k:=i) Z Z F9 Z hlt Z)<|dV Z (vF Z qh Z)<|bu Z (af Z kF Z<|bF (k:=1) hrd (vs:=[.int .i64 x.ex.kind,sv x.ex.name,.int .i64 x.ex.num,p]) Z) ?_
   refine dV Z (vM Z)<|dV Z (vM Z)<|dV Z (vI (k:=i) Z Z F9 Z hlt' Z)<|dV Z (vF Z qh Z)<|bu Z (af Z kF Z<|bF (k:=1) hrd' (vs:=[.int .i64 y.ex.kind,sv y.ex.name,.int .i64 y.ex.num,q]) Z) ?_
   refine jE Z Z Z en235 Z (hel) ?_
   refine dV Z (vA Z)<|bB<|nK [0,1,5,6] Z<|nT<|cS<|bC (ork [(0,2),(1,2),(2,2),(3,2),(4,2),(5,2),(6,2),(7,1),(8,2),(9,2),(10,2),(11,2),(12,1),(13,1),(14,2)] .nil) (λ_=>true) mixed Zz ?_
   refine dV Z (vM Z)<|dV Z (bg Z)<|dV Z (vM Z) ?_
   have hxy:=Hy (s:=x) (t:=y)
   generalize hB:decide (x.ex=y.ex)=B
   rw [hB] at hxy
   cases B with
   | false =>
    have hne:x≠y:=by
     rw [Bool.false_and] at hxy; exact of_decide_eq_false hxy
    rw [Bf hg hg' hne]
    iterate 4 refine jm rfl rfl rfl rfl ?_
    refine kC Z Z Z Z ?_
    iterate 4 refine jm rfl rfl rfl rfl ?_
    iterate 2 refine kC rfl rfl rfl rfl ?_
    refine dV Z (vQ Z Z)<|bB<|nK [0,1,5,43] Z<|nT<|aQ Z ?_
    refine cQ<|sA Z<|sK [4] Z<|cT<|xW<|xR<|xR<|xW<|xR ?_
    exact aj Z ⟨Z,Z⟩ sbq
   | true =>
    refine dC Z Z Z (vM Z)<|dC Z Z Z (vM Z)<|dC Z Z Z (vI (k:=i) Z Z F9 Z hlt Z)<|dC Z Z Z (vF Z zh Z)<|jl Z Z Z (vY Z ld9 (ha:=⟨X,_,slq,nS (k:=0) hrd Z⟩)) ?_
    refine dC Z Z Z (vM Z)<|dC Z Z Z (vM Z)<|dC Z Z Z (vI (k:=i) Z Z F9 Z hlt' Z)<|dC Z Z Z (vF Z zh Z)<|jl Z Z Z (vY Z ld9 (ha:=⟨X,_,slq,nS (k:=0) hrd' Z⟩)) ?_
    refine jl Z Z Z (pV Z Z)<|dV Z (vP Z Z)<|bB<|nK [0,1,5,43] Z<|nT<|cC Z (λhne=>?_)<|λhne=>?_
    .have hne:x≠y:=by
      have h2:(x.tag == y.tag)=false:=Zv
      rw [h2] at hxy
      exact of_decide_eq_false hxy
     rw [Bf hg hg' hne]
     refine cQ<|sA Z<|sK [4] Z<|cT<|xW<|xR<|xR<|xW<|xR ?_
     exact aj Z ⟨Z,Z⟩ sbq
    .have hne:x=y:=by
      have h2:(x.tag == y.tag)=true:=Zv
      rw [h2] at hxy
      exact of_decide_eq_true hxy
     refine cK<|xB<|xT<|cR<|sM Z<|sV (aI Z Z Z0)<|sA Z<|sN<|nK [0,1,5] Z<|ax ?_
     refine aL (i+1) ⟨hlt,jP hal hg hg' hne⟩ (by show xs.length - (i+1)<xs.length - i; omega)
  .have hie:i=xs.length:=Nat.le_antisymm hi<|Nat.not_lt.1 Zx
   subst hie
   rw [take_eq_all hl hal]
   refine aB<|xE<|xE<|xY<|xT<|cQ<|sA Z<|sK [4] Z<|cT ?_
   exact aj Z ⟨Z,Z⟩ sbq
theorem eq96_ct {s t:Grp} {us us':List Value} (hs:Enc.rep X us s) (ht:Enc.rep X us' t):Reads prog 96 #[.agg us.toArray,.agg us'.toArray] [X] (.bool (decide (s=t))):=by
 obtain ⟨x,rfl,hx⟩:=hs
 obtain ⟨y,rfl,hy⟩:=ht
 have hel:=OQ hx hy
 rw [DK,Bool.and_comm]
 refine aJ (n:=19) func96 Z Z (len Z) λhr w0=>?_
 refine cQ (aV Z Z λb2=>?_)
 refine aV Z Z λb3=>?_
 refine sA Z<|sK [2,3,4] Z<|cQ<|sV (vF Z sI Z)<|sV (vY Z ui) ?_
 refine sV (vF Z sI Z)<|sV (vY Z ui) ?_
 refine bf Z Z en168 Z (hel) ?_
 refine sA Z<|sK [2,3,4,5] Z<|cQ<|sM Z<|sM Z<|bH (k:=8) (d:=18) (v:=.bool (decide (s.cs=t.cs) && s.cls == t.cls)) (λhcut=>aM (b:=(decide (s.cs=t.cs))) true (λhg=>?_)<|λhg=>?_) ?_
 .refine aF Z Z hg ?_
  iterate 4 refine aF rfl rfl hg ?_
  refine sV (vP (bO Z hg) Z) ?_
  exact hcut _ uG
 .refine sG Z (bG Z hg) (vF Z za Z)<|sG Z (bG Z hg) (vY Z ld9) ?_
  refine sG Z (bG Z hg) (vF Z za Z)<|sG Z (bG Z hg) (vY Z ld9) ?_
  refine sG Z (bG Z hg) (iM Z Z)<|sV (vQ (bO Z hg) Z) ?_
  exact hcut _ uG
 refine sA Z<|sK [4] Z<|cT ?_
 exact aj Z ⟨Z,Z⟩ sbq
end
end Go.Fl
