/-
  Package kind: names of classes,the error of a class's formals. Conditions: what is read.
  Package kind: the error of a class's parents. Conditions: what is read; right headers; no type is deeper than a million.
  Package kind: lists of types copied; formals as types; formals replaced. Conditions: what is read.
  Package kind: formals replaced. Conditions: what is read.
  Maps inside of what is packed; tables of what formals are. Plain,and generic. No condition.
  Package kind: what formals of ancestors are (instances). Conditions: what is read; right headers; no type of a parent has more than 200 parts.
-/
import Derived.Test.YtaohbfnepjjdgaaGreatM12
import Derived.Test.YtaohbfnepjjdgaaGreatM10
set_option linter.unusedVariables false
set_option linter.unusedSimpArgs false
namespace Go.Ck
open Go Go.RowKit
section
variable {P:Program} {e:Env} {h:SH} {ty:TypeId}
theorem v_sliceHeadA {T E : TypeId} {x y : Operand} {a : Option Addr} {n cp hi sz : Nat} {i : Int} {k : IntKind} (hx : e.ev? x = some (.slice a n cp)) (hy : e.ev? y = some (.int k i)) (hT : SlE P T E sz)
  (hi':i=(hi:Int)) (h1:hi≤cp):Vop P e h (.slice T x none (some y) none) ty (.slice a hi cp):=
 ⟨by simp,by simp,fun ρ w d pos after g hρ _=>by
  subst hi'
  have hT':P.underlying T=some (.slice (P.elem T)):=by simp [Program.elem,hT.1]
  have he:P.elem T=E:=by simp [Program.elem,hT.1]
  have hr:=run_slice_h (P:=P) w T a n cp hT' k hi (by omega) (by omega)
  have hs:sliced a 0 hi cp sz = .slice a hi cp:=by
   unfold sliced; by_cases hcl:cp=0 <;> cases a <;> simp [hcl,Addr.add]
  simp only [he,hT.2 w,Result.andThen_ok,Int.toNat_natCast,Int.toNat_zero,hs] at hr
  simp only [execOp,hρ x _ hx,Option.map_some,Option.map_none,hρ y _ hy,Sem.run_bind,run_sliceAt_slice w T _ _ _ _ hT',hr,Result.andThen_ok,Sem.run_pure]⟩
end
end Go.Ck
namespace Go.Hr
open Go Go.RowKit Go.Ck Go.Proofs Go.Proofs.YtaohbfnepjjdgaaGreat Fx
attribute [local irreducible] Go.Ck.Sub St Cd Xt Nx DrL LsW
def nmK (n:Nm):List Value:=[sv n,.bool false,.slice none 0 0,.slice none 0 0,.slice none 0 0,.slice none 0 0,.slice none 0 0]
theorem named_one {n : Nm} : (check [⟨n, [], 0⟩]).1 = 0 ↔ named n = true := by
 rw [check_zero]
 constructor
 ·intro h; exact h.nam ⟨n,[],0⟩ (by simp)
 ·intro h
  refine ⟨by simp,by simp,by simpa using h,by simp [nms],by simp,by simp,fun c p hp=>?_⟩
  have:pars [(⟨n,[],0⟩:Cls)] c=[]:=by
   unfold pars find
   by_cases hc:n=c <;> simp [hc]
  unfold par at hp
  rw [this] at hp
  simp at hp
theorem nmK_row {n:Nm} {b:Nat} (hok:∃ f,(VR (.slice (some ⟨b,0,none⟩) 1 1) 54 7 [nmK n]).ok f):sysR (VR (.slice (some ⟨b,0,none⟩) 1 1) 54 7 [nmK n]) (.slice (some ⟨b,0,none⟩) 1 1) [⟨n,[],0⟩]:=by
 refine row_vr hok Z (fun _ _ h=>h) fun i us x h1 h2=>?_
 match i,h1,h2 with
 | 0,h1,h2=>cases h1; cases h2; exact ⟨_,_,_,_,_,_,_,rfl,rfl,Row.nil⟩
section
variable {S N:Res} {v:Value} {F:List Fm} {l:KS} {m:List (Bs×Value)} {mb:Nat} {s t:Kt} {va:Option Addr} {vc:Nat}
set_option maxRecDepth 100000 in
theorem named136_ct (n:Nm):Reads Tryz.prog 136 #[sv n] [] (.bool (named n)):=by
 refine ct_of (n:=14) Tryz.func136 Z Z (len Z) fun hr w0=>?_
 refine cQ (sA Z (sN (nT (cQ (sM Z (sV (v_build (cells:=nmK n) Z (fun _=>by kernel_rfl)) ?_))))))
 refine st_buildSlice (cells:=nmK n) Z Tryz.underlying22 inf54 Z Z (by kernel_rfl) (ltn Z) fun b8=>?_
 refine st_pv (pv_of (b:=b8) (n:=1) (sz:=7) (E:=54) [nmK n] Z (by simp [nmK]) Z (by decide)) ?_
 simp only [lC,lN]
 refine st_ok (r:=VR (.slice (some ⟨b8,0,none⟩) 1 1) 54 7 [nmK n]) slq fun hok=>?_
 refine st_cl Z Z en80 Z (Check_ct (nmK_row hok)) ?_
 rintro u h' ⟨rfl,rfl⟩
 simp only [lC,lN]
 refine sM Z (sV (v_extract Z Z) (sV (v_extract Z Z) (sA Z (sA Z (sK [2,3] Z (cQ (sM Z (sV (v_eql Z Z) (sA Z (sK [2] Z (cT ?_)))))))))))
 rw [show ((check [⟨n,[],0⟩]).1 == 0)=named n by rw [Bool.eq_iff_iff,beq_iff_eq]; exact named_one]
 exact xt_rt Z ⟨Z,Z⟩ sbq
set_option maxRecDepth 100000 in
theorem has133_ct {kf:FuncId} {cp:Array Value} {g:Fm→Bool} (hv:Row S 2 fmC v F) (hE:Ck.Enters Tryz.prog kf) (hf:∀ f∈F,Reads Tryz.prog kf (#[]++[.agg (fmA f).toArray].toArray++cp) [N] (.bool (g f))):Reads Tryz.prog 133 #[v,.func (.func kf) #[] cp] [S,N] (.bool (F.findIdx? g).isSome):=by
 obtain ⟨a,cap,rfl,_⟩:=id hv
 refine ct_of (n:=9) Tryz.func133 Z Z (len Z) fun hr w0=>?_
 refine cQ (sA Z (sN (nT (cQ (sM Z (sM Z (st_clr Z Z en62 Z (IdxF_ct (g:=g) hv hE hf) ?_)))))))
 refine sV (v_geq Z Z) (sA Z (sK [4] Z (cT ?_)))
 rw [show decide (0≤ixD (F.findIdx? g))=(F.findIdx? g).isSome by
  cases F.findIdx? g with
  | none=>rfl
  | some i=>exact decide_eq_true (Int.natCast_nonneg i)]
 exact xt_rt Z ⟨Z,Z⟩ sbq
theorem fmE_first {i:Nat} {f:Fm}:fmE l F i f=firstE [if named f.name=true then 0 else 4,if (!(kfind l f.name).isSome && !(fidx (F.take i) f.name).isSome)=true then 0 else 6,if ((kfind l f.bound).isSome || f.bound == root)=true then 0 else 5,if (((fmsOf l f.bound).length:Int) == 0)=true then 0 else 8]:=by
 unfold fmE firstE firstE firstE firstE firstE
 cases named f.name <;> cases (kfind l f.name).isSome <;> cases (fidx (F.take i) f.name).isSome <;> cases (kfind l f.bound).isSome <;> by_cases h1:f.bound=root <;> by_cases h2:(fmsOf l f.bound).length=0 <;> simp [h1,h2]
theorem row_ints {b:Nat} {E:TypeId} {k:Nat} (xs:List Int) (hk:xs.length=k) (hm:k≤maxLen):Row (pt b (cl (xs.map (.int .i64)) E)) 1 numC (.slice (some ⟨b,0,none⟩) k k) xs:=by
 subst hk
 refine ⟨some ⟨b,0,none⟩,xs.length,rfl,Nat.le_refl _,hm,(fun h=>by cases h),fun i z hi=>⟨b,0,[.int .i64 z],rfl,rfl,fun j hj=>?_,rfl⟩⟩
 match j,hj with
 | 0,_ =>
  refine rd_cl ?_
  simp only [Nat.zero_add,Nat.mul_one,Nat.add_zero]
  rw [List.getElem?_map,hi]; rfl
def fmEs (l:KS) (F:List Fm):List Int:=F.zipIdx.map fun q=>fmE l F q.2 q.1
theorem fmEs_drop {i:Nat} (h:i<F.length):(fmEs l F).drop i=fmE l F i F[i]::(fmEs l F).drop (i+1):=by
 have hl:i<(fmEs l F).length:=by simpa [fmEs] using h
 rw [List.drop_eq_getElem_cons hl]
 simp [fmEs]
set_option maxRecDepth 100000 in
theorem formals_ct (hM : KMap S m l) {x : KC} {us : List Value} (hx : kclsC S us x) :
  Ct Tryz.prog 81 #[wV mb va l.length vc,.agg us.toArray] [mps mb m,S] fun u h'=>u = .int .i64 (formalsE l x)∧h'=[mps mb m,S]:=by
 have hml:maxLen=9223372036854775807:=rfl
 obtain ⟨d,f,pv,c2,ffa,ffc,i2,rfl,hone,hrow,_⟩:=hx
 obtain ⟨fa,fcap,rfl,hlc,hcm,_⟩:=id hrow
 unfold wV formalsE
 refine ct_of (n:=76) Tryz.func81 Z Z (len Z) fun hr w0=>?_
 refine cQ (st_bx Z Z fun b2=>?_)
 refine st_bx Z Z fun b3=>?_
 refine sA Z (sK [2,3,4] Z (cS (cQ (sV (vF Z fa54_2 Z) (sV (vY Z ld48) ?_)))))
 refine sV (v_len Z Tryz.underlying48) (sV (v_gtr Z Z) (sK [2,3,4,16] Z (cC Z (fun hq=>?_) (fun hq=>?_))))
 ·refine cQ (sA Z (sK [4] Z (cT (xR ?_))))
  rw [if_pos (by have:=of_decide_eq_true hq; omega)]
  exact xt_rt Z ⟨Z,Z⟩ sbq
 ·refine cK (xT (cS (cQ (sV (vF Z fa54_2 Z) (sV (vY Z ld48) ?_)))))
  refine sV (v_len Z Tryz.underlying48) (sM Z (sK [2,3,4,18,19,20] Z (cB ?_)))
  rw [if_neg (by have:=of_decide_eq_false hq; omega)]
  refine cd_lq (σ := Nat) (fun i=>[(2,.pointer (some ⟨b2,0,none⟩)),(3,.pointer (some ⟨b3,0,none⟩)),(18,.slice fa x.formals.length fcap),(19,.int .i64 x.formals.length),(20,.int .i64 (i:Nat))]) (fun _=>pt b2 (cl [.map (some mb),.slice va l.length vc] 85)::pt b3 (cl [sv x.name,d,.slice fa x.formals.length fcap,pv,c2,.slice ffa x.feats ffc,i2] 54)::mps mb m::S::hr) (fun i=>i≤x.formals.length∧firstE (fmEs l x.formals)=firstE ((fmEs l x.formals).drop i)) (fun i=>x.formals.length - i) 0 ⟨Nat.zero_le _,Z⟩ ?_
  rintro i ⟨hi,hal⟩
  refine cQ (sV (v_lss Z Z) (sN (nT (cS (cC Z (fun hd=>?_) (fun hd=>?_))))))
  ·have hlt:i<x.formals.length:=by simpa using hd
   obtain ⟨b,o,cap2,e1,hrd⟩:=fm_at hrow (List.getElem?_eq_getElem hlt)
   cases e1
   rw [fmEs_drop hlt,fmE_first,firstE] at hal
   have hrt:=hrow.take (k:=i) (by omega)
   generalize x.formals[i]=f at hrd hal
   obtain ⟨p0,p1,pf,p2,p3,p4,p5,hlk,hone2,hrow2⟩:=map_cls2 hM f.name
   obtain ⟨q0,q1,qf,q2,q3,q4,q5,hlk2,hone3,hrow3⟩:=map_cls2 hM f.bound
   obtain ⟨qa,qcap,rfl,hlc3,hcm3,_⟩:=id hrow3
   have ht:=fun b g => @tell134_ct f g b
   unfold fmA at hrd ht
   refine cK (xT (cS (cB (cQ (sM Z (sV (vI (k:=i) Z Z sl48 Z hlt Z) (sV (v_ldn Z ld94 Z hrd) ?_)))))))
   refine st_alc al94 fun b6=>?_
   refine sA Z (st_stoW Z Z sz94 Z Z ?_)
   refine sK [2,3,5,6,18,19,20] Z (cQ (sV (vF Z fa85_0 Z) (sV (vY Z ld83) ?_)))
   refine sV (vF Z fa94_0 Z) (sV (vY Z ld9) ?_)
   refine sV (v_is hlk (v_slookup_ok Z Z mp83 inf54 slq)) ?_
   refine sM Z (sV (v_extract Z Z) (sV (v_extract Z Z) (st_alc al54 fun b7=>?_)))
   refine st_stoW Z Z sz54 Z hone2 ?_
   refine sA Z (sK [2,3,5,6,8,18,19,20] Z (cQ (sV (vF Z fa54_2 Z) (sV (vY Z ld48) ?_))))
   refine sM Z (sV (v_sliceHeadA (hi:=i) Z Z sl48 Z (by omega)) (sV (v_makeFunc Z Z) (st_clr Z Z en133 Z (has133_ct (g:=fun g=>g.name == f.name) hrt en134 (fun g _=>ht _ g)) ?_)))
   refine sA Z (sK [2,3,6,8,9,18,19,20] Z (cQ (sV (vF Z fa85_0 Z) (sV (vY Z ld83) ?_))))
   refine sV (vF Z fa94_1 Z) (sV (vY Z ld9) ?_)
   refine sV (v_is hlk2 (v_slookup_ok Z Z mp83 inf54 slq)) ?_
   refine sM Z (sV (v_extract Z Z) (sV (v_extract Z Z) (st_alc al54 fun b10=>?_)))
   refine st_stoW Z Z sz54 Z hone3 ?_
   refine sA Z (sK [2,3,6,8,9,10,11,18,19,20] Z (cS (cd_drawh (ork [(0,2),(1,1),(2,1),(3,1),(4,2),(5,2),(6,2),(7,2),(8,2),(9,2),(10,1),(11,2),(12,2),(13,2),(14,1),(15,1),(16,2),(17,1),(18,2),(19,1),(20,2),(21,2),(22,1),(23,0),(24,0),(25,2)] .nil) (fun i => !(Nat.beq i 23 || Nat.beq i 24)) mixed (by kernel_rfl) ?_)))
   refine dV Z (vF Z fa94_0 Z) (dr_v Z (vY Z ld9) ?_)
   refine dr_clr Z Z Z en136 Z (named136_ct f.name) ?_
   refine dr_clr Z Z Z en75 Z (unless_ct) ?_
   refine dV Z (vM Z) (dV Z (v_not Z) (dV Z (vM Z) (dr_cut (k:=3) (d:=56) (v:=.bool (!(kfind l f.name).isSome && !((x.formals.take i).findIdx? (fun g=>g.name == f.name)).isSome)) (fun hcut=>bool_want (b:=(!(kfind l f.name).isSome)) true (fun hg=>?_) (fun hg=>?_)) ?_)))
   ·refine dp_sk Z Z Z hg ?_
    refine dp_sk Z Z Z hg ?_
    refine dV Z (vP (bO Z hg) Z) ?_
    exact hcut _ uG
   ·refine dp_vg Z Z (bG Z hg) (vM Z) (dp_vg Z Z (bG Z hg) (v_not Z) (dV Z (vQ (bO Z hg) Z) ?_))
    exact hcut _ uG
   refine dr_clr Z Z Z en75 Z (unless_ct) ?_
   refine dV Z (vM Z) (dV Z (vM Z) (dr_cut (k:=4) (d:=63) (v:=.bool ((kfind l f.bound).isSome || f.bound == root)) (fun hcut=>bool_want (b:=((kfind l f.bound).isSome)) false (fun hg=>?_) (fun hg=>?_)) ?_))
   ·refine dp_sk Z Z Z hg ?_
    iterate 2 refine dr_sk rfl rfl rfl hg ?_
    refine dV Z (vQ (bO Z hg) Z) ?_
    exact hcut _ uG
   ·refine dp_vg Z Z (bG Z hg) (vF Z fa94_1 Z) (dr_vg Z Z (bG Z hg) (vY Z ld9) ?_)
    refine dr_vg Z Z (bG Z hg) (v_seql Z Z) (dV Z (vP (bO Z hg) Z) ?_)
    exact hcut _ uG
   refine dr_clr Z Z Z en75 Z (unless_ct) ?_
   refine dV Z (vF Z fa54_2 Z) (dr_v Z (vY Z ld48) ?_)
   refine dV Z (v_len Z Tryz.underlying48) (dV Z (v_eql Z Z) (dr_clr Z Z Z en75 Z (unless_ct) ?_))
   refine dr_eff Z (st_buildSlice (cells:=[.int .i64 (if named f.name=true then 0 else 4),.int .i64 (if (!(kfind l f.name).isSome && !((x.formals.take i).findIdx? (fun g=>g.name == f.name)).isSome)=true then 0 else 6),.int .i64 (if ((kfind l f.bound).isSome || f.bound == root)=true then 0 else 5),.int .i64 (if (((fmsOf l f.bound).length:Int) == 0)=true then 0 else 8)]) Z Tryz.underlying209 inf29 Z Z (by kernel_rfl) (ltn Z) fun b70=>dr_nx ?_)
   refine dr_eff Z (st_cl Z Z en135 Z (firstE_ct (row_ints [if named f.name=true then 0 else 4,if (!(kfind l f.name).isSome && !((x.formals.take i).findIdx? (fun g=>g.name == f.name)).isSome)=true then 0 else 6,if ((kfind l f.bound).isSome || f.bound == root)=true then 0 else 5,if (((fmsOf l f.bound).length:Int) == 0)=true then 0 else 8] Z (by decide))) ?_)
   rintro u h' ⟨rfl,rfl⟩
   simp only [lC,lN]
   refine dr_nx ?_
   rw [show ((x.formals.take i).findIdx? (fun g=>g.name == f.name))=fidx (x.formals.take i) f.name from rfl]
   generalize firstE [if named f.name=true then 0 else 4,if (!(kfind l f.name).isSome && !(fidx (x.formals.take i) f.name).isSome)=true then 0 else 6,if ((kfind l f.bound).isSome || f.bound == root)=true then 0 else 5,if (((fmsOf l f.bound).length:Int) == 0)=true then 0 else 8]=E at hal
   refine dV Z (vA Z) (dr_nil (nK [2,3,12,18,19,20] Z (nT (cQ (sM Z (sV (v_neq Z Z) (sK [2,3,12,18,19,20,73] Z (cC Z (fun he=>?_) (fun he=>?_)))))))))
   ·have he:E≠0:=by simpa using he
    rw [show (List.map (fun q=>fmE l x.formals q.2 q.1) x.formals.zipIdx)=fmEs l x.formals from rfl,hal,if_pos he]
    refine cQ (sM Z (sA Z (sK [4] Z (cT (xW (xR (xR (xW (xR ?_)))))))))
    exact xt_rt Z ⟨Z,Z⟩ sbq
   ·have he:E=0:=by simpa using he
    rw [if_neg (by simpa using he)] at hal
    refine cK (xB (xT (cR (sV (v_add Z Z (by unfold I64 at *; omega)) (sM Z (sN (nK [2,3,18,19,20] Z (nx_xt ?_))))))))
    refine xt_aq (i+1) ⟨hlt,hal⟩ (Nat.sub_lt_sub_left hlt (Nat.lt_succ_self i))
  ·have hil:i=x.formals.length:=by
    have:¬ i<x.formals.length:=by simpa using hd
    omega
   rw [show (List.map (fun q=>fmE l x.formals q.2 q.1) x.formals.zipIdx)=fmEs l x.formals from rfl,hal,List.drop_eq_nil_of_le (by simp [fmEs,hil])]
   refine cd_exit (xE (xE (xY (xT (cQ (sA Z (sK [4] Z (cT ?_))))))))
   exact xt_rt Z ⟨Z,Z⟩ sbq
end
end Go.Hr
namespace Go.Hr
open Go Go.RowKit Go.Ck Go.Proofs Go.Proofs.YtaohbfnepjjdgaaGreat Fx
attribute [local irreducible] Go.Ck.Sub St Cd Xt Nx DrL LsW
section
variable {S N:Res} {v:Value} {F:List Fm} {l:KS} {m:List (Bs×Value)} {mb:Nat} {s t:Kt} {va:Option Addr} {vc:Nat}
set_option maxRecDepth 100000 in
theorem arg137_ct (h : HRight l) (hM : KMap S m l) (hv : ksysR S (.slice va l.length vc) l) {x : KC} (hc : kfind l x.name = some x) {y : Value} (hy : Tys S y t.args) (hd : t.depth ≤ 1000000) {n : Nm} {i : Nat} {f : Fm} (hf : (fmsOf l n)[i]? = some f)
  {fa:Option Addr} {fcap:Nat} (hrow:Row S 2 fmC (.slice fa (fmsOf l n).length fcap) (fmsOf l n)) {u1 u2 u3 u4 u5 u6:Value} {b9 b2 b3 b7 b8:Nat} :
  Cpe Tryz.prog 194 137 #[.pointer (some ⟨b9,0,none⟩),.pointer (some ⟨b2,0,none⟩),.pointer (some ⟨b3,0,none⟩),.pointer (some ⟨b7,0,none⟩),.pointer (some ⟨b8,0,none⟩)]
   [pt b9 (cl (tyC t y) 25),pt b2 (cl [.map (some mb),.slice va l.length vc] 85),pt b3 (cl [sv x.name,u1,u2,u3,u4,u5,u6] 54),pt b7 (cl [.slice fa (fmsOf l n).length fcap] 48),pt b8 (cl [.int .i64 (i:Nat)] 3),mps mb m,S] (argE l x.formals t f.bound):=by
 have hml:maxLen=9223372036854775807:=rfl
 have hde:=depth_ct hd (Ty.of (t:=t) rfl hy)
 have hin:=fun xa xn xc hy=>inner_go (mb:=mb) h hM hv hc t.depth t (.slice xa xn xc) (Nat.le_refl _) hy
 obtain ⟨ya,yc,rfl,_⟩:=id hy.form
 have hac:=actual_of h hM hv hc (h.bnd hf) (hin _ _ _ hy)
 clear hin
 obtain ⟨b,o,cap2,e1,hrd⟩:=fm_at hrow hf
 cases e1
 have hlt:i<(fmsOf l n).length:=(List.getElem?_eq_some_iff.1 hf).1
 have hri:argE l x.formals t f.bound=if (if decide ((t.depth:Int)≤40)=true then (0:Int) else 3)≠0 then 3 else actE l x.formals t f.bound:=by
  unfold argE
  by_cases h1:40<t.depth
  ·have:¬ (t.depth:Int)≤40:=by omega
   rw [if_pos h1,decide_eq_false this]; rfl
  ·have:(t.depth:Int)≤40:=by omega
   rw [if_neg h1,decide_eq_true this]; rfl
 rw [hri]
 unfold wV tyC fmA at hac
 unfold fmA at hrd
 unfold tyC at hde ⊢
 generalize hFM:(fmsOf l n).length=FL at *
 refine cpe_of (n:=18) Tryz.func137 Z Z (len Z) fun hr w0=>?_
 refine cS (cd_regP (sV (v_ldn Z ld25 Z rds_pt) ?_))
 refine st_clr Z Z en101 Z (hde) ?_
 refine sV (v_leq Z Z) (sN (nx_pan Z Z en100 Z (must_ct (by decide:(3:Int)≠0)) (fun hp0=>?_) (fun hp1=>by (repeat (first | refine xp_then ?_ | refine xp_block ?_)); exact xt_panE' hp1 (by rw [if_pos hp1]; exact (errB hp1).2.symm) (sbq))))
 refine (nK [0,1,2,3,4] Z (nT (cd_drawP (ork [(0,1),(1,2),(2,1),(3,1),(4,1),(5,1),(6,2),(7,1)] .nil) 8 mixed (by kernel_rfl) ?_)))
 rw [if_neg (by simpa using hp0)]
 refine dr_v Z (v_ldn Z ld85 Z rds_pt) ?_
 refine dV Z (vF Z fa54_0 Z) (dr_v Z (vY Z ld9) ?_)
 refine dr_v Z (v_ldn Z ld25 Z rds_pt) ?_
 refine dr_v Z (vY Z ld48) ?_
 refine dr_v Z (vY Z ld3) ?_
 refine dV Z (vI (k:=i) Z Z sl48 Z hlt Z) (dr_v Z (v_ldn Z ld94 Z hrd) ?_)
 refine dr_nil (nx_panD Z Z Z en138 Z (hac) (fun hp0=>?_) (fun hp1=>by (repeat (first | refine xp_then ?_ | refine xp_block ?_)); exact xt_panE' hp1 Z (sbq)))
 refine (nK [] Z (nx_xt ?_))
 exact xt_rtE hp0 Z (.inl Z) (sbq)
def argEs (l:KS) (F:List Fm) (p:Kp):List Int:=(p.args.zip ((fmsOf l p.name).map (·.bound))).map fun q=>argE l F q.1 q.2
theorem argEs_drop {p:Kp} {i:Nat} (h:i<p.args.length) (h2:i<(fmsOf l p.name).length):(argEs l F p).drop i=argE l F p.args[i] ((fmsOf l p.name)[i]).bound::(argEs l F p).drop (i+1):=by
 have hl:i<(argEs l F p).length:=by simp [argEs]; omega
 rw [List.drop_eq_getElem_cons hl]
 simp [argEs]
set_option maxRecDepth 100000 in
theorem kparents_ct (h : HRight l) (hM : KMap S m l) (hv : ksysR S (.slice va l.length vc) l) {x : KC} (hc : kfind l x.name = some x) {us : List Value} (hx : kclsC S us x) (hdp : ∀ p ∈ x.parents, ∀ a ∈ p.args, a.depth ≤ 1000000) :
  Ct Tryz.prog 82 #[wV mb va l.length vc,.agg us.toArray] [mps mb m,S] fun u h'=>u = .int .i64 (parentsE l x)∧h'=[mps mb m,S]:=by
 have hml:maxLen=9223372036854775807:=rfl
 obtain ⟨d,ff,pv,c2,ffa,ffc,i2,rfl,hone,_,hrow⟩:=hx
 obtain ⟨pa,pcap,rfl,hlc,hcm,_⟩:=id hrow
 unfold wV
 refine ct_of (n:=45) Tryz.func82 Z Z (len Z) fun hr w0=>?_
 refine cQ (st_bx Z Z fun b2=>?_)
 refine st_bx Z Z fun b3=>?_
 refine sA Z (sK [2,3,4] Z (cS (cQ (sV (vF Z fa54_3 Z) (sV (vY Z ld49) ?_)))))
 refine sV (v_len Z Tryz.underlying49) (sM Z (sK [2,3,4,12,13,14] Z (cB (cd_lq (σ := Nat) (fun i=>[(2,.pointer (some ⟨b2,0,none⟩)),(3,.pointer (some ⟨b3,0,none⟩)),(12,.slice pa x.parents.length pcap),(13,.int .i64 x.parents.length),(14,.int .i64 (i:Nat))]) (fun _=>pt b2 (cl [.map (some mb),.slice va l.length vc] 85)::pt b3 (cl [sv x.name,d,ff,.slice pa x.parents.length pcap,c2,.slice ffa x.feats ffc,i2] 54)::mps mb m::S::hr) (fun i=>i≤x.parents.length∧parentsE l x=firstE ((x.parents.drop i).map (parentE l x))) (fun i=>x.parents.length - i) 0 ⟨Nat.zero_le _,Z⟩ ?_))))
 rintro i ⟨hi,hal⟩
 refine cQ (sV (v_lss Z Z) (sN (nT (cS (cC Z (fun hd=>?_) (fun hd=>?_))))))
 ·have hlt:i<x.parents.length:=by simpa using hd
  have hmem:=List.getElem_mem hlt
  obtain ⟨b,o,cap2,us,e1,hus,hrd,hX⟩:=Row.at hrow (List.getElem?_eq_getElem hlt)
  cases e1
  rw [List.drop_eq_getElem_cons hlt,List.map_cons,firstE] at hal
  generalize x.parents[i]=p at hmem hX hal
  obtain ⟨y,p1,p2,p3,p4,rfl,hone2,hy⟩:=hX
  obtain ⟨d0,dd,fv,pv,c3,fs,ii,hlk,hrow2⟩:=map_cls hM p.name
  obtain ⟨fa,fcap,rfl,hlc2,hcm2,_⟩:=id hrow2
  obtain ⟨ya,yc,rfl,hlc3,hcm3,_⟩:=id hy.form
  refine cK (xT (cS (cB (cQ (sV (vI (k:=i) Z Z sl49 Z hlt Z) (sV (v_ldn Z ld79 Z hrd) ?_))))))
  refine st_alc al79 fun b6=>?_
  refine st_stoW Z Z sz79 Z hone2 ?_
  refine sK [2,3,6,12,13,14] Z (cQ (sV (vF Z fa85_0 Z) (sV (vY Z ld83) ?_)))
  refine sV (vF Z fa79_0 Z) (sV (vY Z ld9) ?_)
  refine sV (v_is hlk (v_slookup Z Z mp83 inf54 slq)) ?_
  refine sV (v_field1 Z Tryz.underlying54 Z (fun w=>by simp [isAgg,run_underlying Tryz.underlying48]) Z) ?_
  refine st_alc al48 fun b7=>?_
  refine st_sto Z Z sz48 ?_
  refine sK [2,3,6,7,12,13,14] Z (cS (cQ (sV (vF Z fa79_1 Z) (sV (vY Z ld23) ?_))))
  refine sV (v_len Z Tryz.underlying23) (sV (vY Z ld48) ?_)
  refine sV (v_len Z Tryz.underlying48) (sV (v_neq Z Z) (sK [2,3,6,7,12,13,14,29] Z (cC Z (fun hq=>?_) (fun hq=>?_))))
  ·have hq:p.args.length≠(fmsOf l p.name).length:=by
    intro e; rw [e] at hq; simp at hq
   have hpe:parentE l x p=8:=if_pos hq
   rw [hpe,if_pos (by decide)] at hal
   rw [hal]
   refine cQ (sA Z (sK [4] Z (cT (xR (xW (xR (xR (xW (xR ?_)))))))))
   exact xt_rt Z ⟨Z,Z⟩ sbq
  ·have hq:p.args.length=(fmsOf l p.name).length:=by
    have:=(bne_eq_false_iff_eq).1 hq; omega
   have hpe:parentE l x p=firstE (argEs l x.formals p):=if_neg (fun e=>e hq)
   refine cK (xT (cQ (sV (vF Z fa79_1 Z) (sV (vY Z ld23) ?_))))
   refine sV (v_len Z Tryz.underlying23) (sM Z (sK [2,3,7,12,13,14,31,32,33] Z (cB (cd_lq (σ := Nat) (fun j=>[(2,.pointer (some ⟨b2,0,none⟩)),(3,.pointer (some ⟨b3,0,none⟩)),(7,.pointer (some ⟨b7,0,none⟩)),(12,.slice (some ⟨b,o,none⟩) x.parents.length pcap),(13,.int .i64 x.parents.length),(14,.int .i64 (i:Nat)),(31,.slice ya p.args.length yc),(32,.int .i64 p.args.length),(33,.int .i64 (j:Nat))]) (fun _=>pt b2 (cl [.map (some mb),.slice va l.length vc] 85)::pt b3 (cl [sv x.name,d,ff,.slice (some ⟨b,o,none⟩) x.parents.length pcap,c2,.slice ffa x.feats ffc,i2] 54)::pt b7 (cl [.slice fa (fmsOf l p.name).length fcap] 48)::mps mb m::S::hr) (fun j=>j≤p.args.length∧parentE l x p=firstE ((argEs l x.formals p).drop j)) (fun j=>p.args.length - j) 0 ⟨Nat.zero_le _,hpe⟩ ?_))))
   rintro j ⟨hj,hal2⟩
   refine cQ (sV (v_lss Z Z) (sN (nT (cS (cC Z (fun hd2=>?_) (fun hd2=>?_))))))
   ·have hltj:j<p.args.length:=by simpa using hd2
    have hltf:j<(fmsOf l p.name).length:=by omega
    have hgf:=List.getElem?_eq_getElem hltf
    have hmemj:=List.getElem_mem hltj
    have hda:=hdp p hmem _ hmemj
    obtain ⟨bj,oj,capj,uj,e2,huj,hrdj,htj⟩:=hy.at (List.getElem?_eq_getElem hltj)
    cases e2
    rw [argEs_drop hltj hltf,firstE] at hal2
    generalize p.args[j]=a at hmemj hda htj hal2
    generalize (fmsOf l p.name)[j]=f at hgf hal2
    have honej:=htj.ones
    obtain ⟨z,rfl,hz⟩:=htj.out
    have hcl:=fun b9 b8=>arg137_ct (mb:=mb) h hM hv hc hz hda hgf hrow2 (u1:=d) (u2:=ff) (u3:=.slice (some ⟨b,o,none⟩) x.parents.length pcap) (u4:=c2) (u5:=.slice ffa x.feats ffc) (u6:=i2) (b9:=b9) (b2:=b2) (b3:=b3) (b7:=b7) (b8:=b8)
    obtain ⟨za,zc,rfl,_⟩:=id hz.form
    unfold tyC at hrdj honej hcl
    refine cK (xT (cS (cB (cQ (sM Z (sV (vI (k:=j) Z Z sl23 Z hltj Z) (sV (v_ldn Z ld25 Z hrdj) ?_)))))))
    refine st_alc al3 fun b8=>?_
    refine st_alc al25 fun b9=>?_
    refine st_sto Z Z sz3 ?_
    refine st_stoW Z Z sz25 Z honej ?_
    refine sK [2,3,7,8,9,12,13,14,31,32,33] Z (cQ (sV (v_makeFunc Z Z) (st_cl Z Z en98 Z (caught_ct en137 (hcl b9 b8)) ?_)))
    rintro u h' ⟨rfl,rfl⟩
    simp only [lC,lN]
    refine sA Z (sK [2,3,7,10,12,13,14,31,32,33] Z (cQ (sM Z (sV (v_neq Z Z) (sK [2,3,7,10,12,13,14,31,32,33,41] Z ?_)))))
    generalize argE l x.formals a f.bound=E at hal2
    refine cC Z (fun he=>?_) (fun he=>?_)
    ·have he:E≠0:=by simpa using he
     rw [if_pos he] at hal2
     rw [hal2,if_pos he] at hal
     rw [hal]
     refine cQ (sM Z (sA Z (sK [4] Z (cT (xW (xR (xR (xW (xW (xR (xR (xW ?_))))))))))))
     refine xR ?_
     exact xt_rt Z ⟨Z,Z⟩ sbq
    ·have he:E=0:=by simpa using he
     rw [if_neg (by simpa using he)] at hal2
     refine cK (xB (xT (cR (sV (v_add Z Z (by unfold I64 at *; omega)) (sM Z (sN (nK [2,3,7,12,13,14,31,32,33] Z (nx_xt ?_))))))))
     refine xt_aq (j+1) ⟨hltj,hal2⟩ (Nat.sub_lt_sub_left hltj (Nat.lt_succ_self j))
   ·have hjl:j=p.args.length:=by
     have:¬ j<p.args.length:=by simpa using hd2
     omega
    rw [List.drop_eq_nil_of_le (by simp [argEs,hjl]; omega)] at hal2
    rw [hal2,if_neg (by simp [firstE])] at hal
    refine cd_exit (xE (xE (xY (xB (xT (cR (sV (v_add Z Z (by unfold I64 at *; omega)) (sM Z (sN (nK [2,3,12,13,14] Z (nx_xt ?_)))))))))))
    refine xt_aq (i+1) ⟨hlt,hal⟩ (Nat.sub_lt_sub_left hlt (Nat.lt_succ_self i))
 ·have hil:i=x.parents.length:=by
   have:¬ i<x.parents.length:=by simpa using hd
   omega
  rw [hal,List.drop_eq_nil_of_le (by omega)]
  refine cd_exit (xE (xE (xY (xT (cQ (sA Z (sK [4] Z (cT ?_))))))))
  exact xt_rt Z ⟨Z,Z⟩ sbq
end
end Go.Hr
namespace Go.Hr
open Go Go.RowKit Go.Ck Go.Proofs Go.Proofs.YtaohbfnepjjdgaaGreat Fx
attribute [local irreducible] Go.Ck.Sub St Cd Xt Nx DrL LsW
def TyRows (R:Res) (rows:List (List Value)) (ts:List Kt):Prop:=rows.length=ts.length∧(∀ r∈rows,r.length=5)∧∀ (j:Nat) us t,rows[j]? = some us→ts[j]? = some t→Ty R us t
section
variable {S T N R:Res} {v:Value} {F:List Fm} {l:KS} {m:List (Bs×Value)} {mb:Nat} {s t:Kt} {va:Option Addr} {vc:Nat} {ts:List Kt} {rows:List (List Value)}
theorem TyRows.nil:TyRows R [] []:=⟨rfl,by simp,fun j us t h=>by simp at h⟩
theorem TyRows.snoc (h : TyRows R rows ts) {us : List Value} (ht : Ty R us t) : TyRows R (rows ++ [us]) (ts ++ [t]) := by
 obtain ⟨h1,h2,h3⟩:=h
 refine ⟨by simp [h1],fun r hr=>?_,fun j us' t' g1 g2=>?_⟩
 ·rcases List.mem_append.1 hr with hr | hr
  ·exact h2 r hr
  ·simp at hr; subst hr; exact ht.len
 ·by_cases hj : j < rows.length
  ·rw [List.getElem?_append_left hj] at g1
   rw [List.getElem?_append_left (by omega)] at g2
   exact h3 j us' t' g1 g2
  ·rw [List.getElem?_append_right (by omega)] at g1
   rw [List.getElem?_append_right (by omega)] at g2
   have hj0:j - rows.length=0:=by
    have:=(List.getElem?_eq_some_iff.1 g1).1
    simp at this; omega
   rw [hj0] at g1
   rw [← h1,hj0] at g2
   simp at g1 g2; subst g1 g2; exact ht
theorem TyRows.mono {R':Res} (hr:∀ p u,Rd R p u→Rd R' p u) (h:TyRows R rows ts):TyRows R' rows ts:=⟨h.1,h.2.1,fun j us t g1 g2=>(h.2.2 j us t g1 g2).mono hr⟩
theorem TyRows.tys {v:Value} (h:TyRows R rows ts) (hok:∃ f,(VR v 25 5 rows).ok f) (hr:∀ p u,Rd (VR v 25 5 rows) p u→Rd R p u) (hb:ts.length * 56≤reachBytes):Tys R v ts :=
 ⟨row_vr hok h.1 hr h.2.2,hb⟩
theorem TyRows.one (h:TyRows R rows ts):∀ r∈rows,∀ u∈r,u.oneCell'=true:=fun r hr u hu=>by
 obtain ⟨j,hj,rfl⟩:=List.getElem_of_mem hr
 exact List.all_eq_true.1 (h.2.2 j _ (ts[j]'(by rw [← h.1]; exact hj)) (List.getElem?_eq_getElem hj) (List.getElem?_eq_getElem _)).ones u hu
set_option maxRecDepth 100000 in
theorem clone64_ct (h:Tys S v ts):CtN Tryz.prog 64 #[v] [S] fun u T=>∃ a cap,u = .slice a ts.length cap∧Tys (Res.star [T,S]) u ts:=by
 have hrb:reachBytes=140737488351232:=rfl
 have hbb:=h.2
 obtain ⟨a,cap,rfl,hlc,hcm,hnn⟩:=h.form
 refine ct_of (n:=8) Tryz.func64 Z Z (len Z) fun hr w0=>?_
 refine cQ (sA Z (sN (nT (cS (cQ (sM Z (sV (v_eql_slice_nil Z Z Tryz.underlying23) (sK [0,2,4] Z ?_))))))))
 cases a with
 | none =>
  have hc0:=hnn rfl
  have hl0:ts=[]:=List.eq_nil_of_length_eq_zero (by omega)
  subst hl0
  refine cd_true Z ?_
  refine cQ (sA Z (sK [2] Z (cT (xR (xt_vw (vw_unstar (L:=[])) ?_)))))
  exact xt_rt Z ⟨Res.star [],Z,none,0,Z,Tys.nil⟩ sbq
 | some a =>
  refine cd_false Z ?_
  refine cK (xT (cQ (st_bs0 Tryz.underlying23 inf25 fun b5=>?_)))
  refine sM Z (st_apr h.1 Z Z Tryz.underlying23 inf25 Z (by decide) (show Sel _ (VR (.slice (some ⟨b5,0,none⟩) 0 0) 25 5 []) _ from slq) (show Sel _ S _ from slq) (fun us x _ h=>List.all_eq_true.1 (Ty.ones h)) (by simp <;> omega) (by simp <;> omega) (ltn Z) fun v7 n1 hv7 q1 q2 q3=>?_)
  refine sA Z (sK [2] Z (cT (xt_ok (r:=VR v7 25 5 n1) slq fun hok=>?_)))
  have hty:Tys (Res.star [VR v7 25 5 n1,S]) v7 ts:=⟨row_vr hok q1 (rd_in slq) fun i us x g1 g2=>(q3 i us x g1 g2).mono (rd_in slq),hbb⟩
  obtain ⟨a7,c7,rfl,_⟩:=id hty.form
  exact xt_rt Z ⟨VR _ 25 5 n1,Z,_,_,Z,hty⟩ sbq
set_option maxRecDepth 100000 in
theorem own140_ct {d0 dd pv c2 fs ii : Value} {fa : Option Addr} {fcap : Nat} (hrow : Row S 2 fmC (.slice fa F.length fcap) F) (hF : F.length ≤ 3) : CtN Tryz.prog 140 #[.agg #[d0, dd, .slice fa F.length fcap, pv, c2, fs, ii]] [S] fun u T => ∃ a cap, u = .slice a F.length cap ∧ Tys T u (ownT F) := by
 have hml:maxLen=9223372036854775807:=rfl
 have hrb:reachBytes=140737488351232:=rfl
 refine ct_of (n:=21) Tryz.func140 Z Z (len Z) fun hr w0=>?_
 refine cQ (st_bx Z Z fun b1=>?_)
 refine sA Z (sK [1,2] Z (cQ (sA Z (sN (nT (cS (cQ (sV (vF Z fa54_2 Z) (sV (vY Z ld48) ?_)))))))))
 refine sV (v_len Z Tryz.underlying48) (sM Z (sK [2,3,7,8,9] Z (cB (cd_vw (vw_nil 25 5) (cd_lq (σ := Value×Nat) (fun q=>[(3,q.1),(7,.slice fa F.length fcap),(8,.int .i64 F.length),(9,.int .i64 (q.2:Nat))]) (fun q=>VR q.1 25 5 ((ownT (F.take q.2)).map fun t=>tyC t (.slice none 0 0))::S::hr) (fun q=>q.2≤F.length∧q.1.oneCell'=true) (fun q=>F.length - q.2) (.slice none 0 0,0) ⟨Nat.zero_le _,Z⟩ ?_)))))
 rintro ⟨w,i⟩ ⟨hi,hw⟩
 simp only at hi hw
 dsimp only
 refine cQ (sV (v_lss Z Z) (sN (nT (cS (cC Z (fun hd=>?_) (fun hd=>?_))))))
 ·have hlt:i<F.length:=by simpa using hd
  obtain ⟨b,o,cap2,e1,hrd⟩:=fm_at hrow (List.getElem?_eq_getElem hlt)
  cases e1
  have htk:F.take (i+1)=F.take i++[F[i]]:=by rw [List.take_add_one,List.getElem?_eq_getElem hlt]; rfl
  generalize F[i]=f at hrd htk
  unfold fmA at hrd
  refine cK (xT (cS (cB (cQ (sV (vI (k:=i) Z Z sl48 Z hlt Z) (sV (v_ldn Z ld94 Z hrd) ?_))))))
  refine st_alc al94 fun b5=>?_
  refine st_stoW Z Z sz94 Z Z ?_
  refine sK [3,5,7,8,9] Z (cR (sM Z (sV (vF Z fa94_0 Z) (sV (vY Z ld9) ?_))))
  refine sV (v_build (cells:=tyC (.mk 4 f.name [] false false) (.slice none 0 0)) Z (fun _=>by kernel_rfl)) ?_
  refine st_buildSlice (cells:=tyC (.mk 4 f.name [] false false) (.slice none 0 0)) Z Tryz.underlying23 inf25 Z Z (by kernel_rfl) (ltn Z) fun b17=>?_
  refine st_app [tyC (.mk 4 f.name [] false false) (.slice none 0 0)] Z Z Tryz.underlying23 inf25 Z (by decide) (show Sel _ (VR w 25 5 _) _ from slq) (by simp [tyC]) Z (fun j u2 hu2=>at_here (rd_cl (by simpa [tyC] using hu2))) (by simp [tyC,Value.oneCell']) (by simp [ownT]; omega) (by simp [ownT]; omega) (ltn Z) fun w2 hw2 _=>?_
  rw [show (ownT (F.take i)).map (fun t=>tyC t (.slice none 0 0))++[tyC (.mk 4 f.name [] false false) (.slice none 0 0)]=(ownT (F.take (i+1))).map (fun t=>tyC t (.slice none 0 0)) by rw [htk]; simp [ownT]]
  refine sA Z (sN (nK [3,7,8,9] Z (nx_xt (xB (xT (cR (sV (v_add Z Z (by unfold I64 at *; omega)) (sM Z (sN (nK [3,7,8,9] Z (nx_xt ?_)))))))))))
  refine xt_aq (w2,i+1) ⟨hlt,hw2⟩ (Nat.sub_lt_sub_left hlt (Nat.lt_succ_self i))
 ·have hil:i=F.length:=by
   have:¬ i<F.length:=by simpa using hd
   omega
  subst hil
  rw [List.take_length]
  refine cd_exit (xE (xE (xY (xT (cQ (sM Z (sA Z (sK [2] Z (cT (xt_ok (r:=VR w 25 5 ((ownT F).map fun t=>tyC t (.slice none 0 0))) slq fun hok=>?_))))))))))
  have hty:Tys (VR w 25 5 ((ownT F).map fun t=>tyC t (.slice none 0 0))) w (ownT F):=⟨row_vr hok (by simp) (fun _ _ h=>h) fun j us x h1 h2=>by
   rw [List.getElem?_map,h2] at h1
   simp at h1; subst h1
   have hx:x.args=[]:=by
    obtain ⟨k,hk,rfl⟩:=List.getElem_of_mem (List.mem_of_getElem? h2)
    simp [ownT,Kt.args]
   exact Ty.of Z (by rw [hx]; exact Tys.nil),by simp [ownT]; omega⟩
  obtain ⟨a7,c7,hv7,_⟩:=id hty.form
  rw [show (ownT F).length=F.length by simp [ownT]] at hv7
  subst hv7
  exact xt_rt Z ⟨_,Z,a7,c7,Z,hty⟩ sbq
end
end Go.Hr
namespace Go.Hr
open Go Go.RowKit Go.Ck Go.Proofs Go.Proofs.YtaohbfnepjjdgaaGreat Fx
attribute [local irreducible] Go.Ck.Sub St Cd Xt Nx DrL LsW
section
variable {S T N R:Res} {v:Value} {F:List Fm} {A:List Kt} {l:KS} {m:List (Bs×Value)} {mb:Nat} {s t:Kt} {va:Option Addr} {vc:Nat} {ts:List Kt} {rows:List (List Value)}
theorem act_bool {n:Nm}:(decide ((0:Int)≤ixD (fidx F n)) && decide (ixD (fidx F n)<(A.length:Nat)))=(actOf F A n).isSome:=by
 unfold actOf
 cases h:fidx F n with
 | none=>rfl
 | some j =>
  rw [Option.bind_some,show ixD (some j)=(j:Int) from rfl,decide_eq_true (Int.natCast_nonneg j),Bool.true_and,Bool.eq_iff_iff,decide_eq_true_eq]
  by_cases hj:j<A.length
  ·rw [List.getElem?_eq_getElem hj]; simp; exact_mod_cast hj
  ·rw [List.getElem?_eq_none (by omega)]; simp; omega
theorem act_at {n:Nm} {a:Kt} (h:actOf F A n=some a):∃ j,fidx F n=some j∧A[j]? = some a:=by
 unfold actOf at h
 cases hj:fidx F n with
 | none=>rw [hj] at h; cases h
 | some j=>rw [hj] at h; exact ⟨j,rfl,h⟩
set_option maxRecDepth 100000 in
theorem sub61_ct {fa : Option Addr} {fcap : Nat} (hrow : Row S 2 fmC (.slice fa F.length fcap) F) {aa : Option Addr} {acap : Nat} (hA : Tys S (.slice aa A.length acap) A) {p3 p4 p7 : Nat} : ∀ (d : Nat) (t : Kt) (y : Value), t.depth ≤ d → Tys S y t.args →
  CtN Tryz.prog 61 #[.agg (tyC t y).toArray,.pointer (some ⟨p3,0,none⟩),.pointer (some ⟨p4,0,none⟩),.pointer (some ⟨p7,0,none⟩)]
   [pt p3 (cl [.slice fa F.length fcap] 48),pt p4 (cl [.slice aa A.length acap] 23),pt p7 (cl [.func (.func 61) #[] #[.pointer (some ⟨p3,0,none⟩),.pointer (some ⟨p4,0,none⟩),.pointer (some ⟨p7,0,none⟩)]] 76),S]
   fun u T=>∃ us:List Value,u = .agg us.toArray∧Ty (Res.star [T,S]) us (t.subst F A):=by
 intro d
 induction d with
 | zero=>intro t y hd; cases t; simp [Kt.depth] at hd
 | succ d ih =>
  rintro ⟨k,n,az,w,z⟩ y hd hy
  have hy:Tys S y az:=hy
  have hF:=fun a (ha:a∈az) y hy=>ih a y (by have:=depth_args (t:=.mk k n az w z) ha; omega) hy
  clear ih hd
  have hml:maxLen=9223372036854775807:=rfl
  have hrb:reachBytes=140737488351232:=rfl
  obtain ⟨xa,xc,rfl,hlc,hcm,_⟩:=hy.form
  have hbb:=hy.2
  show CtN _ _ #[.agg #[.int .i64 k,sv n,.slice xa az.length xc,.bool w,.bool z],_,_,_] _ _
  by_cases h4:k=4
  ·subst h4
   have ht:=fun f b => @tell63_ct (.mk 4 n az w z) f b (.slice xa az.length xc)
   rw [subst_formal]
   unfold tyC at ht
   refine ct_of (n:=73) Tryz.func61 Z Z (len Z) fun hr w0=>?_
   refine cQ (st_bx Z Z fun b4=>?_)
   refine st_alc al25 fun b5=>?_
   refine sK [1,2,3,4,5] Z (cS (cQ (sV (vF Z fa25_0 Z) (sV (vY Z ld3) ?_))))
   refine sK [1,2,3,4,5,12] Z (cB (cQ (sV (v_eql Z Z) (sA Z (sK [1,2,3,4,5,12,13] Z (cd_true Z ?_))))))
   refine cQ (sV (vY Z ld48) ?_)
   refine sV (v_makeFunc Z Z) (st_clr Z Z en62 Z (IdxF_ct (N:=pt b4 (cl [.int .i64 4,sv n,.slice xa az.length xc,.bool w,.bool z] 25)) (g:=fun f=>f.name == n) hrow en63 (fun f _=>ht f b4)) ?_)
   refine sA Z (sK [2,4,5,6] Z (cQ (sM Z (sV (v_geq Z Z) (sM Z ?_)))))
   rw [show List.findIdx? (fun f=>f.name == n) F=fidx F n from rfl]
   refine st_cut (k:=8) (d:=25) (v:=.bool (decide ((0:Int)≤ixD (fidx F n)) && decide (ixD (fidx F n)<(A.length:Nat)))) (fun hcut=>bool_want (b:=(decide ((0:Int)≤ixD (fidx F n)))) true (fun hg=>?_) (fun hg=>?_)) ?_
   ·refine st_sk Z Z hg ?_
    iterate 3 refine st_sk rfl rfl hg ?_
    refine sV (vP (bO Z hg) Z) ?_
    exact hcut _ uG
   ·refine sG Z (bG Z hg) (vM Z) (sG Z (bG Z hg) (vY Z ld23) ?_)
    refine sG Z (bG Z hg) (v_len Z Tryz.underlying23) (sG Z (bG Z hg) (v_lss Z Z) (sV (vQ (bO Z hg) Z) ?_))
    exact hcut _ uG
   rw [act_bool]
   cases hac:actOf F A n with
   | none =>
    refine sK [2,4,5,6,25] Z (cd_false Z ?_)
    refine cK (xB (xT (cQ (sV (vF Z fa25_2 Z) (sV (vY Z ld23) ?_)))))
    refine st_cl Z Z en64 Z (clone64_ct hy) ?_
    rintro u h' ⟨T,rfl,ca,cc,rfl,hT⟩
    simp only [lC,lN]
    refine sV (vF Z fa25_2 Z) (st_sto Z Z sz23 ?_)
    refine sK [4,5] Z (cQ (sV (v_ldn Z ld25 Z rds_pt) ?_))
    refine st_stoW Z Z sz25 Z Z ?_
    refine sK [5] Z (cT ?_)
    exact xt_retV (.cellN Z ld25 Z slq .nil) ⟨T,Z,_,Z,Ty.of (t:=.mk 4 n az w z) Z hT⟩ sbr
   | some a =>
    obtain ⟨j,hj,haj⟩:=act_at hac
    have hlt:j<A.length:=(List.getElem?_eq_some_iff.1 haj).1
    obtain ⟨b,o,cap2,us,e1,hus,hrd,hta⟩:=hA.at haj
    cases e1
    have hone:=hta.ones
    obtain ⟨y,rfl,hya⟩:=hta.out
    obtain ⟨ya,yc,rfl,_⟩:=id hya.form
    unfold tyC at hrd hone
    rw [hj]
    refine sK [2,4,5,6,25] Z (cd_true Z ?_)
    refine cQ (sV (vY Z ld23) ?_)
    refine sM Z (sV (vI (k:=j) Z Z sl23 Z hlt Z) (sV (v_ldn Z ld25 Z hrd) ?_))
    refine st_alc al25 fun b7=>?_
    refine st_stoW Z Z sz25 Z hone ?_
    refine sK [4,5,7] Z (cQ (sV (vF Z fa25_2 Z) (sV (vY Z ld23) ?_)))
    refine st_cl Z Z en64 Z (clone64_ct hya) ?_
    rintro u h' ⟨T,rfl,ca,cc,rfl,hT⟩
    simp only [lC,lN]
    refine sV (vF Z fa25_2 Z) (st_sto Z Z sz23 ?_)
    refine sK [4,5,7] Z (cS (cd_draw (ork [(0,2),(6,2)] (.two 1 (ork [(2,2),(3,2),(4,1),(5,2),(7,0),(8,2),(9,2),(10,1),(11,2),(12,2),(13,0),(14,2),(15,0)] .nil) 7 (ork [(1,0),(2,2),(3,2),(4,1),(5,2),(8,2),(9,2),(10,1),(11,2),(12,2),(13,0),(14,2),(15,0)] .nil))) (fun i => !(Nat.beq i 1 || Nat.beq i 15)) [pt b4 (cl [.int .i64 4,sv n,.slice xa az.length xc,.bool w,.bool z] 25)] mixed (by kernel_rfl) ?_))
    refine dV Z (vF Z fa25_3 Z) (dV Z (vF Z fa25_4 Z) (dr_two Z Z ?_ ?_))
    ·refine sV (vY Z ld4) (dr_nx ?_)
     refine dV Z (vM Z) (dr_cut (k:=3) (d:=39) (v:=.bool (a.void || w)) (fun hcut=>bool_want (b:=(a.void)) false (fun hg=>?_) (fun hg=>?_)) ?_)
     ·refine dp_sk Z Z Z hg ?_
      refine dr_sk Z Z Z hg ?_
      refine dV Z (vQ (bO Z hg) Z) ?_
      exact hcut _ uG
     ·refine dp_vg Z Z (bG Z hg) (vF Z fa25_3 Z) (dr_vg Z Z (bG Z hg) (vY Z ld4) ?_)
      refine dV Z (vP (bO Z hg) Z) ?_
      exact hcut _ uG
     refine dr_eff Z (sV (vY Z ld4) (dr_nx ?_))
     refine dV Z (vM Z) (dr_cut (k:=3) (d:=45) (v:=.bool (a.sep || z)) (fun hcut=>bool_want (b:=(a.sep)) false (fun hg=>?_) (fun hg=>?_)) ?_)
     ·refine dp_sk Z Z Z hg ?_
      refine dr_sk Z Z Z hg ?_
      refine dV Z (vQ (bO Z hg) Z) ?_
      exact hcut _ uG
     ·refine dp_vg Z Z (bG Z hg) (vF Z fa25_4 Z) (dr_vg Z Z (bG Z hg) (vY Z ld4) ?_)
      refine dV Z (vP (bO Z hg) Z) ?_
      exact hcut _ uG
     refine dV Z (vF Z fa25_3 Z) (dr_eff Z (st_sto Z Z sz4 ?_))
     refine dr_nx ?_
     refine dV Z (vF Z fa25_4 Z) (dr_eff Z (st_sto Z Z sz4 (dr_nx ?_)))
     refine dr_nil (nK [4,5,7] Z (nT (cQ (sV (v_ldn Z ld25 Z rds_pt) ?_))))
     refine st_stoW Z Z sz25 Z Z ?_
     refine sK [5] Z (cT (xW (xR ?_)))
     exact xt_retV (.cellN Z ld25 Z slq .nil) ⟨T,Z,_,Z,Ty.of (t:=a.flag w z) Z hT⟩ sbr
    ·refine sV (vY Z ld4) (dr_nx ?_)
     refine dr_eff Z (sV (vY Z ld4) (dr_nx ?_))
     refine dV Z (vM Z) (dr_cut (k:=3) (d:=39) (v:=.bool (a.void || w)) (fun hcut=>bool_want (b:=(a.void)) false (fun hg=>?_) (fun hg=>?_)) ?_)
     ·refine dp_sk Z Z Z hg ?_
      refine dr_sk Z Z Z hg ?_
      refine dV Z (vQ (bO Z hg) Z) ?_
      exact hcut _ uG
     ·refine dp_vg Z Z (bG Z hg) (vF Z fa25_3 Z) (dr_vg Z Z (bG Z hg) (vY Z ld4) ?_)
      refine dV Z (vP (bO Z hg) Z) ?_
      exact hcut _ uG
     refine dV Z (vM Z) (dr_cut (k:=3) (d:=45) (v:=.bool (a.sep || z)) (fun hcut=>bool_want (b:=(a.sep)) false (fun hg=>?_) (fun hg=>?_)) ?_)
     ·refine dp_sk Z Z Z hg ?_
      refine dr_sk Z Z Z hg ?_
      refine dV Z (vQ (bO Z hg) Z) ?_
      exact hcut _ uG
     ·refine dp_vg Z Z (bG Z hg) (vF Z fa25_4 Z) (dr_vg Z Z (bG Z hg) (vY Z ld4) ?_)
      refine dV Z (vP (bO Z hg) Z) ?_
      exact hcut _ uG
     refine dV Z (vF Z fa25_3 Z) (dr_eff Z (st_sto Z Z sz4 ?_))
     refine dr_nx ?_
     refine dV Z (vF Z fa25_4 Z) (dr_eff Z (st_sto Z Z sz4 (dr_nx ?_)))
     refine dr_nil (nK [4,5,7] Z (nT (cQ (sV (v_ldn Z ld25 Z rds_pt) ?_))))
     refine st_stoW Z Z sz25 Z Z ?_
     refine sK [5] Z (cT (xW (xR ?_)))
     exact xt_retV (.cellN Z ld25 Z slq .nil) ⟨T,Z,_,Z,Ty.of (t:=a.flag w z) Z hT⟩ sbr
  ·by_cases h3 : k = 3
   ·subst h3
    rw [subst_class]
    have hsn:∀ i (h:i<az.length),(az.take (i+1)).map (Kt.subst F A)=(az.take i).map (Kt.subst F A)++[(az[i]).subst F A]:=fun i h=>by rw [List.take_add_one,List.getElem?_eq_getElem h,List.map_append]; rfl
    refine ct_of (n:=73) Tryz.func61 Z Z (len Z) fun hr w0=>?_
    refine cQ (st_bx Z Z fun b4=>?_)
    refine st_alc al25 fun b5=>?_
    refine sK [1,2,3,4,5] Z (cS (cQ (sV (vF Z fa25_0 Z) (sV (vY Z ld3) ?_))))
    refine sK [1,2,3,4,5,12] Z (cB (cQ (sV (v_eql Z Z) (sA Z (sK [1,2,3,4,5,12,13] Z (cd_false Z ?_))))))
    refine cQ (sV (v_eql Z Z) (sA Z (sK [3,4,5,49] Z (cd_true Z ?_))))
    refine cQ (sA Z (sK [3,4,5,8] Z (cS (cQ (sV (vF Z fa25_2 Z) (sV (vY Z ld23) ?_))))))
    refine sV (v_len rfl Tryz.underlying23) (sM rfl (sK [3,4,5,8,52,53,54] rfl (cB (cd_vw (vw_nil 25 5) (cd_vw (vw_unstar (L:=[])) (cd_lq (σ := Value×List (List Value)×Res×Nat) (fun q=>[(3,.pointer (some ⟨p7,0,none⟩)),(4,.pointer (some ⟨b4,0,none⟩)),(5,.pointer (some ⟨b5,0,none⟩)),(8,q.1),(52,.slice xa az.length xc),(53,.int .i64 az.length),(54,.int .i64 (q.2.2.2:Nat))]) (fun q=>VR q.1 25 5 q.2.1::q.2.2.1::pt b4 (cl [.int .i64 3,sv n,.slice xa az.length xc,.bool w,.bool z] 25)::pt b5 (cl [.int .i64 0,sv [],.slice none 0 0,.bool false,.bool false] 25)::pt p3 (cl [.slice fa F.length fcap] 48)::pt p4 (cl [.slice aa A.length acap] 23)::pt p7 (cl [.func (.func 61) #[] #[.pointer (some ⟨p3,0,none⟩),.pointer (some ⟨p4,0,none⟩),.pointer (some ⟨p7,0,none⟩)]] 76)::S::hr) (fun q=>q.2.2.2≤az.length∧q.1.oneCell'=true∧TyRows (Res.star [q.2.2.1,S]) q.2.1 ((az.take q.2.2.2).map (Kt.subst F A))) (fun q=>az.length - q.2.2.2) (.slice none 0 0,[],Res.star [],0) ⟨Nat.zero_le _,rfl,TyRows.nil⟩ ?_))))))
    rintro ⟨wv,rows,T,i⟩ ⟨hi,hwv,hro⟩
    simp only at hi hwv hro
    dsimp only
    refine cQ (sV (v_lss Z Z) (sN (nT (cS (cC Z (fun hd=>?_) (fun hd=>?_))))))
    ·have hlt:i<az.length:=by simpa using hd
     have hmem:=List.getElem_mem hlt
     obtain ⟨b,o,cap2,us,e1,hus,hrd,hta⟩:=hy.at (List.getElem?_eq_getElem hlt)
     cases e1
     have hsn:=hsn i hlt
     generalize az[i]=a at hmem hta hsn
     have hone:=hta.ones
     obtain ⟨y,rfl,hya⟩:=hta.out
     have hca:=hF a hmem y hya
     obtain ⟨ya,yc,rfl,_⟩:=id hya.form
     unfold tyC at hrd hone hca
     have hrl:rows.length=i:=by rw [hro.1]; simp; omega
     refine cK (xT (cS (cB (cQ (sV (vI (k:=i) Z Z sl23 Z hlt Z) (sV (v_ldn Z ld25 Z hrd) ?_))))))
     refine st_alc al25 fun b10=>?_
     refine st_stoW Z Z sz25 Z hone ?_
     refine sK [3,4,5,8,10,52,53,54] Z (cR (sM Z (sV (vY Z ld76) ?_)))
     refine sV (v_ldn Z ld25 Z rds_pt) ?_
     refine st_cl Z Z en61 Z (hca) ?_
     rintro u h' ⟨T2,rfl,us2,rfl,hT2⟩
     simp only [lC,lN]
     obtain ⟨y2,rfl,hy2⟩:=id hT2.out
     obtain ⟨za,zc,rfl,_⟩:=id hy2.form
     refine st_buildSlice (cells:=tyC (a.subst F A) (.slice za (a.subst F A).args.length zc)) rfl Tryz.underlying23 inf25 rfl rfl (by kernel_rfl) (ltn rfl) fun b62=>?_
     refine st_app [tyC (a.subst F A) (.slice za (a.subst F A).args.length zc)] rfl rfl Tryz.underlying23 inf25 rfl (by decide) (show Sel _ (VR wv 25 5 rows) _ from slq) (by simp [tyC]) rfl (fun j u2 hu2=>at_here (rd_cl (by simpa [tyC] using hu2))) (by simp [tyC,Value.oneCell']) (by rw [hrl]; omega) (by rw [hrl]; omega) (ltn rfl) fun w2 hw2 _=>?_
     refine sA Z (sN (nK [3,4,5,8,52,53,54] Z (nx_xt (xB (xT (cR (sV (v_add Z Z (by unfold I64 at *; omega)) (sM Z (sN (nK [3,4,5,8,52,53,54] Z (nx_xt (xt_pv (pv_pack (L:=[T,T2])) ?_))))))))))))
     simp only [lC,lN]
     refine xt_aq (w2,rows++[tyC (a.subst F A) (.slice za (a.subst F A).args.length zc)],Res.star [T,T2],i+1) ⟨hlt,hw2,by rw [hsn]; exact (hro.mono fun p u h=>rd_up p u .here h).snoc (hT2.mono fun p u h=>rd_up p u (.there .here) h)⟩ (Nat.sub_lt_sub_left hlt (Nat.lt_succ_self i))
    ·have hil:i=az.length:=by
      have:¬ i<az.length:=by simpa using hd
      omega
     subst hil
     rw [List.take_length] at hro
     refine cd_exit (xE (xE (xY (xT (cQ (sM Z (sV (vF Z fa25_2 Z) (st_sto Z Z sz23 ?_))))))))
     refine sK [4,5] Z (cQ (st_ok (r:=VR wv 25 5 rows) slq fun hok=>?_))
     refine st_pv (pv_pack (L:=[VR wv 25 5 rows,T])) ?_
     simp only [lC,lN]
     have hty:Tys (Res.star [Res.star [VR wv 25 5 rows,T],S]) wv (az.map (Kt.subst F A)):=(hro.mono fun p u h=>rd_up p u (.there .here) h).tys hok (fun p u h=>rd_in .here p u (rd_in .here p u h)) (by simpa using hbb)
     obtain ⟨wa,wc,rfl,_⟩:=id hty.form
     refine sV (v_ldn Z ld25 Z rds_pt) ?_
     refine st_stoW Z Z sz25 Z Z ?_
     refine sK [5] Z (cT (xW (xR ?_)))
     exact xt_retV (.cellN rfl ld25 rfl slq .nil) ⟨Res.star [VR (.slice wa (az.map (Kt.subst F A)).length wc) 25 5 rows,T],rfl,tyC (.mk 3 n (az.map (Kt.subst F A)) w z) (.slice wa (az.map (Kt.subst F A)).length wc),rfl,Ty.of (t:=.mk 3 n (az.map (Kt.subst F A)) w z) rfl hty⟩ sbr
   ·rw [subst_other h4 h3]
    have q4:(k == 4)=false:=beq_eq_false_iff_ne.2 h4
    have q3:(k == 3)=false:=beq_eq_false_iff_ne.2 h3
    refine ct_of (n:=73) Tryz.func61 Z Z (len Z) fun hr w0=>?_
    refine cQ (st_bx Z Z fun b4=>?_)
    refine st_alc al25 fun b5=>?_
    refine sK [1,2,3,4,5] Z (cS (cQ (sV (vF Z fa25_0 Z) (sV (vY Z ld3) ?_))))
    refine sK [1,2,3,4,5,12] Z (cB (cQ (sV (v_eql Z Z) (sA Z (sK [1,2,3,4,5,12,13] Z ?_)))))
    rw [q4]
    refine cd_false Z ?_
    refine cQ (sV (v_eql Z Z) (sA Z (sK [3,4,5,49] Z ?_)))
    rw [q3]
    refine cd_false Z ?_
    refine cK (xB (xT (cQ (sV (vF Z fa25_2 Z) (sV (vY Z ld23) ?_)))))
    refine st_cl Z Z en64 Z (clone64_ct hy) ?_
    rintro u h' ⟨T,rfl,ca,cc,rfl,hT⟩
    simp only [lC,lN]
    refine sV (vF Z fa25_2 Z) (st_sto Z Z sz23 ?_)
    refine sK [4,5] Z (cQ (sV (v_ldn Z ld25 Z rds_pt) ?_))
    refine st_stoW Z Z sz25 Z Z ?_
    refine sK [5] Z (cT ?_)
    exact xt_retV (.cellN Z ld25 Z slq .nil) ⟨T,Z,_,Z,Ty.of (t:=.mk k n az w z) Z hT⟩ sbr
set_option maxRecDepth 100000 in
theorem subst_ct {fv av:Value} (hf:Row S 2 fmC fv F) (hA:Tys S av A) {us:List Value} (hu:Ty S us t) :
  CtN Tryz.prog 29 #[fv,av,.agg us.toArray] [S] fun u T=>∃ us:List Value,u = .agg us.toArray∧Ty (Res.star [T,S]) us (t.subst F A):=by
 obtain ⟨fa,fcap,rfl,_⟩:=id hf
 obtain ⟨aa,acap,rfl,_⟩:=id hA.form
 obtain ⟨y,rfl,hy⟩:=hu.out
 have h1:=fun p3 p4 p7=>sub61_ct hf hA (p3:=p3) (p4:=p4) (p7:=p7) t.depth t y (Nat.le_refl _) hy
 obtain ⟨ya,yc,rfl,_⟩:=id hy.form
 unfold tyC at h1 ⊢
 refine ct_of (n:=12) Tryz.func29 Z Z (len Z) fun hr w0=>?_
 refine cQ (st_bx Z Z fun b3=>?_)
 refine st_bx Z Z fun b4=>?_
 refine st_bx Z Z fun b5=>?_
 refine st_alc al25 fun b6=>?_
 refine sK [3,4,5,6] Z (cQ (st_alc al76 fun b7=>?_))
 refine sN (nT (cQ (sV (v_makeFunc Z Z) (st_sto Z Z sz76 ?_))))
 refine sK [5,6,7] Z (cQ (sV (vY Z ld76) ?_))
 refine sV (v_ldn Z ld25 Z rds_pt) ?_
 refine st_cl Z Z en61 Z (h1 b3 b4 b7) ?_
 rintro u h' ⟨T,rfl,us,rfl,hT⟩
 simp only [lC,lN]
 obtain ⟨z,rfl,hz⟩:=id hT.out
 obtain ⟨za,zc,rfl,_⟩:=id hz.form
 refine st_stoW Z Z sz25 Z Z ?_
 refine sK [6] Z (cT ?_)
 exact xt_retV (.cellN Z ld25 Z slq .nil) ⟨T,Z,_,Z,hT⟩ sbr
end
end Go.Hr
namespace Go.Ck
open Go Go.RowKit
def MIn (R:Res) (b:Nat) (m:List (Bs×Value)):Prop:=∀ f,R.ok f→(mps b m).ok f
theorem MIn.self {b:Nat} {m:List (Bs×Value)}:MIn (mps b m) b m:=fun _ h=>h
theorem MIn.star {k k':SH} {r:Res} {b:Nat} {m:List (Bs×Value)} (s:Sel k r k') (h:MIn r b m):MIn (Res.star k) b m:=fun f hf=>h f ((HoldsF.perm (f:=f) s.perm).1 hf).1
section
variable {P:Program} {e:Env} {h h':SH} {ty:TypeId}
theorem v_slookupI {T K E:TypeId} {x y:Operand} {b:Nat} {m:List (Bs×Value)} {k:Bs} {z:Value} {sz bytes:Nat} {R:Res} (hx:e.ev? x=some (.map (some b))) (hy:e.ev? y=some (sv k)) (hT:MpS P T K E) (hE:Inf P E z sz bytes) (hin:MIn R b m) (hs:Sel h R h') :
  Vop P e h (.lookup T x y false) ty ((slook m k).getD z):=
 ⟨by simp,by simp,fun ρ w d pos after g hρ hh=>by
  simp [execOp,hρ x _ hx,hρ y _ hy,run_lookupS hT hE (hin _ (hh.sel hs).1) k false]⟩
end
theorem rd_turn {Y T S:Res} (p:Addr) (u:Value) (h:Rd (Res.star [Y,Res.star [T,S]]) p u):Rd (Res.star [Res.star [T,Y],S]) p u:=rd_ok (fun f hf=>by
 have h1:HoldsF f ([T,Y]++[S]):=star_iff.1 hf
 have h2:HoldsF f ([T,S]++[Y]):=(HoldsF.perm (List.Perm.cons _ (List.Perm.swap _ _ _))).1 h1
 exact (HoldsF.perm (List.Perm.swap _ _ _)).1 (star_iff.2 h2)) p u h
end Go.Ck
namespace Go.Hr
open Go Go.RowKit Go.Ck
section
variable {F:List Fm} {A:List Kt} {K:Nat}
theorem flag_parts {t:Kt} {v s:Bool}:(t.flag v s).parts=t.parts:=by cases t; rfl
mutual
theorem subst_parts (hA : ∀ a ∈ A, a.parts ≤ K) (hK : 1 ≤ K) : ∀ (t : Kt), (t.subst F A).parts ≤ t.parts * K
  | .mk k n az v s => by
    by_cases h4:k=4
    · subst h4
      rw [subst_formal]
      cases h:actOf F A n with
      | none=>exact Nat.le_mul_of_pos_right _ hK
      | some a =>
        simp only [flag_parts]
        obtain ⟨j,_,hj⟩:∃ j,fidx F n=some j∧A[j]? = some a:=act_at h
        have h1:=hA a (List.mem_of_getElem? hj)
        have h2:1≤(Kt.mk 4 n az v s).parts:=by simp [Kt.parts]
        calc a.parts≤K:=h1
          _=1 * K:=(Nat.one_mul K).symm
          _≤_:=Nat.mul_le_mul_right K h2
    · by_cases h3 : k = 3
      · subst h3
        rw [Kt.subst,if_neg (by decide),if_pos rfl]
        have h1:=substs_parts hA hK az
        simp only [Kt.parts]
        rw [Nat.add_mul]
        omega
      · rw [subst_other h4 h3]
        exact Nat.le_mul_of_pos_right _ hK
theorem substs_parts (hA:∀ a∈A,a.parts≤K) (hK:1≤K):∀ (l:List Kt),partss (substs F A l)≤partss l * K
 | []=>by simp [substs,partss]
 | a::t=>by
  rw [substs]
  simp only [partss]
  have h1:=subst_parts hA hK a
  have h2:=substs_parts hA hK t
  rw [Nat.add_mul]
  omega
end
end
/-! ## Tables in maps -/
def OwnR (R:Res) (mm:List (Bs×Value)) (o:Own):Prop:=∀ a,(o a=none→slook mm a=none)∧∀ ts,o a=some ts→∃ v,slook mm a=some v∧Tys R v ts
section
variable {R R' S T T':Res} {mm M:List (Bs×Value)} {o:Own} {all:List (Nm×Own)} {a c:Nm} {ts:List Kt} {v:Value} {l:KS}
theorem OwnR.mono (hr:∀ p u,Rd R p u→Rd R' p u) (h:OwnR R mm o):OwnR R' mm o:=fun a=>⟨(h a).1,fun ts ht=>let ⟨v,h1,h2⟩:=(h a).2 ts ht; ⟨v,h1,h2.mono hr⟩⟩
theorem OwnR.nil:OwnR R [] (fun _=>none):=fun _=>⟨fun _=>rfl,fun _ h=>by cases h⟩
theorem OwnR.upd (h:OwnR R mm o) (hv:Tys R v ts):OwnR R (supd mm a v) (oupd o a ts):=fun b=>by
 rw [slook_upd]
 unfold oupd
 by_cases hb:b=a
 ·subst hb
  rw [if_pos rfl,if_pos rfl]
  exact ⟨(fun h=>by cases h),fun ts' h=>by cases h; exact ⟨v,rfl,hv⟩⟩
 ·rw [if_neg hb,if_neg hb]; exact h b
theorem OwnR.get (h:OwnR R mm o) (a:Nm):∃ v,(slook mm a).getD (.slice none 0 0)=v∧Tys R v ((o a).getD []):=by
 cases ho:o a with
 | none=>rw [(h a).1 ho]; exact ⟨_,rfl,Tys.nil⟩
 | some ts=>obtain ⟨v,h1,h2⟩:=(h a).2 ts ho; rw [h1]; exact ⟨_,rfl,h2⟩
theorem OwnR.get2 (h:OwnR R mm o) (a:Nm):∃ v,Value.tuple #[(slook mm a).getD (.slice none 0 0),.bool (slook mm a).isSome] = .tuple #[v,.bool (o a).isSome]∧Tys R v ((o a).getD []):=by
 cases ho:o a with
 | none=>rw [(h a).1 ho]; exact ⟨_,rfl,Tys.nil⟩
 | some ts=>obtain ⟨v,h1,h2⟩:=(h a).2 ts ho; rw [h1]; exact ⟨_,rfl,h2⟩
def TabR (S T:Res) (M:List (Bs×Value)) (all:List (Nm×Own)):Prop:=∀ c o,alook all c=some o→∃ b mm,slook M c=some (.map (some b))∧MIn T b mm∧OwnR (Res.star [T,S]) mm o
theorem TabR.nil:TabR S T [] []:=fun c o h=>by cases h
theorem TabR.mono (hm:∀ b mm,MIn T b mm→MIn T' b mm) (hr:∀ p u,Rd (Res.star [T,S]) p u→Rd (Res.star [T',S]) p u) (h:TabR S T M all):TabR S T' M all:=fun c o hc =>
 let ⟨b,mm,h1,h2,h3⟩:=h c o hc
 ⟨b,mm,h1,hm _ _ h2,h3.mono hr⟩
theorem TabR.up {L L':SH} (s:Sel L T L') (h:TabR S T M all):TabR S (Res.star L) M all:=h.mono (fun _ _ g=>g.star s) fun p u g=>rd_up p u s g
theorem TabR.snoc (h:TabR S T M all) (hc:c ∉ all.map (·.1)) {b:Nat} (hb:MIn T b mm) (ho:OwnR (Res.star [T,S]) mm o):TabR S T (supd M c (.map (some b))) (all++[(c,o)]):=fun d o' hd=>by
 rw [alook_append] at hd
 rw [slook_upd]
 by_cases hdc:d=c
 ·subst hdc
  rw [alook_none.2 hc,Option.none_or] at hd
  have:o'=o:=by simpa [alook] using hd.symm
  subst this
  rw [if_pos rfl]
  exact ⟨b,mm,Z,hb,ho⟩
 ·rw [if_neg hdc]
  have hcd:¬ c=d:=fun e=>hdc e.symm
  have:alook [(c,o)] d=none:=by rw [alook_cons,if_neg hcd]; rfl
  rw [this,Option.or_none] at hd
  exact h d o' hd
end
end Go.Hr
namespace Go.Hr
open Go Go.RowKit Go.Ck Go.Proofs Go.Proofs.YtaohbfnepjjdgaaGreat Fx
attribute [local irreducible] Go.Ck.Sub St Cd Xt Nx DrL LsW
section
variable {S T N R:Res} {v:Value} {F:List Fm} {A:List Kt} {l:KS} {m:List (Bs×Value)} {mb:Nat} {s t:Kt} {va:Option Addr} {vc:Nat} {ts:List Kt} {rows:List (List Value)}
def tabsE {α : Type}:Except (Int×Nm) α → Int×Nm
 | .ok _=>(0,[])
 | .error q=>q
def Sm (o:Own):Prop:=∀ a ts,o a=some ts→partss ts≤400
theorem Sm.upd {o:Own} (h:Sm o) {a:Nm} (hs:partss ts≤400):Sm (oupd o a ts):=fun b ts' hb=>by
 unfold oupd at hb
 split at hb
 ·cases hb; exact hs
 ·exact h b ts' hb
theorem ownT_parts:∀ (F:List Fm),partss (ownT F)=F.length
 | []=>rfl
 | f::F=>by
  show partss (_::ownT F)=_
  rw [partss,ownT_parts F]
  simp [Kt.parts,partss]; omega
theorem Sm.own0 {x:KC} (h:x.formals.length≤3):Sm (own0 x):=fun a ts ha=>by
 unfold Hr.own0 oupd at ha
 split at ha
 ·cases ha; rw [ownT_parts]; omega
 ·cases ha
def stepE (o:Own) (a:Nm) (seen:List Kt):Int:=firstE [if decide ((partss seen:Int)≤400)=true then 0 else 3,if (!(o a).isSome || sames ((o a).getD []) seen)=true then 0 else 10]
theorem ownGo_step {all : List (Nm × Own)} {p : Kp} {a : Nm} {t : List (Kp × Nm)} {o : Own} : ownGo l all ((p, a) :: t) o = if stepE o a (seenT l all p a) ≠ 0 then .error (stepE o a (seenT l all p a)) else ownGo l all t (oupd o a (seenT l all p a)) := by
 rw [ownGo]
 unfold stepE firstE firstE firstE clash
 generalize seenT l all p a=seen
 by_cases h1:400<partss seen
 ·have:¬ (partss seen:Int)≤400:=by omega
  simp [h1,this]
 ·have : (partss seen : Int) ≤ 400 := by omega
  rw [if_neg h1]
  cases ho:o a with
  | none=>simp [this]
  | some was =>
   by_cases hw:was=seen
   ·have:=(sames_iff was seen).2 hw
    simp_all
   ·have h2:sames was seen=false:=by
     rw [← Bool.not_eq_true]; exact fun e=>hw ((sames_iff was seen).1 e)
    simp_all
theorem stepE_zero {o:Own} {a:Nm} {seen:List Kt} (h:stepE o a seen=0):partss seen≤400:=by
 unfold stepE at h
 have:=firstE_zero.1 h _ (by simp; exact .inl rfl)
 by_cases h1:(partss seen:Int)≤400
 ·omega
 ·simp [h1] at this
def prs (l:KS) (ps:List Kp):List (Kp×Nm):=ps.flatMap fun p=>(above (ksys l) p.name).map fun a=>(p,a)
theorem seenT_parts {all : List (Nm × Own)} {p : Kp} {a : Nm} (hA : ∀ c o, alook all c = some o → Sm o) (hp : ∀ a ∈ p.args, a.parts ≤ 200) : partss (seenT l all p a) ≤ 80000 := by
 unfold seenT
 rw [← substs_map]
 have h1:=substs_parts (F:=fmsOf l p.name) hp (by decide:1≤200) (((alook all p.name).bind (· a)).getD [])
 have h2:partss (((alook all p.name).bind (· a)).getD [])≤400:=by
  cases h:alook all p.name with
  | none=>simp [partss]
  | some o =>
   rw [Option.bind_some]
   cases ho:o a with
   | none=>simp [partss]
   | some ts=>exact hA _ _ h _ _ ho
 have h3:=Nat.mul_le_mul_right 200 h2
 omega
end
end Go.Hr
