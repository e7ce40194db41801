/-
  Package kind: the map of a system; formals by their names; class types. Conditions: what is read.
  Package kind and its reference: class types; formals and classes by their names. Conditions: what is read.
  Package kind: is,actual,inner. Conditions: what is read; right headers.
  Package kind: the inner error of a type. Conditions: what is read; right headers.
  Package kind: the error of a type,the map of a system,the first error,names of classes. Conditions: what is read.
-/
import Derived.Test.YtaohbfnepjjdgaaGreatM11
import Derived.Test.YtaohbfnepjjdgaaGreatM9
set_option linter.unusedVariables false
set_option linter.unusedSimpArgs false
namespace Go.Ck
open Go Go.RowKit
theorem v_field1 {P:Program} {e:Env} {h:SH} {ty T:TypeId} {x:Operand} {cs:List Value} {fs:Array Field} {k:Nat} {f:Field} {u:Value} (hx:e.ev? x=some (.agg cs.toArray)) (hT:P.underlying T=some (.struct fs)) (hf:fs[k]? = some f) (hA:∀ w,(isAgg f.type).run P w = .ok false w) (hu:cs[f.offset]? = some u):Vop P e h (.field T x k) ty u :=
 ⟨by simp,by simp,fun ρ w d pos after g hρ _=>by
  simp only [execOp,hρ x _ hx,Instr.field,Sem.run_bind,run_underlying hT,Result.andThen_ok,hf,part,asAgg,Sem.run_pure,hA]
  simp [hu]⟩
end Go.Ck
namespace Go.Hr
open Go Go.RowKit Go.Ck Go.Proofs Go.Proofs.YtaohbfnepjjdgaaGreat Fx
attribute [local irreducible] Go.Ck.Sub St Cd Xt Nx DrL LsW
def ixD (o:Option Nat):Int:=match o with | some i=>i | none => -1
def KMap (S:Res) (m:List (Bs×Value)) (l:KS):Prop:=∀ c,(kfind l c=none→slook m c=none)∧∀ x,kfind l c=some x→∃ us,slook m c=some (.agg us.toArray)∧kclsC S us x
def fmA (f:Fm):List Value:=[sv f.name,sv f.bound]
def fm0:Fm:=⟨[],[]⟩
def fmAt (F:List Fm) (n:Nm):Option Fm:=(fidx F n).bind (F[·]?)
section
variable {S N:Res} {v:Value} {F:List Fm} {kf:FuncId} {cp:Array Value} {g:Fm→Bool} {l:KS} {m:List (Bs×Value)} {mb:Nat} {t:Kt}
theorem KMap.mono {T:Res} (hr:∀ p u,Rd S p u→Rd T p u) (h:KMap S m l):KMap T m l:=fun c=>⟨(h c).1,fun x hx=>let ⟨us,h1,h2⟩:=(h c).2 x hx; ⟨us,h1,h2.mono hr⟩⟩
theorem fm_at (hv:Row S 2 fmC v F) {i:Nat} {f:Fm} (hi:F[i]? = some f):∃ b o cap,v = .slice (some ⟨b,o,none⟩) F.length cap∧Rds S b (o+i * 2) (fmA f):=by
 obtain ⟨b,o,cap,us,h1,_,h3,h4⟩:=Row.at hv hi
 exact ⟨b,o,cap,h1,by rw [← show us=fmA f from h4]; exact h3⟩
set_option maxRecDepth 100000 in
theorem IdxF_ct (hv : Row S 2 fmC v F) (hE : Ck.Enters Tryz.prog kf) (hf : ∀ f ∈ F, Reads Tryz.prog kf (#[] ++ [.agg (fmA f).toArray].toArray ++ cp) [N] (.bool (g f))) : Reads Tryz.prog 62 #[v, .func (.func kf) #[] cp] [S, N] (.int .i64 (ixD (F.findIdx? g))) := by
 have hml:maxLen=9223372036854775807:=rfl
 obtain ⟨a,cap,rfl,hlc,hcm,_⟩:=id hv
 refine ct_of (n:=19) Tryz.func62 Z Z (len Z) fun hr w0=>?_
 refine cQ (sA Z (sN (nT (cS (cQ (sM Z (sV (v_len Z Tryz.underlying48) (sM Z (sK [0,1,4,7,8] Z (cB (cd_lq (σ := Nat) (fun i=>[(0,.slice a F.length cap),(1,.func (.func kf) #[] cp),(7,.int .i64 F.length),(8,.int .i64 (i:Nat))]) (fun _=>S::N::hr) (fun i=>i≤F.length∧∀ j (hj:j<F.length),j<i→g F[j]=false) (fun i=>F.length - i) 0 ⟨Nat.zero_le _,fun j _ hj=>absurd hj (Nat.not_lt_zero _)⟩ ?_)))))))))))
 rintro i ⟨hi,hal⟩
 refine cQ (sV (v_lss Z Z) (sN (nT (cS (cC Z (fun hd=>?_) (fun hd=>?_))))))
 ·have hlt:i<F.length:=by simpa using hd
  obtain ⟨b,o,cap2,e1,hrd⟩:=fm_at hv (List.getElem?_eq_getElem hlt)
  cases e1
  have hfx:=hf F[i] (List.getElem_mem hlt)
  unfold fmA at hrd hfx
  refine cK (xT (cS (cB (cQ (sM Z (sA Z (sK [0,1,5,7,8] Z (cQ (sM Z (sM Z (sM Z ?_)))))))))))
  refine sV (vI (k:=i) Z Z sl48 Z hlt Z) (sV (v_ldn Z ld94 Z hrd) ?_)
  refine st_clr Z Z hE Z (hfx) ?_
  refine sK [0,1,5,7,8,16] Z (cC Z (fun he=>?_) (fun he=>?_))
  ·have he:g F[i]=true:=he
   rw [show F.findIdx? g=some i by
    rw [List.findIdx?_eq_some_iff_getElem]
    exact ⟨hlt,he,fun j hj=>by rw [hal j (by omega) hj]; decide⟩]
   refine cQ (sM Z (sA Z (sK [4] Z (cT (xW (xR (xR (xW (xR ?_)))))))))
   exact xt_rt Z ⟨Z,Z⟩ sbq
  ·have he:g F[i]=false:=he
   refine cK (xB (xT (cR (sV (v_add Z Z (by unfold I64 at *; omega)) (sM Z (sN (nK [0,1,7,8] Z (nx_xt (xt_aq (i+1) ⟨hlt,fun j hj hj2=>?_⟩ (Nat.sub_lt_sub_left hlt (Nat.lt_succ_self i)))))))))))
   by_cases hji:j=i
   ·subst hji; exact he
   ·exact hal j hj (by omega)
 ·have hil:i=F.length:=by
   have:¬ i<F.length:=by simpa using hd
   omega
  rw [show F.findIdx? g=none by
   rw [List.findIdx?_eq_none_iff]
   intro f hfm
   obtain ⟨j,hj,rfl⟩:=List.getElem_of_mem hfm
   exact hal j hj (by omega)]
  refine cd_exit (xE (xE (xY (xT (cQ (sA Z (sK [4] Z (cT ?_))))))))
  exact xt_rt Z ⟨Z,Z⟩ sbq
set_option maxRecDepth 100000 in
theorem tell108_ct {f:Fm} {b:Nat} {n:Nm}:Reads Tryz.prog 108 #[.agg (fmA f).toArray,.pointer (some ⟨b,0,none⟩)] [pt b (cl [sv n] 9)] (.bool (f.name == n)):=by
 unfold fmA
 refine ct_of (n:=8) Tryz.func108 Z Z (len Z) fun hr w0=>?_
 refine cQ (st_bx Z Z fun b2=>?_)
 refine sA Z (sK [1,2,3] Z (cQ (sV (vF Z fa94_0 Z) (sV (vY Z ld9) ?_))))
 refine sV (vY Z ld9) ?_
 refine sV (v_seql Z Z) (sA Z (sK [3] Z (cT ?_)))
 exact xt_rt Z ⟨Z,Z⟩ sbq
set_option maxRecDepth 100000 in
theorem tell63_ct {f:Fm} {b:Nat} {x:Value}:Reads Tryz.prog 63 #[.agg (fmA f).toArray,.pointer (some ⟨b,0,none⟩)] [pt b (cl (tyC t x) 25)] (.bool (f.name == t.name)):=by
 unfold fmA tyC
 refine ct_of (n:=9) Tryz.func63 Z Z (len Z) fun hr w0=>?_
 refine cQ (st_bx Z Z fun b2=>?_)
 refine sA Z (sK [1,2,3] Z (cQ (sV (vF Z fa94_0 Z) (sV (vY Z ld9) ?_))))
 refine sV (vF Z fa25_1 Z) (sV (vY Z ld9) ?_)
 refine sV (v_seql Z Z) (sA Z (sK [3] Z (cT ?_)))
 exact xt_rt Z ⟨Z,Z⟩ sbq
set_option maxRecDepth 100000 in
theorem tell134_ct {f g:Fm} {b:Nat}:Reads Tryz.prog 134 #[.agg (fmA g).toArray,.pointer (some ⟨b,0,none⟩)] [pt b (cl (fmA f) 94)] (.bool (g.name == f.name)):=by
 unfold fmA
 refine ct_of (n:=9) Tryz.func134 Z Z (len Z) fun hr w0=>?_
 refine cQ (st_bx Z Z fun b2=>?_)
 refine sA Z (sK [1,2,3] Z (cQ (sV (vF Z fa94_0 Z) (sV (vY Z ld9) ?_))))
 refine sV (vF Z fa94_0 Z) (sV (vY Z ld9) ?_)
 refine sV (v_seql Z Z) (sA Z (sK [3] Z (cT ?_)))
 exact xt_rt Z ⟨Z,Z⟩ sbq
def cls0:Value:=.agg #[.string ⟨#[]⟩,.bool false,.slice none 0 0,.slice none 0 0,.slice none 0 0,.slice none 0 0,.slice none 0 0]
theorem map_cls (hM:KMap S m l) (c:Nm):∃ d0 d f pv c2 fs i,(slook m c).getD cls0 = .agg ([d0,d,f,pv,c2,fs,i]:List Value).toArray∧Row S 2 fmC f (fmsOf l c):=by
 cases hk:kfind l c with
 | none =>
  rw [(hM c).1 hk]
  exact ⟨_,_,_,_,_,_,_,Z,by unfold fmsOf; rw [hk]; exact Row.nil⟩
 | some x =>
  obtain ⟨us,h1,d,f,pv,c2,fa,fc,i,rfl,_,h2,_⟩:=(hM c).2 x hk
  rw [h1]
  exact ⟨_,_,_,_,_,_,_,Z,by rw [fmsOf_some hk]; exact h2⟩
theorem fidx_at {n:Nm} {i:Nat} (h:fidx F n=some i):∃ hi:i<F.length,fmAt F n=some F[i]:=by
 have hi:=(List.findIdx?_eq_some_iff_getElem.1 h).1
 exact ⟨hi,by unfold fmAt; rw [h,Option.bind_some,List.getElem?_eq_getElem hi]⟩
theorem fmAt_none {n:Nm} (h:fidx F n=none):fmAt F n=none:=by unfold fmAt; rw [h]; rfl
set_option maxRecDepth 100000 in
theorem formal_ct (hM:KMap S m l) (c n:Nm):Reads Tryz.prog 65 #[.map (some mb),sv c,sv n] [mps mb m,S] (.tuple #[.agg (fmA ((fmAt (fmsOf l c) n).getD fm0)).toArray,.bool (fmAt (fmsOf l c) n).isSome]):=by
 obtain ⟨d0,d,f,pv,c2,fs,i,hlk,hrow⟩:=map_cls hM c
 obtain ⟨fa,fcap,rfl,_⟩:=id hrow
 unfold fmA fm0
 refine ct_of (n:=24) Tryz.func65 Z Z (len Z) fun hr w0=>?_
 refine cQ (st_bx Z Z fun b5=>?_)
 refine st_alc al94 fun b6=>?_
 refine sA Z (sK [0,1,5,6,7] Z (cQ (sM Z (sM Z (sV (v_is hlk (v_slookup Z Z mp83 inf54 slq)) ?_)))))
 refine sV (v_field1 Z Tryz.underlying54 Z (fun w=>by simp [isAgg,run_underlying Tryz.underlying48]) Z) ?_
 refine sA Z (sK [5,6,7,8] Z (cQ (sM Z (sV (v_makeFunc Z Z) (st_clr Z Z en62 Z (IdxF_ct (N:=pt b5 (cl [sv n] 9)) (g:=fun f=>f.name == n) hrow en108 (fun f _=>tell108_ct)) ?_)))))
 refine sA Z (sK [6,7,8,9] Z (cS (cQ (sM Z (sV (v_lss Z Z) (sK [6,7,8,9,18] Z ?_))))))
 cases hfi:fidx (fmsOf l c) n with
 | none =>
  rw [fmAt_none hfi,show List.findIdx? (fun f=>f.name == n) (fmsOf l c)=none from hfi]
  refine cd_true Z ?_
  refine cQ (sV (v_build (cells:=[sv [],sv []]) Z (fun _=>by kernel_rfl)) ?_)
  refine st_stoW Z Z sz94 Z Z ?_
  refine sA Z (sK [6,7] Z (cT (xR ?_)))
  exact xt_retV (.cellN Z ld94 Z slq (.tmp Z .nil)) ⟨Z,Z⟩ sbr
 | some j =>
  obtain ⟨hj,hat⟩:=fidx_at hfi
  rw [hat,show List.findIdx? (fun f=>f.name == n) (fmsOf l c)=some j from hfi]
  obtain ⟨b,o,cap2,e1,hrd⟩:=fm_at hrow (List.getElem?_eq_getElem hj)
  cases e1
  unfold fmA at hrd
  rw [show decide (ixD (some j)<0)=false from decide_eq_false (by show ¬ ((j:Int)<0); omega)]
  refine cd_false Z ?_
  refine cK (xT (cQ (sM Z (sM Z (sV (vI (k:=j) Z Z sl48 Z hj Z) (sV (v_ldn Z ld94 Z hrd) ?_))))))
  refine st_stoW Z Z sz94 Z Z ?_
  refine sA Z (sK [6,7] Z (cT ?_))
  exact xt_retV (.cellN Z ld94 Z slq (.tmp Z .nil)) ⟨Z,Z⟩ sbr
end
end Go.Hr
namespace Go.Hr
open Go Go.RowKit Go.Ck Go.Proofs Go.Proofs.YtaohbfnepjjdgaaGreat Fx
attribute [local irreducible] Go.Ck.Sub St Cd Xt Nx DrL LsW
def ctK (F:List Fm) (t:Kt):Kt:=if t.kind=3 then t else if t.kind=4 then .mk 3 ((fmAt F t.name).getD fm0).bound [] t.void t.sep else .mk 0 [] [] false false
def ctV (t:Kt) (x:Value):Value:=if t.kind=3 then x else .slice none 0 0
def ctB (F:List Fm) (t:Kt):Bool:=t.kind == 3 || (t.kind == 4 && (fmAt F t.name).isSome)
section
variable {S N:Res} {v:Value} {F:List Fm} {l:KS} {m:List (Bs×Value)} {mb:Nat} {t:Kt}
theorem boundOf_fm {n:Nm}:boundOf F n=((fmAt F n).getD fm0).bound:=by
 unfold boundOf fmAt
 cases (fidx F n).bind (F[·]?) <;> rfl
theorem ctK_name:t.kind=3∨t.kind=4→(ctK F t).name=ctName F t∧(ctK F t).args=ctArgs t∧(ctK F t).kind=3:=fun h=>by
 unfold ctK ctName ctArgs
 rcases h with h | h
 ·rw [if_pos h,if_neg (by omega),if_neg (by omega)]; exact ⟨rfl,rfl,h⟩
 ·rw [if_neg (by omega),if_pos h,if_pos h,if_pos h,boundOf_fm]; exact ⟨rfl,rfl,rfl⟩
theorem ctK_ty {x:Value} (hx:Tys S x t.args):Ty S (tyC (ctK F t) (ctV t x)) (ctK F t):=by
 unfold ctK ctV
 by_cases h3:t.kind=3
 ·rw [if_pos h3,if_pos h3]; exact Ty.of rfl hx
 ·rw [if_neg h3,if_neg h3]
  by_cases h4:t.kind=4
  ·rw [if_pos h4]; exact Ty.of rfl Tys.nil
  ·rw [if_neg h4]; exact Ty.of rfl Tys.nil
set_option maxRecDepth 100000 in
theorem classType_ct (hM : KMap S m l) (c : Nm) {va : Option Addr} {vn vc : Nat} {xa : Option Addr} {xn xc : Nat} : Reads Tryz.prog 76 #[.agg #[.map (some mb), .slice va vn vc], sv c, .agg (tyC t (.slice xa xn xc)).toArray] [mps mb m, S] (.tuple #[.agg (tyC (ctK (fmsOf l c) t) (ctV t (.slice xa xn xc))).toArray, .bool (ctB (fmsOf l c) t)]) := by
 by_cases h3:t.kind=3
 ·rw [show ctK (fmsOf l c) t=t from if_pos h3,show ctV t (.slice xa xn xc) = .slice xa xn xc from if_pos h3,show ctB (fmsOf l c) t=true by unfold ctB; rw [h3]; rfl]
  unfold tyC
  rw [h3]
  refine ct_of (n:=33) Tryz.func76 Z Z (len Z) fun hr w0=>?_
  refine cQ (st_bx Z Z fun b3=>?_)
  refine st_bx Z Z fun b5=>?_
  refine st_alc al25 fun b6=>?_
  refine sA Z (sK [1,3,5,6,7] Z (cS (cQ (sV (vF Z fa25_0 Z) (sV (vY Z ld3) ?_)))))
  refine sK [1,3,5,6,7,11] Z (cB (cQ (sV (v_eql Z Z) (sA Z (sK [1,3,5,6,7,11,12] Z (cd_true Z ?_))))))
  refine cQ (sV (v_ldn Z ld25 Z rds_pt) ?_)
  refine st_stoW Z Z sz25 Z Z ?_
  refine sA Z (sK [6,7] Z (cT (xW (xR ?_))))
  exact xt_retV (.cellN Z ld25 Z slq (.tmp Z .nil)) ⟨Z,Z⟩ sbr
 ·by_cases h4:t.kind=4
  ·rw [show ctK (fmsOf l c) t = .mk 3 ((fmAt (fmsOf l c) t.name).getD fm0).bound [] t.void t.sep by unfold ctK; rw [if_neg h3,if_pos h4],show ctV t (.slice xa xn xc) = .slice none 0 0 from if_neg h3,show ctB (fmsOf l c) t=(fmAt (fmsOf l c) t.name).isSome by unfold ctB; rw [h4]; rfl]
   unfold tyC
   rw [h4]
   refine ct_of (n:=33) Tryz.func76 Z Z (len Z) fun hr w0=>?_
   refine cQ (st_bx Z Z fun b3=>?_)
   refine st_bx Z Z fun b5=>?_
   refine st_alc al25 fun b6=>?_
   refine sA Z (sK [1,3,5,6,7] Z (cS (cQ (sV (vF Z fa25_0 Z) (sV (vY Z ld3) ?_)))))
   refine sK [1,3,5,6,7,11] Z (cB (cQ (sV (v_eql Z Z) (sA Z (sK [1,3,5,6,7,11,12] Z (cd_false Z ?_))))))
   refine cQ (sV (v_eql Z Z) (sA Z (sK [1,3,5,6,7,15] Z (cd_true Z ?_))))
   refine cQ (sV (vF Z fa85_0 Z) (sV (vY Z ld83) ?_))
   refine sM Z (sV (vF Z fa25_1 Z) (sV (vY Z ld9) ?_))
   refine st_clr Z Z en65 Z (formal_ct hM c t.name) ?_
   unfold fmA
   refine sM Z (sV (v_extract Z Z) (sV (v_extract Z Z) (st_alc al94 fun b8=>?_)))
   refine st_stoW Z Z sz94 Z Z ?_
   refine sA Z (sK [5,6,7,8,9] Z (cS (cd_drawh (ork [(0,2),(1,1),(2,1),(3,1),(4,1),(5,2),(6,0),(7,2)] .nil) (fun i => !(Nat.beq i 6)) mixed (by kernel_rfl) ?_)))
   refine dV Z (vF Z fa94_1 Z) (dr_v Z (vY Z ld9) ?_)
   refine dr_clr Z Z Z en106 Z (class_ct) ?_
   refine dr_v Z (v_ldn Z ld25 Z rds_pt) ?_
   refine dr_clr Z Z Z en105 Z (with_raw) ?_
   refine dV Z (vM Z) (dr_eff Z (st_stoW Z Z sz25 Z Z (dr_nx ?_)))
   refine dV Z (vA Z) (dr_nil (nK [6,7] Z (nT (cT (xW (xR ?_))))))
   exact xt_retV (.cellN Z ld25 Z slq (.tmp Z .nil)) ⟨Z,Z⟩ sbr
  ·rw [show ctK (fmsOf l c) t = .mk 0 [] [] false false by unfold ctK; rw [if_neg h3,if_neg h4],show ctV t (.slice xa xn xc) = .slice none 0 0 from if_neg h3,show ctB (fmsOf l c) t=false by unfold ctB; simp [h3,h4]]
   unfold tyC
   refine ct_of (n:=33) Tryz.func76 Z Z (len Z) fun hr w0=>?_
   refine cQ (st_bx Z Z fun b3=>?_)
   refine st_bx Z Z fun b5=>?_
   refine st_alc al25 fun b6=>?_
   refine sA Z (sK [1,3,5,6,7] Z (cS (cQ (sV (vF Z fa25_0 Z) (sV (vY Z ld3) ?_)))))
   refine sK [1,3,5,6,7,11] Z (cB (cQ (sV (v_eql Z Z) (sA Z (sK [1,3,5,6,7,11,12] Z ?_)))))
   rw [show (t.kind == 3)=false by simpa using h3]
   refine cd_false Z ?_
   refine cQ (sV (v_eql Z Z) (sA Z (sK [1,3,5,6,7,15] Z ?_)))
   rw [show (t.kind == 4)=false by simpa using h4]
   refine cd_false Z ?_
   refine cK (xB (xT (cQ (sV (v_build (cells:=[.int .i64 0,sv [],.slice none 0 0,.bool false,.bool false]) Z (fun _=>by kernel_rfl)) ?_))))
   refine st_stoW Z Z sz25 Z Z ?_
   refine sA Z (sK [6,7] Z (cT ?_))
   exact xt_retV (.cellN Z ld25 Z slq (.tmp Z .nil)) ⟨Z,Z⟩ sbr
/-! ## The reference -/
def kidx (l:KS) (c:Nm):Option Nat:=l.findIdx? fun x=>x.name == c
end
end Go.Hr
namespace Go.Hr
open Go Go.RowKit Go.Ck Go.Proofs Go.Proofs.YtaohbfnepjjdgaaGreat Fx
attribute [local irreducible] Go.Ck.Sub St Cd Xt Nx DrL LsW
def wV (mb:Nat) (va:Option Addr) (vn vc:Nat):Value:=.agg #[.map (some mb),.slice va vn vc]
section
variable {S N:Res} {v:Value} {F:List Fm} {l:KS} {m:List (Bs×Value)} {mb:Nat} {s t:Kt} {va:Option Addr} {vc:Nat}
def isU (l:KS) (c b:Nm):Bool:=(b == root || c == b) || (decide (rightE (ksys l) [c,b]=0) && has (ksys l) c b)
set_option maxRecDepth 100000 in
theorem is_ct (hv : ksysR S (.slice va l.length vc) l) (c b : Nm) : Reads Tryz.prog 162 #[wV mb va l.length vc, sv c, sv b] [S] (.bool (isU l c b)) := by
 have hs:sysR S (.slice va l.length vc) (ksys l):=hv.sys
 unfold wV isU
 refine ct_of (n:=29) Tryz.func162 Z Z (len Z) fun hr w0=>?_
 refine cQ (st_bx Z Z fun b3=>?_)
 refine sA Z (sK [1,2,3,6] Z (cS (cQ (sM Z (sV (v_seql Z Z) (sM Z (st_cut (k:=7) (d:=15) (v:=.bool (b == root || c == b)) (fun hcut=>bool_want (b:=(b == root)) false (fun hg=>?_) (fun hg=>?_)) ?_)))))))
 ·refine st_sk Z Z hg ?_
  iterate 2 refine st_sk rfl rfl hg ?_
  refine sV (vQ (bO Z hg) Z) ?_
  exact hcut _ uG
 ·refine sG Z (bG Z hg) (vM Z) (sG Z (bG Z hg) (vM Z) (sG Z (bG Z hg) (v_seql Z Z) (sV (vP (bO Z hg) Z) ?_)))
  exact hcut _ uG
 refine sK [1,2,3,6,15] Z (cC Z (fun hq=>?_) (fun hq=>?_))
 ·rw [show (b == root || c == b)=true from hq,Bool.true_or]
  refine cQ (sA Z (sK [6] Z (cT (xR ?_))))
  exact xt_rt Z ⟨Z,Z⟩ sbq
 ·rw [show (b == root || c == b)=false from hq,Bool.false_or]
  refine cK (xT (cQ (sV (vF Z fa85_1 Z) (sV (vY Z ld22) ?_))))
  refine sM Z (sM Z (st_cl Z Z en175 Z (Is_ct hs c b) ?_))
  rintro u h' ⟨rfl,rfl⟩
  simp only [lC,lN]
  refine sM Z (sV (v_extract Z Z) (sV (v_extract Z Z) (sA Z (sA Z (sK [6,7,8] Z (cQ (sM Z (sM Z (st_cut (k:=5) (d:=28) (v:=.bool ((decide (rightE (ksys l) [c,b]=0) && has (ksys l) c b) && (rightE (ksys l) [c,b] == 0))) (fun hcut=>bool_want (b:=(decide (rightE (ksys l) [c,b]=0) && has (ksys l) c b)) true (fun hg=>?_) (fun hg=>?_)) ?_)))))))))
  ·refine st_sk Z Z hg ?_
   refine st_sk Z Z hg ?_
   refine sV (vP (bO Z hg) Z) ?_
   exact hcut _ uG
  ·refine sG Z (bG Z hg) (vM Z) (sG Z (bG Z hg) (v_eql Z Z) (sV (vQ (bO Z hg) Z) ?_))
   exact hcut _ uG
  refine sA Z (sK [6] Z (cT ?_))
  rw [show ((decide (rightE (ksys l) [c,b]=0) && has (ksys l) c b) && (rightE (ksys l) [c,b] == 0))=(decide (rightE (ksys l) [c,b]=0) && has (ksys l) c b) by
   by_cases h:rightE (ksys l) [c,b]=0 <;> simp [h]]
  exact xt_rt Z ⟨Z,Z⟩ sbq
def actB (l:KS) (c b:Nm):Bool:=((c == b) || (b == root)) || (!(c == root) && isU l c b)
theorem actB_under (hR : Right (ksys l)) {c b : Nm} (hc : c = root ∨ isC (ksys l) c = true) (hb : b = root ∨ isC (ksys l) b = true) : actB l c b = under l c b := by
 unfold actB under
 by_cases h1:b=root
 ·subst h1; simp
 ·have hb := hb.resolve_left h1
  by_cases h2:c=root
  ·subst h2
   have:¬ root=b:=fun e=>h1 e.symm
   simp [h1,this]
  ·have hc:=hc.resolve_left h2
   have hr:rightE (ksys l) [c,b]=0:=rightE_zero.2 ⟨hR,fun n hn=>by
    rcases List.mem_cons.1 hn with rfl | hn
    ·exact hc
    ·simp at hn; subst hn; exact hb⟩
   unfold isU
   rw [hr]
   by_cases h3:c=b
   ·subst h3; simp [h2,has_refl]
   ·have e1:(c == b)=false:=beq_eq_false_iff_ne.2 h3
    have e2:(b == root)=false:=beq_eq_false_iff_ne.2 h1
    have e3:(c == root)=false:=beq_eq_false_iff_ne.2 h2
    have e4:(c != root)=true:=bne_iff_ne.2 h2
    rw [e1,e2,e3,e4]; simp
theorem actE_one {a:Kt} {b:Nm} (h:((isNmd a && !a.void) && !a.sep)=false):actE l F a b=8:=by
 unfold actE
 rw [if_pos]
 cases h1:isNmd a <;> cases h2:a.void <;> cases h3:a.sep <;> simp_all
theorem actE_two {a:Kt} {b:Nm} (h:((isNmd a && !a.void) && !a.sep)=true):actE l F a b=if a.inner l F≠0 then a.inner l F else if under l (ctName F a) b=false then 8 else 0:=by
 unfold actE
 rw [if_neg]
 simp only [Bool.and_eq_true,Bool.not_eq_true'] at h
 simp [h.1.1,h.1.2,h.2]
theorem errB {b:Bool} {e:Int} (h:(if b=true then (0:Int) else e)≠0):b=false∧(if b=true then (0:Int) else e)=e:=by
 cases b with
 | true=>exact absurd rfl h
 | false=>exact ⟨rfl,rfl⟩
theorem errB0 {b:Bool} {e:Int} (he:e≠0) (h:(if b=true then (0:Int) else e)=0):b=true:=by
 cases b with
 | true=>rfl
 | false=>exact absurd h he
theorem actual_of (h : HRight l) (hM : KMap S m l) (hv : ksysR S (.slice va l.length vc) l) {x : KC} {c : Nm} (hc : kfind l c = some x) {f : Fm} (hb : f.bound = root ∨ isC (ksys l) f.bound = true) {xa : Option Addr} {xn xc : Nat}
  (hI:Cpe Tryz.prog 194 102 #[wV mb va l.length vc,sv c,.agg (tyC t (.slice xa xn xc)).toArray] [mps mb m,S] (t.inner l x.formals)) :
  Cpe Tryz.prog 194 138 #[wV mb va l.length vc,sv c,.agg (tyC t (.slice xa xn xc)).toArray,.agg (fmA f).toArray] [mps mb m,S] (actE l x.formals t f.bound):=by
 have hxl:=(kfind_some hc).2
 have hI2:=hI
 have his := @is_ct S l mb va vc hv
 have hcl := @classType_ct S l m mb t hM c va l.length vc xa xn xc
 rw [fmsOf_some hc] at hcl
 have hisn := @isNamed_ct t xa xn xc
 obtain ⟨ya,yn,yc,hcv⟩:∃ ya yn yc,ctV t (.slice xa xn xc) = .slice ya yn yc:=by
  unfold ctV
  split
  ·exact ⟨_,_,_,Z⟩
  ·exact ⟨_,_,_,Z⟩
 rw [hcv] at hcl
 unfold wV tyC at hI2
 unfold tyC at hisn
 unfold fmA
 unfold wV at his ⊢
 unfold tyC at hcl ⊢
 refine cpe_of (n:=58) Tryz.func138 Z Z (len Z) fun hr w0=>?_
 refine cQ (st_bx Z Z fun b4=>?_)
 refine st_bx Z Z fun b6=>?_
 refine st_bx Z Z fun b7=>?_
 refine sK [1,4,6,7] Z (cS (cd_regP (sV (v_ldn Z ld25 Z rds_pt) ?_)))
 refine st_clr Z Z en112 Z (hisn) ?_
 refine sM Z (st_cutP (k:=7) (d:=16) (v:=.bool (isNmd t && !t.void)) (fun hcut=>bool_want (b:=(isNmd t)) true (fun hg=>?_) (fun hg=>?_)) ?_)
 ·refine st_sk Z Z hg ?_
  iterate 2 refine st_sk rfl rfl hg ?_
  refine sV (vP (bO Z hg) Z) ?_
  exact hcut _ uG
 ·refine sG Z (bG Z hg) (vF Z fa25_3 Z) (sG Z (bG Z hg) (vY Z ld4) ?_)
  refine sG Z (bG Z hg) (v_not Z) (sV (vQ (bO Z hg) Z) ?_)
  exact hcut _ uG
 refine sM Z (st_cutP (k:=12) (d:=21) (v:=.bool ((isNmd t && !t.void) && !t.sep)) (fun hcut=>bool_want (b:=(isNmd t && !t.void)) true (fun hg=>?_) (fun hg=>?_)) ?_)
 ·refine st_sk Z Z hg ?_
  iterate 2 refine st_sk rfl rfl hg ?_
  refine sV (vP (bO Z hg) Z) ?_
  exact hcut _ uG
 ·refine sG Z (bG Z hg) (vF Z fa25_4 Z) (sG Z (bG Z hg) (vY Z ld4) ?_)
  refine sG Z (bG Z hg) (v_not Z) (sV (vQ (bO Z hg) Z) ?_)
  exact hcut _ uG
 refine sN (nx_pan Z Z en100 Z (must_ct (by decide:(8:Int)≠0)) (fun hp0=>?_) (fun hp1=>by (repeat (first | refine xp_then ?_ | refine xp_block ?_)); exact xt_panE' hp1 (by rw [(errB hp1).2]; exact actE_one (errB hp1).1) (sbq)))
 refine (nK [1,4,6,7] Z (nT (cS (cd_regP ?_))))
 have hb1:=errB0 (by decide:(8:Int)≠0) hp0
 rw [actE_two hb1]
 refine sV (v_ldn Z ld85 Z rds_pt) ?_
 refine sM Z (sV (v_ldn Z ld25 Z rds_pt) ?_)
 refine sN (nx_pan Z Z en102 Z (hI2) (fun hp0=>?_) (fun hp1=>by (repeat (first | refine xp_then ?_ | refine xp_block ?_)); exact xt_panE' hp1 (by rw [if_pos hp1]) (sbq)))
 refine (nK [1,4,6,7] Z (nT (cQ ?_)))
 rw [if_neg (by simpa using hp0)]
 have hn:isNmd t=true:=by simp only [Bool.and_eq_true] at hb1; exact hb1.1.1
 have hkn:=(ctK_name (F:=x.formals) (nmd_iff.1 hn)).1
 have hcc:ctName x.formals t=root∨isC (ksys l) (ctName x.formals t)=true:=by
  rcases h.ct hxl hp0 hn with ⟨g,_⟩ | ⟨y,hy,_⟩
  ·exact .inl g
  ·exact .inr (by rw [← kfind_isC,hy]; rfl)
 rw [← actB_under h.right hcc hb]
 rw [← hkn]
 generalize ctK x.formals t=k at *
 unfold actB
 refine sV (v_ldn Z ld85 Z rds_pt) ?_
 refine sM Z (sV (v_ldn Z ld25 Z rds_pt) ?_)
 refine st_clr Z Z en76 Z (hcl) ?_
 refine sM Z (sV (v_extract Z Z) (sV (v_extract Z Z) (st_alc al25 fun b8=>?_)))
 refine st_stoW Z Z sz25 Z Z ?_
 refine sA Z (sK [4,7,8] Z (cd_regP (sV (vF Z fa25_1 Z) (sV (vY Z ld9) ?_))))
 refine sV (vF Z fa94_1 Z) (sV (vY Z ld9) ?_)
 refine sV (v_seql Z Z) (sM Z (st_cutP (k:=10) (d:=43) (v:=.bool (k.name == f.bound || f.bound == root)) (fun hcut=>bool_want (b:=(k.name == f.bound)) false (fun hg=>?_) (fun hg=>?_)) ?_))
 ·refine st_sk Z Z hg ?_
  iterate 2 refine st_sk rfl rfl hg ?_
  refine sV (vQ (bO Z hg) Z) ?_
  exact hcut _ uG
 ·refine sG Z (bG Z hg) (vF Z fa94_1 Z) (sG Z (bG Z hg) (vY Z ld9) ?_)
  refine sG Z (bG Z hg) (v_seql Z Z) (sV (vP (bO Z hg) Z) ?_)
  exact hcut _ uG
 refine sM Z (st_cutP (k:=23) (d:=56) (v:=.bool ((k.name == f.bound || f.bound == root) || (!(k.name == root) && isU l k.name f.bound))) (fun hcut=>bool_want (b:=(k.name == f.bound || f.bound == root)) false (fun hg=>?_) (fun hg=>?_)) ?_)
 ·refine st_sk Z Z hg ?_
  iterate 3 refine st_sk rfl rfl hg ?_
  refine st_sku Z Z ?_
  refine st_sku Z Z ?_
  refine st_sku Z Z ?_
  refine st_sku Z Z ?_
  refine st_sku Z Z ?_
  refine st_sku Z Z ?_
  refine st_sk Z Z hg ?_
  refine sV (vQ (bO Z hg) Z) ?_
  exact hcut _ uG
 ·refine sG Z (bG Z hg) (vF Z fa25_1 Z) (sG Z (bG Z hg) (vY Z ld9) ?_)
  refine sG Z (bG Z hg) (v_sneq Z Z) (sG Z (bG Z hg) (vM Z) (st_cutP (k:=22) (d:=55) (v:=.bool (!(k.name == root) && isU l k.name f.bound)) (fun hcut=>bool_want (b:=(!(k.name == root))) true (fun hg1=>?_) (fun hg1=>?_)) ?_))
  ·refine st_sk Z Z hg1 ?_
   iterate 5 refine st_sk rfl rfl hg1 ?_
   refine sG Z (bG Z hg) (vP (bO Z hg1) Z) ?_
   exact hcut _ (uH (by first | rfl | (rw [hg1]; rfl) | simp_all) (uS Z (uS Z (uS Z (uS Z (uS Z (uS Z (uR))))))))
  ·refine sG Z (bG Z hg1) (v_ldn Z ld85 Z rds_pt) ?_
   refine sG Z (bG Z hg1) (vF Z fa25_1 Z) (sG Z (bG Z hg1) (vY Z ld9) ?_)
   refine sG Z (bG Z hg1) (vF Z fa94_1 Z) (sG Z (bG Z hg1) (vY Z ld9) ?_)
   refine st_clrg Z (bG Z hg1) Z Z en162 Z ((his k.name f.bound)) ?_
   refine sG Z (bG Z hg) (vQ (bO Z hg1) Z) ?_
   exact hcut _ (uH (by first | rfl | (rw [hg1]; rfl) | simp_all) (uS Z (uS Z (uS Z (uS Z (uS Z (uS Z (uR))))))))
  refine sV (vP (bO Z hg) Z) ?_
  exact hcut _ (uH (by first | rfl | (rw [hg]; rfl) | simp_all) (by repeat (first | exact uR | refine uS Z ?_)))
 refine sN (nx_pan Z Z en100 Z (must_ct (by decide:(8:Int)≠0)) (fun hp0=>?_) (fun hp1=>by (repeat (first | refine xp_then ?_ | refine xp_block ?_)); exact xt_panE' hp1 (by rw [(errB hp1).2,if_pos (errB hp1).1]) (sbq)))
 refine (nK [] Z (nx_xt ?_))
 exact xt_rtE (by rw [if_neg (by rw [errB0 (by decide:(8:Int)≠0) hp0]; decide)]) Z (.inl Z) (sbq)
end
end Go.Hr
namespace Go.Hr
open Go Go.RowKit Go.Ck Go.Proofs Go.Proofs.YtaohbfnepjjdgaaGreat Fx
attribute [local irreducible] Go.Ck.Sub St Cd Xt Nx DrL LsW
section
variable {S N:Res} {v:Value} {F:List Fm} {l:KS} {m:List (Bs×Value)} {mb:Nat} {s t:Kt} {va:Option Addr} {vc:Nat}
theorem map_cls2 (hM:KMap S m l) (c:Nm):∃ d0 d f pv c2 fs i,Value.tuple #[(slook m c).getD cls0,.bool (slook m c).isSome] = .tuple #[.agg ([d0,d,f,pv,c2,fs,i]:List Value).toArray,.bool (kfind l c).isSome]∧([d0,d,f,pv,c2,fs,i]:List Value).all Value.oneCell'=true∧Row S 2 fmC f (fmsOf l c):=by
 cases hk:kfind l c with
 | none =>
  rw [(hM c).1 hk]
  exact ⟨_,_,_,_,_,_,_,Z,Z,by unfold fmsOf; rw [hk]; exact Row.nil⟩
 | some x =>
  obtain ⟨us,h1,d,f,pv,c2,fa,fc,i,rfl,h4,h2,_⟩:=(hM c).2 x hk
  rw [h1]
  exact ⟨_,_,_,_,_,_,_,Z,h4,by rw [fmsOf_some hk]; exact h2⟩
theorem inner_low {k:Int} {n:Nm} {az:List Kt} {w z:Bool} (hk:k=0∨k=1∨k=2):Kt.inner l F (.mk k n az w z)=if (((n == [] && ((az.length:Int) == 0)) && !w) && !z)=true then 0 else 2:=by
 rw [Kt.inner,if_pos hk]
 simp only [Bool.and_eq_true,Bool.not_eq_true',beq_iff_eq,and_assoc]
 by_cases h1:n=[] <;> by_cases h2:az.length=0 <;> cases w <;> cases z <;> simp [h1,h2]
theorem inner_fml {n:Nm} {az:List Kt} {w z:Bool}:Kt.inner l F (.mk 4 n az w z)=if (((az.length:Int) == 0) && !z)=true then (if (fmAt F n).isSome=true then 0 else 5) else 2:=by
 rw [Kt.inner,if_neg (by decide),if_pos rfl]
 have:(fmAt F n).isSome=(fidx F n).isSome:=by
  cases h:fidx F n with
  | none=>rw [fmAt_none h]; rfl
  | some i=>obtain ⟨_,h2⟩:=fidx_at h; rw [h2]; rfl
 rw [this]
 by_cases h2:az.length=0 <;> cases z <;> simp [h2]
theorem inner_cls {n : Nm} {az : List Kt} {w z : Bool} : Kt.inner l F (.mk 3 n az w z) = if ((kfind l n).isSome || n == root) = true then (if ((az.length : Int) == ((fmsOf l n).length : Nat)) = true then inners l F az ((fmsOf l n).map (·.bound)) else 8) else 5 := by
 rw [Kt.inner,if_neg (by decide),if_neg (by decide),if_pos rfl]
 cases h:kfind l n with
 | none =>
  rw [show fmsOf l n=[] by unfold fmsOf; rw [h]; rfl]
  by_cases h1:n=root
  ·by_cases h2:az=[] <;> simp [h1,h2,inners]
  ·simp [h1]
 | some x =>
  rw [fmsOf_some h]
  by_cases h2:az.length=x.formals.length
  ·simp [h2]
  ·have:¬ (az.length:Int)=x.formals.length:=by omega
   simp [h2,this]
theorem inner_odd {k:Int} {n:Nm} {az:List Kt} {w z:Bool} (h0:¬ (k=0∨k=1∨k=2)) (h4:k≠4) (h3:k≠3):Kt.inner l F (.mk k n az w z)=2:=by
 rw [Kt.inner,if_neg h0,if_neg h4,if_neg h3]
theorem HRight.bnd (h:HRight l) {n:Nm} {i:Nat} {f:Fm} (hf:(fmsOf l n)[i]? = some f):f.bound=root∨isC (ksys l) f.bound=true:=by
 cases hk:kfind l n with
 | none=>unfold fmsOf at hf; rw [hk] at hf; simp at hf
 | some x =>
  rw [fmsOf_some hk] at hf
  obtain ⟨_,_,_,h4,_⟩:=h.fm_at (kfind_some hk).2 hf
  rcases h4 with h4 | h4
  ·exact .inr (by rw [← kfind_isC]; exact h4)
  ·exact .inl h4
theorem inner_go (h : HRight l) (hM : KMap S m l) (hv : ksysR S (.slice va l.length vc) l) {x : KC} {c : Nm} (hc : kfind l c = some x) : ∀ (d : Nat) (t : Kt) (y : Value), t.depth ≤ d → Tys S y t.args →
  Cpe Tryz.prog 194 102 #[wV mb va l.length vc,sv c,.agg (tyC t y).toArray] [mps mb m,S] (t.inner l x.formals):=by
 intro d
 induction d with
 | zero=>intro t y hd; cases t; simp [Kt.depth] at hd
 | succ d ih =>
  rintro ⟨k,n,az,w,z⟩ y hd hy
  have hy:Tys S y az:=hy
  have hF:∀ a∈az,∀ y,Tys S y a.args→Cpe Tryz.prog 194 102 #[wV mb va l.length vc,sv c,.agg (tyC a y).toArray] [mps mb m,S] (a.inner l x.formals):=fun a ha y hy=>ih a y (by have:=depth_args (t:=.mk k n az w z) ha; omega) hy
  clear ih hd
  have hml:maxLen=9223372036854775807:=rfl
  obtain ⟨xa,xc,rfl,hlc,hcm,_⟩:=hy.form
  have hfo := @formal_ct S l m mb hM c n
  rw [fmsOf_some hc] at hfo
  obtain ⟨d0,dd,fv,pv,c2,fs,ii,hlk,hone,hrow⟩:=map_cls2 hM n
  obtain ⟨fa,fcap,rfl,hlc2,hcm2,_⟩:=id hrow
  show Cpe _ _ _ #[.agg #[.map (some mb),.slice va l.length vc],sv c,.agg #[.int .i64 k,sv n,.slice xa az.length xc,.bool w,.bool z]] _ _
  by_cases hk:k=0∨k=1∨k=2
  ·rw [inner_low hk]
   rcases hk with rfl | rfl | rfl
   ·refine cpe_of (n:=105) Tryz.func102 Z Z (len Z) fun hr w0=>?_
    refine cQ (st_bx Z Z fun b3=>?_)
    refine st_bx Z Z fun b5=>?_
    refine sK [1,3,5] Z (cQ (sV (vF Z fa25_0 Z) (sV (vY Z ld3) ?_)))
    refine sK [1,3,5,13] Z (cB (cS (cQ (sV (v_eql Z Z) (sA Z (sK [1,3,5,13,15] Z (cd_false Z ?_)))))))
    refine cQ (sV (v_eql Z Z) (sA Z (sK [1,3,5,13,15] Z (cd_false Z ?_))))
    refine cR (sV (v_eql Z Z) (sA Z (sK [1,3,5,13,15] Z (cd_true Z ?_))))
    refine cd_regP (sV (vF Z fa25_1 Z) (sV (vY Z ld9) ?_))
    refine sV (v_seql Z Z) (sM Z (st_cutP (k:=9) (d:=27) (v:=.bool (n == [] && ((az.length:Int) == 0))) (fun hcut=>bool_want (b:=(n == [])) true (fun hg=>?_) (fun hg=>?_)) ?_))
    ·refine st_sk Z Z hg ?_
     iterate 3 refine st_sk rfl rfl hg ?_
     refine sV (vP (bO Z hg) Z) ?_
     exact hcut _ uG
    ·refine sG Z (bG Z hg) (vF Z fa25_2 Z) (sG Z (bG Z hg) (vY Z ld23) ?_)
     refine sG Z (bG Z hg) (v_len Z Tryz.underlying23) (sG Z (bG Z hg) (v_eql Z Z) (sV (vQ (bO Z hg) Z) ?_))
     exact hcut _ uG
    refine sM Z (st_cutP (k:=14) (d:=32) (v:=.bool ((n == [] && ((az.length:Int) == 0)) && !w)) (fun hcut=>bool_want (b:=(n == [] && ((az.length:Int) == 0))) true (fun hg=>?_) (fun hg=>?_)) ?_)
    ·refine st_sk Z Z hg ?_
     iterate 2 refine st_sk rfl rfl hg ?_
     refine sV (vP (bO Z hg) Z) ?_
     exact hcut _ uG
    ·refine sG Z (bG Z hg) (vF Z fa25_3 Z) (sG Z (bG Z hg) (vY Z ld4) ?_)
     refine sG Z (bG Z hg) (v_not Z) (sV (vQ (bO Z hg) Z) ?_)
     exact hcut _ uG
    refine sM Z (st_cutP (k:=19) (d:=37) (v:=.bool (((n == [] && ((az.length:Int) == 0)) && !w) && !z)) (fun hcut=>bool_want (b:=((n == [] && ((az.length:Int) == 0)) && !w)) true (fun hg=>?_) (fun hg=>?_)) ?_)
    ·refine st_sk Z Z hg ?_
     iterate 2 refine st_sk rfl rfl hg ?_
     refine sV (vP (bO Z hg) Z) ?_
     exact hcut _ uG
    ·refine sG Z (bG Z hg) (vF Z fa25_4 Z) (sG Z (bG Z hg) (vY Z ld4) ?_)
     refine sG Z (bG Z hg) (v_not Z) (sV (vQ (bO Z hg) Z) ?_)
     exact hcut _ uG
    refine sN (nx_pan Z Z en100 Z (must_ct (by decide:(2:Int)≠0)) (fun hp0=>?_) (fun hp1=>by (repeat (first | refine xp_then ?_ | refine xp_block ?_)); exact xt_panE' hp1 Z (sbq)))
    refine (nK [] Z (nx_xt (xB ?_)))
    exact xt_rtE hp0 Z (.inl Z) (sbq)
   ·refine cpe_of (n:=105) Tryz.func102 Z Z (len Z) fun hr w0=>?_
    refine cQ (st_bx Z Z fun b3=>?_)
    refine st_bx Z Z fun b5=>?_
    refine sK [1,3,5] Z (cQ (sV (vF Z fa25_0 Z) (sV (vY Z ld3) ?_)))
    refine sK [1,3,5,13] Z (cB (cS (cQ (sV (v_eql Z Z) (sA Z (sK [1,3,5,13,15] Z (cd_true Z ?_)))))))
    refine cK (xT (cd_true Z ?_))
    refine cd_regP (sV (vF Z fa25_1 Z) (sV (vY Z ld9) ?_))
    refine sV (v_seql Z Z) (sM Z (st_cutP (k:=9) (d:=27) (v:=.bool (n == [] && ((az.length:Int) == 0))) (fun hcut=>bool_want (b:=(n == [])) true (fun hg=>?_) (fun hg=>?_)) ?_))
    ·refine st_sk Z Z hg ?_
     iterate 3 refine st_sk rfl rfl hg ?_
     refine sV (vP (bO Z hg) Z) ?_
     exact hcut _ uG
    ·refine sG Z (bG Z hg) (vF Z fa25_2 Z) (sG Z (bG Z hg) (vY Z ld23) ?_)
     refine sG Z (bG Z hg) (v_len Z Tryz.underlying23) (sG Z (bG Z hg) (v_eql Z Z) (sV (vQ (bO Z hg) Z) ?_))
     exact hcut _ uG
    refine sM Z (st_cutP (k:=14) (d:=32) (v:=.bool ((n == [] && ((az.length:Int) == 0)) && !w)) (fun hcut=>bool_want (b:=(n == [] && ((az.length:Int) == 0))) true (fun hg=>?_) (fun hg=>?_)) ?_)
    ·refine st_sk Z Z hg ?_
     iterate 2 refine st_sk rfl rfl hg ?_
     refine sV (vP (bO Z hg) Z) ?_
     exact hcut _ uG
    ·refine sG Z (bG Z hg) (vF Z fa25_3 Z) (sG Z (bG Z hg) (vY Z ld4) ?_)
     refine sG Z (bG Z hg) (v_not Z) (sV (vQ (bO Z hg) Z) ?_)
     exact hcut _ uG
    refine sM Z (st_cutP (k:=19) (d:=37) (v:=.bool (((n == [] && ((az.length:Int) == 0)) && !w) && !z)) (fun hcut=>bool_want (b:=((n == [] && ((az.length:Int) == 0)) && !w)) true (fun hg=>?_) (fun hg=>?_)) ?_)
    ·refine st_sk Z Z hg ?_
     iterate 2 refine st_sk rfl rfl hg ?_
     refine sV (vP (bO Z hg) Z) ?_
     exact hcut _ uG
    ·refine sG Z (bG Z hg) (vF Z fa25_4 Z) (sG Z (bG Z hg) (vY Z ld4) ?_)
     refine sG Z (bG Z hg) (v_not Z) (sV (vQ (bO Z hg) Z) ?_)
     exact hcut _ uG
    refine sN (nx_pan Z Z en100 Z (must_ct (by decide:(2:Int)≠0)) (fun hp0=>?_) (fun hp1=>by (repeat (first | refine xp_then ?_ | refine xp_block ?_)); exact xt_panE' hp1 Z (sbq)))
    refine (nK [] Z (nx_xt (xB ?_)))
    exact xt_rtE hp0 Z (.inl Z) (sbq)
   ·refine cpe_of (n:=105) Tryz.func102 Z Z (len Z) fun hr w0=>?_
    refine cQ (st_bx Z Z fun b3=>?_)
    refine st_bx Z Z fun b5=>?_
    refine sK [1,3,5] Z (cQ (sV (vF Z fa25_0 Z) (sV (vY Z ld3) ?_)))
    refine sK [1,3,5,13] Z (cB (cS (cQ (sV (v_eql Z Z) (sA Z (sK [1,3,5,13,15] Z (cd_false Z ?_)))))))
    refine cQ (sV (v_eql Z Z) (sA Z (sK [1,3,5,13,15] Z (cd_true Z ?_))))
    refine cK (xT (cd_true Z ?_))
    refine cd_regP (sV (vF Z fa25_1 Z) (sV (vY Z ld9) ?_))
    refine sV (v_seql Z Z) (sM Z (st_cutP (k:=9) (d:=27) (v:=.bool (n == [] && ((az.length:Int) == 0))) (fun hcut=>bool_want (b:=(n == [])) true (fun hg=>?_) (fun hg=>?_)) ?_))
    ·refine st_sk Z Z hg ?_
     iterate 3 refine st_sk rfl rfl hg ?_
     refine sV (vP (bO Z hg) Z) ?_
     exact hcut _ uG
    ·refine sG Z (bG Z hg) (vF Z fa25_2 Z) (sG Z (bG Z hg) (vY Z ld23) ?_)
     refine sG Z (bG Z hg) (v_len Z Tryz.underlying23) (sG Z (bG Z hg) (v_eql Z Z) (sV (vQ (bO Z hg) Z) ?_))
     exact hcut _ uG
    refine sM Z (st_cutP (k:=14) (d:=32) (v:=.bool ((n == [] && ((az.length:Int) == 0)) && !w)) (fun hcut=>bool_want (b:=(n == [] && ((az.length:Int) == 0))) true (fun hg=>?_) (fun hg=>?_)) ?_)
    ·refine st_sk Z Z hg ?_
     iterate 2 refine st_sk rfl rfl hg ?_
     refine sV (vP (bO Z hg) Z) ?_
     exact hcut _ uG
    ·refine sG Z (bG Z hg) (vF Z fa25_3 Z) (sG Z (bG Z hg) (vY Z ld4) ?_)
     refine sG Z (bG Z hg) (v_not Z) (sV (vQ (bO Z hg) Z) ?_)
     exact hcut _ uG
    refine sM Z (st_cutP (k:=19) (d:=37) (v:=.bool (((n == [] && ((az.length:Int) == 0)) && !w) && !z)) (fun hcut=>bool_want (b:=((n == [] && ((az.length:Int) == 0)) && !w)) true (fun hg=>?_) (fun hg=>?_)) ?_)
    ·refine st_sk Z Z hg ?_
     iterate 2 refine st_sk rfl rfl hg ?_
     refine sV (vP (bO Z hg) Z) ?_
     exact hcut _ uG
    ·refine sG Z (bG Z hg) (vF Z fa25_4 Z) (sG Z (bG Z hg) (vY Z ld4) ?_)
     refine sG Z (bG Z hg) (v_not Z) (sV (vQ (bO Z hg) Z) ?_)
     exact hcut _ uG
    refine sN (nx_pan Z Z en100 Z (must_ct (by decide:(2:Int)≠0)) (fun hp0=>?_) (fun hp1=>by (repeat (first | refine xp_then ?_ | refine xp_block ?_)); exact xt_panE' hp1 Z (sbq)))
    refine (nK [] Z (nx_xt (xB ?_)))
    exact xt_rtE hp0 Z (.inl Z) (sbq)
  ·by_cases h4 : k = 4
   ·subst h4
    rw [inner_fml]
    refine cpe_of (n:=105) Tryz.func102 Z Z (len Z) fun hr w0=>?_
    refine cQ (st_bx Z Z fun b3=>?_)
    refine st_bx Z Z fun b5=>?_
    refine sK [1,3,5] Z (cQ (sV (vF Z fa25_0 Z) (sV (vY Z ld3) ?_)))
    refine sK [1,3,5,13] Z (cB (cS (cQ (sV (v_eql Z Z) (sA Z (sK [1,3,5,13,15] Z (cd_false Z ?_)))))))
    refine cQ (sV (v_eql Z Z) (sA Z (sK [1,3,5,13,15] Z (cd_false Z ?_))))
    refine cR (sV (v_eql Z Z) (sA Z (sK [1,3,5,13,15] Z (cd_false Z ?_))))
    refine cQ (sV (v_eql Z Z) (sA Z (sK [1,3,5,13,39] Z (cd_true Z ?_))))
    refine cS (cd_regP (sV (vF Z fa25_2 Z) (sV (vY Z ld23) ?_)))
    refine sV (v_len Z Tryz.underlying23) (sV (v_eql Z Z) (sM Z (st_cutP (k:=9) (d:=49) (v:=.bool (((az.length:Int) == 0) && !z)) (fun hcut=>bool_want (b:=((az.length:Int) == 0)) true (fun hg=>?_) (fun hg=>?_)) ?_)))
    ·refine st_sk Z Z hg ?_
     iterate 2 refine st_sk rfl rfl hg ?_
     refine sV (vP (bO Z hg) Z) ?_
     exact hcut _ uG
    ·refine sG Z (bG Z hg) (vF Z fa25_4 Z) (sG Z (bG Z hg) (vY Z ld4) ?_)
     refine sG Z (bG Z hg) (v_not Z) (sV (vQ (bO Z hg) Z) ?_)
     exact hcut _ uG
    refine sN (nx_pan Z Z en100 Z (must_ct (by decide:(2:Int)≠0)) (fun hp0=>?_) (fun hp1=>by (repeat (first | refine xp_then ?_ | refine xp_block ?_)); exact xt_panE' hp1 (by rw [(errB hp1).2,if_neg (by rw [(errB hp1).1]; decide)]) (sbq)))
    refine (nK [1,3,5] Z (nT (cQ (sV (vF Z fa85_0 Z) (sV (vY Z ld83) ?_)))))
    refine sM Z (sV (vF Z fa25_1 Z) (sV (vY Z ld9) ?_))
    rw [if_pos (errB0 (by decide:(2:Int)≠0) hp0)]
    refine st_clr Z Z en65 Z (hfo) ?_
    unfold fmA
    refine sM Z (sV (v_extract Z Z) (sV (v_extract Z Z) (st_alc al94 fun b6=>?_)))
    refine st_stoW Z Z sz94 Z Z ?_
    refine sA Z (sK [7] Z (cd_regP (sM Z (sN (nx_pan Z Z en100 Z (must_ct (by decide:(5:Int)≠0)) (fun hp0=>?_) (fun hp1=>by (repeat (first | refine xp_then ?_ | refine xp_block ?_)); exact xt_panE' hp1 Z (sbq)))))))
    refine (nK [] Z (nx_xt (xB ?_)))
    exact xt_rtE hp0 Z (.inl Z) (sbq)
   ·by_cases h3 : k = 3
    ·subst h3
     have hz1:=inner_cls (l:=l) (F:=x.formals) (n:=n) (az:=az) (w:=w) (z:=z)
     rw [hz1]
     generalize hFM:fmsOf l n=FM at *
     have hbd:∀ (i:Nat) f,FM[i]? = some f→f.bound=root∨isC (ksys l) f.bound=true:=fun i f hf=>h.bnd (n:=n) (by rw [hFM]; exact hf)
     refine cpe_of (n:=105) Tryz.func102 Z Z (len Z) fun hr w0=>?_
     refine cQ (st_bx Z Z fun b3=>?_)
     refine st_bx Z Z fun b5=>?_
     refine sK [1,3,5] Z (cQ (sV (vF Z fa25_0 Z) (sV (vY Z ld3) ?_)))
     refine sK [1,3,5,13] Z (cB (cS (cQ (sV (v_eql Z Z) (sA Z (sK [1,3,5,13,15] Z (cd_false Z ?_)))))))
     refine cQ (sV (v_eql Z Z) (sA Z (sK [1,3,5,13,15] Z (cd_false Z ?_))))
     refine cR (sV (v_eql Z Z) (sA Z (sK [1,3,5,13,15] Z (cd_false Z ?_))))
     refine cQ (sV (v_eql Z Z) (sA Z (sK [1,3,5,13,39] Z (cd_false Z ?_))))
     refine cQ (sV (v_eql Z Z) (sA Z (sK [1,3,5,62] Z (cd_true Z ?_))))
     refine cQ (sV (vF Z fa85_0 Z) (sV (vY Z ld83) ?_))
     refine sV (vF Z fa25_1 Z) (sV (vY Z ld9) ?_)
     refine sV (v_is hlk (v_slookup_ok Z Z mp83 inf54 slq)) ?_
     refine sM Z (sV (v_extract Z Z) (sV (v_extract Z Z) (st_alc al54 fun b8=>?_)))
     refine st_stoW Z Z sz54 Z hone ?_
     refine sA Z (sK [1,3,5,8,9] Z (cS (cd_regP (sM Z (sM Z (st_cutP (k:=6) (d:=77) (v:=.bool ((kfind l n).isSome || n == root)) (fun hcut=>bool_want (b:=((kfind l n).isSome)) false (fun hg=>?_) (fun hg=>?_)) ?_))))))
     ·refine st_sk Z Z hg ?_
      iterate 2 refine st_sk rfl rfl hg ?_
      refine sV (vQ (bO Z hg) Z) ?_
      exact hcut _ uG
     ·refine sG Z (bG Z hg) (vF Z fa25_1 Z) (sG Z (bG Z hg) (vY Z ld9) ?_)
      refine sG Z (bG Z hg) (v_seql Z Z) (sV (vP (bO Z hg) Z) ?_)
      exact hcut _ uG
     refine sN (nx_pan Z Z en100 Z (must_ct (by decide:(5:Int)≠0)) (fun hp0=>?_) (fun hp1=>by (repeat (first | refine xp_then ?_ | refine xp_block ?_)); exact xt_panE' hp1 (by rw [(errB hp1).2,if_neg (by rw [(errB hp1).1]; decide)]) (sbq)))
     refine (nK [1,3,5,8] Z (nT (cS (cd_regP (sV (vF Z fa25_2 Z) (sV (vY Z ld23) ?_))))))
     refine sV (v_len Z Tryz.underlying23) (sV (vF Z fa54_2 Z) (sV (vY Z ld48) ?_))
     refine sV (v_len Z Tryz.underlying48) (sV (v_eql Z Z) ?_)
     rw [if_pos (errB0 (by decide:(5:Int)≠0) hp0)]
     refine sN (nx_pan Z Z en100 Z (must_ct (by decide:(8:Int)≠0)) (fun hp0=>?_) (fun hp1=>by (repeat (first | refine xp_then ?_ | refine xp_block ?_)); exact xt_panE' hp1 (by rw [(errB hp1).2,if_neg (by rw [(errB hp1).1]; decide)]) (sbq)))
     refine (nK [1,3,5,8] Z (nT (cQ (sV (vF Z fa25_2 Z) (sV (vY Z ld23) ?_)))))
     refine sV (v_len Z Tryz.underlying23) (sM Z (sK [1,3,8,88,89,90] Z (cB ?_)))
     have hle:=errB0 (by decide:(8:Int)≠0) hp0
     rw [if_pos hle]
     have hle:az.length=FM.length:=by have:=eq_of_beq hle; omega
     refine cd_lq (σ := Nat) (fun i=>[(1,sv c),(3,.pointer (some ⟨b3,0,none⟩)),(8,.pointer (some ⟨b8,0,none⟩)),(88,.slice xa az.length xc),(89,.int .i64 az.length),(90,.int .i64 (i:Nat))]) (fun _=>pt b3 (cl [.map (some mb),.slice va l.length vc] 85)::pt b8 (cl [d0,dd,.slice fa FM.length fcap,pv,c2,fs,ii] 54)::mps mb m::S::hr) (fun i=>i≤az.length∧inners l x.formals az (FM.map (·.bound))=inners l x.formals (az.drop i) ((FM.drop i).map (·.bound))) (fun i=>az.length - i) 0 ⟨Nat.zero_le _,Z⟩ ?_
     rintro i ⟨hi,hin⟩
     refine cQ (sV (v_lss Z Z) (sN (nT (cS (cC Z (fun hd=>?_) (fun hd=>?_))))))
     ·have hlt:i<az.length:=by simpa using hd
      have hg:=List.getElem?_eq_getElem hlt
      have hmem:=List.getElem_mem hlt
      have hlf:i<FM.length:=by omega
      have hgf:=List.getElem?_eq_getElem hlf
      obtain ⟨b,o,cap2,us,e1,hus,hrd,hta⟩:=hy.at hg
      cases e1
      obtain ⟨bf,of,capf,e2,hrf⟩:=fm_at hrow hgf
      cases e2
      rw [List.drop_eq_getElem_cons hlt,List.drop_eq_getElem_cons hlf,List.map_cons,inners_cons] at hin
      have hbf:=hbd i _ hgf
      generalize az[i]=a at hg hmem hta hin
      generalize FM[i]=f at hgf hrf hbf hin
      have hones:=hta.ones
      obtain ⟨y,rfl,hya⟩:=hta.out
      obtain ⟨ya,yc,rfl,_⟩:=id hya.form
      have hac:=actual_of h hM hv hc hbf (hF a hmem _ hya)
      unfold wV tyC fmA at hac
      unfold tyC at hrd hones
      unfold fmA at hrf
      refine cK (xT (cS (cB (cQ (sM Z (sV (vI (k:=i) Z Z sl23 Z hlt Z) (sV (v_ldn Z ld25 Z hrd) ?_)))))))
      refine st_alc al25 fun b11=>?_
      refine sA Z (st_stoW Z Z sz25 Z hones ?_)
      refine sK [1,3,8,10,11,88,89,90] Z (cd_drawP (ork [(0,1),(1,2),(2,1),(3,2),(4,1),(5,2),(6,2),(7,1)] .nil) 8 mixed (by kernel_rfl) ?_)
      refine dr_v Z (v_ldn Z ld85 Z rds_pt) ?_
      refine dV Z (vM Z) (dr_v Z (v_ldn Z ld25 Z rds_pt) ?_)
      refine dV Z (vF Z fa54_2 Z) (dr_v Z (vY Z ld48) ?_)
      refine dV Z (vM Z) (dV Z (vI (k:=i) Z Z sl48 Z hlf Z) (dr_v Z (v_ldn Z ld94 Z hrf) ?_))
      refine dr_nil (nx_panD Z Z Z en138 Z (hac) (fun hp0=>?_) (fun hp1=>by (repeat (first | refine xp_then ?_ | refine xp_block ?_)); exact xt_panE' hp1 (by rw [hin,if_pos hp1]) (sbq)))
      refine (nK [1,3,8,88,89,90] Z (nx_xt (xB (xT (cR (sV (v_add Z Z (by unfold I64 at *; omega)) (sM Z (sN (nK [1,3,8,88,89,90] Z (nx_xt ?_))))))))))
      rw [if_neg (by simpa using hp0)] at hin
      refine xt_aq (i+1) ⟨hlt,hin⟩ (Nat.sub_lt_sub_left hlt (Nat.lt_succ_self i))
     ·have hil:i=az.length:=by
       have:¬ i<az.length:=by simpa using hd
       omega
      refine cd_exit (xE (xE (xY (xB ?_))))
      rw [hil,List.drop_length,inners] at hin
      exact xt_rtE hin Z (.inl Z) (sbq)
    ·rw [inner_odd hk h4 h3]
     have q0:(k == 0)=false:=beq_eq_false_iff_ne.2 fun e=>hk (.inl e)
     have q1:(k == 1)=false:=beq_eq_false_iff_ne.2 fun e=>hk (.inr (.inl e))
     have q2:(k == 2)=false:=beq_eq_false_iff_ne.2 fun e=>hk (.inr (.inr e))
     have q3:(k == 3)=false:=beq_eq_false_iff_ne.2 h3
     have q4:(k == 4)=false:=beq_eq_false_iff_ne.2 h4
     refine cpe_of (n:=105) Tryz.func102 Z Z (len Z) fun hr w0=>?_
     refine cQ (st_bx Z Z fun b3=>?_)
     refine st_bx Z Z fun b5=>?_
     refine sK [1,3,5] Z (cQ (sV (vF Z fa25_0 Z) (sV (vY Z ld3) ?_)))
     refine sK [1,3,5,13] Z (cB (cS (cQ (sV (v_eql Z Z) (sA Z (sK [1,3,5,13,15] Z ?_))))))
     rw [q1]
     refine cd_false Z ?_
     refine cQ (sV (v_eql Z Z) (sA Z (sK [1,3,5,13,15] Z ?_)))
     rw [q2]
     refine cd_false Z ?_
     refine cR (sV (v_eql Z Z) (sA Z (sK [1,3,5,13,15] Z ?_)))
     rw [q0]
     refine cd_false Z ?_
     refine cQ (sV (v_eql Z Z) (sA Z (sK [1,3,5,13,39] Z ?_)))
     rw [q4]
     refine cd_false Z ?_
     refine cQ (sV (v_eql Z Z) (sA Z (sK [1,3,5,62] Z ?_)))
     rw [q3]
     refine cd_false Z ?_
     refine cd_regP (sN (nx_pan Z Z en100 Z (must_ct (by decide:(2:Int)≠0)) (fun hp0=>?_) (fun hp1=>by (repeat (first | refine xp_then ?_ | refine xp_block ?_)); exact xt_panE' hp1 Z (sbq))))
     refine (nK [] Z (nx_xt (xB ?_)))
     exact absurd hp0 (by decide)
end
end Go.Hr
namespace Go.Hr
open Go Go.RowKit Go.Ck Go.Proofs Go.Proofs.YtaohbfnepjjdgaaGreat Fx
attribute [local irreducible] Go.Ck.Sub St Cd Xt Nx DrL LsW
section
variable {S N:Res} {v:Value} {F:List Fm} {l:KS} {m:List (Bs×Value)} {mb:Nat} {s t:Kt} {va:Option Addr} {vc:Nat}
set_option maxRecDepth 100000 in
theorem right1_ct (h : HRight l) (hM : KMap S m l) (hv : ksysR S (.slice va l.length vc) l) {x : KC} {c : Nm} (hc : kfind l c = some x) {y : Value} (hy : Tys S y t.args) (hd : t.depth ≤ 1000000) {b1 b2 b3 : Nat} :
  Cpe Tryz.prog 194 99 #[.pointer (some ⟨b3,0,none⟩),.pointer (some ⟨b1,0,none⟩),.pointer (some ⟨b2,0,none⟩)] [pt b3 (cl (tyC t y) 25),pt b1 (cl [.map (some mb),.slice va l.length vc] 85),pt b2 (cl [sv c] 9),mps mb m,S] (rightK l x.formals t):=by
 have hde:=depth_ct hd (Ty.of (t:=t) rfl hy)
 have hin:=inner_go (mb:=mb) h hM hv hc t.depth t y (Nat.le_refl _) hy
 obtain ⟨ya,yc,rfl,_⟩:=id hy.form
 have hri:rightK l x.formals t=if (if decide ((t.depth:Int)≤40)=true then (0:Int) else 3)≠0 then 3 else t.inner l x.formals:=by
  unfold rightK
  by_cases h1:40<t.depth
  ·have:¬ (t.depth:Int)≤40:=by omega
   rw [if_pos h1,decide_eq_false this]; rfl
  ·have:(t.depth:Int)≤40:=by omega
   rw [if_neg h1,decide_eq_true this]; rfl
 rw [hri]
 unfold wV tyC at hin
 unfold tyC at hde ⊢
 refine cpe_of (n:=11) Tryz.func99 Z Z (len Z) fun hr w0=>?_
 refine cS (cd_regP (sV (v_ldn Z ld25 Z rds_pt) ?_))
 refine st_clr Z Z en101 Z (hde) ?_
 refine sV (v_leq Z Z) (sN (nx_pan Z Z en100 Z (must_ct (by decide:(3:Int)≠0)) (fun hp0=>?_) (fun hp1=>by (repeat (first | refine xp_then ?_ | refine xp_block ?_)); exact xt_panE' hp1 (by rw [if_pos hp1]; exact (errB hp1).2.symm) (sbq))))
 refine (nK [0,1,2] Z (nT (cd_regP ?_)))
 rw [if_neg (by simpa using hp0)]
 refine sV (v_ldn Z ld85 Z rds_pt) ?_
 refine sV (vY Z ld9) ?_
 refine sV (v_ldn Z ld25 Z rds_pt) ?_
 refine sN (nx_pan Z Z en102 Z (hin) (fun hp0=>?_) (fun hp1=>by (repeat (first | refine xp_then ?_ | refine xp_block ?_)); exact xt_panE' hp1 Z (sbq)))
 refine (nK [] Z (nx_xt ?_))
 exact xt_rtE hp0 Z (.inl Z) (sbq)
theorem right_kct (h:HRight l) (hM:KMap S m l) (hv:ksysR S (.slice va l.length vc) l) {x:KC} {c:Nm} (hc:kfind l c=some x) {y:Value} (hy:Tys S y t.args) (hd:t.depth≤1000000) :
  Ct Tryz.prog 58 #[wV mb va l.length vc,sv c,.agg (tyC t y).toArray] [mps mb m,S] fun u h'=>u = .int .i64 (rightK l x.formals t)∧h'=[mps mb m,S]:=by
 have h1:=fun b1 b2 b3 => @right1_ct S l m mb t va vc h hM hv x c hc y hy hd b1 b2 b3
 obtain ⟨ya,yc,rfl,_⟩:=id hy.form
 unfold tyC at h1 ⊢
 unfold wV
 refine ct_of (n:=9) Tryz.func58 Z Z (len Z) fun hr w0=>?_
 refine cQ (st_bx Z Z fun b3=>?_)
 refine st_bx Z Z fun b4=>?_
 refine st_bx Z Z fun b5=>?_
 refine sA Z (sK [3,4,5,6] Z (cQ (sV (v_makeFunc Z Z) (st_cl Z Z en98 Z (caught_ct en99 (h1 b3 b4 b5)) ?_))))
 rintro u h' ⟨rfl,rfl⟩
 simp only [lC,lN]
 refine sA Z (sK [6] Z (cT ?_))
 exact xt_rt Z ⟨Z,Z⟩ sbq
theorem kfind_snoc {x:KC} {c:Nm}:kfind (l++[x]) c=(kfind l c).or (if x.name=c then some x else none):=by
 unfold kfind
 rw [List.find?_append]
 congr 1
 by_cases h:x.name=c
 ·simp [h]
 ·simp [h]
theorem KMap.snoc (h:KMap S m l) {x:KC} {us:List Value} (hn:kfind l x.name=none) (hx:kclsC S us x):KMap S (supd m x.name (.agg us.toArray)) (l++[x]):=fun c=>by
 rw [kfind_snoc,slook_upd]
 by_cases hc:c=x.name
 ·subst hc
  rw [hn,if_pos rfl,if_pos rfl]
  exact ⟨fun h=>by simp at h,fun y hy=>by simp at hy; subst hy; exact ⟨us,rfl,hx⟩⟩
 ·have hc':¬ x.name=c:=fun e=>hc e.symm
  rw [if_neg hc,if_neg hc',Option.or_none]
  exact h c
set_option maxRecDepth 100000 in
theorem opened_ct (hv : ksysR S v l) : Ct Tryz.prog 79 #[v] [S] fun u h' => ∃ mb m, u = .map (some mb) ∧ h' = [mps mb m, S] ∧ ((nms (ksys l)).Nodup → KMap S m l) := by
 have hml:maxLen=9223372036854775807:=rfl
 obtain ⟨a,cap,rfl,hlc,hcm,_⟩:=id hv
 refine ct_of (n:=19) Tryz.func79 Z Z (len Z) fun hr w0=>?_
 refine cQ (sA Z (sN (nT (cQ (st_smakeMap (ltn Z) fun b6=>?_)))))
 refine sA rfl (sK [0,2,3] rfl (cS (cQ (sM rfl (sV (v_len rfl Tryz.underlying22) (sM rfl (sK [2,3,7,8,9] rfl (cB (cd_lq (σ := Nat×List (Bs×Value)) (fun q=>[(3,.map (some b6)),(7,.slice a l.length cap),(8,.int .i64 l.length),(9,.int .i64 (q.1:Nat))]) (fun q=>mps b6 q.2::S::hr) (fun q=>q.1≤l.length∧((nms (ksys l)).Nodup→KMap S q.2 (l.take q.1))) (fun q=>l.length - q.1) (0,[]) ⟨Nat.zero_le _,fun _ c=>⟨fun _=>rfl,fun x hx=>by cases hx⟩⟩ ?_)))))))))
 rintro ⟨i,m⟩ ⟨hi,hal⟩
 refine cQ (sV (v_lss Z Z) (sN (nT (cS (cC Z (fun hd=>?_) (fun hd=>?_))))))
 ·have hlt:i<l.length:=by simpa using hd
  obtain ⟨b,o,cap2,us,e1,hus,hrd,hcx⟩:=Row.at hv (List.getElem?_eq_getElem hlt)
  cases e1
  have hnx:(nms (ksys l)).Nodup→kfind (l.take i) (l[i]).name=none:=fun hn=>by
   unfold kfind
   rw [List.find?_eq_none]
   intro y hy he
   obtain ⟨j,hj,rfl⟩:=List.getElem_of_mem hy
   have hji:j<i:=by simp at hj; omega
   rw [List.getElem_take] at he
   have:=(List.pairwise_iff_getElem.1 (List.nodup_iff_pairwise_ne.1 hn)) j i (by simp [nms,ksys]; omega) (by simp [nms,ksys]; omega) hji
   simp [nms,ksys,KC.cls] at this
   exact this (by simpa using he)
  have htk:l.take (i+1)=l.take i++[l[i]]:=by rw [List.take_add_one,List.getElem?_eq_getElem hlt]; rfl
  have hcx2:=hcx
  generalize l[i]=x at hcx hcx2 hnx htk
  obtain ⟨d,f,pv,c2,fa,fc,i2,rfl,hone,_⟩:=hcx
  refine cK (xT (cS (cB (cQ (sV (vI (k:=i) Z Z sl22 Z hlt Z) (sV (v_ldn Z ld54 Z hrd) ?_))))))
  refine st_alc al54 fun b5=>?_
  refine st_stoW Z Z sz54 Z hone ?_
  refine sK [3,5,7,8,9] Z (cR (sM Z (sV (vF Z fa54_0 Z) (sV (vY Z ld9) ?_))))
  refine sV (v_ldn Z ld54 Z rds_pt) ?_
  refine st_smapUpdate Z Z Z mp83 slq ?_
  refine sN (nK [3,7,8,9] Z (nx_xt (xB (xT (cR (sV (v_add Z Z (by unfold I64 at *; omega)) (sM Z (sN (nK [3,7,8,9] Z (nx_xt ?_))))))))))
  refine xt_aq (i+1,supd m x.name (.agg ([sv x.name,d,f,pv,c2,.slice fa x.feats fc,i2]:List Value).toArray)) ⟨hlt,fun hn=>by rw [htk]; exact (hal hn).snoc (hnx hn) hcx2⟩ (Nat.sub_lt_sub_left hlt (Nat.lt_succ_self i))
 ·have hil:i=l.length:=by
   have:¬ i<l.length:=by simpa using hd
   omega
  rw [hil,List.take_length] at hal
  refine cd_exit (xE (xE (xY (xT (cQ (sM Z (sA Z (sK [2] Z (cT ?_)))))))))
  exact xt_rt Z ⟨_,_,Z,Z,hal⟩ sbq
set_option maxRecDepth 100000 in
theorem firstE_ct {es : List Int} (hv : Row S 1 numC v es) : Reads Tryz.prog 135 #[v] [S] (.int .i64 (firstE es)) := by
 have hml:maxLen=9223372036854775807:=rfl
 obtain ⟨a,cap,rfl,hlc,hcm,_⟩:=id hv
 refine ct_of (n:=15) Tryz.func135 Z Z (len Z) fun hr w0=>?_
 refine cQ (sA Z (sN (nT (cS (cQ (sM Z (sV (v_len Z Tryz.underlying209) (sM Z (sK [2,5,6,7] Z (cB (cd_lq (σ := Nat) (fun i=>[(5,.slice a es.length cap),(6,.int .i64 es.length),(7,.int .i64 (i:Nat))]) (fun _=>S::hr) (fun i=>i≤es.length∧firstE es=firstE (es.drop i)) (fun i=>es.length - i) 0 ⟨Nat.zero_le _,Z⟩ ?_)))))))))))
 rintro i ⟨hi,hal⟩
 refine cQ (sV (v_lss Z Z) (sN (nT (cS (cC Z (fun hd=>?_) (fun hd=>?_))))))
 ·have hlt:i<es.length:=by simpa using hd
  obtain ⟨b,o,cap2,u,e1,hrd,hX⟩:=Row.at1 hv (List.getElem?_eq_getElem hlt)
  cases e1
  rw [List.drop_eq_getElem_cons hlt,firstE] at hal
  have hX:[u]=[.int .i64 es[i]]:=hX
  cases hX
  refine cK (xT (cS (cB (cQ (sV (vI (k:=i) Z Z sl209 Z hlt Z) (sV (vY Z ld29) ?_))))))
  refine sA Z (sK [4,5,6,7] Z (cQ (sM Z (sV (v_neq Z Z) (sK [4,5,6,7,12] Z (cC Z (fun he=>?_) (fun he=>?_)))))))
  ·rw [hal,if_pos (by simpa using he)]
   refine cQ (sM Z (sA Z (sK [2] Z (cT (xW (xR (xR (xW (xR ?_)))))))))
   exact xt_rt Z ⟨Z,Z⟩ sbq
  ·rw [if_neg (by simpa using he)] at hal
   refine cK (xB (xT (cR (sV (v_add Z Z (by unfold I64 at *; omega)) (sM Z (sN (nK [5,6,7] Z (nx_xt ?_))))))))
   refine xt_aq (i+1) ⟨hlt,hal⟩ (Nat.sub_lt_sub_left hlt (Nat.lt_succ_self i))
 ·have hil:i=es.length:=by
   have:¬ i<es.length:=by simpa using hd
   omega
  rw [hal,hil,List.drop_length]
  refine cd_exit (xE (xE (xY (xT (cQ (sA Z (sK [2] Z (cT ?_))))))))
  exact xt_rt Z ⟨Z,Z⟩ sbq
end
end Go.Hr
