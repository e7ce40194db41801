/-
  Rows appended whole; the specification: Before,first. Conditions: what is read.
  The specification: first. Conditions: what is read.
  The specification: further. Conditions: what is read.
  The specification: Ring. Conditions: what is read.
-/
import Derived.Test.YtaohbfnepjjdgaaGreatM10
import Derived.Test.YtaohbfnepjjdgaaGreatM7
import Derived.Test.YtaohbfnepjjdgaaGreatM2
set_option linter.unusedVariables false
set_option linter.unusedSimpArgs false
namespace Go.Ck
open Go Go.RowKit
theorem v_app_nils {P:Program} {e:Env} {h:SH} {t E ty:TypeId} {x y:Operand} {z:Value} {sz bytes:Nat} {a:Option Addr} {n cp:Nat} (hx:e.ev? x=some (.slice a n cp)) (hy:e.ev? y=some (.slice none 0 0)) (hT:P.underlying t=some (.slice E)) (hE:Inf P E z sz bytes) (hn:n≤cp):Vop P e h (.call { callee:=.builtin .append,args := #[x,y],argTypes := #[t,t] }) ty (.slice a n cp):=
 ⟨by simp,by simp,fun ρ w d pos after g hρ _=>by
  obtain ⟨i,hi,hz,hisz,hiby⟩:=hE.parts
  cases a <;> simp [execOp,resolve,invoke,builtin,hρ x _ hx,hρ y _ hy,Builtin.append_,run_underlying hT,sizeOf,typeInfo,hi,Builtin.lenOf,Builtin.firstCells,loadCells,loadCellsFrom,hn,storeCells]⟩
section
variable {α : Type} {S:Res} {sz:Nat} {X:List Value → α → Prop}
theorem Row.take {a:Option Addr} {n cp k:Nat} {l:List α} (h:Row S sz X (.slice a n cp) l) (hk:k≤l.length):Row S sz X (.slice a k cp) (l.take k):=by
 obtain ⟨a',cap,he,h2,h3,h4,h5⟩:=h
 cases he
 refine ⟨a,cp,by rw [List.length_take,Nat.min_eq_left hk],by rw [List.length_take]; omega,h3,h4,fun i x hi=>?_⟩
 rw [List.getElem?_take] at hi
 split at hi
 ·exact h5 i x hi
 ·cases hi
theorem Row.drop {b o n cp k:Nat} {l:List α} (h:Row S sz X (.slice (some ⟨b,o,none⟩) n cp) l) (hk:k≤l.length):Row S sz X (.slice (some ⟨b,if cp=k then o else o+k * sz,none⟩) (n - k) (cp - k)) (l.drop k):=by
 obtain ⟨a',cap,he,h2,h3,h4,h5⟩:=h
 cases he
 refine ⟨_,_,by rw [List.length_drop],by rw [List.length_drop]; omega,by omega,(fun h=>by cases h),fun i x hi=>?_⟩
 rw [List.getElem?_drop] at hi
 have hlt:=(List.getElem?_eq_some_iff.1 hi).1
 obtain ⟨b2,o2,us,e,h6,h7,h8⟩:=h5 (k+i) x hi
 cases e
 refine ⟨_,_,us,Z,h6,?_,h8⟩
 rw [if_neg (by omega),Nat.add_assoc,← Nat.add_mul]; exact h7
variable {c:Cx} {ops:Array Oper} {K:Act→World→Prop} {rest:List Oper} {e:Env} {h h' h'':SH}
theorem st_apr {l : List α} {v v1 z : Value} {E t ty : TypeId} {bytes d : Nat} {x y : Operand} {pos : String} {after : Array Edge} {rows : List (List Value)} (hv : Row S sz X v l)
  (hx:e.ev? x=some v1) (hy:e.ev? y=some v) (ht:c.P.underlying t=some (.slice E)) (hE:Inf c.P E z sz bytes) (hzs:z.cells.size=sz) (hsz:0<sz)
  (hs:Sel h (VR v1 E sz rows) h') (hS:Sel h' S h'') (h1:∀ us x,x∈l→X us x→∀ u∈us,u.oneCell'=true) (hb:(rows.length+l.length) * bytes≤140737488355328) (h63:rows.length+l.length≤9223372036854775807) (hd:d<c.n)
  (hnx:∀ v' news,v'.oneCell'=true→news.length=l.length→(∀ r∈news,r.length=sz)→(∀ (i:Nat) us x,news[i]? = some us→l[i]? = some x→X us x)→St c ops K rest ((d,v')::e) (VR v' E sz (rows++news)::h')) :
  St c ops K (⟨some d,.call { callee:=.builtin .append,args := #[x,y],argTypes := #[t,t] },ty,pos,after,none⟩::rest) e h:=by
 obtain ⟨a,cap,rfl,hlc,hcm,hnone,hel⟩:=id hv
 have key:St c ops K (⟨some d,.call { callee:=.builtin .append,args := #[x,y],argTypes := #[t,t] },ty,pos,after,none⟩::rest) e (VR v1 E sz rows::h'):=by
  cases a with
  | none =>
   have hc0:cap=0:=hnone rfl
   have hl0:l=[]:=List.eq_nil_of_length_eq_zero (by omega)
   subst hl0 hc0
   refine st_ok .here fun ⟨f,hf⟩=>?_
   have hn:=hnx v1 []
   rw [List.append_nil] at hn
   rcases VR.form hf with ⟨rfl,g1⟩ | ⟨b,o,cp,rfl,g1,g2⟩
   ·exact st_val (v_app_nils hx hy ht hE (Nat.le_refl _)) hd (hn Z Z (by simp) fun i us x h=>by simp at h)
   ·exact st_val (v_app_nils hx hy ht hE g1) hd (hn Z Z (by simp) fun i us x h=>by simp at h)
  | some a =>
   obtain ⟨news,r1,r2,r3,r4⟩:=hv.cells
   exact st_appA news hx hy ht hE hzs hsz .here r2 r1 (fun j u hu=>by obtain ⟨b2,o,hb2,hr⟩:=r4 j u hu; cases hb2; rw [Addr.add_lit]; exact ⟨S,_,.there hS,hr⟩) (fun u hu=>by obtain ⟨us,h2,h3⟩:=List.mem_flatten.1 hu; obtain ⟨i,hi,rfl⟩:=List.mem_iff_getElem.1 h2; exact h1 _ l[i] (List.getElem_mem _) (r3 i _ _ (List.getElem?_eq_getElem hi) (List.getElem?_eq_getElem (by omega))) u h3) hb h63 hd fun v' hv' _=>hnx v' news hv' r1 r2 r3
 exact St.perm hs.perm key
end
end Go.Ck
namespace Go.Hr
open Go Go.RowKit Go.Ck Go.Proofs Go.Proofs.YtaohbfnepjjdgaaGreat Fx
attribute [local irreducible] Go.Ck.Sub St Cd Xt Nx DrL LsW
theorem lexLt_cons_same {a:Nm} {x y:List Nm}:lexLt (a::x) (a::y)=lexLt x y:=by simp [lexLt,lt_irrefl]
theorem lexLt_cons_ne {a b:Nm} {x y:List Nm} (h:a≠b):lexLt (a::x) (b::y)=lt a b:=by simp [lexLt,h]
theorem news_names {news:List (List Value)} {xs:List Nm} (h1:news.length=xs.length) (h2:∀ (i:Nat) us x,news[i]? = some us→xs[i]? = some x→strC us x):news=xs.map nC:=by
 apply List.ext_getElem (by simpa using h1)
 intro i hi hi2
 rw [List.getElem_map]
 exact h2 i _ _ (List.getElem?_eq_getElem hi) (List.getElem?_eq_getElem (by omega))
theorem str_one {us:List Value} {x:Nm} (h:strC us x):∀ u∈us,u.oneCell'=true:=fun u hu=>by
 unfold strC at h
 subst h
 simp at hu
 subst hu; rfl
section
variable {S S':Res} {v v':Value}
set_option maxRecDepth 100000 in
theorem Before_ct {xs ys : List Nm} (hv : nmsR S v xs) (hv' : nmsR S' v' ys) (hl : xs.length ≤ 1099511627776) (hl' : ys.length ≤ 1099511627776) : Reads Tryz.prog 143 #[v, v'] [S, S'] (.bool (lexLt xs ys)) := by
 obtain ⟨a,cap,rfl,_⟩:=id hv
 obtain ⟨a',cap',rfl,_⟩:=id hv'
 refine ct_of (n:=41) Tryz.func143 Z Z (len Z) fun hr w0=>?_
 refine cQ (sA Z (sN (nT (cS (cQ (sA Z (sN (nT (cB (cd_lq (σ := Nat) (fun i=>[(0,.slice a xs.length cap),(1,.slice a' ys.length cap'),(5,.int .i64 (i:Nat))]) (fun _=>S::S'::hr) (fun i=>i≤xs.length∧i≤ys.length∧lexLt xs ys=lexLt (xs.drop i) (ys.drop i)) (fun i=>xs.length - i) 0 ⟨Nat.zero_le _,Nat.zero_le _,Z⟩ ?_))))))))))
 rintro i ⟨hi,hi',hne⟩
 refine cS (cQ (sM Z (sM Z (sV (v_len Z Tryz.underlying50) (sV (v_lss Z Z) (sM Z (st_cut (k:=10) (d:=15) (v:=.bool (decide ((i:Int)<xs.length) && decide ((i:Int)<ys.length))) (fun hcut=>bool_want (b:=decide ((i:Int)<xs.length)) true (fun hg=>?_) (fun hg=>?_)) ?_)))))))
 ·refine st_sk Z Z hg ?_
  iterate 3 refine st_sk rfl rfl hg ?_
  refine sV (vP (bO Z hg) Z) ?_
  exact hcut _ uG
 ·refine sG Z (bG Z hg) (vM Z) (sG Z (bG Z hg) (vM Z) (sG Z (bG Z hg) (v_len Z Tryz.underlying50) (sG Z (bG Z hg) (v_lss Z Z) (sV (vQ (bO Z hg) Z) ?_))))
  exact hcut _ uG
 refine sK [0,1,5,15] Z (cC Z (fun hd=>?_) (fun hd=>?_))
 ·have hlt:i<xs.length:=by have:=of_decide_eq_true (Bool.and_eq_true_iff.1 hd).1; omega
  have hlt':i<ys.length:=by have:=of_decide_eq_true (Bool.and_eq_true_iff.1 hd).2; omega
  obtain ⟨b,o,cap2,hv2,hrd⟩:=nms_at hv (List.getElem?_eq_getElem hlt)
  obtain ⟨b',o',cap2',hv2',hrd'⟩:=nms_at hv' (List.getElem?_eq_getElem hlt')
  have e1:xs.drop i=xs[i]::xs.drop (i+1):=(List.getElem_cons_drop hlt).symm
  have e2:ys.drop i=ys[i]::ys.drop (i+1):=(List.getElem_cons_drop hlt').symm
  rw [e1,e2] at hne
  refine cK (xT (cS (cB (cS (cd_drawh (ork [(0,2),(1,2),(2,2),(3,1),(4,2),(5,2),(6,2),(7,1),(8,1)] .nil) (fun _=>true) mixed (by kernel_rfl) ?_)))))
  refine dV Z (vM Z) (dV Z (vM Z) (dV Z (vI (k:=i) (congrArg some hv2) Z sl50 Z hlt Z) (dr_v Z (vY Z ld9) ?_)))
  refine dV Z (vM Z) (dV Z (vM Z) (dV Z (vI (k:=i) (congrArg some hv2') Z sl50 Z hlt' Z) (dr_v Z (vY Z ld9) ?_)))
  refine dr_v Z (v_sneq Z Z) (dr_nil (nK [0,1,5,26] Z (nT (cC Z (fun he=>?_) (fun he=>?_)))))
  ·have he:xs[i]≠ys[i]:=fun e=>by rw [e] at he; simp at he
   rw [lexLt_cons_ne he] at hne
   rw [hne]
   refine cS (cd_drawh (ork [(0,2),(1,2),(2,2),(3,1),(4,2),(5,2),(6,2),(7,1),(8,2),(9,2)] .nil) (fun _=>true) mixed (by kernel_rfl) ?_)
   refine dV Z (vM Z) (dV Z (vM Z) (dV Z (vI (k:=i) (congrArg some hv2) Z sl50 Z hlt Z) (dr_v Z (vY Z ld9) ?_)))
   refine dV Z (vM Z) (dV Z (vM Z) (dV Z (vI (k:=i) (congrArg some hv2') Z sl50 Z hlt' Z) (dr_v Z (vY Z ld9) ?_)))
   refine dV Z (v_slss Z Z) (dV Z (vA Z) (dr_nil (nK [4] Z (nT (cT (xW (xR (xR (xW (xR ?_))))))))))
   exact xt_rt Z ⟨Z,Z⟩ sbq
  ·have he:xs[i]=ys[i]:=by simpa using he
   rw [he,lexLt_cons_same] at hne
   refine cK (xB (xT (cR (sM Z (sV (v_add Z Z (by unfold I64 at *; omega)) (sA Z (sN (nK [0,1,5] Z (nx_xt ?_)))))))))
   refine xt_aq (i+1) ⟨hlt,hlt',hne⟩ (by show _ - _<_ - _; omega)
 ·refine cd_exit (xE (xE (xY (xT (cQ (sM Z (sV (v_len Z Tryz.underlying50) (sM Z (sV (v_len Z Tryz.underlying50) (sV (v_lss Z Z) (sA Z (sK [4] Z ?_))))))))))))
  refine cT ?_
  have hend : lexLt xs ys = decide ((xs.length : Int) < ys.length) := by
   rw [hne]
   rcases Nat.lt_or_ge i xs.length with h1 | h1
   ·have h2:i=ys.length:=by
     rcases Bool.and_eq_false_iff.1 hd with h | h <;> have:=of_decide_eq_false h <;> omega
    rw [List.drop_of_length_le (by omega:ys.length≤i)]
    rw [show decide ((xs.length:Int)<ys.length)=false by simp; omega]
    cases xs.drop i <;> rfl
   ·rw [List.drop_of_length_le h1]
    rcases Nat.lt_or_ge i ys.length with h2 | h2
    ·rw [← List.getElem_cons_drop h2]
     rw [show decide ((xs.length:Int)<ys.length)=true by simp; omega]
     rfl
    ·rw [List.drop_of_length_le h2]
     rw [show decide ((xs.length:Int)<ys.length)=false by simp; omega]
     rfl
  rw [hend]
  exact xt_rt Z ⟨Z,Z⟩ sbq
end
end Go.Hr
namespace Go.Hr
open Go Go.RowKit Go.Ck Go.Proofs Go.Proofs.YtaohbfnepjjdgaaGreat Fx
attribute [local irreducible] Go.Ck.Sub St Cd Xt Nx DrL LsW
def Cor {α : Type} (X:List Value → α → Prop) (rows:List (List Value)) (l:List α):Prop:=rows.length=l.length∧∀ (i:Nat) us x,rows[i]? = some us→l[i]? = some x→X us x
section
variable {α : Type} {X X':List Value → α → Prop} {r s:List (List Value)} {l m:List α}
theorem Cor.nil:Cor X [] ([]:List α):=⟨rfl,fun i us x h=>by simp at h⟩
theorem Cor.one {us:List Value} {x : α} (h:X us x):Cor X [us] [x]:=⟨rfl,fun i us' x' h1 h2=>by
 have hi:i=0:=by have:=(List.getElem?_eq_some_iff.1 h1).1; simpa using this
 subst hi
 cases h1; cases h2; exact h⟩
theorem Cor.app (h1:Cor X r l) (h2:Cor X s m):Cor X (r++s) (l++m):=⟨by rw [List.length_append,List.length_append,h1.1,h2.1],fun i us x g1 g2=>by
 rcases Nat.lt_or_ge i r.length with h | h
 ·rw [List.getElem?_append_left h] at g1
  rw [List.getElem?_append_left (by rw [← h1.1]; exact h)] at g2
  exact h1.2 i us x g1 g2
 ·rw [List.getElem?_append_right h] at g1
  rw [List.getElem?_append_right (by rw [← h1.1]; exact h),← h1.1] at g2
  exact h2.2 _ us x g1 g2⟩
theorem Cor.mono (h:Cor X r l) (hx:∀ us x,X us x→X' us x):Cor X' r l:=⟨h.1,fun i us x h1 h2=>hx _ _ (h.2 i us x h1 h2)⟩
end
theorem llC.mono {S S':Res} (hr:∀ p u,Rd S p u→Rd S' p u) {us:List Value} {xs:List Nm} (h:llC S us xs):llC S' us xs:=let ⟨u,h1,h2⟩:=h; ⟨u,h1,h2.mono hr⟩
theorem llC.one {S:Res} {us:List Value} {xs:List Nm} (h:llC S us xs):∀ u∈us,u.oneCell'=true:=fun u hu=>by
 obtain ⟨w,rfl,h2⟩:=h
 simp at hu
 subst hu; exact Row.one h2
theorem lastN_get {w:List Nm} (h:w≠[]):∃ k,∃ hk:k<w.length,w.length=k+1∧w[k]=lastN w:=by
 have h0:=List.length_pos_iff.2 h
 refine ⟨w.length - 1,by omega,by omega,?_⟩
 unfold lastN
 rw [List.getLastD_eq_getLast?,List.getLast?_eq_getElem?,List.getElem?_eq_getElem (by omega)]
 rfl
theorem ins1_skip {one:List Nm}:∀ {xss:List (List Nm)} {i:Nat},(∀ x∈xss.take i,lastN x≠lastN one)→ins1 xss one=xss.take i++ins1 (xss.drop i) one
 | [],i,_=>by simp
 | x::t,0,_=>by simp
 | x::t,i+1,h=>by
  rw [List.take_succ_cons,List.drop_succ_cons,List.cons_append,← ins1_skip (xss:=t) (i:=i) fun y hy=>h y (by rw [List.take_succ_cons]; exact List.mem_cons_of_mem _ hy)]
  rw [ins1,if_neg (h x (by rw [List.take_succ_cons]; exact List.mem_cons_self))]
section
variable {A B:Res} {w ov:Value} {xss:List (List Nm)} {one:List Nm}
set_option maxRecDepth 100000 in
theorem first_ct (hv : llR A w xss) (ho : nmsR B ov one) (hne : one ≠ []) (hol : one.length ≤ 1099511627776) (hxs : ∀ x ∈ xss, x ≠ [] ∧ x.length ≤ 1099511627776) (hl : xss.length ≤ 1000000) : Ct Tryz.prog 151 #[w, ov] [A, B] fun u h' => ∃ T, h' = [T] ∧ u.oneCell' = true ∧ llR T u (ins1 xss one) := by
 obtain ⟨la,lcap,rfl,hlc,_⟩:=id hv
 obtain ⟨oa,ocap,rfl,_⟩:=id ho
 obtain ⟨ok,hok,hokl,hoe⟩:=lastN_get hne
 obtain ⟨ob,oo,ocap2,hov2,hord⟩:=nms_at ho (List.getElem?_eq_getElem hok)
 rw [hoe] at hord
 refine ct_of (n:=59) Tryz.func151 Z Z (len Z) fun hr w0=>?_
 refine cQ (sA Z (sN (nT (cS (cQ (sA Z (sN (nT (cB (cd_lq (σ := Nat) (fun i=>[(0,.slice la xss.length lcap),(1,.slice oa one.length ocap),(5,.int .i64 (i:Nat))]) (fun _=>A::B::hr) (fun i=>i≤xss.length∧∀ x∈xss.take i,lastN x≠lastN one) (fun i=>xss.length - i) 0 ⟨Nat.zero_le _,fun x hx=>by simp at hx⟩ ?_))))))))))
 rintro i ⟨hi,hno⟩
 refine cS (cQ (sM Z (sM Z (sV (v_len Z Tryz.underlying197) (sV (v_lss Z Z) (sK [0,1,5,10] Z (cC Z (fun hd=>?_) (fun hd=>?_))))))))
 ·have hlt:i<xss.length:=by simpa using hd
  have hxi:=List.getElem?_eq_getElem hlt
  obtain ⟨hx1,hx2⟩:=hxs _ (List.getElem_mem hlt)
  obtain ⟨b,o,cap2,u,hv2,hrd,hu⟩:=ll_at hv hxi
  have hdr:=(List.getElem_cons_drop hlt).symm
  have hsk:=ins1_skip hno
  rw [hdr,ins1] at hsk
  have htk:=List.take_succ_eq_append_getElem hlt
  generalize xss[i]=z at *
  obtain ⟨ua,ucap,rfl,_⟩:=id hu
  obtain ⟨zk,hzk,hzkl,hze⟩:=lastN_get hx1
  obtain ⟨zb,zo,zcap2,hzv2,hzrd⟩:=nms_at hu (List.getElem?_eq_getElem hzk)
  rw [hze] at hzrd
  refine cK (xT (cS (cB (cS (cd_drawh (ork [(0,2),(1,2),(2,2),(3,1),(4,2),(5,2),(6,2),(7,1),(8,2),(9,2),(10,2),(11,1),(12,2),(13,2),(14,2),(15,2),(16,2),(17,1),(18,1)] .nil) (fun _=>true) mixed (by kernel_rfl) ?_)))))
  refine dV Z (vM Z) (dV Z (vM Z) (dV Z (vI (k:=i) (congrArg some hv2) Z sl197 Z hlt Z) (dr_v Z (vY Z ld50) ?_)))
  refine dV Z (vM Z) (dV Z (vM Z) (dV Z (vI (k:=i) (congrArg some hv2) Z sl197 Z hlt Z) (dr_v Z (vY Z ld50) ?_)))
  refine dV Z (v_len Z Tryz.underlying50) (dV Z (v_sub Z Z (by unfold I64 at *; omega)) (dV Z (vI (k:=zk) (congrArg some hzv2) Z sl50 (by omega) hzk Z) (dr_v Z (vY Z ld9) ?_)))
  refine dV Z (vM Z) (dV Z (vM Z) (dV Z (v_len Z Tryz.underlying50) (dV Z (v_sub Z Z (by unfold I64 at *; omega)) (dV Z (vI (k:=ok) (congrArg some hov2) Z sl50 (by omega) hok Z) (dr_v Z (vY Z ld9) ?_)))))
  refine dr_v Z (v_seql Z Z) (dr_nil (nK [0,1,5,31] Z (nT (cC Z (fun he=>?_) (fun he=>?_)))))
  ·have he:lastN z=lastN one:=by simpa using he
   rw [if_pos he] at hsk
   refine cQ (sM Z (sM Z (sM Z (sV (vI (k:=i) (congrArg some hv2) Z sl197 Z hlt Z) (sV (vY Z ld50) ?_)))))
   refine st_clr Z Z en143 Z (Before_ct ho hu hol hx2) ?_
   refine sA Z (sK [0,1,5,6] Z (cS (cQ (sM Z (sK [0,1,5,38] Z (cC Z (fun hlx=>?_) (fun hlx=>?_)))))))
   ·rw [if_pos hlx] at hsk
    rw [hsk]
    cases hv2
    refine cS (cd_drawh (ork [(1,2),(2,2),(3,1),(5,2),(8,2),(9,2),(10,2),(11,1)] (.two 0 (.two 4 (ork [(6,0),(7,0),(12,0),(13,2)] .nil) 6 (ork [(4,0),(7,0),(12,0),(13,2)] .nil)) 6 (ork [(0,0),(4,0),(7,0),(12,0),(13,2)] .nil))) (fun i => !(Nat.beq i 12)) mixed (by kernel_rfl) ?_)
    refine dV Z (vM Z) (dV Z (vM Z) (dr_v Z (v_sliceHead (hi:=i) Z Z sl197 Z (by omega)) (dV Z (vM Z) (dV Z (vM Z) (dV Z (vM Z) (dV Z (v_add Z Z (by unfold I64 at *; omega)) (dr_v Z (v_sliceTail (lo:=i+1) Z Z sl197 Z hlt (by omega)) (dr_two Z Z ?_ ?_))))))))
    ·refine st_bs0 Tryz.underlying197 inf50 fun b39=>dr_nx ?_
     refine dr_two Z Z ?_ ?_
     ·refine st_apr (hv.take (Nat.le_of_lt hlt)) Z Z Tryz.underlying197 inf50 Z (by decide) (show Sel _ (VR (.slice (some ⟨b39,0,none⟩) 0 0) 50 1 []) _ from slq) (show Sel _ A _ from slq) (fun us x _ h=>llC.one h) (by simp [List.length_take] <;> omega) (by simp <;> omega) (ltn Z) fun v43 n1 hv43 q1 q2 q3=>dr_nx ?_
      refine dr_eff Z (st_buildSlice (cells:=[.slice oa one.length ocap]) Z Tryz.underlying197 inf50 Z Z (by kernel_rfl) (ltn Z) fun b45=>dr_nx ?_)
      refine dr_eff Z (st_app [[.slice oa one.length ocap]] Z Z Tryz.underlying197 inf50 Z (by decide) (show Sel _ (VR v43 50 1 ([]++n1)) _ from slq) (by simp) Z (fun j u2 hu2=>by repeat (first | exact at_here (rd_cl (by simpa using hu2)) | apply at_there)) (by simp [Value.oneCell']) (by simp [q1]; omega) (by simp [q1]; omega) (ltn Z) fun v46 hv46 _=>dr_nx ?_)
      refine dr_eff Z (st_apr (hv.drop (k:=i+1) hlt) Z Z Tryz.underlying197 inf50 Z (by decide) (show Sel _ (VR v46 50 1 ([]++n1++[[.slice oa one.length ocap]])) _ from slq) (show Sel _ A _ from slq) (fun us x _ h=>llC.one h) (by simp [q1]; omega) (by simp [q1]; omega) (ltn Z) fun v51 n3 hv51 r1 r2 r3=>dr_nx ?_)
      refine dV Z (vA Z) (dr_nil (nK [4] Z (nT (cT (xR (xW (xR (xR (xW (xR (xt_ok (r:=VR v51 50 1 ([]++n1++[[.slice oa one.length ocap]]++n3)) slq fun hokv=>?_)))))))))))
      refine xt_pv (pv_pack (L:=[VR v51 50 1 ([]++n1++[[.slice oa one.length ocap]]++n3),A,B])) ?_
      have hA:∀ p u,Rd A p u→Rd (Res.star [VR v51 50 1 ([]++n1++[[.slice oa one.length ocap]]++n3),A,B]) p u:=rd_in slq
      have hB:∀ p u,Rd B p u→Rd (Res.star [VR v51 50 1 ([]++n1++[[.slice oa one.length ocap]]++n3),A,B]) p u:=rd_in slq
      have hcor:=((Cor.nil.app (Cor.mono (X:=llC A) ⟨q1,q3⟩ fun us x h=>h.mono hA)).app (Cor.one ⟨_,rfl,ho.mono hB⟩)).app (Cor.mono (X:=llC A) ⟨r1,r3⟩ fun us x h=>h.mono hA)
      exact xt_rt Z ⟨Res.star [VR v51 50 1 ([]++n1++[[.slice oa one.length ocap]]++n3),A,B],Z,hv51,row_vr hokv (by simp [q1,r1] <;> omega) (rd_in slq) (by simpa using hcor.2)⟩ sbq
     ·refine st_buildSlice (cells:=[.slice oa one.length ocap]) Z Tryz.underlying197 inf50 Z Z (by kernel_rfl) (ltn Z) fun b45=>dr_nx ?_
      refine dr_eff Z (st_apr (hv.take (Nat.le_of_lt hlt)) Z Z Tryz.underlying197 inf50 Z (by decide) (show Sel _ (VR (.slice (some ⟨b39,0,none⟩) 0 0) 50 1 []) _ from slq) (show Sel _ A _ from slq) (fun us x _ h=>llC.one h) (by simp [List.length_take] <;> omega) (by simp <;> omega) (ltn Z) fun v43 n1 hv43 q1 q2 q3=>dr_nx ?_)
      refine dr_eff Z (st_app [[.slice oa one.length ocap]] Z Z Tryz.underlying197 inf50 Z (by decide) (show Sel _ (VR v43 50 1 ([]++n1)) _ from slq) (by simp) Z (fun j u2 hu2=>by repeat (first | exact at_here (rd_cl (by simpa using hu2)) | apply at_there)) (by simp [Value.oneCell']) (by simp [q1]; omega) (by simp [q1]; omega) (ltn Z) fun v46 hv46 _=>dr_nx ?_)
      refine dr_eff Z (st_apr (hv.drop (k:=i+1) hlt) Z Z Tryz.underlying197 inf50 Z (by decide) (show Sel _ (VR v46 50 1 ([]++n1++[[.slice oa one.length ocap]])) _ from slq) (show Sel _ A _ from slq) (fun us x _ h=>llC.one h) (by simp [q1]; omega) (by simp [q1]; omega) (ltn Z) fun v51 n3 hv51 r1 r2 r3=>dr_nx ?_)
      refine dV Z (vA Z) (dr_nil (nK [4] Z (nT (cT (xR (xW (xR (xR (xW (xR (xt_ok (r:=VR v51 50 1 ([]++n1++[[.slice oa one.length ocap]]++n3)) slq fun hokv=>?_)))))))))))
      refine xt_pv (pv_pack (L:=[VR v51 50 1 ([]++n1++[[.slice oa one.length ocap]]++n3),A,B])) ?_
      have hA:∀ p u,Rd A p u→Rd (Res.star [VR v51 50 1 ([]++n1++[[.slice oa one.length ocap]]++n3),A,B]) p u:=rd_in slq
      have hB:∀ p u,Rd B p u→Rd (Res.star [VR v51 50 1 ([]++n1++[[.slice oa one.length ocap]]++n3),A,B]) p u:=rd_in slq
      have hcor:=((Cor.nil.app (Cor.mono (X:=llC A) ⟨q1,q3⟩ fun us x h=>h.mono hA)).app (Cor.one ⟨_,rfl,ho.mono hB⟩)).app (Cor.mono (X:=llC A) ⟨r1,r3⟩ fun us x h=>h.mono hA)
      exact xt_rt Z ⟨Res.star [VR v51 50 1 ([]++n1++[[.slice oa one.length ocap]]++n3),A,B],Z,hv51,row_vr hokv (by simp [q1,r1] <;> omega) (rd_in slq) (by simpa using hcor.2)⟩ sbq
    ·refine st_buildSlice (cells:=[.slice oa one.length ocap]) Z Tryz.underlying197 inf50 Z Z (by kernel_rfl) (ltn Z) fun b45=>dr_nx ?_
     refine dr_eff Z (st_bs0 Tryz.underlying197 inf50 fun b39=>dr_nx ?_)
     refine dr_eff Z (st_apr (hv.take (Nat.le_of_lt hlt)) Z Z Tryz.underlying197 inf50 Z (by decide) (show Sel _ (VR (.slice (some ⟨b39,0,none⟩) 0 0) 50 1 []) _ from slq) (show Sel _ A _ from slq) (fun us x _ h=>llC.one h) (by simp [List.length_take] <;> omega) (by simp <;> omega) (ltn Z) fun v43 n1 hv43 q1 q2 q3=>dr_nx ?_)
     refine dr_eff Z (st_app [[.slice oa one.length ocap]] Z Z Tryz.underlying197 inf50 Z (by decide) (show Sel _ (VR v43 50 1 ([]++n1)) _ from slq) (by simp) Z (fun j u2 hu2=>by repeat (first | exact at_here (rd_cl (by simpa using hu2)) | apply at_there)) (by simp [Value.oneCell']) (by simp [q1]; omega) (by simp [q1]; omega) (ltn Z) fun v46 hv46 _=>dr_nx ?_)
     refine dr_eff Z (st_apr (hv.drop (k:=i+1) hlt) Z Z Tryz.underlying197 inf50 Z (by decide) (show Sel _ (VR v46 50 1 ([]++n1++[[.slice oa one.length ocap]])) _ from slq) (show Sel _ A _ from slq) (fun us x _ h=>llC.one h) (by simp [q1]; omega) (by simp [q1]; omega) (ltn Z) fun v51 n3 hv51 r1 r2 r3=>dr_nx ?_)
     refine dV Z (vA Z) (dr_nil (nK [4] Z (nT (cT (xR (xW (xR (xR (xW (xR (xt_ok (r:=VR v51 50 1 ([]++n1++[[.slice oa one.length ocap]]++n3)) slq fun hokv=>?_)))))))))))
     refine xt_pv (pv_pack (L:=[VR v51 50 1 ([]++n1++[[.slice oa one.length ocap]]++n3),A,B])) ?_
     have hA:∀ p u,Rd A p u→Rd (Res.star [VR v51 50 1 ([]++n1++[[.slice oa one.length ocap]]++n3),A,B]) p u:=rd_in slq
     have hB:∀ p u,Rd B p u→Rd (Res.star [VR v51 50 1 ([]++n1++[[.slice oa one.length ocap]]++n3),A,B]) p u:=rd_in slq
     have hcor:=((Cor.nil.app (Cor.mono (X:=llC A) ⟨q1,q3⟩ fun us x h=>h.mono hA)).app (Cor.one ⟨_,rfl,ho.mono hB⟩)).app (Cor.mono (X:=llC A) ⟨r1,r3⟩ fun us x h=>h.mono hA)
     exact xt_rt Z ⟨Res.star [VR v51 50 1 ([]++n1++[[.slice oa one.length ocap]]++n3),A,B],Z,hv51,row_vr hokv (by simp [q1,r1] <;> omega) (rd_in slq) (by simpa using hcor.2)⟩ sbq
   ·have hlx:¬ lexLt one z=true:=by simpa using hlx
    rw [if_neg hlx,← hdr,List.take_append_drop] at hsk
    rw [hsk]
    refine cK (xT (cQ (sM Z (sA Z (sK [4] Z (cT (xW (xR (xR (xW (xR (xt_pv (pv_pack (L:=[A,B])) ?_))))))))))))
    exact xt_rt Z ⟨Res.star [A,B],Z,Z,hv.mono (rd_in slq)⟩ sbq
  ·have he:lastN z≠lastN one:=by simpa using he
   refine cK (xB (xT (cR (sM Z (sV (v_add Z Z (by unfold I64 at *; omega)) (sA Z (sN (nK [0,1,5] Z (nx_xt (xt_aq (i+1) ⟨hlt,fun x hx=>?_⟩ (by show _ - _<_ - _; omega)))))))))))
   rw [htk] at hx
   rcases List.mem_append.1 hx with hx | hx
   ·exact hno x hx
   ·simp at hx; rw [hx]; exact he
 ·have hil:i=xss.length:=by
   have:¬ i<xss.length:=by simpa using hd
   omega
  subst hil
  have hsk:=ins1_skip hno
  rw [List.take_length,List.drop_length,ins1] at hsk
  rw [hsk]
  refine cd_exit (xE (xE (xY (xT (cQ (st_bs0 Tryz.underlying197 inf50 fun b53=>?_))))))
  refine sM Z (st_apr hv Z Z Tryz.underlying197 inf50 Z (by decide) (show Sel _ (VR (.slice (some ⟨b53,0,none⟩) 0 0) 50 1 []) _ from slq) (show Sel _ A _ from slq) (fun us x _ h=>llC.one h) (by simp [List.length_take] <;> omega) (by simp <;> omega) (ltn Z) fun v55 n1 hv55 q1 q2 q3=>?_)
  refine sM Z (st_buildSlice (cells:=[.slice oa one.length ocap]) Z Tryz.underlying197 inf50 Z Z (by kernel_rfl) (ltn Z) fun b57=>?_)
  refine st_app [[.slice oa one.length ocap]] Z Z Tryz.underlying197 inf50 Z (by decide) (show Sel _ (VR v55 50 1 ([]++n1)) _ from slq) (by simp) Z (fun j u2 hu2=>by repeat (first | exact at_here (rd_cl (by simpa using hu2)) | apply at_there)) (by simp [Value.oneCell']) (by simp [q1]; omega) (by simp [q1]; omega) (ltn Z) fun v58 hv58 _=>?_
  refine sA Z (sK [4] Z (cT (xt_ok (r:=VR v58 50 1 ([]++n1++[[.slice oa one.length ocap]])) slq fun hokv=>?_)))
  refine xt_pv (pv_pack (L:=[VR v58 50 1 ([]++n1++[[.slice oa one.length ocap]]),A,B])) ?_
  have hA:∀ p u,Rd A p u→Rd (Res.star [VR v58 50 1 ([]++n1++[[.slice oa one.length ocap]]),A,B]) p u:=rd_in slq
  have hB:∀ p u,Rd B p u→Rd (Res.star [VR v58 50 1 ([]++n1++[[.slice oa one.length ocap]]),A,B]) p u:=rd_in slq
  have hcor:=((Cor.nil.app (Cor.mono (X:=llC A) ⟨q1,q3⟩ fun us x h=>h.mono hA)).app (Cor.one ⟨_,rfl,ho.mono hB⟩))
  exact xt_rt Z ⟨Res.star [VR v58 50 1 ([]++n1++[[.slice oa one.length ocap]]),A,B],Z,hv58,row_vr hokv (by simp [q1]) (rd_in slq) (by simpa using hcor.2)⟩ sbq
end
end Go.Hr
namespace Go.Hr
open Go Go.RowKit Go.Ck Go.Proofs Go.Proofs.YtaohbfnepjjdgaaGreat Fx
attribute [local irreducible] Go.Ck.Sub St Cd Xt Nx DrL LsW
theorem ixN_isC (l:Sys) (c:Nm):decide ((0:Int)≤ixN l c)=isC l c:=by
 obtain ⟨h1,h2⟩:=idx_find (l:=l) (c:=c)
 unfold ixN isC
 cases h:idx l c with
 | none=>rw [h2 h]; rfl
 | some i=>obtain ⟨x,_,h3⟩:=h1 i h; rw [h3]; simp
def LnP (l:Sys) (n:Nat) (w:List Nm):Prop:=w.length=n∧isC l (lastN w)=true
theorem ones_len {l:Sys} {n:Nat} {ls:List (List Nm)} (h:Ones (LnP l n) ls):ls.length≤l.length:=by
 have:=length_le_of_nodup (b:=nms l) h.2 fun x hx=>by
  obtain ⟨w,hw,rfl⟩:=List.mem_map.1 hx
  exact isC_iff.1 (h.1 w hw).2
 simpa [nms] using this
theorem Ones.empty {P:List Nm→Prop}:Ones P []:=⟨fun w h=>by simp at h,by simp⟩
theorem pars_le {l:Sys} {n:Nat} (hp:∀ x∈l,x.parents.length≤n) {c:Nm}:(pars l c).length≤n:=by
 unfold pars
 cases h:find l c with
 | none=>simp
 | some x=>exact hp x (find_name h).2
def ext0 (l:Sys) (w:List Nm) (ps:List Nm) (n:List (List Nm)):List (List Nm):=(ps.filter (isC l)).foldl (fun n p=>ins1 n (w++[p])) n
theorem ext0_all {l:Sys} {w:List Nm} {n:List (List Nm)}:ext0 l w (pars l (lastN w)) n=ext1 l n w:=rfl
theorem ext0_yes {l:Sys} {w ps:List Nm} {p:Nm} {n:List (List Nm)} (h:isC l p=true):ext0 l w (ps++[p]) n=ins1 (ext0 l w ps n) (w++[p]):=by
 unfold ext0
 rw [List.filter_append,List.foldl_append,List.filter_cons,if_pos h]; rfl
theorem ext0_no {l:Sys} {w ps:List Nm} {p:Nm} {n:List (List Nm)} (h:isC l p=false):ext0 l w (ps++[p]) n=ext0 l w ps n:=by
 unfold ext0
 rw [List.filter_append,List.filter_cons,if_neg (by rw [h]; decide)]; simp
theorem exp_succ {l:Sys} {L:List (List Nm)} {i:Nat} (h:i<L.length):(L.take (i+1)).foldl (ext1 l) []=ext1 l ((L.take i).foldl (ext1 l) []) L[i]:=by
 rw [List.take_succ_eq_append_getElem h,List.foldl_append]; rfl
theorem further_hit {l:Sys} {c a:Nm} {k:Nat} {w:List Nm} (hk:k≤l.length) (hno:∀ j,j<k→hit a (lsts l c (j+1))=none) (h:hit a (lsts l c (k+1))=some w):further l c a=w:=by
 unfold further
 obtain ⟨m,hm⟩:∃ m,l.length+1=k+(m+1):=⟨l.length - k,by omega⟩
 rw [hm,List.range_add,List.findSome?_append,List.findSome?_eq_none_iff.2 fun i hi=>hno i (List.mem_range.1 hi),List.range_succ_eq_map]
 simp only [List.map_cons,List.findSome?_cons,Nat.add_zero,h,Option.none_or]
 rfl
theorem further_miss {l:Sys} {c a:Nm} (hno:∀ j,j<l.length+1→hit a (lsts l c (j+1))=none):further l c a=[]:=by
 unfold further
 rw [List.findSome?_eq_none_iff.2 fun i hi=>hno i (List.mem_range.1 hi)]; rfl
theorem hit_at {a:Nm} {ls:List (List Nm)} {i:Nat} (h:i<ls.length) (hno:∀ x∈ls.take i,lastN x≠a) (he:lastN ls[i]=a):hit a ls=some ls[i]:=by
 unfold hit
 rw [List.find?_eq_some_iff_getElem]
 refine ⟨by simp [he],i,h,Z,fun j hj=>?_⟩
 have:=hno ls[j] (List.mem_iff_getElem.2 ⟨j,by simp; omega,by simp⟩)
 simp [this]
theorem hit_no {a:Nm} {ls:List (List Nm)} (hno:∀ x∈ls,lastN x≠a):hit a ls=none:=by
 unfold hit
 rw [List.find?_eq_none]
 exact fun x hx=>by simpa using hno x hx
section
variable {S:Res} {v:Value} {l:Sys}
set_option maxHeartbeats 1000000 in
set_option maxRecDepth 100000 in
theorem further_ct (hv : sysR S v l) (hl : l.length ≤ 1000) (hp : ∀ x ∈ l, x.parents.length ≤ 1099511627776) (c a : Nm) : CtN Tryz.prog 111 #[v, sv c, sv a] [S] fun u T => u.oneCell' = true ∧ nmsR T u (further l c a) := by
 obtain ⟨la,cap,rfl,_⟩:=id hv
 refine ct_of (n:=95) Tryz.func111 Z Z (len Z) fun hr w0=>?_
 refine cQ (sA Z (sN (nT (cQ (sM Z (st_buildSlice (cells:=[sv c]) Z Tryz.underlying50 inf9 Z Z (by kernel_rfl) (ltn Z) fun b15=>?_))))))
 refine st_pv (pv_of (b:=b15) (n:=1) (sz:=1) (E:=9) [nC c] Z (by simp [nC]) Z (by decide)) ?_
 simp only [lC,lN]
 refine st_ok (r:=NR (.slice (some ⟨b15,0,none⟩) 1 1) [c]) slq fun hok15=>?_
 refine st_buildSlice (cells:=[.slice (some ⟨b15,0,none⟩) 1 1]) Z Tryz.underlying197 inf50 Z Z (by kernel_rfl) (ltn Z) fun b16=>?_
 refine st_pv (pv_of (b:=b16) (n:=1) (sz:=1) (E:=50) [[.slice (some ⟨b15,0,none⟩) 1 1]] Z (by simp) Z (by decide)) ?_
 simp only [lC,lN]
 refine st_ok (r:=VR (.slice (some ⟨b16,0,none⟩) 1 1) 50 1 [[.slice (some ⟨b15,0,none⟩) 1 1]]) slq fun hok16=>?_
 refine st_pv (pv_pack (L:=[VR (.slice (some ⟨b16,0,none⟩) 1 1) 50 1 [[.slice (some ⟨b15,0,none⟩) 1 1]],NR (.slice (some ⟨b15,0,none⟩) 1 1) [c]])) ?_
 simp only [lC,lN]
 have h0:llR (Res.star [VR (.slice (some ⟨b16,0,none⟩) 1 1) 50 1 [[.slice (some ⟨b15,0,none⟩) 1 1]],NR (.slice (some ⟨b15,0,none⟩) 1 1) [c]]) (.slice (some ⟨b16,0,none⟩) 1 1) [[c]]:=
  row_vr hok16 rfl (rd_in slq) (Cor.one (X:=llC _) ⟨_,rfl,(nms_own hok15).mono (rd_in slq)⟩).2
 generalize Res.star [VR (.slice (some ⟨b16,0,none⟩) 1 1) 50 1 [[.slice (some ⟨b15,0,none⟩) 1 1]],NR (.slice (some ⟨b15,0,none⟩) 1 1) [c]]=T0 at *
 generalize Value.slice (some ⟨b16,0,none⟩) 1 1=w0 at *
 refine sA Z (sK [0,2,6,7] Z (cS (cQ (sA Z (sN (nT (cB (cd_lq (σ := Value×Res×Nat) (fun q=>[(0,.slice la l.length cap),(2,sv a),(7,q.1),(8,.int .i64 (q.2.2:Nat))]) (fun q=>q.2.1::S::hr) (fun q=>q.2.2≤l.length+1∧llR q.2.1 q.1 (lsts l c q.2.2)∧(lsts l c q.2.2).length≤1000∧∀ j,j<q.2.2→hit a (lsts l c (j+1))=none) (fun q=>l.length+1 - q.2.2) (w0,T0,0) ⟨Nat.zero_le _,h0,by simp [lsts],fun j hj=>absurd hj (Nat.not_lt_zero _)⟩ ?_))))))))
 rintro ⟨w,T,k⟩ ⟨hk,hw,hwl,hno⟩
 simp only at hk hw hwl hno
 dsimp only
 obtain ⟨wa,wcap,rfl,_⟩:=id hw
 refine cS (cQ (sM Z (sM Z (sV (v_len Z Tryz.underlying22) (sV (v_leq Z Z) (sK [0,2,7,8,20] Z (cC Z (fun hd=>?_) (fun hd=>?_))))))))
 ·have hkl:k≤l.length:=by simpa using hd
  have hrows:=(lsts_spec l c k).1.1
  have hnext:lsts l c (k+1)=(lsts l c k).foldl (ext1 l) []:=rfl
  generalize lsts l c k=L at *
  refine cK (xT (cS (cB (cQ (sA Z (sK [0,2,7,8,9] Z (cS (cQ (sA Z (sN (nT (cB ?_))))))))))))
  refine cd_vw (vw_unstar (L:=[])) (cd_lq (σ := Value×Res×Nat) (fun q=>[(0,.slice la l.length cap),(2,sv a),(7,.slice wa L.length wcap),(8,.int .i64 (k:Nat)),(9,q.1),(10,.int .i64 (q.2.2:Nat))]) (fun q=>q.2.1::T::S::hr) (fun q=>q.2.2≤L.length∧llR q.2.1 q.1 ((L.take q.2.2).foldl (ext1 l) [])∧Ones (LnP l (k+2)) ((L.take q.2.2).foldl (ext1 l) [])) (fun q=>L.length - q.2.2) (.slice none 0 0,Res.star [],0) ⟨Nat.zero_le _,Row.nil,Ones.empty⟩ ?_)
  rintro ⟨nv,N,i⟩ ⟨hi,hN,hO⟩
  simp only at hi hN hO
  dsimp only
  obtain ⟨na,ncap,rfl,_⟩:=id hN
  refine cS (cQ (sM Z (sM Z (sV (v_len Z Tryz.underlying197) (sV (v_lss Z Z) (sK [0,2,7,8,9,10,26] Z (cC Z (fun hd2=>?_) (fun hd2=>?_))))))))
  ·have hlt:i<L.length:=by simpa using hd2
   have hzi:=List.getElem?_eq_getElem hlt
   obtain ⟨hzl,_⟩:=hrows _ (List.getElem_mem hlt)
   have hex:=exp_succ (l:=l) hlt
   obtain ⟨b,o,cap2,u,hv2,hrd,hu⟩:=ll_at hw hzi
   generalize L[i]=z at *
   generalize (L.take i).foldl (ext1 l) []=N0 at *
   obtain ⟨ua,ucap,rfl,_⟩:=id hu
   obtain ⟨zk,hzk,hzkl,hze⟩:=lastN_get (w:=z) (fun e=>by rw [e] at hzl; simp at hzl)
   obtain ⟨zb,zo,zcap2,hzv2,hzrd⟩:=nms_at hu (List.getElem?_eq_getElem hzk)
   rw [hze] at hzrd
   refine cK (xT (cS (cB (cS (cd_drawh (ork [(0,2),(1,2),(2,2),(3,2),(4,1),(5,2),(6,2),(7,2),(8,1),(9,2),(10,2),(11,2),(12,1),(13,0),(14,2)] .nil) (fun i => !(Nat.beq i 13)) mixed (by kernel_rfl) ?_)))))
   refine dV Z (vM Z) (dV Z (vM Z) (dV Z (vM Z) (dV Z (vI (k:=i) (congrArg some hv2) Z sl197 Z hlt Z) (dr_v Z (vY Z ld50) ?_))))
   refine dV Z (vM Z) (dV Z (vM Z) (dV Z (vI (k:=i) (congrArg some hv2) Z sl197 Z hlt Z) (dr_v Z (vY Z ld50) ?_)))
   refine dV Z (v_len Z Tryz.underlying50) (dV Z (v_sub Z Z (by unfold I64 at *; omega)) (dV Z (vI (k:=zk) (congrArg some hzv2) Z sl50 (by omega) hzk Z) (dr_v Z (vY Z ld9) ?_)))
   refine dr_eff Z (st_cl Z Z en127 Z (parents_ct hv (lastN z) (by omega) hp) ?_)
   rintro u h' ⟨Tp,rfl,hu1,rfl,hpn⟩
   simp only [lC,lN]
   rw [← ext0_all] at hex
   have hpl:=pars_le (c:=lastN z) hp
   generalize pars l (lastN z)=ps at *
   obtain ⟨pa,pcap,rfl,_⟩:=id hpn
   refine dr_nx ?_
   refine dV Z (vA Z) (dr_nil (nK [0,2,7,8,9,10,11] Z (nT (cQ (sA Z (sN (nT (cB (cd_lq (σ := Value×Res×Nat) (fun q=>[(0,.slice la l.length cap),(2,sv a),(7,.slice wa L.length wcap),(8,.int .i64 (k:Nat)),(9,q.1),(10,.int .i64 (i:Nat)),(11,.slice pa ps.length pcap),(12,.int .i64 (q.2.2:Nat))]) (fun q=>q.2.1::NR (.slice pa ps.length pcap) ps::T::S::hr) (fun q=>q.2.2≤ps.length∧llR q.2.1 q.1 (ext0 l z (ps.take q.2.2) N0)∧Ones (LnP l (k+2)) (ext0 l z (ps.take q.2.2) N0)) (fun q=>ps.length - q.2.2) (.slice na N0.length ncap,N,0) ⟨Nat.zero_le _,hN,hO⟩ ?_)))))))))
   rintro ⟨mv,M,j⟩ ⟨hj,hM,hO2⟩
   simp only at hj hM hO2
   dsimp only
   obtain ⟨ma,mcap,rfl,_⟩:=id hM
   refine cS (cQ (sM Z (sM Z (sV (v_len Z Tryz.underlying50) (sV (v_lss Z Z) (sK [0,2,7,8,9,10,11,12,46] Z (cC Z (fun hd3=>?_) (fun hd3=>?_))))))))
   ·have hjlt:j<ps.length:=by simpa using hd3
    obtain ⟨pb,po,pcap2,hpv2,hprd⟩:=nms_at hpn (List.getElem?_eq_getElem hjlt)
    have htk:=List.take_succ_eq_append_getElem hjlt
    generalize ps[j]=p at *
    refine cK (xT (cS (cB (cQ (sM Z (sM Z (sM Z (sV (vI (k:=j) (congrArg some hpv2) Z sl50 Z hjlt Z) (sV (vY Z ld9) ?_)))))))))
    refine st_clr Z Z en85 Z (index_ct hv p (by omega)) ?_
    refine sV (v_geq Z Z) (sK [0,2,7,8,9,10,11,12,55] Z ?_)
    rw [ixN_isC]
    refine cC Z (fun hc=>?_) (fun hc=>?_)
    ·have hyes:=ext0_yes (w:=z) (ps:=ps.take j) (n:=N0) hc
     rw [← htk] at hyes
     generalize ext0 l z (ps.take j) N0=N1 at *
     have hn1:=ones_len hO2
     have hO3:Ones (LnP l (k+2)) (ins1 N1 (z++[p])):=ins1_ones hO2 ⟨by simp [hzl],by rw [lastN_snoc]; exact hc⟩
     refine cd_drawh (ork [(0,2),(2,2),(3,2),(4,2),(5,1),(7,2),(8,2),(9,2),(10,1)] (.two 1 (.two 6 (ork [(11,0),(12,0),(13,0),(14,2)] .nil) 11 (ork [(6,0),(12,0),(13,0),(14,2)] .nil)) 11 (ork [(1,0),(6,0),(12,0),(13,0),(14,2)] .nil))) (fun i => !(Nat.beq i 12 || Nat.beq i 13)) mixed (by kernel_rfl) ?_
     refine dV Z (vM Z) (dV Z (vM Z) (dV Z (vM Z) (dV Z (vI (k:=i) (congrArg some hv2) Z sl197 Z hlt Z) (dr_v Z (vY Z ld50) ?_))))
     refine dV Z (vM Z) (dV Z (vM Z) (dV Z (vI (k:=j) (congrArg some hpv2) Z sl50 Z hjlt Z) (dr_v Z (vY Z ld9) ?_)))
     refine dr_two Z Z ?_ ?_
     ·refine st_bs0 Tryz.underlying50 inf9 fun b57=>dr_nx ?_
      refine dr_two Z Z ?_ ?_
      ·refine st_apr hu Z Z Tryz.underlying50 inf9 Z (by decide) (show Sel _ (VR (.slice (some ⟨b57,0,none⟩) 0 0) 9 1 []) _ from slq) (show Sel _ T _ from slq) (fun us x _ h=>str_one h) (by simp <;> omega) (by simp <;> omega) (ltn Z) fun v62 n1 hv62 q1 q2 q3=>dr_nx ?_
       cases news_names q1 q3
       refine dr_eff Z (st_buildSlice (cells:=[sv p]) Z Tryz.underlying50 inf9 Z Z (by kernel_rfl) (ltn Z) fun b67=>dr_nx ?_)
       refine dr_eff Z (st_app [nC p] Z Z Tryz.underlying50 inf9 Z (by decide) (show Sel _ (VR v62 9 1 ([]++z.map nC)) _ from slq) (by simp [nC]) Z (fun j u2 hu2=>by repeat (first | exact at_here (rd_cl (by simpa [nC] using hu2)) | apply at_there)) (by simp [nC,Value.oneCell']) (by simp <;> omega) (by simp <;> omega) (ltn Z) fun v68 hv68 _=>?_)
       rw [show []++z.map nC++[nC p]=(z++[p]).map nC by simp]
       refine st_ok (r:=NR v68 (z++[p])) slq fun hok68=>?_
       refine dr_nx ?_
       refine dr_eff Z (st_cl Z Z en151 Z (first_ct hM (nms_own hok68) (by simp) (by simp; omega) (fun x hx=>by have:=(hO2.1 x hx).1; exact ⟨fun e=>by rw [e] at this; simp at this,by omega⟩) (by omega)) ?_)
       rintro u h' ⟨T2,rfl,hu2,hT2⟩
       simp only [lC,lN]
       rw [← hyes] at hT2 hO3
       refine dr_nx ?_
       refine dV Z (vA Z) (dr_nil (nK [0,2,7,8,9,10,11,12] Z (nx_xt (xB (xT (cR (sM Z (sV (v_add Z Z (by unfold I64 at *; omega)) (sA Z (sN (nK [0,2,7,8,9,10,11,12] Z (nx_xt ?_))))))))))))
       refine xt_aq (u,T2,j+1) ⟨hjlt,hT2,hO3⟩ (Nat.sub_lt_sub_left hjlt (Nat.lt_succ_self j))
      ·refine st_buildSlice (cells:=[sv p]) Z Tryz.underlying50 inf9 Z Z (by kernel_rfl) (ltn Z) fun b67=>dr_nx ?_
       refine dr_eff Z (st_apr hu Z Z Tryz.underlying50 inf9 Z (by decide) (show Sel _ (VR (.slice (some ⟨b57,0,none⟩) 0 0) 9 1 []) _ from slq) (show Sel _ T _ from slq) (fun us x _ h=>str_one h) (by simp <;> omega) (by simp <;> omega) (ltn Z) fun v62 n1 hv62 q1 q2 q3=>dr_nx ?_)
       cases news_names q1 q3
       refine dr_eff Z (st_app [nC p] Z Z Tryz.underlying50 inf9 Z (by decide) (show Sel _ (VR v62 9 1 ([]++z.map nC)) _ from slq) (by simp [nC]) Z (fun j u2 hu2=>by repeat (first | exact at_here (rd_cl (by simpa [nC] using hu2)) | apply at_there)) (by simp [nC,Value.oneCell']) (by simp <;> omega) (by simp <;> omega) (ltn Z) fun v68 hv68 _=>?_)
       rw [show []++z.map nC++[nC p]=(z++[p]).map nC by simp]
       refine st_ok (r:=NR v68 (z++[p])) slq fun hok68=>?_
       refine dr_nx ?_
       refine dr_eff Z (st_cl Z Z en151 Z (first_ct hM (nms_own hok68) (by simp) (by simp; omega) (fun x hx=>by have:=(hO2.1 x hx).1; exact ⟨fun e=>by rw [e] at this; simp at this,by omega⟩) (by omega)) ?_)
       rintro u h' ⟨T2,rfl,hu2,hT2⟩
       simp only [lC,lN]
       rw [← hyes] at hT2 hO3
       refine dr_nx ?_
       refine dV Z (vA Z) (dr_nil (nK [0,2,7,8,9,10,11,12] Z (nx_xt (xB (xT (cR (sM Z (sV (v_add Z Z (by unfold I64 at *; omega)) (sA Z (sN (nK [0,2,7,8,9,10,11,12] Z (nx_xt ?_))))))))))))
       refine xt_aq (u,T2,j+1) ⟨hjlt,hT2,hO3⟩ (Nat.sub_lt_sub_left hjlt (Nat.lt_succ_self j))
     ·refine st_buildSlice (cells:=[sv p]) Z Tryz.underlying50 inf9 Z Z (by kernel_rfl) (ltn Z) fun b67=>dr_nx ?_
      refine dr_eff Z (st_bs0 Tryz.underlying50 inf9 fun b57=>dr_nx ?_)
      refine dr_eff Z (st_apr hu Z Z Tryz.underlying50 inf9 Z (by decide) (show Sel _ (VR (.slice (some ⟨b57,0,none⟩) 0 0) 9 1 []) _ from slq) (show Sel _ T _ from slq) (fun us x _ h=>str_one h) (by simp <;> omega) (by simp <;> omega) (ltn Z) fun v62 n1 hv62 q1 q2 q3=>dr_nx ?_)
      cases news_names q1 q3
      refine dr_eff Z (st_app [nC p] Z Z Tryz.underlying50 inf9 Z (by decide) (show Sel _ (VR v62 9 1 ([]++z.map nC)) _ from slq) (by simp [nC]) Z (fun j u2 hu2=>by repeat (first | exact at_here (rd_cl (by simpa [nC] using hu2)) | apply at_there)) (by simp [nC,Value.oneCell']) (by simp <;> omega) (by simp <;> omega) (ltn Z) fun v68 hv68 _=>?_)
      rw [show []++z.map nC++[nC p]=(z++[p]).map nC by simp]
      refine st_ok (r:=NR v68 (z++[p])) slq fun hok68=>?_
      refine dr_nx ?_
      refine dr_eff Z (st_cl Z Z en151 Z (first_ct hM (nms_own hok68) (by simp) (by simp; omega) (fun x hx=>by have:=(hO2.1 x hx).1; exact ⟨fun e=>by rw [e] at this; simp at this,by omega⟩) (by omega)) ?_)
      rintro u h' ⟨T2,rfl,hu2,hT2⟩
      simp only [lC,lN]
      rw [← hyes] at hT2 hO3
      refine dr_nx ?_
      refine dV Z (vA Z) (dr_nil (nK [0,2,7,8,9,10,11,12] Z (nx_xt (xB (xT (cR (sM Z (sV (v_add Z Z (by unfold I64 at *; omega)) (sA Z (sN (nK [0,2,7,8,9,10,11,12] Z (nx_xt ?_))))))))))))
      refine xt_aq (u,T2,j+1) ⟨hjlt,hT2,hO3⟩ (Nat.sub_lt_sub_left hjlt (Nat.lt_succ_self j))
    ·have hc:isC l p=false:=by simpa using hc
     have hyes:=ext0_no (w:=z) (ps:=ps.take j) (n:=N0) hc
     rw [← htk] at hyes
     refine cK (xB (xT (cR (sM Z (sV (v_add Z Z (by unfold I64 at *; omega)) (sA Z (sN (nK [0,2,7,8,9,10,11,12] Z (nx_xt ?_)))))))))
     refine xt_aq (.slice ma (ext0 l z (ps.take j) N0).length mcap,M,j+1) ⟨hjlt,by rw [hyes]; exact hM,by rw [hyes]; exact hO2⟩ (Nat.sub_lt_sub_left hjlt (Nat.lt_succ_self j))
   ·have hje:j=ps.length:=by
     have:¬ j<ps.length:=by simpa using hd3
     omega
    subst hje
    rw [List.take_length,← hex] at hM hO2
    refine cd_exit (xE (xE (xY (xB (xT (cR (sM Z (sV (v_add Z Z (by unfold I64 at *; omega)) (sA Z (sN (nK [0,2,7,8,9,10] Z (nx_xt ?_))))))))))))
    refine xt_aq (.slice ma (ext0 l z (ps.take ps.length) N0).length mcap,M,i+1) ⟨hlt,by rw [List.take_length,← hex]; exact hM,hO2⟩ (Nat.sub_lt_sub_left hlt (Nat.lt_succ_self i))
  ·have hie:i=L.length:=by
    have:¬ i<L.length:=by simpa using hd2
    omega
   subst hie
   rw [List.take_length,← hnext] at hN hO
   rw [List.take_length,← hnext]
   refine cd_exit (xE (xE (xY (xT (cS (cQ (sA Z (sK [0,2,7,8,9,13] Z (cB (cd_lq (σ := Nat) (fun i=>[(0,.slice la l.length cap),(2,sv a),(8,.int .i64 (k:Nat)),(9,.slice na (lsts l c (k+1)).length ncap),(13,.int .i64 (i:Nat))]) (fun _=>N::S::hr) (fun i=>i≤(lsts l c (k+1)).length∧∀ x∈(lsts l c (k+1)).take i,lastN x≠a) (fun i=>(lsts l c (k+1)).length - i) 0 ⟨Nat.zero_le _,fun x hx=>by simp at hx⟩ ?_))))))))))
   rintro i ⟨hi,hni⟩
   have hnl:=ones_len hO
   refine cS (cQ (sM Z (sM Z (sV (v_len Z Tryz.underlying197) (sV (v_lss Z Z) (sK [0,2,8,9,13,73] Z (cC Z (fun hd4=>?_) (fun hd4=>?_))))))))
   ·have hlt:i<(lsts l c (k+1)).length:=by simpa using hd4
    obtain ⟨b,o,cap2,u,hv2,hrd,hu⟩:=ll_at hN (List.getElem?_eq_getElem hlt)
    have hzl:=(hO.1 _ (List.getElem_mem hlt)).1
    have hht:=hit_at (a:=a) hlt hni
    have htk:=List.take_succ_eq_append_getElem hlt
    generalize (lsts l c (k+1))[i]=z at *
    obtain ⟨ua,ucap,rfl,_⟩:=id hu
    obtain ⟨zk,hzk,hzkl,hze⟩:=lastN_get (w:=z) (fun e=>by rw [e] at hzl; simp at hzl)
    obtain ⟨zb,zo,zcap2,hzv2,hzrd⟩:=nms_at hu (List.getElem?_eq_getElem hzk)
    rw [hze] at hzrd
    refine cK (xT (cS (cB (cS (cd_drawh (ork [(0,2),(1,2),(2,2),(3,1),(4,2),(5,2),(6,2),(7,1),(8,2),(9,2),(10,2),(11,1),(12,2),(13,1)] .nil) (fun _=>true) mixed (by kernel_rfl) ?_)))))
    refine dV Z (vM Z) (dV Z (vM Z) (dV Z (vI (k:=i) (congrArg some hv2) Z sl197 Z hlt Z) (dr_v Z (vY Z ld50) ?_)))
    refine dV Z (vM Z) (dV Z (vM Z) (dV Z (vI (k:=i) (congrArg some hv2) Z sl197 Z hlt Z) (dr_v Z (vY Z ld50) ?_)))
    refine dV Z (v_len Z Tryz.underlying50) (dV Z (v_sub Z Z (by unfold I64 at *; omega)) (dV Z (vI (k:=zk) (congrArg some hzv2) Z sl50 (by omega) hzk Z) (dr_v Z (vY Z ld9) ?_)))
    refine dV Z (vM Z) (dr_v Z (v_seql Z Z) (dr_nil (nK [0,2,8,9,13,89] Z (nT (cC Z (fun he=>?_) (fun he=>?_))))))
    ·have he:lastN z=a:=by simpa using he
     rw [further_hit hkl hno (hht he)]
     refine cQ (sM Z (sM Z (sV (vI (k:=i) (congrArg some hv2) Z sl197 Z hlt Z) (sV (vY Z ld50) ?_))))
     refine sA Z (sK [6] Z (cT (xW (xR (xR (xW (xR (xW (xR (xR (xW (xR ?_))))))))))))
     exact xt_rt Z ⟨N,Z,Z,hu⟩ sbq
    ·have he:lastN z≠a:=by simpa using he
     refine cK (xB (xT (cR (sM Z (sV (v_add Z Z (by unfold I64 at *; omega)) (sA Z (sN (nK [0,2,8,9,13] Z (nx_xt (xt_aq (i+1) ⟨hlt,fun x hx=>?_⟩ (by show _ - _<_ - _; omega)))))))))))
     rw [htk] at hx
     rcases List.mem_append.1 hx with hx | hx
     ·exact hni x hx
     ·simp at hx; rw [hx]; exact he
   ·have hie:i=(lsts l c (k+1)).length:=by
     have:¬ i<(lsts l c (k+1)).length:=by simpa using hd4
     omega
    subst hie
    rw [List.take_length] at hni
    refine cd_exit (xE (xE (xY (xT (cR (sM Z (sA Z (sN (nK [0,2,7,8] Z (nx_xt (xB (xT (cR (sM Z (sV (v_add Z Z (by unfold I64 at *; omega)) ?_)))))))))))))))
    refine sA Z (sN (nK [0,2,7,8] Z (nx_xt (xt_aq (.slice na (lsts l c (k+1)).length ncap,N,k+1) ⟨by show k+1≤l.length+1; omega,hN,Nat.le_trans (ones_len hO) hl,fun j hj=>?_⟩ (by show l.length+1 - (k+1)<l.length+1 - k; omega)))))
    rcases Nat.lt_or_ge j k with h | h
    ·exact hno j h
    ·have hj:j<k+1:=hj
     rw [show j=k by omega]
     exact hit_no hni
 ·have hkl:k=l.length+1:=by
   have:¬ k≤l.length:=by simpa using hd
   omega
  subst hkl
  rw [further_miss hno]
  refine cd_exit (xE (xE (xY (xT (cQ (sA Z (sK [6] Z (cT ?_))))))))
  exact xt_rt Z ⟨T,Z,Z,Row.nil⟩ sbq
end
end Go.Hr
namespace Go.Hr
open Go Go.RowKit Go.Ck Go.Proofs Go.Proofs.YtaohbfnepjjdgaaGreat Fx
attribute [local irreducible] Go.Ck.Sub St Cd Xt Nx DrL LsW
theorem further_len (l:Sys) (c a:Nm):further l c a=[]∨(2≤(further l c a).length∧(further l c a).length≤l.length+2):=by
 unfold further
 cases hf:(List.range (l.length+1)).findSome? fun k=>hit a (lsts l c (k+1)) with
 | none=>exact .inl rfl
 | some w =>
  obtain ⟨k,hk,h⟩:=List.exists_of_findSome?_eq_some hf
  obtain ⟨_,h2,_⟩:=hit_some h
  have:=List.mem_range.1 hk
  exact .inr ⟨by simp only [Option.getD_some]; omega,by simp only [Option.getD_some]; omega⟩
def noRing (l:Sys) (xs:Sys):Prop:=∀ x∈xs,further l x.name x.name=[]
theorem noRing_snoc {l xs:Sys} {x:Cls}:noRing l (xs++[x])↔noRing l xs∧further l x.name x.name=[]:=by
 unfold noRing
 constructor
 ·exact fun h=>⟨fun y hy=>h y (by simp [hy]),h x (by simp)⟩
 ·rintro ⟨h1,h2⟩ y hy
  rcases List.mem_append.1 hy with hy | hy
  ·exact h1 y hy
  ·simp at hy; rw [hy]; exact h2
theorem noRing_acyc {l : Sys} : noRing l l ↔ Acyc l := by
 constructor
 ·intro h c p hp
  have hc:=par_of hp
  cases hh:has l p c with
  | false=>rfl
  | true =>
   obtain ⟨x,hx,rfl⟩:=List.mem_map.1 (isC_iff.1 hc)
   exact absurd (h x hx) (further_ring.2 ⟨p,hp,hh⟩)
 ·intro h x hx
  rcases further_len l x.name x.name with h1 | ⟨h1,_⟩
  ·exact h1
  ·obtain ⟨p,hp,hh⟩:=(further_ring (l:=l) (c:=x.name)).1 (fun e=>by rw [e] at h1; simp at h1)
   rw [h x.name p hp] at hh; cases hh
theorem better_pick {l : Sys} {cs best r2 : List Nm} (hbest : best = (ringF l cs).getD []) (hb : ((((best.length : Int) == 0) || decide ((r2.length : Int) < best.length)) || (((r2.length : Int) == best.length) && lexLt r2 best)) = true) : better (ringF l cs) r2 = some r2 := by
 cases h:ringF l cs with
 | none=>rfl
 | some q =>
  rw [h] at hbest
  simp only [Option.getD_some] at hbest
  subst hbest
  have hne:=ringF_ne h
  have h0:¬ ((best.length:Int)=0):=by
   intro e
   exact hne (List.eq_nil_of_length_eq_zero (by omega))
  simp only [better]
  rw [if_pos]
  unfold ringLt
  simp only [Bool.or_eq_true,Bool.and_eq_true,beq_iff_eq,decide_eq_true_eq] at hb ⊢
  rcases hb with (h1 | h1) | ⟨h1,h2⟩
  ·exact absurd h1 h0
  ·left; omega
  ·exact .inr ⟨by omega,h2⟩
theorem better_keep {l : Sys} {cs best r2 : List Nm} (hbest : best = (ringF l cs).getD []) (hne : best ≠ []) (hb : ((((best.length : Int) == 0) || decide ((r2.length : Int) < best.length)) || (((r2.length : Int) == best.length) && lexLt r2 best)) = false) : better (ringF l cs) r2 = ringF l cs := by
 cases h:ringF l cs with
 | none=>rw [h] at hbest; exact absurd hbest hne
 | some q =>
  rw [h] at hbest
  simp only [Option.getD_some] at hbest
  subst hbest
  simp only [better]
  rw [if_neg]
  unfold ringLt
  simp only [Bool.or_eq_false_iff,Bool.and_eq_false_iff,beq_eq_false_iff_ne,decide_eq_false_iff_not] at hb
  simp only [Bool.or_eq_true,Bool.and_eq_true,decide_eq_true_eq]
  rintro (h1 | ⟨h1,h2⟩)
  ·exact hb.1.2 (by omega)
  ·rcases hb.2 with h3 | h3
   ·exact h3 (by omega)
   ·rw [h2] at h3; cases h3
section
variable {S:Res} {v:Value} {l:Sys}
set_option maxRecDepth 100000 in
theorem RingS_ct (hv : sysR S v l) (hl : l.length ≤ 24) (hp : ∀ x ∈ l, x.parents.length ≤ 1099511627776) : CtN Tryz.prog 86 #[v] [S] fun u T => ∃ r, u.oneCell' = true ∧ nmsR T u r ∧ r.length ≤ 1000 ∧ (r = [] ↔ noRing l l) ∧ r = (ring l).getD [] := by
 obtain ⟨la,cap,rfl,_⟩:=id hv
 refine ct_of (n:=63) Tryz.func86 Z Z (len Z) fun hr w0=>?_
 refine cQ (sA Z (sN (nT (cQ (sA Z (sN (nT (cS (cQ (sA Z (sN (nT (cB ?_)))))))))))))
 refine cd_vw (vw_unstar (L:=[])) (cd_lq (σ := Value×List Nm×Res×Nat) (fun q=>[(0,.slice la l.length cap),(3,q.1),(4,.int .i64 (q.2.2.2:Nat))]) (fun q=>q.2.2.1::S::hr) (fun q=>q.2.2.2≤l.length∧nmsR q.2.2.1 q.1 q.2.1∧q.2.1.length≤1000∧(q.2.1=[]↔noRing l (l.take q.2.2.2))∧q.2.1=(ringF l (nms (l.take q.2.2.2))).getD []) (fun q=>l.length - q.2.2.2) (.slice none 0 0,[],Res.star [],0) ⟨Nat.zero_le _,Row.nil,by simp,by simp [noRing],Z⟩ ?_)
 rintro ⟨w,best,T,i⟩ ⟨hi,hw,hbl,hbn,hbr⟩
 simp only at hi hw hbl hbn hbr
 dsimp only
 obtain ⟨wa,wcap,rfl,_⟩:=id hw
 refine cS (cQ (sM Z (sM Z (sV (v_len Z Tryz.underlying22) (sV (v_lss Z Z) (sM Z (st_cut (k:=9) (d:=15) (v:=.bool (decide ((i:Int)<l.length) && decide ((l.length:Int)≤24))) (fun hcut=>bool_want (b:=decide ((i:Int)<l.length)) true (fun hg=>?_) (fun hg=>?_)) ?_)))))))
 ·refine st_sk Z Z hg ?_
  iterate 2 refine st_sk rfl rfl hg ?_
  refine sV (vP (bO Z hg) Z) ?_
  exact hcut _ uG
 ·refine sG Z (bG Z hg) (vM Z) (sG Z (bG Z hg) (v_len Z Tryz.underlying22) (sG Z (bG Z hg) (v_leq Z Z) (sV (vQ (bO Z hg) Z) ?_)))
  exact hcut _ uG
 refine sK [0,3,4,15] Z ?_
 rw [show decide ((l.length:Int)≤24)=true from decide_eq_true (by omega),Bool.and_true]
 refine cC Z (fun hd=>?_) (fun hd=>?_)
 ·have hlt:i<l.length:=by simpa using hd
  have hxi:=List.getElem?_eq_getElem hlt
  obtain ⟨b,o,cap2,d,f,pa,pc,c2,fa,fc,j2,hv2,hrd,hP,hone⟩:=sys_at hv hxi
  have htk:=List.take_succ_eq_append_getElem hlt
  generalize l[i]=x at *
  refine cK (xT (cS (cB (cS (cd_drawh (ork [(0,2),(1,2),(2,2),(3,2),(4,2),(5,1),(6,2),(7,2),(8,2),(9,2),(10,1),(11,0),(12,2)] .nil) (fun i => !(Nat.beq i 11)) mixed (by kernel_rfl) ?_)))))
  refine dV Z (vM Z) (dV Z (vM Z) (dV Z (vM Z) (dV Z (vI (k:=i) (congrArg some hv2) Z sl22 Z hlt Z) (dV Z (vF Z fa54_0 Z) (dr_v Z (vY Z ld9) ?_)))))
  refine dV Z (vM Z) (dV Z (vM Z) (dV Z (vI (k:=i) (congrArg some hv2) Z sl22 Z hlt Z) (dV Z (vF Z fa54_0 Z) (dr_v Z (vY Z ld9) ?_))))
  refine dr_eff Z (st_cl Z Z en111 Z (further_ct hv (by omega) hp x.name x.name) ?_)
  rintro u h' ⟨T2,rfl,hu1,hu⟩
  simp only [lC,lN]
  have hfl:=further_len l x.name x.name
  have hsn:=noRing_snoc (l:=l) (xs:=l.take i) (x:=x)
  rw [← htk] at hsn
  have hnt:nms (l.take (i+1))=nms (l.take i)++[x.name]:=by rw [htk]; simp [nms]
  have hfc0:further l x.name x.name=[]→ringF l (nms (l.take (i+1)))=ringF l (nms (l.take i)):=fun h=>by
   rw [hnt,ringF_snoc,show fcand l x.name=none from if_pos h]
  have hfc1:further l x.name x.name≠[]→ringF l (nms (l.take (i+1)))=better (ringF l (nms (l.take i))) (further l x.name x.name).dropLast:=fun h=>by
   rw [hnt,ringF_snoc,show fcand l x.name=some _ from if_neg h]
  generalize further l x.name x.name=r at *
  obtain ⟨ua,ucap,rfl,huc,_⟩:=id hu
  refine dr_nx ?_
  refine dV Z (vA Z) (dr_nil (nK [0,3,4,5] Z (nT (cS (cQ (sM Z (sV (v_len Z Tryz.underlying50) (sV (v_eql Z Z) (sK [0,3,4,5,32] Z ?_)))))))))
  have hrl:r.length≤26:=by rcases hfl with h | h; rw [h]; simp; omega
  refine cC Z (fun he=>?_) (fun he=>?_)
  ·have he:r=[]:=by simpa using he
   refine cd_exit (xE (xY (xT (cR (sM Z (sV (v_add Z Z (by unfold I64 at *; omega)) (sA Z (sN (nK [0,3,4] Z (nx_xt ?_))))))))))
   refine xt_aq (.slice wa best.length wcap,best,T,i+1) ⟨hlt,hw,hbl,by rw [hbn]; exact ⟨fun h=>hsn.2 ⟨h,he⟩,fun h=>(hsn.1 h).1⟩,by rw [hfc0 he]; exact hbr⟩ (Nat.sub_lt_sub_left hlt (Nat.lt_succ_self i))
  ·have he:r≠[]:=by simpa using he
   have h2:2≤r.length:=(hfl.resolve_left he).1
   have hnr:¬ noRing l (l.take (i+1)):=fun h=>he (hsn.1 h).2
   refine cK (xT (cQ (sM Z (sM Z (sV (v_len Z Tryz.underlying50) (sV (v_sub Z Z (by unfold I64 at *; omega)) ?_))))))
   obtain ⟨rb,ro,rcap,hrv,_⟩:=nms_at hu (List.getElem?_eq_getElem (show 0<r.length by omega))
   cases hrv
   refine sV (v_sliceHead (hi:=r.length - 1) Z Z sl50 (by omega) (by omega)) (sA Z (sK [0,3,4,5] Z (cQ (sM Z (sM Z ?_)))))
   have hu2:=Row.take (k:=r.length - 1) hu (by omega)
   have hrl2:(r.take (r.length - 1)).length=r.length - 1:=by simp
   have hrn:r.take (r.length - 1)≠[]:=fun e=>by rw [e] at hrl2; simp at hrl2; omega
   have hfc2:=hfc1 he
   rw [List.dropLast_eq_take] at hfc2
   clear hfc0 hfc1
   generalize r.take (r.length - 1)=r2 at *
   rw [← hrl2] at hu2
   rw [← hrl2]
   refine st_clr Z Z en143 Z (Before_ct hu2 hw (by omega) (by omega)) ?_
   refine sA Z (sK [0,3,4,5,6] Z (cQ (sM Z (sV (v_len Z Tryz.underlying50) (sV (v_eql Z Z) (sM Z (st_cut (k:=10) (d:=50) (v:=.bool (((best.length:Int) == 0) || decide ((r2.length:Int)<best.length))) (fun hcut=>bool_want (b:=((best.length:Int) == 0)) false (fun hg=>?_) (fun hg=>?_)) ?_)))))))
   ·refine st_sk Z Z hg ?_
    iterate 4 refine st_sk rfl rfl hg ?_
    refine sV (vQ (bO Z hg) Z) ?_
    exact hcut _ uG
   ·refine sG Z (bG Z hg) (vM Z) (sG Z (bG Z hg) (v_len Z Tryz.underlying50) (sG Z (bG Z hg) (vM Z) (sG Z (bG Z hg) (v_len Z Tryz.underlying50) (sG Z (bG Z hg) (v_lss Z Z) (sV (vP (bO Z hg) Z) ?_)))))
    exact hcut _ uG
   refine sM Z (st_cut (k:=20) (d:=60) (v:=.bool ((((best.length:Int) == 0) || decide ((r2.length:Int)<best.length)) || (((r2.length:Int) == best.length) && lexLt r2 best))) (fun hcut=>bool_want (b:=(((best.length:Int) == 0) || decide ((r2.length:Int)<best.length))) false (fun hg=>?_) (fun hg=>?_)) ?_)
   ·refine st_sk Z Z hg ?_
    iterate 5 refine st_sk rfl rfl hg ?_
    refine st_sku Z Z ?_
    refine st_sk Z Z hg ?_
    refine sV (vQ (bO Z hg) Z) ?_
    exact hcut _ uG
   ·refine sG Z (bG Z hg) (vM Z) (sG Z (bG Z hg) (v_len Z Tryz.underlying50) (sG Z (bG Z hg) (vM Z) (sG Z (bG Z hg) (v_len Z Tryz.underlying50) (sG Z (bG Z hg) (v_eql Z Z) (sG Z (bG Z hg) (vM Z) (st_cut (k:=19) (d:=59) (v:=.bool (((r2.length:Int) == best.length) && lexLt r2 best)) (fun hcut=>bool_want (b:=((r2.length:Int) == best.length)) true (fun hg1=>?_) (fun hg1=>?_)) ?_))))))
    ·refine st_sk Z Z hg1 ?_
     refine sG Z (bG Z hg) (vP (bO Z hg1) Z) ?_
     exact hcut _ (uH (by first | rfl | (rw [hg1]; rfl) | simp_all) (uS Z (uR)))
    ·refine sG Z (bG Z hg1) (vM Z) (sG Z (bG Z hg) (vQ (bO Z hg1) Z) ?_)
     exact hcut _ (uH (by first | rfl | (rw [hg1]; rfl) | simp_all) (uS Z (uR)))
    refine sV (vP (bO Z hg) Z) ?_
    exact hcut _ (uH (by first | rfl | (rw [hg]; rfl) | simp_all) (by repeat (first | exact uR | refine uS Z ?_)))
   refine sK [0,3,4,5,60] Z (cC Z (fun hb=>?_) (fun hb=>?_))
   ·refine cR (sM Z (sA Z (sN (nK [0,3,4] Z (nx_xt (xB (xT (cR (sM Z (sV (v_add Z Z (by unfold I64 at *; omega)) (sA Z (sN (nK [0,3,4] Z (nx_xt ?_))))))))))))))
    refine xt_aq (.slice (some ⟨rb,ro,none⟩) r2.length ucap,r2,T2,i+1) ⟨hlt,hu2,by show r2.length≤1000; omega,⟨fun h=>absurd h hrn,fun h=>absurd h hnr⟩,by rw [hfc2,better_pick hbr hb]; rfl⟩ (Nat.sub_lt_sub_left hlt (Nat.lt_succ_self i))
   ·have hbe:best≠[]:=fun e=>by rw [e] at hb; simp at hb
    refine cK (xB (xT (cR (sM Z (sV (v_add Z Z (by unfold I64 at *; omega)) (sA Z (sN (nK [0,3,4] Z (nx_xt ?_)))))))))
    refine xt_aq (.slice wa best.length wcap,best,T,i+1) ⟨hlt,hw,hbl,⟨fun h=>absurd h hbe,fun h=>absurd h hnr⟩,by rw [hfc2,better_keep hbr hbe hb]; exact hbr⟩ (Nat.sub_lt_sub_left hlt (Nat.lt_succ_self i))
 ·have hil:i=l.length:=by
   have:¬ i<l.length:=by simpa using hd
   omega
  subst hil
  rw [List.take_length] at hbn hbr
  rw [ringF_ring] at hbr
  refine cd_exit (xE (xE (xY (xT (cQ (sM Z (sA Z (sK [2] Z (cT ?_)))))))))
  exact xt_rt Z ⟨T,Z,best,Z,hw,hbl,hbn,hbr⟩ sbq
end
end Go.Hr
