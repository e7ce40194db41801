/-
  The specification: first. Conditions: what is read.
  The specification: further. Conditions: what is read.
  The specification: Ring. Conditions: what is read.
  The specification: Check,asked. Conditions: what is read.
  The specification: Way,CheckWay. Conditions: what is read.
-/
import Derived.Test.YtaohbfnepjjdgaaGreatM10
import Derived.Test.YtaohbfnepjjdgaaGreatM7
import Derived.Test.YtaohbfnepjjdgaaGreatM2
import Derived.Test.YtaohbfnepjjdgaaGreatM9
set_option linter.unusedVariables false
set_option linter.unusedSimpArgs false
namespace Go.Hr
open Go Go.RowKit Go.Ck Go.Proofs Go.Proofs.YtaohbfnepjjdgaaGreat Fx
attribute [local irreducible] Go.Ck.Sub St Cd Xt Nx DrL LsW
def Cor {α : Type} (X:List Value → α → Prop) (rows:List (List Value)) (l:List α):Prop:=rows.length=l.length∧∀ (i:Nat) us x,rows[i]? = some us→l[i]? = some x→X us x
section
variable {α : Type} {X X':List Value → α → Prop} {r s:List (List Value)} {l m:List α}
theorem Cor.nil:Cor X [] ([]:List α):=⟨rfl,fun i us x h=>by simp at h⟩
theorem Cor.one {us:List Value} {x : α} (h:X us x):Cor X [us] [x]:=⟨rfl,fun i us' x' h1 h2=>by
 have hi:i=0:=by have:=(List.getElem?_eq_some_iff.1 h1).1; simpa using this
 subst hi
 cases h1; cases h2; exact h⟩
theorem Cor.app (h1:Cor X r l) (h2:Cor X s m):Cor X (r++s) (l++m):=⟨by rw [List.length_append,List.length_append,h1.1,h2.1],fun i us x g1 g2=>by
 rcases Nat.lt_or_ge i r.length with h | h
 ·rw [List.getElem?_append_left h] at g1
  rw [List.getElem?_append_left (by rw [← h1.1]; exact h)] at g2
  exact h1.2 i us x g1 g2
 ·rw [List.getElem?_append_right h] at g1
  rw [List.getElem?_append_right (by rw [← h1.1]; exact h),← h1.1] at g2
  exact h2.2 _ us x g1 g2⟩
theorem Cor.mono (h:Cor X r l) (hx:∀ us x,X us x→X' us x):Cor X' r l:=⟨h.1,fun i us x h1 h2=>hx _ _ (h.2 i us x h1 h2)⟩
end
theorem llC.mono {S S':Res} (hr:∀ p u,Rd S p u→Rd S' p u) {us:List Value} {xs:List Nm} (h:llC S us xs):llC S' us xs:=let ⟨u,h1,h2⟩:=h; ⟨u,h1,h2.mono hr⟩
theorem llC.one {S:Res} {us:List Value} {xs:List Nm} (h:llC S us xs):∀ u∈us,u.oneCell'=true:=fun u hu=>by
 obtain ⟨w,rfl,h2⟩:=h
 simp at hu
 subst hu; exact Row.one h2
theorem lastN_get {w:List Nm} (h:w≠[]):∃ k,∃ hk:k<w.length,w.length=k+1∧w[k]=lastN w:=by
 have h0:=List.length_pos_iff.2 h
 refine ⟨w.length - 1,by omega,by omega,?_⟩
 unfold lastN
 rw [List.getLastD_eq_getLast?,List.getLast?_eq_getElem?,List.getElem?_eq_getElem (by omega)]
 rfl
theorem ins1_skip {one:List Nm}:∀ {xss:List (List Nm)} {i:Nat},(∀ x∈xss.take i,lastN x≠lastN one)→ins1 xss one=xss.take i++ins1 (xss.drop i) one
 | [],i,_=>by simp
 | x::t,0,_=>by simp
 | x::t,i+1,h=>by
  rw [List.take_succ_cons,List.drop_succ_cons,List.cons_append,← ins1_skip (xss:=t) (i:=i) fun y hy=>h y (by rw [List.take_succ_cons]; exact List.mem_cons_of_mem _ hy)]
  rw [ins1,if_neg (h x (by rw [List.take_succ_cons]; exact List.mem_cons_self))]
section
variable {A B:Res} {w ov:Value} {xss:List (List Nm)} {one:List Nm}
set_option maxRecDepth 100000 in
theorem first_ct (hv : llR A w xss) (ho : nmsR B ov one) (hne : one ≠ []) (hol : one.length ≤ 1099511627776) (hxs : ∀ x ∈ xss, x ≠ [] ∧ x.length ≤ 1099511627776) (hl : xss.length ≤ 1000000) : Ct Tryz.prog 151 #[w, ov] [A, B] fun u h' => ∃ T, h' = [T] ∧ u.oneCell' = true ∧ llR T u (ins1 xss one) := by
 obtain ⟨la,lcap,rfl,hlc,_⟩:=id hv
 obtain ⟨oa,ocap,rfl,_⟩:=id ho
 obtain ⟨ok,hok,hokl,hoe⟩:=lastN_get hne
 obtain ⟨ob,oo,ocap2,hov2,hord⟩:=nms_at ho (List.getElem?_eq_getElem hok)
 rw [hoe] at hord
 refine ct_of (n:=59) Tryz.func151 Z Z (len Z) fun hr w0=>?_
 refine cQ (sA Z (sN (nT (cS (cQ (sA Z (sN (nT (cB (cd_lq (σ := Nat) (fun i=>[(0,.slice la xss.length lcap),(1,.slice oa one.length ocap),(5,.int .i64 (i:Nat))]) (fun _=>A::B::hr) (fun i=>i≤xss.length∧∀ x∈xss.take i,lastN x≠lastN one) (fun i=>xss.length - i) 0 ⟨Nat.zero_le _,fun x hx=>by simp at hx⟩ ?_))))))))))
 rintro i ⟨hi,hno⟩
 refine cS (cQ (sM Z (sM Z (sV (v_len Z Tryz.underlying197) (sV (v_lss Z Z) (sK [0,1,5,10] Z (cC Z (fun hd=>?_) (fun hd=>?_))))))))
 ·have hlt:i<xss.length:=by simpa using hd
  have hxi:=List.getElem?_eq_getElem hlt
  obtain ⟨hx1,hx2⟩:=hxs _ (List.getElem_mem hlt)
  obtain ⟨b,o,cap2,u,hv2,hrd,hu⟩:=ll_at hv hxi
  have hdr:=(List.getElem_cons_drop hlt).symm
  have hsk:=ins1_skip hno
  rw [hdr,ins1] at hsk
  have htk:=List.take_succ_eq_append_getElem hlt
  generalize xss[i]=z at *
  obtain ⟨ua,ucap,rfl,_⟩:=id hu
  obtain ⟨zk,hzk,hzkl,hze⟩:=lastN_get hx1
  obtain ⟨zb,zo,zcap2,hzv2,hzrd⟩:=nms_at hu (List.getElem?_eq_getElem hzk)
  rw [hze] at hzrd
  refine cK (xT (cS (cB (cS (cd_drawh (ork [(0,2),(1,2),(2,2),(3,1),(4,2),(5,2),(6,2),(7,1),(8,2),(9,2),(10,2),(11,1),(12,2),(13,2),(14,2),(15,2),(16,2),(17,1),(18,1)] .nil) (fun _=>true) mixed (by kernel_rfl) ?_)))))
  refine dV Z (vM Z) (dV Z (vM Z) (dV Z (vI (k:=i) (congrArg some hv2) Z sl197 Z hlt Z) (dr_v Z (vY Z ld50) ?_)))
  refine dV Z (vM Z) (dV Z (vM Z) (dV Z (vI (k:=i) (congrArg some hv2) Z sl197 Z hlt Z) (dr_v Z (vY Z ld50) ?_)))
  refine dV Z (v_len Z Tryz.underlying50) (dV Z (v_sub Z Z (by unfold I64 at *; omega)) (dV Z (vI (k:=zk) (congrArg some hzv2) Z sl50 (by omega) hzk Z) (dr_v Z (vY Z ld9) ?_)))
  refine dV Z (vM Z) (dV Z (vM Z) (dV Z (v_len Z Tryz.underlying50) (dV Z (v_sub Z Z (by unfold I64 at *; omega)) (dV Z (vI (k:=ok) (congrArg some hov2) Z sl50 (by omega) hok Z) (dr_v Z (vY Z ld9) ?_)))))
  refine dr_v Z (v_seql Z Z) (dr_nil (nK [0,1,5,31] Z (nT (cC Z (fun he=>?_) (fun he=>?_)))))
  ·have he:lastN z=lastN one:=by simpa using he
   rw [if_pos he] at hsk
   refine cQ (sM Z (sM Z (sM Z (sV (vI (k:=i) (congrArg some hv2) Z sl197 Z hlt Z) (sV (vY Z ld50) ?_)))))
   refine st_clr Z Z en143 Z (Before_ct ho hu hol hx2) ?_
   refine sA Z (sK [0,1,5,6] Z (cS (cQ (sM Z (sK [0,1,5,38] Z (cC Z (fun hlx=>?_) (fun hlx=>?_)))))))
   ·rw [if_pos hlx] at hsk
    rw [hsk]
    cases hv2
    refine cS (cd_drawh (ork [(1,2),(2,2),(3,1),(5,2),(8,2),(9,2),(10,2),(11,1)] (.two 0 (.two 4 (ork [(6,0),(7,0),(12,0),(13,2)] .nil) 6 (ork [(4,0),(7,0),(12,0),(13,2)] .nil)) 6 (ork [(0,0),(4,0),(7,0),(12,0),(13,2)] .nil))) (fun i => !(Nat.beq i 12)) mixed (by kernel_rfl) ?_)
    refine dV Z (vM Z) (dV Z (vM Z) (dr_v Z (v_sliceHead (hi:=i) Z Z sl197 Z (by omega)) (dV Z (vM Z) (dV Z (vM Z) (dV Z (vM Z) (dV Z (v_add Z Z (by unfold I64 at *; omega)) (dr_v Z (v_sliceTail (lo:=i+1) Z Z sl197 Z hlt (by omega)) (dr_two Z Z ?_ ?_))))))))
    ·refine st_bs0 Tryz.underlying197 inf50 fun b39=>dr_nx ?_
     refine dr_two Z Z ?_ ?_
     ·refine st_apr (hv.take (Nat.le_of_lt hlt)) Z Z Tryz.underlying197 inf50 Z (by decide) (show Sel _ (VR (.slice (some ⟨b39,0,none⟩) 0 0) 50 1 []) _ from slq) (show Sel _ A _ from slq) (fun us x _ h=>llC.one h) (by simp [List.length_take] <;> omega) (by simp <;> omega) (ltn Z) fun v43 n1 hv43 q1 q2 q3=>dr_nx ?_
      refine dr_eff Z (st_buildSlice (cells:=[.slice oa one.length ocap]) Z Tryz.underlying197 inf50 Z Z (by kernel_rfl) (ltn Z) fun b45=>dr_nx ?_)
      refine dr_eff Z (st_app [[.slice oa one.length ocap]] Z Z Tryz.underlying197 inf50 Z (by decide) (show Sel _ (VR v43 50 1 ([]++n1)) _ from slq) (by simp) Z (fun j u2 hu2=>by repeat (first | exact at_here (rd_cl (by simpa using hu2)) | apply at_there)) (by simp [Value.oneCell']) (by simp [q1]; omega) (by simp [q1]; omega) (ltn Z) fun v46 hv46 _=>dr_nx ?_)
      refine dr_eff Z (st_apr (hv.drop (k:=i+1) hlt) Z Z Tryz.underlying197 inf50 Z (by decide) (show Sel _ (VR v46 50 1 ([]++n1++[[.slice oa one.length ocap]])) _ from slq) (show Sel _ A _ from slq) (fun us x _ h=>llC.one h) (by simp [q1]; omega) (by simp [q1]; omega) (ltn Z) fun v51 n3 hv51 r1 r2 r3=>dr_nx ?_)
      refine dV Z (vA Z) (dr_nil (nK [4] Z (nT (cT (xR (xW (xR (xR (xW (xR (xt_ok (r:=VR v51 50 1 ([]++n1++[[.slice oa one.length ocap]]++n3)) slq fun hokv=>?_)))))))))))
      refine xt_pv (pv_pack (L:=[VR v51 50 1 ([]++n1++[[.slice oa one.length ocap]]++n3),A,B])) ?_
      have hA:∀ p u,Rd A p u→Rd (Res.star [VR v51 50 1 ([]++n1++[[.slice oa one.length ocap]]++n3),A,B]) p u:=rd_in slq
      have hB:∀ p u,Rd B p u→Rd (Res.star [VR v51 50 1 ([]++n1++[[.slice oa one.length ocap]]++n3),A,B]) p u:=rd_in slq
      have hcor:=((Cor.nil.app (Cor.mono (X:=llC A) ⟨q1,q3⟩ fun us x h=>h.mono hA)).app (Cor.one ⟨_,rfl,ho.mono hB⟩)).app (Cor.mono (X:=llC A) ⟨r1,r3⟩ fun us x h=>h.mono hA)
      exact xt_rt Z ⟨Res.star [VR v51 50 1 ([]++n1++[[.slice oa one.length ocap]]++n3),A,B],Z,hv51,row_vr hokv (by simp [q1,r1] <;> omega) (rd_in slq) (by simpa using hcor.2)⟩ sbq
     ·refine st_buildSlice (cells:=[.slice oa one.length ocap]) Z Tryz.underlying197 inf50 Z Z (by kernel_rfl) (ltn Z) fun b45=>dr_nx ?_
      refine dr_eff Z (st_apr (hv.take (Nat.le_of_lt hlt)) Z Z Tryz.underlying197 inf50 Z (by decide) (show Sel _ (VR (.slice (some ⟨b39,0,none⟩) 0 0) 50 1 []) _ from slq) (show Sel _ A _ from slq) (fun us x _ h=>llC.one h) (by simp [List.length_take] <;> omega) (by simp <;> omega) (ltn Z) fun v43 n1 hv43 q1 q2 q3=>dr_nx ?_)
      refine dr_eff Z (st_app [[.slice oa one.length ocap]] Z Z Tryz.underlying197 inf50 Z (by decide) (show Sel _ (VR v43 50 1 ([]++n1)) _ from slq) (by simp) Z (fun j u2 hu2=>by repeat (first | exact at_here (rd_cl (by simpa using hu2)) | apply at_there)) (by simp [Value.oneCell']) (by simp [q1]; omega) (by simp [q1]; omega) (ltn Z) fun v46 hv46 _=>dr_nx ?_)
      refine dr_eff Z (st_apr (hv.drop (k:=i+1) hlt) Z Z Tryz.underlying197 inf50 Z (by decide) (show Sel _ (VR v46 50 1 ([]++n1++[[.slice oa one.length ocap]])) _ from slq) (show Sel _ A _ from slq) (fun us x _ h=>llC.one h) (by simp [q1]; omega) (by simp [q1]; omega) (ltn Z) fun v51 n3 hv51 r1 r2 r3=>dr_nx ?_)
      refine dV Z (vA Z) (dr_nil (nK [4] Z (nT (cT (xR (xW (xR (xR (xW (xR (xt_ok (r:=VR v51 50 1 ([]++n1++[[.slice oa one.length ocap]]++n3)) slq fun hokv=>?_)))))))))))
      refine xt_pv (pv_pack (L:=[VR v51 50 1 ([]++n1++[[.slice oa one.length ocap]]++n3),A,B])) ?_
      have hA:∀ p u,Rd A p u→Rd (Res.star [VR v51 50 1 ([]++n1++[[.slice oa one.length ocap]]++n3),A,B]) p u:=rd_in slq
      have hB:∀ p u,Rd B p u→Rd (Res.star [VR v51 50 1 ([]++n1++[[.slice oa one.length ocap]]++n3),A,B]) p u:=rd_in slq
      have hcor:=((Cor.nil.app (Cor.mono (X:=llC A) ⟨q1,q3⟩ fun us x h=>h.mono hA)).app (Cor.one ⟨_,rfl,ho.mono hB⟩)).app (Cor.mono (X:=llC A) ⟨r1,r3⟩ fun us x h=>h.mono hA)
      exact xt_rt Z ⟨Res.star [VR v51 50 1 ([]++n1++[[.slice oa one.length ocap]]++n3),A,B],Z,hv51,row_vr hokv (by simp [q1,r1] <;> omega) (rd_in slq) (by simpa using hcor.2)⟩ sbq
    ·refine st_buildSlice (cells:=[.slice oa one.length ocap]) Z Tryz.underlying197 inf50 Z Z (by kernel_rfl) (ltn Z) fun b45=>dr_nx ?_
     refine dr_eff Z (st_bs0 Tryz.underlying197 inf50 fun b39=>dr_nx ?_)
     refine dr_eff Z (st_apr (hv.take (Nat.le_of_lt hlt)) Z Z Tryz.underlying197 inf50 Z (by decide) (show Sel _ (VR (.slice (some ⟨b39,0,none⟩) 0 0) 50 1 []) _ from slq) (show Sel _ A _ from slq) (fun us x _ h=>llC.one h) (by simp [List.length_take] <;> omega) (by simp <;> omega) (ltn Z) fun v43 n1 hv43 q1 q2 q3=>dr_nx ?_)
     refine dr_eff Z (st_app [[.slice oa one.length ocap]] Z Z Tryz.underlying197 inf50 Z (by decide) (show Sel _ (VR v43 50 1 ([]++n1)) _ from slq) (by simp) Z (fun j u2 hu2=>by repeat (first | exact at_here (rd_cl (by simpa using hu2)) | apply at_there)) (by simp [Value.oneCell']) (by simp [q1]; omega) (by simp [q1]; omega) (ltn Z) fun v46 hv46 _=>dr_nx ?_)
     refine dr_eff Z (st_apr (hv.drop (k:=i+1) hlt) Z Z Tryz.underlying197 inf50 Z (by decide) (show Sel _ (VR v46 50 1 ([]++n1++[[.slice oa one.length ocap]])) _ from slq) (show Sel _ A _ from slq) (fun us x _ h=>llC.one h) (by simp [q1]; omega) (by simp [q1]; omega) (ltn Z) fun v51 n3 hv51 r1 r2 r3=>dr_nx ?_)
     refine dV Z (vA Z) (dr_nil (nK [4] Z (nT (cT (xR (xW (xR (xR (xW (xR (xt_ok (r:=VR v51 50 1 ([]++n1++[[.slice oa one.length ocap]]++n3)) slq fun hokv=>?_)))))))))))
     refine xt_pv (pv_pack (L:=[VR v51 50 1 ([]++n1++[[.slice oa one.length ocap]]++n3),A,B])) ?_
     have hA:∀ p u,Rd A p u→Rd (Res.star [VR v51 50 1 ([]++n1++[[.slice oa one.length ocap]]++n3),A,B]) p u:=rd_in slq
     have hB:∀ p u,Rd B p u→Rd (Res.star [VR v51 50 1 ([]++n1++[[.slice oa one.length ocap]]++n3),A,B]) p u:=rd_in slq
     have hcor:=((Cor.nil.app (Cor.mono (X:=llC A) ⟨q1,q3⟩ fun us x h=>h.mono hA)).app (Cor.one ⟨_,rfl,ho.mono hB⟩)).app (Cor.mono (X:=llC A) ⟨r1,r3⟩ fun us x h=>h.mono hA)
     exact xt_rt Z ⟨Res.star [VR v51 50 1 ([]++n1++[[.slice oa one.length ocap]]++n3),A,B],Z,hv51,row_vr hokv (by simp [q1,r1] <;> omega) (rd_in slq) (by simpa using hcor.2)⟩ sbq
   ·have hlx:¬ lexLt one z=true:=by simpa using hlx
    rw [if_neg hlx,← hdr,List.take_append_drop] at hsk
    rw [hsk]
    refine cK (xT (cQ (sM Z (sA Z (sK [4] Z (cT (xW (xR (xR (xW (xR (xt_pv (pv_pack (L:=[A,B])) ?_))))))))))))
    exact xt_rt Z ⟨Res.star [A,B],Z,Z,hv.mono (rd_in slq)⟩ sbq
  ·have he:lastN z≠lastN one:=by simpa using he
   refine cK (xB (xT (cR (sM Z (sV (v_add Z Z (by unfold I64 at *; omega)) (sA Z (sN (nK [0,1,5] Z (nx_xt (xt_aq (i+1) ⟨hlt,fun x hx=>?_⟩ (by show _ - _<_ - _; omega)))))))))))
   rw [htk] at hx
   rcases List.mem_append.1 hx with hx | hx
   ·exact hno x hx
   ·simp at hx; rw [hx]; exact he
 ·have hil:i=xss.length:=by
   have:¬ i<xss.length:=by simpa using hd
   omega
  subst hil
  have hsk:=ins1_skip hno
  rw [List.take_length,List.drop_length,ins1] at hsk
  rw [hsk]
  refine cd_exit (xE (xE (xY (xT (cQ (st_bs0 Tryz.underlying197 inf50 fun b53=>?_))))))
  refine sM Z (st_apr hv Z Z Tryz.underlying197 inf50 Z (by decide) (show Sel _ (VR (.slice (some ⟨b53,0,none⟩) 0 0) 50 1 []) _ from slq) (show Sel _ A _ from slq) (fun us x _ h=>llC.one h) (by simp [List.length_take] <;> omega) (by simp <;> omega) (ltn Z) fun v55 n1 hv55 q1 q2 q3=>?_)
  refine sM Z (st_buildSlice (cells:=[.slice oa one.length ocap]) Z Tryz.underlying197 inf50 Z Z (by kernel_rfl) (ltn Z) fun b57=>?_)
  refine st_app [[.slice oa one.length ocap]] Z Z Tryz.underlying197 inf50 Z (by decide) (show Sel _ (VR v55 50 1 ([]++n1)) _ from slq) (by simp) Z (fun j u2 hu2=>by repeat (first | exact at_here (rd_cl (by simpa using hu2)) | apply at_there)) (by simp [Value.oneCell']) (by simp [q1]; omega) (by simp [q1]; omega) (ltn Z) fun v58 hv58 _=>?_
  refine sA Z (sK [4] Z (cT (xt_ok (r:=VR v58 50 1 ([]++n1++[[.slice oa one.length ocap]])) slq fun hokv=>?_)))
  refine xt_pv (pv_pack (L:=[VR v58 50 1 ([]++n1++[[.slice oa one.length ocap]]),A,B])) ?_
  have hA:∀ p u,Rd A p u→Rd (Res.star [VR v58 50 1 ([]++n1++[[.slice oa one.length ocap]]),A,B]) p u:=rd_in slq
  have hB:∀ p u,Rd B p u→Rd (Res.star [VR v58 50 1 ([]++n1++[[.slice oa one.length ocap]]),A,B]) p u:=rd_in slq
  have hcor:=((Cor.nil.app (Cor.mono (X:=llC A) ⟨q1,q3⟩ fun us x h=>h.mono hA)).app (Cor.one ⟨_,rfl,ho.mono hB⟩))
  exact xt_rt Z ⟨Res.star [VR v58 50 1 ([]++n1++[[.slice oa one.length ocap]]),A,B],Z,hv58,row_vr hokv (by simp [q1]) (rd_in slq) (by simpa using hcor.2)⟩ sbq
end
end Go.Hr
namespace Go.Hr
open Go Go.RowKit Go.Ck Go.Proofs Go.Proofs.YtaohbfnepjjdgaaGreat Fx
attribute [local irreducible] Go.Ck.Sub St Cd Xt Nx DrL LsW
theorem ixN_isC (l:Sys) (c:Nm):decide ((0:Int)≤ixN l c)=isC l c:=by
 obtain ⟨h1,h2⟩:=idx_find (l:=l) (c:=c)
 unfold ixN isC
 cases h:idx l c with
 | none=>rw [h2 h]; rfl
 | some i=>obtain ⟨x,_,h3⟩:=h1 i h; rw [h3]; simp
def LnP (l:Sys) (n:Nat) (w:List Nm):Prop:=w.length=n∧isC l (lastN w)=true
theorem ones_len {l:Sys} {n:Nat} {ls:List (List Nm)} (h:Ones (LnP l n) ls):ls.length≤l.length:=by
 have:=length_le_of_nodup (b:=nms l) h.2 fun x hx=>by
  obtain ⟨w,hw,rfl⟩:=List.mem_map.1 hx
  exact isC_iff.1 (h.1 w hw).2
 simpa [nms] using this
theorem Ones.empty {P:List Nm→Prop}:Ones P []:=⟨fun w h=>by simp at h,by simp⟩
theorem pars_le {l:Sys} {n:Nat} (hp:∀ x∈l,x.parents.length≤n) {c:Nm}:(pars l c).length≤n:=by
 unfold pars
 cases h:find l c with
 | none=>simp
 | some x=>exact hp x (find_name h).2
def ext0 (l:Sys) (w:List Nm) (ps:List Nm) (n:List (List Nm)):List (List Nm):=(ps.filter (isC l)).foldl (fun n p=>ins1 n (w++[p])) n
theorem ext0_all {l:Sys} {w:List Nm} {n:List (List Nm)}:ext0 l w (pars l (lastN w)) n=ext1 l n w:=rfl
theorem ext0_yes {l:Sys} {w ps:List Nm} {p:Nm} {n:List (List Nm)} (h:isC l p=true):ext0 l w (ps++[p]) n=ins1 (ext0 l w ps n) (w++[p]):=by
 unfold ext0
 rw [List.filter_append,List.foldl_append,List.filter_cons,if_pos h]; rfl
theorem ext0_no {l:Sys} {w ps:List Nm} {p:Nm} {n:List (List Nm)} (h:isC l p=false):ext0 l w (ps++[p]) n=ext0 l w ps n:=by
 unfold ext0
 rw [List.filter_append,List.filter_cons,if_neg (by rw [h]; decide)]; simp
theorem exp_succ {l:Sys} {L:List (List Nm)} {i:Nat} (h:i<L.length):(L.take (i+1)).foldl (ext1 l) []=ext1 l ((L.take i).foldl (ext1 l) []) L[i]:=by
 rw [List.take_succ_eq_append_getElem h,List.foldl_append]; rfl
theorem further_hit {l:Sys} {c a:Nm} {k:Nat} {w:List Nm} (hk:k≤l.length) (hno:∀ j,j<k→hit a (lsts l c (j+1))=none) (h:hit a (lsts l c (k+1))=some w):further l c a=w:=by
 unfold further
 obtain ⟨m,hm⟩:∃ m,l.length+1=k+(m+1):=⟨l.length - k,by omega⟩
 rw [hm,List.range_add,List.findSome?_append,List.findSome?_eq_none_iff.2 fun i hi=>hno i (List.mem_range.1 hi),List.range_succ_eq_map]
 simp only [List.map_cons,List.findSome?_cons,Nat.add_zero,h,Option.none_or]
 rfl
theorem further_miss {l:Sys} {c a:Nm} (hno:∀ j,j<l.length+1→hit a (lsts l c (j+1))=none):further l c a=[]:=by
 unfold further
 rw [List.findSome?_eq_none_iff.2 fun i hi=>hno i (List.mem_range.1 hi)]; rfl
theorem hit_at {a:Nm} {ls:List (List Nm)} {i:Nat} (h:i<ls.length) (hno:∀ x∈ls.take i,lastN x≠a) (he:lastN ls[i]=a):hit a ls=some ls[i]:=by
 unfold hit
 rw [List.find?_eq_some_iff_getElem]
 refine ⟨by simp [he],i,h,Z,fun j hj=>?_⟩
 have:=hno ls[j] (List.mem_iff_getElem.2 ⟨j,by simp; omega,by simp⟩)
 simp [this]
theorem hit_no {a:Nm} {ls:List (List Nm)} (hno:∀ x∈ls,lastN x≠a):hit a ls=none:=by
 unfold hit
 rw [List.find?_eq_none]
 exact fun x hx=>by simpa using hno x hx
section
variable {S:Res} {v:Value} {l:Sys}
set_option maxHeartbeats 1000000 in
set_option maxRecDepth 100000 in
theorem further_ct (hv : sysR S v l) (hl : l.length ≤ 1000) (hp : ∀ x ∈ l, x.parents.length ≤ 1099511627776) (c a : Nm) : CtN Tryz.prog 111 #[v, sv c, sv a] [S] fun u T => u.oneCell' = true ∧ nmsR T u (further l c a) := by
 obtain ⟨la,cap,rfl,_⟩:=id hv
 refine ct_of (n:=95) Tryz.func111 Z Z (len Z) fun hr w0=>?_
 refine cQ (sA Z (sN (nT (cQ (sM Z (st_buildSlice (cells:=[sv c]) Z Tryz.underlying50 inf9 Z Z (by kernel_rfl) (ltn Z) fun b15=>?_))))))
 refine st_pv (pv_of (b:=b15) (n:=1) (sz:=1) (E:=9) [nC c] Z (by simp [nC]) Z (by decide)) ?_
 simp only [lC,lN]
 refine st_ok (r:=NR (.slice (some ⟨b15,0,none⟩) 1 1) [c]) slq fun hok15=>?_
 refine st_buildSlice (cells:=[.slice (some ⟨b15,0,none⟩) 1 1]) Z Tryz.underlying197 inf50 Z Z (by kernel_rfl) (ltn Z) fun b16=>?_
 refine st_pv (pv_of (b:=b16) (n:=1) (sz:=1) (E:=50) [[.slice (some ⟨b15,0,none⟩) 1 1]] Z (by simp) Z (by decide)) ?_
 simp only [lC,lN]
 refine st_ok (r:=VR (.slice (some ⟨b16,0,none⟩) 1 1) 50 1 [[.slice (some ⟨b15,0,none⟩) 1 1]]) slq fun hok16=>?_
 refine st_pv (pv_pack (L:=[VR (.slice (some ⟨b16,0,none⟩) 1 1) 50 1 [[.slice (some ⟨b15,0,none⟩) 1 1]],NR (.slice (some ⟨b15,0,none⟩) 1 1) [c]])) ?_
 simp only [lC,lN]
 have h0:llR (Res.star [VR (.slice (some ⟨b16,0,none⟩) 1 1) 50 1 [[.slice (some ⟨b15,0,none⟩) 1 1]],NR (.slice (some ⟨b15,0,none⟩) 1 1) [c]]) (.slice (some ⟨b16,0,none⟩) 1 1) [[c]]:=
  row_vr hok16 rfl (rd_in slq) (Cor.one (X:=llC _) ⟨_,rfl,(nms_own hok15).mono (rd_in slq)⟩).2
 generalize Res.star [VR (.slice (some ⟨b16,0,none⟩) 1 1) 50 1 [[.slice (some ⟨b15,0,none⟩) 1 1]],NR (.slice (some ⟨b15,0,none⟩) 1 1) [c]]=T0 at *
 generalize Value.slice (some ⟨b16,0,none⟩) 1 1=w0 at *
 refine sA Z (sK [0,2,6,7] Z (cS (cQ (sA Z (sN (nT (cB (cd_lq (σ := Value×Res×Nat) (fun q=>[(0,.slice la l.length cap),(2,sv a),(7,q.1),(8,.int .i64 (q.2.2:Nat))]) (fun q=>q.2.1::S::hr) (fun q=>q.2.2≤l.length+1∧llR q.2.1 q.1 (lsts l c q.2.2)∧(lsts l c q.2.2).length≤1000∧∀ j,j<q.2.2→hit a (lsts l c (j+1))=none) (fun q=>l.length+1 - q.2.2) (w0,T0,0) ⟨Nat.zero_le _,h0,by simp [lsts],fun j hj=>absurd hj (Nat.not_lt_zero _)⟩ ?_))))))))
 rintro ⟨w,T,k⟩ ⟨hk,hw,hwl,hno⟩
 simp only at hk hw hwl hno
 dsimp only
 obtain ⟨wa,wcap,rfl,_⟩:=id hw
 refine cS (cQ (sM Z (sM Z (sV (v_len Z Tryz.underlying22) (sV (v_leq Z Z) (sK [0,2,7,8,20] Z (cC Z (fun hd=>?_) (fun hd=>?_))))))))
 ·have hkl:k≤l.length:=by simpa using hd
  have hrows:=(lsts_spec l c k).1.1
  have hnext:lsts l c (k+1)=(lsts l c k).foldl (ext1 l) []:=rfl
  generalize lsts l c k=L at *
  refine cK (xT (cS (cB (cQ (sA Z (sK [0,2,7,8,9] Z (cS (cQ (sA Z (sN (nT (cB ?_))))))))))))
  refine cd_vw (vw_unstar (L:=[])) (cd_lq (σ := Value×Res×Nat) (fun q=>[(0,.slice la l.length cap),(2,sv a),(7,.slice wa L.length wcap),(8,.int .i64 (k:Nat)),(9,q.1),(10,.int .i64 (q.2.2:Nat))]) (fun q=>q.2.1::T::S::hr) (fun q=>q.2.2≤L.length∧llR q.2.1 q.1 ((L.take q.2.2).foldl (ext1 l) [])∧Ones (LnP l (k+2)) ((L.take q.2.2).foldl (ext1 l) [])) (fun q=>L.length - q.2.2) (.slice none 0 0,Res.star [],0) ⟨Nat.zero_le _,Row.nil,Ones.empty⟩ ?_)
  rintro ⟨nv,N,i⟩ ⟨hi,hN,hO⟩
  simp only at hi hN hO
  dsimp only
  obtain ⟨na,ncap,rfl,_⟩:=id hN
  refine cS (cQ (sM Z (sM Z (sV (v_len Z Tryz.underlying197) (sV (v_lss Z Z) (sK [0,2,7,8,9,10,26] Z (cC Z (fun hd2=>?_) (fun hd2=>?_))))))))
  ·have hlt:i<L.length:=by simpa using hd2
   have hzi:=List.getElem?_eq_getElem hlt
   obtain ⟨hzl,_⟩:=hrows _ (List.getElem_mem hlt)
   have hex:=exp_succ (l:=l) hlt
   obtain ⟨b,o,cap2,u,hv2,hrd,hu⟩:=ll_at hw hzi
   generalize L[i]=z at *
   generalize (L.take i).foldl (ext1 l) []=N0 at *
   obtain ⟨ua,ucap,rfl,_⟩:=id hu
   obtain ⟨zk,hzk,hzkl,hze⟩:=lastN_get (w:=z) (fun e=>by rw [e] at hzl; simp at hzl)
   obtain ⟨zb,zo,zcap2,hzv2,hzrd⟩:=nms_at hu (List.getElem?_eq_getElem hzk)
   rw [hze] at hzrd
   refine cK (xT (cS (cB (cS (cd_drawh (ork [(0,2),(1,2),(2,2),(3,2),(4,1),(5,2),(6,2),(7,2),(8,1),(9,2),(10,2),(11,2),(12,1),(13,0),(14,2)] .nil) (fun i => !(Nat.beq i 13)) mixed (by kernel_rfl) ?_)))))
   refine dV Z (vM Z) (dV Z (vM Z) (dV Z (vM Z) (dV Z (vI (k:=i) (congrArg some hv2) Z sl197 Z hlt Z) (dr_v Z (vY Z ld50) ?_))))
   refine dV Z (vM Z) (dV Z (vM Z) (dV Z (vI (k:=i) (congrArg some hv2) Z sl197 Z hlt Z) (dr_v Z (vY Z ld50) ?_)))
   refine dV Z (v_len Z Tryz.underlying50) (dV Z (v_sub Z Z (by unfold I64 at *; omega)) (dV Z (vI (k:=zk) (congrArg some hzv2) Z sl50 (by omega) hzk Z) (dr_v Z (vY Z ld9) ?_)))
   refine dr_eff Z (st_cl Z Z en127 Z (parents_ct hv (lastN z) (by omega) hp) ?_)
   rintro u h' ⟨Tp,rfl,hu1,rfl,hpn⟩
   simp only [lC,lN]
   rw [← ext0_all] at hex
   have hpl:=pars_le (c:=lastN z) hp
   generalize pars l (lastN z)=ps at *
   obtain ⟨pa,pcap,rfl,_⟩:=id hpn
   refine dr_nx ?_
   refine dV Z (vA Z) (dr_nil (nK [0,2,7,8,9,10,11] Z (nT (cQ (sA Z (sN (nT (cB (cd_lq (σ := Value×Res×Nat) (fun q=>[(0,.slice la l.length cap),(2,sv a),(7,.slice wa L.length wcap),(8,.int .i64 (k:Nat)),(9,q.1),(10,.int .i64 (i:Nat)),(11,.slice pa ps.length pcap),(12,.int .i64 (q.2.2:Nat))]) (fun q=>q.2.1::NR (.slice pa ps.length pcap) ps::T::S::hr) (fun q=>q.2.2≤ps.length∧llR q.2.1 q.1 (ext0 l z (ps.take q.2.2) N0)∧Ones (LnP l (k+2)) (ext0 l z (ps.take q.2.2) N0)) (fun q=>ps.length - q.2.2) (.slice na N0.length ncap,N,0) ⟨Nat.zero_le _,hN,hO⟩ ?_)))))))))
   rintro ⟨mv,M,j⟩ ⟨hj,hM,hO2⟩
   simp only at hj hM hO2
   dsimp only
   obtain ⟨ma,mcap,rfl,_⟩:=id hM
   refine cS (cQ (sM Z (sM Z (sV (v_len Z Tryz.underlying50) (sV (v_lss Z Z) (sK [0,2,7,8,9,10,11,12,46] Z (cC Z (fun hd3=>?_) (fun hd3=>?_))))))))
   ·have hjlt:j<ps.length:=by simpa using hd3
    obtain ⟨pb,po,pcap2,hpv2,hprd⟩:=nms_at hpn (List.getElem?_eq_getElem hjlt)
    have htk:=List.take_succ_eq_append_getElem hjlt
    generalize ps[j]=p at *
    refine cK (xT (cS (cB (cQ (sM Z (sM Z (sM Z (sV (vI (k:=j) (congrArg some hpv2) Z sl50 Z hjlt Z) (sV (vY Z ld9) ?_)))))))))
    refine st_clr Z Z en85 Z (index_ct hv p (by omega)) ?_
    refine sV (v_geq Z Z) (sK [0,2,7,8,9,10,11,12,55] Z ?_)
    rw [ixN_isC]
    refine cC Z (fun hc=>?_) (fun hc=>?_)
    ·have hyes:=ext0_yes (w:=z) (ps:=ps.take j) (n:=N0) hc
     rw [← htk] at hyes
     generalize ext0 l z (ps.take j) N0=N1 at *
     have hn1:=ones_len hO2
     have hO3:Ones (LnP l (k+2)) (ins1 N1 (z++[p])):=ins1_ones hO2 ⟨by simp [hzl],by rw [lastN_snoc]; exact hc⟩
     refine cd_drawh (ork [(0,2),(2,2),(3,2),(4,2),(5,1),(7,2),(8,2),(9,2),(10,1)] (.two 1 (.two 6 (ork [(11,0),(12,0),(13,0),(14,2)] .nil) 11 (ork [(6,0),(12,0),(13,0),(14,2)] .nil)) 11 (ork [(1,0),(6,0),(12,0),(13,0),(14,2)] .nil))) (fun i => !(Nat.beq i 12 || Nat.beq i 13)) mixed (by kernel_rfl) ?_
     refine dV Z (vM Z) (dV Z (vM Z) (dV Z (vM Z) (dV Z (vI (k:=i) (congrArg some hv2) Z sl197 Z hlt Z) (dr_v Z (vY Z ld50) ?_))))
     refine dV Z (vM Z) (dV Z (vM Z) (dV Z (vI (k:=j) (congrArg some hpv2) Z sl50 Z hjlt Z) (dr_v Z (vY Z ld9) ?_)))
     refine dr_two Z Z ?_ ?_
     ·refine st_bs0 Tryz.underlying50 inf9 fun b57=>dr_nx ?_
      refine dr_two Z Z ?_ ?_
      ·refine st_apr hu Z Z Tryz.underlying50 inf9 Z (by decide) (show Sel _ (VR (.slice (some ⟨b57,0,none⟩) 0 0) 9 1 []) _ from slq) (show Sel _ T _ from slq) (fun us x _ h=>str_one h) (by simp <;> omega) (by simp <;> omega) (ltn Z) fun v62 n1 hv62 q1 q2 q3=>dr_nx ?_
       cases news_names q1 q3
       refine dr_eff Z (st_buildSlice (cells:=[sv p]) Z Tryz.underlying50 inf9 Z Z (by kernel_rfl) (ltn Z) fun b67=>dr_nx ?_)
       refine dr_eff Z (st_app [nC p] Z Z Tryz.underlying50 inf9 Z (by decide) (show Sel _ (VR v62 9 1 ([]++z.map nC)) _ from slq) (by simp [nC]) Z (fun j u2 hu2=>by repeat (first | exact at_here (rd_cl (by simpa [nC] using hu2)) | apply at_there)) (by simp [nC,Value.oneCell']) (by simp <;> omega) (by simp <;> omega) (ltn Z) fun v68 hv68 _=>?_)
       rw [show []++z.map nC++[nC p]=(z++[p]).map nC by simp]
       refine st_ok (r:=NR v68 (z++[p])) slq fun hok68=>?_
       refine dr_nx ?_
       refine dr_eff Z (st_cl Z Z en151 Z (first_ct hM (nms_own hok68) (by simp) (by simp; omega) (fun x hx=>by have:=(hO2.1 x hx).1; exact ⟨fun e=>by rw [e] at this; simp at this,by omega⟩) (by omega)) ?_)
       rintro u h' ⟨T2,rfl,hu2,hT2⟩
       simp only [lC,lN]
       rw [← hyes] at hT2 hO3
       refine dr_nx ?_
       refine dV Z (vA Z) (dr_nil (nK [0,2,7,8,9,10,11,12] Z (nx_xt (xB (xT (cR (sM Z (sV (v_add Z Z (by unfold I64 at *; omega)) (sA Z (sN (nK [0,2,7,8,9,10,11,12] Z (nx_xt ?_))))))))))))
       refine xt_aq (u,T2,j+1) ⟨hjlt,hT2,hO3⟩ (Nat.sub_lt_sub_left hjlt (Nat.lt_succ_self j))
      ·refine st_buildSlice (cells:=[sv p]) Z Tryz.underlying50 inf9 Z Z (by kernel_rfl) (ltn Z) fun b67=>dr_nx ?_
       refine dr_eff Z (st_apr hu Z Z Tryz.underlying50 inf9 Z (by decide) (show Sel _ (VR (.slice (some ⟨b57,0,none⟩) 0 0) 9 1 []) _ from slq) (show Sel _ T _ from slq) (fun us x _ h=>str_one h) (by simp <;> omega) (by simp <;> omega) (ltn Z) fun v62 n1 hv62 q1 q2 q3=>dr_nx ?_)
       cases news_names q1 q3
       refine dr_eff Z (st_app [nC p] Z Z Tryz.underlying50 inf9 Z (by decide) (show Sel _ (VR v62 9 1 ([]++z.map nC)) _ from slq) (by simp [nC]) Z (fun j u2 hu2=>by repeat (first | exact at_here (rd_cl (by simpa [nC] using hu2)) | apply at_there)) (by simp [nC,Value.oneCell']) (by simp <;> omega) (by simp <;> omega) (ltn Z) fun v68 hv68 _=>?_)
       rw [show []++z.map nC++[nC p]=(z++[p]).map nC by simp]
       refine st_ok (r:=NR v68 (z++[p])) slq fun hok68=>?_
       refine dr_nx ?_
       refine dr_eff Z (st_cl Z Z en151 Z (first_ct hM (nms_own hok68) (by simp) (by simp; omega) (fun x hx=>by have:=(hO2.1 x hx).1; exact ⟨fun e=>by rw [e] at this; simp at this,by omega⟩) (by omega)) ?_)
       rintro u h' ⟨T2,rfl,hu2,hT2⟩
       simp only [lC,lN]
       rw [← hyes] at hT2 hO3
       refine dr_nx ?_
       refine dV Z (vA Z) (dr_nil (nK [0,2,7,8,9,10,11,12] Z (nx_xt (xB (xT (cR (sM Z (sV (v_add Z Z (by unfold I64 at *; omega)) (sA Z (sN (nK [0,2,7,8,9,10,11,12] Z (nx_xt ?_))))))))))))
       refine xt_aq (u,T2,j+1) ⟨hjlt,hT2,hO3⟩ (Nat.sub_lt_sub_left hjlt (Nat.lt_succ_self j))
     ·refine st_buildSlice (cells:=[sv p]) Z Tryz.underlying50 inf9 Z Z (by kernel_rfl) (ltn Z) fun b67=>dr_nx ?_
      refine dr_eff Z (st_bs0 Tryz.underlying50 inf9 fun b57=>dr_nx ?_)
      refine dr_eff Z (st_apr hu Z Z Tryz.underlying50 inf9 Z (by decide) (show Sel _ (VR (.slice (some ⟨b57,0,none⟩) 0 0) 9 1 []) _ from slq) (show Sel _ T _ from slq) (fun us x _ h=>str_one h) (by simp <;> omega) (by simp <;> omega) (ltn Z) fun v62 n1 hv62 q1 q2 q3=>dr_nx ?_)
      cases news_names q1 q3
      refine dr_eff Z (st_app [nC p] Z Z Tryz.underlying50 inf9 Z (by decide) (show Sel _ (VR v62 9 1 ([]++z.map nC)) _ from slq) (by simp [nC]) Z (fun j u2 hu2=>by repeat (first | exact at_here (rd_cl (by simpa [nC] using hu2)) | apply at_there)) (by simp [nC,Value.oneCell']) (by simp <;> omega) (by simp <;> omega) (ltn Z) fun v68 hv68 _=>?_)
      rw [show []++z.map nC++[nC p]=(z++[p]).map nC by simp]
      refine st_ok (r:=NR v68 (z++[p])) slq fun hok68=>?_
      refine dr_nx ?_
      refine dr_eff Z (st_cl Z Z en151 Z (first_ct hM (nms_own hok68) (by simp) (by simp; omega) (fun x hx=>by have:=(hO2.1 x hx).1; exact ⟨fun e=>by rw [e] at this; simp at this,by omega⟩) (by omega)) ?_)
      rintro u h' ⟨T2,rfl,hu2,hT2⟩
      simp only [lC,lN]
      rw [← hyes] at hT2 hO3
      refine dr_nx ?_
      refine dV Z (vA Z) (dr_nil (nK [0,2,7,8,9,10,11,12] Z (nx_xt (xB (xT (cR (sM Z (sV (v_add Z Z (by unfold I64 at *; omega)) (sA Z (sN (nK [0,2,7,8,9,10,11,12] Z (nx_xt ?_))))))))))))
      refine xt_aq (u,T2,j+1) ⟨hjlt,hT2,hO3⟩ (Nat.sub_lt_sub_left hjlt (Nat.lt_succ_self j))
    ·have hc:isC l p=false:=by simpa using hc
     have hyes:=ext0_no (w:=z) (ps:=ps.take j) (n:=N0) hc
     rw [← htk] at hyes
     refine cK (xB (xT (cR (sM Z (sV (v_add Z Z (by unfold I64 at *; omega)) (sA Z (sN (nK [0,2,7,8,9,10,11,12] Z (nx_xt ?_)))))))))
     refine xt_aq (.slice ma (ext0 l z (ps.take j) N0).length mcap,M,j+1) ⟨hjlt,by rw [hyes]; exact hM,by rw [hyes]; exact hO2⟩ (Nat.sub_lt_sub_left hjlt (Nat.lt_succ_self j))
   ·have hje:j=ps.length:=by
     have:¬ j<ps.length:=by simpa using hd3
     omega
    subst hje
    rw [List.take_length,← hex] at hM hO2
    refine cd_exit (xE (xE (xY (xB (xT (cR (sM Z (sV (v_add Z Z (by unfold I64 at *; omega)) (sA Z (sN (nK [0,2,7,8,9,10] Z (nx_xt ?_))))))))))))
    refine xt_aq (.slice ma (ext0 l z (ps.take ps.length) N0).length mcap,M,i+1) ⟨hlt,by rw [List.take_length,← hex]; exact hM,hO2⟩ (Nat.sub_lt_sub_left hlt (Nat.lt_succ_self i))
  ·have hie:i=L.length:=by
    have:¬ i<L.length:=by simpa using hd2
    omega
   subst hie
   rw [List.take_length,← hnext] at hN hO
   rw [List.take_length,← hnext]
   refine cd_exit (xE (xE (xY (xT (cS (cQ (sA Z (sK [0,2,7,8,9,13] Z (cB (cd_lq (σ := Nat) (fun i=>[(0,.slice la l.length cap),(2,sv a),(8,.int .i64 (k:Nat)),(9,.slice na (lsts l c (k+1)).length ncap),(13,.int .i64 (i:Nat))]) (fun _=>N::S::hr) (fun i=>i≤(lsts l c (k+1)).length∧∀ x∈(lsts l c (k+1)).take i,lastN x≠a) (fun i=>(lsts l c (k+1)).length - i) 0 ⟨Nat.zero_le _,fun x hx=>by simp at hx⟩ ?_))))))))))
   rintro i ⟨hi,hni⟩
   have hnl:=ones_len hO
   refine cS (cQ (sM Z (sM Z (sV (v_len Z Tryz.underlying197) (sV (v_lss Z Z) (sK [0,2,8,9,13,73] Z (cC Z (fun hd4=>?_) (fun hd4=>?_))))))))
   ·have hlt:i<(lsts l c (k+1)).length:=by simpa using hd4
    obtain ⟨b,o,cap2,u,hv2,hrd,hu⟩:=ll_at hN (List.getElem?_eq_getElem hlt)
    have hzl:=(hO.1 _ (List.getElem_mem hlt)).1
    have hht:=hit_at (a:=a) hlt hni
    have htk:=List.take_succ_eq_append_getElem hlt
    generalize (lsts l c (k+1))[i]=z at *
    obtain ⟨ua,ucap,rfl,_⟩:=id hu
    obtain ⟨zk,hzk,hzkl,hze⟩:=lastN_get (w:=z) (fun e=>by rw [e] at hzl; simp at hzl)
    obtain ⟨zb,zo,zcap2,hzv2,hzrd⟩:=nms_at hu (List.getElem?_eq_getElem hzk)
    rw [hze] at hzrd
    refine cK (xT (cS (cB (cS (cd_drawh (ork [(0,2),(1,2),(2,2),(3,1),(4,2),(5,2),(6,2),(7,1),(8,2),(9,2),(10,2),(11,1),(12,2),(13,1)] .nil) (fun _=>true) mixed (by kernel_rfl) ?_)))))
    refine dV Z (vM Z) (dV Z (vM Z) (dV Z (vI (k:=i) (congrArg some hv2) Z sl197 Z hlt Z) (dr_v Z (vY Z ld50) ?_)))
    refine dV Z (vM Z) (dV Z (vM Z) (dV Z (vI (k:=i) (congrArg some hv2) Z sl197 Z hlt Z) (dr_v Z (vY Z ld50) ?_)))
    refine dV Z (v_len Z Tryz.underlying50) (dV Z (v_sub Z Z (by unfold I64 at *; omega)) (dV Z (vI (k:=zk) (congrArg some hzv2) Z sl50 (by omega) hzk Z) (dr_v Z (vY Z ld9) ?_)))
    refine dV Z (vM Z) (dr_v Z (v_seql Z Z) (dr_nil (nK [0,2,8,9,13,89] Z (nT (cC Z (fun he=>?_) (fun he=>?_))))))
    ·have he:lastN z=a:=by simpa using he
     rw [further_hit hkl hno (hht he)]
     refine cQ (sM Z (sM Z (sV (vI (k:=i) (congrArg some hv2) Z sl197 Z hlt Z) (sV (vY Z ld50) ?_))))
     refine sA Z (sK [6] Z (cT (xW (xR (xR (xW (xR (xW (xR (xR (xW (xR ?_))))))))))))
     exact xt_rt Z ⟨N,Z,Z,hu⟩ sbq
    ·have he:lastN z≠a:=by simpa using he
     refine cK (xB (xT (cR (sM Z (sV (v_add Z Z (by unfold I64 at *; omega)) (sA Z (sN (nK [0,2,8,9,13] Z (nx_xt (xt_aq (i+1) ⟨hlt,fun x hx=>?_⟩ (by show _ - _<_ - _; omega)))))))))))
     rw [htk] at hx
     rcases List.mem_append.1 hx with hx | hx
     ·exact hni x hx
     ·simp at hx; rw [hx]; exact he
   ·have hie:i=(lsts l c (k+1)).length:=by
     have:¬ i<(lsts l c (k+1)).length:=by simpa using hd4
     omega
    subst hie
    rw [List.take_length] at hni
    refine cd_exit (xE (xE (xY (xT (cR (sM Z (sA Z (sN (nK [0,2,7,8] Z (nx_xt (xB (xT (cR (sM Z (sV (v_add Z Z (by unfold I64 at *; omega)) ?_)))))))))))))))
    refine sA Z (sN (nK [0,2,7,8] Z (nx_xt (xt_aq (.slice na (lsts l c (k+1)).length ncap,N,k+1) ⟨by show k+1≤l.length+1; omega,hN,Nat.le_trans (ones_len hO) hl,fun j hj=>?_⟩ (by show l.length+1 - (k+1)<l.length+1 - k; omega)))))
    rcases Nat.lt_or_ge j k with h | h
    ·exact hno j h
    ·have hj:j<k+1:=hj
     rw [show j=k by omega]
     exact hit_no hni
 ·have hkl:k=l.length+1:=by
   have:¬ k≤l.length:=by simpa using hd
   omega
  subst hkl
  rw [further_miss hno]
  refine cd_exit (xE (xE (xY (xT (cQ (sA Z (sK [6] Z (cT ?_))))))))
  exact xt_rt Z ⟨T,Z,Z,Row.nil⟩ sbq
end
end Go.Hr
namespace Go.Hr
open Go Go.RowKit Go.Ck Go.Proofs Go.Proofs.YtaohbfnepjjdgaaGreat Fx
attribute [local irreducible] Go.Ck.Sub St Cd Xt Nx DrL LsW
theorem further_len (l:Sys) (c a:Nm):further l c a=[]∨(2≤(further l c a).length∧(further l c a).length≤l.length+2):=by
 unfold further
 cases hf:(List.range (l.length+1)).findSome? fun k=>hit a (lsts l c (k+1)) with
 | none=>exact .inl rfl
 | some w =>
  obtain ⟨k,hk,h⟩:=List.exists_of_findSome?_eq_some hf
  obtain ⟨_,h2,_⟩:=hit_some h
  have:=List.mem_range.1 hk
  exact .inr ⟨by simp only [Option.getD_some]; omega,by simp only [Option.getD_some]; omega⟩
def noRing (l:Sys) (xs:Sys):Prop:=∀ x∈xs,further l x.name x.name=[]
theorem noRing_snoc {l xs:Sys} {x:Cls}:noRing l (xs++[x])↔noRing l xs∧further l x.name x.name=[]:=by
 unfold noRing
 constructor
 ·exact fun h=>⟨fun y hy=>h y (by simp [hy]),h x (by simp)⟩
 ·rintro ⟨h1,h2⟩ y hy
  rcases List.mem_append.1 hy with hy | hy
  ·exact h1 y hy
  ·simp at hy; rw [hy]; exact h2
theorem noRing_acyc {l : Sys} : noRing l l ↔ Acyc l := by
 constructor
 ·intro h c p hp
  have hc:=par_of hp
  cases hh:has l p c with
  | false=>rfl
  | true =>
   obtain ⟨x,hx,rfl⟩:=List.mem_map.1 (isC_iff.1 hc)
   exact absurd (h x hx) (further_ring.2 ⟨p,hp,hh⟩)
 ·intro h x hx
  rcases further_len l x.name x.name with h1 | ⟨h1,_⟩
  ·exact h1
  ·obtain ⟨p,hp,hh⟩:=(further_ring (l:=l) (c:=x.name)).1 (fun e=>by rw [e] at h1; simp at h1)
   rw [h x.name p hp] at hh; cases hh
theorem better_pick {l : Sys} {cs best r2 : List Nm} (hbest : best = (ringF l cs).getD []) (hb : ((((best.length : Int) == 0) || decide ((r2.length : Int) < best.length)) || (((r2.length : Int) == best.length) && lexLt r2 best)) = true) : better (ringF l cs) r2 = some r2 := by
 cases h:ringF l cs with
 | none=>rfl
 | some q =>
  rw [h] at hbest
  simp only [Option.getD_some] at hbest
  subst hbest
  have hne:=ringF_ne h
  have h0:¬ ((best.length:Int)=0):=by
   intro e
   exact hne (List.eq_nil_of_length_eq_zero (by omega))
  simp only [better]
  rw [if_pos]
  unfold ringLt
  simp only [Bool.or_eq_true,Bool.and_eq_true,beq_iff_eq,decide_eq_true_eq] at hb ⊢
  rcases hb with (h1 | h1) | ⟨h1,h2⟩
  ·exact absurd h1 h0
  ·left; omega
  ·exact .inr ⟨by omega,h2⟩
theorem better_keep {l : Sys} {cs best r2 : List Nm} (hbest : best = (ringF l cs).getD []) (hne : best ≠ []) (hb : ((((best.length : Int) == 0) || decide ((r2.length : Int) < best.length)) || (((r2.length : Int) == best.length) && lexLt r2 best)) = false) : better (ringF l cs) r2 = ringF l cs := by
 cases h:ringF l cs with
 | none=>rw [h] at hbest; exact absurd hbest hne
 | some q =>
  rw [h] at hbest
  simp only [Option.getD_some] at hbest
  subst hbest
  simp only [better]
  rw [if_neg]
  unfold ringLt
  simp only [Bool.or_eq_false_iff,Bool.and_eq_false_iff,beq_eq_false_iff_ne,decide_eq_false_iff_not] at hb
  simp only [Bool.or_eq_true,Bool.and_eq_true,decide_eq_true_eq]
  rintro (h1 | ⟨h1,h2⟩)
  ·exact hb.1.2 (by omega)
  ·rcases hb.2 with h3 | h3
   ·exact h3 (by omega)
   ·rw [h2] at h3; cases h3
section
variable {S:Res} {v:Value} {l:Sys}
set_option maxRecDepth 100000 in
theorem RingS_ct (hv : sysR S v l) (hl : l.length ≤ 24) (hp : ∀ x ∈ l, x.parents.length ≤ 1099511627776) : CtN Tryz.prog 86 #[v] [S] fun u T => ∃ r, u.oneCell' = true ∧ nmsR T u r ∧ r.length ≤ 1000 ∧ (r = [] ↔ noRing l l) ∧ r = (ring l).getD [] := by
 obtain ⟨la,cap,rfl,_⟩:=id hv
 refine ct_of (n:=63) Tryz.func86 Z Z (len Z) fun hr w0=>?_
 refine cQ (sA Z (sN (nT (cQ (sA Z (sN (nT (cS (cQ (sA Z (sN (nT (cB ?_)))))))))))))
 refine cd_vw (vw_unstar (L:=[])) (cd_lq (σ := Value×List Nm×Res×Nat) (fun q=>[(0,.slice la l.length cap),(3,q.1),(4,.int .i64 (q.2.2.2:Nat))]) (fun q=>q.2.2.1::S::hr) (fun q=>q.2.2.2≤l.length∧nmsR q.2.2.1 q.1 q.2.1∧q.2.1.length≤1000∧(q.2.1=[]↔noRing l (l.take q.2.2.2))∧q.2.1=(ringF l (nms (l.take q.2.2.2))).getD []) (fun q=>l.length - q.2.2.2) (.slice none 0 0,[],Res.star [],0) ⟨Nat.zero_le _,Row.nil,by simp,by simp [noRing],Z⟩ ?_)
 rintro ⟨w,best,T,i⟩ ⟨hi,hw,hbl,hbn,hbr⟩
 simp only at hi hw hbl hbn hbr
 dsimp only
 obtain ⟨wa,wcap,rfl,_⟩:=id hw
 refine cS (cQ (sM Z (sM Z (sV (v_len Z Tryz.underlying22) (sV (v_lss Z Z) (sM Z (st_cut (k:=9) (d:=15) (v:=.bool (decide ((i:Int)<l.length) && decide ((l.length:Int)≤24))) (fun hcut=>bool_want (b:=decide ((i:Int)<l.length)) true (fun hg=>?_) (fun hg=>?_)) ?_)))))))
 ·refine st_sk Z Z hg ?_
  iterate 2 refine st_sk rfl rfl hg ?_
  refine sV (vP (bO Z hg) Z) ?_
  exact hcut _ uG
 ·refine sG Z (bG Z hg) (vM Z) (sG Z (bG Z hg) (v_len Z Tryz.underlying22) (sG Z (bG Z hg) (v_leq Z Z) (sV (vQ (bO Z hg) Z) ?_)))
  exact hcut _ uG
 refine sK [0,3,4,15] Z ?_
 rw [show decide ((l.length:Int)≤24)=true from decide_eq_true (by omega),Bool.and_true]
 refine cC Z (fun hd=>?_) (fun hd=>?_)
 ·have hlt:i<l.length:=by simpa using hd
  have hxi:=List.getElem?_eq_getElem hlt
  obtain ⟨b,o,cap2,d,f,pa,pc,c2,fa,fc,j2,hv2,hrd,hP,hone⟩:=sys_at hv hxi
  have htk:=List.take_succ_eq_append_getElem hlt
  generalize l[i]=x at *
  refine cK (xT (cS (cB (cS (cd_drawh (ork [(0,2),(1,2),(2,2),(3,2),(4,2),(5,1),(6,2),(7,2),(8,2),(9,2),(10,1),(11,0),(12,2)] .nil) (fun i => !(Nat.beq i 11)) mixed (by kernel_rfl) ?_)))))
  refine dV Z (vM Z) (dV Z (vM Z) (dV Z (vM Z) (dV Z (vI (k:=i) (congrArg some hv2) Z sl22 Z hlt Z) (dV Z (vF Z fa54_0 Z) (dr_v Z (vY Z ld9) ?_)))))
  refine dV Z (vM Z) (dV Z (vM Z) (dV Z (vI (k:=i) (congrArg some hv2) Z sl22 Z hlt Z) (dV Z (vF Z fa54_0 Z) (dr_v Z (vY Z ld9) ?_))))
  refine dr_eff Z (st_cl Z Z en111 Z (further_ct hv (by omega) hp x.name x.name) ?_)
  rintro u h' ⟨T2,rfl,hu1,hu⟩
  simp only [lC,lN]
  have hfl:=further_len l x.name x.name
  have hsn:=noRing_snoc (l:=l) (xs:=l.take i) (x:=x)
  rw [← htk] at hsn
  have hnt:nms (l.take (i+1))=nms (l.take i)++[x.name]:=by rw [htk]; simp [nms]
  have hfc0:further l x.name x.name=[]→ringF l (nms (l.take (i+1)))=ringF l (nms (l.take i)):=fun h=>by
   rw [hnt,ringF_snoc,show fcand l x.name=none from if_pos h]
  have hfc1:further l x.name x.name≠[]→ringF l (nms (l.take (i+1)))=better (ringF l (nms (l.take i))) (further l x.name x.name).dropLast:=fun h=>by
   rw [hnt,ringF_snoc,show fcand l x.name=some _ from if_neg h]
  generalize further l x.name x.name=r at *
  obtain ⟨ua,ucap,rfl,huc,_⟩:=id hu
  refine dr_nx ?_
  refine dV Z (vA Z) (dr_nil (nK [0,3,4,5] Z (nT (cS (cQ (sM Z (sV (v_len Z Tryz.underlying50) (sV (v_eql Z Z) (sK [0,3,4,5,32] Z ?_)))))))))
  have hrl:r.length≤26:=by rcases hfl with h | h; rw [h]; simp; omega
  refine cC Z (fun he=>?_) (fun he=>?_)
  ·have he:r=[]:=by simpa using he
   refine cd_exit (xE (xY (xT (cR (sM Z (sV (v_add Z Z (by unfold I64 at *; omega)) (sA Z (sN (nK [0,3,4] Z (nx_xt ?_))))))))))
   refine xt_aq (.slice wa best.length wcap,best,T,i+1) ⟨hlt,hw,hbl,by rw [hbn]; exact ⟨fun h=>hsn.2 ⟨h,he⟩,fun h=>(hsn.1 h).1⟩,by rw [hfc0 he]; exact hbr⟩ (Nat.sub_lt_sub_left hlt (Nat.lt_succ_self i))
  ·have he:r≠[]:=by simpa using he
   have h2:2≤r.length:=(hfl.resolve_left he).1
   have hnr:¬ noRing l (l.take (i+1)):=fun h=>he (hsn.1 h).2
   refine cK (xT (cQ (sM Z (sM Z (sV (v_len Z Tryz.underlying50) (sV (v_sub Z Z (by unfold I64 at *; omega)) ?_))))))
   obtain ⟨rb,ro,rcap,hrv,_⟩:=nms_at hu (List.getElem?_eq_getElem (show 0<r.length by omega))
   cases hrv
   refine sV (v_sliceHead (hi:=r.length - 1) Z Z sl50 (by omega) (by omega)) (sA Z (sK [0,3,4,5] Z (cQ (sM Z (sM Z ?_)))))
   have hu2:=Row.take (k:=r.length - 1) hu (by omega)
   have hrl2:(r.take (r.length - 1)).length=r.length - 1:=by simp
   have hrn:r.take (r.length - 1)≠[]:=fun e=>by rw [e] at hrl2; simp at hrl2; omega
   have hfc2:=hfc1 he
   rw [List.dropLast_eq_take] at hfc2
   clear hfc0 hfc1
   generalize r.take (r.length - 1)=r2 at *
   rw [← hrl2] at hu2
   rw [← hrl2]
   refine st_clr Z Z en143 Z (Before_ct hu2 hw (by omega) (by omega)) ?_
   refine sA Z (sK [0,3,4,5,6] Z (cQ (sM Z (sV (v_len Z Tryz.underlying50) (sV (v_eql Z Z) (sM Z (st_cut (k:=10) (d:=50) (v:=.bool (((best.length:Int) == 0) || decide ((r2.length:Int)<best.length))) (fun hcut=>bool_want (b:=((best.length:Int) == 0)) false (fun hg=>?_) (fun hg=>?_)) ?_)))))))
   ·refine st_sk Z Z hg ?_
    iterate 4 refine st_sk rfl rfl hg ?_
    refine sV (vQ (bO Z hg) Z) ?_
    exact hcut _ uG
   ·refine sG Z (bG Z hg) (vM Z) (sG Z (bG Z hg) (v_len Z Tryz.underlying50) (sG Z (bG Z hg) (vM Z) (sG Z (bG Z hg) (v_len Z Tryz.underlying50) (sG Z (bG Z hg) (v_lss Z Z) (sV (vP (bO Z hg) Z) ?_)))))
    exact hcut _ uG
   refine sM Z (st_cut (k:=20) (d:=60) (v:=.bool ((((best.length:Int) == 0) || decide ((r2.length:Int)<best.length)) || (((r2.length:Int) == best.length) && lexLt r2 best))) (fun hcut=>bool_want (b:=(((best.length:Int) == 0) || decide ((r2.length:Int)<best.length))) false (fun hg=>?_) (fun hg=>?_)) ?_)
   ·refine st_sk Z Z hg ?_
    iterate 5 refine st_sk rfl rfl hg ?_
    refine st_sku Z Z ?_
    refine st_sk Z Z hg ?_
    refine sV (vQ (bO Z hg) Z) ?_
    exact hcut _ uG
   ·refine sG Z (bG Z hg) (vM Z) (sG Z (bG Z hg) (v_len Z Tryz.underlying50) (sG Z (bG Z hg) (vM Z) (sG Z (bG Z hg) (v_len Z Tryz.underlying50) (sG Z (bG Z hg) (v_eql Z Z) (sG Z (bG Z hg) (vM Z) (st_cut (k:=19) (d:=59) (v:=.bool (((r2.length:Int) == best.length) && lexLt r2 best)) (fun hcut=>bool_want (b:=((r2.length:Int) == best.length)) true (fun hg1=>?_) (fun hg1=>?_)) ?_))))))
    ·refine st_sk Z Z hg1 ?_
     refine sG Z (bG Z hg) (vP (bO Z hg1) Z) ?_
     exact hcut _ (uH (by first | rfl | (rw [hg1]; rfl) | simp_all) (uS Z (uR)))
    ·refine sG Z (bG Z hg1) (vM Z) (sG Z (bG Z hg) (vQ (bO Z hg1) Z) ?_)
     exact hcut _ (uH (by first | rfl | (rw [hg1]; rfl) | simp_all) (uS Z (uR)))
    refine sV (vP (bO Z hg) Z) ?_
    exact hcut _ (uH (by first | rfl | (rw [hg]; rfl) | simp_all) (by repeat (first | exact uR | refine uS Z ?_)))
   refine sK [0,3,4,5,60] Z (cC Z (fun hb=>?_) (fun hb=>?_))
   ·refine cR (sM Z (sA Z (sN (nK [0,3,4] Z (nx_xt (xB (xT (cR (sM Z (sV (v_add Z Z (by unfold I64 at *; omega)) (sA Z (sN (nK [0,3,4] Z (nx_xt ?_))))))))))))))
    refine xt_aq (.slice (some ⟨rb,ro,none⟩) r2.length ucap,r2,T2,i+1) ⟨hlt,hu2,by show r2.length≤1000; omega,⟨fun h=>absurd h hrn,fun h=>absurd h hnr⟩,by rw [hfc2,better_pick hbr hb]; rfl⟩ (Nat.sub_lt_sub_left hlt (Nat.lt_succ_self i))
   ·have hbe:best≠[]:=fun e=>by rw [e] at hb; simp at hb
    refine cK (xB (xT (cR (sM Z (sV (v_add Z Z (by unfold I64 at *; omega)) (sA Z (sN (nK [0,3,4] Z (nx_xt ?_)))))))))
    refine xt_aq (.slice wa best.length wcap,best,T,i+1) ⟨hlt,hw,hbl,⟨fun h=>absurd h hbe,fun h=>absurd h hnr⟩,by rw [hfc2,better_keep hbr hbe hb]; exact hbr⟩ (Nat.sub_lt_sub_left hlt (Nat.lt_succ_self i))
 ·have hil:i=l.length:=by
   have:¬ i<l.length:=by simpa using hd
   omega
  subst hil
  rw [List.take_length] at hbn hbr
  rw [ringF_ring] at hbr
  refine cd_exit (xE (xE (xY (xT (cQ (sM Z (sA Z (sK [2] Z (cT ?_)))))))))
  exact xt_rt Z ⟨T,Z,best,Z,hw,hbl,hbn,hbr⟩ sbq
end
end Go.Hr
namespace Go.Hr
open Go Go.RowKit Go.Ck Go.Proofs Go.Proofs.YtaohbfnepjjdgaaGreat Fx
attribute [local irreducible] Go.Ck.Sub St Cd Xt Nx DrL LsW
theorem ld123:LdN Tryz.prog 123 2:=LdN.of Tryz.underlying123 sz123
theorem ld187:LdN Tryz.prog 187 2:=LdN.of Tryz.underlying187 sz187
theorem ld89:LdN Tryz.prog 89 2:=LdN.of Tryz.underlying89 sz89
theorem lost_of {l:Sys} {x:Cls} (h:∀ p∈x.parents,isC l p=true):lost l x=false:=by
 unfold lost
 rw [List.any_eq_false]
 exact fun p hp=>by rw [h p hp]; decide
section
variable {S:Res} {v:Value} {l:Sys}
set_option maxHeartbeats 1000000 in
set_option maxRecDepth 100000 in
theorem CheckS_ct (hv : sysR S v l) (hl : l.length ≤ 1000000) : Ct Tryz.prog 47 #[v] [S] fun u h' => u = .agg #[.int .i64 (check l).1, sv (check l).2] ∧ h' = [S] := by
 obtain ⟨la,cap,rfl,_⟩:=id hv
 refine ct_of (n:=74) Tryz.func47 Z Z (len Z) fun hr w0=>?_
 refine cQ (st_alc al89 fun b2=>?_)
 refine sN (nT (cS (cQ (sM Z (sV (v_len Z Tryz.underlying22) (sV (v_gtr Z Z) (sK [0,2,10] Z (cC Z (fun h24=>?_) (fun h24=>?_)))))))))
 ·have h24:24<l.length:=by
   have:(24:Int)<l.length:=by simpa using h24
   omega
  rw [check_limit h24]
  refine cQ (sV (v_build (cells:=[.int .i64 3,sv []]) Z (fun _=>by kernel_rfl)) ?_)
  refine st_stoW Z Z sz89 Z Z ?_
  refine sK [2] Z (cT (xR ?_))
  exact xt_retV (.cellN Z ld89 Z slq .nil) ⟨Z,Z⟩ sbr
 ·have h24:l.length≤24:=by
   have:¬ (24:Int)<l.length:=by simpa using h24
   omega
  refine cK (xT (cS (cQ (sA Z (sK [0,2,3] Z (cB (cd_lq (σ := Nat) (fun i=>[(0,.slice la l.length cap),(2,.pointer (some ⟨b2,0,none⟩)),(3,.int .i64 (i:Nat))]) (fun _=>pt b2 (cl [.int .i64 0,sv []] 89)::S::hr) (fun i=>i≤l.length∧∀ (j:Nat) (y:Cls),j<i→l[j]? = some y→alone l j y=0) (fun i=>l.length - i) 0 ⟨Nat.zero_le _,fun j y hj=>absurd hj (Nat.not_lt_zero _)⟩ ?_)))))))
  rintro i ⟨hi,hb⟩
  refine cS (cQ (sM Z (sM Z (sV (v_len Z Tryz.underlying22) (sV (v_lss Z Z) (sK [0,2,3,15] Z (cC Z (fun hd=>?_) (fun hd=>?_))))))))
  ·have hlt:i<l.length:=by simpa using hd
   have hxi:=List.getElem?_eq_getElem hlt
   obtain ⟨b,o,cap2,d,f,pa,pc,c2,fa,fc,j2,hv2,hrd,hP,hone⟩:=sys_at hv hxi
   generalize l[i]=x at *
   refine cK (xT (cS (cB (cQ (sM Z (sM Z (st_clr Z Z en84 Z (aloneS_ct hv hl hxi) ?_)))))))
   refine sA Z (sK [0,2,3,4] Z (cQ (sM Z (sV (v_neq Z Z) (sK [0,2,3,4,22] Z (cC Z (fun hn=>?_) (fun hn=>?_)))))))
   ·have hn:alone l i x≠0:=by simpa using hn
    rw [check_alone h24 hxi hb hn]
    refine cQ (sM Z (sM Z (sM Z (sV (vI (k:=i) (congrArg some hv2) Z sl22 Z hlt Z) (sV (vF Z fa54_0 Z) (sV (vY Z ld9) ?_))))))
    refine sV (v_build (cells:=[.int .i64 (alone l i x),sv x.name]) Z (fun _=>by kernel_rfl)) ?_
    refine st_stoW Z Z sz89 Z Z ?_
    refine sK [2] Z (cT (xW (xR (xR (xW (xR ?_))))))
    exact xt_retV (.cellN Z ld89 Z slq .nil) ⟨Z,Z⟩ sbr
   ·have hn:alone l i x=0:=by simpa using hn
    refine cK (xB (xT (cR (sM Z (sV (v_add Z Z (by unfold I64 at *; omega)) (sA Z (sN (nK [0,2,3] Z (nx_xt (xt_aq (i+1) ⟨hlt,fun j y hj hy=>?_⟩ (by show _ - _<_ - _; omega)))))))))))
    by_cases hji:j=i
    ·subst hji; rw [hxi] at hy; cases hy; exact hn
    ·exact hb j y (by omega) hy
  ·have hil:i=l.length:=by
    have:¬ i<l.length:=by simpa using hd
    omega
   have hball:∀ (j:Nat) (y:Cls),l[j]? = some y→alone l j y=0:=fun j y hj=>hb j y (by rw [hil]; exact (List.getElem?_eq_some_iff.1 hj).1) hj
   have hpar:∀ x∈l,x.parents.length≤4:=fun x hx=>by
    obtain ⟨j,hj⟩:=List.getElem?_of_mem hx
    exact (alone_zero.1 (hball j x hj)).1
   refine cd_exit (xE (xE (xY (xT (cS (cQ (sA Z (sK [0,2,5] Z (cB (cd_lq (σ := Nat) (fun i=>[(0,.slice la l.length cap),(2,.pointer (some ⟨b2,0,none⟩)),(5,.int .i64 (i:Nat))]) (fun _=>pt b2 (cl [.int .i64 0,sv []] 89)::S::hr) (fun i=>i≤l.length∧∀ (j:Nat) (y:Cls),j<i→l[j]? = some y→lost l y=false) (fun i=>l.length - i) 0 ⟨Nat.zero_le _,fun j y hj=>absurd hj (Nat.not_lt_zero _)⟩ ?_))))))))))
   rintro i2 ⟨hi2,hls⟩
   refine cS (cQ (sM Z (sM Z (sV (v_len Z Tryz.underlying22) (sV (v_lss Z Z) (sK [0,2,5,33] Z (cC Z (fun hd2=>?_) (fun hd2=>?_))))))))
   ·have hlt:i2<l.length:=by simpa using hd2
    have hxi:=List.getElem?_eq_getElem hlt
    obtain ⟨b,o,cap2,d,f,pa,pc,c2,fa,fc,j2,hv2,hrd,hP,hone⟩:=sys_at hv hxi
    have hpx:=hpar _ (List.getElem_mem hlt)
    generalize l[i2]=x at *
    refine cK (xT (cS (cB (cQ (sA Z (sK [0,2,5,6] Z (cB (cd_lq (σ := Nat) (fun k=>[(0,.slice la l.length cap),(2,.pointer (some ⟨b2,0,none⟩)),(5,.int .i64 (i2:Nat)),(6,.int .i64 (k:Nat))]) (fun _=>pt b2 (cl [.int .i64 0,sv []] 89)::S::hr) (fun k=>k≤x.parents.length∧∀ p∈x.parents.take k,isC l p=true) (fun k=>x.parents.length - k) 0 ⟨Nat.zero_le _,fun p hp=>by simp at hp⟩ ?_))))))))
    rintro k ⟨hk,hkk⟩
    refine cS (cQ (sM Z (sM Z (sM Z (sV (vI (k:=i2) (congrArg some hv2) Z sl22 Z hlt Z) (sV (vF Z fa54_3 Z) (sV (vY Z ld49) ?_)))))))
    refine sV (v_len Z Tryz.underlying49) (sV (v_lss Z Z) (sK [0,2,5,6,43] Z (cC Z (fun hd3=>?_) (fun hd3=>?_))))
    ·have hklt:k<x.parents.length:=by simpa using hd3
     obtain ⟨pb,po,pcap,q1,q2,q3,q4,q5,hpv,hprd,hpone⟩:=par_at hP (List.getElem?_eq_getElem hklt)
     have htk:=List.take_succ_eq_append_getElem hklt
     have hmem:=List.getElem_mem hklt
     generalize x.parents[k]=p at *
     refine cK (xT (cS (cB (cQ (sM Z (sM Z (sM Z (sV (vI (k:=i2) (congrArg some hv2) Z sl22 Z hlt Z) (sV (vF Z fa54_3 Z) (sV (vY Z ld49) ?_))))))))))
     refine sM Z (sV (vI (k:=k) (congrArg some hpv) Z sl49 Z hklt Z) (sV (vF Z fa79_0 Z) (sV (vY Z ld9) ?_)))
     refine st_clr Z Z en85 Z (index_ct hv p (by omega)) ?_
     refine sV (v_lss Z Z) (sK [0,2,5,6,57] Z (cC Z (fun hx=>?_) (fun hx=>?_)))
     ·have hx:isC l p=false:=by
       rw [← ixN_isC]
       have:ixN l p<0:=by simpa using hx
       exact decide_eq_false (by omega)
      have hlo:lost l x=true:=by
       unfold lost
       rw [List.any_eq_true]
       exact ⟨p,hmem,by rw [hx]; rfl⟩
      rw [check_lost h24 hball hxi hls hlo]
      refine cQ (sM Z (sM Z (sV (vI (k:=i2) (congrArg some hv2) Z sl22 Z hlt Z) (sV (vF Z fa54_0 Z) (sV (vY Z ld9) ?_)))))
      refine sV (v_build (cells:=[.int .i64 5,sv x.name]) Z (fun _=>by kernel_rfl)) ?_
      refine st_stoW Z Z sz89 Z Z ?_
      refine sK [2] Z (cT (xW (xR (xR (xW (xW (xR (xR (xW (xR ?_))))))))))
      exact xt_retV (.cellN Z ld89 Z slq .nil) ⟨Z,Z⟩ sbr
     ·have hx:isC l p=true:=by
       rw [← ixN_isC]
       have:¬ ixN l p<0:=by simpa using hx
       exact decide_eq_true (by omega)
      refine cK (xB (xT (cR (sM Z (sV (v_add Z Z (by unfold I64 at *; omega)) (sA Z (sN (nK [0,2,5,6] Z (nx_xt (xt_aq (k+1) ⟨hklt,fun q hq=>?_⟩ (Nat.sub_lt_sub_left hklt (Nat.lt_succ_self k))))))))))))
      rw [htk] at hq
      rcases List.mem_append.1 hq with hq | hq
      ·exact hkk q hq
      ·simp at hq; rw [hq]; exact hx
    ·have hke:k=x.parents.length:=by
      have:¬ k<x.parents.length:=by simpa using hd3
      omega
     subst hke
     rw [List.take_length] at hkk
     refine cd_exit (xE (xE (xY (xB (xT (cR (sM Z (sV (v_add Z Z (by unfold I64 at *; omega)) (sA Z (sN (nK [0,2,5] Z (nx_xt (xt_aq (i2+1) ⟨hlt,fun j y hj hy=>?_⟩ (Nat.sub_lt_sub_left hlt (Nat.lt_succ_self i2)))))))))))))))
     by_cases hji:j=i2
     ·subst hji; rw [hxi] at hy; cases hy; exact lost_of hkk
     ·have hj:j<i2+1:=hj
      exact hls j y (by omega) hy
   ·have hil2:i2=l.length:=by
     have:¬ i2<l.length:=by simpa using hd2
     omega
    have hlall:∀ (j:Nat) (y:Cls),l[j]? = some y→lost l y=false:=fun j y hj=>hls j y (by rw [hil2]; exact (List.getElem?_eq_some_iff.1 hj).1) hj
    refine cd_exit (xE (xE (xY (xT (cQ (sM Z (st_cl Z Z en86 Z (RingS_ct hv h24 (fun x hx=>Nat.le_trans (hpar x hx) (by decide))) ?_)))))))
    rintro u h' ⟨T,rfl,r,hu1,hu,hrl,hrn,hrr⟩
    simp only [lC,lN]
    obtain ⟨ra,rcap,rfl,_⟩:=id hu
    refine sA Z (sK [2,7] Z (cS (cQ (sM Z (sV (v_len Z Tryz.underlying50) (sV (v_gtr Z Z) (sK [2,7,68] Z (cC Z (fun hr0=>?_) (fun hr0=>?_)))))))))
    ·have hr0:0<r.length:=by
      have:(0:Int)<r.length:=by simpa using hr0
      omega
     obtain ⟨r',hr'⟩:∃ r',ring l=some r':=by
      cases h:ring l with
      | some r'=>exact ⟨r',rfl⟩
      | none =>
       rw [hrn.2 (noRing_acyc.2 (ring_none.1 h))] at hr0
       simp at hr0
     have hrd:r'.headD []=r[0]:=by
      rw [hr'] at hrr
      simp only [Option.getD_some] at hrr
      subst hrr
      rw [List.headD_eq_head?_getD,List.head?_eq_getElem?,List.getElem?_eq_getElem hr0]; rfl
     rw [check_ring h24 hball hlall hr',hrd]
     obtain ⟨rb,ro,rcap2,hrv2,hrrd⟩:=nms_at hu (List.getElem?_eq_getElem hr0)
     refine cQ (sM Z (sV (vI (k:=0) (congrArg some hrv2) Z sl50 Z hr0 Z) (sV (vY Z ld9) ?_)))
     refine sV (v_build (cells:=[.int .i64 7,sv r[0]]) Z (fun _=>by kernel_rfl)) ?_
     refine st_stoW Z Z sz89 Z Z ?_
     refine sK [2] Z (cT (xR ?_))
     exact xt_retV (.cellN Z ld89 Z slq .nil) ⟨Z,Z⟩ sbr
    ·have hr0:r=[]:=List.eq_nil_of_length_eq_zero (by
      have:¬ (0:Int)<r.length:=by simpa using hr0
      omega)
     rw [check_ok h24 hball hlall (ring_none.2 (noRing_acyc.1 (hrn.1 hr0)))]
     refine cK (xT (cQ (sV (v_build (cells:=[.int .i64 0,sv []]) Z (fun _=>by kernel_rfl)) ?_)))
     refine st_stoW Z Z sz89 Z Z ?_
     refine sK [2] Z (cT ?_)
     exact xt_retV (.cellN Z ld89 Z slq .nil) ⟨Z,Z⟩ sbr
variable {N:Res} {nv:Value} {ns:List Nm}
set_option maxRecDepth 100000 in
theorem asked_ct (hv : sysR S v l) (hl : l.length ≤ 1000000) (hn : nmsR N nv ns) (hnl : ns.length ≤ 1099511627776) : Reads Tryz.prog 110 #[v, nv] [S, N] (.int .i64 (rightE l ns)) := by
 obtain ⟨la,cap,rfl,_⟩:=id hv
 obtain ⟨na,ncap,rfl,_⟩:=id hn
 refine ct_of (n:=27) Tryz.func110 Z Z (len Z) fun hr w0=>?_
 refine cQ (sA Z (sN (nT (cQ (sM Z (st_cl Z Z en47 Z (CheckS_ct hv hl) ?_))))))
 rintro u h' ⟨rfl,rfl⟩
 simp only [lC,lN]
 refine st_alc al89 fun b5=>?_
 refine st_stoW Z Z sz89 Z Z ?_
 refine sK [0,1,4,5] Z (cS (cQ (sV (vF Z fa89_0 Z) (sV (vY Z ld29) ?_))))
 refine sV (v_neq Z Z) (sK [0,1,4,5,11] Z (cC Z (fun hc=>?_) (fun hc=>?_)))
 ·have hc:¬ (check l).1=0:=by simpa using hc
  rw [show rightE l ns=(check l).1 by unfold rightE; rw [if_neg hc]]
  refine cQ (sV (vF Z fa89_0 Z) (sV (vY Z ld29) ?_))
  refine sA Z (sK [4] Z (cT (xR ?_)))
  exact xt_rt Z ⟨Z,Z⟩ sbq
 ·have hc:(check l).1=0:=by simpa using hc
  refine cK (xT (cS (cQ (sA Z (sK [0,1,4,6] Z (cB (cd_lq (σ := Nat) (fun i=>[(0,.slice la l.length cap),(1,.slice na ns.length ncap),(6,.int .i64 (i:Nat))]) (fun _=>S::N::hr) (fun i=>i≤ns.length∧∀ x∈ns.take i,isC l x=true) (fun i=>ns.length - i) 0 ⟨Nat.zero_le _,fun x hx=>by simp at hx⟩ ?_)))))))
  rintro i ⟨hi,hal⟩
  refine cS (cQ (sM Z (sM Z (sV (v_len Z Tryz.underlying50) (sV (v_lss Z Z) (sK [0,1,6,17] Z (cC Z (fun hd=>?_) (fun hd=>?_))))))))
  ·have hlt:i<ns.length:=by simpa using hd
   obtain ⟨b,o,cap2,hv2,hrd⟩:=nms_at hn (List.getElem?_eq_getElem hlt)
   refine cK (xT (cS (cB (cQ (sM Z (sM Z (sM Z (sV (vI (k:=i) (congrArg some hv2) Z sl50 Z hlt Z) (sV (vY Z ld9) ?_)))))))))
   refine st_clr Z Z en85 Z (index_ct hv ns[i] (by omega)) ?_
   refine sV (v_lss Z Z) (sK [0,1,6,26] Z (cC Z (fun hx=>?_) (fun hx=>?_)))
   ·have hx:isC l ns[i]=false:=by
     rw [← ixN_isC]
     have:ixN l ns[i]<0:=by simpa using hx
     exact decide_eq_false (by omega)
    have he:rightE l ns=5:=by
     unfold rightE
     rw [if_pos hc,if_neg (by rw [List.all_eq_true]; intro h; rw [h _ (List.getElem_mem hlt)] at hx; cases hx)]
    rw [he]
    refine cQ (sA Z (sK [4] Z (cT (xW (xR (xR (xW (xR ?_))))))))
    exact xt_rt Z ⟨Z,Z⟩ sbq
   ·have hx:isC l ns[i]=true:=by
     rw [← ixN_isC]
     have:¬ ixN l ns[i]<0:=by simpa using hx
     exact decide_eq_true (by omega)
    refine cK (xB (xT (cR (sM Z (sV (v_add Z Z (by unfold I64 at *; omega)) (sA Z (sN (nK [0,1,6] Z (nx_xt ?_)))))))))
    refine xt_aq (i+1) ⟨hlt,all_take hlt hal hx⟩ (Nat.sub_lt_sub_left hlt (Nat.lt_succ_self i))
  ·have hil:i=ns.length:=by
    have:¬ i<ns.length:=by simpa using hd
    omega
   subst hil
   rw [List.take_length] at hal
   have he:rightE l ns=0:=by
    unfold rightE
    rw [if_pos hc,if_pos (List.all_eq_true.2 hal)]
   rw [he]
   refine cd_exit (xE (xE (xY (xT (cQ (sA Z (sK [4] Z (cT ?_))))))))
   exact xt_rt Z ⟨Z,Z⟩ sbq
end
end Go.Hr
namespace Go.Hr
open Go Go.RowKit Go.Ck Go.Proofs Go.Proofs.YtaohbfnepjjdgaaGreat Fx
attribute [local irreducible] Go.Ck.Sub St Cd Xt Nx DrL LsW
theorem Right.sel {l:Sys} (hR:Right l):∀ x∈l,x.parents.length≤1099511627776:=fun x hx=>Nat.le_trans (hR.few x hx) (by decide)
section
variable {S N:Res} {v nv:Value} {l:Sys} {ns:List Nm}
end
end Go.Hr
