/-
  The reference: names of classes. No condition.
  The reference: right types. Conditions: what is read; right headers.
  The reference: right types,however deep. Conditions: what is read; right headers.
-/
import Derived.Test.YtaohbfnepjjdgaaGreatM18
import Derived.Test.YtaohbfnepjjdgaaGreatM12
import Derived.Test.YtaohbfnepjjdgaaGreatM11
set_option linter.unusedVariables false
set_option linter.unusedSimpArgs false
namespace Go.Hr
open Go Go.RowKit Go.Ck Go.Proofs Go.Proofs.YtaohbfnepjjdgaaGreat Fx
attribute [local irreducible] Go.Ck.Sub St Cd Xt Nx DrL LsW
theorem ok_okB (c:UInt8):(((decide (65≤(c.toNat:Int)) && decide ((c.toNat:Int)≤90)) || (decide (48≤(c.toNat:Int)) && decide ((c.toNat:Int)≤57))) || ((c.toNat:Int) == 95))=okB c:=by
 have h:=ok_odd c
 have h2:(((decide (65≤(c.toNat:Int)) && decide ((c.toNat:Int)≤90)) || (decide (48≤(c.toNat:Int)) && decide ((c.toNat:Int)≤57))) || ((c.toNat:Int) == 95)) = !(((!(decide (65≤(c.toNat:Int)) && decide ((c.toNat:Int)≤90))) && !(decide (48≤(c.toNat:Int)) && decide ((c.toNat:Int)≤57))) && ((c.toNat:Int) != 95)):=by
  rw [bne]
  cases (decide (65≤(c.toNat:Int)) && decide ((c.toNat:Int)≤90)) <;> cases (decide (48≤(c.toNat:Int)) && decide ((c.toNat:Int)≤57)) <;> cases ((c.toNat:Int) == 95) <;> rfl
 rw [h2,h,Bool.not_not]
theorem reserved_and (s : Nm) : (!reserved.contains s) = ((((s != "INTEGER".toUTF8.data.toList) && (s != "BOOLEAN".toUTF8.data.toList)) && (s != "ANY".toUTF8.data.toList)) && (s != "NONE".toUTF8.data.toList)) := by
 unfold reserved
 simp only [List.contains_cons,List.contains_nil,Bool.or_false,Bool.not_or,bne,Bool.and_assoc]
set_option maxRecDepth 100000 in
theorem capital_ct (s : Nm) : Reads Tryz.prog 87 #[sv s] [] (.bool (named s)) := by
 cases s with
 | nil =>
  refine ct_of (n:=65) Tryz.func87 Z Z (len Z) fun hr w0=>?_
  refine cQ (sA Z (sN (nT (cS (cQ (sM Z (sV (v_slen Z Tryz.underlying9) (sV (v_eql Z Z) (sM Z (st_sk Z Z Z ?_))))))))))
  iterate 2 refine st_sk rfl rfl rfl ?_
  refine sV (vQ Z Z) (sM Z (st_sk Z Z Z ?_))
  iterate 2 refine st_sk rfl rfl rfl ?_
  refine sV (vQ Z Z) (sM Z (st_sk Z Z Z ?_))
  iterate 2 refine st_sk rfl rfl rfl ?_
  refine sV (vQ Z Z) (sK [0,2,22] Z (cd_true Z ?_))
  refine cQ (sA Z (sK [2] Z (cT (xR ?_))))
  exact xt_rt Z ⟨Z,Z⟩ sbq
 | cons u t =>
  refine ct_of (n:=65) Tryz.func87 Z Z (len Z) fun hr w0=>?_
  refine cQ (sA Z (sN (nT (cS (cQ (sM Z (sV (v_slen Z Tryz.underlying9) (sV (v_eql Z Z) (sM Z (st_cut (k:=8) (d:=12) (v:=.bool ((((u::t).length:Int) == 0) || decide (20<((u::t).length:Int)))) (fun hcut=>bool_want (b:=(((u::t).length:Int) == 0)) false (fun hg=>?_) (fun hg=>?_)) ?_))))))))))
  ·refine st_sk Z Z hg ?_
   iterate 2 refine st_sk rfl rfl hg ?_
   refine sV (vQ (bO Z hg) Z) ?_
   exact hcut _ uG
  ·refine sG Z (bG Z hg) (vM Z) (sG Z (bG Z hg) (v_slen Z Tryz.underlying9) (sG Z (bG Z hg) (v_gtr Z Z) (sV (vP (bO Z hg) Z) ?_)))
   exact hcut _ uG
  refine sM Z (st_cut (k:=13) (d:=17) (v:=.bool (((((u::t).length:Int) == 0) || decide (20<((u::t).length:Int))) || decide ((u.toNat:Int)<65))) (fun hcut=>bool_want (b:=(((u::t).length:Int) == 0) || decide (20<((u::t).length:Int))) false (fun hg=>?_) (fun hg=>?_)) ?_)
  ·refine st_sk Z Z hg ?_
   iterate 2 refine st_sk rfl rfl hg ?_
   refine sV (vQ (bO Z hg) Z) ?_
   exact hcut _ uG
  ·refine sG Z (bG Z hg) (vM Z) (sG Z (bG Z hg) (v_sindex (k:=0) Z Z Tryz.underlying9 Z Z) (sG Z (bG Z hg) (v_lss Z Z) (sV (vP (bO Z hg) Z) ?_)))
   exact hcut _ uG
  refine sM Z (st_cut (k:=18) (d:=22) (v:=.bool ((((((u::t).length:Int) == 0) || decide (20<((u::t).length:Int))) || decide ((u.toNat:Int)<65)) || decide (90<(u.toNat:Int)))) (fun hcut=>bool_want (b:=((((u::t).length:Int) == 0) || decide (20<((u::t).length:Int))) || decide ((u.toNat:Int)<65)) false (fun hg=>?_) (fun hg=>?_)) ?_)
  ·refine st_sk Z Z hg ?_
   iterate 2 refine st_sk rfl rfl hg ?_
   refine sV (vQ (bO Z hg) Z) ?_
   exact hcut _ uG
  ·refine sG Z (bG Z hg) (vM Z) (sG Z (bG Z hg) (v_sindex (k:=0) Z Z Tryz.underlying9 Z Z) (sG Z (bG Z hg) (v_gtr Z Z) (sV (vP (bO Z hg) Z) ?_)))
   exact hcut _ uG
  refine sK [0,2,22] Z (cC Z (fun hx=>?_) (fun hx=>?_))
  ·rw [named_no hx]
   refine cQ (sA Z (sK [2] Z (cT (xR ?_))))
   exact xt_rt Z ⟨Z,Z⟩ sbq
  ·have hl20:(u::t).length≤20:=by
    simp only [Bool.or_eq_false_iff,decide_eq_false_iff_not] at hx
    omega
   have hyes:=named_yes hx
   have hodd := @named_odd u t
   generalize hs:u::t=s at *
   rw [reserved_and] at hyes
   refine cK (xT (cS (cQ (sA Z (sK [0,2,3] Z (cB (cd_lq (σ := Nat) (fun i=>[(0,sv s),(3,.int .i64 (i:Nat))]) (fun _=>hr) (fun i=>i≤s.length∧∀ (j:Nat) c,j<i→s[j]? = some c→okB c=true) (fun i=>s.length - i) 0 ⟨Nat.zero_le _,fun j c hj=>by omega⟩ ?_)))))))
   rintro i ⟨hi,hok⟩
   refine cS (cQ (sM Z (sM Z (sV (v_slen Z Tryz.underlying9) (sV (v_lss Z Z) (sK [0,3,26] Z (cC Z (fun hd=>?_) (fun hd=>?_))))))))
   ·have hlt:i<s.length:=by simpa using hd
    have hci:=List.getElem?_eq_getElem hlt
    have hcm:s[i]∈s:=List.getElem_mem hlt
    generalize s[i]=c at *
    refine cK (xT (cS (cB (cQ (sM Z (sM Z (sV (v_sindex (k:=i) Z Z Tryz.underlying9 Z hci) (sA Z (sK [0,3,4] Z (cQ (sM Z ?_)))))))))))
    refine sV (v_geq Z Z) (sM Z (st_cut (k:=6) (d:=37) (v:=.bool (decide (65≤(c.toNat:Int)) && decide ((c.toNat:Int)≤90))) (fun hcut=>bool_want (b:=decide (65≤(c.toNat:Int))) true (fun hg=>?_) (fun hg=>?_)) ?_))
    ·refine st_sk Z Z hg ?_
     refine st_sk Z Z hg ?_
     refine sV (vP (bO Z hg) Z) ?_
     exact hcut _ uG
    ·refine sG Z (bG Z hg) (vM Z) (sG Z (bG Z hg) (v_leq Z Z) (sV (vQ (bO Z hg) Z) ?_))
     exact hcut _ uG
    refine sM Z (st_cut (k:=14) (d:=45) (v:=.bool ((decide (65≤(c.toNat:Int)) && decide ((c.toNat:Int)≤90)) || (decide (48≤(c.toNat:Int)) && decide ((c.toNat:Int)≤57)))) (fun hcut=>bool_want (b:=(decide (65≤(c.toNat:Int)) && decide ((c.toNat:Int)≤90))) false (fun hg=>?_) (fun hg=>?_)) ?_)
    ·refine st_sk Z Z hg ?_
     iterate 2 refine st_sk rfl rfl hg ?_
     refine st_sku Z Z ?_
     refine st_sku Z Z ?_
     refine st_sk Z Z hg ?_
     refine sV (vQ (bO Z hg) Z) ?_
     exact hcut _ uG
    ·refine sG Z (bG Z hg) (vM Z) (sG Z (bG Z hg) (v_geq Z Z) (sG Z (bG Z hg) (vM Z) (st_cut (k:=13) (d:=44) (v:=.bool (decide (48≤(c.toNat:Int)) && decide ((c.toNat:Int)≤57))) (fun hcut=>bool_want (b:=decide (48≤(c.toNat:Int))) true (fun hg1=>?_) (fun hg1=>?_)) ?_)))
     ·refine st_sk Z Z hg1 ?_
      refine st_sk Z Z hg1 ?_
      refine sG Z (bG Z hg) (vP (bO Z hg1) Z) ?_
      exact hcut _ (uH (by first | rfl | (rw [hg1]; rfl) | simp_all) (uS Z (uS Z (uR))))
     ·refine sG Z (bG Z hg1) (vM Z) (sG Z (bG Z hg1) (v_leq Z Z) (sG Z (bG Z hg) (vQ (bO Z hg1) Z) ?_))
      exact hcut _ (uH (by first | rfl | (rw [hg1]; rfl) | simp_all) (uS Z (uS Z (uR))))
     refine sV (vP (bO Z hg) Z) ?_
     exact hcut _ (uH (by first | rfl | (rw [hg]; rfl) | simp_all) (by repeat (first | exact uR | refine uS Z ?_)))
    refine sM Z (st_cut (k:=18) (d:=49) (v:=.bool (((decide (65≤(c.toNat:Int)) && decide ((c.toNat:Int)≤90)) || (decide (48≤(c.toNat:Int)) && decide ((c.toNat:Int)≤57))) || ((c.toNat:Int) == 95))) (fun hcut=>bool_want (b:=((decide (65≤(c.toNat:Int)) && decide ((c.toNat:Int)≤90)) || (decide (48≤(c.toNat:Int)) && decide ((c.toNat:Int)≤57)))) false (fun hg=>?_) (fun hg=>?_)) ?_)
    ·refine st_sk Z Z hg ?_
     refine st_sk Z Z hg ?_
     refine sV (vQ (bO Z hg) Z) ?_
     exact hcut _ uG
    ·refine sG Z (bG Z hg) (vM Z) (sG Z (bG Z hg) (v_eql Z Z) (sV (vP (bO Z hg) Z) ?_))
     exact hcut _ uG
    refine sV (v_not Z) (sK [0,3,50] Z ?_)
    rw [ok_okB]
    refine cC Z (fun hc=>?_) (fun hc=>?_)
    ·have hc:okB c=false:=by simpa using hc
     rw [hodd hcm hc]
     refine cQ (sA Z (sK [2] Z (cT (xW (xR (xR (xW (xR ?_))))))))
     exact xt_rt Z ⟨Z,Z⟩ sbq
    ·have hc:okB c=true:=by simpa using hc
     refine cK (xB (xT (cR (sM Z (sV (v_add Z Z (by unfold I64 at *; omega)) (sA Z (sN (nK [0,3] Z (nx_xt (xt_aq (i+1) ⟨hlt,fun j c' hj hc'=>?_⟩ (by show _ - _<_ - _; omega)))))))))))
     by_cases hji:j=i
     ·subst hji; rw [hci] at hc'; cases hc'; exact hc
     ·exact hok j c' (by omega) hc'
   ·have hie:i=s.length:=by
     have:¬ i<s.length:=by simpa using hd
     omega
    rw [hyes fun c hc=>by
     obtain ⟨j,hj,rfl⟩:=List.getElem_of_mem hc
     exact hok j _ (by omega) (List.getElem?_eq_getElem hj)]
    refine cd_exit (xE (xE (xY (xT (cQ (sM Z (sV (v_sneq Z Z) (sM Z (st_cut (k := 6) (d := 56) (v := .bool ((s != "INTEGER".toUTF8.data.toList) && (s != "BOOLEAN".toUTF8.data.toList))) (fun hcut => bool_want (b := (s != "INTEGER".toUTF8.data.toList)) true (fun hg => ?_) (fun hg => ?_)) ?_)))))))))
    ·refine st_sk Z Z hg ?_
     refine st_sk Z Z hg ?_
     refine sV (vP (bO Z hg) Z) ?_
     exact hcut _ uG
    ·refine sG Z (bG Z hg) (vM Z) (sG Z (bG Z hg) (v_sneq Z Z) (sV (vQ (bO Z hg) Z) ?_))
     exact hcut _ uG
    refine sM Z (st_cut (k := 10) (d := 60) (v := .bool (((s != "INTEGER".toUTF8.data.toList) && (s != "BOOLEAN".toUTF8.data.toList)) && (s != "ANY".toUTF8.data.toList))) (fun hcut => bool_want (b := ((s != "INTEGER".toUTF8.data.toList) && (s != "BOOLEAN".toUTF8.data.toList))) true (fun hg => ?_) (fun hg => ?_)) ?_)
    ·refine st_sk Z Z hg ?_
     refine st_sk Z Z hg ?_
     refine sV (vP (bO Z hg) Z) ?_
     exact hcut _ uG
    ·refine sG Z (bG Z hg) (vM Z) (sG Z (bG Z hg) (v_sneq Z Z) (sV (vQ (bO Z hg) Z) ?_))
     exact hcut _ uG
    refine sM Z (st_cut (k := 14) (d := 64) (v := .bool ((((s != "INTEGER".toUTF8.data.toList) && (s != "BOOLEAN".toUTF8.data.toList)) && (s != "ANY".toUTF8.data.toList)) && (s != "NONE".toUTF8.data.toList))) (fun hcut => bool_want (b := (((s != "INTEGER".toUTF8.data.toList) && (s != "BOOLEAN".toUTF8.data.toList)) && (s != "ANY".toUTF8.data.toList))) true (fun hg => ?_) (fun hg => ?_)) ?_)
    ·refine st_sk Z Z hg ?_
     refine st_sk Z Z hg ?_
     refine sV (vP (bO Z hg) Z) ?_
     exact hcut _ uG
    ·refine sG Z (bG Z hg) (vM Z) (sG Z (bG Z hg) (v_sneq Z Z) (sV (vQ (bO Z hg) Z) ?_))
     exact hcut _ uG
    refine sA Z (sK [2] Z (cT ?_))
    exact xt_rt Z ⟨Z,Z⟩ sbq
end Go.Hr
namespace Go.Hr
open Go Go.RowKit Go.Ck Go.Proofs Go.Proofs.YtaohbfnepjjdgaaGreat Fx
attribute [local irreducible] Go.Ck.Sub St Cd Xt Nx DrL LsW
section
variable {S T N R:Res} {v:Value} {F:List Fm} {l:KS} {s t:Kt}
def rcK (F:List Fm) (t:Kt):Kt:=if t.kind=3 then t else if t.kind=4∧(fidx F t.name).isSome=true then .mk 3 (boundOf F t.name) [] false false else .mk 0 [] [] false false
def rcB (F:List Fm) (t:Kt):Bool:=t.kind == 3 || (t.kind == 4 && (fidx F t.name).isSome)
theorem rc_no (h3:¬ t.kind=3) (h:((t.kind != 4) || decide (ixD (fidx F t.name)<0))=true):rcK F t = .mk 0 [] [] false false∧rcB F t=false:=by
 have h4:¬ (t.kind=4∧(fidx F t.name).isSome=true):=by
  rintro ⟨h4,h5⟩
  obtain ⟨i,hi⟩:=Option.isSome_iff_exists.1 h5
  rw [h4,hi] at h
  have:decide (ixD (some i)<0)=false:=decide_eq_false (by show ¬ (i:Int)<0; omega)
  rw [this] at h
  exact absurd h (by decide)
 refine ⟨by unfold rcK; rw [if_neg h3,if_neg h4],?_⟩
 unfold rcB
 rw [show (t.kind == 3)=false by simpa using h3,Bool.false_or,Bool.and_eq_false_iff]
 by_cases h5:t.kind=4
 ·right
  cases h6:(fidx F t.name).isSome with
  | false=>rfl
  | true=>exact absurd ⟨h5,h6⟩ h4
 ·left; simpa using h5
theorem rc_yes (h:((t.kind != 4) || decide (ixD (fidx F t.name)<0))=false):t.kind=4∧∃ (i:Nat) (hi:i<F.length),fidx F t.name=some i∧boundOf F t.name=F[i].bound:=by
 rw [Bool.or_eq_false_iff] at h
 have h4:t.kind=4:=by simpa using h.1
 cases hf:fidx F t.name with
 | none=>rw [hf] at h; exact absurd h.2 (by decide)
 | some i =>
  obtain ⟨hi,_⟩:=List.findIdx?_eq_some_iff_getElem.1 hf
  refine ⟨h4,i,hi,Z,?_⟩
  unfold boundOf
  rw [hf,Option.bind_some,List.getElem?_eq_getElem hi]; rfl
set_option maxRecDepth 100000 in
theorem classTypeR_ct {n0 d pv c2 fs ii : Value} {fa : Option Addr} {fc : Nat} (hrow : Row S 2 fmC (.slice fa F.length fc) F) {xa : Option Addr} {xn xc : Nat} :
  Reads Tryz.prog 70 #[.agg #[n0,d,.slice fa F.length fc,pv,c2,fs,ii],.agg (tyC t (.slice xa xn xc)).toArray] [S] (.tuple #[.agg (tyC (rcK F t) (ctV t (.slice xa xn xc))).toArray,.bool (rcB F t)]):=by
 by_cases h3:t.kind=3
 ·rw [show rcK F t=t from if_pos h3,show ctV t (.slice xa xn xc) = .slice xa xn xc from if_pos h3,show rcB F t=true by unfold rcB; rw [h3]; rfl]
  unfold tyC
  rw [h3]
  refine ct_of (n:=31) Tryz.func70 Z Z (len Z) fun hr w0=>?_
  refine cQ (st_bx Z Z fun b2=>?_)
  refine st_bx Z Z fun b3=>?_
  refine st_alc al25 fun b4=>?_
  refine sA Z (sK [2,3,4,5] Z (cS (cQ (sV (vF Z fa25_0 Z) (sV (vY Z ld3) ?_)))))
  refine sV (v_eql Z Z) (sK [2,3,4,5,9] Z (cd_true Z ?_))
  refine cQ (sV (v_ldn Z ld25 Z rds_pt) ?_)
  refine st_stoW Z Z sz25 Z Z ?_
  refine sA Z (sK [4,5] Z (cT (xR ?_)))
  exact xt_retV (.cellN Z ld25 Z slq (.tmp Z .nil)) ⟨Z,Z⟩ sbr
 ·rw [show ctV t (.slice xa xn xc) = .slice none 0 0 from if_neg h3]
  unfold tyC
  refine ct_of (n:=31) Tryz.func70 Z Z (len Z) fun hr w0=>?_
  refine cQ (st_bx Z Z fun b2=>?_)
  refine st_bx Z Z fun b3=>?_
  refine st_alc al25 fun b4=>?_
  refine sA Z (sK [2,3,4,5] Z (cS (cQ (sV (vF Z fa25_0 Z) (sV (vY Z ld3) ?_)))))
  refine sV (v_eql Z Z) (sK [2,3,4,5,9] Z ?_)
  rw [show (t.kind == 3)=false by simpa using h3]
  refine cd_false Z ?_
  refine cK (xT (cQ (sV (vF Z fa54_2 Z) (sV (vY Z ld48) ?_))))
  refine sV (vF Z fa25_1 Z) (sV (vY Z ld9) ?_)
  refine st_clr Z Z en66 Z (formalR_ct hrow t.name) ?_
  refine sA Z (sK [2,3,4,5,6] Z (cS (cQ (sV (vF Z fa25_0 Z) (sV (vY Z ld3) ?_)))))
  refine sV (v_neq Z Z) (sM Z (st_cut (k:=7) (d:=22) (v:=.bool ((t.kind != 4) || decide (ixD (fidx F t.name)<0))) (fun hcut=>bool_want (b:=(t.kind != 4)) false (fun hg=>?_) (fun hg=>?_)) ?_))
  ·refine st_sk Z Z hg ?_
   refine st_sk Z Z hg ?_
   refine sV (vQ (bO Z hg) Z) ?_
   exact hcut _ uG
  ·refine sG Z (bG Z hg) (vM Z) (sG Z (bG Z hg) (v_lss Z Z) (sV (vP (bO Z hg) Z) ?_))
   exact hcut _ uG
  refine sK [2,4,5,6,22] Z (cC Z (fun hb=>?_) (fun hb=>?_))
  ·have hb:((t.kind != 4) || decide (ixD (fidx F t.name)<0))=true:=hb
   rw [(rc_no h3 hb).1,(rc_no h3 hb).2]
   refine cQ (sV (v_build (cells:=[.int .i64 0,sv [],.slice none 0 0,.bool false,.bool false]) Z (fun _=>by kernel_rfl)) ?_)
   refine st_stoW Z Z sz25 Z Z ?_
   refine sA Z (sK [4,5] Z (cT (xR ?_)))
   exact xt_retV (.cellN Z ld25 Z slq (.tmp Z .nil)) ⟨Z,Z⟩ sbr
  ·have hb:((t.kind != 4) || decide (ixD (fidx F t.name)<0))=false:=hb
   obtain ⟨h4,i,hi,hf,hbd⟩:=rc_yes hb
   rw [show rcK F t = .mk 3 (boundOf F t.name) [] false false by unfold rcK; rw [if_neg h3,if_pos ⟨h4,by rw [hf]; rfl⟩],show rcB F t=true by unfold rcB; rw [h4,hf]; rfl,hbd]
   obtain ⟨b,o,cap2,e1,hrd⟩:=fm_at hrow (List.getElem?_eq_getElem hi)
   cases e1
   unfold fmA at hrd
   rw [hf]
   refine cK (xT (cQ (sV (vF Z fa54_2 Z) (sV (vY Z ld48) ?_))))
   refine sM Z (sV (vI (k:=i) Z Z sl48 Z hi Z) (sV (vF Z fa94_1 Z) (sV (vY Z ld9) ?_)))
   refine sV (v_build (cells:=[.int .i64 3,sv F[i].bound,.slice none 0 0,.bool false,.bool false]) Z (fun _=>by kernel_rfl)) ?_
   refine st_stoW Z Z sz25 Z Z ?_
   refine sA Z (sK [4,5] Z (cT ?_))
   exact xt_retV (.cellN Z ld25 Z slq (.tmp Z .nil)) ⟨Z,Z⟩ sbr
def bndR (l:KS) (F:List Fm) (t:Kt) (b:Nm):Bool:=if (b == root)=true then true else if (!rcB F t || ((rcK F t).name == root))=true then false else (rightE (ksys l) [(rcK F t).name,b] == 0) && (decide (rightE (ksys l) [(rcK F t).name,b]=0) && has (ksys l) (rcK F t).name b)
set_option maxRecDepth 100000 in
theorem bounded_ct (hv : ksysR S v l) (hl : l.length ≤ 1000000) {n0 d pv c2 fs ii : Value} {fa : Option Addr} {fc : Nat} (hrow : Row S 2 fmC (.slice fa F.length fc) F) {xa : Option Addr} {xn xc : Nat} (b : Nm) :
  Reads Tryz.prog 89 #[v,.agg #[n0,d,.slice fa F.length fc,pv,c2,fs,ii],.agg (tyC t (.slice xa xn xc)).toArray,sv b] [S] (.bool (bndR l F t b)):=by
 have hcl := @classTypeR_ct S F t n0 d pv c2 fs ii fa fc hrow xa xn xc
 have his:=fun c=>IsS_ct hv.sys (by simpa [ksys] using hl) c b
 obtain ⟨va,vc,rfl,_⟩:=id hv
 obtain ⟨ya,yn,yc,hcv⟩:∃ ya yn yc,ctV t (.slice xa xn xc) = .slice ya yn yc:=by
  unfold ctV
  split
  ·exact ⟨_,_,_,Z⟩
  ·exact ⟨_,_,_,Z⟩
 rw [hcv] at hcl
 unfold bndR
 unfold tyC at hcl ⊢
 generalize rcK F t=k at *
 generalize rcB F t=kb at *
 refine ct_of (n:=39) Tryz.func89 Z Z (len Z) fun hr w0=>?_
 refine cQ (st_bx Z Z fun b5=>?_)
 refine st_bx Z Z fun b6=>?_
 refine sA Z (sK [0,3,5,6,8] Z (cS (cQ (sM Z (sV (v_seql Z Z) (sK [0,3,5,6,8,13] Z (cC Z (fun h1=>?_) (fun h1=>?_))))))))
 ·rw [if_pos (show (b == root)=true from h1)]
  refine cQ (sA Z (sK [8] Z (cT (xR ?_))))
  exact xt_rt Z ⟨Z,Z⟩ sbq
 ·rw [if_neg (by rw [show (b == root)=false from h1]; decide)]
  refine cK (xT (cQ (sV (v_ldn Z ld54 Z rds_pt) ?_)))
  refine sV (v_ldn Z ld25 Z rds_pt) ?_
  refine st_clr Z Z en70 Z (hcl) ?_
  refine sM Z (sV (v_extract Z Z) (sV (v_extract Z Z) (st_alc al25 fun b9=>?_)))
  refine st_stoW Z Z sz25 Z Z ?_
  refine sA Z (sK [0,3,8,9,10] Z (cS (cQ (sM Z (sV (v_not Z) (sM Z (st_cut (k:=7) (d:=26) (v:=.bool (!kb || (k.name == root))) (fun hcut=>bool_want (b:=(!kb)) false (fun hg=>?_) (fun hg=>?_)) ?_)))))))
  ·refine st_sk Z Z hg ?_
   iterate 2 refine st_sk rfl rfl hg ?_
   refine sV (vQ (bO Z hg) Z) ?_
   exact hcut _ uG
  ·refine sG Z (bG Z hg) (vF Z fa25_1 Z) (sG Z (bG Z hg) (vY Z ld9) ?_)
   refine sG Z (bG Z hg) (v_seql Z Z) (sV (vP (bO Z hg) Z) ?_)
   exact hcut _ uG
  refine sK [0,3,8,9,26] Z (cC Z (fun h2=>?_) (fun h2=>?_))
  ·rw [if_pos (show (!kb || (k.name == root))=true from h2)]
   refine cQ (sA Z (sK [8] Z (cT (xR ?_))))
   exact xt_rt Z ⟨Z,Z⟩ sbq
  ·rw [if_neg (by rw [show (!kb || (k.name == root))=false from h2]; decide)]
   refine cK (xT (cQ (sM Z (sV (vF Z fa25_1 Z) (sV (vY Z ld9) ?_)))))
   refine sM Z (st_clr Z Z en144 Z (his k.name) ?_)
   refine st_alc al187 fun b11=>?_
   refine st_stoW Z Z sz187 Z Z ?_
   refine sK [8,11] Z (cQ (sV (vF Z fa187_1 Z) (sV (vY Z ld29) ?_)))
   refine sV (v_eql Z Z) (sM Z (st_cut (k:=7) (d:=38) (v:=.bool ((rightE (ksys l) [k.name,b] == 0) && (decide (rightE (ksys l) [k.name,b]=0) && has (ksys l) k.name b))) (fun hcut=>bool_want (b:=(rightE (ksys l) [k.name,b] == 0)) true (fun hg=>?_) (fun hg=>?_)) ?_))
   ·refine st_sk Z Z hg ?_
    refine st_sk Z Z hg ?_
    refine sV (vP (bO Z hg) Z) ?_
    exact hcut _ uG
   ·refine sG Z (bG Z hg) (vF Z fa187_0 Z) (sG Z (bG Z hg) (vY Z ld4) ?_)
    refine sV (vQ (bO Z hg) Z) ?_
    exact hcut _ uG
   refine sA Z (sK [8] Z (cT ?_))
   exact xt_rt Z ⟨Z,Z⟩ sbq
theorem bndR_under (h : HRight l) {x : KC} (hx : x ∈ l) (hs : t.inner l x.formals = 0) (hn : isNmd t = true) {b : Nm} (hb : b = root ∨ isC (ksys l) b = true) : bndR l x.formals t b = under l (ctName x.formals t) b := by
 have hnm : (rcK x.formals t).name = ctName x.formals t ∧ rcB x.formals t = true := by
  obtain ⟨k,n,az,w,z⟩:=t
  rcases nmd_iff.1 hn with h3 | h4
  ·simp only [Kt.kind] at h3
   subst h3
   exact ⟨Z,Z⟩
  ·simp only [Kt.kind] at h4
   subst h4
   obtain ⟨_,_,i,h1,h2⟩:=inner_formal hs
   have hf:(fidx x.formals n).isSome=true:=by rw [h1]; rfl
   refine ⟨?_,?_⟩
   ·unfold rcK ctName
    show (if (4:Int)=3 then _ else if (4:Int)=4∧(fidx x.formals n).isSome=true then _ else _:Kt).name=if (4:Int)=4 then _ else _
    rw [if_neg (by decide),if_pos ⟨rfl,hf⟩,if_pos rfl]; rfl
   ·show ((4:Int) == 3 || ((4:Int) == 4 && (fidx x.formals n).isSome))=true
    rw [hf]; rfl
 unfold bndR
 rw [hnm.1,hnm.2]
 unfold under
 by_cases h1:b=root
 ·subst h1; simp
 ·have hb := hb.resolve_left h1
  rw [if_neg (by simpa using h1),show (b == root)=false by simpa using h1,Bool.false_or,Bool.not_true,Bool.false_or]
  by_cases h2:ctName x.formals t=root
  ·rw [h2]; simp
  ·rw [if_neg (by simpa using h2)]
   have hc:isC (ksys l) (ctName x.formals t)=true:=by
    rcases h.ct hx hs hn with ⟨g,_⟩ | ⟨y,hy,_⟩
    ·exact absurd g h2
    ·rw [← kfind_isC,hy]; rfl
   have hr:rightE (ksys l) [ctName x.formals t,b]=0:=rightE_zero.2 ⟨h.right,fun n hn=>by
    rcases List.mem_cons.1 hn with rfl | hn
    ·exact hc
    ·simp at hn; subst hn; exact hb⟩
   rw [hr,show (ctName x.formals t != root)=true by simpa using h2]
   simp
theorem argument_of (h : HRight l) (hv : ksysR S v l) {x : KC} (hx : x ∈ l) {n0 d pv c2 fs ii : Value} {fa : Option Addr} {fc : Nat} (hrow : Row S 2 fmC (.slice fa x.formals.length fc) x.formals) {xa : Option Addr} {xn xc : Nat} {b : Nm} (hb : b = root ∨ isC (ksys l) b = true)
  (hI:Reads Tryz.prog 88 #[v,.agg #[n0,d,.slice fa x.formals.length fc,pv,c2,fs,ii],.agg (tyC t (.slice xa xn xc)).toArray] [S] (.int .i64 (t.inner l x.formals))) :
  Reads Tryz.prog 50 #[v,.agg #[n0,d,.slice fa x.formals.length fc,pv,c2,fs,ii],.agg (tyC t (.slice xa xn xc)).toArray,sv b] [S] (.int .i64 (actE l x.formals t b)):=by
 have hl:l.length≤1000000:=by
  have:=h.right.len
  simp only [ksys,List.length_map] at this; omega
 have hbo := @bounded_ct S v x.formals l t hv hl n0 d pv c2 fs ii fa fc hrow xa xn xc b
 have hI2:=hI
 obtain ⟨va,vc,rfl,_⟩:=id hv
 unfold tyC at hI2 hbo ⊢
 refine ct_of (n:=41) Tryz.func50 Z Z (len Z) fun hr w0=>?_
 refine cQ (st_bx Z Z fun b5=>?_)
 refine st_bx Z Z fun b6=>?_
 refine sA Z (sK [0,3,5,6,8] Z (cS (cQ (sV (vF Z fa25_0 Z) (sV (vY Z ld3) ?_)))))
 refine sV (v_neq Z Z) (sM Z (st_cut (k:=8) (d:=17) (v:=.bool ((t.kind != 3) && (t.kind != 4))) (fun hcut=>bool_want (b:=(t.kind != 3)) true (fun hg=>?_) (fun hg=>?_)) ?_))
 ·refine st_sk Z Z hg ?_
  iterate 2 refine st_sk rfl rfl hg ?_
  refine sV (vP (bO Z hg) Z) ?_
  exact hcut _ uG
 ·refine sG Z (bG Z hg) (vF Z fa25_0 Z) (sG Z (bG Z hg) (vY Z ld3) ?_)
  refine sG Z (bG Z hg) (v_neq Z Z) (sV (vQ (bO Z hg) Z) ?_)
  exact hcut _ uG
 refine sM Z (st_cut (k:=12) (d:=21) (v:=.bool (((t.kind != 3) && (t.kind != 4)) || t.void)) (fun hcut=>bool_want (b:=((t.kind != 3) && (t.kind != 4))) false (fun hg=>?_) (fun hg=>?_)) ?_)
 ·refine st_sk Z Z hg ?_
  refine st_sk Z Z hg ?_
  refine sV (vQ (bO Z hg) Z) ?_
  exact hcut _ uG
 ·refine sG Z (bG Z hg) (vF Z fa25_3 Z) (sG Z (bG Z hg) (vY Z ld4) ?_)
  refine sV (vP (bO Z hg) Z) ?_
  exact hcut _ uG
 refine sM Z (st_cut (k:=16) (d:=25) (v:=.bool ((((t.kind != 3) && (t.kind != 4)) || t.void) || t.sep)) (fun hcut=>bool_want (b:=(((t.kind != 3) && (t.kind != 4)) || t.void)) false (fun hg=>?_) (fun hg=>?_)) ?_)
 ·refine st_sk Z Z hg ?_
  refine st_sk Z Z hg ?_
  refine sV (vQ (bO Z hg) Z) ?_
  exact hcut _ uG
 ·refine sG Z (bG Z hg) (vF Z fa25_4 Z) (sG Z (bG Z hg) (vY Z ld4) ?_)
  refine sV (vP (bO Z hg) Z) ?_
  exact hcut _ uG
 refine sK [0,3,5,6,8,25] Z (cC Z (fun h1=>?_) (fun h1=>?_))
 ·have h1:((((t.kind != 3) && (t.kind != 4)) || t.void) || t.sep)=true:=h1
  rw [actE_one (show ((isNmd t && !t.void) && !t.sep)=false by
   rw [← Bool.not_eq_true',← h1]; unfold isNmd bne; simp only [Bool.not_and,Bool.not_or,Bool.not_not])]
  refine cQ (sA Z (sK [8] Z (cT (xR ?_))))
  exact xt_rt Z ⟨Z,Z⟩ sbq
 ·have h1:((((t.kind != 3) && (t.kind != 4)) || t.void) || t.sep)=false:=h1
  have h2:((isNmd t && !t.void) && !t.sep)=true:=by
   rw [← Bool.not_eq_false',← h1]; unfold isNmd bne; simp only [Bool.not_and,Bool.not_or,Bool.not_not]
  have hn:isNmd t=true:=by simp only [Bool.and_eq_true] at h2; exact h2.1.1
  rw [actE_two h2]
  refine cK (xT (cQ (sM Z (sV (v_ldn Z ld54 Z rds_pt) ?_))))
  refine sV (v_ldn Z ld25 Z rds_pt) ?_
  refine st_clr Z Z en88 Z (hI2) ?_
  refine sA Z (sK [0,3,5,6,8,9] Z (cS (cQ (sM Z (sV (v_eql Z Z) (sM Z (st_cut (k:=10) (d:=39) (v:=.bool ((t.inner l x.formals == 0) && !(bndR l x.formals t b))) (fun hcut=>bool_want (b:=(t.inner l x.formals == 0)) true (fun hg=>?_) (fun hg=>?_)) ?_)))))))
  ·refine st_sk Z Z hg ?_
   iterate 5 refine st_sk rfl rfl hg ?_
   refine sV (vP (bO Z hg) Z) ?_
   exact hcut _ uG
  ·refine sG Z (bG Z hg) (vM Z) (sG Z (bG Z hg) (v_ldn Z ld54 Z rds_pt) ?_)
   refine sG Z (bG Z hg) (v_ldn Z ld25 Z rds_pt) ?_
   refine sG Z (bG Z hg) (vM Z) (st_clrg Z (bG Z hg) Z Z en89 Z (hbo) ?_)
   refine sG Z (bG Z hg) (v_not Z) (sV (vQ (bO Z hg) Z) ?_)
   exact hcut _ uG
  refine sK [8,9,39] Z (cC Z (fun h3=>?_) (fun h3=>?_))
  ·have h3:((t.inner l x.formals == 0) && !(bndR l x.formals t b))=true:=h3
   rw [Bool.and_eq_true] at h3
   have hz:t.inner l x.formals=0:=eq_of_beq h3.1
   rw [bndR_under h hx hz hn hb,Bool.not_eq_true'] at h3
   rw [if_neg (by simpa using hz),if_pos h3.2]
   refine cR (sA Z (sK [8,9] Z (cQ (sM Z (sA Z (sK [8] Z (cT ?_)))))))
   exact xt_rt Z ⟨Z,Z⟩ sbq
  ·have h3:((t.inner l x.formals == 0) && !(bndR l x.formals t b))=false:=h3
   have hr:(if t.inner l x.formals≠0 then t.inner l x.formals else if under l (ctName x.formals t) b=false then 8 else 0)=t.inner l x.formals:=by
    by_cases hz:t.inner l x.formals=0
    ·rw [if_neg (by simpa using hz),hz]
     rw [hz,bndR_under h hx hz hn hb] at h3
     rw [if_neg]
     intro e; rw [e] at h3; exact absurd h3 (by decide)
    ·rw [if_pos hz]
   rw [hr]
   refine cK (xT (cQ (sM Z (sA Z (sK [8] Z (cT ?_))))))
   exact xt_rt Z ⟨Z,Z⟩ sbq
end
end Go.Hr
namespace Go.Hr
open Go Go.RowKit Go.Ck Go.Proofs Go.Proofs.YtaohbfnepjjdgaaGreat Fx
attribute [local irreducible] Go.Ck.Sub St Cd Xt Nx DrL LsW
section
variable {S T N R:Res} {v:Value} {F:List Fm} {l:KS} {s t:Kt}
theorem kidx_find (l:KS) (n:Nm):(kidx l n=none∧kfind l n=none)∨∃ k,kidx l n=some k∧∃ hk:k<l.length,kfind l n=some l[k]:=by
 unfold kidx kfind
 cases h:l.findIdx? fun x=>x.name == n with
 | none =>
  refine .inl ⟨Z,?_⟩
  rw [List.findIdx?_eq_none_iff] at h
  exact List.find?_eq_none.2 fun x hx=>by rw [h x hx]; decide
 | some k =>
  obtain ⟨hk,h1,h2⟩:=List.findIdx?_eq_some_iff_getElem.1 h
  exact .inr ⟨k,Z,hk,List.find?_eq_some_iff_getElem.2 ⟨h1,k,hk,Z,fun j hj=>by simpa using h2 j hj⟩⟩
theorem low_or {n:Nm} {az:List Kt} {w z:Bool}:(((n == [] && ((az.length:Int) == 0)) && !w) && !z) = !((((n != []) || decide (0<(az.length:Int))) || w) || z):=by
 have:((az.length:Int) == 0) = !decide (0<(az.length:Int)):=by
  cases az with
  | nil=>rfl
  | cons a t=>rw [show decide (0<((a::t).length:Int))=true by apply decide_eq_true; simp]; rfl
 rw [this]
 unfold bne
 simp only [Bool.not_or,Bool.not_not]
theorem fml_or {az:List Kt} {z:Bool}:(((az.length:Int) == 0) && !z) = !(decide (0<(az.length:Int)) || z):=by
 have:((az.length:Int) == 0) = !decide (0<(az.length:Int)):=by
  cases az with
  | nil=>rfl
  | cons a t=>rw [show decide (0<((a::t).length:Int))=true by apply decide_eq_true; simp]; rfl
 rw [this,Bool.not_or]
theorem fmAt_ix {n:Nm}:(fmAt F n).isSome = !decide (ixD (fidx F n)<0):=by
 cases h:fidx F n with
 | none=>rw [fmAt_none h]; rfl
 | some i =>
  obtain ⟨_,h2⟩:=fidx_at h
  rw [h2,show decide (ixD (some i)<0)=false from decide_eq_false (by show ¬ (i:Int)<0; omega)]; rfl
set_option maxHeartbeats 4000000 in
theorem rightR_go (h : HRight l) (hv : ksysR S v l) {x : KC} (hx : x ∈ l) {n0 d pv c2 fs ii : Value} {fa : Option Addr} {fc : Nat} (hrow : Row S 2 fmC (.slice fa x.formals.length fc) x.formals) : ∀ (D : Nat) (t : Kt) (y : Value), t.depth ≤ D → Tys S y t.args →
  Reads Tryz.prog 88 #[v,.agg #[n0,d,.slice fa x.formals.length fc,pv,c2,fs,ii],.agg (tyC t y).toArray] [S] (.int .i64 (t.inner l x.formals)):=by
 intro D
 induction D with
 | zero=>intro t y hd; cases t; simp [Kt.depth] at hd
 | succ D ih =>
  rintro ⟨k,n,az,w,z⟩ y hd hy
  have hy:Tys S y az:=hy
  have hF:∀ a∈az,∀ y,Tys S y a.args→Reads Tryz.prog 88 #[v,.agg #[n0,d,.slice fa x.formals.length fc,pv,c2,fs,ii],.agg (tyC a y).toArray] [S] (.int .i64 (a.inner l x.formals)):=fun a ha y hy=>ih a y (by have:=depth_args (t:=.mk k n az w z) ha; omega) hy
  clear ih hd
  have hml:maxLen=9223372036854775807:=rfl
  obtain ⟨xa,xc,rfl,hlc,hcm,_⟩:=hy.form
  show Reads _ _ #[_,_,.agg #[.int .i64 k,sv n,.slice xa az.length xc,.bool w,.bool z]] _ _
  obtain ⟨va,vc,rfl,hlcv,hcmv,_⟩:=id hv
  by_cases hk:k=0∨k=1∨k=2
  ·rw [inner_low hk, low_or]
   rcases hk with rfl | rfl | rfl
   ·refine ct_of (n:=98) Tryz.func88 Z Z (len Z) fun hr w0=>?_
    refine cQ (st_bx Z Z fun b4=>?_)
    refine st_bx Z Z fun b5=>?_
    refine sA Z (sK [0,4,5,6] Z (cS (cQ (sV (vF Z fa25_0 Z) (sV (vY Z ld3) ?_)))))
    refine sK [0,4,5,6,12] Z (cB (cS (cQ (sV (v_eql Z Z) (sA Z (sK [0,4,5,6,12,13] Z (cd_false Z ?_)))))))
    refine cQ (sV (v_eql Z Z) (sA Z (sK [0,4,5,6,12,13] Z (cd_false Z ?_))))
    refine cR (sV (v_eql Z Z) (sA Z (sK [0,4,5,6,12,13] Z (cd_true Z ?_))))
    refine cS (cQ (sV (vF Z fa25_1 Z) (sV (vY Z ld9) ?_)))
    refine sV (v_sneq Z Z) (sM Z (st_cut (k:=9) (d:=25) (v:=.bool ((n != []) || decide (0<(az.length:Int)))) (fun hcut=>bool_want (b:=(n != [])) false (fun hg=>?_) (fun hg=>?_)) ?_))
    ·refine st_sk Z Z hg ?_
     iterate 3 refine st_sk rfl rfl hg ?_
     refine sV (vQ (bO Z hg) Z) ?_
     exact hcut _ uG
    ·refine sG Z (bG Z hg) (vF Z fa25_2 Z) (sG Z (bG Z hg) (vY Z ld23) ?_)
     refine sG Z (bG Z hg) (v_len Z Tryz.underlying23) (sG Z (bG Z hg) (v_gtr Z Z) (sV (vP (bO Z hg) Z) ?_))
     exact hcut _ uG
    refine sM Z (st_cut (k:=13) (d:=29) (v:=.bool (((n != []) || decide (0<(az.length:Int))) || w)) (fun hcut=>bool_want (b:=((n != []) || decide (0<(az.length:Int)))) false (fun hg=>?_) (fun hg=>?_)) ?_)
    ·refine st_sk Z Z hg ?_
     refine st_sk Z Z hg ?_
     refine sV (vQ (bO Z hg) Z) ?_
     exact hcut _ uG
    ·refine sG Z (bG Z hg) (vF Z fa25_3 Z) (sG Z (bG Z hg) (vY Z ld4) ?_)
     refine sV (vP (bO Z hg) Z) ?_
     exact hcut _ uG
    refine sM Z (st_cut (k:=17) (d:=33) (v:=.bool ((((n != []) || decide (0<(az.length:Int))) || w) || z)) (fun hcut=>bool_want (b:=(((n != []) || decide (0<(az.length:Int))) || w)) false (fun hg=>?_) (fun hg=>?_)) ?_)
    ·refine st_sk Z Z hg ?_
     refine st_sk Z Z hg ?_
     refine sV (vQ (bO Z hg) Z) ?_
     exact hcut _ uG
    ·refine sG Z (bG Z hg) (vF Z fa25_4 Z) (sG Z (bG Z hg) (vY Z ld4) ?_)
     refine sV (vP (bO Z hg) Z) ?_
     exact hcut _ uG
    refine sK [6,33] Z (cC Z (fun hb=>?_) (fun hb=>?_))
    ·rw [show ((((n != []) || decide (0<(az.length:Int))) || w) || z)=true from hb]
     refine cQ (sA Z (sK [6] Z (cT (xR (xW (xR ?_))))))
     exact xt_rt Z ⟨Z,Z⟩ sbq
    ·rw [show ((((n != []) || decide (0<(az.length:Int))) || w) || z)=false from hb]
     refine cK (xT (cQ (sA Z (sK [6] Z (cT (xW (xR ?_)))))))
     exact xt_rt Z ⟨Z,Z⟩ sbq
   ·refine ct_of (n:=98) Tryz.func88 Z Z (len Z) fun hr w0=>?_
    refine cQ (st_bx Z Z fun b4=>?_)
    refine st_bx Z Z fun b5=>?_
    refine sA Z (sK [0,4,5,6] Z (cS (cQ (sV (vF Z fa25_0 Z) (sV (vY Z ld3) ?_)))))
    refine sK [0,4,5,6,12] Z (cB (cS (cQ (sV (v_eql Z Z) (sA Z (sK [0,4,5,6,12,13] Z (cd_true Z ?_)))))))
    refine cK (xT (cd_true Z ?_))
    refine cS (cQ (sV (vF Z fa25_1 Z) (sV (vY Z ld9) ?_)))
    refine sV (v_sneq Z Z) (sM Z (st_cut (k:=9) (d:=25) (v:=.bool ((n != []) || decide (0<(az.length:Int)))) (fun hcut=>bool_want (b:=(n != [])) false (fun hg=>?_) (fun hg=>?_)) ?_))
    ·refine st_sk Z Z hg ?_
     iterate 3 refine st_sk rfl rfl hg ?_
     refine sV (vQ (bO Z hg) Z) ?_
     exact hcut _ uG
    ·refine sG Z (bG Z hg) (vF Z fa25_2 Z) (sG Z (bG Z hg) (vY Z ld23) ?_)
     refine sG Z (bG Z hg) (v_len Z Tryz.underlying23) (sG Z (bG Z hg) (v_gtr Z Z) (sV (vP (bO Z hg) Z) ?_))
     exact hcut _ uG
    refine sM Z (st_cut (k:=13) (d:=29) (v:=.bool (((n != []) || decide (0<(az.length:Int))) || w)) (fun hcut=>bool_want (b:=((n != []) || decide (0<(az.length:Int)))) false (fun hg=>?_) (fun hg=>?_)) ?_)
    ·refine st_sk Z Z hg ?_
     refine st_sk Z Z hg ?_
     refine sV (vQ (bO Z hg) Z) ?_
     exact hcut _ uG
    ·refine sG Z (bG Z hg) (vF Z fa25_3 Z) (sG Z (bG Z hg) (vY Z ld4) ?_)
     refine sV (vP (bO Z hg) Z) ?_
     exact hcut _ uG
    refine sM Z (st_cut (k:=17) (d:=33) (v:=.bool ((((n != []) || decide (0<(az.length:Int))) || w) || z)) (fun hcut=>bool_want (b:=(((n != []) || decide (0<(az.length:Int))) || w)) false (fun hg=>?_) (fun hg=>?_)) ?_)
    ·refine st_sk Z Z hg ?_
     refine st_sk Z Z hg ?_
     refine sV (vQ (bO Z hg) Z) ?_
     exact hcut _ uG
    ·refine sG Z (bG Z hg) (vF Z fa25_4 Z) (sG Z (bG Z hg) (vY Z ld4) ?_)
     refine sV (vP (bO Z hg) Z) ?_
     exact hcut _ uG
    refine sK [6,33] Z (cC Z (fun hb=>?_) (fun hb=>?_))
    ·rw [show ((((n != []) || decide (0<(az.length:Int))) || w) || z)=true from hb]
     refine cQ (sA Z (sK [6] Z (cT (xR (xW (xR ?_))))))
     exact xt_rt Z ⟨Z,Z⟩ sbq
    ·rw [show ((((n != []) || decide (0<(az.length:Int))) || w) || z)=false from hb]
     refine cK (xT (cQ (sA Z (sK [6] Z (cT (xW (xR ?_)))))))
     exact xt_rt Z ⟨Z,Z⟩ sbq
   ·refine ct_of (n:=98) Tryz.func88 Z Z (len Z) fun hr w0=>?_
    refine cQ (st_bx Z Z fun b4=>?_)
    refine st_bx Z Z fun b5=>?_
    refine sA Z (sK [0,4,5,6] Z (cS (cQ (sV (vF Z fa25_0 Z) (sV (vY Z ld3) ?_)))))
    refine sK [0,4,5,6,12] Z (cB (cS (cQ (sV (v_eql Z Z) (sA Z (sK [0,4,5,6,12,13] Z (cd_false Z ?_)))))))
    refine cQ (sV (v_eql Z Z) (sA Z (sK [0,4,5,6,12,13] Z (cd_true Z ?_))))
    refine cK (xT (cd_true Z ?_))
    refine cS (cQ (sV (vF Z fa25_1 Z) (sV (vY Z ld9) ?_)))
    refine sV (v_sneq Z Z) (sM Z (st_cut (k:=9) (d:=25) (v:=.bool ((n != []) || decide (0<(az.length:Int)))) (fun hcut=>bool_want (b:=(n != [])) false (fun hg=>?_) (fun hg=>?_)) ?_))
    ·refine st_sk Z Z hg ?_
     iterate 3 refine st_sk rfl rfl hg ?_
     refine sV (vQ (bO Z hg) Z) ?_
     exact hcut _ uG
    ·refine sG Z (bG Z hg) (vF Z fa25_2 Z) (sG Z (bG Z hg) (vY Z ld23) ?_)
     refine sG Z (bG Z hg) (v_len Z Tryz.underlying23) (sG Z (bG Z hg) (v_gtr Z Z) (sV (vP (bO Z hg) Z) ?_))
     exact hcut _ uG
    refine sM Z (st_cut (k:=13) (d:=29) (v:=.bool (((n != []) || decide (0<(az.length:Int))) || w)) (fun hcut=>bool_want (b:=((n != []) || decide (0<(az.length:Int)))) false (fun hg=>?_) (fun hg=>?_)) ?_)
    ·refine st_sk Z Z hg ?_
     refine st_sk Z Z hg ?_
     refine sV (vQ (bO Z hg) Z) ?_
     exact hcut _ uG
    ·refine sG Z (bG Z hg) (vF Z fa25_3 Z) (sG Z (bG Z hg) (vY Z ld4) ?_)
     refine sV (vP (bO Z hg) Z) ?_
     exact hcut _ uG
    refine sM Z (st_cut (k:=17) (d:=33) (v:=.bool ((((n != []) || decide (0<(az.length:Int))) || w) || z)) (fun hcut=>bool_want (b:=(((n != []) || decide (0<(az.length:Int))) || w)) false (fun hg=>?_) (fun hg=>?_)) ?_)
    ·refine st_sk Z Z hg ?_
     refine st_sk Z Z hg ?_
     refine sV (vQ (bO Z hg) Z) ?_
     exact hcut _ uG
    ·refine sG Z (bG Z hg) (vF Z fa25_4 Z) (sG Z (bG Z hg) (vY Z ld4) ?_)
     refine sV (vP (bO Z hg) Z) ?_
     exact hcut _ uG
    refine sK [6,33] Z (cC Z (fun hb=>?_) (fun hb=>?_))
    ·rw [show ((((n != []) || decide (0<(az.length:Int))) || w) || z)=true from hb]
     refine cQ (sA Z (sK [6] Z (cT (xR (xW (xR ?_))))))
     exact xt_rt Z ⟨Z,Z⟩ sbq
    ·rw [show ((((n != []) || decide (0<(az.length:Int))) || w) || z)=false from hb]
     refine cK (xT (cQ (sA Z (sK [6] Z (cT (xW (xR ?_)))))))
     exact xt_rt Z ⟨Z,Z⟩ sbq
  ·by_cases h4 : k = 4
   ·subst h4
    rw [inner_fml,fml_or]
    refine ct_of (n:=98) Tryz.func88 Z Z (len Z) fun hr w0=>?_
    refine cQ (st_bx Z Z fun b4=>?_)
    refine st_bx Z Z fun b5=>?_
    refine sA Z (sK [0,4,5,6] Z (cS (cQ (sV (vF Z fa25_0 Z) (sV (vY Z ld3) ?_)))))
    refine sK [0,4,5,6,12] Z (cB (cS (cQ (sV (v_eql Z Z) (sA Z (sK [0,4,5,6,12,13] Z (cd_false Z ?_)))))))
    refine cQ (sV (v_eql Z Z) (sA Z (sK [0,4,5,6,12,13] Z (cd_false Z ?_))))
    refine cR (sV (v_eql Z Z) (sA Z (sK [0,4,5,6,12,13] Z (cd_false Z ?_))))
    refine cQ (sV (v_eql Z Z) (sA Z (sK [0,4,5,6,12,34] Z (cd_true Z ?_))))
    refine cS (cQ (sV (vF Z fa25_2 Z) (sV (vY Z ld23) ?_)))
    refine sV (v_len Z Tryz.underlying23) (sV (v_gtr Z Z) (sM Z (st_cut (k:=8) (d:=43) (v:=.bool (decide (0<(az.length:Int)) || z)) (fun hcut=>bool_want (b:=decide (0<(az.length:Int))) false (fun hg=>?_) (fun hg=>?_)) ?_)))
    ·refine st_sk Z Z hg ?_
     refine st_sk Z Z hg ?_
     refine sV (vQ (bO Z hg) Z) ?_
     exact hcut _ uG
    ·refine sG Z (bG Z hg) (vF Z fa25_4 Z) (sG Z (bG Z hg) (vY Z ld4) ?_)
     refine sV (vP (bO Z hg) Z) ?_
     exact hcut _ uG
    refine sK [4,5,6,43] Z (cC Z (fun hb=>?_) (fun hb=>?_))
    ·rw [show (decide (0<(az.length:Int)) || z)=true from hb]
     refine cQ (sA Z (sK [6] Z (cT (xR (xW (xR ?_))))))
     exact xt_rt Z ⟨Z,Z⟩ sbq
    ·rw [show (decide (0<(az.length:Int)) || z)=false from hb,fmAt_ix]
     refine cK (xT (cS (cQ (sV (vF Z fa54_2 Z) (sV (vY Z ld48) ?_)))))
     refine sV (vF Z fa25_1 Z) (sV (vY Z ld9) ?_)
     refine st_clr Z Z en66 Z (formalR_ct hrow n) ?_
     refine sV (v_lss Z Z) (sK [6,49] Z (cC Z (fun hf=>?_) (fun hf=>?_)))
     ·rw [show decide (ixD (fidx x.formals n)<0)=true from hf]
      refine cQ (sA Z (sK [6] Z (cT (xR (xW (xR ?_))))))
      exact xt_rt Z ⟨Z,Z⟩ sbq
     ·rw [show decide (ixD (fidx x.formals n)<0)=false from hf]
      refine cK (xT (cQ (sA Z (sK [6] Z (cT (xW (xR ?_)))))))
      exact xt_rt Z ⟨Z,Z⟩ sbq
   ·by_cases h3 : k = 3
    ·subst h3
     rw [inner_cls]
     have hbd:∀ (i:Nat) f,(fmsOf l n)[i]? = some f→f.bound=root∨isC (ksys l) f.bound=true:=fun i f hf=>h.bnd (n:=n) hf
     obtain ⟨hk1,hk2⟩ | ⟨k,hk1,hkl,hk2⟩:=kidx_find l n
     ·have hix : ixD (kidx l n) = -1 := by rw [hk1]; rfl
      have hfm:fmsOf l n=[]:=by unfold fmsOf; rw [hk2]; rfl
      rw [hk2,hfm]
      refine ct_of (n:=98) Tryz.func88 Z Z (len Z) fun hr w0=>?_
      refine cQ (st_bx Z Z fun b4=>?_)
      refine st_bx Z Z fun b5=>?_
      refine sA Z (sK [0,4,5,6] Z (cS (cQ (sV (vF Z fa25_0 Z) (sV (vY Z ld3) ?_)))))
      refine sK [0,4,5,6,12] Z (cB (cS (cQ (sV (v_eql Z Z) (sA Z (sK [0,4,5,6,12,13] Z (cd_false Z ?_)))))))
      refine cQ (sV (v_eql Z Z) (sA Z (sK [0,4,5,6,12,13] Z (cd_false Z ?_))))
      refine cR (sV (v_eql Z Z) (sA Z (sK [0,4,5,6,12,13] Z (cd_false Z ?_))))
      refine cQ (sV (v_eql Z Z) (sA Z (sK [0,4,5,6,12,34] Z (cd_false Z ?_))))
      refine cQ (sV (v_eql Z Z) (sA Z (sK [0,4,5,6,50] Z (cd_true Z ?_))))
      refine cQ (sM Z (sV (vF Z fa25_1 Z) (sV (vY Z ld9) ?_)))
      refine st_clr Z Z en49 Z (findR_ct hv n) ?_
      rw [hix]
      refine sA Z (sK [0,4,5,6,7] Z (cS (cQ (sM Z (sV (v_lss Z Z) (sM Z (sG Z Z (vF Z fa25_1 Z) (sG Z Z (vY Z ld9) ?_))))))))
      refine sG Z Z (v_sneq Z Z) (sV (vQ Z Z) (sK [0,4,5,6,7,62] Z (cC Z (fun hb=>?_) (fun hb=>?_))))
      ·have hb:(n != root)=true:=hb
       rw [show ((none:Option KC).isSome || n == root)=false by rw [show (n == root)=false by simpa using hb]; rfl]
       refine cQ (sA Z (sK [6] Z (cT (xR (xW (xR ?_))))))
       exact xt_rt Z ⟨Z,Z⟩ sbq
      ·have hb:(n != root)=false:=hb
       rw [show ((none:Option KC).isSome || n == root)=true by rw [show (n == root)=true by simpa using hb]; rfl]
       refine cK (xT (cQ (sA Z (sK [0,4,5,6,7,8] Z (cS (cQ (sM Z (sV (v_geq Z Z) (sK [0,4,5,6,7,8,64] Z (cd_false Z ?_))))))))))
       refine cK (xT (cS (cQ (sV (vF Z fa25_2 Z) (sV (vY Z ld23) ?_)))))
       refine sV (v_len Z Tryz.underlying23) (sM Z (sV (v_len Z Tryz.underlying48) (sV (v_neq Z Z) (sK [0,4,5,6,8,75] Z (cC Z (fun hq=>?_) (fun hq=>?_))))))
       ·rw [show (((az.length:Nat):Int) == (([]:List Fm).length:Nat))=false by simpa using hq]
        refine cQ (sA Z (sK [6] Z (cT (xR (xW (xR ?_))))))
        exact xt_rt Z ⟨Z,Z⟩ sbq
       ·have hq2:(((az.length:Nat):Int) == (([]:List Fm).length:Nat))=true:=by simpa using hq
        have haz:az=[]:=List.eq_nil_of_length_eq_zero (by have:=eq_of_beq hq2; simp at this; simpa using this)
        subst haz
        refine cK (xT (cS (cQ (sA Z (sK [0,4,5,6,8,9] Z (cB (cd_lq (σ := Unit) (fun _=>[(8,.slice none 0 0),(9,.int .i64 0)]) (fun _=>S::hr) (fun _=>True) (fun _=>0) () trivial ?_)))))))
        rintro _ _
        refine cS (cQ (sM Z (sM Z (sV (v_len Z Tryz.underlying48) (sV (v_lss Z Z) (sK [8,9,79] Z (cd_false Z ?_)))))))
        refine cd_exit (xE (xE (xY (xT (cQ (sA Z (sK [6] Z (cT (xW (xR ?_))))))))))
        exact xt_rt Z ⟨Z,Z⟩ sbq
     ·have hix : ixD (kidx l n) = (k : Int) := by rw [hk1]; rfl
      have hfm:fmsOf l n=l[k].formals:=fmsOf_some hk2
      obtain ⟨bl,ol,capl,us,e0,_,hrd0,dd,ff,pv2,cc2,ffa,ffc,i2,rfl,hone0,hrowf,_⟩:=Row.at hv (List.getElem?_eq_getElem hkl)
      cases e0
      rw [hk2]
      rw [← hfm] at hrowf
      generalize hFM:fmsOf l n=FM at *
      obtain ⟨ga,gc,rfl,hlcg,hcmg,_⟩:=id hrowf
      rw [show ((some l[k]:Option KC).isSome || n == root)=true from rfl]
      refine ct_of (n:=98) Tryz.func88 Z Z (len Z) fun hr w0=>?_
      refine cQ (st_bx Z Z fun b4=>?_)
      refine st_bx Z Z fun b5=>?_
      refine sA Z (sK [0,4,5,6] Z (cS (cQ (sV (vF Z fa25_0 Z) (sV (vY Z ld3) ?_)))))
      refine sK [0,4,5,6,12] Z (cB (cS (cQ (sV (v_eql Z Z) (sA Z (sK [0,4,5,6,12,13] Z (cd_false Z ?_)))))))
      refine cQ (sV (v_eql Z Z) (sA Z (sK [0,4,5,6,12,13] Z (cd_false Z ?_))))
      refine cR (sV (v_eql Z Z) (sA Z (sK [0,4,5,6,12,13] Z (cd_false Z ?_))))
      refine cQ (sV (v_eql Z Z) (sA Z (sK [0,4,5,6,12,34] Z (cd_false Z ?_))))
      refine cQ (sV (v_eql Z Z) (sA Z (sK [0,4,5,6,50] Z (cd_true Z ?_))))
      refine cQ (sM Z (sV (vF Z fa25_1 Z) (sV (vY Z ld9) ?_)))
      refine st_clr Z Z en49 Z (findR_ct hv n) ?_
      rw [hix]
      refine sA Z (sK [0,4,5,6,7] Z (cS (cQ (sM Z (sV (v_lss Z Z) (sM Z (st_cut (k:=7) (d:=62) (v:=.bool (decide ((k:Int)<0) && (n != root))) (fun hcut=>bool_want (b:=decide ((k:Int)<0)) true (fun hg=>?_) (fun hg=>?_)) ?_)))))))
      ·refine st_sk Z Z hg ?_
       iterate 2 refine st_sk rfl rfl hg ?_
       refine sV (vP (bO Z hg) Z) ?_
       exact hcut _ uG
      ·refine sG Z (bG Z hg) (vF Z fa25_1 Z) (sG Z (bG Z hg) (vY Z ld9) ?_)
       refine sG Z (bG Z hg) (v_sneq Z Z) (sV (vQ (bO Z hg) Z) ?_)
       exact hcut _ uG
      refine sK [0,4,5,6,7,62] Z ?_
      rw [show (decide ((k:Int)<0) && (n != root))=false by rw [decide_eq_false (by omega)]; rfl]
      refine cd_false Z ?_
      refine cK (xT (cQ (sA Z (sK [0,4,5,6,7,8] Z (cS (cQ (sM Z (sV (v_geq Z Z) (sK [0,4,5,6,7,8,64] Z ?_)))))))))
      rw [show decide ((0:Int)≤(k:Int))=true from decide_eq_true (by omega)]
      refine cd_true Z ?_
      refine cR (sM Z (sM Z (sV (vI (k:=k) Z Z sl22 Z hkl Z) (sV (vF Z fa54_2 Z) (sV (vY Z ld48) ?_)))))
      refine sA Z (sK [0,4,5,6,8] Z (cS (cQ (sV (vF Z fa25_2 Z) (sV (vY Z ld23) ?_)))))
      refine sV (v_len Z Tryz.underlying23) (sM Z (sV (v_len Z Tryz.underlying48) (sV (v_neq Z Z) (sK [0,4,5,6,8,75] Z (cC Z (fun hq=>?_) (fun hq=>?_))))))
      ·rw [show (((az.length:Nat):Int) == (FM.length:Nat))=false by simpa using hq]
       refine cQ (sA Z (sK [6] Z (cT (xR (xW (xR ?_))))))
       exact xt_rt Z ⟨Z,Z⟩ sbq
      ·have hq2:(((az.length:Nat):Int) == (FM.length:Nat))=true:=by simpa using hq
       have hle:az.length=FM.length:=by have:=eq_of_beq hq2; omega
       rw [if_pos rfl,if_pos hq2]
       refine cK (xT (cS (cQ (sA Z (sK [0,4,5,6,8,9] Z (cB (cd_lq (σ := Nat) (fun i=>[(0,.slice (some ⟨bl,ol,none⟩) l.length vc),(4,.pointer (some ⟨b4,0,none⟩)),(5,.pointer (some ⟨b5,0,none⟩)),(8,.slice ga FM.length gc),(9,.int .i64 (i:Nat))]) (fun _=>pt b4 (cl [n0,d,.slice fa x.formals.length fc,pv,c2,fs,ii] 54)::pt b5 (cl [.int .i64 3,sv n,.slice xa az.length xc,.bool w,.bool z] 25)::S::hr) (fun i=>i≤FM.length∧inners l x.formals az (FM.map (·.bound))=inners l x.formals (az.drop i) ((FM.drop i).map (·.bound))) (fun i=>FM.length - i) 0 ⟨Nat.zero_le _,Z⟩ ?_)))))))
       rintro i ⟨hi,hin⟩
       refine cS (cQ (sM Z (sM Z (sV (v_len Z Tryz.underlying48) (sV (v_lss Z Z) (sK [0,4,5,8,9,79] Z (cC Z (fun hd=>?_) (fun hd=>?_))))))))
       ·have hlf:i<FM.length:=by simpa using hd
        have hgf:=List.getElem?_eq_getElem hlf
        have hlt:i<az.length:=by omega
        have hg:=List.getElem?_eq_getElem hlt
        have hmem:=List.getElem_mem hlt
        obtain ⟨b,o,cap2,us,e1,hus,hrd,hta⟩:=hy.at hg
        cases e1
        obtain ⟨bf,of,capf,e2,hrf⟩:=fm_at hrowf hgf
        cases e2
        rw [List.drop_eq_getElem_cons hlt,List.drop_eq_getElem_cons hlf,List.map_cons,inners_cons] at hin
        have hbf:=hbd i _ hgf
        generalize az[i]=a at hg hmem hta hin
        generalize FM[i]=f at hgf hrf hbf hin
        obtain ⟨y,rfl,hya⟩:=hta.out
        obtain ⟨ya,yc,rfl,_⟩:=id hya.form
        have hac:=argument_of h hv hx hrow hbf (hF a hmem _ hya)
        unfold tyC at hac hrd
        unfold fmA at hrf
        refine cK (xT (cS (cB (cS (cd_drawh (ork [(0,2),(1,1),(2,2),(3,1),(4,2),(5,2),(6,1),(7,2),(8,2),(9,2),(10,2),(11,1),(12,1),(13,2)] .nil) (fun _=>true) mixed (by kernel_rfl) ?_)))))
        refine dV Z (vM Z) (dr_v Z (v_ldn Z ld54 Z rds_pt) ?_)
        refine dV Z (vF Z fa25_2 Z) (dr_v Z (vY Z ld23) ?_)
        refine dV Z (vM Z) (dV Z (vI (k:=i) Z Z sl23 Z hlt Z) (dr_v Z (v_ldn Z ld25 Z hrd) ?_))
        refine dV Z (vM Z) (dV Z (vM Z) (dV Z (vI (k:=i) Z Z sl48 Z hlf Z) (dV Z (vF Z fa94_1 Z) (dr_v Z (vY Z ld9) ?_))))
        refine dr_clr Z Z Z en50 Z (hac) ?_
        refine dV Z (vA Z) (dr_nil (nK [0,4,5,8,9,10] Z (nT (cQ (sM Z (sV (v_neq Z Z) (sK [0,4,5,8,9,10,96] Z (cC Z (fun he=>?_) (fun he=>?_)))))))))
        ·have he:actE l x.formals a f.bound≠0:=by simpa using he
         rw [hin,if_pos he]
         refine cQ (sM Z (sA Z (sK [6] Z (cT (xW (xR (xR (xW (xR (xW (xR ?_)))))))))))
         exact xt_rt Z ⟨Z,Z⟩ sbq
        ·have he:actE l x.formals a f.bound=0:=by simpa using he
         rw [if_neg (by simpa using he)] at hin
         refine cK (xB (xT (cR (sM Z (sV (v_add Z Z (by unfold I64 at *; omega)) (sA Z (sN (nK [0,4,5,8,9] Z (nx_xt ?_)))))))))
         refine xt_aq (i+1) ⟨hlf,hin⟩ (Nat.sub_lt_sub_left hlf (Nat.lt_succ_self i))
       ·have hil:i=FM.length:=by
         have:¬ i<FM.length:=by simpa using hd
         omega
        rw [hil,List.drop_length,← hle,List.drop_length,List.map_nil,inners] at hin
        rw [hin]
        refine cd_exit (xE (xE (xY (xT (cQ (sA Z (sK [6] Z (cT (xW (xR ?_))))))))))
        exact xt_rt Z ⟨Z,Z⟩ sbq
    ·rw [inner_odd hk h4 h3]
     have q0:(k == 0)=false:=beq_eq_false_iff_ne.2 fun e=>hk (.inl e)
     have q1:(k == 1)=false:=beq_eq_false_iff_ne.2 fun e=>hk (.inr (.inl e))
     have q2:(k == 2)=false:=beq_eq_false_iff_ne.2 fun e=>hk (.inr (.inr e))
     have q3:(k == 3)=false:=beq_eq_false_iff_ne.2 h3
     have q4:(k == 4)=false:=beq_eq_false_iff_ne.2 h4
     refine ct_of (n:=98) Tryz.func88 Z Z (len Z) fun hr w0=>?_
     refine cQ (st_bx Z Z fun b4=>?_)
     refine st_bx Z Z fun b5=>?_
     refine sA Z (sK [0,4,5,6] Z (cS (cQ (sV (vF Z fa25_0 Z) (sV (vY Z ld3) ?_)))))
     refine sK [0,4,5,6,12] Z (cB (cS (cQ (sV (v_eql Z Z) (sA Z (sK [0,4,5,6,12,13] Z ?_))))))
     rw [q1]
     refine cd_false Z ?_
     refine cQ (sV (v_eql Z Z) (sA Z (sK [0,4,5,6,12,13] Z ?_)))
     rw [q2]
     refine cd_false Z ?_
     refine cR (sV (v_eql Z Z) (sA Z (sK [0,4,5,6,12,13] Z ?_)))
     rw [q0]
     refine cd_false Z ?_
     refine cQ (sV (v_eql Z Z) (sA Z (sK [0,4,5,6,12,34] Z ?_)))
     rw [q4]
     refine cd_false Z ?_
     refine cQ (sV (v_eql Z Z) (sA Z (sK [0,4,5,6,50] Z ?_)))
     rw [q3]
     refine cd_false Z ?_
     refine cK (xB (xT (cQ (sA Z (sK [6] Z (cT ?_))))))
     exact xt_rt Z ⟨Z,Z⟩ sbq
set_option maxRecDepth 100000 in
theorem rightIn_ct (h:HRight l) (hv:ksysR S v l) {x:KC} (hx:x∈l) {n0 d pv c2 fs ii:Value} {fa:Option Addr} {fc:Nat} (hrow:Row S 2 fmC (.slice fa x.formals.length fc) x.formals) {us:List Value} (ht:Ty S us t) (hd:t.depth≤1000000) :
  Reads Tryz.prog 95 #[v,.agg #[n0,d,.slice fa x.formals.length fc,pv,c2,fs,ii],.agg us.toArray] [S] (.int .i64 (rightK l x.formals t)):=by
 have hde:=deep_ct hd ht
 obtain ⟨y,rfl,hy⟩:=ht.out
 have hri:=rightR_go h hv hx (n0:=n0) (d:=d) (pv:=pv) (c2:=c2) (fs:=fs) (ii:=ii) hrow t.depth t y (Nat.le_refl _) hy
 obtain ⟨ya,yc,rfl,_⟩:=id hy.form
 unfold tyC at hde hri ⊢
 unfold rightK
 refine ct_of (n:=14) Tryz.func95 Z Z (len Z) fun hr w0=>?_
 refine cQ (st_bx Z Z fun b4=>?_)
 refine st_bx Z Z fun b5=>?_
 refine sA Z (sK [0,4,5,6] Z (cS (cQ (sV (v_ldn Z ld25 Z rds_pt) ?_))))
 refine st_clr Z Z en51 Z (hde) ?_
 refine sV (v_gtr Z Z) (sK [0,4,5,6,9] Z (cC Z (fun hq=>?_) (fun hq=>?_)))
 ·rw [if_pos (by have:=of_decide_eq_true hq; omega)]
  refine cQ (sA Z (sK [6] Z (cT (xR ?_))))
  exact xt_rt Z ⟨Z,Z⟩ sbq
 ·rw [if_neg (by have:=of_decide_eq_false hq; omega)]
  refine cK (xT (cQ (sM Z (sV (v_ldn Z ld54 Z rds_pt) ?_))))
  refine sV (v_ldn Z ld25 Z rds_pt) ?_
  refine st_clr Z Z en88 Z (hri) ?_
  refine sA Z (sK [6] Z (cT ?_))
  exact xt_rt Z ⟨Z,Z⟩ sbq
end
end Go.Hr
