/-
  Package heir: Order. Conditions: what is read.
  Nothing (what stood here is not reached in this seat). No condition.
  Package heir: filter,Least. Conditions: what is read.
  Lists of lists of names in the machine's memory: read,owned. Generic but for the types' numbers. No condition.
  Package heir: Levels. Conditions: what is read.
  A range over a function within a round of another one; structs of texts held against each other. Generic: nothing of the program is named here. No condition.
  Nothing (what stood here is not reached in this seat). No condition.
  Nothing (what stood here is not reached in this seat). No condition.
  Nothing (what stood here is not reached in this seat). No condition.
  Nothing (what stood here is not reached in this seat). No condition.
  Nothing (what stood here is not reached in this seat). No condition.
  Nothing (what stood here is not reached in this seat). No condition.
  Nothing (what stood here is not reached in this seat). No condition.
  Package heir: Touched,CheckWay,CheckRing with names that are read where the system is read. Conditions: what is read.
  Nothing (what stood here is not reached in this seat). No condition.
  Nothing (what stood here is not reached in this seat). No condition.
  The specification: named,alone. Conditions: what is read.
  Rows appended whole; the specification: Before,first. Conditions: what is read.
  The specification: first. Conditions: what is read.
  The specification: further. Conditions: what is read.
  The specification: Ring. Conditions: what is read.
  The specification: Check,asked. Conditions: what is read.
  The specification: Way,CheckWay. Conditions: what is read.
  The specification: above,Above,Is. Conditions: what is read.
  The specification: under,Below,Touched. Conditions: what is read.
  Nothing (what stood here is not reached in this seat). No condition.
  The specification: all,Order. Conditions: what is read.
  What the arguments of the laws read as: systems of classes,names. No condition.
  Data that is read to its end,none of whose lists is too long: what it is made of. No condition.
  make([]T,n) for elements of many cells. Generic. No condition.
  Types and systems of generic classes in the machine's memory,as data that is read. No condition.
  Package kind: Same; Go's library: slices.EqualFunc,slices.Clone; the reference: Same,SameTypes. Conditions: what is read.
-/
import Derived.Test.YtaohbfnepjjdgaaGreatM9
import Derived.RangeFuncNested
import Derived.Test.YtaohbfnepjjdgaaGreatM7
import Derived.Test.YtaohbfnepjjdgaaGreatM1
import Derived.Test.YtaohbfnepjjdgaaGreatM5
import Derived.JoinedCond
import Derived.SizedLaws
import Derived.Test.YtaohbfnepjjdgaaGreatM6
set_option linter.unusedVariables false
set_option linter.unusedSimpArgs false
namespace Go.Ck
open Go
section
variable {P:Program} {r:Option Nat} {n:Nat} {w0:World} {hr:SH} {R:Value→SH→Prop} {fn:Func} {e:Env} {h h' k:SH} {vs:List Value} {bs:List Nat} {ds:List Deferred}
theorem xt_retMV (hds:ds=bs.map mk) (hv:ResV P k e fn.results.toList vs) (hR:R (outOf vs) h') (hk:Sub (h'++hr) k) (hp:Sub (marks bs++k) h):Xt ⟨P,r,n,ds,w0⟩ .ret (bodyPostM (Fw none) 0 P fn (Post w0 hr R)) e h :=
 fun a w hk' hh hw=>by
  show LeavesInM (Fw none) 0 P fn a.tmps _ a.defers .returning w
  rw [hk'.defers,hds]
  exact leavesM bs w (hh.sub hp) hw fun w' h1 h2=>⟨_,run_resultsV hk' hv h1,_,h',Z,hR,h1.sub hk,h2⟩
end
end Go.Ck
namespace Go.Hr
open Go Go.RowKit Go.Ck Go.Proofs Go.Proofs.YtaohbfnepjjdgaaGreat Fx
attribute [local irreducible] Go.Ck.Sub St Cd Xt Nx DrL LsW
def DoneI (o:List Nm) (D:List (Nm×Unit)):Prop:=∀ x,(alook D x).isSome=o.contains x
theorem DoneI.look {o:List Nm} {D:List (Nm×Unit)} (h:DoneI o D) (x:Nm):(slook (mvG tV D) x).getD (.bool false) = .bool (o.contains x):=by
 rw [slook_mvG,← h x]
 cases alook D x <;> rfl
theorem DoneI.next {o:List Nm} {D:List (Nm×Unit)} (h:DoneI o D) (c:Nm):DoneI (o++[c]) (aupd D c ()):=fun x=>by
 rw [alook_upd]
 by_cases hx:x=c
 ·subst hx; simp
 ·rw [if_neg hx,h x]; simp [hx]
section
variable {S N:Res} {v nv:Value} {l:Sys} {ns:List Nm}
set_option maxHeartbeats 1000000 in
set_option maxRecDepth 100000 in
theorem open_ct {c7 c4 mb bd : Nat} {o : List Nm} {D : List (Nm × Unit)} (hv : sysR S v l) (hF : Fine l) (hD : DoneI o D) (c : Nm) : Reads Tryz.prog 163 #[sv c, .pointer (some ⟨c7, 0, none⟩), .pointer (some ⟨c4, 0, none⟩)] [pt c7 (cl [.map (some bd)] 205), pt c4 (cl [v, .map (some mb)] 165), mps bd (mvG tV D), S, mps mb (kindsM l)] (.bool (opn l o c)) := by
 obtain ⟨a,cap,rfl,_⟩:=id hv
 refine ct_ofM (n:=17) Tryz.func163 Z Z (len Z) fun hr w0=>?_
 refine cQ (st_alc al4 fun b4=>?_)
 refine sN (nT (cS (cQ (sV (vY Z ld205) ?_))))
 refine sM Z (sV (v_is (hD.look c) (v_slookup Z Z mp205 inf4 slq)) ?_)
 refine sK [0,1,2,4,8] Z ?_
 unfold opn
 refine cC Z (fun ho=>?_) (fun ho=>?_)
 ·rw [ho]
  refine cQ (st_sto Z Z sz4 ?_)
  refine sK [4] Z (cT (xR (xt_retMV (bs:=[]) (k:=pt b4 (cl [.bool false] 4)::([pt c7 (cl [.map (some bd)] 205),pt c4 (cl [.slice a l.length cap,.map (some mb)] 165),mps bd (mvG tV D),S,mps mb (kindsM l)]++hr)) Z (.cell1 Z ld4 (at_here (rd_cl Z)) .nil) ⟨Z,Z⟩ ?_ ?_)))
  ·exact Sub.cons (Sub.refl _)
  ·unfold marks
   simp only [lC,lN,List.map_nil]
   exact sbr
 ·rw [ho,Bool.not_false,Bool.true_and]
  refine cK (xT (cS (cQ (sV (v_ldn Z ld165 Z rds_pt) ?_))))
  refine sM Z (st_cl Z Z en125 Z (parents0_ct Z) ?_)
  rintro u h' ⟨n1,n2,rfl,rfl⟩
  refine sK [1,4,11] Z (cB ?_)
  simp only [lC,lN]
  unfold seqv
  refine cd_range' Z en156 fun yl db rec hst hpe hps hasg hbo hkn2=>?_
  refine ⟨_,Ct.perm (it_ct (σ := Unit) (b1:=n1) (b2:=n2) (mb:=mb) (yl:=yl) (c:=c) (fun _=>pt yl (.loop rec)::pt db (.deferred (some []))::pt b4 (cl [.bool false] 4)::pt c7 (cl [.map (some bd)] 205)::pt c4 (cl [.slice a l.length cap,.map (some mb)] 165)::mps bd (mvG tV D)::hr)
   (fun k _=>∀ p∈(par l c).take k,o.contains p=true) (fun _ t=>(∃ p∈par l c,o.contains p=false)∧∃ rec',t=pt yl (.loop rec')::pt db (.deferred (some []))::pt b4 (cl [.bool false] 4)::pt c7 (cl [.map (some bd)] 205)::pt c4 (cl [.slice a l.length cap,.map (some mb)] 165)::mps bd (mvG tV D)::hr∧rec'.state≠.busy∧rec'.pending=some .ret) () (fun p hp=>by simp at hp) hv hF.few ?_) ?_,?_⟩
  ·rintro k _ p hk hal
   obtain ⟨hkl,hke⟩:=List.getElem?_eq_some_iff.1 hk
   refine Yc.perm (yc_of (n:=17) (rec:=rec) (args:=[sv p]) (hf:=pt db (.deferred (some []))::pt b4 (cl [.bool false] 4)::pt c7 (cl [.map (some bd)] 205)::pt c4 (cl [.slice a l.length cap,.map (some mb)] 165)::mps bd (mvG tV D)::S::mps mb (kindsM l)::hr) (by rw [hps]; rfl) hkn2 (by rw [hps]; decide) ?_) (by exact (by repeat (first | exact Pm.refl | refine Pm.cons slq ?_):Pm _ _).perm)
   intro hr2 w1
   rw [hasg,hps,hbo]
   simp only [lC,lN]
   refine cR (sA Z (sN (nK [1,4,5] Z (nx_xt (xt_mid Z slq (by first | rfl | assumption) ?_)))))
   refine cB (cQ (sV (vY Z ld205) ?_))
   refine sM Z (sV (v_is (hD.look p) (v_slookup Z Z mp205 inf4 slq)) ?_)
   refine sV (v_not Z) (sK [4,16] Z (cC Z (fun hno=>?_) (fun hno=>?_)))
   ·have hno:o.contains p=false:=by simpa using hno
    refine cQ (st_sto Z Z sz4 ?_)
    refine sK [4] Z (cT (xW (xt_round_ret slq (.inr ⟨Z,_,Z,⟨p,List.mem_of_getElem? hk,hno⟩,{ ({ rec with state:=.busy }:Loop) with state:=.done,pending:=some .ret },Z,by simp,Z⟩) ?_)))
    exact sbr
   ·have hno:o.contains p=true:=by simpa using hno
    refine cK (xB (xt_round slq (.inl ⟨Z,(),fun q hq=>?_,Z⟩) ?_))
    ·rw [List.take_succ_eq_append_getElem hkl,hke] at hq
     rcases List.mem_append.1 hq with hq | hq
     ·exact hal q hq
     ·simp at hq; rw [hq]; exact hno
    ·rw [rec_back hst hpe]
     exact sbr
  ·exact (by repeat (first | exact Pm.refl | refine Pm.cons slq ?_):Pm _ _).perm
  ·rintro u h' ⟨rfl, (⟨_, hal, rfl⟩ | ⟨_, _, ⟨⟨p, hp, hno⟩, rec', rfl, h2, h3⟩, rfl⟩)⟩
   ·rw [List.take_length] at hal
    rw [show (par l c).all o.contains=true from List.all_eq_true.2 hal]
    refine ⟨rec,_,slq,(by rw [hst]; simp),?_⟩
    rw [hpe]
    dsimp only
    refine xB (xT (cQ (st_sto Z Z sz4 ?_)))
    refine sK [4] Z (cT (xt_retMV (bs:=[db]) (k:=pt b4 (cl [.bool true] 4)::([pt c7 (cl [.map (some bd)] 205),pt c4 (cl [.slice a l.length cap,.map (some mb)] 165),mps bd (mvG tV D),S,mps mb (kindsM l)]++hr)) Z (.cell1 Z ld4 (at_here (rd_cl Z)) .nil) ⟨Z,Z⟩ ?_ ?_))
    ·exact Sub.cons (Sub.refl _)
    ·unfold marks
     simp only [lC,lN,List.map_cons,List.map_nil]
     exact sbr
   ·rw [show (par l c).all o.contains=false from List.all_eq_false.2 ⟨p,hp,by rw [hno]; decide⟩]
    refine ⟨rec',_,slq,h2,?_⟩
    rw [h3]
    dsimp only
    refine cT (xW (xR (xt_retMV (bs:=[db]) (k:=pt b4 (cl [.bool false] 4)::([pt c7 (cl [.map (some bd)] 205),pt c4 (cl [.slice a l.length cap,.map (some mb)] 165),mps bd (mvG tV D),S,mps mb (kindsM l)]++hr)) Z (.cell1 Z ld4 (at_here (rd_cl Z)) .nil) ⟨Z,Z⟩ ?_ ?_)))
    ·exact Sub.cons (Sub.refl _)
    ·unfold marks
     simp only [lC,lN,List.map_cons,List.map_nil]
     exact sbr
set_option maxRecDepth 100000 in
theorem Order_ct (hv : sysR S v l) : CtN Tryz.prog 139 #[v] [S] fun u T => ∃ w, u = .tuple #[w, .int .i64 (rightE l [])] ∧ w.oneCell' = true ∧ T = NR w (okL (rightE l []) (order l)) := by
 obtain ⟨a,cap,rfl,_⟩:=id hv
 refine ct_of (n:=36) Tryz.func139 Z Z (len Z) fun hr w0=>?_
 refine cQ (sA Z (sA Z (sN (nT (cQ (sM Z (st_vw (vw_unstar (L:=[])) (st_cl Z Z en122 Z (right_ct hv (N:=Res.star []) (ns:=[]) Row.nil (by simp)) ?_))))))))
 rintro u h' (⟨he,rfl,rfl⟩ | ⟨he,mb,rfl,rfl⟩)
 ·simp only [lC,lN]
  unfold gr0
  refine sM Z (sV (v_extract Z Z) (sV (v_extract Z Z) (st_alc al165 fun b4=>?_)))
  refine st_stoW Z Z sz165 Z Z ?_
  refine sA Z (sK [0,2,3,4,5] Z (cS (cQ (sM Z (sV (v_neq Z Z) (sK [0,2,3,4,5,16] Z ?_))))))
  rw [ne_true he]
  refine cd_true Z ?_
  refine cQ (sM Z (sA Z (sA Z (sK [2,3] Z (cT (xR ?_))))))
  rw [okL_ne he]
  refine xt_vw (vw_nil 9 1) ?_
  exact xt_rt Z ⟨NR (.slice none 0 0) [],Z,_,Z,Z,Z⟩ sbq
 ·obtain ⟨hR,_⟩:=rightE_zero.1 he
  have hFl:=hR.len
  rw [he,okL_eq rfl]
  simp only [lC,lN]
  refine sM Z (sV (v_extract Z Z) (sV (v_extract Z Z) (st_alc al165 fun b4=>?_)))
  refine st_stoW Z Z sz165 Z Z ?_
  refine sA Z (sK [0,2,3,4,5] Z (cS (cQ (sM Z (sV (v_neq Z Z) (sK [0,2,3,4,5,16] Z (cd_false Z ?_)))))))
  refine cK (xT (cQ (sA Z (sK [0,2,3,4,6] Z (cQ (st_smakeMap (ltn Z) fun b18=>?_))))))
  refine st_alc al205 fun b7=>?_
  refine st_sto Z Z sz205 ?_
  refine sK [0,2,3,4,6,7] Z (cQ (sV (v_makeFunc Z Z) (sA Z (sK [0,2,3,4,6,7,8] Z (cS (cQ (sM Z (sV (v_len Z Tryz.underlying22) (sM Z (sK [2,3,4,6,7,8,21,22] Z (cB ?_)))))))))))
  refine cd_vw (vw_nil 9 1) ?_
  rw [show ([]:List (Bs×Value))=mvG tV [] from rfl]
  refine cd_lq (σ := Nat×Value×List (Nm×Unit)) (fun q=>[(4,.pointer (some ⟨b4,0,none⟩)),(6,q.2.1),(7,.pointer (some ⟨b7,0,none⟩)),(8,.func (.func 163) #[] #[.pointer (some ⟨b7,0,none⟩),.pointer (some ⟨b4,0,none⟩)]),(21,.int .i64 l.length),(22,.int .i64 (q.1:Nat))]) (fun q=>NR q.2.1 (ordN l q.1)::pt b4 (cl [.slice a l.length cap,.map (some mb)] 165)::pt b7 (cl [.map (some b18)] 205)::mps b18 (mvG tV q.2.2)::mps mb (kindsM l)::S::hr) (fun q=>q.1≤l.length∧q.2.1.oneCell'=true∧DoneI (ordN l q.1) q.2.2) (fun q=>l.length - q.1) (0,.slice none 0 0,[]) ⟨Nat.zero_le _,Z,fun x=>rfl⟩ ?_
  rintro ⟨i,w,D⟩ ⟨hi,hw,hD⟩
  simp only at hi hw hD
  dsimp only
  have holen:=ordN_len l i
  refine cQ (sV (v_lss Z Z) (sN (nT (cS (cC Z (fun hd=>?_) (fun hd=>?_))))))
  ·refine cK (xT (cS (cB (cQ ?_))))
   have hlt:i<l.length:=by simpa using hd
   have hne:=ordN_some hR.acyc hR.uniq hlt
   have hsl:((nms l).filter (opn l (ordN l i))).length≤24:=Nat.le_trans (List.length_filter_le _ _) (by simp [nms]; omega)
   refine sV (v_ldn Z ld165 Z rds_pt) ?_
   refine sM Z (st_cl Z Z en165 Z (ctn_star (names_ct (S:=Res.star [pt b7 (cl [.map (some b18)] 205),pt b4 (cl [.slice a l.length cap,.map (some mb)] 165),mps b18 (mvG tV D),S,mps mb (kindsM l)]) (kf:=163) (cp := #[.pointer (some ⟨b7,0,none⟩),.pointer (some ⟨b4,0,none⟩)]) (g:=opn l (ordN l i)) (mb:=mb) (hv.mono (rd_in slq)) hR.fine en163 fun d _=>reads_one (open_ct hv hR.fine hD d))) ?_)
   rintro u h' ⟨T,rfl,hu,rfl⟩
   simp only [lC,lN]
   refine st_ok (r:=NR u ((nms l).filter (opn l (ordN l i)))) slq fun hok=>?_
   refine st_cl Z Z en164 Z (Min_ct (nms_own hok) (by omega) hne) ?_
   rintro u2 h' ⟨rfl,rfl⟩
   simp only [lC,lN]
   generalize hmn:minN ((nms l).filter (opn l (ordN l i)))=z at *
   have hord:ordN l (i+1)=ordN l i++[z]:=by rw [ordN,hmn]
   refine sA Z (sK [4,6,7,8,9,21,22] Z (cQ (sV (vY Z ld205) ?_)))
   refine sM Z (st_smapUpdate Z Z Z mp205 slq ?_)
   refine sK [4,6,7,8,9,21,22] Z (cR (sM Z (sM Z ?_)))
   rw [show supd (mvG tV D) z (.bool true)=mvG tV (aupd D z ()) from supd_mvG tV D z ()]
   refine st_buildSlice (cells:=[sv z]) Z Tryz.underlying50 inf9 Z Z (by kernel_rfl) (ltn Z) fun b32=>?_
   refine st_app [nC z] Z Z Tryz.underlying50 inf9 Z (by decide) (show Sel _ (NR w (ordN l i)) _ from slq) (by simp [nC]) Z (fun j u2 hu2=>at_here (rd_cl (by simpa [nC] using hu2))) (by simp [nC,Value.oneCell']) (by rw [List.length_map]; omega) (by rw [List.length_map]; omega) (ltn Z) fun w3 hw3 _=>?_
   rw [show (ordN l i).map nC++[nC z]=(ordN l (i+1)).map nC by rw [hord]; simp]
   refine sA Z (sN (nK [4,6,7,8,21,22] Z (nx_xt (xB (xT (cR (sV (v_add Z Z (by unfold I64 at *; omega)) (sM Z (sN (nK [4,6,7,8,21,22] Z (nx_xt ?_)))))))))))
   refine xt_aq (i+1,w3,aupd D z ()) ⟨hlt,hw3,by show DoneI (ordN l (i+1)) (aupd D z ()); rw [hord]; exact hD.next z⟩ (by show _ - _<_ - _; omega)
  ·have hil:i=l.length:=by
    have:¬ i<l.length:=by simpa using hd
    omega
   subst hil
   refine cd_exit (xE (xE (xY (xT (cQ (sM Z (sA Z (sA Z (sK [2,3] Z (cT ?_))))))))))
   exact xt_rt Z ⟨_,Z,_,Z,hw,Z⟩ sbq
end
end Go.Hr

namespace Go.Hr
open Go Go.RowKit Go.Ck Go.Proofs Go.Proofs.YtaohbfnepjjdgaaGreat Fx
attribute [local irreducible] Go.Ck.Sub St Cd Xt Nx DrL LsW
section
variable {S N T:Res} {v nv:Value} {l:Sys} {ns:List Nm} {kf:FuncId} {cp:Array Value} {g:Nm→Bool}
end
end Go.Hr
namespace Go.Hr
open Go Go.RowKit Go.Ck
theorem v_imax {P : Program} {e : Env} {h : SH} {ty : TypeId} {x y : Operand} {ts : Array TypeId} {a b : Nat} (hx : e.ev? x = some (.int .i64 (a : Int))) (hy : e.ev? y = some (.int .i64 (b : Int))) : Vop P e h (.call { callee := .builtin .max, args := #[x, y], argTypes := ts }) ty (.int .i64 ((max a b : Nat) : Int)) :=
 ⟨by simp,by simp,fun ρ w d pos after g hρ _=>by
  by_cases hab:a≤b
  ·have:(if (b:Int)>(a:Int) then (b:Int) else (a:Int))=(b:Int):=by split <;> omega
   rw [Nat.max_eq_right hab]
   simp [execOp,resolve,invoke,builtin,hρ x _ hx,hρ y _ hy,Builtin.max_,Builtin.max2,this]
   omega
  ·have:(if (b:Int)>(a:Int) then (b:Int) else (a:Int))=(a:Int):=by split <;> omega
   rw [Nat.max_eq_left (by omega)]
   simp [execOp,resolve,invoke,builtin,hρ x _ hx,hρ y _ hy,Builtin.max_,Builtin.max2,this]
   omega⟩
def nlV:Value:=.slice none 0 0
def llC (S:Res) (us:List Value) (xs:List Nm):Prop:=∃ u,us=[u]∧nmsR S u xs
def llR (S:Res) (w:Value) (xss:List (List Nm)):Prop:=Row S 1 (llC S) w xss
def lrow (vals:List Value) (xss:List (List Nm)):Nat→Res:=fun i=>NR (vals.getD i nlV) (xss.getD i [])
def LR (w:Value) (vals:List Value) (xss:List (List Nm)):Res:=Res.star [VR w 50 1 (vals.map fun u=>[u]),RS xss.length (lrow vals xss)]
theorem llR.mono {S S':Res} (hr:∀ p u,Rd S p u→Rd S' p u) {w:Value} {xss:List (List Nm)} (h:llR S w xss):llR S' w xss:=Row.mono h hr fun _ _ _ ⟨u,h1,h2⟩=>⟨u,h1,h2.mono hr⟩
def mixR (rs:List (List Nm)) (k:Nat):List (List Nm):=(rs.take k).map srt++rs.drop k
/-! ## The rows of an order -/
variable {l:Sys}
theorem Tp.take {o : List Nm} (h : Tp l o) (n : Nat) : Tp l (o.take n) := by
 induction h with
 | nil=>simpa using Tp.nil
 | @snoc o c h1 h2 h3 ih =>
  rcases Nat.lt_or_ge o.length n with hn | hn
  ·rw [List.take_of_length_le (by simp; omega)]
   exact h1.snoc h2 h3
  ·rw [List.take_append_of_le_length hn]
   exact ih
end Go.Hr
namespace Go.Hr
open Go Go.RowKit Go.Ck Go.Proofs Go.Proofs.YtaohbfnepjjdgaaGreat Fx
attribute [local irreducible] Go.Ck.Sub St Cd Xt Nx DrL LsW
section
variable {S N T:Res} {v nv:Value} {l:Sys} {ns:List Nm}
end
end Go.Hr
namespace Go.Ck
open Go Go.RowKit
/-! ## Structs of texts -/
def isStr:Option TypeDesc→Bool
 | some .string=>true
 | _=>false
def okStrs (P:Program):List Field→Nat→Bool
 | [],_=>true
 | f :: t, i => (f.name != "_") && isStr (P.underlying f.type) && Nat.beq f.offset i && okStrs P t (i + 1)
def EqS (P:Program) (T:TypeId) (n:Nat):Prop:=P.eqGuardType P.depth T=false∧∀ (xs ys:List Bs) (w:World),xs.length=n→ys.length=n →
 (Op.equalIn 10000 T (.agg (xs.map sv).toArray) (.agg (ys.map sv).toArray)).run P w = .ok (xs == ys) w
theorem isStr_of {o:Option TypeDesc} (h:isStr o=true):o=some .string:=by
 unfold isStr at h; split at h
 ·rfl
 ·cases h
theorem run_part_str {P:Program} {T:TypeId} (hu:P.underlying T=some .string) {xs:List Bs} {i:Nat} {x:Bs} (hx:xs[i]? = some x) (w:World):(part T (xs.map sv).toArray i).run P w = .ok (sv x) w:=by
 have hi:(isAgg T).run P w = .ok false w:=by
  unfold isAgg
  simp only [Sem.run_bind,run_underlying hu,Result.andThen_ok]
  rfl
 unfold part
 have:(xs.map sv).toArray[i]? = some (sv x):=by simp [hx]
 simp only [Sem.run_bind,hi,Result.andThen_ok,Bool.false_eq_true,if_false,this,Sem.run_pure]
theorem run_eqStrs {P : Program} {d : Nat} {xs ys : List Bs} {w : World} : ∀ (fs : List Field) (i : Nat), okStrs P fs i = true → xs.length = i + fs.length → ys.length = i + fs.length →
  (Op.eqFields (d+1) (xs.map sv).toArray (ys.map sv).toArray fs).run P w = .ok (xs.drop i == ys.drop i) w
 | [],i,_,hx,hy=>by
  have h1:xs.drop i=[]:=List.drop_of_length_le (by simp at hx; omega)
  have h2:ys.drop i=[]:=List.drop_of_length_le (by simp at hy; omega)
  rw [h1,h2]
  simp [Op.eqFields]
 | f::t,i,h,hx,hy=>by
  simp only [okStrs,Bool.and_eq_true,bne_iff_ne] at h
  obtain ⟨⟨⟨h1,h2⟩,h3⟩,h4⟩:=h
  have h3':=Nat.eq_of_beq_eq_true h3
  simp only [List.length_cons] at hx hy
  have hxi:i<xs.length:=by omega
  have hyi:i<ys.length:=by omega
  have hu:P.underlying f.type=some .string:=isStr_of h2
  unfold Op.eqFields
  rw [if_pos h1,h3']
  simp only [Sem.run_bind,run_part_str hu (List.getElem?_eq_getElem hxi),run_part_str hu (List.getElem?_eq_getElem hyi),Result.andThen_ok,run_equalIn_string w d f.type _ _ hu,toList_bs]
  have hb:(xs.drop i == ys.drop i)=(xs[i] == ys[i] && (xs.drop (i+1) == ys.drop (i+1))):=by
   rw [List.drop_eq_getElem_cons hxi,List.drop_eq_getElem_cons hyi]; rfl
  rw [hb]
  by_cases he:xs[i]=ys[i]
  ·rw [if_neg (by simp [he]),run_eqStrs t (i+1) h4 (by omega) (by omega),he]
   simp only [beq_self_eq_true,Bool.true_and]
  ·rw [if_pos (by simp [he]),beq_eq_false_iff_ne.2 he]
   rfl
theorem EqS.of {P:Program} {T:TypeId} {fs:Array Field} {n:Nat} (h1:P.underlying T=some (.struct fs)) (h2:P.stoodInHeld T=false) (h3:P.eqGuardType P.depth T=false) (h4:okStrs P fs.toList 0=true) (hn:fs.size=n):EqS P T n:=by
 refine ⟨h3,fun xs ys w hx hy=>?_⟩
 have hf:P.fieldsOf T=fs:=by simp [Program.fieldsOf,h1]
 rw [run_equalIn_struct w 9999 T _ _ (by rw [hf]; exact h1) h2,hf,run_eqStrs fs.toList 0 h4 (by simp [hx,hn]) (by simp [hy,hn])]
 simp
section
variable {P:Program} {e:Env} {h h':SH} {ty:TypeId}
end
end Go.Ck







namespace Go.Hr
open Go Go.RowKit Go.Ck Go.Proofs Go.Proofs.YtaohbfnepjjdgaaGreat Fx
attribute [local irreducible] Go.Ck.Sub St Cd Xt Nx DrL LsW
section
variable {S:Res} {v nv:Value} {l:Sys} {ns:List Nm}
set_option maxRecDepth 100000 in
theorem CheckWay1_ct (hv : sysR S v l) (hn : nmsR S nv ns) (hnl : ns.length ≤ 1099511627776) (c x : Nm) : Ct Tryz.prog 77 #[v, sv c, sv x, nv] [S] fun u h' => u = .int .i64 (wayC l c x ns) ∧ h' = [S] := by
 obtain ⟨a,cap,rfl,_⟩:=id hv
 obtain ⟨na,ncap,rfl,hnc,_⟩:=id hn
 refine ct_of (n:=64) Tryz.func77 Z Z (len Z) fun hr w0=>?_
 refine cQ (sA Z (sN (nT (cQ (sM Z (sM Z (sM Z (st_buildSlice (cells:=[sv c,sv x]) Z Tryz.underlying50 inf9 Z Z (by kernel_rfl) (ltn Z) fun b18=>?_))))))))
 refine st_pv (pv_of (b:=b18) (n:=2) (sz:=1) (E:=9) [nC c,nC x] Z (by simp [nC]) Z (by decide)) ?_
 simp only [lC,lN]
 refine st_ok (r:=NR (.slice (some ⟨b18,0,none⟩) 2 2) [c,x]) slq fun hok=>?_
 refine st_cl Z Z en122 Z (right_ct hv (nms_own hok) (by simp)) ?_
 rintro u h' (⟨he,rfl,rfl⟩ | ⟨he,mb,rfl,rfl⟩)
 ·have hw:wayC l c x ns=rightE l [c,x]:=if_neg he
  rw [hw]
  simp only [lC,lN]
  unfold gr0
  refine sM Z (sV (v_extract Z Z) (sV (v_extract Z Z) (st_alc al165 fun b9=>?_)))
  refine st_stoW Z Z sz165 Z Z ?_
  refine sA Z (sK [1,2,3,8,9,10] Z (cS (cQ (sM Z (sV (v_neq Z Z) (sK [1,2,3,8,9,10,23] Z ?_))))))
  rw [ne_true he]
  refine cd_true Z ?_
  refine cQ (sM Z (sA Z (sK [8] Z (cT (xR ?_)))))
  exact xt_rt Z ⟨Z,Z⟩ sbq
 ·obtain ⟨hR,hm⟩:=rightE_zero.1 he
  have hw:wayC l c x ns=if wayOk l c x ns then 0 else 11:=if_pos he
  rw [hw]
  simp only [lC,lN]
  refine sM Z (sV (v_extract Z Z) (sV (v_extract Z Z) (st_alc al165 fun b9=>?_)))
  refine st_stoW Z Z sz165 Z Z ?_
  refine sA Z (sK [1,2,3,8,9,10] Z (cS (cQ (sM Z (sV (v_neq Z Z) (sK [1,2,3,8,9,10,23] Z (cd_false Z ?_)))))))
  refine cK (xT (cQ (sM Z (sV (v_len Z Tryz.underlying50) (sA Z (sK [1,2,3,8,9,11] Z (cS (cQ (sM Z (sV (v_eql Z Z) (sM Z ?_)))))))))))
  cases ns with
  | nil =>
   iterate 5 refine st_sk rfl rfl rfl ?_
   refine sV (vQ Z Z) (sM Z (st_sk Z Z Z ?_))
   iterate 6 refine st_sk rfl rfl rfl ?_
   refine sV (vQ Z Z) (sK [3,8,9,44] Z (cd_true Z ?_))
   refine cQ (sA Z (sK [8] Z (cT (xR ?_))))
   exact xt_rt Z ⟨Z,Z⟩ sbq
  | cons c0 t =>
   obtain ⟨b,o,cap2,hv2,hrd⟩:=nms_at hn (show (c0::t)[0]? = some c0 from rfl)
   obtain ⟨b',o',cap2',hv2',hrd'⟩:=nms_at hn (show (c0::t)[t.length]? = some ((c0::t).getLast (by simp)) by rw [List.getLast_eq_getElem]; simp)
   cases hv2
   cases hv2'
   rw [wayOk_cons]
   generalize hlast:(c0::t).getLast (by simp)=cl0 at *
   refine st_cut (k:=9) (d:=35) (v:=.bool ((((c0::t).length:Int) == 0) || (c0 != c))) (fun hcut=>bool_want (b:=(((c0::t).length:Int) == 0)) false (fun hg=>?_) (fun hg=>?_)) ?_
   ·refine st_sk Z Z hg ?_
    iterate 4 refine st_sk rfl rfl hg ?_
    refine sV (vQ (bO Z hg) Z) ?_
    exact hcut _ uG
   ·refine sG Z (bG Z hg) (vM Z) (sG Z (bG Z hg) (vI (k:=0) Z Z sl50 Z (by simp) Z) ?_)
    refine sG Z (bG Z hg) (vY Z ld9) ?_
    refine sG Z (bG Z hg) (vM Z) (sG Z (bG Z hg) (v_sneq Z Z) (sV (vP (bO Z hg) Z) ?_))
    exact hcut _ uG
   refine sM Z (st_cut (k:=18) (d:=44) (v:=.bool (((((c0::t).length:Int) == 0) || (c0 != c)) || (cl0 != x))) (fun hcut=>bool_want (b:=((((c0::t).length:Int) == 0) || (c0 != c))) false (fun hg=>?_) (fun hg=>?_)) ?_)
   ·refine st_sk Z Z hg ?_
    iterate 6 refine st_sk rfl rfl hg ?_
    refine sV (vQ (bO Z hg) Z) ?_
    exact hcut _ uG
   ·refine sG Z (bG Z hg) (vM Z) (sG Z (bG Z hg) (vM Z) (sG Z (bG Z hg) (v_sub Z Z (by unfold I64 at *; omega)) (sG Z (bG Z hg) (vI (k:=t.length) Z Z sl50 (by simp) (by simp) Z) ?_)))
    refine sG Z (bG Z hg) (vY Z ld9) ?_
    refine sG Z (bG Z hg) (vM Z) (sG Z (bG Z hg) (v_sneq Z Z) (sV (vP (bO Z hg) Z) ?_))
    exact hcut _ uG
   have h0:(((c0::t).length:Int) == 0)=false:=by simp; omega
   rw [h0,Bool.false_or]
   refine sK [3,8,9,44] Z (cC Z (fun hq=>?_) (fun hq=>?_))
   ·rw [hq]
    refine cQ (sA Z (sK [8] Z (cT (xR ?_))))
    exact xt_rt Z ⟨Z,Z⟩ sbq
   ·rw [hq]
    refine cK (xT (cS (cQ (sM Z (sV (v_sliceTail Z Z sl50 Z (by simp) hnc) ?_)))))
    refine sV (v_len Z Tryz.underlying50) (sM Z (sK [3,8,9,46,47,48] Z (cB ?_)))
    have hnt:=nms_tail hn
    have htl:t.length+1≤1099511627776:=by simpa using hnl
    rw [show (c0::t).length - 1=t.length from rfl]
    refine cd_lq (σ := Nat) (fun i=>[(3,.slice (some ⟨b,o,none⟩) (c0::t).length ncap),(9,.pointer (some ⟨b9,0,none⟩)),(46,.slice (some ⟨b,if ncap=1 then o else o+1 * 1,none⟩) t.length (ncap - 1)),(47,.int .i64 t.length),(48,.int .i64 (i:Nat))]) (fun _=>pt b9 (cl [.slice a l.length cap,.map (some mb)] 165)::mps mb (kindsM l)::S::hr) (fun i=>i≤t.length∧∀ j,j<i→(par l ((c0::t).getD j [])).contains (t.getD j [])=true) (fun i=>t.length - i) 0 ⟨Nat.zero_le _,fun j hj=>by omega⟩ ?_
    rintro i ⟨hi,hal⟩
    refine cQ (sV (v_lss Z Z) (sN (nT (cS (cC Z (fun hd=>?_) (fun hd=>?_))))))
    ·have hlt:i<t.length:=by simpa using hd
     obtain ⟨tb,to,tcap,htv,htrd⟩:=nms_at hnt (List.getElem?_eq_getElem hlt)
     have hget:(c0::t)[i]? = some ((c0::t).getD i []):=getD_of [] (by simp; omega)
     obtain ⟨wb,wo,wcap,hwv,hwrd⟩:=nms_at hn hget
     have hge:t.getD i []=t[i]:=by simp [hlt]
     generalize hwi:(c0::t).getD i []=wi at hget hwrd
     generalize t[i]=ti at hge htrd
     refine cK (xT (cS (cB (cQ (sM Z (sV (vI (k:=i) (congrArg some htv) Z sl50 Z hlt Z) (sV (vY Z ld9) ?_)))))))
     refine sA Z (sA Z (sK [3,9,12,13,46,47,48] Z (cS (cd_drawh (ork [(0,1),(1,2),(2,2),(3,2),(4,1),(7,2),(5,0),(6,0),(8,0),(9,2)] .nil) (fun i => !(Nat.beq i 5 || Nat.beq i 6 || Nat.beq i 8)) mixed (by kernel_rfl) ?_))))
     refine dr_v Z (v_ldn Z ld165 Z rds_pt) ?_
     refine dV Z (vM Z) (dV Z (vM Z) (dV Z (vI (k:=i) (congrArg some hwv) Z sl50 Z (by simp; omega) Z) ?_))
     refine dr_v Z (vY Z ld9) ?_
     refine dV Z (vM Z) (dr_eff Z (st_cl Z Z en125 Z (parents0_ct Z) ?_))
     rintro u h' ⟨c1,c2,rfl,rfl⟩
     simp only [lC,lN]
     refine dr_nx ?_
     refine dr_eff Z (st_cl Z Z en124 Z (Collect_ct hv hR.fine wi) ?_)
     rintro u h' ⟨hu,rfl⟩
     simp only [lC,lN]
     have hpl:=par_len hR.fine wi
     refine st_ok (r:=NR u (par l wi)) slq fun hok=>?_
     refine dr_nx ?_
     refine dr_eff Z (st_cl Z Z en123 Z (Contains_ct (nms_own hok) ti (by omega)) ?_)
     rintro u h' ⟨rfl,rfl⟩
     simp only [lC,lN]
     refine dr_nx ?_
     refine dV Z (v_not Z) (dr_nil (nK [3,9,46,47,48,62] Z (nT (cC Z (fun hno=>?_) (fun hno=>?_)))))
     ·have hno:(par l wi).contains ti=false:=by simpa using hno
      rw [show ((List.range t.length).all fun i=>(par l ((c0::t).getD i [])).contains (t.getD i []))=false from List.all_eq_false.2 ⟨i,List.mem_range.2 hlt,by rw [hwi,hge,hno]; decide⟩]
      refine cQ (sA Z (sK [8] Z (cT (xW (xR (xR (xW (xR ?_))))))))
      exact xt_rt Z ⟨Z,Z⟩ sbq
     ·have hno:(par l wi).contains ti=true:=by simpa using hno
      refine cK (xB (xT (cR (sV (v_add Z Z (by unfold I64 at *; omega)) (sM Z (sN (nK [3,9,46,47,48] Z (nx_xt (xt_aq (i+1) ⟨hlt,fun j hj=>?_⟩ (by show _ - _<_ - _; omega))))))))))
      by_cases hji:j=i
      ·subst hji; rw [hwi,hge]; exact hno
      ·exact hal j (by omega)
    ·refine cd_exit (xE (xE (xY (xT (cQ (sA Z (sK [8] Z (cT ?_))))))))
     have hil:i=t.length:=by
      have:¬ i<t.length:=by simpa using hd
      omega
     rw [show ((List.range t.length).all fun i=>(par l ((c0::t).getD i [])).contains (t.getD i []))=true from List.all_eq_true.2 fun j hj=>hal j (by rw [hil]; exact List.mem_range.1 hj)]
     exact xt_rt Z ⟨Z,Z⟩ sbq
end
end Go.Hr


namespace Go.Hr
open Go Go.RowKit Go.Ck Go.Proofs Go.Proofs.YtaohbfnepjjdgaaGreat Fx
attribute [local irreducible] Go.Ck.Sub St Cd Xt Nx DrL LsW
section
variable {S:Res} {v:Value} {l:Sys}
end
end Go.Hr
namespace Go.Ck
open Go Go.RowKit
theorem v_app_nils {P:Program} {e:Env} {h:SH} {t E ty:TypeId} {x y:Operand} {z:Value} {sz bytes:Nat} {a:Option Addr} {n cp:Nat} (hx:e.ev? x=some (.slice a n cp)) (hy:e.ev? y=some (.slice none 0 0)) (hT:P.underlying t=some (.slice E)) (hE:Inf P E z sz bytes) (hn:n≤cp):Vop P e h (.call { callee:=.builtin .append,args := #[x,y],argTypes := #[t,t] }) ty (.slice a n cp):=
 ⟨by simp,by simp,fun ρ w d pos after g hρ _=>by
  obtain ⟨i,hi,hz,hisz,hiby⟩:=hE.parts
  cases a <;> simp [execOp,resolve,invoke,builtin,hρ x _ hx,hρ y _ hy,Builtin.append_,run_underlying hT,sizeOf,typeInfo,hi,Builtin.lenOf,Builtin.firstCells,loadCells,loadCellsFrom,hn,storeCells]⟩
section
variable {α : Type} {S:Res} {sz:Nat} {X:List Value → α → Prop}
theorem Row.take {a:Option Addr} {n cp k:Nat} {l:List α} (h:Row S sz X (.slice a n cp) l) (hk:k≤l.length):Row S sz X (.slice a k cp) (l.take k):=by
 obtain ⟨a',cap,he,h2,h3,h4,h5⟩:=h
 cases he
 refine ⟨a,cp,by rw [List.length_take,Nat.min_eq_left hk],by rw [List.length_take]; omega,h3,h4,fun i x hi=>?_⟩
 rw [List.getElem?_take] at hi
 split at hi
 ·exact h5 i x hi
 ·cases hi
theorem Row.drop {b o n cp k:Nat} {l:List α} (h:Row S sz X (.slice (some ⟨b,o,none⟩) n cp) l) (hk:k≤l.length):Row S sz X (.slice (some ⟨b,if cp=k then o else o+k * sz,none⟩) (n - k) (cp - k)) (l.drop k):=by
 obtain ⟨a',cap,he,h2,h3,h4,h5⟩:=h
 cases he
 refine ⟨_,_,by rw [List.length_drop],by rw [List.length_drop]; omega,by omega,(fun h=>by cases h),fun i x hi=>?_⟩
 rw [List.getElem?_drop] at hi
 have hlt:=(List.getElem?_eq_some_iff.1 hi).1
 obtain ⟨b2,o2,us,e,h6,h7,h8⟩:=h5 (k+i) x hi
 cases e
 refine ⟨_,_,us,Z,h6,?_,h8⟩
 rw [if_neg (by omega),Nat.add_assoc,← Nat.add_mul]; exact h7
variable {c:Cx} {ops:Array Oper} {K:Act→World→Prop} {rest:List Oper} {e:Env} {h h' h'':SH}
theorem st_apr {l : List α} {v v1 z : Value} {E t ty : TypeId} {bytes d : Nat} {x y : Operand} {pos : String} {after : Array Edge} {rows : List (List Value)} (hv : Row S sz X v l)
  (hx:e.ev? x=some v1) (hy:e.ev? y=some v) (ht:c.P.underlying t=some (.slice E)) (hE:Inf c.P E z sz bytes) (hzs:z.cells.size=sz) (hsz:0<sz)
  (hs:Sel h (VR v1 E sz rows) h') (hS:Sel h' S h'') (h1:∀ us x,x∈l→X us x→∀ u∈us,u.oneCell'=true) (hb:(rows.length+l.length) * bytes≤140737488355328) (h63:rows.length+l.length≤9223372036854775807) (hd:d<c.n)
  (hnx:∀ v' news,v'.oneCell'=true→news.length=l.length→(∀ r∈news,r.length=sz)→(∀ (i:Nat) us x,news[i]? = some us→l[i]? = some x→X us x)→St c ops K rest ((d,v')::e) (VR v' E sz (rows++news)::h')) :
  St c ops K (⟨some d,.call { callee:=.builtin .append,args := #[x,y],argTypes := #[t,t] },ty,pos,after,none⟩::rest) e h:=by
 obtain ⟨a,cap,rfl,hlc,hcm,hnone,hel⟩:=id hv
 have key:St c ops K (⟨some d,.call { callee:=.builtin .append,args := #[x,y],argTypes := #[t,t] },ty,pos,after,none⟩::rest) e (VR v1 E sz rows::h'):=by
  cases a with
  | none =>
   have hc0:cap=0:=hnone rfl
   have hl0:l=[]:=List.eq_nil_of_length_eq_zero (by omega)
   subst hl0 hc0
   refine st_ok .here fun ⟨f,hf⟩=>?_
   have hn:=hnx v1 []
   rw [List.append_nil] at hn
   rcases VR.form hf with ⟨rfl,g1⟩ | ⟨b,o,cp,rfl,g1,g2⟩
   ·exact st_val (v_app_nils hx hy ht hE (Nat.le_refl _)) hd (hn Z Z (by simp) fun i us x h=>by simp at h)
   ·exact st_val (v_app_nils hx hy ht hE g1) hd (hn Z Z (by simp) fun i us x h=>by simp at h)
  | some a =>
   obtain ⟨news,r1,r2,r3,r4⟩:=hv.cells
   exact st_appA news hx hy ht hE hzs hsz .here r2 r1 (fun j u hu=>by obtain ⟨b2,o,hb2,hr⟩:=r4 j u hu; cases hb2; rw [Addr.add_lit]; exact ⟨S,_,.there hS,hr⟩) (fun u hu=>by obtain ⟨us,h2,h3⟩:=List.mem_flatten.1 hu; obtain ⟨i,hi,rfl⟩:=List.mem_iff_getElem.1 h2; exact h1 _ l[i] (List.getElem_mem _) (r3 i _ _ (List.getElem?_eq_getElem hi) (List.getElem?_eq_getElem (by omega))) u h3) hb h63 hd fun v' hv' _=>hnx v' news hv' r1 r2 r3
 exact St.perm hs.perm key
end
end Go.Ck
namespace Go.Hr
open Go Go.RowKit Go.Ck Go.Proofs Go.Proofs.YtaohbfnepjjdgaaGreat Fx
attribute [local irreducible] Go.Ck.Sub St Cd Xt Nx DrL LsW
section
variable {S S':Res} {v v':Value}
end
end Go.Hr
namespace Go.Hr
open Go Go.RowKit Go.Ck Go.Proofs Go.Proofs.YtaohbfnepjjdgaaGreat Fx
attribute [local irreducible] Go.Ck.Sub St Cd Xt Nx DrL LsW
def Cor {α : Type} (X:List Value → α → Prop) (rows:List (List Value)) (l:List α):Prop:=rows.length=l.length∧∀ (i:Nat) us x,rows[i]? = some us→l[i]? = some x→X us x
section
variable {α : Type} {X X':List Value → α → Prop} {r s:List (List Value)} {l m:List α}
theorem Cor.nil:Cor X [] ([]:List α):=⟨rfl,fun i us x h=>by simp at h⟩
theorem Cor.one {us:List Value} {x : α} (h:X us x):Cor X [us] [x]:=⟨rfl,fun i us' x' h1 h2=>by
 have hi:i=0:=by have:=(List.getElem?_eq_some_iff.1 h1).1; simpa using this
 subst hi
 cases h1; cases h2; exact h⟩
theorem Cor.mono (h:Cor X r l) (hx:∀ us x,X us x→X' us x):Cor X' r l:=⟨h.1,fun i us x h1 h2=>hx _ _ (h.2 i us x h1 h2)⟩
end
theorem llC.mono {S S':Res} (hr:∀ p u,Rd S p u→Rd S' p u) {us:List Value} {xs:List Nm} (h:llC S us xs):llC S' us xs:=let ⟨u,h1,h2⟩:=h; ⟨u,h1,h2.mono hr⟩
theorem llC.one {S:Res} {us:List Value} {xs:List Nm} (h:llC S us xs):∀ u∈us,u.oneCell'=true:=fun u hu=>by
 obtain ⟨w,rfl,h2⟩:=h
 simp at hu
 subst hu; exact Row.one h2
section
variable {A B:Res} {w ov:Value} {xss:List (List Nm)} {one:List Nm}
end
end Go.Hr
namespace Go.Hr
open Go Go.RowKit Go.Ck Go.Proofs Go.Proofs.YtaohbfnepjjdgaaGreat Fx
attribute [local irreducible] Go.Ck.Sub St Cd Xt Nx DrL LsW
def LnP (l:Sys) (n:Nat) (w:List Nm):Prop:=w.length=n∧isC l (lastN w)=true
theorem Ones.empty {P:List Nm→Prop}:Ones P []:=⟨fun w h=>by simp at h,by simp⟩
def ext0 (l:Sys) (w:List Nm) (ps:List Nm) (n:List (List Nm)):List (List Nm):=(ps.filter (isC l)).foldl (fun n p=>ins1 n (w++[p])) n
section
variable {S:Res} {v:Value} {l:Sys}
end
end Go.Hr
namespace Go.Hr
open Go Go.RowKit Go.Ck Go.Proofs Go.Proofs.YtaohbfnepjjdgaaGreat Fx
attribute [local irreducible] Go.Ck.Sub St Cd Xt Nx DrL LsW
def noRing (l:Sys) (xs:Sys):Prop:=∀ x∈xs,further l x.name x.name=[]
section
variable {S:Res} {v:Value} {l:Sys}
end
end Go.Hr
namespace Go.Hr
open Go Go.RowKit Go.Ck Go.Proofs Go.Proofs.YtaohbfnepjjdgaaGreat Fx
attribute [local irreducible] Go.Ck.Sub St Cd Xt Nx DrL LsW
section
variable {S:Res} {v:Value} {l:Sys}
variable {N:Res} {nv:Value} {ns:List Nm}
end
end Go.Hr
namespace Go.Hr
open Go Go.RowKit Go.Ck Go.Proofs Go.Proofs.YtaohbfnepjjdgaaGreat Fx
attribute [local irreducible] Go.Ck.Sub St Cd Xt Nx DrL LsW
theorem Right.sel {l:Sys} (hR:Right l):∀ x∈l,x.parents.length≤1099511627776:=fun x hx=>Nat.le_trans (hR.few x hx) (by decide)
section
variable {S N:Res} {v nv:Value} {l:Sys} {ns:List Nm}
end
end Go.Hr
namespace Go.Hr
open Go Go.RowKit Go.Ck Go.Proofs Go.Proofs.YtaohbfnepjjdgaaGreat Fx
attribute [local irreducible] Go.Ck.Sub St Cd Xt Nx DrL LsW
def upTo (l:Sys) (c:Nm) (i:Nat):List Nm:=((par l c).take i).foldl (fun o p=>dd o (above l p)) []
section
variable {S N:Res} {v nv:Value} {l:Sys} {ns:List Nm}
end
end Go.Hr
namespace Go.Hr
open Go Go.RowKit Go.Ck Go.Proofs Go.Proofs.YtaohbfnepjjdgaaGreat Fx
attribute [local irreducible] Go.Ck.Sub St Cd Xt Nx DrL LsW
def touF (l:Sys) (ns:List Nm) (i:Nat):List Nm:=((nms l).take i).filter fun c=>ns.any fun a=>has l c a
section
variable {S N:Res} {v nv:Value} {l:Sys} {ns:List Nm}
end
end Go.Hr

namespace Go.Hr
open Go Go.RowKit Go.Ck Go.Proofs Go.Proofs.YtaohbfnepjjdgaaGreat Fx
attribute [local irreducible] Go.Ck.Sub St Cd Xt Nx DrL LsW
def opnT (l:Sys) (o:List Nm) (i:Nat):List Nm:=((nms l).take i).filter (opn l o)
def Bst (xs:List Nm) (b:Nm):Prop:=(xs=[]∧b=[])∨(b∈xs∧∀ y∈xs,lt y b=false)
theorem Bst.yes {xs : List Nm} {b x : Nm} (h : Bst xs b) (hne : ∀ y ∈ xs, y ≠ []) (hc : (b == [] || lt x b) = true) : Bst (xs ++ [x]) x := by
 refine .inr ⟨by simp,fun y hy=>?_⟩
 rcases List.mem_append.1 hy with hy | hy
 ·rcases h with ⟨h1, _⟩ | ⟨h1, h2⟩
  ·rw [h1] at hy; cases hy
  ·rcases Bool.or_eq_true_iff.1 hc with h3 | h3
   ·exact absurd (by simpa using h3) (hne b h1)
   ·cases h4:lt y x with
    | false=>rfl
    | true=>have:=lt_trans h4 h3; rw [h2 y hy] at this; cases this
 ·simp at hy; rw [hy]; exact lt_irrefl x
theorem Bst.no {xs:List Nm} {b x:Nm} (h:Bst xs b) (hc:(b == [] || lt x b)=false):Bst (xs++[x]) b:=by
 obtain ⟨h3,h4⟩:=Bool.or_eq_false_iff.1 hc
 rcases h with ⟨_,h1⟩ | ⟨h1,h2⟩
 ·rw [h1] at h3; simp at h3
 ·refine .inr ⟨by simp [h1],fun y hy=>?_⟩
  rcases List.mem_append.1 hy with hy | hy
  ·exact h2 y hy
  ·simp at hy; rw [hy]; exact h4
theorem Bst.eq {xs:List Nm} {b:Nm} (h:Bst xs b) (hne:xs≠[]):b=minN xs:=by
 rcases h with ⟨h1,_⟩ | ⟨h1,h2⟩
 ·exact absurd h1 hne
 ·exact (minN_uniq h1 h2).symm
section
variable {S N A B:Res} {v nv w w':Value} {l:Sys} {ns o ps:List Nm}
end
end Go.Hr
namespace Go.Ck
open Go Go.RowKit Go.ChangeShapes Go.WideShapes
theorem cells_one {v:Value} (h:v.oneCell'=true):v.cells.toList=[v]:=by
 cases v <;> first | rfl | (simp [Value.oneCell'] at h)
theorem arg_one {H:Type} {enc:TypeId×Value→H} {P:Program} {W:World} {ty:Ty} {t:TypeId} {v:Value} {d:DataW H} {ps:List MemPlace} {b:Nat} (hf:fitB P ty t=true)
  (hs:(match P.underlying t with | some (.struct _) | some (.array _ _)=>false | some _=>true | none=>false)=true) (hv:Value.okWide P W .any b t v) (h:DataW.Trod enc P W 0 (fun _=>true) true t v d ps):∃ y,Rep (old W) ty [v] y:=by
 have:=arg_rep hf h
 rwa [cells_one (okWide_one hs hv)] at this
theorem rep_kind {k:IntKind} {r:Res} {v:Value} {n:Int} (h:Rep r (.int k) [v] n):v = .int k n∧(Lit.int k n).wf=true:=by
 simp only [Rep] at h
 exact ⟨by simpa using h.1,h.2⟩
theorem wf_u8 {n:Int} (h:(Lit.int .u8 n).wf=true):0≤n∧n<256:=by
 unfold Lit.wf at h
 simp [IntKind.min,IntKind.max,IntKind.signed,IntKind.bits] at h
 omega
end Go.Ck
namespace Go.Hr
open Go Go.RowKit Go.ChangeShapes Go.WideShapes Go.Ck
def partL:List TypeId:=[3,4,9,25,59,62,185,186,188,189,191,192,194,196,198,201,203]
def parTy:Ty:=.struct [.str,.slice (.any 5 partL),.slice (.any 2 partL),.slice .str,.slice .str,.slice .str]
def clsTy:Ty:=.struct [.str,.bool,.slice (.any 2 partL),.slice parTy,.slice .str,.slice (.any 15 partL),.slice (.any 5 partL)]
def nmOf (s:ByteArray):Nm:=s.data.toList
def parOf (x:parTy.D):Nm:=nmOf (show ByteArray from x.1)
def clsOf (x:clsTy.D):Cls:=⟨nmOf (show ByteArray from x.1),(show List parTy.D from x.2.2.2.1).map parOf,(show List Unit from x.2.2.2.2.2.1).length⟩
def sysOf (y:(Ty.slice clsTy).D):Sys:=(show List clsTy.D from y).map clsOf
def nmsOf (y:(Ty.slice .str).D):List Nm:=(show List ByteArray from y).map nmOf
end Go.Hr
namespace Go.Ck
open Go Go.RowKit Go.ChangeShapes Go.WideShapes
section
variable {H:Type}
theorem weights_mem_all {P:Program} {e:TypeId}:∀ {ds:List (DataW H)} {d:DataW H},d∈ds→∀ n∈d.weights P e,n∈DataW.weightsAll P e ds
 | d0::ds,d,hd,n,hn=>by
  simp only [DataW.weightsAll,List.mem_append]
  rcases List.mem_cons.1 hd with rfl | hd
  ·exact .inl hn
  ·exact .inr (weights_mem_all hd n hn)
variable (enc:TypeId×Value→H) (P:Program) (W:World)
def Gd (n:Nat) (t:TypeId) (cs:List Value):Prop:=∃ x,DataW.trod enc P W 0 (fun _=>true) true n t cs=some x∧∀ m∈x.1.weights P t,m≤reachBytes
variable {enc P W}
theorem Gd.slice {n : Nat} {t e : TypeId} {cs : List Value} (h : Gd enc P W n t cs) (hu : P.underlying t = some (.slice e)) (hsz : 0 < P.cellsOf e) :
  cs=[.slice none 0 0]∨∃ a len cap m,n=m+1∧cs=[.slice (some a) len cap]∧len≤cap∧cap≤maxLen∧len * P.bytesOf e≤reachBytes ∧
   ∀ i,i<len→∃ b o us,a=⟨b,o,none⟩∧us.length=P.cellsOf e∧Rds (old W) b (o+i * P.cellsOf e) us∧Gd enc P W m e us:=by
 obtain ⟨x,h,hz⟩:=h
 rcases DataW.trod_slice hu h with ⟨h0,_⟩ | ⟨a,len,cap,elems,rest,m,hn,h1,hx,_,hl,hc,hlen,hel,_⟩
 ·exact .inl h0
 ·refine .inr ⟨a, len, cap, m, hn, h1, hl, hc, ?_, fun i hi => ?_⟩
  ·have:=hz ((elems.length+rest.length) * P.bytesOf e) (by rw [hx]; simp [DataW.weights,hu])
   rw [hlen] at this
   exact Nat.le_trans (Nat.mul_le_mul_right _ (Nat.le_add_right _ _)) this
  ·have h2:=hel i hi
   rw [List.getElem?_eq_getElem (by omega),Option.bind_eq_some_iff] at h2
   obtain ⟨us,h3,h4⟩:=h2
   obtain ⟨h5,h6⟩:=cells?_at h3
   have hspot:a.spot=none:=by
    have g2:=hel 0 (by omega)
    rw [List.getElem?_eq_getElem (by omega),Option.bind_eq_some_iff] at g2
    obtain ⟨us0,g3,_⟩:=g2
    obtain ⟨g5,g6⟩:=cells?_at g3
    have:=g6 0 (by omega)
    simp only [Nat.zero_mul,Addr.add,if_true] at this
    exact (cell_spot this).1
   obtain ⟨ab,ao,asp⟩:=a
   simp only at hspot
   subst hspot
   refine ⟨ab,ao,us,Z,h5,fun j hj=>?_,elems[i]'(by omega),h4,fun k hk=>hz k ?_⟩
   ·have:=h6 j hj
    rw [Addr.add_lit,Addr.add_lit] at this
    exact rd_old (cell_spot this).2 this
   ·rw [hx]
    simp only [DataW.weights,hu]
    exact List.mem_cons_of_mem _ (List.mem_append_left _ (weights_mem_all (List.mem_map.2 ⟨_,List.getElem_mem (by omega),Z⟩) _ hk))
theorem Gd.struct {n:Nat} {t:TypeId} {fs:Array Field} {cs:List Value} (h:Gd enc P W n t cs) (hu:P.underlying t=some (.struct fs)) :
  ∃ m,n=m+1∧cs.length=P.cellsOf t∧∀ (i:Nat) (f:Field),fs[i]? = some f→Gd enc P W m f.type ((cs.drop f.offset).take (P.cellsOf f.type)):=by
 obtain ⟨x,h,hz⟩:=h
 obtain ⟨xs,m,hn,hx,hcl,hxl,hfe⟩:=DataW.trod_struct hu h
 refine ⟨m,hn,hcl,fun i f hf=>?_⟩
 have h1:=hfe i f hf
 have hlt:i<xs.length:=by rw [hxl]; exact (Array.getElem?_eq_some_iff.1 hf).1
 rw [List.getElem?_eq_getElem hlt] at h1
 refine ⟨xs[i],h1,fun k hk=>hz k ?_⟩
 rw [hx]
 simp only [DataW.weights,hu]
 exact DataW.weights_mem_each (j:=i) (by rw [List.getElem?_map]; simp [hf]) (by rw [List.getElem?_map,List.getElem?_eq_getElem hlt]; rfl) _ hk
end
end Go.Ck
namespace Go.Ck
open Go Go.RowKit
section
variable {c:Cx} {ops:Array Oper} {K:Act→World→Prop} {rest:List Oper} {e:Env} {h:SH}
theorem flat_len {sz:Nat}:∀ {rows:List (List Value)},(∀ r∈rows,r.length=sz)→rows.flatten.length=rows.length * sz
 | [],_=>by simp
 | r::t,h=>by
  rw [List.flatten_cons,List.length_append,h r (by simp),flat_len (rows:=t) fun q hq=>h q (by simp [hq]),List.length_cons,Nat.succ_mul]; omega
theorem splice_rows {sz:Nat} {vs:List Value} (hv:vs.length=sz):∀ {rows:List (List Value)} {m:Nat},(∀ r∈rows,r.length=sz)→m<rows.length→splice rows.flatten (m * sz) vs=(rows.set m vs).flatten
 | [],m,_,hm=>by simp at hm
 | r::t,0,h,_=>by
  have hr:=h r (by simp)
  simp [splice,hv,← hr]
 | r::t,m+1,h,hm=>by
  have hr:=h r (by simp)
  have ih:=splice_rows hv (rows:=t) (m:=m) (fun q hq=>h q (by simp [hq])) (by simpa using hm)
  have ht:=flat_len (sz:=sz) (rows:=t) fun q hq=>h q (by simp [hq])
  rw [List.set_cons_succ,List.flatten_cons,List.flatten_cons,← ih]
  unfold splice
  rw [Nat.succ_mul,show m * sz+sz=r.length+m * sz by omega]
  rw [List.take_length_add_append,show r.length+m * sz+vs.length=r.length+(m * sz+vs.length) by omega,List.drop_length_add_append]
  simp
end
end Go.Ck
namespace Go.Hr
open Go Go.RowKit Go.Ck
def tyC (t:Kt) (x:Value):List Value:=[.int .i64 t.kind,sv t.name,x,.bool t.void,.bool t.sep]
def tyR (S:Res):Nat→List Value→Kt→Prop
 | 0,_,_=>False
 | n+1,us,t=>∃ x,us=tyC t x∧Row S 5 (tyR S n) x t.args∧t.args.length * 56≤reachBytes
section
variable {S T:Res}
theorem tyR.mono (hr:∀ p u,Rd S p u→Rd T p u):∀ {n:Nat} {us:List Value} {t:Kt},tyR S n us t→tyR T n us t
 | 0,_,_,h=>h.elim
 | n+1,us,t,⟨x,h1,h2,h3⟩=>⟨x,h1,h2.mono hr fun _ _ _ h=>tyR.mono hr h,h3⟩
theorem tyR.le:∀ {n m:Nat} {us:List Value} {t:Kt},tyR S n us t→n≤m→tyR S m us t
 | 0,_,_,_,h,_=>h.elim
 | n+1,0,_,_,_,h=>by omega
 | n+1,m+1,us,t,⟨x,h1,h2,h3⟩,h=>⟨x,h1,h2.mono (fun _ _ h=>h) fun _ _ _ g=>tyR.le g (by omega),h3⟩
theorem tyR.depth:∀ {n:Nat} {us:List Value} {t:Kt},tyR S n us t→tyR S t.depth us t
 | 0,_,_,h=>h.elim
 | n+1,us,.mk k nm az v s,⟨x,h1,h2,h3⟩=>⟨x,h1,h2.mono (fun _ _ h=>h) fun us' a ha g=>(tyR.depth g).le (depths_mem ha),h3⟩
def Ty (S:Res) (us:List Value) (t:Kt):Prop:=tyR S t.depth us t
def Tys (S:Res) (v:Value) (ts:List Kt):Prop:=Row S 5 (Ty S) v ts∧ts.length * 56≤reachBytes
theorem Ty.of {us:List Value} {t:Kt} {x:Value} (h1:us=tyC t x) (h2:Tys S x t.args):Ty S us t:=by
 obtain ⟨k,nm,az,v,s⟩:=t
 exact ⟨x,h1,h2.1.mono (fun _ _ h=>h) fun us' a ha g=>tyR.le g (depths_mem ha),h2.2⟩
theorem Ty.out {us:List Value} {t:Kt} (h:Ty S us t):∃ x,us=tyC t x∧Tys S x t.args:=by
 obtain ⟨k,nm,az,v,s⟩:=t
 obtain ⟨x,h1,h2,h3⟩:=h
 exact ⟨x,h1,h2.mono (fun _ _ h=>h) fun us' a ha g=>tyR.depth g,h3⟩
theorem Ty.mono (hr:∀ p u,Rd S p u→Rd T p u) {us:List Value} {t:Kt} (h:Ty S us t):Ty T us t:=tyR.mono hr h
theorem Tys.mono (hr:∀ p u,Rd S p u→Rd T p u) {v:Value} {ts:List Kt} (h:Tys S v ts):Tys T v ts:=⟨h.1.mono hr fun _ _ _ g=>Ty.mono hr g,h.2⟩
theorem Tys.nil:Tys S (.slice none 0 0) []:=⟨Row.nil,by simp⟩
theorem Ty.len {us:List Value} {t:Kt} (h:Ty S us t):us.length=5:=by obtain ⟨x,rfl,_⟩:=h.out; rfl
theorem Tys.one {v:Value} {ts:List Kt} (h:Tys S v ts):v.oneCell'=true:=h.1.one
theorem Ty.ones {us:List Value} {t:Kt} (h:Ty S us t):us.all Value.oneCell'=true:=by
 obtain ⟨x,rfl,h2⟩:=h.out
 simp only [tyC,List.all_cons,List.all_nil,h2.one,Bool.and_true,Bool.true_and]; rfl
theorem Tys.at {v:Value} {ts:List Kt} (h:Tys S v ts) {i:Nat} {t:Kt} (hi:ts[i]? = some t):∃ b o cap us,v = .slice (some ⟨b,o,none⟩) ts.length cap∧us.length=5∧Rds S b (o+i * 5) us∧Ty S us t:=h.1.at hi
theorem Tys.form {v:Value} {ts:List Kt} (h:Tys S v ts):∃ a cap,v = .slice a ts.length cap∧ts.length≤cap∧cap≤maxLen∧(a=none→cap=0):=by
 obtain ⟨a,cap,h1,h2,h3,h4,_⟩:=h.1
 exact ⟨a,cap,h1,h2,h3,h4⟩
theorem Tys.small {v:Value} {ts:List Kt} (h:Tys S v ts):ts.length≤2513169438021:=by
 have:=h.2
 have hr:reachBytes=140737488351232:=rfl
 omega
def fmC (us:List Value) (f:Fm):Prop:=us=[sv f.name,sv f.bound]
def kparC (S:Res) (us:List Value) (p:Kp):Prop:=∃ x a b c d,us=[sv p.name,x,a,b,c,d]∧[sv p.name,x,a,b,c,d].all Value.oneCell'=true∧Tys S x p.args
def kclsC (S:Res) (us:List Value) (x:KC):Prop:=∃ d f pv c fa fc i,us=[sv x.name,d,f,pv,c,.slice fa x.feats fc,i]∧[sv x.name,d,f,pv,c,.slice fa x.feats fc,i].all Value.oneCell'=true∧Row S 2 fmC f x.formals∧Row S 6 (kparC S) pv x.parents
def ksysR (S:Res) (v:Value) (l:KS):Prop:=Row S 7 (kclsC S) v l
theorem kparC.mono (hr:∀ p u,Rd S p u→Rd T p u) {us:List Value} {p:Kp} (h:kparC S us p):kparC T us p:=by
 obtain ⟨x,a,b,c,d,h1,h2,h3⟩:=h
 exact ⟨x,a,b,c,d,h1,h2,h3.mono hr⟩
theorem kclsC.mono (hr:∀ p u,Rd S p u→Rd T p u) {us:List Value} {x:KC} (h:kclsC S us x):kclsC T us x:=by
 obtain ⟨d,f,pv,c,fa,fc,i,h1,h2,h3,h4⟩:=h
 exact ⟨d,f,pv,c,fa,fc,i,h1,h2,h3.mono hr fun _ _ _ h=>h,h4.mono hr fun _ _ _ h=>kparC.mono hr h⟩
theorem ksysR.mono (hr:∀ p u,Rd S p u→Rd T p u) {v:Value} {l:KS} (h:ksysR S v l):ksysR T v l:=Row.mono h hr fun _ _ _ h=>kclsC.mono hr h
theorem row_map {α β : Type} {sz:Nat} {X:List Value → α → Prop} {Y:List Value → β → Prop} {g : α → β} {v:Value} {l:List α} (h:Row S sz X v l) (hx:∀ us x,X us x→Y us (g x)):Row S sz Y v (l.map g):=by
 obtain ⟨a,cap,h1,h2,h3,h4,h5⟩:=h
 refine ⟨a,cap,by rw [h1,List.length_map],by rw [List.length_map]; exact h2,h3,h4,fun i y hi=>?_⟩
 rw [List.getElem?_map] at hi
 obtain ⟨x,hx1,rfl⟩:=Option.map_eq_some_iff.1 hi
 obtain ⟨b,o,us,g1,g2,g3,g4⟩:=h5 i x hx1
 exact ⟨b,o,us,g1,g2,g3,hx _ _ g4⟩
theorem kpar_par {us:List Value} {p:Kp} (h:kparC S us p):parC us p.name:=by
 obtain ⟨x,a,b,c,d,h1,h2,_⟩:=h
 exact ⟨x,a,b,c,d,h1,h2⟩
theorem kcls_cls {us:List Value} {x:KC} (h:kclsC S us x):clsC S us x.cls:=by
 obtain ⟨d,f,pv,c,fa,fc,i,h1,h2,h3,h4⟩:=h
 exact ⟨d,f,pv,c,fa,fc,i,h1,h2,row_map h4 fun _ _ h=>kpar_par h⟩
theorem ksysR.sys {v:Value} {l:KS} (h:ksysR S v l):sysR S v (ksys l):=row_map h fun _ _ h=>kcls_cls h
end
end Go.Hr
namespace Go.Hr
open Go Go.RowKit Go.Ck Go.Proofs Go.Proofs.YtaohbfnepjjdgaaGreat Fx
attribute [local irreducible] Go.Ck.Sub St Cd Xt Nx DrL LsW
section
variable {S T:Res} {v v':Value} {az bz:List Kt} {us us':List Value} {s t:Kt}
theorem same_unfold:s.same t=((((s.kind == t.kind && s.name == t.name) && s.void == t.void) && s.sep == t.sep) && sames s.args t.args):=by
 obtain ⟨k,n,az,w,p⟩:=s
 obtain ⟨k',n',az',w',p'⟩:=t
 rw [Kt.same]; rfl
theorem sames_false {i:Nat} {a b:Kt} (h1:az[i]? = some a) (h2:bz[i]? = some b) (h:a.same b=false):sames az bz=false:=by
 cases hs:sames az bz with
 | false=>rfl
 | true =>
  rw [(sames_iff az bz).1 hs,h2] at h1
  cases h1
  rw [(same_iff a a).2 rfl] at h; cases h
theorem take_snoc_eq {i:Nat} (h:az.take i=bz.take i) {a b:Kt} (h1:az[i]? = some a) (h2:bz[i]? = some b) (hs:a.same b=true):az.take (i+1)=bz.take (i+1):=by
 obtain rfl:=(same_iff a b).1 hs
 obtain ⟨g1,rfl⟩:=List.getElem?_eq_some_iff.1 h1
 obtain ⟨g2,g3⟩:=List.getElem?_eq_some_iff.1 h2
 rw [List.take_succ_eq_append_getElem g1,List.take_succ_eq_append_getElem g2,h,g3]
set_option maxRecDepth 100000 in
theorem EqualF_ct {kf : FuncId} (hE : Ck.Enters Tryz.prog kf) (hv : Tys S v az) (hv' : Tys S v' bz) (hF : ∀ (a b : Kt) us us', a ∈ az → Ty S us a → Ty S us' b → Reads Tryz.prog kf #[.agg us.toArray, .agg us'.toArray] [S] (.bool (a.same b))) : Reads Tryz.prog 53 #[v, v', .func (.func kf) #[] #[]] [S] (.bool (sames az bz)) := by
 have hml:maxLen=9223372036854775807:=rfl
 obtain ⟨a,cap,rfl,hlc,hcm,hnone⟩:=hv.form
 obtain ⟨a',cap',rfl,hlc',hcm',hnone'⟩:=hv'.form
 refine ct_of (n:=32) Tryz.func53 Z Z (len Z) fun hr w0=>?_
 refine cQ (sA Z (sN (nT (cS (cQ (sM Z (sV (v_len Z Tryz.underlying23) (sM Z (sV (v_len Z Tryz.underlying23) (sV (v_neq Z Z) (sK [0,1,2,6,14] Z (cC Z (fun hl=>?_) (fun hl=>?_)))))))))))))
 ·have hl:¬ az.length=bz.length:=by
   have:¬ (az.length:Int)=bz.length:=by simpa using hl
   omega
  rw [show sames az bz=false by
   cases h:sames az bz with
   | false=>rfl
   | true=>rw [(sames_iff az bz).1 h] at hl; exact absurd rfl hl]
  refine cQ (sA Z (sK [6] Z (cT (xR ?_))))
  exact xt_rt Z ⟨Z,Z⟩ sbq
 ·have hl:az.length=bz.length:=by
   have:(az.length:Int)=bz.length:=by simpa using hl
   omega
  refine cK (xT (cS (cQ (sM Z (sV (v_len Z Tryz.underlying23) (sM Z (sK [1,2,6,15,16,17] Z (cB (cd_lq (σ := Nat) (fun i=>[(1,.slice a' bz.length cap'),(2,.func (.func kf) #[] #[]),(15,.slice a az.length cap),(16,.int .i64 az.length),(17,.int .i64 (i:Nat))]) (fun _=>S::hr) (fun i=>i≤az.length∧az.take i=bz.take i) (fun i=>az.length - i) 0 ⟨Nat.zero_le _,Z⟩ ?_)))))))))
  rintro i ⟨hi,hal⟩
  refine cQ (sV (v_lss Z Z) (sN (nT (cS (cC Z (fun hd=>?_) (fun hd=>?_))))))
  ·have hlt:i<az.length:=by simpa using hd
   have hlt':i<bz.length:=by omega
   have hg:=List.getElem?_eq_getElem hlt
   have hg':=List.getElem?_eq_getElem hlt'
   have hmem:=List.getElem_mem hlt
   obtain ⟨b,o,cap2,us,e1,hus,hrd,ht⟩:=hv.at hg
   cases e1
   obtain ⟨b',o',cap2',us',e1,hus',hrd',ht'⟩:=hv'.at hg'
   cases e1
   generalize az[i]=x at hg hmem ht
   generalize bz[i]=y at hg' ht'
   have hone:=ht.ones
   have hone':=ht'.ones
   refine cK (xT (cS (cB (cQ (sM Z (sV (vI (k:=i) Z Z sl23 Z hlt Z) (sV (v_ldn Z ld25 hus hrd) ?_)))))))
   refine st_alc al25 fun b8=>?_
   refine sA Z (st_stoW (hl:=by rw [hus]; rfl) Z Z sz25 hus hone ?_)
   refine sK [1,2,7,8,15,16,17] Z (cQ (sM Z (sM Z (sV (vI (k:=i) Z Z sl23 Z hlt' Z) (sV (v_ldn Z ld25 hus' hrd') ?_)))))
   refine st_alc al25 fun b9=>?_
   refine st_stoW (hl:=by rw [hus']; rfl) Z Z sz25 hus' hone' ?_
   refine sK [1,2,8,9,15,16,17] Z (cQ (sM Z (sV (v_ldn Z ld25 hus rds_pt) ?_)))
   refine sV (v_ldn Z ld25 hus' rds_pt) ?_
   refine st_clr Z Z hE Z ((hF x y us us' hmem ht ht')) ?_
   refine sV (v_not Z) (sK [1,2,15,16,17,30] Z (cC Z (fun hne=>?_) (fun hne=>?_)))
   ·have hne:x.same y=false:=by simpa using hne
    rw [sames_false hg hg' hne]
    refine cQ (sA Z (sK [6] Z (cT (xW (xR (xR (xW (xR ?_))))))))
    exact xt_rt Z ⟨Z,Z⟩ sbq
   ·have hne:x.same y=true:=by simpa using hne
    refine cK (xB (xT (cR (sV (v_add Z Z (by unfold I64 at *; omega)) (sM Z (sN (nK [1,2,15,16,17] Z (nx_xt ?_))))))))
    refine xt_aq (i+1) ⟨hlt,take_snoc_eq hal hg hg' hne⟩ (Nat.sub_lt_sub_left hlt (Nat.lt_succ_self i))
  ·have hil:i=az.length:=by
    have:¬ i<az.length:=by simpa using hd
    omega
   rw [show sames az bz=true from (sames_iff az bz).2 (by
    have:=hal
    rw [hil,List.take_length,hl,List.take_length] at this
    exact this)]
   refine cd_exit (xE (xE (xY (xT (cQ (sA Z (sK [6] Z (cT ?_))))))))
   exact xt_rt Z ⟨Z,Z⟩ sbq
set_option maxRecDepth 100000 in
theorem Same_ct : ∀ (d : Nat) (s t : Kt) (us us' : List Value), s.depth ≤ d → Ty S us s → Ty S us' t → Reads Tryz.prog 15 #[.agg us.toArray, .agg us'.toArray] [S] (.bool (s.same t))
 | 0,s,_,_,_,hd,_,_=>by cases s; simp [Kt.depth] at hd
 | d+1,s,t,us,us',hd,hs,ht=>by
  obtain ⟨x,rfl,hx⟩:=hs.out
  obtain ⟨y,rfl,hy⟩:=ht.out
  have hF:∀ (a b:Kt) us us',a∈s.args→Ty S us a→Ty S us' b→Reads Tryz.prog 15 #[.agg us.toArray,.agg us'.toArray] [S] (.bool (a.same b)):=fun a b us us' ha h1 h2=>Same_ct d a b us us' (by have:=depth_args ha; omega) h1 h2
  rw [same_unfold]
  obtain ⟨xa,xc,rfl,_⟩:=hx.form
  obtain ⟨ya,yc,rfl,_⟩:=hy.form
  unfold tyC
  refine ct_of (n:=38) Tryz.func15 Z Z (len Z) fun hr w0=>?_
  refine cQ (st_bx Z Z fun b2=>?_)
  refine st_bx Z Z fun b3=>?_
  refine sA Z (sK [2,3,4] Z (cQ (sV (vF Z fa25_0 Z) (sV (vY Z ld3) ?_))))
  refine sV (vF Z fa25_0 Z) (sV (vY Z ld3) ?_)
  refine sV (v_eql Z Z) (sM Z (st_cut (k:=12) (d:=16) (v:=.bool (s.kind == t.kind && s.name == t.name)) (fun hcut=>bool_want (b:=(s.kind == t.kind)) true (fun hg=>?_) (fun hg=>?_)) ?_))
  ·refine st_sk Z Z hg ?_
   iterate 4 refine st_sk rfl rfl hg ?_
   refine sV (vP (bO Z hg) Z) ?_
   exact hcut _ uG
  ·refine sG Z (bG Z hg) (vF Z fa25_1 Z) (sG Z (bG Z hg) (vY Z ld9) ?_)
   refine sG Z (bG Z hg) (vF Z fa25_1 Z) (sG Z (bG Z hg) (vY Z ld9) ?_)
   refine sG Z (bG Z hg) (v_seql Z Z) (sV (vQ (bO Z hg) Z) ?_)
   exact hcut _ uG
  refine sM Z (st_cut (k:=19) (d:=23) (v:=.bool ((s.kind == t.kind && s.name == t.name) && s.void == t.void)) (fun hcut=>bool_want (b:=(s.kind == t.kind && s.name == t.name)) true (fun hg=>?_) (fun hg=>?_)) ?_)
  ·refine st_sk Z Z hg ?_
   iterate 4 refine st_sk rfl rfl hg ?_
   refine sV (vP (bO Z hg) Z) ?_
   exact hcut _ uG
  ·refine sG Z (bG Z hg) (vF Z fa25_3 Z) (sG Z (bG Z hg) (vY Z ld4) ?_)
   refine sG Z (bG Z hg) (vF Z fa25_3 Z) (sG Z (bG Z hg) (vY Z ld4) ?_)
   refine sG Z (bG Z hg) (v_eql_bool Tryz.underlying4 Z Z) (sV (vQ (bO Z hg) Z) ?_)
   exact hcut _ uG
  refine sM Z (st_cut (k:=26) (d:=30) (v:=.bool (((s.kind == t.kind && s.name == t.name) && s.void == t.void) && s.sep == t.sep)) (fun hcut=>bool_want (b:=((s.kind == t.kind && s.name == t.name) && s.void == t.void)) true (fun hg=>?_) (fun hg=>?_)) ?_)
  ·refine st_sk Z Z hg ?_
   iterate 4 refine st_sk rfl rfl hg ?_
   refine sV (vP (bO Z hg) Z) ?_
   exact hcut _ uG
  ·refine sG Z (bG Z hg) (vF Z fa25_4 Z) (sG Z (bG Z hg) (vY Z ld4) ?_)
   refine sG Z (bG Z hg) (vF Z fa25_4 Z) (sG Z (bG Z hg) (vY Z ld4) ?_)
   refine sG Z (bG Z hg) (v_eql_bool Tryz.underlying4 Z Z) (sV (vQ (bO Z hg) Z) ?_)
   exact hcut _ uG
  refine sM Z (st_cut (k:=33) (d:=37) (v:=.bool ((((s.kind == t.kind && s.name == t.name) && s.void == t.void) && s.sep == t.sep) && sames s.args t.args)) (fun hcut=>bool_want (b:=(((s.kind == t.kind && s.name == t.name) && s.void == t.void) && s.sep == t.sep)) true (fun hg=>?_) (fun hg=>?_)) ?_)
  ·refine st_sk Z Z hg ?_
   iterate 4 refine st_sk rfl rfl hg ?_
   refine sV (vP (bO Z hg) Z) ?_
   exact hcut _ uG
  ·refine sG Z (bG Z hg) (vF Z fa25_2 Z) (sG Z (bG Z hg) (vY Z ld23) ?_)
   refine sG Z (bG Z hg) (vF Z fa25_2 Z) (sG Z (bG Z hg) (vY Z ld23) ?_)
   refine st_clrg Z (bG Z hg) Z Z en53 Z (EqualF_ct en15 hx hy hF) ?_
   refine sV (vQ (bO Z hg) Z) ?_
   exact hcut _ uG
  refine sA Z (sK [4] Z (cT ?_))
  exact xt_rt Z ⟨Z,Z⟩ sbq
set_option maxRecDepth 100000 in
theorem same_ct (hs:Ty S us s) (ht:Ty S us' t):Reads Tryz.prog 15 #[.agg us.toArray,.agg us'.toArray] [S] (.bool (s.same t)):=Same_ct s.depth s t us us' (Nat.le_refl _) hs ht
set_option maxRecDepth 100000 in
theorem equal_ct (hv:Tys S v az) (hv':Tys S v' bz):Reads Tryz.prog 53 #[v,v',.func (.func 15) #[] #[]] [S] (.bool (sames az bz)):=EqualF_ct en15 hv hv' fun _ _ _ _ _ h1 h2=>same_ct h1 h2
end
end Go.Hr
