/-
  The laws: head,the chapter's examples. No condition.
-/
import Derived.Test.YtaohbfnepjjdgaaGreatM18
set_option linter.unusedVariables false
set_option linter.unusedSimpArgs false
namespace Go.Hr
open Go Go.RowKit Go.Ck Go.Proofs Go.Proofs.YtaohbfnepjjdgaaGreat Fx
theorem dr_cutD {α : Type} {c:Cx} {ops:Array Oper} {pre:Nat→Bool} {hC:SH} {K:Act→World→Prop} {t t':Ord} {e:Env} {h:SH} (E : α → Env) (H : α → SH)
  (hwalk:(∀ x e',Env.sub (E x) e'→DrL c ops pre hC K t' e' (H x))→DrL c ops pre hC K t e h) (hcont:∀ x,DrL c ops pre hC K t' (E x) (H x)):DrL c ops pre hC K t e h:=hwalk fun x _ h1=>DrL.weaken h1 (hcont x)
theorem st_pk2 {c:Cx} {ops:Array Oper} {K:Act→World→Prop} {rest:List Oper} {e:Env} {h hr:SH} {a b:Res} (hc:St c ops K rest e (Res.star [a,b]::hr)) (p:Pk h [a,b] hr:=by repeat (first | exact Pk.nil | (apply Pk.cons; (repeat (first | exact Sel.here | apply Sel.there))))):St c ops K rest e h:=st_pv pv_pack hc p
theorem st_of1 {c:Cx} {ops:Array Oper} {K:Act→World→Prop} {rest:List Oper} {e:Env} {h:SH} {b n E sz:Nat} {cells:List Value} (rows:List (List Value)) (hc:cells=rows.flatten) (h1:∀ r∈rows,r.length=sz) (hn:rows.length=n) (hm:n≤maxLen) (hx:St c ops K rest e (VR (.slice (some ⟨b,0,none⟩) n n) E sz rows::h)):St c ops K rest e (pt b (cl cells E)::h):=st_vw (vw_of rows hc h1 hn hm) hx
theorem dr_twog {c:Cx} {ops:Array Oper} {pre:Nat→Bool} {hC:SH} {K:Act→World→Prop} {e:Env} {h:SH} {i j:Nat} {t u:Ord} {d d':Option Nat} {op op':Op} {ty ty':TypeId} {pos pos':String} {after after':Array Edge} {g g' gd gd':Nat} {want want':Bool}
  (hi:ops[i]? = some ⟨d,op,ty,pos,after,some (g,want)⟩) (hj:ops[j]? = some ⟨d',op',ty',pos',after',some (g',want')⟩) (hg:((ops[g]?).bind (·.dst))=some gd) (hgv:e.get? gd=some (.bool want)) (hg':((ops[g']?).bind (·.dst))=some gd') (hgv':e.get? gd'=some (.bool want'))
  (h1:St c ops (EffK c ops pre hC K i t h) [⟨d,op,ty,pos,after,some (g,want)⟩] e h) (h2:St c ops (EffK c ops pre hC K j u h) [⟨d',op',ty',pos',after',some (g',want')⟩] e h):DrL c ops pre hC K (.two i t j u) e h :=
 ⟨⟨_,hi,fun _ hk=>by simp [Region.wanted,yields_guard hg hgv hk],h1⟩,⟨_,hj,fun _ hk=>by simp [Region.wanted,yields_guard hg' hgv' hk],h2⟩⟩
attribute [local irreducible] Go.Ck.Sub St Cd Xt Nx DrL LsW
theorem ex_tiny:Tiny exL:=by unfold Tiny; decide +kernel
section
variable {S:Res}
theorem tys_four {b:Nat} {u1 u2 u3 u4:List Value} {t1 t2 t3 t4:Kt} (h1:Ty S u1 t1) (h2:Ty S u2 t2) (h3:Ty S u3 t3) (h4:Ty S u4 t4) (hok:∃ f,(VR (.slice (some ⟨b,0,none⟩) 4 4) 25 5 [u1,u2,u3,u4]).ok f):Tys (Res.star [VR (.slice (some ⟨b,0,none⟩) 4 4) 25 5 [u1,u2,u3,u4],S]) (.slice (some ⟨b,0,none⟩) 4 4) [t1,t2,t3,t4]:=
 ⟨row_vr hok rfl (rd_in .here) fun i us' x g1 g2=>by
  match i,g1,g2 with
  | 0,g1,g2=>cases g1; cases g2; exact h1.mono (rd_in (.there .here))
  | 1,g1,g2=>cases g1; cases g2; exact h2.mono (rd_in (.there .here))
  | 2,g1,g2=>cases g1; cases g2; exact h3.mono (rd_in (.there .here))
  | 3,g1,g2=>cases g1; cases g2; exact h4.mono (rd_in (.there .here)),by show 4 * 56≤reachBytes; decide⟩
end
set_option maxHeartbeats 16000000 in
set_option maxRecDepth 100000 in
theorem head_ct : Reads Tryz.prog 10 #[] [] (.bool true) := by
 have hml:maxLen=9223372036854775807:=rfl
 have htn:=ex_tiny
 refine ct_of (n:=261) Tryz.func10 Z Z (len Z) fun hr w0=>?_
 refine cQ (sA Z (sN (nT (cQ (st_cl Z Z en42 Z (Example_ct) ?_)))))
 rintro u h' ⟨G,bE,rfl,rfl,hv⟩
 simp only [lC,lN]
 refine sA Z (sK [0,1] Z (cQ (st_clr Z Z en28 Z (lClass_ct) ?_)))
 refine st_alc al25 fun b2=>?_
 refine st_stoW Z Z sz25 Z Z ?_
 refine sK [0,1,2] Z (cQ (sM Z (st_cl Z Z en13 Z (KCheck_ct hv htn) ?_)))
 rintro u h' ⟨rfl,rfl⟩
 simp only [lC,lN,ex_check]
 refine sM Z (sV (v_extract Z Z) (sV (v_extract Z Z) (sA Z (sA Z (sK [0,1,2,3] Z (cQ (sM Z (st_clr Z Z en28 Z (lClass_ct) ?_))))))))
 refine st_cl Z Z en19 Z (Instance_ct hv htn (Ty.of (S := G) (us := [.int .i64 3, sv (nB "WORDS"), .slice none 0 0, .bool false, .bool false]) (t := (exT (nB "WORDS") [])) Z Tys.nil) (nB "LIST")) ?_
 rintro u h' ⟨T,rfl,w,rfl,hw,hI1⟩
 rw [ex_inst1] at hI1
 simp only [lC,lN,ex_inst1] at hI1 ⊢
 obtain ⟨ahI1,chI1,rfl,_⟩:=id hI1.form
 refine st_pk2 (a:=T) (b:=G) ?_
 try clear hok
 replace hv:=hv.mono (rd_in (.there .here):∀ p u,Rd G p u→Rd (Res.star [T,G]) p u)
 generalize Res.star [T,G]=G at hv hI1
 refine sM Z (sV (v_extract Z Z) (sV (v_extract Z Z) (sA Z (sA Z (sK [0,1,2,3,5,6] Z (cQ (sM Z (st_clr Z Z en43 Z (lOf_ct) ?_))))))))
 refine st_buildSlice (cells := [.int .i64 4, sv (nB "H"), .slice none 0 0, .bool false, .bool false]) Z Tryz.underlying23 inf25 Z Z (by kernel_rfl) (ltn Z) fun b43 => ?_
 refine st_of1 (sz := 5) (n := 1) [[.int .i64 4, sv (nB "H"), .slice none 0 0, .bool false, .bool false]] Z (by simp) Z (by decide) ?_
 refine st_ok (r := VR (.slice (some ⟨b43, 0, none⟩) 1 1) 25 5 [[.int .i64 4, sv (nB "H"), .slice none 0 0, .bool false, .bool false]]) slq fun hok => ?_
 have hl43 := tys_one (Ty.of (S := G) (us := [.int .i64 4, sv (nB "H"), .slice none 0 0, .bool false, .bool false]) (t := (exF (nB "H"))) rfl Tys.nil) hok
 refine st_pk2 (a := VR (.slice (some ⟨b43, 0, none⟩) 1 1) 25 5 [[.int .i64 4, sv (nB "H"), .slice none 0 0, .bool false, .bool false]]) (b := G) ?_
 try clear hok
 replace hv := hv.mono (rd_in (.there .here) : ∀ p u, Rd G p u → Rd (Res.star [VR (.slice (some ⟨b43, 0, none⟩) 1 1) 25 5 [[.int .i64 4, sv (nB "H"), .slice none 0 0, .bool false, .bool false]], G]) p u)
 replace hI1 := hI1.mono (rd_in (.there .here) : ∀ p u, Rd G p u → Rd (Res.star [VR (.slice (some ⟨b43, 0, none⟩) 1 1) 25 5 [[.int .i64 4, sv (nB "H"), .slice none 0 0, .bool false, .bool false]], G]) p u)
 generalize Res.star [VR (.slice (some ⟨b43, 0, none⟩) 1 1) 25 5 [[.int .i64 4, sv (nB "H"), .slice none 0 0, .bool false, .bool false]], G] = G at hv hI1 hl43
 refine st_clr Z Z en28 Z (lClass_ct) ?_
 refine st_cl Z Z en19 Z (Instance_ct hv htn (Ty.of (S := G) (us := [.int .i64 3, sv (nB "SORTED"), .slice (some ⟨b43, 0, none⟩) 1 1, .bool false, .bool false]) (t := (exT (nB "SORTED") [(exF (nB "H"))])) Z hl43) (nB "LIST")) ?_
 rintro u h' ⟨T,rfl,w,rfl,hw,hI2⟩
 rw [ex_inst2] at hI2
 simp only [lC,lN,ex_inst2] at hI2 ⊢
 obtain ⟨ahI2,chI2,rfl,_⟩:=id hI2.form
 refine st_pk2 (a:=T) (b:=G) ?_
 try clear hok
 replace hv:=hv.mono (rd_in (.there .here):∀ p u,Rd G p u→Rd (Res.star [T,G]) p u)
 replace hI1:=hI1.mono (rd_in (.there .here):∀ p u,Rd G p u→Rd (Res.star [T,G]) p u)
 replace hl43:=hl43.mono (rd_in (.there .here):∀ p u,Rd G p u→Rd (Res.star [T,G]) p u)
 generalize Res.star [T,G]=G at hv hI1 hl43 hI2
 refine sM Z (sV (v_extract Z Z) (sV (v_extract Z Z) (sA Z (sA Z (sK [0,1,2,3,5,6,7,8] Z (cQ (sM Z (st_clr Z Z en28 Z (lClass_ct) ?_))))))))
 refine st_clr Z Z en43 Z (lOf_ct) ?_
 refine st_clr Z Z en44 Z (lVoid_ct) ?_
 refine st_cl Z Z en21 Z (Seen_ct hv htn (Ty.of (S := G) (us := [.int .i64 3, sv (nB "WORDS"), .slice none 0 0, .bool false, .bool false]) (t := (exT (nB "WORDS") [])) Z Tys.nil) (nB "LIST") (Ty.of (S := G) (us := [.int .i64 4, sv (nB "G"), .slice none 0 0, .bool true, .bool false]) (t := (exV (exF (nB "G")))) Z Tys.nil) (by decide +kernel)) ?_
 rintro u h' ⟨T,rfl,ws,rfl,hS⟩
 rw [ex_seen] at hS
 simp only [lC,lN,ex_seen] at hS ⊢
 obtain ⟨q,rfl,hq⟩:=id hS.out
 obtain ⟨qa,qc,rfl,_⟩:=id hq.form
 clear hq
 refine st_pk2 (a:=T) (b:=G) ?_
 try clear hok
 replace hv:=hv.mono (rd_in (.there .here):∀ p u,Rd G p u→Rd (Res.star [T,G]) p u)
 replace hI1:=hI1.mono (rd_in (.there .here):∀ p u,Rd G p u→Rd (Res.star [T,G]) p u)
 replace hl43:=hl43.mono (rd_in (.there .here):∀ p u,Rd G p u→Rd (Res.star [T,G]) p u)
 replace hI2:=hI2.mono (rd_in (.there .here):∀ p u,Rd G p u→Rd (Res.star [T,G]) p u)
 generalize Res.star [T,G]=G at hv hI1 hl43 hI2 hS
 refine sM Z (sV (v_extract Z Z) (sV (v_extract Z Z) (st_alc al25 fun b9=>?_)))
 refine st_stoW (vs:=tyC (exV exText) (.slice qa (exV exText).args.length qc)) Z Z sz25 Z Z ?_
 refine sA Z (sK [0,1,2,3,5,6,7,8,9,10] Z (cQ (sM Z (st_clr Z Z en28 Z (lClass_ct) ?_))))
 refine st_cl Z Z en23 Z (Supers_ct hv htn (nB "WORDS") (Ty.of (S := G) (us := [.int .i64 3, sv (nB "WORDS"), .slice none 0 0, .bool false, .bool false]) (t := (exT (nB "WORDS") [])) Z Tys.nil) (by decide +kernel)) ?_
 rintro u h' ⟨T,rfl,w,rfl,hw,hP⟩
 rw [ex_supers] at hP
 simp only [lC,lN,ex_supers] at hP ⊢
 obtain ⟨pa,pc,rfl,_⟩:=id hP.form
 refine st_pk2 (a:=T) (b:=G) ?_
 try clear hok
 replace hv:=hv.mono (rd_in (.there .here):∀ p u,Rd G p u→Rd (Res.star [T,G]) p u)
 replace hI1:=hI1.mono (rd_in (.there .here):∀ p u,Rd G p u→Rd (Res.star [T,G]) p u)
 replace hl43:=hl43.mono (rd_in (.there .here):∀ p u,Rd G p u→Rd (Res.star [T,G]) p u)
 replace hI2:=hI2.mono (rd_in (.there .here):∀ p u,Rd G p u→Rd (Res.star [T,G]) p u)
 replace hS:=hS.mono (rd_in (.there .here):∀ p u,Rd G p u→Rd (Res.star [T,G]) p u)
 generalize Res.star [T,G]=G at hv hI1 hl43 hI2 hS hP
 refine sM Z (sV (v_extract Z Z) (sV (v_extract Z Z) (sA Z (sA Z (sK [0, 1, 2, 3, 5, 6, 7, 8, 9, 10, 11, 12] Z (cS (cd_draw (ork [(0, 2), (1, 1), (2, 1)] (.two 3 (ork [(4, 1)] (.two 5 (ork [(6, 2), (7, 2), (8, 2), (9, 0), (10, 0), (11, 2)] .nil) 9 (ork [(5, 0), (6, 2), (7, 2), (8, 2), (10, 0), (11, 2)] .nil))) 9 (ork [(3, 0), (4, 1), (5, 0), (6, 2), (7, 2), (8, 2), (10, 0), (11, 2)] .nil))) (fun i => !(Nat.beq i 5 || Nat.beq i 10)) [pt b2 (cl [.int .i64 3, sv (nB "TEXT"), .slice none 0 0, .bool false, .bool false] 25)] mixed (by kernel_rfl) ?_)))))))
 refine dV Z (vM Z) (dr_clr Z Z Z en28 Z (lClass_ct) ?_)
 refine dr_v Z (v_ldn Z ld25 Z rds_pt) ?_
 refine dr_cutK (α := {q : Nat × Option Addr × Nat × Res // (∀ p u, Rd G p u → Rd q.2.2.2 p u) ∧ nmsR q.2.2.2 (.slice q.2.1 3 q.2.2.1) [(nB "WORDS"), (nB "SORTED"), (nB "LIST")]}) (fun q => [(1, .slice (some ⟨bE, 0, none⟩) 6 6), (2, .pointer (some ⟨b2, 0, none⟩)), (3, .int .i64 0), (5, .slice ahI1 [exText].length chI1), (6, .int .i64 0), (7, .slice ahI2 [exF (nB "H")].length chI2), (8, .int .i64 0), (9, .pointer (some ⟨b9, 0, none⟩)), (10, .int .i64 0), (11, .slice pa 4 pc), (12, .int .i64 0), (13, .pointer (some ⟨q.1.1, 0, none⟩)), (14, .int .i64 0)]) (fun q => pt q.1.1 (cl [.int .i64 5, .slice q.1.2.1 3 q.1.2.2.1] 61) :: q.1.2.2.2 :: pt b2 (cl [.int .i64 3, sv (nB "TEXT"), .slice none 0 0, .bool false, .bool false] 25) :: pt b9 (cl (tyC (exV exText) (.slice qa (exV exText).args.length qc)) 25) :: hr) (fun q => ?_) (fun hcont => ?_)
 ·refine nT ?_
  obtain ⟨⟨b13,wa13,wc13,G2⟩,hup,hW1⟩:=q
  dsimp only at hup hW1 ⊢
  replace hv:=hv.mono hup
  replace hI1:=hI1.mono hup
  replace hl43:=hl43.mono hup
  replace hI2:=hI2.mono hup
  replace hS:=hS.mono hup
  replace hP:=hP.mono hup
  clear hup
  generalize G2=G at *
  refine cQ (sM Z (st_clr Z Z en28 Z (lClass_ct) ?_))
  refine st_clr Z Z en28 Z (lClass_ct) ?_
  refine st_buildSlice (cells := [.int .i64 3, sv (nB "COMPARABLE"), .slice none 0 0, .bool false, .bool false]) Z Tryz.underlying23 inf25 Z Z (by kernel_rfl) (ltn Z) fun b75 => ?_
  refine st_of1 (sz := 5) (n := 1) [[.int .i64 3, sv (nB "COMPARABLE"), .slice none 0 0, .bool false, .bool false]] Z (by simp) Z (by decide) ?_
  refine st_ok (r := VR (.slice (some ⟨b75, 0, none⟩) 1 1) 25 5 [[.int .i64 3, sv (nB "COMPARABLE"), .slice none 0 0, .bool false, .bool false]]) slq fun hok => ?_
  have hl75 := tys_one (Ty.of (S := G) (us := [.int .i64 3, sv (nB "COMPARABLE"), .slice none 0 0, .bool false, .bool false]) (t := (exT (nB "COMPARABLE") [])) rfl Tys.nil) hok
  refine st_pk2 (a := VR (.slice (some ⟨b75, 0, none⟩) 1 1) 25 5 [[.int .i64 3, sv (nB "COMPARABLE"), .slice none 0 0, .bool false, .bool false]]) (b := G) ?_
  try clear hok
  replace hv := hv.mono (rd_in (.there .here) : ∀ p u, Rd G p u → Rd (Res.star [VR (.slice (some ⟨b75, 0, none⟩) 1 1) 25 5 [[.int .i64 3, sv (nB "COMPARABLE"), .slice none 0 0, .bool false, .bool false]], G]) p u)
  replace hI1 := hI1.mono (rd_in (.there .here) : ∀ p u, Rd G p u → Rd (Res.star [VR (.slice (some ⟨b75, 0, none⟩) 1 1) 25 5 [[.int .i64 3, sv (nB "COMPARABLE"), .slice none 0 0, .bool false, .bool false]], G]) p u)
  replace hl43 := hl43.mono (rd_in (.there .here) : ∀ p u, Rd G p u → Rd (Res.star [VR (.slice (some ⟨b75, 0, none⟩) 1 1) 25 5 [[.int .i64 3, sv (nB "COMPARABLE"), .slice none 0 0, .bool false, .bool false]], G]) p u)
  replace hI2 := hI2.mono (rd_in (.there .here) : ∀ p u, Rd G p u → Rd (Res.star [VR (.slice (some ⟨b75, 0, none⟩) 1 1) 25 5 [[.int .i64 3, sv (nB "COMPARABLE"), .slice none 0 0, .bool false, .bool false]], G]) p u)
  replace hS := hS.mono (rd_in (.there .here) : ∀ p u, Rd G p u → Rd (Res.star [VR (.slice (some ⟨b75, 0, none⟩) 1 1) 25 5 [[.int .i64 3, sv (nB "COMPARABLE"), .slice none 0 0, .bool false, .bool false]], G]) p u)
  replace hP := hP.mono (rd_in (.there .here) : ∀ p u, Rd G p u → Rd (Res.star [VR (.slice (some ⟨b75, 0, none⟩) 1 1) 25 5 [[.int .i64 3, sv (nB "COMPARABLE"), .slice none 0 0, .bool false, .bool false]], G]) p u)
  replace hW1 := hW1.mono (rd_in (.there .here) : ∀ p u, Rd G p u → Rd (Res.star [VR (.slice (some ⟨b75, 0, none⟩) 1 1) 25 5 [[.int .i64 3, sv (nB "COMPARABLE"), .slice none 0 0, .bool false, .bool false]], G]) p u)
  generalize Res.star [VR (.slice (some ⟨b75, 0, none⟩) 1 1) 25 5 [[.int .i64 3, sv (nB "COMPARABLE"), .slice none 0 0, .bool false, .bool false]], G] = G at hv hI1 hl43 hI2 hS hP hW1 hl75
  refine st_clr Z Z en28 Z (lClass_ct) ?_
  refine st_clr Z Z en44 Z (lVoid_ct) ?_
  refine st_cl Z Z en35 Z (Why_ct hv htn (nB "WORDS") (Ty.of (S := G) (us := [.int .i64 3, sv (nB "WORDS"), .slice none 0 0, .bool false, .bool false]) (t := (exT (nB "WORDS") [])) Z Tys.nil) (Ty.of (S := G) (us := [.int .i64 3, sv (nB "LIST"), .slice (some ⟨b75, 0, none⟩) 1 1, .bool true, .bool false]) (t := (exV (exT (nB "LIST") [(exT (nB "COMPARABLE") [])]))) Z hl75) (by decide +kernel) (by decide +kernel)) ?_
  rintro u h' ⟨T,rfl,w,rfl,hw15,hW2⟩
  have hW2:True:=trivial
  simp only [lC,lN,ex_why2.1,ex_why2.2]
  refine st_pk2 (a:=T) (b:=G) ?_
  try clear hok
  replace hv:=hv.mono (rd_in (.there .here):∀ p u,Rd G p u→Rd (Res.star [T,G]) p u)
  replace hI1:=hI1.mono (rd_in (.there .here):∀ p u,Rd G p u→Rd (Res.star [T,G]) p u)
  replace hl43:=hl43.mono (rd_in (.there .here):∀ p u,Rd G p u→Rd (Res.star [T,G]) p u)
  replace hI2:=hI2.mono (rd_in (.there .here):∀ p u,Rd G p u→Rd (Res.star [T,G]) p u)
  replace hS:=hS.mono (rd_in (.there .here):∀ p u,Rd G p u→Rd (Res.star [T,G]) p u)
  replace hP:=hP.mono (rd_in (.there .here):∀ p u,Rd G p u→Rd (Res.star [T,G]) p u)
  replace hW1:=hW1.mono (rd_in (.there .here):∀ p u,Rd G p u→Rd (Res.star [T,G]) p u)
  replace hl75:=hl75.mono (rd_in (.there .here):∀ p u,Rd G p u→Rd (Res.star [T,G]) p u)
  generalize Res.star [T,G]=G at hv hI1 hl43 hI2 hS hP hW1 hl75
  refine sM Z (sV (v_extract Z Z) (sV (v_extract Z Z) (st_alc al61 fun b15=>?_)))
  refine st_stoW (vs:=[.int .i64 15,w]) Z Z sz61 Z (by simp only [List.all_cons,List.all_nil,hw15]; rfl) ?_
  refine sA Z (sK [1,2,3,5,6,7,8,9,10,11,12,13,14,15,16] Z (cQ (sM Z (st_clr Z Z en43 Z (lOf_ct) ?_))))
  refine st_clr Z Z en28 Z (lClass_ct) ?_
  refine st_cl Z Z en35 Z (Why_ct hv htn (nB "SORTED") (Ty.of (S := G) (us := [.int .i64 4, sv (nB "H"), .slice none 0 0, .bool false, .bool false]) (t := (exF (nB "H"))) Z Tys.nil) (Ty.of (S := G) (us := [.int .i64 3, sv (nB "COMPARABLE"), .slice none 0 0, .bool false, .bool false]) (t := (exT (nB "COMPARABLE") [])) Z Tys.nil) (by decide +kernel) (by decide +kernel)) ?_
  rintro u h' ⟨T,rfl,w,rfl,hw17,hW3⟩
  rw [ex_why3] at hW3
  simp only [lC,lN,ex_why3] at hW3 ⊢
  obtain ⟨wa17,wc17,rfl,_⟩:=id hW3
  refine st_pk2 (a:=T) (b:=G) ?_
  try clear hok
  replace hv:=hv.mono (rd_in (.there .here):∀ p u,Rd G p u→Rd (Res.star [T,G]) p u)
  replace hI1:=hI1.mono (rd_in (.there .here):∀ p u,Rd G p u→Rd (Res.star [T,G]) p u)
  replace hl43:=hl43.mono (rd_in (.there .here):∀ p u,Rd G p u→Rd (Res.star [T,G]) p u)
  replace hI2:=hI2.mono (rd_in (.there .here):∀ p u,Rd G p u→Rd (Res.star [T,G]) p u)
  replace hS:=hS.mono (rd_in (.there .here):∀ p u,Rd G p u→Rd (Res.star [T,G]) p u)
  replace hP:=hP.mono (rd_in (.there .here):∀ p u,Rd G p u→Rd (Res.star [T,G]) p u)
  replace hW1:=hW1.mono (rd_in (.there .here):∀ p u,Rd G p u→Rd (Res.star [T,G]) p u)
  replace hl75:=hl75.mono (rd_in (.there .here):∀ p u,Rd G p u→Rd (Res.star [T,G]) p u)
  generalize Res.star [T,G]=G at hv hI1 hl43 hI2 hS hP hW1 hl75 hW3
  refine sM Z (sV (v_extract Z Z) (sV (v_extract Z Z) (st_alc al61 fun b17=>?_)))
  refine st_stoW Z Z sz61 Z Z ?_
  refine sA Z (sK [1,2,3,5,6,7,8,9,10,11,12,13,14,15,16,17,18] Z (cQ (sM Z (sV (v_build (cells:=[.int .i64 0,sv [],.slice none 0 0,.bool false,.bool false]) Z (fun _=>by kernel_rfl)) ?_))))
  refine sV (v_ldn Z ld25 Z rds_pt) ?_
  refine st_cl Z Z en35 Z (Why_ct hv htn (nB "WORDS") (Ty.of (S := G) (us := [.int .i64 0, sv [], .slice none 0 0, .bool false, .bool false]) (t := zeroT) Z Tys.nil) (Ty.of (S := G) (us := [.int .i64 3, sv (nB "TEXT"), .slice none 0 0, .bool false, .bool false]) (t := exText) Z Tys.nil) (by decide +kernel) (by decide +kernel)) ?_
  rintro u h' ⟨T,rfl,w,rfl,hw19,hW4⟩
  rw [ex_why4] at hW4
  simp only [lC,lN,ex_why4] at hW4 ⊢
  obtain ⟨wa19,wc19,rfl,_⟩:=id hW4
  refine st_pk2 (a:=T) (b:=G) ?_
  try clear hok
  replace hv:=hv.mono (rd_in (.there .here):∀ p u,Rd G p u→Rd (Res.star [T,G]) p u)
  replace hI1:=hI1.mono (rd_in (.there .here):∀ p u,Rd G p u→Rd (Res.star [T,G]) p u)
  replace hl43:=hl43.mono (rd_in (.there .here):∀ p u,Rd G p u→Rd (Res.star [T,G]) p u)
  replace hI2:=hI2.mono (rd_in (.there .here):∀ p u,Rd G p u→Rd (Res.star [T,G]) p u)
  replace hS:=hS.mono (rd_in (.there .here):∀ p u,Rd G p u→Rd (Res.star [T,G]) p u)
  replace hP:=hP.mono (rd_in (.there .here):∀ p u,Rd G p u→Rd (Res.star [T,G]) p u)
  replace hW1:=hW1.mono (rd_in (.there .here):∀ p u,Rd G p u→Rd (Res.star [T,G]) p u)
  replace hl75:=hl75.mono (rd_in (.there .here):∀ p u,Rd G p u→Rd (Res.star [T,G]) p u)
  replace hW3:=hW3.mono (rd_in (.there .here):∀ p u,Rd G p u→Rd (Res.star [T,G]) p u)
  generalize Res.star [T,G]=G at hv hI1 hl43 hI2 hS hP hW1 hl75 hW3
  refine sM Z (sV (v_extract Z Z) (sV (v_extract Z Z) (st_alc al61 fun b19=>?_)))
  refine st_stoW Z Z sz61 Z Z ?_
  refine sA Z (sK [1, 2, 3, 5, 6, 7, 8, 9, 10, 11, 12, 13, 14, 15, 16, 17, 18, 19, 20] Z (cS (cd_draw (ork [(0, 2), (1, 1), (2, 1), (3, 0), (4, 1), (5, 0), (6, 2), (7, 2), (8, 2), (9, 2), (10, 2)] .nil) (fun i => !(Nat.beq i 5)) [pt b2 (cl [.int .i64 3, sv (nB "TEXT"), .slice none 0 0, .bool false, .bool false] 25)] mixed (by kernel_rfl) ?_)))
  refine dV Z (vM Z) (dr_clr Z Z Z en28 Z (lClass_ct) ?_)
  refine dr_v Z (v_ldn Z ld25 Z rds_pt) ?_
  refine dr_eff Z (st_buildSlice (cells := [.int .i64 3, sv (nB "TEXT"), .slice none 0 0, .bool false, .bool false]) Z Tryz.underlying23 inf25 Z Z (by kernel_rfl) (ltn Z) fun b99 => ?_)
  refine st_of1 (sz := 5) (n := 1) [[.int .i64 3, sv (nB "TEXT"), .slice none 0 0, .bool false, .bool false]] Z (by simp) Z (by decide) ?_
  refine st_ok (r := VR (.slice (some ⟨b99, 0, none⟩) 1 1) 25 5 [[.int .i64 3, sv (nB "TEXT"), .slice none 0 0, .bool false, .bool false]]) slq fun hok => ?_
  have hl99 := tys_one (Ty.of (S := G) (us := [.int .i64 3, sv (nB "TEXT"), .slice none 0 0, .bool false, .bool false]) (t := exText) rfl Tys.nil) hok
  refine st_pk2 (a := VR (.slice (some ⟨b99, 0, none⟩) 1 1) 25 5 [[.int .i64 3, sv (nB "TEXT"), .slice none 0 0, .bool false, .bool false]]) (b := G) ?_
  try clear hok
  replace hv := hv.mono (rd_in (.there .here) : ∀ p u, Rd G p u → Rd (Res.star [VR (.slice (some ⟨b99, 0, none⟩) 1 1) 25 5 [[.int .i64 3, sv (nB "TEXT"), .slice none 0 0, .bool false, .bool false]], G]) p u)
  replace hI1 := hI1.mono (rd_in (.there .here) : ∀ p u, Rd G p u → Rd (Res.star [VR (.slice (some ⟨b99, 0, none⟩) 1 1) 25 5 [[.int .i64 3, sv (nB "TEXT"), .slice none 0 0, .bool false, .bool false]], G]) p u)
  replace hl43 := hl43.mono (rd_in (.there .here) : ∀ p u, Rd G p u → Rd (Res.star [VR (.slice (some ⟨b99, 0, none⟩) 1 1) 25 5 [[.int .i64 3, sv (nB "TEXT"), .slice none 0 0, .bool false, .bool false]], G]) p u)
  replace hI2 := hI2.mono (rd_in (.there .here) : ∀ p u, Rd G p u → Rd (Res.star [VR (.slice (some ⟨b99, 0, none⟩) 1 1) 25 5 [[.int .i64 3, sv (nB "TEXT"), .slice none 0 0, .bool false, .bool false]], G]) p u)
  replace hS := hS.mono (rd_in (.there .here) : ∀ p u, Rd G p u → Rd (Res.star [VR (.slice (some ⟨b99, 0, none⟩) 1 1) 25 5 [[.int .i64 3, sv (nB "TEXT"), .slice none 0 0, .bool false, .bool false]], G]) p u)
  replace hP := hP.mono (rd_in (.there .here) : ∀ p u, Rd G p u → Rd (Res.star [VR (.slice (some ⟨b99, 0, none⟩) 1 1) 25 5 [[.int .i64 3, sv (nB "TEXT"), .slice none 0 0, .bool false, .bool false]], G]) p u)
  replace hW1 := hW1.mono (rd_in (.there .here) : ∀ p u, Rd G p u → Rd (Res.star [VR (.slice (some ⟨b99, 0, none⟩) 1 1) 25 5 [[.int .i64 3, sv (nB "TEXT"), .slice none 0 0, .bool false, .bool false]], G]) p u)
  replace hl75 := hl75.mono (rd_in (.there .here) : ∀ p u, Rd G p u → Rd (Res.star [VR (.slice (some ⟨b99, 0, none⟩) 1 1) 25 5 [[.int .i64 3, sv (nB "TEXT"), .slice none 0 0, .bool false, .bool false]], G]) p u)
  replace hW3 := hW3.mono (rd_in (.there .here) : ∀ p u, Rd G p u → Rd (Res.star [VR (.slice (some ⟨b99, 0, none⟩) 1 1) 25 5 [[.int .i64 3, sv (nB "TEXT"), .slice none 0 0, .bool false, .bool false]], G]) p u)
  generalize Res.star [VR (.slice (some ⟨b99, 0, none⟩) 1 1) 25 5 [[.int .i64 3, sv (nB "TEXT"), .slice none 0 0, .bool false, .bool false]], G] = G at hv hI1 hl43 hI2 hS hP hW1 hl75 hW3 hl99
  refine dr_nx ?_
  refine dr_clr Z Z Z en28 Z (lClass_ct) ?_
  refine dr_eff Z (st_cl Z Z en37 Z (Joins_ct hv htn (nB "WORDS") (Ty.of (S := G) (us := [.int .i64 3, sv (nB "WORDS"), .slice none 0 0, .bool false, .bool false]) (t := (exT (nB "WORDS") [])) Z Tys.nil) (Ty.of (S := G) (us := [.int .i64 3, sv (nB "BAG"), .slice (some ⟨b99, 0, none⟩) 1 1, .bool false, .bool false]) (t := (exT (nB "BAG") [exText])) Z hl99) (by decide +kernel) (by decide +kernel)) ?_)
  rintro u h' ⟨T,rfl,w,rfl,hw,hJ1⟩
  rw [ex_joins1] at hJ1
  simp only [lC,lN,ex_joins1] at hJ1 ⊢
  obtain ⟨ahJ1,chJ1,rfl,_⟩:=id hJ1.form
  refine st_pk2 (a:=T) (b:=G) ?_
  try clear hok
  replace hv:=hv.mono (rd_in (.there .here):∀ p u,Rd G p u→Rd (Res.star [T,G]) p u)
  replace hI1:=hI1.mono (rd_in (.there .here):∀ p u,Rd G p u→Rd (Res.star [T,G]) p u)
  replace hl43:=hl43.mono (rd_in (.there .here):∀ p u,Rd G p u→Rd (Res.star [T,G]) p u)
  replace hI2:=hI2.mono (rd_in (.there .here):∀ p u,Rd G p u→Rd (Res.star [T,G]) p u)
  replace hS:=hS.mono (rd_in (.there .here):∀ p u,Rd G p u→Rd (Res.star [T,G]) p u)
  replace hP:=hP.mono (rd_in (.there .here):∀ p u,Rd G p u→Rd (Res.star [T,G]) p u)
  replace hW1:=hW1.mono (rd_in (.there .here):∀ p u,Rd G p u→Rd (Res.star [T,G]) p u)
  replace hl75:=hl75.mono (rd_in (.there .here):∀ p u,Rd G p u→Rd (Res.star [T,G]) p u)
  replace hW3:=hW3.mono (rd_in (.there .here):∀ p u,Rd G p u→Rd (Res.star [T,G]) p u)
  replace hl99:=hl99.mono (rd_in (.there .here):∀ p u,Rd G p u→Rd (Res.star [T,G]) p u)
  generalize Res.star [T,G]=G at hv hI1 hl43 hI2 hS hP hW1 hl75 hW3 hl99 hJ1
  refine dr_nx ?_
  refine dV Z (vM Z) (dV Z (v_extract Z Z) (dV Z (v_extract Z Z) (dV Z (vA Z) (dV Z (vA Z) (dr_nil (nK [1,2,3,5,6,7,8,9,10,11,12,13,14,15,16,17,18,19,20,21,22] Z (nT (cQ (sM Z (st_clr Z Z en28 Z (lClass_ct) ?_))))))))))
  refine st_clr Z Z en28 Z (lClass_ct) ?_
  refine st_buildSlice (cells := [.int .i64 3, sv (nB "COMPARABLE"), .slice none 0 0, .bool false, .bool false]) Z Tryz.underlying23 inf25 Z Z (by kernel_rfl) (ltn Z) fun b108 => ?_
  refine st_of1 (sz := 5) (n := 1) [[.int .i64 3, sv (nB "COMPARABLE"), .slice none 0 0, .bool false, .bool false]] Z (by simp) Z (by decide) ?_
  refine st_ok (r := VR (.slice (some ⟨b108, 0, none⟩) 1 1) 25 5 [[.int .i64 3, sv (nB "COMPARABLE"), .slice none 0 0, .bool false, .bool false]]) slq fun hok => ?_
  have hl108 := tys_one (Ty.of (S := G) (us := [.int .i64 3, sv (nB "COMPARABLE"), .slice none 0 0, .bool false, .bool false]) (t := (exT (nB "COMPARABLE") [])) rfl Tys.nil) hok
  refine st_pk2 (a := VR (.slice (some ⟨b108, 0, none⟩) 1 1) 25 5 [[.int .i64 3, sv (nB "COMPARABLE"), .slice none 0 0, .bool false, .bool false]]) (b := G) ?_
  try clear hok
  replace hv := hv.mono (rd_in (.there .here) : ∀ p u, Rd G p u → Rd (Res.star [VR (.slice (some ⟨b108, 0, none⟩) 1 1) 25 5 [[.int .i64 3, sv (nB "COMPARABLE"), .slice none 0 0, .bool false, .bool false]], G]) p u)
  replace hI1 := hI1.mono (rd_in (.there .here) : ∀ p u, Rd G p u → Rd (Res.star [VR (.slice (some ⟨b108, 0, none⟩) 1 1) 25 5 [[.int .i64 3, sv (nB "COMPARABLE"), .slice none 0 0, .bool false, .bool false]], G]) p u)
  replace hl43 := hl43.mono (rd_in (.there .here) : ∀ p u, Rd G p u → Rd (Res.star [VR (.slice (some ⟨b108, 0, none⟩) 1 1) 25 5 [[.int .i64 3, sv (nB "COMPARABLE"), .slice none 0 0, .bool false, .bool false]], G]) p u)
  replace hI2 := hI2.mono (rd_in (.there .here) : ∀ p u, Rd G p u → Rd (Res.star [VR (.slice (some ⟨b108, 0, none⟩) 1 1) 25 5 [[.int .i64 3, sv (nB "COMPARABLE"), .slice none 0 0, .bool false, .bool false]], G]) p u)
  replace hS := hS.mono (rd_in (.there .here) : ∀ p u, Rd G p u → Rd (Res.star [VR (.slice (some ⟨b108, 0, none⟩) 1 1) 25 5 [[.int .i64 3, sv (nB "COMPARABLE"), .slice none 0 0, .bool false, .bool false]], G]) p u)
  replace hP := hP.mono (rd_in (.there .here) : ∀ p u, Rd G p u → Rd (Res.star [VR (.slice (some ⟨b108, 0, none⟩) 1 1) 25 5 [[.int .i64 3, sv (nB "COMPARABLE"), .slice none 0 0, .bool false, .bool false]], G]) p u)
  replace hW1 := hW1.mono (rd_in (.there .here) : ∀ p u, Rd G p u → Rd (Res.star [VR (.slice (some ⟨b108, 0, none⟩) 1 1) 25 5 [[.int .i64 3, sv (nB "COMPARABLE"), .slice none 0 0, .bool false, .bool false]], G]) p u)
  replace hl75 := hl75.mono (rd_in (.there .here) : ∀ p u, Rd G p u → Rd (Res.star [VR (.slice (some ⟨b108, 0, none⟩) 1 1) 25 5 [[.int .i64 3, sv (nB "COMPARABLE"), .slice none 0 0, .bool false, .bool false]], G]) p u)
  replace hW3 := hW3.mono (rd_in (.there .here) : ∀ p u, Rd G p u → Rd (Res.star [VR (.slice (some ⟨b108, 0, none⟩) 1 1) 25 5 [[.int .i64 3, sv (nB "COMPARABLE"), .slice none 0 0, .bool false, .bool false]], G]) p u)
  replace hl99 := hl99.mono (rd_in (.there .here) : ∀ p u, Rd G p u → Rd (Res.star [VR (.slice (some ⟨b108, 0, none⟩) 1 1) 25 5 [[.int .i64 3, sv (nB "COMPARABLE"), .slice none 0 0, .bool false, .bool false]], G]) p u)
  replace hJ1 := hJ1.mono (rd_in (.there .here) : ∀ p u, Rd G p u → Rd (Res.star [VR (.slice (some ⟨b108, 0, none⟩) 1 1) 25 5 [[.int .i64 3, sv (nB "COMPARABLE"), .slice none 0 0, .bool false, .bool false]], G]) p u)
  generalize Res.star [VR (.slice (some ⟨b108, 0, none⟩) 1 1) 25 5 [[.int .i64 3, sv (nB "COMPARABLE"), .slice none 0 0, .bool false, .bool false]], G] = G at hv hI1 hl43 hI2 hS hP hW1 hl75 hW3 hl99 hJ1 hl108
  refine st_clr Z Z en28 Z (lClass_ct) ?_
  refine st_clr Z Z en44 Z (lVoid_ct) ?_
  refine st_cl Z Z en37 Z (Joins_ct hv htn (nB "WORDS") (Ty.of (S := G) (us := [.int .i64 3, sv (nB "WORDS"), .slice none 0 0, .bool false, .bool false]) (t := (exT (nB "WORDS") [])) Z Tys.nil) (Ty.of (S := G) (us := [.int .i64 3, sv (nB "BAG"), .slice (some ⟨b108, 0, none⟩) 1 1, .bool true, .bool false]) (t := (exV (exT (nB "BAG") [(exT (nB "COMPARABLE") [])]))) Z hl108) (by decide +kernel) (by decide +kernel)) ?_
  rintro u h' ⟨T,rfl,w,rfl,hw,hJ2⟩
  rw [ex_joins2] at hJ2
  simp only [lC,lN,ex_joins2] at hJ2 ⊢
  obtain ⟨ahJ2,chJ2,rfl,_⟩:=id hJ2.form
  refine st_pk2 (a:=T) (b:=G) ?_
  try clear hok
  replace hv:=hv.mono (rd_in (.there .here):∀ p u,Rd G p u→Rd (Res.star [T,G]) p u)
  replace hI1:=hI1.mono (rd_in (.there .here):∀ p u,Rd G p u→Rd (Res.star [T,G]) p u)
  replace hl43:=hl43.mono (rd_in (.there .here):∀ p u,Rd G p u→Rd (Res.star [T,G]) p u)
  replace hI2:=hI2.mono (rd_in (.there .here):∀ p u,Rd G p u→Rd (Res.star [T,G]) p u)
  replace hS:=hS.mono (rd_in (.there .here):∀ p u,Rd G p u→Rd (Res.star [T,G]) p u)
  replace hP:=hP.mono (rd_in (.there .here):∀ p u,Rd G p u→Rd (Res.star [T,G]) p u)
  replace hW1:=hW1.mono (rd_in (.there .here):∀ p u,Rd G p u→Rd (Res.star [T,G]) p u)
  replace hl75:=hl75.mono (rd_in (.there .here):∀ p u,Rd G p u→Rd (Res.star [T,G]) p u)
  replace hW3:=hW3.mono (rd_in (.there .here):∀ p u,Rd G p u→Rd (Res.star [T,G]) p u)
  replace hl99:=hl99.mono (rd_in (.there .here):∀ p u,Rd G p u→Rd (Res.star [T,G]) p u)
  replace hJ1:=hJ1.mono (rd_in (.there .here):∀ p u,Rd G p u→Rd (Res.star [T,G]) p u)
  replace hl108:=hl108.mono (rd_in (.there .here):∀ p u,Rd G p u→Rd (Res.star [T,G]) p u)
  generalize Res.star [T,G]=G at hv hI1 hl43 hI2 hS hP hW1 hl75 hW3 hl99 hJ1 hl108 hJ2
  refine sM Z (sV (v_extract Z Z) (sV (v_extract Z Z) (sA Z (sA Z (sK [1,2,3,5,6,7,8,9,10,11,12,13,14,15,16,17,18,19,20,21,22,23,24] Z (cS (cQ (sM Z (sV (v_neq Z Z) (sM Z (sG Z Z (vM Z) (sG Z Z (v_neq Z Z) ?_))))))))))))
  refine sV (vP Z Z) (sM Z (sG Z Z (vM Z) (sG Z Z (v_neq Z Z) (sV (vP Z Z) (sM Z (sG Z Z (vM Z) (sG Z Z (v_neq Z Z) (sV (vP Z Z) (sM Z (sG Z Z (vM Z) (sG Z Z (v_neq Z Z) (sV (vP Z Z) (sM Z ?_)))))))))))))
  refine sG Z Z (vM Z) (sG Z Z (v_neq Z Z) (sV (vP Z Z) (sM Z (sG Z Z (vM Z) (sG Z Z (v_neq Z Z) (sV (vP Z Z) (sM Z (sG Z Z (vM Z) (sG Z Z (v_neq Z Z) (sV (vP Z Z) (sM Z (sG Z Z (vM Z) (sG Z Z (v_neq Z Z) ?_)))))))))))))
  refine sV (vP Z Z) (sM Z (sG Z Z (vM Z) (sG Z Z (v_neq Z Z) (sV (vP Z Z) (sM Z (sG Z Z (vM Z) (sG Z Z (v_neq Z Z) (sV (vP Z Z) (sK [1,2,5,7,9,11,13,15,17,19,21,23,155] Z (cd_false Z ?_))))))))))
  refine cK (xT (cS (cd_draw (ork [(0, 2), (1, 1), (2, 0), (3, 0), (4, 2), (5, 2), (6, 1), (7, 0), (8, 0), (9, 2), (10, 2), (11, 1), (12, 1), (13, 1), (14, 0), (15, 2), (16, 2), (17, 2), (18, 1), (19, 1), (22, 1)] (.two 20 (ork [(21, 1), (23, 0), (24, 1), (25, 1), (26, 0), (27, 0), (28, 2), (29, 2), (30, 2), (31, 1), (32, 0), (33, 1), (34, 0), (35, 0), (36, 2), (37, 2), (38, 2), (39, 1), (40, 1), (41, 0), (42, 0), (43, 2), (44, 2)] .nil) 23 (ork [(20, 0), (21, 1), (24, 1), (25, 1), (26, 0), (27, 0), (28, 2), (29, 2), (30, 2), (31, 1), (32, 0), (33, 1), (34, 0), (35, 0), (36, 2), (37, 2), (38, 2), (39, 1), (40, 1), (41, 0), (42, 0), (43, 2), (44, 2)] .nil))) (fun i => !(Nat.beq i 2 || Nat.beq i 3 || Nat.beq i 7 || Nat.beq i 8 || Nat.beq i 14 || Nat.beq i 26 || Nat.beq i 27 || Nat.beq i 32 || Nat.beq i 34 || Nat.beq i 35 || Nat.beq i 41 || Nat.beq i 42)) [pt b2 (cl [.int .i64 3, sv (nB "TEXT"), .slice none 0 0, .bool false, .bool false] 25), pt b9 (cl (tyC (exV exText) (.slice qa (exV exText).args.length qc)) 25)] mixed (by kernel_rfl) ?_)))
  refine dV Z (vM Z) (dr_cutK (α := {q : Res // ∀ p u, Rd G p u → Rd q p u}) (fun _ => [(1, .slice (some ⟨bE, 0, none⟩) 6 6), (2, .pointer (some ⟨b2, 0, none⟩)), (13, .pointer (some ⟨b13, 0, none⟩)), (15, .pointer (some ⟨b15, 0, none⟩)), (17, .pointer (some ⟨b17, 0, none⟩)), (19, .pointer (some ⟨b19, 0, none⟩)), (25, .bool true)]) (fun q => q.1 :: pt b2 (cl [.int .i64 3, sv (nB "TEXT"), .slice none 0 0, .bool false, .bool false] 25) :: pt b13 (cl [.int .i64 5, .slice wa13 3 wc13] 61) :: pt b15 (cl [.int .i64 15, w] 61) :: pt b17 (cl [.int .i64 5, .slice wa17 1 wc17] 61) :: pt b19 (cl [.int .i64 11, .slice wa19 0 wc19] 61) :: hr) (fun q => ?_) (fun hcont => ?_))
  ·refine nT ?_
   obtain ⟨G2,hup⟩:=q
   dsimp only at hup ⊢
   replace hv:=hv.mono hup
   replace hW1:=hW1.mono hup
   replace hW3:=hW3.mono hup
   clear hup
   generalize G2=G at *
   refine cQ (sV (vF Z fa61_0 Z) (sV (vY Z ld3) ?_))
   refine sV (v_eql Z Z) (sM Z (sG Z Z (vF Z fa61_1 Z) (sG Z Z (vY Z ld50) ?_)))
   refine st_grd Z Z (st_buildSlice (cells := [sv (nB "WORDS"), sv (nB "SORTED"), sv (nB "LIST")]) Z Tryz.underlying50 inf9 Z Z (by kernel_rfl) (ltn Z) fun b206 => ?_)
   refine st_pv (pv_of (b := b206) (n := 3) (sz := 1) (E := 9) [[sv (nB "WORDS")], [sv (nB "SORTED")], [sv (nB "LIST")]] Z (by simp) Z (by decide)) ?_
   simp only [lC,lN]
   refine st_pv (pv_eq (show VR (.slice (some ⟨b206, 0, none⟩) 3 3) 9 1 [[sv (nB "WORDS")], [sv (nB "SORTED")], [sv (nB "LIST")]] = NR (.slice (some ⟨b206, 0, none⟩) 3 3) [(nB "WORDS"), (nB "SORTED"), (nB "LIST")] from Z)) ?_
   simp only [lC,lN]
   refine st_ok (r := NR (.slice (some ⟨b206, 0, none⟩) 3 3) [(nB "WORDS"), (nB "SORTED"), (nB "LIST")]) slq fun hok => ?_
   have hn206 := (nms_own hok).mono (rd_in .here : ∀ p u, Rd (NR (.slice (some ⟨b206, 0, none⟩) 3 3) [(nB "WORDS"), (nB "SORTED"), (nB "LIST")]) p u → Rd (Res.star [NR (.slice (some ⟨b206, 0, none⟩) 3 3) [(nB "WORDS"), (nB "SORTED"), (nB "LIST")], G]) p u)
   refine st_pv (pv_pack (L := [NR (.slice (some ⟨b206, 0, none⟩) 3 3) [(nB "WORDS"), (nB "SORTED"), (nB "LIST")], G])) ?_
   simp only [lC,lN]
   replace hv := hv.mono (rd_in (.there .here) : ∀ p u, Rd G p u → Rd (Res.star [NR (.slice (some ⟨b206, 0, none⟩) 3 3) [(nB "WORDS"), (nB "SORTED"), (nB "LIST")], G]) p u)
   replace hW1 := hW1.mono (rd_in (.there .here) : ∀ p u, Rd G p u → Rd (Res.star [NR (.slice (some ⟨b206, 0, none⟩) 3 3) [(nB "WORDS"), (nB "SORTED"), (nB "LIST")], G]) p u)
   replace hW3 := hW3.mono (rd_in (.there .here) : ∀ p u, Rd G p u → Rd (Res.star [NR (.slice (some ⟨b206, 0, none⟩) 3 3) [(nB "WORDS"), (nB "SORTED"), (nB "LIST")], G]) p u)
   generalize Res.star [NR (.slice (some ⟨b206, 0, none⟩) 3 3) [(nB "WORDS"), (nB "SORTED"), (nB "LIST")], G] = G at hv hW1 hW3 hn206
   have hcc:=SameWay_ct hW1 hn206
   rw [show decide ([(nB "WORDS"), (nB "SORTED"), (nB "LIST")] = [(nB "WORDS"), (nB "SORTED"), (nB "LIST")]) = true from by decide +kernel] at hcc
   refine st_grd Z Z (st_cl Z Z en39 Z (hcc) ?_)
   rintro u h' ⟨rfl,rfl⟩
   simp only [lC,lN]
   refine sV (vQ Z Z) (sM Z (sG Z Z (vF Z fa61_0 Z) (sG Z Z (vY Z ld3) ?_)))
   refine sG Z Z (v_eql Z Z) (sV (vQ Z Z) (sM Z (sG Z Z (vF Z fa61_0 Z) (sG Z Z (vY Z ld3) ?_))))
   refine sG Z Z (v_eql Z Z) (sV (vQ Z Z) (sM Z (sG Z Z (vF Z fa61_1 Z) (sG Z Z (vY Z ld50) ?_))))
   refine st_grd Z Z (st_buildSlice (cells := [sv (nB "COMPARABLE")]) Z Tryz.underlying50 inf9 Z Z (by kernel_rfl) (ltn Z) fun b222 => ?_)
   refine st_pv (pv_of (b := b222) (n := 1) (sz := 1) (E := 9) [[sv (nB "COMPARABLE")]] Z (by simp) Z (by decide)) ?_
   simp only [lC,lN]
   refine st_pv (pv_eq (show VR (.slice (some ⟨b222, 0, none⟩) 1 1) 9 1 [[sv (nB "COMPARABLE")]] = NR (.slice (some ⟨b222, 0, none⟩) 1 1) [(nB "COMPARABLE")] from Z)) ?_
   simp only [lC,lN]
   refine st_ok (r := NR (.slice (some ⟨b222, 0, none⟩) 1 1) [(nB "COMPARABLE")]) slq fun hok => ?_
   have hn222 := (nms_own hok).mono (rd_in .here : ∀ p u, Rd (NR (.slice (some ⟨b222, 0, none⟩) 1 1) [(nB "COMPARABLE")]) p u → Rd (Res.star [NR (.slice (some ⟨b222, 0, none⟩) 1 1) [(nB "COMPARABLE")], G]) p u)
   refine st_pv (pv_pack (L := [NR (.slice (some ⟨b222, 0, none⟩) 1 1) [(nB "COMPARABLE")], G])) ?_
   simp only [lC,lN]
   replace hv := hv.mono (rd_in (.there .here) : ∀ p u, Rd G p u → Rd (Res.star [NR (.slice (some ⟨b222, 0, none⟩) 1 1) [(nB "COMPARABLE")], G]) p u)
   replace hW3 := hW3.mono (rd_in (.there .here) : ∀ p u, Rd G p u → Rd (Res.star [NR (.slice (some ⟨b222, 0, none⟩) 1 1) [(nB "COMPARABLE")], G]) p u)
   generalize Res.star [NR (.slice (some ⟨b222, 0, none⟩) 1 1) [(nB "COMPARABLE")], G] = G at hv hW3 hn222
   have hcc:=SameWay_ct hW3 hn222
   rw [show decide ([(nB "COMPARABLE")] = [(nB "COMPARABLE")]) = true from by decide +kernel] at hcc
   refine st_grd Z Z (st_cl Z Z en39 Z (hcc) ?_)
   rintro u h' ⟨rfl,rfl⟩
   simp only [lC,lN]
   refine sV (vQ Z Z) (sM Z (sG Z Z (vF Z fa61_0 Z) (sG Z Z (vY Z ld3) ?_)))
   refine sG Z Z (v_eql Z Z) (sV (vQ Z Z) (sA Z (sK [1,2,25,26] Z (cQ (sM Z (sM Z (sG Z Z (vM Z) (sV (vQ Z Z) (sM Z (sG Z Z (vM Z) (sG Z Z (v_ldn Z ld25 Z rds_pt) ?_)))))))))))
   refine st_grd Z Z (st_buildSlice (cells := [.int .i64 3, sv (nB "TEXT"), .slice none 0 0, .bool false, .bool false]) Z Tryz.underlying23 inf25 Z Z (by kernel_rfl) (ltn Z) fun b237 => ?_)
   refine st_of1 (sz := 5) (n := 1) [[.int .i64 3, sv (nB "TEXT"), .slice none 0 0, .bool false, .bool false]] Z (by simp) Z (by decide) ?_
   refine st_ok (r := VR (.slice (some ⟨b237, 0, none⟩) 1 1) 25 5 [[.int .i64 3, sv (nB "TEXT"), .slice none 0 0, .bool false, .bool false]]) slq fun hok => ?_
   have hl237 := tys_one (Ty.of (S := G) (us := [.int .i64 3, sv (nB "TEXT"), .slice none 0 0, .bool false, .bool false]) (t := exText) rfl Tys.nil) hok
   refine st_pk2 (a := VR (.slice (some ⟨b237, 0, none⟩) 1 1) 25 5 [[.int .i64 3, sv (nB "TEXT"), .slice none 0 0, .bool false, .bool false]]) (b := G) ?_
   try clear hok
   replace hv := hv.mono (rd_in (.there .here) : ∀ p u, Rd G p u → Rd (Res.star [VR (.slice (some ⟨b237, 0, none⟩) 1 1) 25 5 [[.int .i64 3, sv (nB "TEXT"), .slice none 0 0, .bool false, .bool false]], G]) p u)
   generalize Res.star [VR (.slice (some ⟨b237, 0, none⟩) 1 1) 25 5 [[.int .i64 3, sv (nB "TEXT"), .slice none 0 0, .bool false, .bool false]], G] = G at hv hl237
   refine st_clrg Z Z Z Z en28 Z (lClass_ct) ?_
   have hcc := KRight_ct hv htn (nB "WORDS") (Ty.of (S := G) (us := [.int .i64 3, sv (nB "SORTED"), .slice (some ⟨b237, 0, none⟩) 1 1, .bool false, .bool false]) (t := (exT (nB "SORTED") [exText])) rfl hl237) (by decide +kernel)
   rw [ex_right1] at hcc
   refine st_grd Z Z (st_cl Z Z en17 Z (hcc) ?_)
   rintro u h' ⟨rfl,rfl⟩
   simp only [lC,lN]
   refine sG Z Z (v_eql Z Z) (sV (vQ Z Z) (sM Z (sG Z Z (vM Z) (sG Z Z (v_ldn Z ld25 Z rds_pt) ?_))))
   refine st_grd Z Z (st_buildSlice (cells := [.int .i64 3, sv (nB "TEXT"), .slice none 0 0, .bool false, .bool false]) Z Tryz.underlying23 inf25 Z Z (by kernel_rfl) (ltn Z) fun b245 => ?_)
   refine st_of1 (sz := 5) (n := 1) [[.int .i64 3, sv (nB "TEXT"), .slice none 0 0, .bool false, .bool false]] Z (by simp) Z (by decide) ?_
   refine st_ok (r := VR (.slice (some ⟨b245, 0, none⟩) 1 1) 25 5 [[.int .i64 3, sv (nB "TEXT"), .slice none 0 0, .bool false, .bool false]]) slq fun hok => ?_
   have hl245 := tys_one (Ty.of (S := G) (us := [.int .i64 3, sv (nB "TEXT"), .slice none 0 0, .bool false, .bool false]) (t := exText) rfl Tys.nil) hok
   refine st_pk2 (a := VR (.slice (some ⟨b245, 0, none⟩) 1 1) 25 5 [[.int .i64 3, sv (nB "TEXT"), .slice none 0 0, .bool false, .bool false]]) (b := G) ?_
   try clear hok
   replace hv := hv.mono (rd_in (.there .here) : ∀ p u, Rd G p u → Rd (Res.star [VR (.slice (some ⟨b245, 0, none⟩) 1 1) 25 5 [[.int .i64 3, sv (nB "TEXT"), .slice none 0 0, .bool false, .bool false]], G]) p u)
   replace hl237 := hl237.mono (rd_in (.there .here) : ∀ p u, Rd G p u → Rd (Res.star [VR (.slice (some ⟨b245, 0, none⟩) 1 1) 25 5 [[.int .i64 3, sv (nB "TEXT"), .slice none 0 0, .bool false, .bool false]], G]) p u)
   generalize Res.star [VR (.slice (some ⟨b245, 0, none⟩) 1 1) 25 5 [[.int .i64 3, sv (nB "TEXT"), .slice none 0 0, .bool false, .bool false]], G] = G at hv hl237 hl245
   refine st_clrg Z Z Z Z en28 Z (lClass_ct) ?_
   refine st_grd Z Z (st_buildSlice (cells := [.int .i64 3, sv (nB "LIST"), .slice (some ⟨b245, 0, none⟩) 1 1, .bool false, .bool false]) Z Tryz.underlying23 inf25 Z Z (by kernel_rfl) (ltn Z) fun b247 => ?_)
   refine st_of1 (sz := 5) (n := 1) [[.int .i64 3, sv (nB "LIST"), .slice (some ⟨b245, 0, none⟩) 1 1, .bool false, .bool false]] Z (by simp) Z (by decide) ?_
   refine st_ok (r := VR (.slice (some ⟨b247, 0, none⟩) 1 1) 25 5 [[.int .i64 3, sv (nB "LIST"), .slice (some ⟨b245, 0, none⟩) 1 1, .bool false, .bool false]]) slq fun hok => ?_
   have hl247 := tys_one (Ty.of (S := G) (us := [.int .i64 3, sv (nB "LIST"), .slice (some ⟨b245, 0, none⟩) 1 1, .bool false, .bool false]) (t := (exT (nB "LIST") [exText])) rfl hl245) hok
   refine st_pk2 (a := VR (.slice (some ⟨b247, 0, none⟩) 1 1) 25 5 [[.int .i64 3, sv (nB "LIST"), .slice (some ⟨b245, 0, none⟩) 1 1, .bool false, .bool false]]) (b := G) ?_
   try clear hok
   replace hv := hv.mono (rd_in (.there .here) : ∀ p u, Rd G p u → Rd (Res.star [VR (.slice (some ⟨b247, 0, none⟩) 1 1) 25 5 [[.int .i64 3, sv (nB "LIST"), .slice (some ⟨b245, 0, none⟩) 1 1, .bool false, .bool false]], G]) p u)
   replace hl237 := hl237.mono (rd_in (.there .here) : ∀ p u, Rd G p u → Rd (Res.star [VR (.slice (some ⟨b247, 0, none⟩) 1 1) 25 5 [[.int .i64 3, sv (nB "LIST"), .slice (some ⟨b245, 0, none⟩) 1 1, .bool false, .bool false]], G]) p u)
   replace hl245 := hl245.mono (rd_in (.there .here) : ∀ p u, Rd G p u → Rd (Res.star [VR (.slice (some ⟨b247, 0, none⟩) 1 1) 25 5 [[.int .i64 3, sv (nB "LIST"), .slice (some ⟨b245, 0, none⟩) 1 1, .bool false, .bool false]], G]) p u)
   generalize Res.star [VR (.slice (some ⟨b247, 0, none⟩) 1 1) 25 5 [[.int .i64 3, sv (nB "LIST"), .slice (some ⟨b245, 0, none⟩) 1 1, .bool false, .bool false]], G] = G at hv hl237 hl245 hl247
   refine st_clrg Z Z Z Z en28 Z (lClass_ct) ?_
   have hcc := KRight_ct hv htn (nB "WORDS") (Ty.of (S := G) (us := [.int .i64 3, sv (nB "SORTED"), .slice (some ⟨b247, 0, none⟩) 1 1, .bool false, .bool false]) (t := (exT (nB "SORTED") [(exT (nB "LIST") [exText])])) rfl hl247) (by decide +kernel)
   rw [ex_right2] at hcc
   refine st_grd Z Z (st_cl Z Z en17 Z (hcc) ?_)
   rintro u h' ⟨rfl,rfl⟩
   simp only [lC,lN]
   refine sG Z Z (v_eql Z Z) (sV (vQ Z Z) (sM Z (sG Z Z (vM Z) (sG Z Z (v_ldn Z ld25 Z rds_pt) ?_))))
   refine st_clrg Z Z Z Z en44 Z (lVoid_ct) ?_
   refine st_grd Z Z (st_buildSlice (cells := [.int .i64 3, sv (nB "TEXT"), .slice none 0 0, .bool true, .bool false]) Z Tryz.underlying23 inf25 Z Z (by kernel_rfl) (ltn Z) fun b256 => ?_)
   refine st_of1 (sz := 5) (n := 1) [[.int .i64 3, sv (nB "TEXT"), .slice none 0 0, .bool true, .bool false]] Z (by simp) Z (by decide) ?_
   refine st_ok (r := VR (.slice (some ⟨b256, 0, none⟩) 1 1) 25 5 [[.int .i64 3, sv (nB "TEXT"), .slice none 0 0, .bool true, .bool false]]) slq fun hok => ?_
   have hl256 := tys_one (Ty.of (S := G) (us := [.int .i64 3, sv (nB "TEXT"), .slice none 0 0, .bool true, .bool false]) (t := (exV exText)) rfl Tys.nil) hok
   refine st_pk2 (a := VR (.slice (some ⟨b256, 0, none⟩) 1 1) 25 5 [[.int .i64 3, sv (nB "TEXT"), .slice none 0 0, .bool true, .bool false]]) (b := G) ?_
   try clear hok
   replace hv := hv.mono (rd_in (.there .here) : ∀ p u, Rd G p u → Rd (Res.star [VR (.slice (some ⟨b256, 0, none⟩) 1 1) 25 5 [[.int .i64 3, sv (nB "TEXT"), .slice none 0 0, .bool true, .bool false]], G]) p u)
   replace hl237 := hl237.mono (rd_in (.there .here) : ∀ p u, Rd G p u → Rd (Res.star [VR (.slice (some ⟨b256, 0, none⟩) 1 1) 25 5 [[.int .i64 3, sv (nB "TEXT"), .slice none 0 0, .bool true, .bool false]], G]) p u)
   replace hl245 := hl245.mono (rd_in (.there .here) : ∀ p u, Rd G p u → Rd (Res.star [VR (.slice (some ⟨b256, 0, none⟩) 1 1) 25 5 [[.int .i64 3, sv (nB "TEXT"), .slice none 0 0, .bool true, .bool false]], G]) p u)
   replace hl247 := hl247.mono (rd_in (.there .here) : ∀ p u, Rd G p u → Rd (Res.star [VR (.slice (some ⟨b256, 0, none⟩) 1 1) 25 5 [[.int .i64 3, sv (nB "TEXT"), .slice none 0 0, .bool true, .bool false]], G]) p u)
   generalize Res.star [VR (.slice (some ⟨b256, 0, none⟩) 1 1) 25 5 [[.int .i64 3, sv (nB "TEXT"), .slice none 0 0, .bool true, .bool false]], G] = G at hv hl237 hl245 hl247 hl256
   refine st_clrg Z Z Z Z en28 Z (lClass_ct) ?_
   have hcc := KRight_ct hv htn (nB "WORDS") (Ty.of (S := G) (us := [.int .i64 3, sv (nB "LIST"), .slice (some ⟨b256, 0, none⟩) 1 1, .bool false, .bool false]) (t := (exT (nB "LIST") [(exV exText)])) rfl hl256) (by decide +kernel)
   rw [ex_right3] at hcc
   refine st_grd Z Z (st_cl Z Z en17 Z (hcc) ?_)
   rintro u h' ⟨rfl,rfl⟩
   simp only [lC,lN]
   refine sG Z Z (v_eql Z Z) (sV (vQ Z Z) (sA Z (sK [0] Z (cT ?_))))
   exact xt_rt Z ⟨Z,Z⟩ sbq
  ·have hup:∀ p u,Rd G p u→Rd G p u:=fun _ _ h=>h
   refine dr_v Z (v_ldn Z ld25 Z rds_pt) ?_
   refine dr_eff Z (st_buildSlice (cells := [.int .i64 3, sv (nB "TEXT"), .slice none 0 0, .bool false, .bool false]) Z Tryz.underlying23 inf25 Z Z (by kernel_rfl) (ltn Z) fun b158 => ?_)
   refine st_of1 (sz := 5) (n := 1) [[.int .i64 3, sv (nB "TEXT"), .slice none 0 0, .bool false, .bool false]] Z (by simp) Z (by decide) ?_
   refine st_ok (r := VR (.slice (some ⟨b158, 0, none⟩) 1 1) 25 5 [[.int .i64 3, sv (nB "TEXT"), .slice none 0 0, .bool false, .bool false]]) slq fun hok => ?_
   have hl158 := tys_one (Ty.of (S := G) (us := [.int .i64 3, sv (nB "TEXT"), .slice none 0 0, .bool false, .bool false]) (t := exText) rfl Tys.nil) hok
   refine st_pk2 (a := VR (.slice (some ⟨b158, 0, none⟩) 1 1) 25 5 [[.int .i64 3, sv (nB "TEXT"), .slice none 0 0, .bool false, .bool false]]) (b := G) ?_
   try clear hok
   replace hI1 := hI1.mono (rd_in (.there .here) : ∀ p u, Rd G p u → Rd (Res.star [VR (.slice (some ⟨b158, 0, none⟩) 1 1) 25 5 [[.int .i64 3, sv (nB "TEXT"), .slice none 0 0, .bool false, .bool false]], G]) p u)
   replace hI2 := hI2.mono (rd_in (.there .here) : ∀ p u, Rd G p u → Rd (Res.star [VR (.slice (some ⟨b158, 0, none⟩) 1 1) 25 5 [[.int .i64 3, sv (nB "TEXT"), .slice none 0 0, .bool false, .bool false]], G]) p u)
   replace hS := hS.mono (rd_in (.there .here) : ∀ p u, Rd G p u → Rd (Res.star [VR (.slice (some ⟨b158, 0, none⟩) 1 1) 25 5 [[.int .i64 3, sv (nB "TEXT"), .slice none 0 0, .bool false, .bool false]], G]) p u)
   replace hP := hP.mono (rd_in (.there .here) : ∀ p u, Rd G p u → Rd (Res.star [VR (.slice (some ⟨b158, 0, none⟩) 1 1) 25 5 [[.int .i64 3, sv (nB "TEXT"), .slice none 0 0, .bool false, .bool false]], G]) p u)
   replace hJ1 := hJ1.mono (rd_in (.there .here) : ∀ p u, Rd G p u → Rd (Res.star [VR (.slice (some ⟨b158, 0, none⟩) 1 1) 25 5 [[.int .i64 3, sv (nB "TEXT"), .slice none 0 0, .bool false, .bool false]], G]) p u)
   replace hJ2 := hJ2.mono (rd_in (.there .here) : ∀ p u, Rd G p u → Rd (Res.star [VR (.slice (some ⟨b158, 0, none⟩) 1 1) 25 5 [[.int .i64 3, sv (nB "TEXT"), .slice none 0 0, .bool false, .bool false]], G]) p u)
   replace hup := fun p u h => (rd_in (.there .here) : ∀ p u, Rd G p u → Rd (Res.star [VR (.slice (some ⟨b158, 0, none⟩) 1 1) 25 5 [[.int .i64 3, sv (nB "TEXT"), .slice none 0 0, .bool false, .bool false]], G]) p u) p u (hup p u h)
   generalize Res.star [VR (.slice (some ⟨b158, 0, none⟩) 1 1) 25 5 [[.int .i64 3, sv (nB "TEXT"), .slice none 0 0, .bool false, .bool false]], G] = G at hI1 hI2 hS hP hJ1 hJ2 hl158 hup
   refine dr_nx ?_ (fun _ _=>Sub.sel (.there (.there (.there (.there (.there .here))))) (Sub.sel (.there (.there (.there (.there (.there .here))))) (Sub.nil _)))
   have hcc:=SameTypes_ct hI1 hl158
   rw [show sames [exText] [exText]=true from by decide +kernel] at hcc
   refine dr_eff Z (st_cl Z Z en25 Z (hcc) ?_)
   rintro u h' ⟨rfl,rfl⟩
   simp only [lC,lN]
   refine dr_nx ?_ (fun _ _=>Sub.sel (.there (.there (.there (.there (.there .here))))) (Sub.sel (.there (.there (.there (.there (.there .here))))) (Sub.nil _)))
   refine dV Z (vM Z) (dp_vg Z Z Z (vM Z) (dr_clrg Z Z Z Z Z en43 Z (lOf_ct) ?_))
   refine dr_effg Z Z Z (st_grd Z Z (st_buildSlice (cells := [.int .i64 4, sv (nB "H"), .slice none 0 0, .bool false, .bool false]) Z Tryz.underlying23 inf25 Z Z (by kernel_rfl) (ltn Z) fun b163 => ?_))
   refine st_of1 (sz := 5) (n := 1) [[.int .i64 4, sv (nB "H"), .slice none 0 0, .bool false, .bool false]] Z (by simp) Z (by decide) ?_
   refine st_ok (r := VR (.slice (some ⟨b163, 0, none⟩) 1 1) 25 5 [[.int .i64 4, sv (nB "H"), .slice none 0 0, .bool false, .bool false]]) slq fun hok => ?_
   have hl163 := tys_one (Ty.of (S := G) (us := [.int .i64 4, sv (nB "H"), .slice none 0 0, .bool false, .bool false]) (t := (exF (nB "H"))) rfl Tys.nil) hok
   refine st_pk2 (a := VR (.slice (some ⟨b163, 0, none⟩) 1 1) 25 5 [[.int .i64 4, sv (nB "H"), .slice none 0 0, .bool false, .bool false]]) (b := G) ?_
   try clear hok
   replace hI2 := hI2.mono (rd_in (.there .here) : ∀ p u, Rd G p u → Rd (Res.star [VR (.slice (some ⟨b163, 0, none⟩) 1 1) 25 5 [[.int .i64 4, sv (nB "H"), .slice none 0 0, .bool false, .bool false]], G]) p u)
   replace hS := hS.mono (rd_in (.there .here) : ∀ p u, Rd G p u → Rd (Res.star [VR (.slice (some ⟨b163, 0, none⟩) 1 1) 25 5 [[.int .i64 4, sv (nB "H"), .slice none 0 0, .bool false, .bool false]], G]) p u)
   replace hP := hP.mono (rd_in (.there .here) : ∀ p u, Rd G p u → Rd (Res.star [VR (.slice (some ⟨b163, 0, none⟩) 1 1) 25 5 [[.int .i64 4, sv (nB "H"), .slice none 0 0, .bool false, .bool false]], G]) p u)
   replace hJ1 := hJ1.mono (rd_in (.there .here) : ∀ p u, Rd G p u → Rd (Res.star [VR (.slice (some ⟨b163, 0, none⟩) 1 1) 25 5 [[.int .i64 4, sv (nB "H"), .slice none 0 0, .bool false, .bool false]], G]) p u)
   replace hJ2 := hJ2.mono (rd_in (.there .here) : ∀ p u, Rd G p u → Rd (Res.star [VR (.slice (some ⟨b163, 0, none⟩) 1 1) 25 5 [[.int .i64 4, sv (nB "H"), .slice none 0 0, .bool false, .bool false]], G]) p u)
   replace hup := fun p u h => (rd_in (.there .here) : ∀ p u, Rd G p u → Rd (Res.star [VR (.slice (some ⟨b163, 0, none⟩) 1 1) 25 5 [[.int .i64 4, sv (nB "H"), .slice none 0 0, .bool false, .bool false]], G]) p u) p u (hup p u h)
   generalize Res.star [VR (.slice (some ⟨b163, 0, none⟩) 1 1) 25 5 [[.int .i64 4, sv (nB "H"), .slice none 0 0, .bool false, .bool false]], G] = G at hI2 hS hP hJ1 hJ2 hl163 hup
   refine dr_nx ?_ (fun _ _=>Sub.sel (.there (.there (.there (.there (.there .here))))) (Sub.sel (.there (.there (.there (.there (.there .here))))) (Sub.nil _)))
   have hcc:=SameTypes_ct hI2 hl163
   rw [show sames [exF (nB "H")] [exF (nB "H")] = true from by decide +kernel] at hcc
   refine dr_effg Z Z Z (st_grd Z Z (st_cl Z Z en25 Z (hcc) ?_))
   rintro u h' ⟨rfl,rfl⟩
   simp only [lC,lN]
   refine dr_nx ?_ (fun _ _=>Sub.sel (.there (.there (.there (.there (.there .here))))) (Sub.sel (.there (.there (.there (.there (.there .here))))) (Sub.nil _)))
   refine dV Z (vQ Z Z) (dV Z (vM Z) (dr_vg Z Z Z (v_ldn Z ld25 Z rds_pt) ?_))
   refine dr_vg Z Z Z (v_ldn Z ld25 Z rds_pt) ?_
   refine dr_clrg Z Z Z Z Z en44 Z (lVoid_ct) ?_
   have hcc := sameR_ct hS (Ty.of (S := G) (us := [.int .i64 3, sv (nB "TEXT"), .slice none 0 0, .bool true, .bool false]) (t := (exV exText)) rfl Tys.nil)
   rw [show (exV exText).same (exV exText)=true from by decide +kernel] at hcc
   refine dr_effg Z Z Z (st_grd Z Z (st_cl Z Z en16 Z (hcc) ?_))
   rintro u h' ⟨rfl,rfl⟩
   simp only [lC,lN]
   refine dr_nx ?_ (fun _ _=>Sub.sel (.there (.there (.there (.there (.there .here))))) (Sub.sel (.there (.there (.there (.there (.there .here))))) (Sub.nil _)))
   refine dV Z (vQ Z Z) (dV Z (vM Z) (dp_vg Z Z Z (vM Z) (dr_clrg Z Z Z Z Z en28 Z (lClass_ct) ?_)))
   refine dr_vg Z Z Z (v_ldn Z ld25 Z rds_pt) ?_
   refine dr_vg Z Z Z (v_ldn Z ld25 Z rds_pt) ?_
   refine dr_cutD (t' := (ork [(24, 1), (25, 1), (26, 0), (27, 0), (28, 2), (29, 2), (30, 2), (31, 1), (32, 0), (33, 1), (34, 0), (35, 0), (36, 2), (37, 2), (38, 2), (39, 1), (40, 1), (41, 0), (42, 0), (43, 2), (44, 2)] .nil)) (α := {q : Nat × Nat × Res // (∀ p u, Rd G p u → Rd q.2.2 p u) ∧ Tys q.2.2 (.slice (some ⟨q.1, 0, none⟩) 1 1) [exText] ∧ Tys q.2.2 (.slice (some ⟨q.2.1, 0, none⟩) 1 1) [exText]}) (fun q => [(1, .slice (some ⟨bE, 0, none⟩) 6 6), (2, .pointer (some ⟨b2, 0, none⟩)), (13, .pointer (some ⟨b13, 0, none⟩)), (15, .pointer (some ⟨b15, 0, none⟩)), (17, .pointer (some ⟨b17, 0, none⟩)), (19, .pointer (some ⟨b19, 0, none⟩)), (21, .slice ahJ1 1 chJ1), (23, .slice ahJ2 1 chJ2), (172, .bool true), (173, .slice pa 4 pc), (174, .agg #[.int .i64 3, sv (nB "WORDS"), .slice none 0 0, .bool false, .bool false]), (175, .agg #[.int .i64 3, sv (nB "TEXT"), .slice none 0 0, .bool false, .bool false]), (177, .agg #[.int .i64 3, sv (nB "SORTED"), .slice (some ⟨q.1.1, 0, none⟩) 1 1, .bool false, .bool false]), (178, .agg #[.int .i64 3, sv (nB "TEXT"), .slice none 0 0, .bool false, .bool false]), (179, .slice (some ⟨q.1.2.1, 0, none⟩) 1 1)]) (fun q => q.1.2.2 :: pt b19 (cl [.int .i64 11, .slice wa19 0 wc19] 61) :: pt b17 (cl [.int .i64 5, .slice wa17 1 wc17] 61) :: pt b15 (cl [.int .i64 15, w] 61) :: pt b13 (cl [.int .i64 5, .slice wa13 3 wc13] 61) :: pt b2 (cl [.int .i64 3, sv (nB "TEXT"), .slice none 0 0, .bool false, .bool false] 25) :: pt b9 (cl (tyC (exV exText) (.slice qa (exV exText).args.length qc)) 25) :: hr) (fun hcont => ?_) (fun q => ?_)
   ·have hup0:=hup
    have hupD:∀ p u,Rd G p u→Rd G p u:=fun _ _ h=>h
    refine dr_twog Z Z Z Z Z Z ?_ ?_
    ·refine st_grd Z Z (st_buildSlice (cells := [.int .i64 3, sv (nB "TEXT"), .slice none 0 0, .bool false, .bool false]) Z Tryz.underlying23 inf25 Z Z (by kernel_rfl) (ltn Z) fun b176 => ?_)
     refine st_of1 (sz := 5) (n := 1) [[.int .i64 3, sv (nB "TEXT"), .slice none 0 0, .bool false, .bool false]] Z (by simp) Z (by decide) ?_
     refine st_ok (r := VR (.slice (some ⟨b176, 0, none⟩) 1 1) 25 5 [[.int .i64 3, sv (nB "TEXT"), .slice none 0 0, .bool false, .bool false]]) slq fun hok => ?_
     have hl176 := tys_one (Ty.of (S := G) (us := [.int .i64 3, sv (nB "TEXT"), .slice none 0 0, .bool false, .bool false]) (t := exText) rfl Tys.nil) hok
     refine st_pk2 (a := VR (.slice (some ⟨b176, 0, none⟩) 1 1) 25 5 [[.int .i64 3, sv (nB "TEXT"), .slice none 0 0, .bool false, .bool false]]) (b := G) ?_
     try clear hok
     replace hupD := fun p u h => (rd_in (.there .here) : ∀ p u, Rd G p u → Rd (Res.star [VR (.slice (some ⟨b176, 0, none⟩) 1 1) 25 5 [[.int .i64 3, sv (nB "TEXT"), .slice none 0 0, .bool false, .bool false]], G]) p u) p u (hupD p u h)
     generalize Res.star [VR (.slice (some ⟨b176, 0, none⟩) 1 1) 25 5 [[.int .i64 3, sv (nB "TEXT"), .slice none 0 0, .bool false, .bool false]], G] = G at hl176 hupD
     refine dr_nx ?_ (fun _ _=>Sub.sel (.there (.there (.there (.there (.there .here))))) (Sub.sel (.there (.there (.there (.there (.there .here))))) (Sub.nil _)))
     refine dr_clrg Z Z Z Z Z en28 Z (lClass_ct) ?_
     refine dr_effg Z Z Z (st_grd Z Z (st_buildSlice (cells := [.int .i64 3, sv (nB "TEXT"), .slice none 0 0, .bool false, .bool false]) Z Tryz.underlying23 inf25 Z Z (by kernel_rfl) (ltn Z) fun b179 => ?_))
     refine st_of1 (sz := 5) (n := 1) [[.int .i64 3, sv (nB "TEXT"), .slice none 0 0, .bool false, .bool false]] Z (by simp) Z (by decide) ?_
     refine st_ok (r := VR (.slice (some ⟨b179, 0, none⟩) 1 1) 25 5 [[.int .i64 3, sv (nB "TEXT"), .slice none 0 0, .bool false, .bool false]]) slq fun hok => ?_
     have hl179 := tys_one (Ty.of (S := G) (us := [.int .i64 3, sv (nB "TEXT"), .slice none 0 0, .bool false, .bool false]) (t := exText) rfl Tys.nil) hok
     refine st_pk2 (a := VR (.slice (some ⟨b179, 0, none⟩) 1 1) 25 5 [[.int .i64 3, sv (nB "TEXT"), .slice none 0 0, .bool false, .bool false]]) (b := G) ?_
     try clear hok
     replace hl176 := hl176.mono (rd_in (.there .here) : ∀ p u, Rd G p u → Rd (Res.star [VR (.slice (some ⟨b179, 0, none⟩) 1 1) 25 5 [[.int .i64 3, sv (nB "TEXT"), .slice none 0 0, .bool false, .bool false]], G]) p u)
     replace hupD := fun p u h => (rd_in (.there .here) : ∀ p u, Rd G p u → Rd (Res.star [VR (.slice (some ⟨b179, 0, none⟩) 1 1) 25 5 [[.int .i64 3, sv (nB "TEXT"), .slice none 0 0, .bool false, .bool false]], G]) p u) p u (hupD p u h)
     generalize Res.star [VR (.slice (some ⟨b179, 0, none⟩) 1 1) 25 5 [[.int .i64 3, sv (nB "TEXT"), .slice none 0 0, .bool false, .bool false]], G] = G at hl176 hl179 hupD
     refine dr_nx ?_ (fun _ _=>Sub.sel (.there (.there (.there (.there (.there .here))))) (Sub.sel (.there (.there (.there (.there (.there .here))))) (Sub.nil _)))
     exact hcont ⟨(b176,b179,G),hupD,hl176,hl179⟩ _ ⟨Z,Z,Z,Z,Z,Z,Z,Z,Z,Z,Z,Z,Z,Z,Z,trivial⟩
    ·refine st_grd Z Z (st_buildSlice (cells := [.int .i64 3, sv (nB "TEXT"), .slice none 0 0, .bool false, .bool false]) Z Tryz.underlying23 inf25 Z Z (by kernel_rfl) (ltn Z) fun b179 => ?_)
     refine st_of1 (sz := 5) (n := 1) [[.int .i64 3, sv (nB "TEXT"), .slice none 0 0, .bool false, .bool false]] Z (by simp) Z (by decide) ?_
     refine st_ok (r := VR (.slice (some ⟨b179, 0, none⟩) 1 1) 25 5 [[.int .i64 3, sv (nB "TEXT"), .slice none 0 0, .bool false, .bool false]]) slq fun hok => ?_
     have hl179 := tys_one (Ty.of (S := G) (us := [.int .i64 3, sv (nB "TEXT"), .slice none 0 0, .bool false, .bool false]) (t := exText) rfl Tys.nil) hok
     refine st_pk2 (a := VR (.slice (some ⟨b179, 0, none⟩) 1 1) 25 5 [[.int .i64 3, sv (nB "TEXT"), .slice none 0 0, .bool false, .bool false]]) (b := G) ?_
     try clear hok
     replace hupD := fun p u h => (rd_in (.there .here) : ∀ p u, Rd G p u → Rd (Res.star [VR (.slice (some ⟨b179, 0, none⟩) 1 1) 25 5 [[.int .i64 3, sv (nB "TEXT"), .slice none 0 0, .bool false, .bool false]], G]) p u) p u (hupD p u h)
     generalize Res.star [VR (.slice (some ⟨b179, 0, none⟩) 1 1) 25 5 [[.int .i64 3, sv (nB "TEXT"), .slice none 0 0, .bool false, .bool false]], G] = G at hl179 hupD
     refine dr_nx ?_ (fun _ _=>Sub.sel (.there (.there (.there (.there (.there .here))))) (Sub.sel (.there (.there (.there (.there (.there .here))))) (Sub.nil _)))
     refine dr_effg Z Z Z (st_grd Z Z (st_buildSlice (cells := [.int .i64 3, sv (nB "TEXT"), .slice none 0 0, .bool false, .bool false]) Z Tryz.underlying23 inf25 Z Z (by kernel_rfl) (ltn Z) fun b176 => ?_))
     refine st_of1 (sz := 5) (n := 1) [[.int .i64 3, sv (nB "TEXT"), .slice none 0 0, .bool false, .bool false]] Z (by simp) Z (by decide) ?_
     refine st_ok (r := VR (.slice (some ⟨b176, 0, none⟩) 1 1) 25 5 [[.int .i64 3, sv (nB "TEXT"), .slice none 0 0, .bool false, .bool false]]) slq fun hok => ?_
     have hl176 := tys_one (Ty.of (S := G) (us := [.int .i64 3, sv (nB "TEXT"), .slice none 0 0, .bool false, .bool false]) (t := exText) rfl Tys.nil) hok
     refine st_pk2 (a := VR (.slice (some ⟨b176, 0, none⟩) 1 1) 25 5 [[.int .i64 3, sv (nB "TEXT"), .slice none 0 0, .bool false, .bool false]]) (b := G) ?_
     try clear hok
     replace hl179 := hl179.mono (rd_in (.there .here) : ∀ p u, Rd G p u → Rd (Res.star [VR (.slice (some ⟨b176, 0, none⟩) 1 1) 25 5 [[.int .i64 3, sv (nB "TEXT"), .slice none 0 0, .bool false, .bool false]], G]) p u)
     replace hupD := fun p u h => (rd_in (.there .here) : ∀ p u, Rd G p u → Rd (Res.star [VR (.slice (some ⟨b176, 0, none⟩) 1 1) 25 5 [[.int .i64 3, sv (nB "TEXT"), .slice none 0 0, .bool false, .bool false]], G]) p u) p u (hupD p u h)
     generalize Res.star [VR (.slice (some ⟨b176, 0, none⟩) 1 1) 25 5 [[.int .i64 3, sv (nB "TEXT"), .slice none 0 0, .bool false, .bool false]], G] = G at hl179 hl176 hupD
     refine dr_nx ?_ (fun _ _=>Sub.sel (.there (.there (.there (.there (.there .here))))) (Sub.sel (.there (.there (.there (.there (.there .here))))) (Sub.nil _)))
     refine dr_clrg Z Z Z Z Z en28 Z (lClass_ct) ?_
     exact hcont ⟨(b176,b179,G),hupD,hl176,hl179⟩ _ ⟨Z,Z,Z,Z,Z,Z,Z,Z,Z,Z,Z,Z,Z,Z,Z,trivial⟩
   ·obtain ⟨⟨b176,b179,G2⟩,hupD,hl176,hl179⟩:=q
    dsimp only at hupD hl176 hl179 ⊢
    replace hP:=hP.mono hupD
    replace hJ1:=hJ1.mono hupD
    replace hJ2:=hJ2.mono hupD
    replace hup:=fun p u h=>hupD p u (hup p u h)
    clear hupD
    generalize G2=G at hP hJ1 hJ2 hup hl176 hl179
    refine dr_clrg Z Z Z Z Z en28 Z (lClass_ct) ?_
    refine dr_clrg Z Z Z Z Z en28 Z (lClass_ct) ?_
    refine dr_effg Z Z Z (st_grd Z Z (st_buildSlice (cells := [.int .i64 3, sv (nB "WORDS"), .slice none 0 0, .bool false, .bool false] ++ [.int .i64 3, sv (nB "SORTED"), .slice (some ⟨b176, 0, none⟩) 1 1, .bool false, .bool false] ++ [.int .i64 3, sv (nB "LIST"), .slice (some ⟨b179, 0, none⟩) 1 1, .bool false, .bool false] ++ [.int .i64 3, sv root, .slice none 0 0, .bool false, .bool false]) Z Tryz.underlying23 inf25 Z Z (by kernel_rfl) (ltn Z) fun b182 => ?_))
    refine st_of1 (sz := 5) (n := 4) [[.int .i64 3, sv (nB "WORDS"), .slice none 0 0, .bool false, .bool false], [.int .i64 3, sv (nB "SORTED"), .slice (some ⟨b176, 0, none⟩) 1 1, .bool false, .bool false], [.int .i64 3, sv (nB "LIST"), .slice (some ⟨b179, 0, none⟩) 1 1, .bool false, .bool false], [.int .i64 3, sv root, .slice none 0 0, .bool false, .bool false]] Z (by simp) Z (by decide) ?_
    refine st_ok (r := VR (.slice (some ⟨b182, 0, none⟩) 4 4) 25 5 [[.int .i64 3, sv (nB "WORDS"), .slice none 0 0, .bool false, .bool false], [.int .i64 3, sv (nB "SORTED"), .slice (some ⟨b176, 0, none⟩) 1 1, .bool false, .bool false], [.int .i64 3, sv (nB "LIST"), .slice (some ⟨b179, 0, none⟩) 1 1, .bool false, .bool false], [.int .i64 3, sv root, .slice none 0 0, .bool false, .bool false]]) slq fun hok => ?_
    have hl182 := tys_four (Ty.of (S := G) (us := [.int .i64 3, sv (nB "WORDS"), .slice none 0 0, .bool false, .bool false]) (t := (exT (nB "WORDS") [])) rfl Tys.nil) (Ty.of (S := G) (us := [.int .i64 3, sv (nB "SORTED"), .slice (some ⟨b176, 0, none⟩) 1 1, .bool false, .bool false]) (t := (exT (nB "SORTED") [exText])) rfl hl176) (Ty.of (S := G) (us := [.int .i64 3, sv (nB "LIST"), .slice (some ⟨b179, 0, none⟩) 1 1, .bool false, .bool false]) (t := (exT (nB "LIST") [exText])) rfl hl179) (Ty.of (S := G) (us := [.int .i64 3, sv root, .slice none 0 0, .bool false, .bool false]) (t := (exT root [])) rfl Tys.nil) hok
    refine st_pk2 (a := VR (.slice (some ⟨b182, 0, none⟩) 4 4) 25 5 [[.int .i64 3, sv (nB "WORDS"), .slice none 0 0, .bool false, .bool false], [.int .i64 3, sv (nB "SORTED"), .slice (some ⟨b176, 0, none⟩) 1 1, .bool false, .bool false], [.int .i64 3, sv (nB "LIST"), .slice (some ⟨b179, 0, none⟩) 1 1, .bool false, .bool false], [.int .i64 3, sv root, .slice none 0 0, .bool false, .bool false]]) (b := G) ?_
    try clear hok
    replace hP := hP.mono (rd_in (.there .here) : ∀ p u, Rd G p u → Rd (Res.star [VR (.slice (some ⟨b182, 0, none⟩) 4 4) 25 5 [[.int .i64 3, sv (nB "WORDS"), .slice none 0 0, .bool false, .bool false], [.int .i64 3, sv (nB "SORTED"), .slice (some ⟨b176, 0, none⟩) 1 1, .bool false, .bool false], [.int .i64 3, sv (nB "LIST"), .slice (some ⟨b179, 0, none⟩) 1 1, .bool false, .bool false], [.int .i64 3, sv root, .slice none 0 0, .bool false, .bool false]], G]) p u)
    replace hJ1 := hJ1.mono (rd_in (.there .here) : ∀ p u, Rd G p u → Rd (Res.star [VR (.slice (some ⟨b182, 0, none⟩) 4 4) 25 5 [[.int .i64 3, sv (nB "WORDS"), .slice none 0 0, .bool false, .bool false], [.int .i64 3, sv (nB "SORTED"), .slice (some ⟨b176, 0, none⟩) 1 1, .bool false, .bool false], [.int .i64 3, sv (nB "LIST"), .slice (some ⟨b179, 0, none⟩) 1 1, .bool false, .bool false], [.int .i64 3, sv root, .slice none 0 0, .bool false, .bool false]], G]) p u)
    replace hJ2 := hJ2.mono (rd_in (.there .here) : ∀ p u, Rd G p u → Rd (Res.star [VR (.slice (some ⟨b182, 0, none⟩) 4 4) 25 5 [[.int .i64 3, sv (nB "WORDS"), .slice none 0 0, .bool false, .bool false], [.int .i64 3, sv (nB "SORTED"), .slice (some ⟨b176, 0, none⟩) 1 1, .bool false, .bool false], [.int .i64 3, sv (nB "LIST"), .slice (some ⟨b179, 0, none⟩) 1 1, .bool false, .bool false], [.int .i64 3, sv root, .slice none 0 0, .bool false, .bool false]], G]) p u)
    replace hl176 := hl176.mono (rd_in (.there .here) : ∀ p u, Rd G p u → Rd (Res.star [VR (.slice (some ⟨b182, 0, none⟩) 4 4) 25 5 [[.int .i64 3, sv (nB "WORDS"), .slice none 0 0, .bool false, .bool false], [.int .i64 3, sv (nB "SORTED"), .slice (some ⟨b176, 0, none⟩) 1 1, .bool false, .bool false], [.int .i64 3, sv (nB "LIST"), .slice (some ⟨b179, 0, none⟩) 1 1, .bool false, .bool false], [.int .i64 3, sv root, .slice none 0 0, .bool false, .bool false]], G]) p u)
    replace hl179 := hl179.mono (rd_in (.there .here) : ∀ p u, Rd G p u → Rd (Res.star [VR (.slice (some ⟨b182, 0, none⟩) 4 4) 25 5 [[.int .i64 3, sv (nB "WORDS"), .slice none 0 0, .bool false, .bool false], [.int .i64 3, sv (nB "SORTED"), .slice (some ⟨b176, 0, none⟩) 1 1, .bool false, .bool false], [.int .i64 3, sv (nB "LIST"), .slice (some ⟨b179, 0, none⟩) 1 1, .bool false, .bool false], [.int .i64 3, sv root, .slice none 0 0, .bool false, .bool false]], G]) p u)
    replace hup := fun p u h => (rd_in (.there .here) : ∀ p u, Rd G p u → Rd (Res.star [VR (.slice (some ⟨b182, 0, none⟩) 4 4) 25 5 [[.int .i64 3, sv (nB "WORDS"), .slice none 0 0, .bool false, .bool false], [.int .i64 3, sv (nB "SORTED"), .slice (some ⟨b176, 0, none⟩) 1 1, .bool false, .bool false], [.int .i64 3, sv (nB "LIST"), .slice (some ⟨b179, 0, none⟩) 1 1, .bool false, .bool false], [.int .i64 3, sv root, .slice none 0 0, .bool false, .bool false]], G]) p u) p u (hup p u h)
    generalize Res.star [VR (.slice (some ⟨b182, 0, none⟩) 4 4) 25 5 [[.int .i64 3, sv (nB "WORDS"), .slice none 0 0, .bool false, .bool false], [.int .i64 3, sv (nB "SORTED"), .slice (some ⟨b176, 0, none⟩) 1 1, .bool false, .bool false], [.int .i64 3, sv (nB "LIST"), .slice (some ⟨b179, 0, none⟩) 1 1, .bool false, .bool false], [.int .i64 3, sv root, .slice none 0 0, .bool false, .bool false]], G] = G at hP hJ1 hJ2 hl176 hl179 hl182 hup
    refine dr_nx ?_ (fun _ _=>Sub.sel (.there (.there (.there (.there (.there .here))))) (Sub.sel (.there (.there (.there (.there (.there .here))))) (Sub.nil _)))
    have hcc:=SameTypes_ct hP hl182
    rw [show sames [exT (nB "WORDS") [], exT (nB "SORTED") [exText], exT (nB "LIST") [exText], exT root []] [exT (nB "WORDS") [], exT (nB "SORTED") [exText], exT (nB "LIST") [exText], exT root []] = true from by decide +kernel] at hcc
    refine dr_effg Z Z Z (st_grd Z Z (st_cl Z Z en25 Z (hcc) ?_))
    rintro u h' ⟨rfl,rfl⟩
    simp only [lC,lN]
    refine dr_nx ?_ (fun _ _=>Sub.sel (.there (.there (.there (.there (.there .here))))) (Sub.sel (.there (.there (.there (.there (.there .here))))) (Sub.nil _)))
    refine dV Z (vQ Z Z) (dV Z (vM Z) (dp_vg Z Z Z (vM Z) (dr_vg Z Z Z (v_ldn Z ld25 Z rds_pt) ?_)))
    refine dr_effg Z Z Z (st_grd Z Z (st_buildSlice (cells := [.int .i64 3, sv (nB "TEXT"), .slice none 0 0, .bool false, .bool false]) Z Tryz.underlying23 inf25 Z Z (by kernel_rfl) (ltn Z) fun b188 => ?_))
    refine st_of1 (sz := 5) (n := 1) [[.int .i64 3, sv (nB "TEXT"), .slice none 0 0, .bool false, .bool false]] Z (by simp) Z (by decide) ?_
    refine st_ok (r := VR (.slice (some ⟨b188, 0, none⟩) 1 1) 25 5 [[.int .i64 3, sv (nB "TEXT"), .slice none 0 0, .bool false, .bool false]]) slq fun hok => ?_
    have hl188 := tys_one (Ty.of (S := G) (us := [.int .i64 3, sv (nB "TEXT"), .slice none 0 0, .bool false, .bool false]) (t := exText) rfl Tys.nil) hok
    refine st_pk2 (a := VR (.slice (some ⟨b188, 0, none⟩) 1 1) 25 5 [[.int .i64 3, sv (nB "TEXT"), .slice none 0 0, .bool false, .bool false]]) (b := G) ?_
    try clear hok
    replace hJ1 := hJ1.mono (rd_in (.there .here) : ∀ p u, Rd G p u → Rd (Res.star [VR (.slice (some ⟨b188, 0, none⟩) 1 1) 25 5 [[.int .i64 3, sv (nB "TEXT"), .slice none 0 0, .bool false, .bool false]], G]) p u)
    replace hJ2 := hJ2.mono (rd_in (.there .here) : ∀ p u, Rd G p u → Rd (Res.star [VR (.slice (some ⟨b188, 0, none⟩) 1 1) 25 5 [[.int .i64 3, sv (nB "TEXT"), .slice none 0 0, .bool false, .bool false]], G]) p u)
    replace hup := fun p u h => (rd_in (.there .here) : ∀ p u, Rd G p u → Rd (Res.star [VR (.slice (some ⟨b188, 0, none⟩) 1 1) 25 5 [[.int .i64 3, sv (nB "TEXT"), .slice none 0 0, .bool false, .bool false]], G]) p u) p u (hup p u h)
    generalize Res.star [VR (.slice (some ⟨b188, 0, none⟩) 1 1) 25 5 [[.int .i64 3, sv (nB "TEXT"), .slice none 0 0, .bool false, .bool false]], G] = G at hJ1 hJ2 hl188 hup
    refine dr_nx ?_ (fun _ _=>Sub.sel (.there (.there (.there (.there (.there .here))))) (Sub.sel (.there (.there (.there (.there (.there .here))))) (Sub.nil _)))
    refine dr_clrg Z Z Z Z Z en28 Z (lClass_ct) ?_
    refine dr_effg Z Z Z (st_grd Z Z (st_buildSlice (cells := [.int .i64 3, sv (nB "LIST"), .slice (some ⟨b188, 0, none⟩) 1 1, .bool false, .bool false]) Z Tryz.underlying23 inf25 Z Z (by kernel_rfl) (ltn Z) fun b190 => ?_))
    refine st_of1 (sz := 5) (n := 1) [[.int .i64 3, sv (nB "LIST"), .slice (some ⟨b188, 0, none⟩) 1 1, .bool false, .bool false]] Z (by simp) Z (by decide) ?_
    refine st_ok (r := VR (.slice (some ⟨b190, 0, none⟩) 1 1) 25 5 [[.int .i64 3, sv (nB "LIST"), .slice (some ⟨b188, 0, none⟩) 1 1, .bool false, .bool false]]) slq fun hok => ?_
    have hl190 := tys_one (Ty.of (S := G) (us := [.int .i64 3, sv (nB "LIST"), .slice (some ⟨b188, 0, none⟩) 1 1, .bool false, .bool false]) (t := (exT (nB "LIST") [exText])) rfl hl188) hok
    refine st_pk2 (a := VR (.slice (some ⟨b190, 0, none⟩) 1 1) 25 5 [[.int .i64 3, sv (nB "LIST"), .slice (some ⟨b188, 0, none⟩) 1 1, .bool false, .bool false]]) (b := G) ?_
    try clear hok
    replace hJ1 := hJ1.mono (rd_in (.there .here) : ∀ p u, Rd G p u → Rd (Res.star [VR (.slice (some ⟨b190, 0, none⟩) 1 1) 25 5 [[.int .i64 3, sv (nB "LIST"), .slice (some ⟨b188, 0, none⟩) 1 1, .bool false, .bool false]], G]) p u)
    replace hJ2 := hJ2.mono (rd_in (.there .here) : ∀ p u, Rd G p u → Rd (Res.star [VR (.slice (some ⟨b190, 0, none⟩) 1 1) 25 5 [[.int .i64 3, sv (nB "LIST"), .slice (some ⟨b188, 0, none⟩) 1 1, .bool false, .bool false]], G]) p u)
    replace hl188 := hl188.mono (rd_in (.there .here) : ∀ p u, Rd G p u → Rd (Res.star [VR (.slice (some ⟨b190, 0, none⟩) 1 1) 25 5 [[.int .i64 3, sv (nB "LIST"), .slice (some ⟨b188, 0, none⟩) 1 1, .bool false, .bool false]], G]) p u)
    replace hup := fun p u h => (rd_in (.there .here) : ∀ p u, Rd G p u → Rd (Res.star [VR (.slice (some ⟨b190, 0, none⟩) 1 1) 25 5 [[.int .i64 3, sv (nB "LIST"), .slice (some ⟨b188, 0, none⟩) 1 1, .bool false, .bool false]], G]) p u) p u (hup p u h)
    generalize Res.star [VR (.slice (some ⟨b190, 0, none⟩) 1 1) 25 5 [[.int .i64 3, sv (nB "LIST"), .slice (some ⟨b188, 0, none⟩) 1 1, .bool false, .bool false]], G] = G at hJ1 hJ2 hl188 hl190 hup
    refine dr_nx ?_ (fun _ _=>Sub.sel (.there (.there (.there (.there (.there .here))))) (Sub.sel (.there (.there (.there (.there (.there .here))))) (Sub.nil _)))
    have hcc:=SameTypes_ct hJ1 hl190
    rw [show sames [exT (nB "LIST") [exText]] [exT (nB "LIST") [exText]] = true from by decide +kernel] at hcc
    refine dr_effg Z Z Z (st_grd Z Z (st_cl Z Z en25 Z (hcc) ?_))
    rintro u h' ⟨rfl,rfl⟩
    simp only [lC,lN]
    refine dr_nx ?_ (fun _ _=>Sub.sel (.there (.there (.there (.there (.there .here))))) (Sub.sel (.there (.there (.there (.there (.there .here))))) (Sub.nil _)))
    refine dV Z (vQ Z Z) (dV Z (vM Z) (dp_vg Z Z Z (vM Z) (dr_clrg Z Z Z Z Z en28 Z (lClass_ct) ?_)))
    refine dr_clrg Z Z Z Z Z en44 Z (lVoid_ct) ?_
    refine dr_effg Z Z Z (st_grd Z Z (st_buildSlice (cells:=[.int .i64 3,sv root,.slice none 0 0,.bool true,.bool false]) Z Tryz.underlying23 inf25 Z Z (by kernel_rfl) (ltn Z) fun b197=>?_))
    refine st_of1 (sz:=5) (n:=1) [[.int .i64 3,sv root,.slice none 0 0,.bool true,.bool false]] Z (by simp) Z (by decide) ?_
    refine st_ok (r:=VR (.slice (some ⟨b197,0,none⟩) 1 1) 25 5 [[.int .i64 3,sv root,.slice none 0 0,.bool true,.bool false]]) slq fun hok=>?_
    have hl197:=tys_one (Ty.of (S:=G) (us:=[.int .i64 3,sv root,.slice none 0 0,.bool true,.bool false]) (t:=(exV (exT root []))) rfl Tys.nil) hok
    refine st_pk2 (a:=VR (.slice (some ⟨b197,0,none⟩) 1 1) 25 5 [[.int .i64 3,sv root,.slice none 0 0,.bool true,.bool false]]) (b:=G) ?_
    try clear hok
    replace hJ2:=hJ2.mono (rd_in (.there .here):∀ p u,Rd G p u→Rd (Res.star [VR (.slice (some ⟨b197,0,none⟩) 1 1) 25 5 [[.int .i64 3,sv root,.slice none 0 0,.bool true,.bool false]],G]) p u)
    replace hup:=fun p u h=>(rd_in (.there .here):∀ p u,Rd G p u→Rd (Res.star [VR (.slice (some ⟨b197,0,none⟩) 1 1) 25 5 [[.int .i64 3,sv root,.slice none 0 0,.bool true,.bool false]],G]) p u) p u (hup p u h)
    generalize Res.star [VR (.slice (some ⟨b197,0,none⟩) 1 1) 25 5 [[.int .i64 3,sv root,.slice none 0 0,.bool true,.bool false]],G]=G at hJ2 hl197 hup
    refine dr_nx ?_ (fun _ _=>Sub.sel (.there (.there (.there (.there (.there .here))))) (Sub.sel (.there (.there (.there (.there (.there .here))))) (Sub.nil _)))
    have hcc:=SameTypes_ct hJ2 hl197
    rw [show sames [exV (exT root [])] [exV (exT root [])]=true from by decide +kernel] at hcc
    refine dr_effg Z Z Z (st_grd Z Z (st_cl Z Z en25 Z (hcc) ?_))
    rintro u h' ⟨rfl,rfl⟩
    simp only [lC,lN]
    refine dr_nx ?_ (fun _ _=>Sub.sel (.there (.there (.there (.there (.there .here))))) (Sub.sel (.there (.there (.there (.there (.there .here))))) (Sub.nil _)))
    refine dV Z (vQ Z Z) (dV Z (vA Z) ?_)
    exact dr_nil (hcont ⟨G,hup⟩ _ _ ⟨Z,Z,Z,Z,Z,Z,Z,trivial⟩ (Sub.sel .here (Sub.sel (.there (.there (.there (.there .here)))) (Sub.sel (.there (.there (.there .here))) (Sub.sel (.there (.there .here)) (Sub.sel (.there .here) (Sub.sel .here (Sub.cons (Sub.refl _)))))))))
 ·have hup:∀ p u,Rd G p u→Rd G p u:=fun _ _ h=>h
  refine dr_two Z Z ?_ ?_
  ·refine st_buildSlice (cells := [.int .i64 3, sv (nB "TEXT"), .slice none 0 0, .bool false, .bool false]) Z Tryz.underlying23 inf25 Z Z (by kernel_rfl) (ltn Z) fun b66 => ?_
   refine st_of1 (sz := 5) (n := 1) [[.int .i64 3, sv (nB "TEXT"), .slice none 0 0, .bool false, .bool false]] Z (by simp) Z (by decide) ?_
   refine st_ok (r := VR (.slice (some ⟨b66, 0, none⟩) 1 1) 25 5 [[.int .i64 3, sv (nB "TEXT"), .slice none 0 0, .bool false, .bool false]]) slq fun hok => ?_
   have hl66 := tys_one (Ty.of (S := G) (us := [.int .i64 3, sv (nB "TEXT"), .slice none 0 0, .bool false, .bool false]) (t := exText) rfl Tys.nil) hok
   refine st_pk2 (a := VR (.slice (some ⟨b66, 0, none⟩) 1 1) 25 5 [[.int .i64 3, sv (nB "TEXT"), .slice none 0 0, .bool false, .bool false]]) (b := G) ?_
   try clear hok
   replace hv := hv.mono (rd_in (.there .here) : ∀ p u, Rd G p u → Rd (Res.star [VR (.slice (some ⟨b66, 0, none⟩) 1 1) 25 5 [[.int .i64 3, sv (nB "TEXT"), .slice none 0 0, .bool false, .bool false]], G]) p u)
   replace hup := fun p u h => (rd_in (.there .here) : ∀ p u, Rd G p u → Rd (Res.star [VR (.slice (some ⟨b66, 0, none⟩) 1 1) 25 5 [[.int .i64 3, sv (nB "TEXT"), .slice none 0 0, .bool false, .bool false]], G]) p u) p u (hup p u h)
   generalize Res.star [VR (.slice (some ⟨b66, 0, none⟩) 1 1) 25 5 [[.int .i64 3, sv (nB "TEXT"), .slice none 0 0, .bool false, .bool false]], G] = G at hv hl66 hup
   refine dr_nx ?_
   refine dr_clr Z Z Z en28 Z (lClass_ct) ?_
   refine dr_two Z Z ?_ ?_
   ·refine st_cl Z Z en35 Z (Why_ct hv htn (nB "WORDS") (Ty.of (S := G) (us := [.int .i64 3, sv (nB "WORDS"), .slice none 0 0, .bool false, .bool false]) (t := (exT (nB "WORDS") [])) Z Tys.nil) (Ty.of (S := G) (us := [.int .i64 3, sv (nB "LIST"), .slice (some ⟨b66, 0, none⟩) 1 1, .bool false, .bool false]) (t := (exT (nB "LIST") [exText])) Z hl66) (by decide +kernel) (by decide +kernel)) ?_
    rintro u h' ⟨T,rfl,w,rfl,hw13,hW1⟩
    rw [ex_why1] at hW1
    simp only [lC,lN,ex_why1] at hW1 ⊢
    obtain ⟨wa13,wc13,rfl,_⟩:=id hW1
    refine st_pv (pv_pack (L:=[T,G])) ?_
    simp only [lC,lN]
    replace hup:=fun p u h=>(rd_in (.there .here):∀ p u,Rd G p u→Rd (Res.star [T,G]) p u) p u (hup p u h)
    generalize Res.star [T,G]=G at hW1 hup
    refine dr_nx ?_ (fun _ _=>Sub.sel (.there (.there .here)) (Sub.nil _))
    refine dV Z (vM Z) (dV Z (v_extract Z Z) (dV Z (v_extract Z Z) (dr_eff Z (st_alc al61 fun b13=>dr_nx ?_))))
    refine dr_eff Z (st_stoW (vs:=[.int .i64 5,.slice wa13 3 wc13]) Z Z sz61 Z Z ?_)
    refine dr_nx ?_
    refine dV Z (vA Z) ?_
    exact dr_nil (hcont ⟨(b13,wa13,wc13,G),hup,hW1⟩ _ _ ⟨Z,Z,Z,Z,Z,Z,Z,Z,Z,Z,Z,Z,Z,trivial⟩ sbq)
   ·refine st_alc al61 fun b13=>dr_nx ?_
    refine dr_eff Z (st_cl Z Z en35 Z (Why_ct hv htn (nB "WORDS") (Ty.of (S := G) (us := [.int .i64 3, sv (nB "WORDS"), .slice none 0 0, .bool false, .bool false]) (t := (exT (nB "WORDS") [])) Z Tys.nil) (Ty.of (S := G) (us := [.int .i64 3, sv (nB "LIST"), .slice (some ⟨b66, 0, none⟩) 1 1, .bool false, .bool false]) (t := (exT (nB "LIST") [exText])) Z hl66) (by decide +kernel) (by decide +kernel)) ?_)
    rintro u h' ⟨T,rfl,w,rfl,hw13,hW1⟩
    rw [ex_why1] at hW1
    simp only [lC,lN,ex_why1] at hW1 ⊢
    obtain ⟨wa13,wc13,rfl,_⟩:=id hW1
    refine st_pv (pv_pack (L:=[T,G])) ?_
    simp only [lC,lN]
    replace hup:=fun p u h=>(rd_in (.there .here):∀ p u,Rd G p u→Rd (Res.star [T,G]) p u) p u (hup p u h)
    generalize Res.star [T,G]=G at hW1 hup
    refine dr_nx ?_ (fun _ _=>Sub.sel (.there (.there (.there .here))) (Sub.nil _))
    refine dV Z (vM Z) (dV Z (v_extract Z Z) (dV Z (v_extract Z Z) (dr_eff Z (st_stoW (vs:=[.int .i64 5,.slice wa13 3 wc13]) Z Z sz61 Z Z ?_))))
    refine dr_nx ?_
    refine dV Z (vA Z) ?_
    exact dr_nil (hcont ⟨(b13,wa13,wc13,G),hup,hW1⟩ _ _ ⟨Z,Z,Z,Z,Z,Z,Z,Z,Z,Z,Z,Z,Z,trivial⟩ sbq)
  ·refine st_alc al61 fun b13=>dr_nx ?_
   refine dr_eff Z (st_buildSlice (cells := [.int .i64 3, sv (nB "TEXT"), .slice none 0 0, .bool false, .bool false]) Z Tryz.underlying23 inf25 Z Z (by kernel_rfl) (ltn Z) fun b66 => ?_)
   refine st_of1 (sz := 5) (n := 1) [[.int .i64 3, sv (nB "TEXT"), .slice none 0 0, .bool false, .bool false]] Z (by simp) Z (by decide) ?_
   refine st_ok (r := VR (.slice (some ⟨b66, 0, none⟩) 1 1) 25 5 [[.int .i64 3, sv (nB "TEXT"), .slice none 0 0, .bool false, .bool false]]) slq fun hok => ?_
   have hl66 := tys_one (Ty.of (S := G) (us := [.int .i64 3, sv (nB "TEXT"), .slice none 0 0, .bool false, .bool false]) (t := exText) rfl Tys.nil) hok
   refine st_pk2 (a := VR (.slice (some ⟨b66, 0, none⟩) 1 1) 25 5 [[.int .i64 3, sv (nB "TEXT"), .slice none 0 0, .bool false, .bool false]]) (b := G) ?_
   try clear hok
   replace hv := hv.mono (rd_in (.there .here) : ∀ p u, Rd G p u → Rd (Res.star [VR (.slice (some ⟨b66, 0, none⟩) 1 1) 25 5 [[.int .i64 3, sv (nB "TEXT"), .slice none 0 0, .bool false, .bool false]], G]) p u)
   replace hup := fun p u h => (rd_in (.there .here) : ∀ p u, Rd G p u → Rd (Res.star [VR (.slice (some ⟨b66, 0, none⟩) 1 1) 25 5 [[.int .i64 3, sv (nB "TEXT"), .slice none 0 0, .bool false, .bool false]], G]) p u) p u (hup p u h)
   generalize Res.star [VR (.slice (some ⟨b66, 0, none⟩) 1 1) 25 5 [[.int .i64 3, sv (nB "TEXT"), .slice none 0 0, .bool false, .bool false]], G] = G at hv hl66 hup
   refine dr_nx ?_
   refine dr_clr Z Z Z en28 Z (lClass_ct) ?_
   refine dr_eff Z (st_cl Z Z en35 Z (Why_ct hv htn (nB "WORDS") (Ty.of (S := G) (us := [.int .i64 3, sv (nB "WORDS"), .slice none 0 0, .bool false, .bool false]) (t := (exT (nB "WORDS") [])) Z Tys.nil) (Ty.of (S := G) (us := [.int .i64 3, sv (nB "LIST"), .slice (some ⟨b66, 0, none⟩) 1 1, .bool false, .bool false]) (t := (exT (nB "LIST") [exText])) Z hl66) (by decide +kernel) (by decide +kernel)) ?_)
   rintro u h' ⟨T,rfl,w,rfl,hw13,hW1⟩
   rw [ex_why1] at hW1
   simp only [lC,lN,ex_why1] at hW1 ⊢
   obtain ⟨wa13,wc13,rfl,_⟩:=id hW1
   refine st_pv (pv_pack (L:=[T,G])) ?_
   simp only [lC,lN]
   replace hup:=fun p u h=>(rd_in (.there .here):∀ p u,Rd G p u→Rd (Res.star [T,G]) p u) p u (hup p u h)
   generalize Res.star [T,G]=G at hW1 hup
   refine dr_nx ?_ (fun _ _=>Sub.sel (.there (.there (.there .here))) (Sub.nil _))
   refine dV Z (vM Z) (dV Z (v_extract Z Z) (dV Z (v_extract Z Z) (dr_eff Z (st_stoW (vs:=[.int .i64 5,.slice wa13 3 wc13]) Z Z sz61 Z Z ?_))))
   refine dr_nx ?_
   refine dV Z (vA Z) ?_
   exact dr_nil (hcont ⟨(b13,wa13,wc13,G),hup,hW1⟩ _ _ ⟨Z,Z,Z,Z,Z,Z,Z,Z,Z,Z,Z,Z,Z,trivial⟩ sbq)
end Go.Hr
