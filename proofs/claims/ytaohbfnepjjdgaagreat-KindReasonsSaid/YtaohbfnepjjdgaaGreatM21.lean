/-
  KindReasons: for every input the law answers true,and the input reads as it did. No condition.
-/
import Derived.Test.YtaohbfnepjjdgaaGreatRows
import Derived.Test.YtaohbfnepjjdgaaGreatM20
import Derived.Test.YtaohbfnepjjdgaaGreatM5
import Derived.Test.YtaohbfnepjjdgaaGreatM10
import Derived.SizedLaws
set_option linter.unusedVariables false
set_option linter.unusedSimpArgs false
namespace Go.Proofs.YtaohbfnepjjdgaaGreat
open Go Go.RowKit Go.ChangeShapes Go.WideShapes Go.Ck Go.Hr
set_option maxRecDepth 100000 in
theorem kindReasons_lifted (os:Os) (started:os.Started) (H:Type) (enc:TypeId×Value→H) :
  ReturnsInHanded {} Tryz.checked os 9 .any (Rows.kindReasonsSpec.pre6 enc Tryz.prog Tryz.f9 Rows.kindReasonsRow.domain false) (Rows.kindReasonsSpec.post enc Tryz.prog Tryz.f9 false true false false):=by
 refine returnsInHanded_of_change_sized (C:=Tryz.checked) (show ownKnob Tryz.prog.godebug=none by kernel_rfl) started (by kernel_rfl) Tryz.func9
  (ChangeSpec.witness6 (enc:=enc) (C:=Tryz.checked) false ⟨#[],#[.slice none 0 0,.string ⟨#[]⟩,.agg #[.int .i64 0,.string ⟨#[]⟩,.slice none 0 0,.bool false,.bool false],.agg #[.int .i64 0,.string ⟨#[]⟩,.slice none 0 0,.bool false,.bool false],.agg #[.int .i64 0,.slice none 0 0]],[]⟩ 8 (by kernel_rfl) (by kernel_rfl) (by kernel_rfl) (by kernel_rfl)) ?_
 intro W base args ds gs before hval0 hW hcnd hsz _
 have hval:∀ (j:Nat) t v,Tryz.f9.params[j]? = some t→args[j]? = some v→Value.okWide Tryz.prog W .any base t v:=hval0
 have hW':=hW
 obtain ⟨p,q,hA0,hV,rfl,hfz,hnd⟩:=hW
 have hA:DataW.TrodAll enc Tryz.prog W 0 (fun _=>true) true Tryz.f9.params.toList args.toList ds p:=hA0
 rw [Tryz.params9] at hA hval
 obtain ⟨v0,vs0,d0,ds0,p0,q0,hargs,rfl,rfl,h0,r0⟩:=trodAll_cons hA
 obtain ⟨v1,vs1,d1,ds1,p1,q1,rfl,rfl,rfl,h1,r1⟩:=trodAll_cons r0
 obtain ⟨v2,vs2,d2,ds2,p2,q2,rfl,rfl,rfl,h2,r2⟩:=trodAll_cons r1
 obtain ⟨v3,vs3,d3,ds3,p3,q3,rfl,rfl,rfl,h3,r3⟩:=trodAll_cons r2
 obtain ⟨v4,vs4,d4,ds4,p4,q4,rfl,rfl,rfl,h4,r4⟩:=trodAll_cons r3
 obtain ⟨rfl,rfl,rfl⟩:=trodAll_nil r4
 obtain rfl:args = #[v0,v1,v2,v3,v4]:=by cases args; simp_all
 obtain ⟨rfl,rfl⟩:=trodVars_none hV
 have hz0:∀ n∈d0.weights Tryz.prog 22,n≤reachBytes:=fun n hn=>by
  have:=List.all_eq_true.1 hsz n (DataW.weights_mem_each (j:=0) (t:=22) (by rw [Tryz.params9]; rfl) rfl n hn)
  exact of_decide_eq_true this
 obtain ⟨n0,m0⟩:=gd_of h0 (cells_one (okWide_one (by kernel_rfl) (hval 0 22 v0 rfl rfl))) hz0
 have hz1:∀ n∈d1.weights Tryz.prog 9,n≤reachBytes:=fun n hn=>by
  have:=List.all_eq_true.1 hsz n (DataW.weights_mem_each (j:=1) (t:=9) (by rw [Tryz.params9]; rfl) rfl n hn)
  exact of_decide_eq_true this
 obtain ⟨n1,m1⟩:=gd_of h1 (cells_one (okWide_one (by kernel_rfl) (hval 1 9 v1 rfl rfl))) hz1
 have hz2:∀ n∈d2.weights Tryz.prog 25,n≤reachBytes:=fun n hn=>by
  have:=List.all_eq_true.1 hsz n (DataW.weights_mem_each (j:=2) (t:=25) (by rw [Tryz.params9]; rfl) rfl n hn)
  exact of_decide_eq_true this
 have g2:=okWide_agg (Tryz.underlying25) (hval 2 25 v2 rfl rfl)
 obtain ⟨n2,m2⟩:=gd_of h2 rfl hz2
 have hz3:∀ n∈d3.weights Tryz.prog 25,n≤reachBytes:=fun n hn=>by
  have:=List.all_eq_true.1 hsz n (DataW.weights_mem_each (j:=3) (t:=25) (by rw [Tryz.params9]; rfl) rfl n hn)
  exact of_decide_eq_true this
 have g3:=okWide_agg (Tryz.underlying25) (hval 3 25 v3 rfl rfl)
 obtain ⟨n3,m3⟩:=gd_of h3 rfl hz3
 have hz4:∀ n∈d4.weights Tryz.prog 61,n≤reachBytes:=fun n hn=>by
  have:=List.all_eq_true.1 hsz n (DataW.weights_mem_each (j:=4) (t:=61) (by rw [Tryz.params9]; rfl) rfl n hn)
  exact of_decide_eq_true this
 have g4:=okWide_agg (Tryz.underlying61) (hval 4 61 v4 rfl rfl)
 obtain ⟨n4,m4⟩:=gd_of h4 rfl hz4
 clear hval
 obtain ⟨l0,s0⟩:=ksys_of_gd m0
 obtain ⟨y1,e1⟩:=gd_str m1 Tryz.underlying9
 obtain rfl:=(List.cons.inj e1).1
 obtain ⟨t2,s2⟩:=ty_of_gd _ _ m2
 have c2:v2 = .agg (v2.cells.toList).toArray:=by rw [Array.toArray_toList]; exact g2
 clear g2 m2
 generalize v2.cells.toList=us2 at s2 c2
 subst c2
 obtain ⟨t3,s3⟩:=ty_of_gd _ _ m3
 have c3:v3 = .agg (v3.cells.toList).toArray:=by rw [Array.toArray_toList]; exact g3
 clear g3 m3
 generalize v3.cells.toList=us3 at s3 c3
 subst c3
 obtain ⟨a4,b4,l4,u4,s4⟩:=reason_of_gd m4
 have c4:v4 = .agg (v4.cells.toList).toArray:=by rw [Array.toArray_toList]; exact g4
 rw [u4] at c4
 clear g4 m4 u4
 subst c4
 refine (ct_calls (kindReasons_ct s0 y1 s2 s3 s4) fun v h' h=>⟨h.1,by rw [h.2]; exact .refl _⟩).mono fun e W' ⟨he,hk⟩=>⟨_,he,?_⟩
 exact law_post (tys:=[.slice (.any 7 partK),.str,.any 5 partK,.any 5 partK,.any 2 partK]) hW' Z (by kernel_rfl) Tryz.underlying4 (by rw [Tryz.params9]; kernel_rfl) Z hk
theorem kindReasons_holds:Rows.KindReasonsSaid :=
 OpenClaim.holds_of_wide 9 Tryz.f9 rfl rfl rfl rfl rfl rfl rfl ⟨rfl,rfl,rfl,rfl,rfl⟩ rfl rfl rfl rfl rfl (by kernel_rfl) Tryz.func9 (by kernel_rfl)
  (of_decide_eq_true (by kernel_rfl)) (by unfold Func.isWrapper; first | (rw [if_pos (by decide +kernel)]; kernel_rfl) | (rw [if_neg (by decide +kernel)]; exact ⟨rfl,rfl⟩))
  (fun os started H enc _=>kindReasons_lifted os started H enc)
end Go.Proofs.YtaohbfnepjjdgaaGreat
