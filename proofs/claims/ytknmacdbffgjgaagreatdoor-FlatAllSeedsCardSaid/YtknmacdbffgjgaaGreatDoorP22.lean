/-
  FlatAllSeeds,as a tied card: for every input the law answers true,and the input reads as it did. No condition beyond the tied variables.
-/
import Derived.Test.YtknmacdbffgjgaaGreatDoorRows
import Derived.Test.YtknmacdbffgjgaaGreatDoorP21
import Derived.SizedLaws
set_option linter.unusedVariables false
set_option linter.unusedSimpArgs false
set_option maxRecDepth 100000
set_option maxHeartbeats 16000000
namespace Go.Proofs.YtknmacdbffgjgaaGreatDoor
open Go Go.RowKit Go.ChangeShapes Go.WideShapes Go.Ck Go.Fl Go.Hr
theorem rV (os:Os) (started:os.Started) (H:Type) (enc:TypeId×Value->H) :
  ReturnsInHanded {} Tryz.checked os 8 .any (λw args=>(Rows.flatAllSeedsSpec.pre enc Tryz.prog Tryz.f8 Rows.flatAllSeedsRow.domain false w args/\laidMetH Tryz.prog G5 w)/\sizedMet enc Tryz.prog Tryz.f8 (OpenSpec.ofChange Rows.flatAllSeedsSpec) false w args) (Rows.flatAllSeedsSpec.post enc Tryz.prog Tryz.f8 false true false false):=by
 refine returnsInHanded_of_change_and (C:=Tryz.checked) (X:=λw _=>laidMetH Tryz.prog G5 w) (λ_ _ _ hh h=>h.of_heap hh) (show ownKnob Tryz.prog.godebug=none by kernel_rfl) started Zz Tryz.func8
  (ChangeSpec.witness_shaped (enc:=enc) (C:=Tryz.checked) (os:=os) (X:=λw _=>laidMetH Tryz.prog G5 w) false (World.doorLaid Tryz.prog 33 os) #[.slice none 0 0,.string ⟨#[]⟩,.string ⟨#[]⟩,.string ⟨#[]⟩,.string ⟨#[]⟩] 8 rfl (World.shaped_of_RefB Zz Zz) Zz Zz Zz (Oe os _)) ?_
 intro W base args ds gs before hval0 hW _ hsz hL _
 have hval:∀ (j:Nat) t v,Tryz.f8.params[j]? = some t->args[j]? = some v->Value.okWide Tryz.prog W .any base t v:=hval0
 have hW':=hW
 obtain ⟨p,q,hA0,hV,rfl,hfz,hnd⟩:=hW
 have hA:DataW.TrodAll enc Tryz.prog W 0 (λ_=>true) true Tryz.f8.params.toList args.toList ds p:=hA0
 rw [Tryz.params8] at hA hval
 obtain ⟨v0,vs0,d0,ds0,p0,q0,hargs,rfl,rfl,h0,r0⟩:=trodAll_cons hA
 obtain ⟨v1,vs1,d1,ds1,p1,q1,rfl,rfl,rfl,h1,r1⟩:=trodAll_cons r0
 obtain ⟨v2,vs2,d2,ds2,p2,q2,rfl,rfl,rfl,h2,r2⟩:=trodAll_cons r1
 obtain ⟨v3,vs3,d3,ds3,p3,q3,rfl,rfl,rfl,h3,r3⟩:=trodAll_cons r2
 obtain ⟨v4,vs4,d4,ds4,p4,q4,rfl,rfl,rfl,h4,r4⟩:=trodAll_cons r3
 obtain ⟨rfl,rfl,rfl⟩:=trodAll_nil r4
 obtain rfl:args = #[v0,v1,v2,v3,v4]:=by cases args; simp_all
 obtain ⟨rfl,rfl⟩:=trodVars_none hV
 have hz0:∀ n∈d0.weights Tryz.prog 22,n≤reachBytes:=λn hn=>by
  have:=List.all_eq_true.1 hsz n<|DataW.weights_mem_each (j:=0) (t:=22) (by rw [Tryz.params8]; rfl) rfl n hn
  exact of_decide_eq_true this
 obtain ⟨n0,m0⟩:=GZ h0 (cells_one<|lw Zz<|hval 0 22 v0 rfl rfl) hz0
 have hz1:∀ n∈d1.weights Tryz.prog 9,n≤reachBytes:=λn hn=>by
  have:=List.all_eq_true.1 hsz n<|DataW.weights_mem_each (j:=1) (t:=9) (by rw [Tryz.params8]; rfl) rfl n hn
  exact of_decide_eq_true this
 obtain ⟨n1,m1⟩:=GZ h1 (cells_one<|lw Zz<|hval 1 9 v1 rfl rfl) hz1
 have hz2:∀ n∈d2.weights Tryz.prog 9,n≤reachBytes:=λn hn=>by
  have:=List.all_eq_true.1 hsz n<|DataW.weights_mem_each (j:=2) (t:=9) (by rw [Tryz.params8]; rfl) rfl n hn
  exact of_decide_eq_true this
 obtain ⟨n2,m2⟩:=GZ h2 (cells_one<|lw Zz<|hval 2 9 v2 rfl rfl) hz2
 have hz3:∀ n∈d3.weights Tryz.prog 9,n≤reachBytes:=λn hn=>by
  have:=List.all_eq_true.1 hsz n<|DataW.weights_mem_each (j:=3) (t:=9) (by rw [Tryz.params8]; rfl) rfl n hn
  exact of_decide_eq_true this
 obtain ⟨n3,m3⟩:=GZ h3 (cells_one<|lw Zz<|hval 3 9 v3 rfl rfl) hz3
 have hz4:∀ n∈d4.weights Tryz.prog 9,n≤reachBytes:=λn hn=>by
  have:=List.all_eq_true.1 hsz n<|DataW.weights_mem_each (j:=4) (t:=9) (by rw [Tryz.params8]; rfl) rfl n hn
  exact of_decide_eq_true this
 obtain ⟨n4,m4⟩:=GZ h4 (cells_one<|lw Zz<|hval 4 9 v4 rfl rfl) hz4
 clear hval
 obtain ⟨l0,s0,c0⟩:=LX m0
 obtain ⟨y1,e1⟩:=iL m1 Tryz.underlying9
 obtain rfl:=(List.cons.inj e1).1
 obtain ⟨y2,e2⟩:=iL m2 Tryz.underlying9
 obtain rfl:=(List.cons.inj e2).1
 obtain ⟨y3,e3⟩:=iL m3 Tryz.underlying9
 obtain rfl:=(List.cons.inj e3).1
 obtain ⟨y4,e4⟩:=iL m4 Tryz.underlying9
 obtain rfl:=(List.cons.inj e4).1
 refine (LY<|yJ (G6 hL) s0 c0 y1 y2 y3 y4).mono λe W' ⟨he,hk⟩=>⟨_,he,?_⟩
 exact LZ (tys:=[.slice (.any 7 partF),.str,.str,.str,.str]) hW' Z Zz Tryz.underlying4 (by rw [Tryz.params8]; kernel_rfl) Z hk
end Go.Proofs.YtknmacdbffgjgaaGreatDoor
