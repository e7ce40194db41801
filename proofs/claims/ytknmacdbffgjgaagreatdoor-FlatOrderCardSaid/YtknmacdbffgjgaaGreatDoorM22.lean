/-
  FlatOrder,as a tied card: for every input the law answers true,and the input reads as it did. No condition beyond the tied variables.
-/
import Derived.Test.YtknmacdbffgjgaaGreatDoorRows
import Derived.Test.YtknmacdbffgjgaaGreatDoorM21
import Derived.SizedLaws
set_option linter.unusedVariables false
set_option linter.unusedSimpArgs false
set_option maxRecDepth 100000
set_option maxHeartbeats 16000000
namespace Go.Proofs.YtknmacdbffgjgaaGreatDoor
open Go Go.RowKit Go.ChangeShapes Go.WideShapes Go.Ck Go.Fl Go.Hr
theorem xx (os:Os) (started:os.Started) (H:Type) (enc:TypeId×Value->H) :
  ReturnsInHanded {} Tryz.checked os 4 .any (λw args=>(Rows.flatOrderSpec.pre enc Tryz.prog Tryz.f4 Rows.flatOrderRow.domain false w args/\laidMetH Tryz.prog H9 w)/\sizedMet enc Tryz.prog Tryz.f4 (OpenSpec.ofChange Rows.flatOrderSpec) false w args) (Rows.flatOrderSpec.post enc Tryz.prog Tryz.f4 false true false false):=by
 refine returnsInHanded_of_change_and (C:=Tryz.checked) (X:=λw _=>laidMetH Tryz.prog H9 w) (λ_ _ _ hh h=>h.of_heap hh) (show ownKnob Tryz.prog.godebug=none by kernel_rfl) started Zz Tryz.func4
  (ChangeSpec.witness_shaped (enc:=enc) (C:=Tryz.checked) (os:=os) (X:=λw _=>laidMetH Tryz.prog H9 w) false (World.doorLaid Tryz.prog 33 os) #[.slice none 0 0,.slice none 0 0,.agg #[.string ⟨#[]⟩,.bool false,.slice none 0 0,.slice none 0 0,.slice none 0 0,.slice none 0 0,.slice none 0 0]] 8 rfl (World.shaped_of_RefB Zz Zz) Zz Zz Zz (OY os _)) ?_
 intro W base args ds gs before hval0 hW _ hsz hL _
 have hval:∀ (j:Nat) t v,Tryz.f4.params[j]? = some t->args[j]? = some v->Value.okWide Tryz.prog W .any base t v:=hval0
 have hW':=hW
 obtain ⟨p,q,hA0,hV,rfl,hfz,hnd⟩:=hW
 have hA:DataW.TrodAll enc Tryz.prog W 0 (λ_=>true) true Tryz.f4.params.toList args.toList ds p:=hA0
 rw [Tryz.params4] at hA hval
 obtain ⟨v0,vs0,d0,ds0,p0,q0,hargs,rfl,rfl,h0,r0⟩:=trodAll_cons hA
 obtain ⟨v1,vs1,d1,ds1,p1,q1,rfl,rfl,rfl,h1,r1⟩:=trodAll_cons r0
 obtain ⟨v2,vs2,d2,ds2,p2,q2,rfl,rfl,rfl,h2,r2⟩:=trodAll_cons r1
 obtain ⟨rfl,rfl,rfl⟩:=trodAll_nil r2
 obtain rfl:args = #[v0,v1,v2]:=by cases args; simp_all
 obtain ⟨rfl,rfl⟩:=trodVars_none hV
 have hz0:∀ n∈d0.weights Tryz.prog 22,n≤reachBytes:=λn hn=>by
  have:=List.all_eq_true.1 hsz n<|DataW.weights_mem_each (j:=0) (t:=22) (by rw [Tryz.params4]; rfl) rfl n hn
  exact of_decide_eq_true this
 obtain ⟨n0,m0⟩:=gd_of h0 (cells_one<|zG Zz<|hval 0 22 v0 rfl rfl) hz0
 have hz1:∀ n∈d1.weights Tryz.prog 37,n≤reachBytes:=λn hn=>by
  have:=List.all_eq_true.1 hsz n<|DataW.weights_mem_each (j:=1) (t:=37) (by rw [Tryz.params4]; rfl) rfl n hn
  exact of_decide_eq_true this
 obtain ⟨n1,m1⟩:=gd_of h1 (cells_one<|zG Zz<|hval 1 37 v1 rfl rfl) hz1
 have hz2:∀ n∈d2.weights Tryz.prog 44,n≤reachBytes:=λn hn=>by
  have:=List.all_eq_true.1 hsz n<|DataW.weights_mem_each (j:=2) (t:=44) (by rw [Tryz.params4]; rfl) rfl n hn
  exact of_decide_eq_true this
 have g2:=Io (Tryz.underlying44)<|hval 2 44 v2 rfl rfl
 obtain ⟨n2,m2⟩:=gd_of h2 rfl hz2
 clear hval
 obtain ⟨l0,s0,c0⟩:=MB m0
 obtain ⟨l1,s1⟩:=MJ m1
 obtain ⟨x2,s2,k2⟩:=DD m2
 have c2:v2 = .agg (v2.cells.toList).toArray:=by rw [Array.toArray_toList]; exact g2
 clear g2 m2
 generalize v2.cells.toList=us2 at s2 k2 c2
 subst c2
 refine (ME<|EM (Ia hL) s0 c0 s1 s2 k2).mono λe W' ⟨he,hk⟩=>⟨_,he,?_⟩
 exact MF (tys:=[.slice (.any 7 partF),.slice (.int .u8),.any 7 partF]) hW' Z Zz Tryz.underlying4 (by rw [Tryz.params4]; kernel_rfl) Z hk
end Go.Proofs.YtknmacdbffgjgaaGreatDoor
