/-
  Package flat: members. Conditions: what is read; sizes; no feature is declared twice.
-/
import Derived.Test.YtknmacdbffgjgaaGreatDoorM15
import Derived.Test.YtknmacdbffgjgaaGreatDoorM4
import Derived.Laws.IdiomRangeMap
import Derived.Test.YtknmacdbffgjgaaGreatDoorM16
set_option linter.unusedVariables false
set_option linter.unusedSimpArgs false
set_option maxRecDepth 100000
set_option maxHeartbeats 16000000
namespace Go.Ck
open Go Go.RowKit
def mit (mb ib:Nat) (m left:List (Int×Value)) (last:Option (Int×Value)):Res where
 dom b:=b=mb∨b=ib
 ok f:=mb≠ib∧∃ es ck seen,f mb=some (.map es ck)∧es.toList.map (fun x:MapEntry=>(x.key,x.val))=mI m∧Brn es ck m∧f ib=some (.mapIter (some mb) ck seen ck) ∧
  ((es.toList.filter fun x:MapEntry => !seen.contains x.born).map fun x:MapEntry=>(x.key,x.val)).Perm (mI left)∧∀ p,last=some p→∃ x∈es.toList,seen.back? = some x.born∧x.key = .int .i64 p.1∧x.val=p.2
 loc f g he:=fun ⟨hn,es,ck,seen,h1,h2,h3,h4,h5⟩=>⟨hn,es,ck,seen,by rw [← he mb (.inl rfl)]; exact h1,h2,h3,by rw [← he ib (.inr rfl)]; exact h4,h5⟩
 pres f:=fun ⟨_,es,ck,seen,h1,_,_,h4,_⟩ b hb=>by
  rcases hb with rfl | rfl
  ·rw [h1]; rfl
  ·rw [h4]; rfl
theorem AX (seen : Array Nat) (e : MapEntry) (he : seen.contains e.born = false) : ∀ (l : List MapEntry), (l.map (·.born)).Nodup → e ∈ l → (l.filter fun x => !seen.contains x.born).Perm (e :: l.filter fun x => !(seen.push e.born).contains x.born)
 | [],_,h=>by cases h
 | x :: t, hn, h => by
  rw [List.map_cons,List.nodup_cons] at hn
  have hpush:∀ y:MapEntry,y.born≠e.born→(seen.push e.born).contains y.born=seen.contains y.born:=fun y hy=>by
   rw [Bool.eq_iff_iff]; simp [Array.contains_iff_mem,Array.mem_push,hy]
  have hself:(seen.push e.born).contains e.born=true:=by simp
  by_cases hx:x=e
  ·subst hx
   have ht:t.filter (fun y => !(seen.push x.born).contains y.born)=t.filter fun y => !seen.contains y.born:=List.filter_congr fun y hy=>by
    rw [hpush y fun heq=>hn.1 (heq ▸ List.mem_map.2 ⟨y,hy,rfl⟩)]
   rw [List.filter_cons,List.filter_cons,he,hself,ht]
   exact .refl _
  ·have hm:e∈t:=(List.mem_cons.1 h).resolve_left fun q=>hx q.symm
   have hb:x.born≠e.born:=fun heq=>hn.1 (heq ▸ List.mem_map.2 ⟨e,hm,rfl⟩)
   have ih:=AX seen e he t hn.2 hm
   rw [List.filter_cons,List.filter_cons,hpush x hb]
   by_cases hc:(!seen.contains x.born)=true
   ·rw [if_pos hc,if_pos hc]
    exact (ih.cons x).trans (.swap ..)
   ·rw [if_neg hc,if_neg hc]; exact ih
section
variable {P:Program}
theorem run_next_at {w : World} {mb ib ck : Nat} {es : Array MapEntry} {seen : Array Nat} (h1 : w.heap[mb]? = some (.map es ck)) (h2 : w.heap[ib]? = some (.mapIter (some mb) ck seen ck)) (hold : ∀ x ∈ es.toList, x.born < ck) (ty : TypeId) :
  ((es.toList.filter fun x => !seen.contains x.born)=[]∧(Instr.next (.pointer (some ⟨ib,0,none⟩)) false ty).run P w = .ok (.tuple #[.bool false]) w) ∨
  ∃ x∈(es.toList.filter fun x => !seen.contains x.born),∃ n:Nat,w.drawn≤n∧(Instr.next (.pointer (some ⟨ib,0,none⟩)) false ty).run P w = .ok (.tuple #[.bool true,x.key,x.val]) { w with drawn:=n,heap:=w.heap.setIfInBounds ib (.mapIter (some mb) ck (seen.push x.born) ck) }:=by
 simp only [Instr.next,getObj,Sem.run_bind,Sem.run,h1,h2,Result.andThen,next_test_false seen es ck ck hold (Nat.le_refl _),Bool.false_eq_true,if_false]
 have hmem:∀ x∈(Array.filter (fun e => !seen.contains e.born) es).toList,x.born<ck:=fun x hx=>hold x (by simp at hx ⊢; exact hx.1)
 have hL:(Array.filter (fun e => !seen.contains e.born) es).toList=es.toList.filter fun x => !seen.contains x.born:=by simp
 rw [← hL]
 generalize Array.filter (fun e => !seen.contains e.born) es=L at hmem ⊢
 have e1:L.filter (fun x=>decide (x.born<ck))=L:=Array.filter_eq_self.2 (fun x hx=>by simpa using hmem x (by simpa using hx))
 have e2:L.filter (fun x=>decide (x.born ≥ ck)) = #[]:=by
  rw [Array.filter_eq_empty_iff]
  intro x hx
  have:=hmem x (by simpa using hx)
  simp
  omega
 simp only [e1,e2,Array.append_empty]
 by_cases h0:L.size=0
 ·left
  have:L = #[]:=Array.eq_empty_of_size_eq_zero h0
  subst this
  refine ⟨Z,?_⟩
  simp [choose,Sem.run,Question.forced]
 ·right
  have hne:L.isEmpty=false:=by simp [Array.isEmpty,h0]
  simp only [hne,Bool.false_eq_true,if_false,Array.empty_append,Array.size_map]
  have hch : ∃ (j n : Nat), j < L.size ∧ w.drawn ≤ n ∧ (choose (Question.mapNext L.size)).run P w = .ok j { w with drawn := n } := by
   by_cases hf:L.size≤1
   ·exact ⟨0,w.drawn,by omega,Nat.le_refl _,by simp [choose,Sem.run,Question.forced,hf]⟩
   ·exact ⟨_,w.drawn+1,Nat.mod_lt _ (by omega),Nat.le_succ _,by
     simp only [choose,Sem.run,Question.forced,decide_eq_true_eq,hf,if_false,Question.cut]
     rfl⟩
  obtain ⟨j,n,hj,hdn,hrun⟩:=hch
  refine ⟨L[j],by simp,n,hdn,?_⟩
  have hset:∀ o':Obj,(setObj ib o').run P { w with drawn:=n } = .ok () { w with drawn:=n,heap:=w.heap.setIfInBounds ib o' }:=fun o'=>by
   simp [setObj,Sem.run,h2]
  simp only [hrun,Array.getElem?_map,Array.getElem?_eq_getElem hj,Option.map_some,Sem.run_bind,hset,Result.andThen]
  rfl
theorem run_entry_at {w:World} {mb ib ck:Nat} {es:Array MapEntry} {seen:Array Nat} {x:MapEntry} (h1:w.heap[mb]? = some (.map es ck)) (h2:w.heap[ib]? = some (.mapIter (some mb) ck seen ck)) (hx:x∈es.toList) (hb:seen.back? = some x.born) (hn:(es.toList.map (·.born)).Nodup) :
  (Instr.entry (.pointer (some ⟨ib,0,none⟩))).run P w = .ok (.tuple #[x.key,x.val]) w:=by
 have hf:es.find? (·.born == x.born)=some x:=by rw [← Array.find?_toList]; exact find_born x es.toList hn hx
 simp only [Instr.entry,getObj,Sem.run_bind,Sem.run,h1,h2,Result.andThen,hb,bne_self_eq_false,Bool.false_eq_true,if_false,hf]
 rfl
end
section
variable {c:Cx} {ops:Array Oper} {K:Act→World→Prop} {rest:List Oper} {e:Env} {h h':SH}
theorem NP {d : Nat} {T K' E ty : TypeId} {x : Operand} {pos : String} {after : Array Edge} {mb : Nat} {m : List (Int × Value)} (hx : e.ev? x = some (.map (some mb))) (hT : MpT c.P T K' E) (hs : Sel h (mpr mb m) h') (hd : d < c.n)
  (hnx:∀ ib,(m.map (·.1)).Nodup→St c ops K rest ((d,.pointer (some ⟨ib,0,none⟩))::e) (mit mb ib m m none::h')) :
  St c ops K (⟨some d,.range T x,ty,pos,after,none⟩::rest) e h :=
 dY (by simp) fun a w hk hh hw=>by
  have hh':=hh.sel hs
  obtain ⟨es,ck,h1,h2,hB⟩:=hh'.1
  have h1':w.heap[mb]? = some (.map es ck):=h1
  have hlt:mb<w.heap.size:=(Array.getElem?_eq_some_iff.1 h1').1
  have hr:=run_range_map (P:=c.P) w T K' E mb es ck hT.1 h1'
  simp only [execOp,hk.ev hx,Sem.run_bind,hr,Result.andThen_ok,Sem.run_pure]
  have hg:=Grew.alloc w (.mapIter (some mb) ck #[] ck) rfl
  refine hnx w.heap.size hB.2.2 _ _ (hk.put _ hd) ⟨⟨by omega,es,ck,#[],?_,h2,hB,?_,?_,fun p hp=>by cases hp⟩,fun b hb hd'=>?_,?_⟩ (hw.trans hg.toSame)
  ·show (w.alloc _).heap[mb]? = _
   rw [alloc_old w _ mb (by omega)]; exact h1'
  ·show (w.heap.push _)[w.heap.size]? = _
   simp
  ·have hf:(es.toList.filter fun x:MapEntry => !(#[]:Array Nat).contains x.born)=es.toList:=List.filter_eq_self.2 fun _ _=>by simp
   rw [hf,h2]
  ·rcases hb with rfl | rfl
   ·exact hh'.2.1 b Z hd'
   ·have:=Holds.lt (w:=w) hh'.2.2 hd'; omega
  ·exact bf.loc hh'.2.2 fun b hb=>(hg.block b (Holds.lt (w:=w) hh'.2.2 hb)).symm
theorem st_next {d : Nat} {ty : TypeId} {x : Operand} {pos : String} {after : Array Edge} {mb ib : Nat} {m left : List (Int × Value)} {last : Option (Int × Value)} (hx : e.ev? x = some (.pointer (some ⟨ib, 0, none⟩))) (hs : Sel h (mit mb ib m left last) h') (hd : d < c.n)
  (h0:left=[]→St c ops K rest ((d,.tuple #[.bool false])::e) (mit mb ib m [] last::h'))
  (h1:∀ k v left',left.Perm ((k,v)::left')→St c ops K rest ((d,.tuple #[.bool true,.int .i64 k,v])::e) (mit mb ib m left' (some (k,v))::h')) :
  St c ops K (⟨some d,.next x false,ty,pos,after,none⟩::rest) e h :=
 dY (by simp) fun a w hk hh hw => by
  have hh':=hh.sel hs
  obtain ⟨hne,es,ck,seen,g1,g2,hB,g4,g5,g6⟩:=hh'.1
  have g1':w.heap[mb]? = some (.map es ck):=g1
  have g4':w.heap[ib]? = some (.mapIter (some mb) ck seen ck):=g4
  have hlt:ib<w.heap.size:=(Array.getElem?_eq_some_iff.1 g4').1
  rcases run_next_at (P:=c.P) g1' g4' hB.1 ty with ⟨q1,q2⟩ | ⟨z,hz,n,hdn,q2⟩
  ·simp only [execOp,hk.ev hx,Sem.run_bind,q2,Result.andThen_ok,Sem.run_pure]
   have hl:left=[]:=by
    rw [q1] at g5
    have:=g5.symm.eq_nil
    unfold mI at this
    simpa using this
   subst hl
   exact h0 Z _ _ (hk.put _ hd) hh' hw
  ·simp only [execOp,hk.ev hx,Sem.run_bind,q2,Result.andThen_ok,Sem.run_pure]
   have hz1:z∈es.toList:=(List.mem_filter.1 hz).1
   have hz2:seen.contains z.born=false:=by simpa using (List.mem_filter.1 hz).2
   have hzm:(z.key,z.val)∈mI left:=g5.mem_iff.1 (List.mem_map.2 ⟨z,hz,rfl⟩)
   obtain ⟨⟨k,v⟩,hkv,hkv2⟩:=List.mem_map.1 hzm
   simp only [Prod.mk.injEq] at hkv2
   obtain ⟨hk1,hv1⟩:=hkv2
   obtain ⟨s,t,rfl⟩:=List.append_of_mem hkv
   have hp:(s++(k,v)::t).Perm ((k,v)::(s++t)):=List.perm_middle
   have hf:=AX seen z hz2 es.toList hB.2.1 hz1
   have hrest:((es.toList.filter fun x => !(seen.push z.born).contains x.born).map fun x=>(x.key,x.val)).Perm (mI (s++t)):=by
    have h3:=(hf.map fun x:MapEntry=>(x.key,x.val)).symm.trans (g5.trans (hp.map fun p:Int×Value=>((.int .i64 p.1:Value),p.2)))
    rw [List.map_cons,List.map_cons,← hk1,← hv1] at h3
    exact h3.cons_inv
   rw [← hk1,← hv1]
   have hsame:Same w { w with drawn:=n,heap:=w.heap.setIfInBounds ib (.mapIter (some mb) ck (seen.push z.born) ck) }:=⟨rfl,rfl,rfl,hdn,by simp,om (b:=ib) (fun o ho=>by rw [g4'] at ho; cases ho; rfl) (fun o ho=>by
    have:(w.heap.setIfInBounds ib (.mapIter (some mb) ck (seen.push z.born) ck))[ib]? = some o:=ho
    simp [hlt] at this; rw [← this]; rfl) fun c hc=>dL w ib c _ hc⟩
   refine h1 k v (s++t) hp _ _ (hk.put _ hd) ⟨⟨hne,es,ck,seen.push z.born,?_,g2,hB,?_,hrest,fun p hp'=>?_⟩,hh'.2.1,?_⟩ (hw.trans hsame)
   ·show (w.heap.setIfInBounds ib _)[mb]? = _
    rw [Array.getElem?_setIfInBounds_ne (Ne.symm hne)]; exact g1'
   ·show (w.heap.setIfInBounds ib _)[ib]? = _
    simp [hlt]
   ·cases hp'
    exact ⟨z,hz1,by simp,hk1.symm,hv1.symm⟩
   ·exact bf.loc hh'.2.2 fun b hb=>(dL w ib b _ (fun q=>hh'.2.1 b (.inr q) hb)).symm
theorem v_entry {ty:TypeId} {x:Operand} {mb ib:Nat} {m left:List (Int×Value)} {k:Int} {v:Value} (hx:e.ev? x=some (.pointer (some ⟨ib,0,none⟩))) (hs:Sel h (mit mb ib m left (some (k,v))) h') :
  Vop c.P e h (.entry x) ty (.tuple #[.int .i64 k,v]):=
 ⟨by simp,by simp,fun ρ w d pos after g hρ hh=>by
  obtain ⟨_,es,ck,seen,g1,_,hB,g4,_,g6⟩:=(hh.sel hs).1
  obtain ⟨z,hz,hb,h1,h2⟩:=g6 _ rfl
  have:=run_entry_at (P:=c.P) (w:=w) g1 g4 hz hb hB.2.1
  rw [h1,h2] at this
  simp [execOp,hρ x _ hx,this]⟩
end
section
variable {c:Cx} {x:Code} {Q:Exit→Act→World→Prop} {e:Env} {h h':SH}
end
def xz (mb ib:Nat) (m left:List (Bs×Value)) (last:Option (Bs×Value)):Res where
 dom b:=b=mb∨b=ib
 ok f:=mb≠ib∧∃ es ck seen,f mb=some (.map es ck)∧es.toList.map (fun x:MapEntry=>(x.key,x.val))=kH m∧SBrn es ck m∧f ib=some (.mapIter (some mb) ck seen ck) ∧
  ((es.toList.filter fun x:MapEntry => !seen.contains x.born).map fun x:MapEntry=>(x.key,x.val)).Perm (kH left)∧∀ p,last=some p→∃ x∈es.toList,seen.back? = some x.born∧x.key=sv p.1∧x.val=p.2
 loc f g he:=fun ⟨hn,es,ck,seen,h1,h2,h3,h4,h5⟩=>⟨hn,es,ck,seen,by rw [← he mb (.inl rfl)]; exact h1,h2,h3,by rw [← he ib (.inr rfl)]; exact h4,h5⟩
 pres f:=fun ⟨_,es,ck,seen,h1,_,_,h4,_⟩ b hb=>by
  rcases hb with rfl | rfl
  ·rw [h1]; rfl
  ·rw [h4]; rfl
section
variable {c:Cx} {ops:Array Oper} {K:Act→World→Prop} {rest:List Oper} {e:Env} {h h':SH}
theorem AY {d : Nat} {T K' E ty : TypeId} {x : Operand} {pos : String} {after : Array Edge} {mb : Nat} {m : List (Bs × Value)} (hx : e.ev? x = some (.map (some mb))) (hT : MpS c.P T K' E) (hs : Sel h (mps mb m) h') (hd : d < c.n)
  (hnx:∀ ib,(m.map (·.1)).Nodup→St c ops K rest ((d,.pointer (some ⟨ib,0,none⟩))::e) (xz mb ib m m none::h')) :
  St c ops K (⟨some d,.range T x,ty,pos,after,none⟩::rest) e h :=
 dY (by simp) fun a w hk hh hw=>by
  have hh':=hh.sel hs
  obtain ⟨es,ck,h1,h2,hB⟩:=hh'.1
  have h1':w.heap[mb]? = some (.map es ck):=h1
  have hlt:mb<w.heap.size:=(Array.getElem?_eq_some_iff.1 h1').1
  have hr:=run_range_map (P:=c.P) w T K' E mb es ck hT.1 h1'
  simp only [execOp,hk.ev hx,Sem.run_bind,hr,Result.andThen_ok,Sem.run_pure]
  have hg:=Grew.alloc w (.mapIter (some mb) ck #[] ck) rfl
  refine hnx w.heap.size hB.2.2 _ _ (hk.put _ hd) ⟨⟨by omega,es,ck,#[],?_,h2,hB,?_,?_,fun p hp=>by cases hp⟩,fun b hb hd'=>?_,?_⟩ (hw.trans hg.toSame)
  ·show (w.alloc _).heap[mb]? = _
   rw [alloc_old w _ mb (by omega)]; exact h1'
  ·show (w.heap.push _)[w.heap.size]? = _
   simp
  ·have hf:(es.toList.filter fun x:MapEntry => !(#[]:Array Nat).contains x.born)=es.toList:=List.filter_eq_self.2 fun _ _=>by simp
   rw [hf,h2]
  ·rcases hb with rfl | rfl
   ·exact hh'.2.1 b Z hd'
   ·have:=Holds.lt (w:=w) hh'.2.2 hd'; omega
  ·exact bf.loc hh'.2.2 fun b hb=>(hg.block b (Holds.lt (w:=w) hh'.2.2 hb)).symm
theorem CP {d : Nat} {ty : TypeId} {x : Operand} {pos : String} {after : Array Edge} {mb ib : Nat} {m left : List (Bs × Value)} {last : Option (Bs × Value)} (hx : e.ev? x = some (.pointer (some ⟨ib, 0, none⟩))) (hs : Sel h (xz mb ib m left last) h') (hd : d < c.n)
  (h0:left=[]→St c ops K rest ((d,.tuple #[.bool false])::e) (xz mb ib m [] last::h'))
  (h1:∀ k v left',left.Perm ((k,v)::left')→St c ops K rest ((d,.tuple #[.bool true,sv k,v])::e) (xz mb ib m left' (some (k,v))::h')) :
  St c ops K (⟨some d,.next x false,ty,pos,after,none⟩::rest) e h :=
 dY (by simp) fun a w hk hh hw => by
  have hh':=hh.sel hs
  obtain ⟨hne,es,ck,seen,g1,g2,hB,g4,g5,g6⟩:=hh'.1
  have g1':w.heap[mb]? = some (.map es ck):=g1
  have g4':w.heap[ib]? = some (.mapIter (some mb) ck seen ck):=g4
  have hlt:ib<w.heap.size:=(Array.getElem?_eq_some_iff.1 g4').1
  rcases run_next_at (P:=c.P) g1' g4' hB.1 ty with ⟨q1,q2⟩ | ⟨z,hz,n,hdn,q2⟩
  ·simp only [execOp,hk.ev hx,Sem.run_bind,q2,Result.andThen_ok,Sem.run_pure]
   have hl:left=[]:=by
    rw [q1] at g5
    have:=g5.symm.eq_nil
    unfold kH at this
    simpa using this
   subst hl
   exact h0 Z _ _ (hk.put _ hd) hh' hw
  ·simp only [execOp,hk.ev hx,Sem.run_bind,q2,Result.andThen_ok,Sem.run_pure]
   have hz1:z∈es.toList:=(List.mem_filter.1 hz).1
   have hz2:seen.contains z.born=false:=by simpa using (List.mem_filter.1 hz).2
   have hzm:(z.key,z.val)∈kH left:=g5.mem_iff.1 (List.mem_map.2 ⟨z,hz,rfl⟩)
   obtain ⟨⟨k,v⟩,hkv,hkv2⟩:=List.mem_map.1 hzm
   simp only [Prod.mk.injEq] at hkv2
   obtain ⟨hk1,hv1⟩:=hkv2
   obtain ⟨s,t,rfl⟩:=List.append_of_mem hkv
   have hp:(s++(k,v)::t).Perm ((k,v)::(s++t)):=List.perm_middle
   have hf:=AX seen z hz2 es.toList hB.2.1 hz1
   have hrest:((es.toList.filter fun x => !(seen.push z.born).contains x.born).map fun x=>(x.key,x.val)).Perm (kH (s++t)):=by
    have h3:=(hf.map fun x:MapEntry=>(x.key,x.val)).symm.trans (g5.trans (hp.map fun p:Bs×Value=>((sv p.1:Value),p.2)))
    rw [List.map_cons,List.map_cons,← hk1,← hv1] at h3
    exact h3.cons_inv
   rw [← hk1,← hv1]
   have hsame:Same w { w with drawn:=n,heap:=w.heap.setIfInBounds ib (.mapIter (some mb) ck (seen.push z.born) ck) }:=⟨rfl,rfl,rfl,hdn,by simp,om (b:=ib) (fun o ho=>by rw [g4'] at ho; cases ho; rfl) (fun o ho=>by
    have:(w.heap.setIfInBounds ib (.mapIter (some mb) ck (seen.push z.born) ck))[ib]? = some o:=ho
    simp [hlt] at this; rw [← this]; rfl) fun c hc=>dL w ib c _ hc⟩
   refine h1 k v (s++t) hp _ _ (hk.put _ hd) ⟨⟨hne,es,ck,seen.push z.born,?_,g2,hB,?_,hrest,fun p hp'=>?_⟩,hh'.2.1,?_⟩ (hw.trans hsame)
   ·show (w.heap.setIfInBounds ib _)[mb]? = _
    rw [Array.getElem?_setIfInBounds_ne (Ne.symm hne)]; exact g1'
   ·show (w.heap.setIfInBounds ib _)[ib]? = _
    simp [hlt]
   ·cases hp'
    exact ⟨z,hz1,by simp,hk1.symm,hv1.symm⟩
   ·exact bf.loc hh'.2.2 fun b hb=>(dL w ib b _ (fun q=>hh'.2.1 b (.inr q) hb)).symm
theorem CQ {ty:TypeId} {x:Operand} {mb ib:Nat} {m left:List (Bs×Value)} {k:Bs} {v:Value} (hx:e.ev? x=some (.pointer (some ⟨ib,0,none⟩))) (hs:Sel h (xz mb ib m left (some (k,v))) h') :
  Vop c.P e h (.entry x) ty (.tuple #[sv k,v]):=
 ⟨by simp,by simp,fun ρ w d pos after g hρ hh=>by
  obtain ⟨_,es,ck,seen,g1,_,hB,g4,_,g6⟩:=(hh.sel hs).1
  obtain ⟨z,hz,hb,h1,h2⟩:=g6 _ rfl
  have:=run_entry_at (P:=c.P) (w:=w) g1 g4 hz hb hB.2.1
  rw [h1,h2] at this
  simp [execOp,hρ x _ hx,this]⟩
end
section
variable {c:Cx} {x:Code} {Q:Exit→Act→World→Prop} {e:Env} {h h':SH}
theorem Gc {mb ib:Nat} {m left:List (Bs×Value)} {last:Option (Bs×Value)} (s:Sel h (xz mb ib m left last) h') (hx:Cd c x Q e (mps mb m::h')):Cd c x Q e h:=fun a w hk hh hw=>by
 have hh':=hh.sel s
 obtain ⟨_,es,ck,seen,g1,g2,hB,_⟩:=hh'.1
 exact hx a w hk ⟨⟨es,ck,g1,g2,hB⟩,fun b hb=>hh'.2.1 b (.inl hb),hh'.2.2⟩ hw
end
end Go.Ck
namespace Go.Fl
open Go Go.RowKit Go.Ck Go.Proofs Go.Proofs.Tryz Go.Proofs.YtknmacdbffgjgaaGreatDoor Fx Go.Hr
abbrev BE:=Nm×Value×List (List Value)
def BN (E:List BE):Res:=Res.star (E.map fun e=>VR e.2.1 191 18 e.2.2)
def jZ (E:List BE):List (Nm×Value):=E.map fun e=>(e.1,e.2.1)
def BOk (Y:Res) (E:List BE) (cs:List Cm):Prop:=E.map (fun e=>e.1)=keys cs∧∀ e∈E,e.2.1.oneCell'=true∧Rws Y e.2.2 (under cs e.1)
theorem BOk.up {X Y:Res} {E:List BE} {cs:List Cm} (h:BOk X E cs) (he:Ext X Y):BOk Y E cs:=⟨h.1,fun e hm=>⟨(h.2 e hm).1,(h.2 e hm).2.up he⟩⟩
theorem jK (E:List BE):(jZ E).map (·.1)=E.map fun e=>e.1:=by simp [jZ]
theorem NQ {m:List (Nm×Value)} {n:Nm} {v:Value} (h:n ∉ m.map (·.1)):dZ m n v=m++[(n,v)]:=by
 induction m with
 | nil=>rfl
 | cons p t ih =>
  rw [List.map_cons,List.mem_cons,not_or] at h
  rw [dZ,if_neg (fun e=>h.1 e.symm),ih h.2]; rfl
theorem NS {m1 m2:List (Nm×Value)} {n:Nm} {v v2:Value} (h:n ∉ m1.map (·.1)):dZ (m1++(n,v)::m2) n v2=m1++(n,v2)::m2:=by
 induction m1 with
 | nil=>simp [dZ]
 | cons p t ih =>
  rw [List.map_cons,List.mem_cons,not_or] at h
  rw [List.cons_append,dZ,if_neg (fun e=>h.1 e.symm),ih h.2]; rfl
theorem Lt {m1 m2:List (Nm×Value)} {n:Nm} {v:Value} (h:n ∉ m1.map (·.1)):bJ (m1++(n,v)::m2) n=some v:=by
 unfold bJ
 have:m1.find? (fun p=>p.1 == n)=none:=by
  rw [List.find?_eq_none]
  intro p hp
  simp only [beq_iff_eq]
  exact fun e=>h (List.mem_map.2 ⟨p,hp,e⟩)
 rw [List.find?_append,this]
 simp
theorem Gf (E : List BE) (n : Nm) (hn : (E.map fun e => e.1).Nodup) : ∃ (v : Value) (rows : List (List Value)) (BO : Res) (F : Value → List (List Value) → List BE), (bJ (jZ E) n).getD (.slice none 0 0) = v ∧ (∀ t, Vw (BN E :: t) (VR v 191 18 rows :: BO :: t)) ∧ (∀ v2 r2 t, Vw (Res.star [VR v2 191 18 r2, BO] :: t) (BN (F v2 r2) :: t)) ∧ (∀ v2 r2, dZ (jZ E) n v2 = jZ (F v2 r2)) ∧
  ((n ∉ (E.map fun e=>e.1)∧rows=[]∧∀ v2 r2,F v2 r2=E++[(n,v2,r2)])∨∃ E1 E2,E=E1++(n,v,rows)::E2∧∀ v2 r2,F v2 r2=E1++(n,v2,r2)::E2):=by
 by_cases hm:n∈E.map fun e=>e.1
 ·obtain ⟨e, he, rfl⟩ := List.mem_map.1 hm
  obtain ⟨E1,E2,rfl⟩:=List.append_of_mem he
  obtain ⟨n,v,rows⟩:=e
  have h1:n ∉ E1.map fun e=>e.1:=fun h=>by
   rw [List.map_append,List.map_cons] at hn
   exact (List.nodup_append.1 hn).2.2 n h n (by simp) Z
  have h2:n ∉ (jZ E1).map (·.1):=by rw [jK]; exact h1
  have hb:∀ v2 r2,jZ (E1++(n,v2,r2)::E2)=jZ E1++(n,v2)::jZ E2:=fun v2 r2=>by simp [jZ]
  refine ⟨v,rows,Res.star ((E1++E2).map fun e=>VR e.2.1 191 18 e.2.2),fun v2 r2=>E1++(n,v2,r2)::E2,by rw [hb,Lt h2]; rfl,fun t w hh=>?_,fun v2 r2 t w hh=>?_,fun v2 r2=>by rw [hb,hb,NS h2],.inr ⟨E1,E2,Z,fun _ _=>rfl⟩⟩
  ·have h3:bf (hp w) (((E1++(n,v,rows)::E2).map fun e=>VR e.2.1 191 18 e.2.2)++t):=dA.1 hh
   have h4:bf (hp w) (((VR v 191 18 rows)::(E1++E2).map fun e=>VR e.2.1 191 18 e.2.2)++t):=(bf.perm (List.Perm.append_right t (by
    rw [List.map_append,List.map_cons,List.map_append]; exact List.perm_middle))).1 h3
   have h5:bf (hp w) (((E1++E2).map fun e=>VR e.2.1 191 18 e.2.2)++(VR v 191 18 rows::t)):=(bf.perm (by
    rw [List.cons_append]; exact List.perm_middle.symm)).1 h4
   have h6:=dA.2 h5
   exact (bf.perm (.swap _ _ _)).1 h6
  ·have h3:bf (hp w) ([VR v2 191 18 r2,Res.star ((E1++E2).map fun e=>VR e.2.1 191 18 e.2.2)]++t):=dA.1 hh
   have h4:=dA.1 ((bf.perm (.swap _ _ _)).1 h3)
   refine dA.2 ((bf.perm ?_).1 h4)
   rw [List.map_append,List.map_append,List.map_cons,List.append_assoc,List.append_assoc]
   refine List.Perm.append_left _ ?_
   rw [List.cons_append]
   exact List.perm_middle
 ·have h2:n ∉ (jZ E).map (·.1):=by rw [jK]; exact hm
  refine ⟨.slice none 0 0,[],BN E,fun v2 r2=>E++[(n,v2,r2)],by rw [zQ.2 h2]; rfl,fun t w hh=>hh.vr_nil 191 18,fun v2 r2 t w hh=>?_,fun v2 r2=>by rw [NQ h2]; simp [jZ],.inl ⟨hm,Z,fun _ _=>rfl⟩⟩
  have h3:bf (hp w) ([VR v2 191 18 r2,BN E]++t):=dA.1 hh
  have h4:=dA.1 ((bf.perm (.swap _ _ _)).1 h3)
  refine dA.2 ((bf.perm ?_).1 h4)
  rw [List.map_append,List.append_assoc]
  exact .refl _
theorem xA (cs:List Cm) (x:Cm):keys (cs++[x])=if x.mem.name∈keys cs then keys cs else keys cs++[x.mem.name]:=by
 unfold keys
 rw [List.map_append,List.map_cons,List.map_nil,ru]
 unfold Hr.step
 by_cases h:x.mem.name∈dd [] (cs.map fun x=>x.mem.name)
 ·rw [if_pos h,if_pos (by simpa using h)]
 ·rw [if_neg h,if_neg (by simpa using h)]
theorem o6 (cs:List Cm) (x:Cm) (n:Nm):under (cs++[x]) n=if x.mem.name=n then under cs n++[x] else under cs n:=by
 unfold under
 rw [List.filter_append]
 by_cases h:x.mem.name=n <;> simp [h]
theorem AZ {cs:List Cm} {n:Nm} (h:n ∉ keys cs):under cs n=[]:=by
 unfold under
 rw [List.filter_eq_nil_iff]
 intro x hx
 simp only [beq_iff_eq]
 exact fun e=>h (jX.2 ⟨x,hx,e⟩)
theorem NT {Y : Res} {E : List BE} {cs : List Cm} {x : Cm} {us : List Value} {v v2 : Value} {rows : List (List Value)} {F : Value → List (List Value) → List BE} (hb : BOk Y E cs) (hx : Enc.rep Y us x) (hv : v2.oneCell' = true)
  (hF:(x.mem.name ∉ (E.map fun e=>e.1)∧rows=[]∧∀ v2 r2,F v2 r2=E++[(x.mem.name,v2,r2)])∨∃ E1 E2,E=E1++(x.mem.name,v,rows)::E2∧∀ v2 r2,F v2 r2=E1++(x.mem.name,v2,r2)::E2):BOk Y (F v2 (rows++[us])) (cs++[x]):=by
 obtain ⟨hk,hr⟩:=hb
 rcases hF with ⟨h1,rfl,h3⟩ | ⟨E1,E2,rfl,h3⟩
 ·rw [h3]
  have h4:x.mem.name ∉ keys cs:=by rw [← hk]; exact h1
  refine ⟨by rw [xA,if_neg h4,List.map_append,hk]; rfl,fun e he=>?_⟩
  rcases List.mem_append.1 he with he | he
  ·have h5:e.1≠x.mem.name:=fun q=>h1 (q ▸ List.mem_map.2 ⟨e,he,rfl⟩)
   rw [o6,if_neg (fun q=>h5 q.symm)]
   exact hr e he
  ·rw [List.mem_singleton.1 he]
   dsimp only
   rw [o6,if_pos rfl,AZ h4]
   exact ⟨hv,Rws.nil.snoc hx⟩
 ·rw [h3]
  have h4:x.mem.name∈keys cs:=by rw [← hk]; simp
  have hnd:(E1.map (fun e=>e.1)++x.mem.name::E2.map fun e=>e.1).Nodup:=by
   have:=gW cs
   rw [← hk,List.map_append,List.map_cons] at this
   exact this
  refine ⟨by rw [xA,if_pos h4,← hk,List.map_append,List.map_append]; rfl,fun e he=>?_⟩
  have hother:∀ e∈E1++E2,e.1≠x.mem.name:=fun e he q=>by
   have h6:=List.nodup_append.1 hnd
   rcases List.mem_append.1 he with he | he
   ·exact h6.2.2 e.1 (List.mem_map.2 ⟨e,he,Z⟩) x.mem.name (by simp) q
   ·exact (List.nodup_cons.1 h6.2.1).1 (q ▸ List.mem_map.2 ⟨e,he,Z⟩)
  have hcase:e=(x.mem.name,v2,rows++[us])∨e∈E1++E2:=by
   rcases List.mem_append.1 he with he | he
   ·exact .inr (List.mem_append_left _ he)
   ·rcases List.mem_cons.1 he with he | he
    ·exact .inl he
    ·exact .inr (List.mem_append_right _ he)
  rcases hcase with rfl | he2
  ·dsimp only
   rw [o6,if_pos rfl]
   exact ⟨hv,(hr (x.mem.name,v,rows) (by simp)).2.snoc hx⟩
  ·rw [o6,if_neg (fun q=>hother e he2 q.symm)]
   exact hr e (by rcases List.mem_append.1 he2 with h | h <;> simp [h])
theorem NU {Y:Res} {E:List BE} {cs:List Cm} {n:Nm} {v:Value} {rows:List (List Value)} {F:Value→List (List Value)→List BE} (hb:BOk Y E cs) (hF:(n ∉ (E.map fun e=>e.1)∧rows=[]∧∀ v2 r2,F v2 r2=E++[(n,v2,r2)])∨∃ E1 E2,E=E1++(n,v,rows)::E2∧∀ v2 r2,F v2 r2=E1++(n,v2,r2)::E2):rows.length≤cs.length:=by
 rcases hF with ⟨_,rfl,_⟩ | ⟨E1,E2,rfl,_⟩
 ·simp
 ·rw [(hb.2 (n,v,rows) (by simp)).2.1]
  exact List.length_filter_le _ _
attribute [local irreducible] Go.Ck.Sub St Cd Xt Nx DrL LsW
section
variable {X Y:Res} {v v':Value} {us us':List Value}
theorem CS {mb:Nat} {uc:List Value}:Ct prog 171 #[.agg #[v,.map (some mb)],.agg uc.toArray] [] fun u h'=>∃ b1 b2,u = .func (.func 237) #[] #[.pointer (some ⟨b1,0,none⟩),.pointer (some ⟨b2,0,none⟩)]∧h'=[pt b1 (cl uc 44),pt b2 (cl [v,.map (some mb)] 114)]:=by
 refine aL (n:=6) func171 Z Z (len Z) fun hr w0=>?_
 refine cQ (aV Z Z fun b2=>?_)
 refine aV Z Z fun b3=>?_
 refine sV (vA9 Z) (sN (nK9 [2,3,4] Z (nT (cQ (sV (bY Z Z) (sV (vA9 Z) (sN (nK9 [4] Z (nT (cT ?_))))))))))
 exact aj Z ⟨_,_,Z,Z⟩ sbq
theorem en237:Ck.Enters prog 237:=enters_of func237 (by kernel_rfl) rfl

theorem xC {mb : Nat} {m : List (Nm × Value)} {fl : Nm → Fl} {l : FS} {c : FC} {uc : List Value} (hl : Ls X v l) (hc : Enc.rep X uc c) (hm : FlR X m fl) (hf : ∀ p ∈ c.pars, (ae l p.name).forms.length = p.args.length ∧ p.und.length ≤ 1099511627776) (hb : (comes fl l c).length * 280 ≤ 1099511627776) :
  CtX prog 113 #[.agg #[v,.map (some mb)],.agg uc.toArray] X [mps mb m] fun u Y k'=>∃ bm E,u = .map (some bm)∧k'=[mps mb m,mps bm (jZ E),BN E]∧BOk Y E (comes fl l c):=by
 have hml:maxLen=9223372036854775807:=rfl
 have hcl:uc.length=7:=Enc.len hc
 unfold CtX
 refine qw (n:=25) func113 Z Z (len Z) fun hr w0=>?_
 refine cQ (aV Z Z fun b2=>?_)
 refine aV Z Z fun b3=>?_
 refine sV (vA9 Z) (sN (nK9 [2,3,4] Z (nT (cQ (eu (ltn Z) fun bm=>?_)))))
 refine au al188 fun b5=>?_
 refine aX Z Z sz188 ?_
 refine sN (nK9 [2,3,4,5] Z (nT (cS (cQ (sV (ag Z gT Z af) ?_)))))
 refine sV (ag Z gG hcl af) ?_
 refine aH Z Z en171 Z (CS (v:=v) (mb:=mb) (uc:=uc)) ?_
 rintro u h' ⟨c1,c2,rfl,rfl⟩
 simp only [lC,lN]
 refine sN (nK9 [4,5,10] Z (nT (cB (dK (eD (L:=[])) (iU Z en237 fun yl db rec hst hpe hps hasg hbo hkn2=>?_)))))
 refine ⟨_,Ct.perm (Ga (σ := List BE) (mb:=mb) (b1:=c1) (b2:=c2) (yl:=yl) (fun E=>pt yl (.loop rec)::pt db (.deferred (some []))::pt b5 (cl [.map (some bm)] 188)::mps bm (jZ E)::BN E::pt b3 (cl uc 44)::pt b2 (cl [v,.map (some mb)] 114)::hr)
  (fun k Y E=>BOk Y E ((comes fl l c).take k)) (fun _ _ _=>False) [] ⟨rfl,fun e he=>by cases he⟩ hl hc hm hf ?_ (fun _ _ _ _ he h=>h.up he)) ?_,?_⟩
 ·rintro k Y E x us hx hE hrep hbk
  have hone:=Enc.ones hrep
  have hlt:=(List.getElem?_eq_some_iff.1 hx).1
  have htk:(comes fl l c).take (k+1)=(comes fl l c).take k++[x]:=by rw [bV hlt,(List.getElem?_eq_some_iff.1 hx).2]
  obtain ⟨v1,rows,BO,F,hlook,hV1,hV2,hsupd,hcase⟩:=Gf E x.mem.name (by rw [hbk.1]; exact gW _)
  have hrl:=NU hbk hcase
  rw [List.length_take] at hrl
  have hstep:=fun (v2:Value) (hv2:v2.oneCell'=true)=>NT (us:=us) hbk hrep hv2 hcase
  obtain ⟨x2,x5,xy,x11,x12,x13,rfl,hxm⟩:=gX hrep
  unfold nX at *
  refine Yc.perm (qo (n:=25) (rec:=rec) (args:=[.agg [sv x.og.par,sv x.og.name,.int .i64 x.par,sv x.mem.name,.int .i64 x.mem.kind,x2,sv x.mem.impl.cls,sv x.mem.impl.name,x5,.int .i64 x.mem.ty.kind,sv x.mem.ty.name,xy,.bool x.mem.ty.void,.bool x.mem.ty.sep,x11,x12,x13,.int .i64 x.was].toArray]) (hf:=pt db (.deferred (some []))::pt b5 (cl [.map (some bm)] 188)::mps bm (jZ E)::BN E::Y::mps mb m::pt b3 (cl uc 44)::pt b2 (cl [v,.map (some mb)] 114)::hr) (by rw [hps]; rfl) hkn2 (by rw [hps]; decide) ?_) (by exact (by repeat (first | exact Pm.refl | refine Pm.cons slq ?_):Pm _ _).perm)
  intro hr2 w1
  rw [hasg,hps,hbo]
  simp only [lC,lN]
  refine cR (au qF fun b6=>?_)
  refine ai Z Z l9 Z hone ?_
  refine sN (nK9 [4,5,6] Z (ax (kY Z slq (by first | rfl | assumption) ?_)))
  refine cB (dK (Vw.sel (r:=BN E) slq (hV1 _)) ?_)
  refine jd (ork [(0,1),(1,2),(2,2),(3,1),(4,1),(5,2),(6,2),(7,1),(8,1),(9,1),(10,0),(11,0),(12,0)] .nil) (fun i => !(Nat.beq i 12)) [pt b5 (cl [.map (some bm)] 188),pt b6 (cl [sv x.og.par,sv x.og.name,.int .i64 x.par,sv x.mem.name,.int .i64 x.mem.kind,x2,sv x.mem.impl.cls,sv x.mem.impl.name,x5,.int .i64 x.mem.ty.kind,sv x.mem.ty.name,xy,.bool x.mem.ty.void,.bool x.mem.ty.sep,x11,x12,x13,.int .i64 x.was] 191),mps bm (jZ E)] mixed (by kernel_rfl) ?_
  refine bu Z (vY Z qC) ?_
  refine dV Z (vF Z dN Z) (dV Z (vF Z eH Z) (bu Z (vY Z ld9) ?_))
  refine bu Z (vY Z qC) ?_
  refine dV Z (vF Z dN Z) (dV Z (vF Z eH Z) (bu Z (vY Z ld9) ?_))
  refine bu Z (gB hlook (bI Z Z rV sD slq)) ?_
  refine bu Z (ag Z gU Z af) ?_
  refine aQ Z (ak (cells:=[sv x.og.par,sv x.og.name,.int .i64 x.par,sv x.mem.name,.int .i64 x.mem.kind,x2,sv x.mem.impl.cls,sv x.mem.impl.name,x5,.int .i64 x.mem.ty.kind,sv x.mem.ty.name,xy,.bool x.mem.ty.void,.bool x.mem.ty.sep,x11,x12,x13,.int .i64 x.was]) Z underlying187 zV Z Z (by kernel_rfl) (ltn Z) fun b22=>aW ?_)
  refine aQ Z (dU [[sv x.og.par,sv x.og.name,.int .i64 x.par,sv x.mem.name,.int .i64 x.mem.kind,x2,sv x.mem.impl.cls,sv x.mem.impl.name,x5,.int .i64 x.mem.ty.kind,sv x.mem.ty.name,xy,.bool x.mem.ty.void,.bool x.mem.ty.sep,x11,x12,x13,.int .i64 x.was]] Z Z underlying187 zV Z (by decide) (show Sel _ (VR v1 191 18 rows) _ from slq) (by simp) Z (fun j u2 hu2=>bP (bU (by simpa using hu2))) (by simpa using hone) (by omega) (by omega) (ltn Z) fun w2 hw2 _=>aW ?_)
  refine aQ Z (cu Z Z Z rV slq (aW ?_))
  rw [hsupd]
  refine bA (nK9 [4] Z (ax (xB (kz (fq (L:=[VR w2 191 18 (rows++[[sv x.og.par,sv x.og.name,.int .i64 x.par,sv x.mem.name,.int .i64 x.mem.kind,x2,sv x.mem.impl.cls,sv x.mem.impl.name,x5,.int .i64 x.mem.ty.kind,sv x.mem.ty.name,xy,.bool x.mem.ty.void,.bool x.mem.ty.sep,x11,x12,x13,.int .i64 x.was]]),BO])) ?_))))
  simp only [lC,lN]
  refine jv (hV2 _ _ _) (dn slq (.inl ⟨Z,Y,_,Ext.refl Y,by rw [htk]; exact hstep w2 hw2,Z⟩) ?_)
  rw [dx hst hpe]
  exact sbq
 ·exact (by repeat (first | exact Pm.refl | refine Pm.cons slq ?_):Pm _ _).perm
 ·rintro u h' ⟨rfl,(⟨Y,E,hE,hbk,rfl⟩ | ⟨k,Y,t,_,hS,rfl⟩)⟩
  ·rw [List.take_length] at hbk
   refine ⟨rec,_,slq,(by rw [hst]; simp),?_⟩
   rw [hpe]
   dsimp only
   refine xB (xT (cQ (sV (vY Z qC) ?_)))
   refine sV (vA9 Z) (sN (nK9 [4] Z (nT (cT ?_))))
   exact jN (bs:=[db]) Z Z ⟨Y,_,Z,hE,bm,E,Z,Z,hbk⟩ sbq
  ·exact hS.elim
end
end Go.Fl
namespace Go.Fl
open Go Go.RowKit Go.Ck Go.Proofs Go.Proofs.Tryz Go.Proofs.YtknmacdbffgjgaaGreatDoor Fx Go.Hr

def Ir:Go.Shelf.Ren:={
 f:=fun | 6=>124 | 15=>202 | 14=>201 | 28=>258 | 29=>259 | 20=>250 | 21=>251 | 22=>252 | 23=>253 | 24=>254 | 25=>255 | 26=>256 | 27=>257 | 46=>289 | 47=>290 | 48=>291 | 49=>292 | 50=>293 | 57=>304 | n=>n
 t:=fun | 22=>52 | 24=>75 | 25=>204 | 3=>3 | 39=>275 | 0=>0 | 53=>322 | 55=>324 | 4=>4 | 46=>316 | 45=>315 | 50=>222 | 5=>5 | 9=>9 | 66=>345 | 70=>349 | 76=>365 | 77=>366 | n=>n
 g:=fun n=>n }
theorem laysMb:Go.Proofs.SlLaysF0.n6 prog Ir:={
 mixed:=rfl
 f6 := bN "slices.SortFunc[[]cosigner/api.Member,cosigner/api.Member]" rfl (func124.trans (congrArg some (by kernel_rfl)))
 f14 := bN "slices.pdqsortCmpFunc[cosigner/api.Member]" rfl (func201.trans (congrArg some (by kernel_rfl)))
 f15:=func202.trans (congrArg some (by kernel_rfl))
 f20 := bN "slices.insertionSortCmpFunc[cosigner/api.Member]" rfl (func250.trans (congrArg some (by kernel_rfl)))
 f21 := bN "slices.heapSortCmpFunc[cosigner/api.Member]" rfl (func251.trans (congrArg some (by kernel_rfl)))
 f22 := bN "slices.breakPatternsCmpFunc[cosigner/api.Member]" rfl (func252.trans (congrArg some (by kernel_rfl)))
 f23 := bN "slices.choosePivotCmpFunc[cosigner/api.Member]" rfl (func253.trans (congrArg some (by kernel_rfl)))
 f24 := bN "slices.reverseRangeCmpFunc[cosigner/api.Member]" rfl (func254.trans (congrArg some (by kernel_rfl)))
 f25 := bN "slices.partialInsertionSortCmpFunc[cosigner/api.Member]" rfl (func255.trans (congrArg some (by kernel_rfl)))
 f26 := bN "slices.partitionEqualCmpFunc[cosigner/api.Member]" rfl (func256.trans (congrArg some (by kernel_rfl)))
 f27 := bN "slices.partitionCmpFunc[cosigner/api.Member]" rfl (func257.trans (congrArg some (by kernel_rfl)))
 f28:=func258.trans (congrArg some (by kernel_rfl))
 f29:=func259.trans (congrArg some (by kernel_rfl))
 f46 := bN "slices.siftDownCmpFunc[cosigner/api.Member]" rfl (func289.trans (congrArg some (by kernel_rfl)))
 f47:=func290.trans (congrArg some (by kernel_rfl))
 f48:=func291.trans (congrArg some (by kernel_rfl))
 f49 := bN "slices.medianAdjacentCmpFunc[cosigner/api.Member]" rfl (func292.trans (congrArg some (by kernel_rfl)))
 f50 := bN "slices.medianCmpFunc[cosigner/api.Member]" rfl (func293.trans (congrArg some (by kernel_rfl)))
 f57 := bN "slices.order2CmpFunc[cosigner/api.Member]" rfl (func304.trans (congrArg some (by kernel_rfl)))
 t0:=underlying0
 a0:=isAgg0
 z0:=sizeOf0
 v0:=zeroValue0
 t3:=underlying3
 a3:=isAgg3
 z3:=sizeOf3
 v3:=zeroValue3
 t4:=underlying4
 a4:=isAgg4
 z4:=sizeOf4
 v4:=zeroValue4
 t5:=underlying5
 a5:=isAgg5
 z5:=sizeOf5
 v5:=zeroValue5
 t9:=underlying9
 a9:=isAgg9
 z9:=sizeOf9
 v9:=zeroValue9
 t22:=underlying52
 a22:=isAgg52
 z22:=sizeOf52
 v22:=zeroValue52
 t25:=underlying204
 a25:=isAgg204
 z25:=sizeOf204
 v25:=zeroValue204
 t39:=underlying275
 a39:=isAgg275
 z39:=sizeOf275
 v39:=zeroValue275
 t45:=underlying315
 a45:=isAgg315
 z45:=sizeOf315
 v45:=zeroValue315
 t46:=underlying316
 a46:=isAgg316
 z46:=sizeOf316
 v46:=zeroValue316
 t50:=underlying222
 a50:=isAgg222
 z50:=sizeOf222
 v50:=zeroValue222
 t53:=underlying322
 a53:=isAgg322
 z53:=sizeOf322
 v53:=zeroValue322
 t55:=underlying324
 a55:=isAgg324
 z55:=sizeOf324
 v55:=zeroValue324
 t66:=underlying345
 a66:=isAgg345
 z66:=sizeOf345
 v66:=zeroValue345
 t70:=underlying349
 a70:=isAgg349
 z70:=sizeOf349
 v70:=zeroValue349
 t76:=underlying365
 a76:=isAgg365
 z76:=sizeOf365
 v76:=zeroValue365
 t77:=underlying366
 a77:=isAgg366
 z77:=sizeOf366
 v77:=zeroValue366 }
abbrev MC:Type:={ p:Mb×List Value // p.2.length=14∧p.2.all Value.oneCell'=true∧p.2[0]? = some (sv p.1.name) }
instance:Inhabited MC:=⟨⟨(mb0,sv []::List.replicate 13 (.bool false)),rfl,rfl,rfl⟩⟩
def Gg (a b:MC):Int:=qI a.1.1.name b.1.1.name
theorem Gh (a b:Nm):(qI a b<0)↔lt a b=true:=by
 unfold qI
 rcases dP a b with h | h | h
 ·simp [h]
 ·rw [h]; simp [lt_irrefl]
 ·simp [h,iB h]
theorem swoMC:Sort.SWO (ltOf Gg):=by
 have key:∀ x y,ltOf Gg x y=lt x.1.1.name y.1.1.name:=fun x y=>by
  unfold ltOf Gg
  rw [Bool.eq_iff_iff,decide_eq_true_iff,Gh]
 refine ⟨fun x=>by rw [key,lt_irrefl],fun x y z h1 h2=>by rw [key] at *; exact lt_trans h1 h2,fun x y z h1 h2=>?_⟩
 rw [key] at *
 cases h3:lt x.1.1.name z.1.1.name with
 | false=>rfl
 | true =>
  rcases dP x.1.1.name y.1.1.name with h4 | h4 | h4
  ·rw [h1] at h4; cases h4
  ·rw [h4,h2] at h3; cases h3
  ·rw [lt_trans h4 h3] at h2; cases h2
attribute [local irreducible] Go.Ck.Sub St Cd Xt Nx DrL LsW
section
variable {X Y:Res} {v v':Value} {us us':List Value}
theorem Lu (a b:MC):Reads prog 125 #[.agg a.1.2.toArray,.agg b.1.2.toArray] [] (.int .i64 (Gg a b)):=by
 obtain ⟨⟨n,us⟩,h1,h2,h3⟩:=a
 obtain ⟨⟨n',us'⟩,h1',h2',h3'⟩:=b
 dsimp only at h1 h2 h3 h1' h2' h3' ⊢
 obtain ⟨c,t,rfl⟩:∃ c t,us=c::t:=by cases us with | nil=>cases h1 | cons c t=>exact ⟨c,t,rfl⟩
 obtain ⟨c',t',rfl⟩:∃ c t,us'=c::t:=by cases us' with | nil=>cases h1' | cons c t=>exact ⟨c,t,rfl⟩
 obtain rfl:c=sv n.name:=by simpa using h3
 obtain rfl:c'=sv n'.name:=by simpa using h3'
 unfold Gg
 refine aL (n:=10) func125 Z Z (len Z) fun hr w0=>?_
 refine cQ (aV Z Z fun b2=>?_)
 refine aV Z Z fun b3=>?_
 refine sV (vA9 Z) (sN (nK9 [2,3,4] Z (nT (cQ (sV (vF Z eH Z) (sV (vY Z ld9) ?_))))))
 refine sV (vF Z eH Z) (sV (vY Z ld9) ?_)
 refine bg Z Z JN Z (zk n.name n'.name) ?_
 refine sV (vA9 Z) (sN (nK9 [4] Z (nT (cT ?_))))
 exact aj Z ⟨Z,Z⟩ sbq
theorem mb_name {m:Mb} (h:Enc.rep X us m):us.length=14∧us.all Value.oneCell'=true∧us[0]? = some (sv m.name):=by
 refine ⟨Enc.len h,Enc.ones h,?_⟩
 obtain ⟨x2,x5,xy,x11,x12,x13,rfl,_⟩:=dJ h
 rfl
theorem Iu {Y:Res} {v:Value} {rows:List (List Value)} {ms:List Mb} (hr:Rws Y rows ms) (hn:(ms.map fun m=>m.name).Nodup) (hl:ms.length≤1099511627776):Ct prog 124 #[v,.func (.func 125) #[] #[]] [VR v 75 14 rows] fun u h'=>u = .tuple #[]∧∃ rows',Rws Y rows' (qO ms)∧rows'.length=rows.length∧h'=[VR v 75 14 rows']:=by
  have hex : ∃ xs : List MC, xs.map (fun x => x.1.2) = rows ∧ xs.map (fun x => x.1.1) = ms ∧ ∀ x ∈ xs, Enc.rep Y x.1.2 x.1.1 := by
    obtain ⟨hlen,hr⟩:=hr
    clear hn hl
    induction rows generalizing ms with
    | nil => have : ms = [] := by cases ms with | nil => rfl | cons _ _ => cases hlen
             subst this; exact ⟨[],rfl,rfl,fun x hx=>by cases hx⟩
    | cons r t ih =>
      cases ms with
      | nil=>cases hlen
      | cons m mt =>
        have h0:=hr 0 r m rfl rfl
        have h1:=mb_name h0
        obtain ⟨xs,h2,h3,h4⟩:=ih (ms:=mt) (by simpa using hlen) fun j us x g1 g2=>hr (j+1) us x g1 g2
        refine ⟨⟨(m,r),h1⟩::xs,by rw [List.map_cons,h2],by rw [List.map_cons,h3],fun x hx=>?_⟩
        rcases List.mem_cons.1 hx with rfl | hx
        · exact h0
        · exact h4 x hx
  obtain ⟨xs,hx1,hx2,hx3⟩:=hex
  have hxl:xs.length=ms.length:=by have:=congrArg List.length hx2; simpa using this
  have h:=F9 (E:=75) (v:=v) laysMb (k:=14) isAgg75 sizeOf75 (enc:=fun x:MC=>x.1.2) (fun x=>x.2.1) (fun x u hu=>List.all_eq_true.1 x.2.2.1 u hu) swoMC (g:=125) (enters_of func125 (by kernel_rfl) rfl) (fun x y=>Lu x y) (xs:=xs) (by omega)
  rw [hx1] at h
  refine Ct.mono h ?_
  rintro u h' ⟨rfl,ys,hp,hs,rfl⟩
  refine ⟨Z,_,?_,by rw [← hx1,List.length_map,List.length_map]; exact hp.length_eq,Z⟩
  have hpm:(ys.map fun y=>y.1.1).Perm ms:=by rw [← hx2]; exact hp.map _
  have hnd:((ys.map fun y=>y.1.1).map fun m=>m.name).Nodup:=(hpm.map _).nodup_iff.2 hn
  have hsrt:rO (ys.map fun y=>y.1.1):=by
    unfold rO
    rw [List.pairwise_map]
    rw [List.map_map] at hnd
    have h7:=List.pairwise_map.1 hnd
    refine (hs.and h7).imp fun {a b} hab=>?_
    rcases dP a.1.1.name b.1.1.name with g | g | g
    · exact g
    · exact absurd g hab.2
    · exact (hab.1 ((Gh _ _).2 g)).elim
  have he:(ys.map fun y=>y.1.1)=qO ms:=yD hsrt (iO hn).1 fun m=>by rw [(iO hn).2,hpm.mem_iff]
  rw [← he]
  refine ⟨by simp,fun j us x g1 g2=>?_⟩
  rw [List.getElem?_map] at g1 g2
  cases hj:ys[j]? with
  | none=>rw [hj] at g1; cases g1
  | some y =>
    rw [hj] at g1 g2
    cases g1; cases g2
    exact hx3 y (hp.mem_iff.1 (List.mem_of_getElem? hj))
end
end Go.Fl
namespace Go.Fl
open Go Go.RowKit Go.Ck Go.Proofs Go.Proofs.Tryz Go.Proofs.YtknmacdbffgjgaaGreatDoor Fx Go.Hr
theorem Kc {Y Y2:Res} {E:List BE} {cs:List Cm} (hb:BOk Y E cs) (he:Ext Y Y2) (hok:∃ f,(BN E).ok f) (hr:∀ p u,Rd (BN E) p u→Rd Y2 p u) (hs:cs.length * 280≤1099511627776):∀ e∈E,Ls Y2 e.2.1 (under cs e.1):=fun e hm=>by
 obtain ⟨s,t,rfl⟩:=List.append_of_mem hm
 have hrw:=(hb.2 e hm).2.up he
 have hul:(under cs e.1).length≤cs.length:=List.length_filter_le _ _
 have hrb:reachBytes=140737488351232:=rfl
 have hsel:∀ (s t:List BE),Sel ((s++e::t).map fun e=>VR e.2.1 191 18 e.2.2) (VR e.2.1 191 18 e.2.2) ((s++t).map fun e=>VR e.2.1 191 18 e.2.2):=fun s t=>by
  induction s with
  | nil=>exact .here
  | cons a s ih=>exact .there ih
 have h9:(under cs e.1).length * 280≤140737488351232:=by omega
 rw [← hrb] at h9
 have hrd2:∀ p u,Rd (VR e.2.1 191 18 e.2.2) p u→Rd Y2 p u:=fun p u h=>hr p u (by unfold BN; exact ry (hsel s t) h)
 refine Rws.ls (E:=191) hrw ?_ hrd2 h9
 obtain ⟨f,hf⟩:=hok
 have h1:bf f ((s++e::t).map fun e=>VR e.2.1 191 18 e.2.2):=hf
 exact ⟨f,((bf.perm (hsel s t).perm).1 h1).1⟩
theorem A7 (cs:List Cm):(keys cs).length≤cs.length:=by
 have:∀ ys:List Cm,(keys ys.reverse).length≤ys.reverse.length:=fun ys=>by
  induction ys with
  | nil=>simp [keys,dd]
  | cons y t ih =>
   rw [List.reverse_cons,xA]
   split <;> simp at ih ⊢ <;> omega
 simpa using this cs.reverse
theorem A8 {β : Type} (f:Cm→List β) (cs:List Cm) (n:Nm):((under cs n).flatMap f).length≤(cs.flatMap f).length:=by
 unfold under
 induction cs with
 | nil=>simp
 | cons x t ih =>
  rw [List.filter_cons]
  split <;> simp only [List.flatMap_cons,List.length_append] <;> omega
theorem Iw {xs ys:List Mb} (hp:xs.Perm ys) (hn:(ys.map fun m=>m.name).Nodup):qO xs=qO ys:=by
 have hn':(xs.map fun m=>m.name).Nodup:=(hp.map _).nodup_iff.2 hn
 exact yD (iO hn').1 (iO hn).1 fun m=>by rw [(iO hn').2,(iO hn).2,hp.mem_iff]
theorem zo {Y:Res} {E:List BE} {cs:List Cm} (hk:E.map (fun e=>e.1)=keys cs) (h:∀ e∈E,Ls Y e.2.1 (under cs e.1)) (n:Nm):Ls Y ((bJ (jZ E) n).getD (.slice none 0 0)) (under cs n):=by
 obtain ⟨v,rows,BO,F,h1,-,-,-,h5⟩:=Gf E n (by rw [hk]; exact gW _)
 rw [h1]
 rcases h5 with ⟨h6,-,-⟩ | ⟨E1,E2,rfl,-⟩
 ·have h7:bJ (jZ E) n=none:=zQ.2 (by rw [jK]; exact h6)
  rw [h7] at h1
  rw [AZ (by rw [← hk]; exact h6),← h1]
  exact Ls.nil
 ·exact h (n,v,rows) (by simp)
def Mid1 (Y:Res) (rows:List (List Value)) (cs:List Cm) (c:FC) (left:List (Nm×Value)):Prop:=∃ ds:List Nm,Rws Y rows ((ds.filter fun n=>(feat c n).isNone).map fun n=>joined (under cs n))∧(ds++left.map (fun p=>p.1)).Perm (keys cs)
theorem Mid1.len {Y:Res} {rows:List (List Value)} {cs:List Cm} {c:FC} {left:List (Nm×Value)} (h:Mid1 Y rows cs c left):rows.length≤cs.length:=by
 obtain ⟨ds,h1,h2⟩:=h
 have h3:=h2.length_eq
 have h4:=A7 cs
 have h5:=List.length_filter_le (fun n=>(feat c n).isNone) ds
 rw [h1.1,List.length_map]
 rw [List.length_append] at h3
 omega
attribute [local irreducible] Go.Ck.Sub St Cd Xt Nx DrL LsW
section
variable {X Y:Res} {v v':Value} {us us':List Value}

theorem A9 {mb : Nat} {m : List (Nm × Value)} {fl : Nm → Fl} {l : FS} {c : FC} {uc : List Value} (hl : Ls X v l) (hc : Enc.rep X uc c) (hm : FlR X m fl) (hf : ∀ p ∈ c.pars, (ae l p.name).forms.length = p.args.length ∧ p.und.length ≤ 1099511627776) (hb : (comes fl l c).length * 280 ≤ 1099511627776) (hn : (c.feats.map fun f => f.name).Nodup)
  (hbS:(mU (comes fl l c)).length * 32≤1099511627776) (hbP:((comes fl l c).flatMap fun x=>x.mem.pre).length * 40≤1099511627776) (hbQ:((comes fl l c).flatMap fun x=>x.mem.post).length * 40≤1099511627776) (hbF:c.feats.length * 256≤1099511627776) :
  CtX prog 57 #[.agg #[v,.map (some mb)],.agg uc.toArray] X [mps mb m] fun u Y k'=>k'=[mps mb m]∧Ls Y u (members (comes fl l c) c):=by
 have hml:maxLen=9223372036854775807:=rfl
 have hrb:reachBytes=140737488351232:=rfl
 have hby:=xC (mb:=mb) hl hc hm hf hb
 have hc0:=hc
 obtain ⟨ca,cb,ce,cf,ci,rfl,hca,hcb,hce,hcf,hci⟩:=gq hc
 obtain ⟨cf,cfk,rfl,hcfl,_⟩:=id hcf.form
 have hkl:=A7 (comes fl l c)
 have hraw:=Cr (comes fl l c) hn
 have hmem:members (comes fl l c) c=qO (sZ (comes fl l c) c):=rfl
 rw [hmem]
 have hSu:=fun n=>A8 (fun x=>x.mem.seeds) (comes fl l c) n
 have hPu:=fun n=>A8 (fun x=>x.mem.pre) (comes fl l c) n
 have hQu:=fun n=>A8 (fun x=>x.mem.post) (comes fl l c) n
 unfold mU at hbS
 generalize comes fl l c=cs at hb hbS hbP hbQ hkl hraw hSu hPu hQu hby ⊢
 unfold CtX at hby ⊢
 refine aL (n:=58) func57 Z Z (len Z) fun hr w0=>?_
 refine cQ (aV Z Z fun b2=>?_)
 refine aV Z Z fun b3=>?_
 refine sV (vA9 Z) (sN (nK9 [2,3,4] Z (nT (cQ (sV (ag Z gT Z af) ?_)))))
 refine sV (ag Z gG Z af) ?_
 refine aH Z Z JK Z (hby) ?_
 rintro u h' ⟨Y,k',rfl,hE,bm,E,rfl,rfl,hbk⟩
 simp only [lC,lN]
 refine sV (vA9 Z) (sN (nK9 [3,4,5] Z (nT (cQ (sV (vA9 Z) (sN (nT (cS (cS (fI (r:=BN E) slq fun hokE=>?_))))))))))
 refine HV [BN E] Y fun Y2 hE2 hsel=>?_
 have hls:=Kc hbk hE2 hokE (hsel _ _ .here) hb
 have hlk:=zo hbk.1 hls
 have hk0:=hbk.1
 refine dK (cz 75 14) (cR (sM Z (AY Z rV slq (ltn Z) fun ib hndE=>?_)))
 refine sN (nK9 [3,4,5,6,17] Z (nT (cB (aZ (σ := Value×List (List Value)×Res×List (Nm×Value)×Option (Nm×Value)) (fun q=>[(3,.pointer (some ⟨b3,0,none⟩)),(5,.map (some bm)),(6,q.1),(17,.pointer (some ⟨ib,0,none⟩))]) (fun q=>xz bm ib (jZ E) q.2.2.2.1 q.2.2.2.2::VR q.1 75 14 q.2.1::pt b3 (cl [sv c.name,.bool c.dfd,ca,cb,ce,.slice cf c.feats.length cfk,ci] 44)::q.2.2.1::mps mb m::hr) (fun q=>q.1.oneCell'=true∧Ext Y2 q.2.2.1∧Mid1 q.2.2.1 q.2.1 cs c q.2.2.2.1∧∀ p∈q.2.2.2.1,p∈jZ E) (fun q=>q.2.2.2.1.length) (.slice none 0 0,[],Y2,jZ E,none) ⟨Z,Ext.refl Y2,⟨[],Rws.nil,by rw [List.nil_append,jK,hk0]⟩,fun p hp=>hp⟩ ?_))))
 rintro ⟨w,rows,Zq9,left,last⟩ ⟨hw,hE3,hmid,hsub⟩
 simp only at hw hE3 hmid hsub
 dsimp only
 refine cQ (CP Z slq (ltn Z) (fun hl0=>?_) (fun k v1 left' hp=>?_))
 ·subst hl0
  obtain ⟨ds,hr0,hds⟩:=hmid
  rw [List.map_nil,List.append_nil] at hds
  have hfin:(((ds.filter fun n=>(feat c n).isNone).map fun n=>joined (under cs n))++c.feats.map fun f=>jH c f (under cs f.name)).Perm (sZ cs c):=((hds.filter _).map _).append_right _
  generalize ((ds.filter fun n=>(feat c n).isNone).map fun n=>joined (under cs n))=ms0 at hr0 hfin
  have hnfin:=(hfin.map fun m=>m.name).nodup_iff.2 hraw
  have hlen0:ms0.length+c.feats.length≤cs.length+c.feats.length:=by
   have:=hfin.length_eq
   simp only [List.length_append,List.length_map] at this
   have h8:(sZ cs c).length≤cs.length+c.feats.length:=by
    unfold sZ
    rw [List.length_append,List.length_map,List.length_map]
    have:=List.length_filter_le (fun n=>(feat c n).isNone) (keys cs)
    omega
   omega
  have hlenF:=hfin.length_eq
  rw [List.length_append,List.length_map] at hlenF
  refine sV (ah Z Z) (sN (nK9 [3,5,6,17,19] Z (nT (cS (aG Z ?_)))))
  refine aB (xE (xE (xY (xT (cS (cS (Gc slq ?_)))))))
  refine cR (sV (vF Z ko Z) (sV (vY Z yS) ?_))
  refine sV (aF Z underlying41) (sM Z (sN (nK9 [3,5,6,38,39,40] Z (nT (cB (aZ (σ := Value×List (List Value)×Res×Nat) (fun q=>[(3,.pointer (some ⟨b3,0,none⟩)),(5,.map (some bm)),(6,q.1),(38,.slice cf c.feats.length cfk),(39,.int .i64 c.feats.length),(40,.int .i64 (q.2.2.2:Nat))]) (fun q=>mps bm (jZ E)::VR q.1 75 14 q.2.1::pt b3 (cl [sv c.name,.bool c.dfd,ca,cb,ce,.slice cf c.feats.length cfk,ci] 44)::q.2.2.1::mps mb m::hr) (fun q=>q.1.oneCell'=true∧Ext Y2 q.2.2.1∧Rws q.2.2.1 q.2.1 (ms0++(c.feats.take q.2.2.2).map fun f=>jH c f (under cs f.name))∧q.2.2.2≤c.feats.length) (fun q=>c.feats.length - q.2.2.2) (w,rows,Zq9,0) ⟨hw,hE3,by simpa using hr0,Nat.zero_le _⟩ ?_))))))
  rintro ⟨w,rows,Zq9,i⟩ ⟨hw,hE3,hro,hi⟩
  simp only at hw hE3 hro hi
  dsimp only
  refine cQ (sV (aO Z Z) (sN (nT (cS (cC Z (fun hd=>?_) (fun hd=>?_))))))
  ·have hlt:i<c.feats.length:=by simpa using hd
   have hrl:rows.length=ms0.length+i:=by rw [hro.1]; simp; omega
   have htk:=bV hlt
   obtain ⟨fb,fo,fcap,fus,e1,hfus,hfrd,hfr⟩:=((hcf.up (hE.trans hE2)).up hE3).at (List.getElem?_eq_getElem hlt)
   obtain ⟨rfl,rfl⟩:cf=some ⟨fb,fo,none⟩∧cfk=fcap:=by cases e1; exact ⟨rfl,rfl⟩
   generalize c.feats[i]=f at hfr htk
   have hfr0:=hfr
   obtain ⟨x2,x3,fy,x9,x10,x11,x12,x13,x14,rfl,-⟩:=mV hfr
   have hfo:=Enc.ones hfr0
   have how:=own_ct (Enc.up ((hE.trans hE2).trans hE3).rd hc0) hfr0 ((hlk f.name).up hE3) (by have:=hSu f.name; unfold mU; omega) (by have:=hPu f.name; omega) (by have:=hQu f.name; omega)
   unfold CtX at how
   generalize hJ:jH c f (under cs f.name)=J at how
   unfold AV at *
   refine cK9 (xT (cS (cB (cQ (sV (vI (k:=i) Z Z sl41 Z hlt Z) (sV (ag Z nH Z hfrd) ?_))))))
   refine au lm fun b12=>?_
   refine ai Z Z jP Z hfo ?_
   refine sN (nK9 [3,5,6,12,38,39,40] Z (nT (cR (sM Z (sV (ag Z gG Z af) ?_)))))
   refine sV (ag Z nH Z af) ?_
   refine sM Z (sV (vF Z oJ Z) (sV (vY Z ld9) ?_))
   refine sV (bI Z Z rV sD slq) ?_
   refine aH Z Z en123 Z (how) ?_
   rintro u h' ⟨Z2,k2,rfl,hE4,rfl,us,rfl,hrep⟩
   simp only [lC,lN]
   have hone:=Enc.ones hrep
   obtain ⟨j2,j5,jy,j11,j12,j13,rfl,-⟩:=dJ hrep
   unfold ik at *
   refine ak (cells:=[sv J.name,.int .i64 J.kind,j2,sv J.impl.cls,sv J.impl.name,j5,.int .i64 J.ty.kind,sv J.ty.name,jy,.bool J.ty.void,.bool J.ty.sep,j11,j12,j13]) Z underlying52 uN Z Z (by kernel_rfl) (ltn Z) fun b52=>?_
   refine dU [[sv J.name,.int .i64 J.kind,j2,sv J.impl.cls,sv J.impl.name,j5,.int .i64 J.ty.kind,sv J.ty.name,jy,.bool J.ty.void,.bool J.ty.sep,j11,j12,j13]] Z Z underlying52 uN Z (by decide) (show Sel _ (VR w 75 14 rows) _ from slq) (by simp) Z (fun j u2 hu2=>bP (bU (by simpa using hu2))) (by simpa using hone) (by omega) (by omega) (ltn Z) fun w2 hw2 _=>?_
   refine sV (vA9 Z) (sN (nK9 [3,5,6,38,39,40] Z (ax (xB (xT (cR (sV (aI Z Z (by unfold I64 at *; omega)) (sM Z (sN (nK9 [3,5,6,38,39,40] Z (ax ?_)))))))))))
   refine aJ (w2,rows++[[sv J.name,.int .i64 J.kind,j2,sv J.impl.cls,sv J.impl.name,j5,.int .i64 J.ty.kind,sv J.ty.name,jy,.bool J.ty.void,.bool J.ty.sep,j11,j12,j13]],Z2,i+1) ⟨hw2,hE3.trans hE4,by rw [htk,List.map_append,← List.append_assoc]; exact (hro.up hE4).snoc (show Enc.rep Z2 _ (jH c f (under cs f.name)) from by rw [hJ]; exact hrep),hlt⟩ (by dsimp only; omega)
  ·have hie:i=c.feats.length:=by
    have:¬ i<c.feats.length:=by simpa using hd
    omega
   subst hie
   rw [List.take_length] at hro
   have hsl:(ms0++c.feats.map fun f=>jH c f (under cs f.name)).length≤1099511627776:=by rw [List.length_append,List.length_map]; omega
   refine aB (xE (xE (xY (xT (cQ (sM Z (aH Z Z en124 Z (Iu hro hnfin hsl) ?_)))))))
   rintro u h' ⟨rfl,rows',hr',hrl',rfl⟩
   simp only [lC,lN]
   rw [Iw hfin hraw] at hr'
   have hml2:(qO (sZ cs c)).length * 232≤reachBytes:=by
    have h1:(qO (sZ cs c)).length=rows'.length:=hr'.1.symm
    have h2:=hro.1
    rw [List.length_append,List.length_map] at h2
    omega
   refine sN (nK9 [6] Z (nT (cQ (sM Z (sV (vA9 Z) (sN (nK9 [4] Z (nT (cT (dS (r:=VR w 75 14 rows') slq fun hok=>?_))))))))))
   refine iy [VR w 75 14 rows'] Zq9 fun Y3 hE5 hsel3=>?_
   exact aj Z ⟨Y3,[mps mb m],Z,((hE.trans hE2).trans hE3).trans hE5,Z,Rws.ls (E:=75) (hr'.up hE5) hok (hsel3 _ _ .here) hml2⟩ sbq
 ·refine sV (ah Z Z) (sN (nK9 [3,5,6,17,19] Z (nT (cS (aT Z ?_)))))
  refine cK9 (xT (cB (cQ (sV (CQ Z slq) ?_))))
  have hkv:(k,v1)∈jZ E:=hsub _ (hp.mem_iff.2 (by simp))
  have hsub':∀ p∈left',p∈jZ E:=fun p hp'=>hsub p (hp.mem_iff.2 (by simp [hp']))
  have hv1:Ls Zq9 v1 (under cs k):=by
   obtain ⟨e,he,hev⟩:=List.mem_map.1 hkv
   cases hev
   exact (hls e he).up hE3
  have hkk:k∈keys cs:=by rw [← hk0,← jK]; exact List.mem_map.2 ⟨_,hkv,rfl⟩
  have hne:under cs k≠[]:=by
   obtain ⟨x,hx,hxn⟩:=jX.1 hkk
   exact List.ne_nil_of_mem (List.mem_filter.2 ⟨hx,by simpa using hxn⟩)
  have hrl:=hmid.len
  have hstep:∀ (Z2:Res) (us:List Value),Ext Zq9 Z2→Enc.rep Z2 us (joined (under cs k))→feat c k=none→Mid1 Z2 (rows++[us]) cs c left':=fun Z2 us he hr hfn=>by
   obtain ⟨ds,g1,g2⟩:=hmid
   have e1:[k].filter (fun n=>(feat c n).isNone)=[k]:=by simp [hfn]
   refine ⟨ds++[k],by rw [List.filter_append,List.map_append,e1]; exact (g1.up he).snoc hr,?_⟩
   rw [List.append_assoc]
   exact ((hp.map fun p=>p.1).append_left ds).symm.trans g2
  have hskip:(feat c k).isSome=true→Mid1 Zq9 rows cs c left':=fun hfn=>by
   obtain ⟨ds,g1,g2⟩:=hmid
   refine ⟨ds++[k],?_,?_⟩
   ·have:(feat c k).isNone=false:=by cases hq:feat c k <;> simp [hq] at hfn ⊢
    have e1:[k].filter (fun n=>(feat c n).isNone)=[]:=by simp [this]
    rw [List.filter_append,List.map_append,e1]
    simpa using g1
   ·rw [List.append_assoc]
    exact ((hp.map fun p=>p.1).append_left ds).symm.trans g2
  refine sV (ah Z Z) (sV (ah Z Z) (sV (vA9 Z) (sV (vA9 Z) (sN (nK9 [3,5,6,7,8,17] Z (nT (cQ (sV (vF Z ko Z) (sV (vY Z yS) ?_)))))))))
  refine sM Z (aH Z Z yx Z (iP (n:=k) ((hcf.up (hE.trans hE2)).up hE3)) ?_)
  rintro u h' ⟨rfl,fus,rfl,hfr⟩
  simp only [lC,lN]
  have hf15:fus.length=15:=Enc.len hfr
  have hfo:=Enc.ones hfr
  have hfeat:(c.feats.find? fun f=>f.name == k)=feat c k:=rfl
  rw [hfeat]
  refine sM Z (sV (ah Z Z) (sV (ah Z Z) (au lm fun b9=>?_)))
  refine ai (hl:=by rw [hf15]; rfl) Z Z jP hf15 hfo ?_
  refine sV (vA9 Z) (sN (nK9 [3,5,6,8,10,17] Z (nT (cQ (sM Z (sV (bi Z) (sN (nK9 [3,5,6,8,17,31] Z (nT (cC Z (fun hnf=>?_) (fun hnf=>?_)))))))))))
  ·have hfn:feat c k=none:=by cases hq:feat c k <;> simp [hq] at hnf ⊢
   have hj:=CO hv1 hne (by have:=hSu k; unfold mU; omega) (by have:=hPu k; omega) (by have:=hQu k; omega)
   unfold CtX at hj
   generalize hJ:joined (under cs k)=J at hj
   refine cR (sM Z (sM Z (aH Z Z en122 Z (hj) ?_)))
   rintro u h' ⟨Z2,k2,rfl,hE4,rfl,us,rfl,hrep⟩
   simp only [lC,lN]
   have hst:=hstep Z2 us hE4 (by rw [hJ]; exact hrep) hfn
   have hone:=Enc.ones hrep
   obtain ⟨j2,j5,jy,j11,j12,j13,rfl,-⟩:=dJ hrep
   unfold ik at *
   refine ak (cells:=[sv J.name,.int .i64 J.kind,j2,sv J.impl.cls,sv J.impl.name,j5,.int .i64 J.ty.kind,sv J.ty.name,jy,.bool J.ty.void,.bool J.ty.sep,j11,j12,j13]) Z underlying52 uN Z Z (by kernel_rfl) (ltn Z) fun b35=>?_
   refine dU [[sv J.name,.int .i64 J.kind,j2,sv J.impl.cls,sv J.impl.name,j5,.int .i64 J.ty.kind,sv J.ty.name,jy,.bool J.ty.void,.bool J.ty.sep,j11,j12,j13]] Z Z underlying52 uN Z (by decide) (show Sel _ (VR w 75 14 rows) _ from slq) (by simp) Z (fun j u2 hu2=>bP (bU (by simpa using hu2))) (by simpa using hone) (by omega) (by omega) (ltn Z) fun w2 hw2 _=>?_
   refine sV (vA9 Z) (sN (nK9 [3,5,6,17] Z (ax (xB ?_))))
   refine aJ (w2,rows++[[sv J.name,.int .i64 J.kind,j2,sv J.impl.cls,sv J.impl.name,j5,.int .i64 J.ty.kind,sv J.ty.name,jy,.bool J.ty.void,.bool J.ty.sep,j11,j12,j13]],Z2,left',some (k,v1)) ⟨hw2,hE3.trans hE4,hst,hsub'⟩ (by dsimp only; rw [hp.length_eq,List.length_cons]; omega)
  ·have hfn:(feat c k).isSome=true:=by cases hq:feat c k <;> simp [hq] at hnf ⊢
   refine cK9 (xB ?_)
   refine aJ (w,rows,Zq9,left',some (k,v1)) ⟨hw,hE3,hskip hfn,hsub'⟩ (by dsimp only; rw [hp.length_eq,List.length_cons]; omega)
end
end Go.Fl
