/-
  Package flat: what the search for conflicts knows; conflict. Conditions: what is read.
-/
import Derived.Test.YtknmacdbffgjgaaGreatDoorP10
import Derived.Test.YtknmacdbffgjgaaGreatDoorP3
import Derived.Laws.IdiomRangeMap
import Derived.Test.YtknmacdbffgjgaaGreatDoorP12
import Derived.Test.YtknmacdbffgjgaaGreatDoorP6
set_option linter.unusedVariables false
set_option linter.unusedSimpArgs false
set_option maxRecDepth 100000
set_option maxHeartbeats 16000000
namespace Go.Ck
open Go Go.RowKit
def mit (mb ib:Nat) (m left:List (Int×Value)) (last:Option (Int×Value)):Res where
 dom b:=b=mb∨b=ib
 ok f:=mb≠ib/\∃ es ck seen,f mb=some (.map es ck)/\es.toList.map (λx:MapEntry=>(x.key,x.val))=mW m/\Brn es ck m/\f ib=some (.mapIter (some mb) ck seen ck) /\
  ((es.toList.filter λx:MapEntry => !seen.contains x.born).map λx:MapEntry=>(x.key,x.val)).Perm (mW left)/\∀ p,last=some p->∃ x∈es.toList,seen.back? = some x.born/\x.key = .int .i64 p.1/\x.val=p.2
 loc f g he:=λ⟨hn,es,ck,seen,h1,h2,h3,h4,h5⟩=>⟨hn,es,ck,seen,by rw [<- he mb (.inl rfl)]; exact h1,h2,h3,by rw [<- he ib (.inr rfl)]; exact h4,h5⟩
 pres f:=λ⟨_,es,ck,seen,h1,_,_,h4,_⟩ b hb=>by
  rcases hb with rfl | rfl
  ·rw [h1]; rfl
  ·rw [h4]; rfl
theorem A7 (seen : Array Nat) (e : MapEntry) (he : seen.contains e.born = false) : ∀ (l : List MapEntry), (l.map (·.born)).Nodup -> e ∈ l -> (l.filter λx => !seen.contains x.born).Perm (e :: l.filter λx => !(seen.push e.born).contains x.born)
 | [],_,h=>by cases h
 | x :: t, hn, h => by
  rw [List.map_cons,List.nodup_cons] at hn
  have hpush:∀ y:MapEntry,y.born≠e.born->(seen.push e.born).contains y.born=seen.contains y.born:=λy hy=>by
   rw [Bool.eq_iff_iff]; simp [Array.contains_iff_mem,Array.mem_push,hy]
  have hself:(seen.push e.born).contains e.born=true:=by simp
  by_cases hx:x=e
  ·subst hx
   have ht:t.filter (λy => !(seen.push x.born).contains y.born)=t.filter λy => !seen.contains y.born:=List.filter_congr λy hy=>by
    rw [hpush y λheq=>hn.1 (heq ▸ List.mem_map.2 ⟨y,hy,rfl⟩)]
   rw [List.filter_cons,List.filter_cons,he,hself,ht]
   exact .refl _
  ·have hm:e∈t:=(List.mem_cons.1 h).resolve_left λq=>hx q.symm
   have hb:x.born≠e.born:=λheq=>hn.1 (heq ▸ List.mem_map.2 ⟨e,hm,rfl⟩)
   have ih:=A7 seen e he t hn.2 hm
   rw [List.filter_cons,List.filter_cons,hpush x hb]
   by_cases hc:(!seen.contains x.born)=true
   ·rw [if_pos hc,if_pos hc]
    exact (ih.cons x).trans (.swap ..)
   ·rw [if_neg hc,if_neg hc]; exact ih
section
variable {P:Program}
theorem run_next_at {w : World} {mb ib ck : Nat} {es : Array MapEntry} {seen : Array Nat} (h1 : w.heap[mb]? = some (.map es ck)) (h2 : w.heap[ib]? = some (.mapIter (some mb) ck seen ck)) (hold : ∀ x ∈ es.toList, x.born < ck) (ty : TypeId) :
  ((es.toList.filter λx => !seen.contains x.born)=[]/\(Instr.next (.pointer<|some ⟨ib,0,none⟩) false ty).run P w = .ok (.tuple #[.bool false]) w) ∨
  ∃ x∈(es.toList.filter λx => !seen.contains x.born),∃ n:Nat,w.drawn≤n/\(Instr.next (.pointer<|some ⟨ib,0,none⟩) false ty).run P w = .ok (.tuple #[.bool true,x.key,x.val]) { w with drawn:=n,heap:=w.heap.setIfInBounds ib (.mapIter (some mb) ck (seen.push x.born) ck) }:=by
 simp only [Instr.next,getObj,Sem.run_bind,Sem.run,h1,h2,Result.andThen,next_test_false seen es ck ck hold (Nat.le_refl _),Bool.false_eq_true,if_false]
 have hmem:∀ x∈(Array.filter (λe => !seen.contains e.born) es).toList,x.born<ck:=λx hx=>hold x (by simp at hx ⊢; exact hx.1)
 have hL:(Array.filter (λe => !seen.contains e.born) es).toList=es.toList.filter λx => !seen.contains x.born:=by simp
 rw [<- hL]
 generalize Array.filter (λe => !seen.contains e.born) es=L at hmem ⊢
 have e1:L.filter (λx=>decide (x.born<ck))=L:=Array.filter_eq_self.2<|λx hx=>by simpa using hmem x (by simpa using hx)
 have e2:L.filter (λx=>decide (x.born ≥ ck)) = #[]:=by
  rw [Array.filter_eq_empty_iff]
  intro x hx
  have:=hmem x<|by simpa using hx
  simp
  omega
 simp only [e1,e2,Array.append_empty]
 by_cases h0:L.size=0
 ·left
  have:L = #[]:=Array.eq_empty_of_size_eq_zero h0
  subst this
  refine ⟨Z,?_⟩
  simp [choose,Sem.run,Question.forced]
 ·right
  have hne:L.isEmpty=false:=by simp [Array.isEmpty,h0]
  simp only [hne,Bool.false_eq_true,if_false,Array.empty_append,Array.size_map]
  have hch : ∃ (j n : Nat), j < L.size /\ w.drawn ≤ n /\ (choose<|Question.mapNext L.size).run P w = .ok j { w with drawn := n } := by
   by_cases hf:L.size≤1
   ·exact ⟨0,w.drawn,by omega,Nat.le_refl _,by simp [choose,Sem.run,Question.forced,hf]⟩
   ·exact ⟨_,w.drawn+1,Nat.mod_lt _ (by omega),Nat.le_succ _,by
     simp only [choose,Sem.run,Question.forced,decide_eq_true_eq,hf,if_false,Question.cut]
     rfl⟩
  obtain ⟨j,n,hj,hdn,hrun⟩:=hch
  refine ⟨L[j],by simp,n,hdn,?_⟩
  have hset:∀ o':Obj,(setObj ib o').run P { w with drawn:=n } = .ok () { w with drawn:=n,heap:=w.heap.setIfInBounds ib o' }:=λo'=>by
   simp [setObj,Sem.run,h2]
  simp only [hrun,Array.getElem?_map,Array.getElem?_eq_getElem hj,Option.map_some,Sem.run_bind,hset,Result.andThen]
  rfl
theorem run_entry_at {w:World} {mb ib ck:Nat} {es:Array MapEntry} {seen:Array Nat} {x:MapEntry} (h1:w.heap[mb]? = some (.map es ck)) (h2:w.heap[ib]? = some (.mapIter (some mb) ck seen ck)) (hx:x∈es.toList) (hb:seen.back? = some x.born) (hn:(es.toList.map (·.born)).Nodup) :
  (Instr.entry<|.pointer<|some ⟨ib,0,none⟩).run P w = .ok (.tuple #[x.key,x.val]) w:=by
 have hf:es.find? (·.born == x.born)=some x:=by rw [<- Array.find?_toList]; exact find_born x es.toList hn hx
 simp only [Instr.entry,getObj,Sem.run_bind,Sem.run,h1,h2,Result.andThen,hb,bne_self_eq_false,Bool.false_eq_true,if_false,hf]
 rfl
end
section
variable {c:Cx} {ops:Array Oper} {K:Act->World->Prop} {rest:List Oper} {e:Env} {h h':SH}
theorem NI {d : Nat} {T K' E ty : TypeId} {x : Operand} {pos : String} {after : Array Edge} {mb : Nat} {m : List (Int × Value)} (hx : e.ev? x = some (.map (some mb))) (hT : MpT c.P T K' E) (hs : Sel h (mpr mb m) h') (hd : d < c.n)
  (hnx:∀ ib,(m.map (·.1)).Nodup->St c ops K rest ((d,.pointer (some ⟨ib,0,none⟩))::e) (mit mb ib m m none::h')) :
  St c ops K (⟨some d,.range T x,ty,pos,after,none⟩::rest) e h :=
 eu (by simp) λa w hk hh hw=>by
  have hh':=hh.sel hs
  obtain ⟨es,ck,h1,h2,hB⟩:=hh'.1
  have h1':w.heap[mb]? = some (.map es ck):=h1
  have hlt:mb<w.heap.size:=(Array.getElem?_eq_some_iff.1 h1').1
  have hr:=run_range_map (P:=c.P) w T K' E mb es ck hT.1 h1'
  simp only [execOp,hk.ev hx,Sem.run_bind,hr,Result.andThen_ok,Sem.run_pure]
  have hg:=Grew.alloc w (.mapIter (some mb) ck #[] ck) rfl
  refine hnx w.heap.size hB.2.2 _ _ (hk.put _ hd) ⟨⟨by omega,es,ck,#[],?_,h2,hB,?_,?_,λp hp=>by cases hp⟩,λb hb hd'=>?_,?_⟩<|hw.trans hg.toSame
  ·show (w.alloc _).heap[mb]? = _
   rw [alloc_old w _ mb (by omega)]; exact h1'
  ·show (w.heap.push _)[w.heap.size]? = _
   simp
  ·have hf:(es.toList.filter λx:MapEntry => !(#[]:Array Nat).contains x.born)=es.toList:=List.filter_eq_self.2 λ_ _=>by simp
   rw [hf,h2]
  ·rcases hb with rfl | rfl
   ·exact hh'.2.1 b Z hd'
   ·have:=Holds.lt (w:=w) hh'.2.2 hd'; omega
  ·exact bg.loc hh'.2.2 λb hb=>(hg.block b<|Holds.lt (w:=w) hh'.2.2 hb).symm
theorem st_next {d : Nat} {ty : TypeId} {x : Operand} {pos : String} {after : Array Edge} {mb ib : Nat} {m left : List (Int × Value)} {last : Option (Int × Value)} (hx : e.ev? x = some (.pointer (some ⟨ib, 0, none⟩))) (hs : Sel h (mit mb ib m left last) h') (hd : d < c.n)
  (h0:left=[]->St c ops K rest ((d,.tuple #[.bool false])::e) (mit mb ib m [] last::h'))
  (h1:∀ k v left',left.Perm ((k,v)::left')->St c ops K rest ((d,.tuple #[.bool true,.int .i64 k,v])::e) (mit mb ib m left' (some (k,v))::h')) :
  St c ops K (⟨some d,.next x false,ty,pos,after,none⟩::rest) e h :=
 eu (by simp) λa w hk hh hw => by
  have hh':=hh.sel hs
  obtain ⟨hne,es,ck,seen,g1,g2,hB,g4,g5,g6⟩:=hh'.1
  have g1':w.heap[mb]? = some (.map es ck):=g1
  have g4':w.heap[ib]? = some (.mapIter (some mb) ck seen ck):=g4
  have hlt:ib<w.heap.size:=(Array.getElem?_eq_some_iff.1 g4').1
  rcases run_next_at (P:=c.P) g1' g4' hB.1 ty with ⟨q1,q2⟩ | ⟨z,hz,n,hdn,q2⟩
  ·simp only [execOp,hk.ev hx,Sem.run_bind,q2,Result.andThen_ok,Sem.run_pure]
   have hl:left=[]:=by
    rw [q1] at g5
    have:=g5.symm.eq_nil
    unfold mW at this
    simpa using this
   subst hl
   exact h0 Z _ _ (hk.put _ hd) hh' hw
  ·simp only [execOp,hk.ev hx,Sem.run_bind,q2,Result.andThen_ok,Sem.run_pure]
   have hz1:z∈es.toList:=(List.mem_filter.1 hz).1
   have hz2:seen.contains z.born=false:=by simpa using (List.mem_filter.1 hz).2
   have hzm:(z.key,z.val)∈mW left:=g5.mem_iff.1<|List.mem_map.2 ⟨z,hz,rfl⟩
   obtain ⟨⟨k,v⟩,hkv,hkv2⟩:=List.mem_map.1 hzm
   simp only [Prod.mk.injEq] at hkv2
   obtain ⟨hk1,hv1⟩:=hkv2
   obtain ⟨s,t,rfl⟩:=List.append_of_mem hkv
   have hp:(s++(k,v)::t).Perm ((k,v)::(s++t)):=List.perm_middle
   have hf:=A7 seen z hz2 es.toList hB.2.1 hz1
   have hrest:((es.toList.filter λx => !(seen.push z.born).contains x.born).map λx=>(x.key,x.val)).Perm (mW (s++t)):=by
    have h3:=(hf.map λx:MapEntry=>(x.key,x.val)).symm.trans<|g5.trans (hp.map λp:Int×Value=>((.int .i64 p.1:Value),p.2))
    rw [List.map_cons,List.map_cons,<- hk1,<- hv1] at h3
    exact h3.cons_inv
   rw [<- hk1,<- hv1]
   have hsame:Same w { w with drawn:=n,heap:=w.heap.setIfInBounds ib (.mapIter (some mb) ck (seen.push z.born) ck) }:=⟨rfl,rfl,rfl,hdn,by simp,oK (b:=ib) (λo ho=>by rw [g4'] at ho; cases ho; rfl) (λo ho=>by
    have:(w.heap.setIfInBounds ib<|.mapIter (some mb) ck (seen.push z.born) ck)[ib]? = some o:=ho
    simp [hlt] at this; rw [<- this]; rfl) λc hc=>dP w ib c _ hc⟩
   refine h1 k v (s++t) hp _ _ (hk.put _ hd) ⟨⟨hne,es,ck,seen.push z.born,?_,g2,hB,?_,hrest,λp hp'=>?_⟩,hh'.2.1,?_⟩<|hw.trans hsame
   ·show (w.heap.setIfInBounds ib _)[mb]? = _
    rw [Array.getElem?_setIfInBounds_ne (Ne.symm hne)]; exact g1'
   ·show (w.heap.setIfInBounds ib _)[ib]? = _
    simp [hlt]
   ·cases hp'
    exact ⟨z,hz1,by simp,hk1.symm,hv1.symm⟩
   ·exact bg.loc hh'.2.2 λb hb=>(dP w ib b _<|λq=>hh'.2.1 b (.inr q) hb).symm
theorem v_entry {ty:TypeId} {x:Operand} {mb ib:Nat} {m left:List (Int×Value)} {k:Int} {v:Value} (hx:e.ev? x=some (.pointer (some ⟨ib,0,none⟩))) (hs:Sel h (mit mb ib m left (some (k,v))) h') :
  Vop c.P e h (.entry x) ty (.tuple #[.int .i64 k,v]):=
 ⟨by simp,by simp,λρ w d pos after g hρ hh=>by
  obtain ⟨_,es,ck,seen,g1,_,hB,g4,_,g6⟩:=(hh.sel hs).1
  obtain ⟨z,hz,hb,h1,h2⟩:=g6 _ rfl
  have:=run_entry_at (P:=c.P) (w:=w) g1 g4 hz hb hB.2.1
  rw [h1,h2] at this
  simp [execOp,hρ x _ hx,this]⟩
end
section
variable {c:Cx} {x:Code} {Q:Exit->Act->World->Prop} {e:Env} {h h':SH}
end
def wN (mb ib:Nat) (m left:List (Bs×Value)) (last:Option (Bs×Value)):Res where
 dom b:=b=mb∨b=ib
 ok f:=mb≠ib/\∃ es ck seen,f mb=some (.map es ck)/\es.toList.map (λx:MapEntry=>(x.key,x.val))=kI m/\SBrn es ck m/\f ib=some (.mapIter (some mb) ck seen ck) /\
  ((es.toList.filter λx:MapEntry => !seen.contains x.born).map λx:MapEntry=>(x.key,x.val)).Perm (kI left)/\∀ p,last=some p->∃ x∈es.toList,seen.back? = some x.born/\x.key=sv p.1/\x.val=p.2
 loc f g he:=λ⟨hn,es,ck,seen,h1,h2,h3,h4,h5⟩=>⟨hn,es,ck,seen,by rw [<- he mb (.inl rfl)]; exact h1,h2,h3,by rw [<- he ib (.inr rfl)]; exact h4,h5⟩
 pres f:=λ⟨_,es,ck,seen,h1,_,_,h4,_⟩ b hb=>by
  rcases hb with rfl | rfl
  ·rw [h1]; rfl
  ·rw [h4]; rfl
section
variable {c:Cx} {ops:Array Oper} {K:Act->World->Prop} {rest:List Oper} {e:Env} {h h':SH}
theorem A8 {d : Nat} {T K' E ty : TypeId} {x : Operand} {pos : String} {after : Array Edge} {mb : Nat} {m : List (Bs × Value)} (hx : e.ev? x = some (.map (some mb))) (hT : MpS c.P T K' E) (hs : Sel h (mps mb m) h') (hd : d < c.n)
  (hnx:∀ ib,(m.map (·.1)).Nodup->St c ops K rest ((d,.pointer (some ⟨ib,0,none⟩))::e) (wN mb ib m m none::h')) :
  St c ops K (⟨some d,.range T x,ty,pos,after,none⟩::rest) e h :=
 eu (by simp) λa w hk hh hw=>by
  have hh':=hh.sel hs
  obtain ⟨es,ck,h1,h2,hB⟩:=hh'.1
  have h1':w.heap[mb]? = some (.map es ck):=h1
  have hlt:mb<w.heap.size:=(Array.getElem?_eq_some_iff.1 h1').1
  have hr:=run_range_map (P:=c.P) w T K' E mb es ck hT.1 h1'
  simp only [execOp,hk.ev hx,Sem.run_bind,hr,Result.andThen_ok,Sem.run_pure]
  have hg:=Grew.alloc w (.mapIter (some mb) ck #[] ck) rfl
  refine hnx w.heap.size hB.2.2 _ _ (hk.put _ hd) ⟨⟨by omega,es,ck,#[],?_,h2,hB,?_,?_,λp hp=>by cases hp⟩,λb hb hd'=>?_,?_⟩<|hw.trans hg.toSame
  ·show (w.alloc _).heap[mb]? = _
   rw [alloc_old w _ mb (by omega)]; exact h1'
  ·show (w.heap.push _)[w.heap.size]? = _
   simp
  ·have hf:(es.toList.filter λx:MapEntry => !(#[]:Array Nat).contains x.born)=es.toList:=List.filter_eq_self.2 λ_ _=>by simp
   rw [hf,h2]
  ·rcases hb with rfl | rfl
   ·exact hh'.2.1 b Z hd'
   ·have:=Holds.lt (w:=w) hh'.2.2 hd'; omega
  ·exact bg.loc hh'.2.2 λb hb=>(hg.block b<|Holds.lt (w:=w) hh'.2.2 hb).symm
theorem CU {d : Nat} {ty : TypeId} {x : Operand} {pos : String} {after : Array Edge} {mb ib : Nat} {m left : List (Bs × Value)} {last : Option (Bs × Value)} (hx : e.ev? x = some (.pointer (some ⟨ib, 0, none⟩))) (hs : Sel h (wN mb ib m left last) h') (hd : d < c.n)
  (h0:left=[]->St c ops K rest ((d,.tuple #[.bool false])::e) (wN mb ib m [] last::h'))
  (h1:∀ k v left',left.Perm ((k,v)::left')->St c ops K rest ((d,.tuple #[.bool true,sv k,v])::e) (wN mb ib m left' (some (k,v))::h')) :
  St c ops K (⟨some d,.next x false,ty,pos,after,none⟩::rest) e h :=
 eu (by simp) λa w hk hh hw => by
  have hh':=hh.sel hs
  obtain ⟨hne,es,ck,seen,g1,g2,hB,g4,g5,g6⟩:=hh'.1
  have g1':w.heap[mb]? = some (.map es ck):=g1
  have g4':w.heap[ib]? = some (.mapIter (some mb) ck seen ck):=g4
  have hlt:ib<w.heap.size:=(Array.getElem?_eq_some_iff.1 g4').1
  rcases run_next_at (P:=c.P) g1' g4' hB.1 ty with ⟨q1,q2⟩ | ⟨z,hz,n,hdn,q2⟩
  ·simp only [execOp,hk.ev hx,Sem.run_bind,q2,Result.andThen_ok,Sem.run_pure]
   have hl:left=[]:=by
    rw [q1] at g5
    have:=g5.symm.eq_nil
    unfold kI at this
    simpa using this
   subst hl
   exact h0 Z _ _ (hk.put _ hd) hh' hw
  ·simp only [execOp,hk.ev hx,Sem.run_bind,q2,Result.andThen_ok,Sem.run_pure]
   have hz1:z∈es.toList:=(List.mem_filter.1 hz).1
   have hz2:seen.contains z.born=false:=by simpa using (List.mem_filter.1 hz).2
   have hzm:(z.key,z.val)∈kI left:=g5.mem_iff.1<|List.mem_map.2 ⟨z,hz,rfl⟩
   obtain ⟨⟨k,v⟩,hkv,hkv2⟩:=List.mem_map.1 hzm
   simp only [Prod.mk.injEq] at hkv2
   obtain ⟨hk1,hv1⟩:=hkv2
   obtain ⟨s,t,rfl⟩:=List.append_of_mem hkv
   have hp:(s++(k,v)::t).Perm ((k,v)::(s++t)):=List.perm_middle
   have hf:=A7 seen z hz2 es.toList hB.2.1 hz1
   have hrest:((es.toList.filter λx => !(seen.push z.born).contains x.born).map λx=>(x.key,x.val)).Perm (kI (s++t)):=by
    have h3:=(hf.map λx:MapEntry=>(x.key,x.val)).symm.trans<|g5.trans (hp.map λp:Bs×Value=>((sv p.1:Value),p.2))
    rw [List.map_cons,List.map_cons,<- hk1,<- hv1] at h3
    exact h3.cons_inv
   rw [<- hk1,<- hv1]
   have hsame:Same w { w with drawn:=n,heap:=w.heap.setIfInBounds ib (.mapIter (some mb) ck (seen.push z.born) ck) }:=⟨rfl,rfl,rfl,hdn,by simp,oK (b:=ib) (λo ho=>by rw [g4'] at ho; cases ho; rfl) (λo ho=>by
    have:(w.heap.setIfInBounds ib<|.mapIter (some mb) ck (seen.push z.born) ck)[ib]? = some o:=ho
    simp [hlt] at this; rw [<- this]; rfl) λc hc=>dP w ib c _ hc⟩
   refine h1 k v (s++t) hp _ _ (hk.put _ hd) ⟨⟨hne,es,ck,seen.push z.born,?_,g2,hB,?_,hrest,λp hp'=>?_⟩,hh'.2.1,?_⟩<|hw.trans hsame
   ·show (w.heap.setIfInBounds ib _)[mb]? = _
    rw [Array.getElem?_setIfInBounds_ne (Ne.symm hne)]; exact g1'
   ·show (w.heap.setIfInBounds ib _)[ib]? = _
    simp [hlt]
   ·cases hp'
    exact ⟨z,hz1,by simp,hk1.symm,hv1.symm⟩
   ·exact bg.loc hh'.2.2 λb hb=>(dP w ib b _<|λq=>hh'.2.1 b (.inr q) hb).symm
theorem CV {ty:TypeId} {x:Operand} {mb ib:Nat} {m left:List (Bs×Value)} {k:Bs} {v:Value} (hx:e.ev? x=some (.pointer (some ⟨ib,0,none⟩))) (hs:Sel h (wN mb ib m left (some (k,v))) h') :
  Vop c.P e h (.entry x) ty (.tuple #[sv k,v]):=
 ⟨by simp,by simp,λρ w d pos after g hρ hh=>by
  obtain ⟨_,es,ck,seen,g1,_,hB,g4,_,g6⟩:=(hh.sel hs).1
  obtain ⟨z,hz,hb,h1,h2⟩:=g6 _ rfl
  have:=run_entry_at (P:=c.P) (w:=w) g1 g4 hz hb hB.2.1
  rw [h1,h2] at this
  simp [execOp,hρ x _ hx,this]⟩
end
section
variable {c:Cx} {x:Code} {Q:Exit->Act->World->Prop} {e:Env} {h h':SH}
theorem Gl {mb ib:Nat} {m left:List (Bs×Value)} {last:Option (Bs×Value)} (s:Sel h (wN mb ib m left last) h') (hx:Cd c x Q e (mps mb m::h')):Cd c x Q e h:=λa w hk hh hw=>by
 have hh':=hh.sel s
 obtain ⟨_,es,ck,seen,g1,g2,hB,_⟩:=hh'.1
 exact hx a w hk ⟨⟨es,ck,g1,g2,hB⟩,λb hb=>hh'.2.1 b (.inl hb),hh'.2.2⟩ hw
end
end Go.Ck
namespace Go.Fl
open Go Go.RowKit Go.Ck Go.Proofs Go.Proofs.Tryz Go.Proofs.YtknmacdbffgjgaaGreatDoor Fx Go.Hr
abbrev BE:=Nm×Value×List (List Value)
def BN (E:List BE):Res:=Res.star (E.map λe=>VR e.2.1 191 18 e.2.2)
def jY (E:List BE):List (Nm×Value):=E.map λe=>(e.1,e.2.1)
def BOk (Y:Res) (E:List BE) (cs:List Cm):Prop:=E.map (λe=>e.1)=keys cs/\∀ e∈E,e.2.1.oneCell'=true/\Rws Y e.2.2 (under cs e.1)
theorem BOk.up {X Y:Res} {E:List BE} {cs:List Cm} (h:BOk X E cs) (he:Ext X Y):BOk Y E cs:=⟨h.1,λe hm=>⟨(h.2 e hm).1,(h.2 e hm).2.up he⟩⟩
theorem jL (E:List BE):(jY E).map (·.1)=E.map λe=>e.1:=by simp [jY]
theorem NJ {m:List (Nm×Value)} {n:Nm} {v:Value} (h:n ∉ m.map (·.1)):eB m n v=m++[(n,v)]:=by
 induction m with
 | nil=>rfl
 | cons p t ih =>
  rw [List.map_cons,List.mem_cons,not_or] at h
  rw [eB,if_neg (λe=>h.1 e.symm),ih h.2]; rfl
theorem NK {m1 m2:List (Nm×Value)} {n:Nm} {v v2:Value} (h:n ∉ m1.map (·.1)):eB (m1++(n,v)::m2) n v2=m1++(n,v2)::m2:=by
 induction m1 with
 | nil=>simp [eB]
 | cons p t ih =>
  rw [List.map_cons,List.mem_cons,not_or] at h
  rw [List.cons_append,eB,if_neg (λe=>h.1 e.symm),ih h.2]; rfl
theorem Lj {m1 m2:List (Nm×Value)} {n:Nm} {v:Value} (h:n ∉ m1.map (·.1)):bM (m1++(n,v)::m2) n=some v:=by
 unfold bM
 have:m1.find? (λp=>p.1 == n)=none:=by
  rw [List.find?_eq_none]
  intro p hp
  simp only [beq_iff_eq]
  exact λe=>h<|List.mem_map.2 ⟨p,hp,e⟩
 rw [List.find?_append,this]
 simp
theorem Gm (E : List BE) (n : Nm) (hn : (E.map λe => e.1).Nodup) : ∃ (v : Value) (rows : List (List Value)) (BO : Res) (F : Value -> List (List Value) -> List BE), (bM (jY E) n).getD (.slice none 0 0) = v /\ (∀ t, Vw (BN E :: t) (VR v 191 18 rows :: BO :: t)) /\ (∀ v2 r2 t, Vw (Res.star [VR v2 191 18 r2, BO] :: t) (BN (F v2 r2) :: t)) /\ (∀ v2 r2, eB (jY E) n v2 = jY (F v2 r2)) /\
  ((n ∉ (E.map λe=>e.1)/\rows=[]/\∀ v2 r2,F v2 r2=E++[(n,v2,r2)])∨∃ E1 E2,E=E1++(n,v,rows)::E2/\∀ v2 r2,F v2 r2=E1++(n,v2,r2)::E2):=by
 by_cases hm:n∈E.map λe=>e.1
 ·obtain ⟨e, he, rfl⟩ := List.mem_map.1 hm
  obtain ⟨E1,E2,rfl⟩:=List.append_of_mem he
  obtain ⟨n,v,rows⟩:=e
  have h1:n ∉ E1.map λe=>e.1:=λh=>by
   rw [List.map_append,List.map_cons] at hn
   exact (List.nodup_append.1 hn).2.2 n h n (by simp) Z
  have h2:n ∉ (jY E1).map (·.1):=by rw [jL]; exact h1
  have hb:∀ v2 r2,jY (E1++(n,v2,r2)::E2)=jY E1++(n,v2)::jY E2:=λv2 r2=>by simp [jY]
  refine ⟨v,rows,Res.star ((E1++E2).map λe=>VR e.2.1 191 18 e.2.2),λv2 r2=>E1++(n,v2,r2)::E2,by rw [hb,Lj h2]; rfl,λt w hh=>?_,λv2 r2 t w hh=>?_,λv2 r2=>by rw [hb,hb,NK h2],.inr ⟨E1,E2,Z,λ_ _=>rfl⟩⟩
  ·have h3:bg (hp w) (((E1++(n,v,rows)::E2).map λe=>VR e.2.1 191 18 e.2.2)++t):=dC.1 hh
   have h4:bg (hp w) (((VR v 191 18 rows)::(E1++E2).map λe=>VR e.2.1 191 18 e.2.2)++t):=(bg.perm (List.Perm.append_right t (by
    rw [List.map_append,List.map_cons,List.map_append]; exact List.perm_middle))).1 h3
   have h5:bg (hp w) (((E1++E2).map λe=>VR e.2.1 191 18 e.2.2)++(VR v 191 18 rows::t)):=(bg.perm (by
    rw [List.cons_append]; exact List.perm_middle.symm)).1 h4
   have h6:=dC.2 h5
   exact (bg.perm<|.swap _ _ _).1 h6
  ·have h3:bg (hp w) ([VR v2 191 18 r2,Res.star ((E1++E2).map λe=>VR e.2.1 191 18 e.2.2)]++t):=dC.1 hh
   have h4:=dC.1 ((bg.perm<|.swap _ _ _).1 h3)
   refine dC.2 ((bg.perm ?_).1 h4)
   rw [List.map_append,List.map_append,List.map_cons,List.append_assoc,List.append_assoc]
   refine List.Perm.append_left _ ?_
   rw [List.cons_append]
   exact List.perm_middle
 ·have h2:n ∉ (jY E).map (·.1):=by rw [jL]; exact hm
  refine ⟨.slice none 0 0,[],BN E,λv2 r2=>E++[(n,v2,r2)],by rw [zO.2 h2]; rfl,λt w hh=>hh.vr_nil 191 18,λv2 r2 t w hh=>?_,λv2 r2=>by rw [NJ h2]; simp [jY],.inl ⟨hm,Z,λ_ _=>rfl⟩⟩
  have h3:bg (hp w) ([VR v2 191 18 r2,BN E]++t):=dC.1 hh
  have h4:=dC.1 ((bg.perm<|.swap _ _ _).1 h3)
  refine dC.2 ((bg.perm ?_).1 h4)
  rw [List.map_append,List.append_assoc]
  exact .refl _
theorem wO (cs:List Cm) (x:Cm):keys (cs++[x])=if x.mem.name∈keys cs then keys cs else keys cs++[x.mem.name]:=by
 unfold keys
 rw [List.map_append,List.map_cons,List.map_nil,rD]
 unfold Hr.step
 by_cases h:x.mem.name∈dd [] (cs.map λx=>x.mem.name)
 ·rw [if_pos h,if_pos Zo]
 ·rw [if_neg h,if_neg Zo]
theorem pM (cs:List Cm) (x:Cm) (n:Nm):under (cs++[x]) n=if x.mem.name=n then under cs n++[x] else under cs n:=by
 unfold under
 rw [List.filter_append]
 by_cases h:x.mem.name=n <;> simp [h]
theorem A9 {cs:List Cm} {n:Nm} (h:n ∉ keys cs):under cs n=[]:=by
 unfold under
 rw [List.filter_eq_nil_iff]
 intro x hx
 simp only [beq_iff_eq]
 exact λe=>h<|jV.2 ⟨x,hx,e⟩
theorem NL {Y : Res} {E : List BE} {cs : List Cm} {x : Cm} {us : List Value} {v v2 : Value} {rows : List (List Value)} {F : Value -> List (List Value) -> List BE} (hb : BOk Y E cs) (hx : Enc.rep Y us x) (hv : v2.oneCell' = true)
  (hF:(x.mem.name ∉ (E.map λe=>e.1)/\rows=[]/\∀ v2 r2,F v2 r2=E++[(x.mem.name,v2,r2)])∨∃ E1 E2,E=E1++(x.mem.name,v,rows)::E2/\∀ v2 r2,F v2 r2=E1++(x.mem.name,v2,r2)::E2):BOk Y (F v2 (rows++[us])) (cs++[x]):=by
 obtain ⟨hk,hr⟩:=hb
 rcases hF with ⟨h1,rfl,h3⟩ | ⟨E1,E2,rfl,h3⟩
 ·rw [h3]
  have h4:x.mem.name ∉ keys cs:=by rw [<- hk]; exact h1
  refine ⟨by rw [wO,if_neg h4,List.map_append,hk]; rfl,λe he=>?_⟩
  rcases List.mem_append.1 he with he | he
  ·have h5:e.1≠x.mem.name:=λq=>h1 (q ▸ List.mem_map.2 ⟨e,he,rfl⟩)
   rw [pM,if_neg (λq=>h5 q.symm)]
   exact hr e he
  ·rw [List.mem_singleton.1 he]
   dsimp only
   rw [pM,if_pos rfl,A9 h4]
   exact ⟨hv,Rws.nil.snoc hx⟩
 ·rw [h3]
  have h4:x.mem.name∈keys cs:=by rw [<- hk]; simp
  have hnd:(E1.map (λe=>e.1)++x.mem.name::E2.map λe=>e.1).Nodup:=by
   have:=ig cs
   rw [<- hk,List.map_append,List.map_cons] at this
   exact this
  refine ⟨by rw [wO,if_pos h4,<- hk,List.map_append,List.map_append]; rfl,λe he=>?_⟩
  have hother:∀ e∈E1++E2,e.1≠x.mem.name:=λe he q=>by
   have h6:=List.nodup_append.1 hnd
   rcases List.mem_append.1 he with he | he
   ·exact h6.2.2 e.1 (List.mem_map.2 ⟨e,he,Z⟩) x.mem.name (by simp) q
   ·exact (List.nodup_cons.1 h6.2.1).1 (q ▸ List.mem_map.2 ⟨e,he,Z⟩)
  have hcase:e=(x.mem.name,v2,rows++[us])∨e∈E1++E2:=by
   rcases List.mem_append.1 he with he | he
   ·exact .inr<|List.mem_append_left _ he
   ·rcases List.mem_cons.1 he with he | he
    ·exact .inl he
    ·exact .inr<|List.mem_append_right _ he
  rcases hcase with rfl | he2
  ·dsimp only
   rw [pM,if_pos rfl]
   exact ⟨hv,(hr (x.mem.name,v,rows)<|by simp).2.snoc hx⟩
  ·rw [pM,if_neg (λq=>hother e he2 q.symm)]
   exact hr e (by rcases List.mem_append.1 he2 with h | h <;> simp [h])
theorem NM {Y:Res} {E:List BE} {cs:List Cm} {n:Nm} {v:Value} {rows:List (List Value)} {F:Value->List (List Value)->List BE} (hb:BOk Y E cs) (hF:(n ∉ (E.map λe=>e.1)/\rows=[]/\∀ v2 r2,F v2 r2=E++[(n,v2,r2)])∨∃ E1 E2,E=E1++(n,v,rows)::E2/\∀ v2 r2,F v2 r2=E1++(n,v2,r2)::E2):rows.length≤cs.length:=by
 rcases hF with ⟨_,rfl,_⟩ | ⟨E1,E2,rfl,_⟩
 ·simp
 ·rw [(hb.2 (n,v,rows)<|by simp).2.1]
  exact List.length_filter_le _ _
attribute [local irreducible] Go.Ck.Sub St Cd Xt Nx DrL LsW
section
variable {X Y:Res} {v v':Value} {us us':List Value}
theorem CW {mb:Nat} {uc:List Value}:Ct prog 171 #[.agg #[v,.map (some mb)],.agg uc.toArray] [] λu h'=>∃ b1 b2,u = .func (.func 237) #[] #[.pointer (some ⟨b1,0,none⟩),.pointer (some ⟨b2,0,none⟩)]/\h'=[pt b1 (cl uc 44),pt b2 (cl [v,.map (some mb)] 114)]:=by
 refine aL (n:=6) func171 Z Z (len Z) λhr w0=>?_
 refine cQ (aV Z Z λb2=>?_)
 refine aV Z Z λb3=>?_
 refine sA Z<|sK [2,3,4] Z<|cQ<|sV (bY Z Z)<|sA Z<|sK [4] Z<|cT ?_
 exact aj Z ⟨_,_,Z,Z⟩ sbq
theorem en237:Ck.Enters prog 237:=enters_of func237 Zz rfl

theorem wP {mb : Nat} {m : List (Nm × Value)} {fl : Nm -> Fl} {l : FS} {c : FC} {uc : List Value} (hl : Ls X v l) (hc : Enc.rep X uc c) (hm : FlR X m fl) (hf : ∀ p ∈ c.pars, (ae l p.name).forms.length = p.args.length /\ p.und.length ≤ 1099511627776) (hb : (comes fl l c).length * 280 ≤ 1099511627776) :
  CtX prog 113 #[.agg #[v,.map (some mb)],.agg uc.toArray] X [mps mb m] λu Y k'=>∃ bm E,u = .map (some bm)/\k'=[mps mb m,mps bm (jY E),BN E]/\BOk Y E (comes fl l c):=by
 have hml:maxLen=9223372036854775807:=rfl
 have hcl:uc.length=7:=Enc.len hc
 unfold CtX
 refine qC (n:=25) func113 Z Z (len Z) λhr w0=>?_
 refine cQ (aV Z Z λb2=>?_)
 refine aV Z Z λb3=>?_
 refine sA Z<|sK [2,3,4] Z<|cQ (eH (ltn Z) λbm=>?_)
 refine au al188 λb5=>?_
 refine aZ Z Z sz188 ?_
 refine sK [2,3,4,5] Z<|cS<|cQ<|sV (ag Z gD Z ah) ?_
 refine sV (ag Z gM hcl ah) ?_
 refine aH Z Z en171 Z (CW (v:=v) (mb:=mb) (uc:=uc)) ?_
 rintro u h' ⟨c1,c2,rfl,rfl⟩
 simp only [lC,lN]
 refine sK [4,5,10] Z<|cB<|dK (eO (L:=[])) (jc Z en237 λyl db rec hst hpe hps hasg hbo hkn2=>?_)
 refine ⟨_,Ct.perm (Gi (σ := List BE) (mb:=mb) (b1:=c1) (b2:=c2) (yl:=yl) (λE=>pt yl (.loop rec)::pt db (.deferred<|some [])::pt b5 (cl [.map (some bm)] 188)::mps bm (jY E)::BN E::pt b3 (cl uc 44)::pt b2 (cl [v,.map (some mb)] 114)::hr)
  (λk Y E=>BOk Y E ((comes fl l c).take k)) (λ_ _ _=>False) [] ⟨rfl,λe he=>by cases he⟩ hl hc hm hf ?_ (λ_ _ _ _ he h=>h.up he)) ?_,?_⟩
 ·rintro k Y E x us hx hE hrep hbk
  have hone:=Enc.ones hrep
  have hlt:=(List.getElem?_eq_some_iff.1 hx).1
  have htk:(comes fl l c).take (k+1)=(comes fl l c).take k++[x]:=by rw [bW hlt,(List.getElem?_eq_some_iff.1 hx).2]
  obtain ⟨v1,rows,BO,F,hlook,hV1,hV2,hsupd,hcase⟩:=Gm E x.mem.name (by rw [hbk.1]; exact ig _)
  have hrl:=NM hbk hcase
  rw [List.length_take] at hrl
  have hstep:=λ(v2:Value) (hv2:v2.oneCell'=true)=>NL (us:=us) hbk hrep hv2 hcase
  obtain ⟨x2,x5,xy,x11,x12,x13,rfl,hxm⟩:=il hrep
  unfold oH at *
  refine Yc.perm (qz (n:=25) (rec:=rec) (args:=[.agg [sv x.og.par,sv x.og.name,.int .i64 x.par,sv x.mem.name,.int .i64 x.mem.kind,x2,sv x.mem.impl.cls,sv x.mem.impl.name,x5,.int .i64 x.mem.ty.kind,sv x.mem.ty.name,xy,.bool x.mem.ty.void,.bool x.mem.ty.sep,x11,x12,x13,.int .i64 x.was].toArray]) (hf:=pt db (.deferred<|some [])::pt b5 (cl [.map (some bm)] 188)::mps bm (jY E)::BN E::Y::mps mb m::pt b3 (cl uc 44)::pt b2 (cl [v,.map (some mb)] 114)::hr) (by rw [hps]; rfl) hkn2 (by rw [hps]; decide) ?_) (by exact (by repeat (first | exact Pm.refl | refine Pm.cons slq ?_):Pm _ _).perm)
  intro hr2 w1
  rw [hasg,hps,hbo]
  simp only [lC,lN]
  refine cR (au qJ λb6=>?_)
  refine ai Z Z mD Z hone ?_
  refine sN<|nK [4,5,6] Z<|ax<|lm Z slq (by first | rfl | assumption) ?_
  refine cB<|dK (Vw.sel (r:=BN E) slq<|hV1 _) ?_
  refine jk (ork [(0,1),(1,2),(2,2),(3,1),(4,1),(5,2),(6,2),(7,1),(8,1),(9,1),(10,0),(11,0),(12,0)] .nil) (λi => !(Nat.beq i 12)) [pt b5 (cl [.map (some bm)] 188),pt b6 (cl [sv x.og.par,sv x.og.name,.int .i64 x.par,sv x.mem.name,.int .i64 x.mem.kind,x2,sv x.mem.impl.cls,sv x.mem.impl.name,x5,.int .i64 x.mem.ty.kind,sv x.mem.ty.name,xy,.bool x.mem.ty.void,.bool x.mem.ty.sep,x11,x12,x13,.int .i64 x.was] 191),mps bm (jY E)] mixed Zz ?_
  refine bu Z (vY Z qF) ?_
  refine dV Z (vF Z dR Z)<|dV Z (vF Z eQ Z)<|bu Z (vY Z ld9) ?_
  refine bu Z (vY Z qF) ?_
  refine dV Z (vF Z dR Z)<|dV Z (vF Z eQ Z)<|bu Z (vY Z ld9) ?_
  refine bu Z (gp hlook<|bH Z Z r9 sO slq) ?_
  refine bu Z (ag Z gZ Z ah) ?_
  refine aP Z (ak (cells:=[sv x.og.par,sv x.og.name,.int .i64 x.par,sv x.mem.name,.int .i64 x.mem.kind,x2,sv x.mem.impl.cls,sv x.mem.impl.name,x5,.int .i64 x.mem.ty.kind,sv x.mem.ty.name,xy,.bool x.mem.ty.void,.bool x.mem.ty.sep,x11,x12,x13,.int .i64 x.was]) Z underlying187 zV Z Z Zz (ltn Z) λb22=>aW ?_)
  refine aP Z (dY [[sv x.og.par,sv x.og.name,.int .i64 x.par,sv x.mem.name,.int .i64 x.mem.kind,x2,sv x.mem.impl.cls,sv x.mem.impl.name,x5,.int .i64 x.mem.ty.kind,sv x.mem.ty.name,xy,.bool x.mem.ty.void,.bool x.mem.ty.sep,x11,x12,x13,.int .i64 x.was]] Z Z underlying187 zV Z (by decide) (show Sel _ (VR v1 191 18 rows) _ from slq) (by simp) Z (λj u2 hu2=>bS<|bV Zu) (by simpa using hone) (by omega) (by omega) (ltn Z) λw2 hw2 _=>aW ?_)
  refine aP Z<|cu Z Z Z r9 slq<|aW ?_
  rw [hsupd]
  refine bA<|nK [4] Z<|ax<|xB<|kC (fD (L:=[VR w2 191 18 (rows++[[sv x.og.par,sv x.og.name,.int .i64 x.par,sv x.mem.name,.int .i64 x.mem.kind,x2,sv x.mem.impl.cls,sv x.mem.impl.name,x5,.int .i64 x.mem.ty.kind,sv x.mem.ty.name,xy,.bool x.mem.ty.void,.bool x.mem.ty.sep,x11,x12,x13,.int .i64 x.was]]),BO])) ?_
  simp only [lC,lN]
  refine jB (hV2 _ _ _)<|dA slq (.inl ⟨Z,Y,_,Ext.refl Y,by rw [htk]; exact hstep w2 hw2,Z⟩) ?_
  rw [dB hst hpe]
  exact sbq
 ·exact (by repeat (first | exact Pm.refl | refine Pm.cons slq ?_):Pm _ _).perm
 ·rintro u h' ⟨rfl,(⟨Y,E,hE,hbk,rfl⟩ | ⟨k,Y,t,_,hS,rfl⟩)⟩
  ·rw [List.take_length] at hbk
   refine ⟨rec,_,slq,(by rw [hst]; simp),?_⟩
   rw [hpe]
   dsimp only
   refine xB<|xT<|cQ<|sV (vY Z qF) ?_
   refine sA Z<|sK [4] Z<|cT ?_
   exact jN (bs:=[db]) Z Z ⟨Y,_,Z,hE,bm,E,Z,Z,hbk⟩ sbq
  ·exact hS.elim
end
end Go.Fl
namespace Go.Fl
open Go Go.RowKit Go.Ck Go.Proofs Go.Proofs.Tryz Go.Proofs.YtknmacdbffgjgaaGreatDoor Fx Go.Hr

def Iu:Go.Shelf.Ren:={
 f:=λ| 6=>124 | 15=>202 | 14=>201 | 28=>258 | 29=>259 | 20=>250 | 21=>251 | 22=>252 | 23=>253 | 24=>254 | 25=>255 | 26=>256 | 27=>257 | 46=>289 | 47=>290 | 48=>291 | 49=>292 | 50=>293 | 57=>304 | n=>n
 t:=λ| 22=>52 | 24=>75 | 25=>204 | 3=>3 | 39=>275 | 0=>0 | 53=>322 | 55=>324 | 4=>4 | 46=>316 | 45=>315 | 50=>222 | 5=>5 | 9=>9 | 66=>345 | 70=>349 | 76=>365 | 77=>366 | n=>n
 g:=λn=>n }
theorem laysMb:Go.Proofs.SlLaysF0.n6 prog Iu:={
 mixed:=rfl
 f6 := bR "slices.SortFunc[[]cosigner/api.Member,cosigner/api.Member]" rfl (func124.trans (congrArg some Zz))
 f14 := bR "slices.pdqsortCmpFunc[cosigner/api.Member]" rfl (func201.trans (congrArg some Zz))
 f15:=func202.trans<|congrArg some Zz
 f20 := bR "slices.insertionSortCmpFunc[cosigner/api.Member]" rfl (func250.trans (congrArg some Zz))
 f21 := bR "slices.heapSortCmpFunc[cosigner/api.Member]" rfl (func251.trans (congrArg some Zz))
 f22 := bR "slices.breakPatternsCmpFunc[cosigner/api.Member]" rfl (func252.trans (congrArg some Zz))
 f23 := bR "slices.choosePivotCmpFunc[cosigner/api.Member]" rfl (func253.trans (congrArg some Zz))
 f24 := bR "slices.reverseRangeCmpFunc[cosigner/api.Member]" rfl (func254.trans (congrArg some Zz))
 f25 := bR "slices.partialInsertionSortCmpFunc[cosigner/api.Member]" rfl (func255.trans (congrArg some Zz))
 f26 := bR "slices.partitionEqualCmpFunc[cosigner/api.Member]" rfl (func256.trans (congrArg some Zz))
 f27 := bR "slices.partitionCmpFunc[cosigner/api.Member]" rfl (func257.trans (congrArg some Zz))
 f28:=func258.trans<|congrArg some Zz
 f29:=func259.trans<|congrArg some Zz
 f46 := bR "slices.siftDownCmpFunc[cosigner/api.Member]" rfl (func289.trans (congrArg some Zz))
 f47:=func290.trans<|congrArg some Zz
 f48:=func291.trans<|congrArg some Zz
 f49 := bR "slices.medianAdjacentCmpFunc[cosigner/api.Member]" rfl (func292.trans (congrArg some Zz))
 f50 := bR "slices.medianCmpFunc[cosigner/api.Member]" rfl (func293.trans (congrArg some Zz))
 f57 := bR "slices.order2CmpFunc[cosigner/api.Member]" rfl (func304.trans (congrArg some Zz))
 t0:=underlying0
 a0:=isAgg0
 z0:=sizeOf0
 v0:=zeroValue0
 t3:=underlying3
 a3:=isAgg3
 z3:=sizeOf3
 v3:=zeroValue3
 t4:=underlying4
 a4:=isAgg4
 z4:=sizeOf4
 v4:=zeroValue4
 t5:=underlying5
 a5:=isAgg5
 z5:=sizeOf5
 v5:=zeroValue5
 t9:=underlying9
 a9:=isAgg9
 z9:=sizeOf9
 v9:=zeroValue9
 t22:=underlying52
 a22:=isAgg52
 z22:=sizeOf52
 v22:=zeroValue52
 t25:=underlying204
 a25:=isAgg204
 z25:=sizeOf204
 v25:=zeroValue204
 t39:=underlying275
 a39:=isAgg275
 z39:=sizeOf275
 v39:=zeroValue275
 t45:=underlying315
 a45:=isAgg315
 z45:=sizeOf315
 v45:=zeroValue315
 t46:=underlying316
 a46:=isAgg316
 z46:=sizeOf316
 v46:=zeroValue316
 t50:=underlying222
 a50:=isAgg222
 z50:=sizeOf222
 v50:=zeroValue222
 t53:=underlying322
 a53:=isAgg322
 z53:=sizeOf322
 v53:=zeroValue322
 t55:=underlying324
 a55:=isAgg324
 z55:=sizeOf324
 v55:=zeroValue324
 t66:=underlying345
 a66:=isAgg345
 z66:=sizeOf345
 v66:=zeroValue345
 t70:=underlying349
 a70:=isAgg349
 z70:=sizeOf349
 v70:=zeroValue349
 t76:=underlying365
 a76:=isAgg365
 z76:=sizeOf365
 v76:=zeroValue365
 t77:=underlying366
 a77:=isAgg366
 z77:=sizeOf366
 v77:=zeroValue366 }
abbrev MC:Type:={ p:Mb×List Value // p.2.length=14/\p.2.all Value.oneCell'=true/\p.2[0]? = some (sv p.1.name) }
instance:Inhabited MC:=⟨⟨(mb0,sv []::List.replicate 13 (.bool false)),rfl,rfl,rfl⟩⟩
def Gn (a b:MC):Int:=qM a.1.1.name b.1.1.name
theorem Gp (a b:Nm):(qM a b<0)↔lt a b=true:=by
 unfold qM
 rcases dU a b with h | h | h
 ·simp [h]
 ·rw [h]; simp [lt_irrefl]
 ·simp [h,iM h]
theorem swoMC:Sort.SWO (ltOf Gn):=by
 have key:∀ x y,ltOf Gn x y=lt x.1.1.name y.1.1.name:=λx y=>by
  unfold ltOf Gn
  rw [Bool.eq_iff_iff,decide_eq_true_iff,Gp]
 refine ⟨λx=>by rw [key,lt_irrefl],λx y z h1 h2=>by rw [key] at *; exact lt_trans h1 h2,λx y z h1 h2=>?_⟩
 rw [key] at *
 cases h3:lt x.1.1.name z.1.1.name with
 | false=>rfl
 | true =>
  rcases dU x.1.1.name y.1.1.name with h4 | h4 | h4
  ·rw [h1] at h4; cases h4
  ·rw [h4,h2] at h3; cases h3
  ·rw [lt_trans h4 h3] at h2; cases h2
attribute [local irreducible] Go.Ck.Sub St Cd Xt Nx DrL LsW
section
variable {X Y:Res} {v v':Value} {us us':List Value}
theorem Ll (a b:MC):Reads prog 125 #[.agg a.1.2.toArray,.agg b.1.2.toArray] [] (.int .i64 (Gn a b)):=by
 obtain ⟨⟨n,us⟩,h1,h2,h3⟩:=a
 obtain ⟨⟨n',us'⟩,h1',h2',h3'⟩:=b
 dsimp only at h1 h2 h3 h1' h2' h3' ⊢
 obtain ⟨c,t,rfl⟩:∃ c t,us=c::t:=by cases us with | nil=>cases h1 | cons c t=>exact ⟨c,t,rfl⟩
 obtain ⟨c',t',rfl⟩:∃ c t,us'=c::t:=by cases us' with | nil=>cases h1' | cons c t=>exact ⟨c,t,rfl⟩
 obtain rfl:c=sv n.name:=Zc
 obtain rfl:c'=sv n'.name:=by simpa using h3'
 unfold Gn
 refine aL (n:=10) func125 Z Z (len Z) λhr w0=>?_
 refine cQ (aV Z Z λb2=>?_)
 refine aV Z Z λb3=>?_
 refine sA Z<|sK [2,3,4] Z<|cQ<|sV (vF Z eQ Z)<|sV (vY Z ld9) ?_
 refine sV (vF Z eQ Z)<|sV (vY Z ld9) ?_
 refine bf Z Z JM Z (zg n.name n'.name) ?_
 refine sA Z<|sK [4] Z<|cT ?_
 exact aj Z ⟨Z,Z⟩ sbq
theorem mb_name {m:Mb} (h:Enc.rep X us m):us.length=14/\us.all Value.oneCell'=true/\us[0]? = some (sv m.name):=by
 refine ⟨Enc.len h,Enc.ones h,?_⟩
 obtain ⟨x2,x5,xy,x11,x12,x13,rfl,_⟩:=dh h
 rfl
theorem Iw {Y:Res} {v:Value} {rows:List (List Value)} {ms:List Mb} (hr:Rws Y rows ms) (hn:(ms.map λm=>m.name).Nodup) (hl:ms.length≤1099511627776):Ct prog 124 #[v,.func (.func 125) #[] #[]] [VR v 75 14 rows] λu h'=>u = .tuple #[]/\∃ rows',Rws Y rows' (qR ms)/\rows'.length=rows.length/\h'=[VR v 75 14 rows']:=by
  have hex : ∃ xs : List MC, xs.map (λx => x.1.2) = rows /\ xs.map (λx => x.1.1) = ms /\ ∀ x ∈ xs, Enc.rep Y x.1.2 x.1.1 := by
    obtain ⟨hlen,hr⟩:=hr
    clear hn hl
    induction rows generalizing ms with
    | nil => have : ms = [] := by cases ms with | nil => rfl | cons _ _ => cases hlen
             subst this; exact ⟨[],rfl,rfl,λx hx=>by cases hx⟩
    | cons r t ih =>
      cases ms with
      | nil=>cases hlen
      | cons m mt =>
        have h0:=hr 0 r m rfl rfl
        have h1:=mb_name h0
        obtain ⟨xs,h2,h3,h4⟩:=ih (ms:=mt) (by simpa using hlen) λj us x g1 g2=>hr (j+1) us x g1 g2
        refine ⟨⟨(m,r),h1⟩::xs,by rw [List.map_cons,h2],by rw [List.map_cons,h3],λx hx=>?_⟩
        rcases List.mem_cons.1 hx with rfl | hx
        · exact h0
        · exact h4 x hx
  obtain ⟨xs,hx1,hx2,hx3⟩:=hex
  have hxl:xs.length=ms.length:=by have:=congrArg List.length hx2; simpa using this
  have h:=Gh (E:=75) (v:=v) laysMb (k:=14) isAgg75 sizeOf75 (enc:=λx:MC=>x.1.2) (λx=>x.2.1) (λx u hu=>List.all_eq_true.1 x.2.2.1 u hu) swoMC (g:=125) (enters_of func125 Zz rfl) (λx y=>Ll x y) (xs:=xs)<|by omega
  rw [hx1] at h
  refine Ct.mono h ?_
  rintro u h' ⟨rfl,ys,hp,hs,rfl⟩
  refine ⟨Z,_,?_,by rw [<- hx1,List.length_map,List.length_map]; exact hp.length_eq,Z⟩
  have hpm:(ys.map λy=>y.1.1).Perm ms:=by rw [<- hx2]; exact hp.map _
  have hnd:((ys.map λy=>y.1.1).map λm=>m.name).Nodup:=(hpm.map _).nodup_iff.2 hn
  have hsrt:rU (ys.map λy=>y.1.1):=by
    unfold rU
    rw [List.pairwise_map]
    rw [List.map_map] at hnd
    have h7:=List.pairwise_map.1 hnd
    refine (hs.and h7).imp λ{a b} hab=>?_
    rcases dU a.1.1.name b.1.1.name with g | g | g
    · exact g
    · exact absurd g hab.2
    · exact (hab.1 ((Gp _ _).2 g)).elim
  have he:(ys.map λy=>y.1.1)=qR ms:=yf hsrt (iU hn).1 λm=>by rw [(iU hn).2,hpm.mem_iff]
  rw [<- he]
  refine ⟨by simp,λj us x g1 g2=>?_⟩
  rw [List.getElem?_map] at g1 g2
  cases hj:ys[j]? with
  | none=>rw [hj] at g1; cases g1
  | some y =>
    rw [hj] at g1 g2
    cases g1; cases g2
    exact hx3 y<|hp.mem_iff.1<|List.mem_of_getElem? hj
end
end Go.Fl
namespace Go.Fl
open Go Go.RowKit Go.Ck Go.Proofs Go.Proofs.Tryz Go.Proofs.YtknmacdbffgjgaaGreatDoor Fx Go.Hr
theorem J9 {Y Y2:Res} {E:List BE} {cs:List Cm} (hb:BOk Y E cs) (he:Ext Y Y2) (hok:∃ f,(BN E).ok f) (hr:∀ p u,Rd (BN E) p u->Rd Y2 p u) (hs:cs.length * 280≤1099511627776):∀ e∈E,Ls Y2 e.2.1 (under cs e.1):=λe hm=>by
 obtain ⟨s,t,rfl⟩:=List.append_of_mem hm
 have hrw:=(hb.2 e hm).2.up he
 have hul:(under cs e.1).length≤cs.length:=List.length_filter_le _ _
 have hrb:reachBytes=140737488351232:=rfl
 have hsel:∀ (s t:List BE),Sel ((s++e::t).map λe=>VR e.2.1 191 18 e.2.2) (VR e.2.1 191 18 e.2.2) ((s++t).map λe=>VR e.2.1 191 18 e.2.2):=λs t=>by
  induction s with
  | nil=>exact .here
  | cons a s ih=>exact .there ih
 have h9:(under cs e.1).length * 280≤140737488351232:=by omega
 rw [<- hrb] at h9
 have hrd2:∀ p u,Rd (VR e.2.1 191 18 e.2.2) p u->Rd Y2 p u:=λp u h=>hr p u (by unfold BN; exact rE (hsel s t) h)
 refine Rws.ls (E:=191) hrw ?_ hrd2 h9
 obtain ⟨f,hf⟩:=hok
 have h1:bg f ((s++e::t).map λe=>VR e.2.1 191 18 e.2.2):=hf
 exact ⟨f,((bg.perm (hsel s t).perm).1 h1).1⟩
theorem Ba (cs:List Cm):(keys cs).length≤cs.length:=by
 have:∀ ys:List Cm,(keys ys.reverse).length≤ys.reverse.length:=λys=>by
  induction ys with
  | nil=>simp [keys,dd]
  | cons y t ih =>
   rw [List.reverse_cons,wO]
   split <;> simp at ih ⊢ <;> omega
 simpa using this cs.reverse
theorem Bb {β : Type} (f:Cm->List β) (cs:List Cm) (n:Nm):((under cs n).flatMap f).length≤(cs.flatMap f).length:=by
 unfold under
 induction cs with
 | nil=>simp
 | cons x t ih =>
  rw [List.filter_cons]
  split <;> simp only [List.flatMap_cons,List.length_append] <;> omega
theorem Iy {xs ys:List Mb} (hp:xs.Perm ys) (hn:(ys.map λm=>m.name).Nodup):qR xs=qR ys:=by
 have hn':(xs.map λm=>m.name).Nodup:=(hp.map _).nodup_iff.2 hn
 exact yf (iU hn').1 (iU hn).1 λm=>by rw [(iU hn').2,(iU hn).2,hp.mem_iff]
theorem zl {Y:Res} {E:List BE} {cs:List Cm} (hk:E.map (λe=>e.1)=keys cs) (h:∀ e∈E,Ls Y e.2.1 (under cs e.1)) (n:Nm):Ls Y ((bM (jY E) n).getD (.slice none 0 0)) (under cs n):=by
 obtain ⟨v,rows,BO,F,h1,-,-,-,h5⟩:=Gm E n (by rw [hk]; exact ig _)
 rw [h1]
 rcases h5 with ⟨h6,-,-⟩ | ⟨E1,E2,rfl,-⟩
 ·have h7:bM (jY E) n=none:=zO.2 (by rw [jL]; exact h6)
  rw [h7] at h1
  rw [A9 (by rw [<- hk]; exact h6),<- h1]
  exact Ls.nil
 ·exact h (n,v,rows)<|by simp
def Mid1 (Y:Res) (rows:List (List Value)) (cs:List Cm) (c:FC) (left:List (Nm×Value)):Prop:=∃ ds:List Nm,Rws Y rows ((ds.filter λn=>(feat c n).isNone).map λn=>joined<|under cs n)/\(ds++left.map (λp=>p.1)).Perm (keys cs)
theorem Mid1.len {Y:Res} {rows:List (List Value)} {cs:List Cm} {c:FC} {left:List (Nm×Value)} (h:Mid1 Y rows cs c left):rows.length≤cs.length:=by
 obtain ⟨ds,h1,h2⟩:=h
 have h3:=h2.length_eq
 have h4:=Ba cs
 have h5:=List.length_filter_le (λn=>(feat c n).isNone) ds
 rw [h1.1,List.length_map]
 rw [List.length_append] at h3
 omega
attribute [local irreducible] Go.Ck.Sub St Cd Xt Nx DrL LsW
section
variable {X Y:Res} {v v':Value} {us us':List Value}

theorem Bc {mb : Nat} {m : List (Nm × Value)} {fl : Nm -> Fl} {l : FS} {c : FC} {uc : List Value} (hl : Ls X v l) (hc : Enc.rep X uc c) (hm : FlR X m fl) (hf : ∀ p ∈ c.pars, (ae l p.name).forms.length = p.args.length /\ p.und.length ≤ 1099511627776) (hb : (comes fl l c).length * 280 ≤ 1099511627776) (hn : (c.feats.map λf => f.name).Nodup)
  (hbS:(nz<|comes fl l c).length * 32≤1099511627776) (hbP:((comes fl l c).flatMap λx=>x.mem.pre).length * 40≤1099511627776) (hbQ:((comes fl l c).flatMap λx=>x.mem.post).length * 40≤1099511627776) (hbF:c.feats.length * 256≤1099511627776) :
  CtX prog 57 #[.agg #[v,.map (some mb)],.agg uc.toArray] X [mps mb m] λu Y k'=>k'=[mps mb m]/\Ls Y u (members (comes fl l c) c):=by
 have hml:maxLen=9223372036854775807:=rfl
 have hrb:reachBytes=140737488351232:=rfl
 have hby:=wP (mb:=mb) hl hc hm hf hb
 have hc0:=hc
 obtain ⟨ca,cb,ce,cf,ci,rfl,hca,hcb,hce,hcf,hci⟩:=gB hc
 obtain ⟨cf,cfk,rfl,hcfl,_⟩:=id hcf.form
 have hkl:=Ba<|comes fl l c
 have hraw:=Cv (comes fl l c) hn
 have hmem:members (comes fl l c) c=qR (tH (comes fl l c) c):=rfl
 rw [hmem]
 have hSu:=λn=>Bb (λx=>x.mem.seeds) (comes fl l c) n
 have hPu:=λn=>Bb (λx=>x.mem.pre) (comes fl l c) n
 have hQu:=λn=>Bb (λx=>x.mem.post) (comes fl l c) n
 unfold nz at hbS
 generalize comes fl l c=cs at hb hbS hbP hbQ hkl hraw hSu hPu hQu hby ⊢
 unfold CtX at hby ⊢
 refine aL (n:=58) func57 Z Z (len Z) λhr w0=>?_
 refine cQ (aV Z Z λb2=>?_)
 refine aV Z Z λb3=>?_
 refine sA Z<|sK [2,3,4] Z<|cQ<|sV (ag Z gD Z ah) ?_
 refine sV (ag Z gM Z ah) ?_
 refine aH Z Z JJ Z (hby) ?_
 rintro u h' ⟨Y,k',rfl,hE,bm,E,rfl,rfl,hbk⟩
 simp only [lC,lN]
 refine sA Z<|sK [3,4,5] Z<|cQ<|sA Z<|sN<|nT<|cS<|cS (fO (r:=BN E) slq λhokE=>?_)
 refine HZ [BN E] Y λY2 hE2 hsel=>?_
 have hls:=J9 hbk hE2 hokE (hsel _ _ .here) hb
 have hlk:=zl hbk.1 hls
 have hk0:=hbk.1
 refine dK (cz 75 14)<|cR<|sM Z (A8 Z r9 slq (ltn Z) λib hndE=>?_)
 refine sK [3,4,5,6,17] Z<|cB<|aX (σ := Value×List (List Value)×Res×List (Nm×Value)×Option (Nm×Value)) (λq=>[(3,.pointer (some ⟨b3,0,none⟩)),(5,.map (some bm)),(6,q.1),(17,.pointer (some ⟨ib,0,none⟩))]) (λq=>wN bm ib (jY E) q.2.2.2.1 q.2.2.2.2::VR q.1 75 14 q.2.1::pt b3 (cl [sv c.name,.bool c.dfd,ca,cb,ce,.slice cf c.feats.length cfk,ci] 44)::q.2.2.1::mps mb m::hr) (λq=>q.1.oneCell'=true/\Ext Y2 q.2.2.1/\Mid1 q.2.2.1 q.2.1 cs c q.2.2.2.1/\∀ p∈q.2.2.2.1,p∈jY E) (λq=>q.2.2.2.1.length) (.slice none 0 0,[],Y2,jY E,none) ⟨Z,Ext.refl Y2,⟨[],Rws.nil,by rw [List.nil_append,jL,hk0]⟩,λp hp=>hp⟩ ?_
 rintro ⟨w,rows,Zq,left,last⟩ ⟨hw,hE3,hmid,hsub⟩
 simp only at hw hE3 hmid hsub
 dsimp only
 refine cQ<|CU Z slq (ltn Z) (λhl0=>?_)<|λk v1 left' hp=>?_
 ·subst hl0
  obtain ⟨ds,hr0,hds⟩:=hmid
  rw [List.map_nil,List.append_nil] at hds
  have hfin:(((ds.filter λn=>(feat c n).isNone).map λn=>joined<|under cs n)++c.feats.map λf=>jJ c f<|under cs f.name).Perm (tH cs c):=((hds.filter _).map _).append_right _
  generalize ((ds.filter λn=>(feat c n).isNone).map λn=>joined<|under cs n)=ms0 at hr0 hfin
  have hnfin:=(hfin.map λm=>m.name).nodup_iff.2 hraw
  have hlen0:ms0.length+c.feats.length≤cs.length+c.feats.length:=by
   have:=hfin.length_eq
   simp only [List.length_append,List.length_map] at this
   have h8:(tH cs c).length≤cs.length+c.feats.length:=by
    unfold tH
    rw [List.length_append,List.length_map,List.length_map]
    have:=List.length_filter_le (λn=>(feat c n).isNone)<|keys cs
    omega
   omega
  have hlenF:=hfin.length_eq
  rw [List.length_append,List.length_map] at hlenF
  refine sV (af Z Z)<|sK [3,5,6,17,19] Z<|cS<|aG Z ?_
  refine aB<|xE<|xE<|xY<|xT<|cS<|cS<|Gl slq ?_
  refine cR<|sV (vF Z ko Z)<|sV (vY Z yD) ?_
  refine sV (aF Z underlying41)<|sM Z<|sK [3,5,6,38,39,40] Z<|cB<|aX (σ := Value×List (List Value)×Res×Nat) (λq=>[(3,.pointer (some ⟨b3,0,none⟩)),(5,.map (some bm)),(6,q.1),(38,.slice cf c.feats.length cfk),(39,.int .i64 c.feats.length),(40,.int .i64 (q.2.2.2:Nat))]) (λq=>mps bm (jY E)::VR q.1 75 14 q.2.1::pt b3 (cl [sv c.name,.bool c.dfd,ca,cb,ce,.slice cf c.feats.length cfk,ci] 44)::q.2.2.1::mps mb m::hr) (λq=>q.1.oneCell'=true/\Ext Y2 q.2.2.1/\Rws q.2.2.1 q.2.1 (ms0++(c.feats.take q.2.2.2).map λf=>jJ c f<|under cs f.name)/\q.2.2.2≤c.feats.length) (λq=>c.feats.length - q.2.2.2) (w,rows,Zq,0) ⟨hw,hE3,by simpa using hr0,Nat.zero_le _⟩ ?_
  rintro ⟨w,rows,Zq,i⟩ ⟨hw,hE3,hro,hi⟩
  simp only at hw hE3 hro hi
  dsimp only
  refine cQ<|sV (aN Z Z)<|sN<|nT<|cS<|cC Z (λhd=>?_)<|λhd=>?_
  ·have hlt:i<c.feats.length:=Zx
   have hrl:rows.length=ms0.length+i:=by rw [hro.1]; simp; omega
   have htk:=bW hlt
   obtain ⟨fb,fo,fcap,fus,e1,hfus,hfrd,hfr⟩:=((hcf.up<|hE.trans hE2).up hE3).at<|Zy hlt
   obtain ⟨rfl,rfl⟩:cf=some ⟨fb,fo,none⟩/\cfk=fcap:=by cases e1; exact ⟨rfl,rfl⟩
   generalize c.feats[i]=f at hfr htk
   have hfr0:=hfr
   obtain ⟨x2,x3,fy,x9,x10,x11,x12,x13,x14,rfl,-⟩:=nD hfr
   have hfo:=Enc.ones hfr0
   have how:=own_ct (Enc.up ((hE.trans hE2).trans hE3).rd hc0) hfr0 ((hlk f.name).up hE3) (by have:=hSu f.name; unfold nz; omega) (by have:=hPu f.name; omega) (by have:=hQu f.name; omega)
   unfold CtX at how
   generalize hJ:jJ c f (under cs f.name)=J at how
   unfold AZ at *
   refine cK<|xT<|cS<|cB<|cQ<|sV (vI (k:=i) Z Z sl41 Z hlt Z)<|sV (ag Z nZ Z hfrd) ?_
   refine au lH λb12=>?_
   refine ai Z Z jP Z hfo ?_
   refine sK [3,5,6,12,38,39,40] Z<|cR<|sM Z<|sV (ag Z gM Z ah) ?_
   refine sV (ag Z nZ Z ah) ?_
   refine sM Z<|sV (vF Z oW Z)<|sV (vY Z ld9) ?_
   refine sV (bH Z Z r9 sO slq) ?_
   refine aH Z Z en123 Z (how) ?_
   rintro u h' ⟨Z2,k2,rfl,hE4,rfl,us,rfl,hrep⟩
   simp only [lC,lN]
   have hone:=Enc.ones hrep
   obtain ⟨j2,j5,jy,j11,j12,j13,rfl,-⟩:=dh hrep
   unfold gz at *
   refine ak (cells:=[sv J.name,.int .i64 J.kind,j2,sv J.impl.cls,sv J.impl.name,j5,.int .i64 J.ty.kind,sv J.ty.name,jy,.bool J.ty.void,.bool J.ty.sep,j11,j12,j13]) Z underlying52 uO Z Z Zz (ltn Z) λb52=>?_
   refine dY [[sv J.name,.int .i64 J.kind,j2,sv J.impl.cls,sv J.impl.name,j5,.int .i64 J.ty.kind,sv J.ty.name,jy,.bool J.ty.void,.bool J.ty.sep,j11,j12,j13]] Z Z underlying52 uO Z (by decide) (show Sel _ (VR w 75 14 rows) _ from slq) (by simp) Z (λj u2 hu2=>bS<|bV Zu) (by simpa using hone) (by omega) (by omega) (ltn Z) λw2 hw2 _=>?_
   refine sA Z<|sN<|nK [3,5,6,38,39,40] Z<|ax<|xB<|xT<|cR<|sV (aI Z Z Za)<|sM Z<|sN<|nK [3,5,6,38,39,40] Z<|ax ?_
   refine aJ (w2,rows++[[sv J.name,.int .i64 J.kind,j2,sv J.impl.cls,sv J.impl.name,j5,.int .i64 J.ty.kind,sv J.ty.name,jy,.bool J.ty.void,.bool J.ty.sep,j11,j12,j13]],Z2,i+1) ⟨hw2,hE3.trans hE4,by rw [htk,List.map_append,<- List.append_assoc]; exact (hro.up hE4).snoc (show Enc.rep Z2 _ (jJ c f<|under cs f.name) from by rw [hJ]; exact hrep),hlt⟩ (by dsimp only; omega)
  ·have hie:i=c.feats.length:=by
    have:¬ i<c.feats.length:=Zx
    omega
   subst hie
   rw [List.take_length] at hro
   have hsl:(ms0++c.feats.map λf=>jJ c f<|under cs f.name).length≤1099511627776:=by rw [List.length_append,List.length_map]; omega
   refine aB<|xE<|xE<|xY<|xT<|cQ<|sM Z<|aH Z Z en124 Z (Iw hro hnfin hsl) ?_
   rintro u h' ⟨rfl,rows',hr',hrl',rfl⟩
   simp only [lC,lN]
   rw [Iy hfin hraw] at hr'
   have hml2:(qR<|tH cs c).length * 232≤reachBytes:=by
    have h1:(qR<|tH cs c).length=rows'.length:=hr'.1.symm
    have h2:=hro.1
    rw [List.length_append,List.length_map] at h2
    omega
   refine sK [6] Z<|cQ<|sM Z<|sA Z<|sK [4] Z<|cT (dX (r:=VR w 75 14 rows') slq λhok=>?_)
   refine ik [VR w 75 14 rows'] Zq λY3 hE5 hsel3=>?_
   exact aj Z ⟨Y3,[mps mb m],Z,((hE.trans hE2).trans hE3).trans hE5,Z,Rws.ls (E:=75) (hr'.up hE5) hok (hsel3 _ _ .here) hml2⟩ sbq
 ·refine sV (af Z Z)<|sK [3,5,6,17,19] Z<|cS<|aT Z ?_
  refine cK<|xT<|cB<|cQ<|sV (CV Z slq) ?_
  have hkv:(k,v1)∈jY E:=hsub _<|hp.mem_iff.2<|by simp
  have hsub':∀ p∈left',p∈jY E:=λp hp'=>hsub p<|hp.mem_iff.2<|by simp [hp']
  have hv1:Ls Zq v1 (under cs k):=by
   obtain ⟨e,he,hev⟩:=List.mem_map.1 hkv
   cases hev
   exact (hls e he).up hE3
  have hkk:k∈keys cs:=by rw [<- hk0,<- jL]; exact List.mem_map.2 ⟨_,hkv,rfl⟩
  have hne:under cs k≠[]:=by
   obtain ⟨x,hx,hxn⟩:=jV.1 hkk
   exact List.ne_nil_of_mem<|List.mem_filter.2 ⟨hx,by simpa using hxn⟩
  have hrl:=hmid.len
  have hstep:∀ (Z2:Res) (us:List Value),Ext Zq Z2->Enc.rep Z2 us (joined<|under cs k)->feat c k=none->Mid1 Z2 (rows++[us]) cs c left':=λZ2 us he hr hfn=>by
   obtain ⟨ds,g1,g2⟩:=hmid
   have e1:[k].filter (λn=>(feat c n).isNone)=[k]:=by simp [hfn]
   refine ⟨ds++[k],by rw [List.filter_append,List.map_append,e1]; exact (g1.up he).snoc hr,?_⟩
   rw [List.append_assoc]
   exact ((hp.map λp=>p.1).append_left ds).symm.trans g2
  have hskip:(feat c k).isSome=true->Mid1 Zq rows cs c left':=λhfn=>by
   obtain ⟨ds,g1,g2⟩:=hmid
   refine ⟨ds++[k],?_,?_⟩
   ·have:(feat c k).isNone=false:=by cases hq:feat c k <;> simp [hq] at hfn ⊢
    have e1:[k].filter (λn=>(feat c n).isNone)=[]:=by simp [this]
    rw [List.filter_append,List.map_append,e1]
    simpa using g1
   ·rw [List.append_assoc]
    exact ((hp.map λp=>p.1).append_left ds).symm.trans g2
  refine sV (af Z Z)<|sV (af Z Z)<|sA Z<|sA Z<|sK [3,5,6,7,8,17] Z<|cQ<|sV (vF Z ko Z)<|sV (vY Z yD) ?_
  refine sM Z<|aH Z Z xV Z (iW (n:=k)<|(hcf.up<|hE.trans hE2).up hE3) ?_
  rintro u h' ⟨rfl,fus,rfl,hfr⟩
  simp only [lC,lN]
  have hf15:fus.length=15:=Enc.len hfr
  have hfo:=Enc.ones hfr
  have hfeat:(c.feats.find? λf=>f.name == k)=feat c k:=rfl
  rw [hfeat]
  refine sM Z<|sV (af Z Z)<|sV (af Z Z) (au lH λb9=>?_)
  refine ai (hl:=by rw [hf15]; rfl) Z Z jP hf15 hfo ?_
  refine sA Z<|sK [3,5,6,8,10,17] Z<|cQ<|sM Z<|sV (bn Z)<|sK [3,5,6,8,17,31] Z<|cC Z (λhnf=>?_)<|λhnf=>?_
  ·have hfn:feat c k=none:=by cases hq:feat c k <;> simp [hq] at hnf ⊢
   have hj:=CS hv1 hne (by have:=hSu k; unfold nz; omega) (by have:=hPu k; omega) (by have:=hQu k; omega)
   unfold CtX at hj
   generalize hJ:joined (under cs k)=J at hj
   refine cR<|sM Z<|sM Z<|aH Z Z en122 Z (hj) ?_
   rintro u h' ⟨Z2,k2,rfl,hE4,rfl,us,rfl,hrep⟩
   simp only [lC,lN]
   have hst:=hstep Z2 us hE4 (by rw [hJ]; exact hrep) hfn
   have hone:=Enc.ones hrep
   obtain ⟨j2,j5,jy,j11,j12,j13,rfl,-⟩:=dh hrep
   unfold gz at *
   refine ak (cells:=[sv J.name,.int .i64 J.kind,j2,sv J.impl.cls,sv J.impl.name,j5,.int .i64 J.ty.kind,sv J.ty.name,jy,.bool J.ty.void,.bool J.ty.sep,j11,j12,j13]) Z underlying52 uO Z Z Zz (ltn Z) λb35=>?_
   refine dY [[sv J.name,.int .i64 J.kind,j2,sv J.impl.cls,sv J.impl.name,j5,.int .i64 J.ty.kind,sv J.ty.name,jy,.bool J.ty.void,.bool J.ty.sep,j11,j12,j13]] Z Z underlying52 uO Z (by decide) (show Sel _ (VR w 75 14 rows) _ from slq) (by simp) Z (λj u2 hu2=>bS<|bV Zu) (by simpa using hone) (by omega) (by omega) (ltn Z) λw2 hw2 _=>?_
   refine sA Z<|sN<|nK [3,5,6,17] Z<|ax<|xB ?_
   refine aJ (w2,rows++[[sv J.name,.int .i64 J.kind,j2,sv J.impl.cls,sv J.impl.name,j5,.int .i64 J.ty.kind,sv J.ty.name,jy,.bool J.ty.void,.bool J.ty.sep,j11,j12,j13]],Z2,left',some (k,v1)) ⟨hw2,hE3.trans hE4,hst,hsub'⟩ (by dsimp only; rw [hp.length_eq,List.length_cons]; omega)
  ·have hfn:(feat c k).isSome=true:=by cases hq:feat c k <;> simp [hq] at hnf ⊢
   refine cK<|xB ?_
   refine aJ (w,rows,Zq,left',some (k,v1)) ⟨hw,hE3,hskip hfn,hsub'⟩ (by dsimp only; rw [hp.length_eq,List.length_cons]; omega)
end
end Go.Fl
namespace Go.Fl
open Go Go.RowKit Go.Ck Go.Proofs Go.Proofs.Tryz Go.Proofs.YtknmacdbffgjgaaGreatDoor Fx Go.Hr
theorem Ka {S:Res} {α β : Type} {sz:Nat} {X:List Value -> α -> Prop} {Y:List Value -> β -> Prop} {g : α -> β} {v:Value} {l:List α} (h:Row S sz X v l) (hx:∀ us x,X us x->Y us (g x)):Row S sz Y v (l.map g):=by
 obtain ⟨a,cap,h1,h2,h3,h4,h5⟩:=h
 refine ⟨a,cap,by rw [h1,List.length_map],by rw [List.length_map]; exact h2,h3,h4,λi y hi=>?_⟩
 rw [List.getElem?_map] at hi
 obtain ⟨x,hx1,rfl⟩:=Option.map_eq_some_iff.1 hi
 obtain ⟨b,o,us,g1,g2,g3,g4⟩:=h5 i x hx1
 exact ⟨b,o,us,g1,g2,g3,hx _ _ g4⟩
theorem tu {X:Res} {v:Value} {l:FS} (h:Ls X v l):l9 X v (bi l):=Ka h.1 λus c hc=>by
 have ho:=Enc.ones hc
 obtain ⟨a,b,e,f,i,rfl,h1,h2,h3,h4,h5⟩:=hc
 obtain ⟨fa,fc,rfl,_⟩:=id h4.form
 exact ⟨.bool c.dfd,a,b,e,fa,fc,i,Z,ho,Ka h2.1 λus p hp=>by
  have ho:=Enc.ones hp
  obtain ⟨x1,x2,x3,x4,x5,rfl,_⟩:=hp
  exact ⟨x1,x2,x3,x4,x5,Z,ho⟩⟩
attribute [local irreducible] Go.Ck.Sub St Cd Xt Nx DrL LsW
section
variable {X Y:Res} {v v':Value} {us us':List Value}
def Em (l:FS) (a:Nm):Option Grp:=if (ae l a).inv=[] then none else some ⟨a,(ae l a).inv⟩

theorem Kb {l : FS} {c : FC} {ms : List Mb} {fv mv : Value} {uc : List Value} (hl : Ls X v l) (hc : Enc.rep X uc c) (hm : Ls X mv ms) (hfv : fv.oneCell' = true) (hR : dJ (bi l) [c.name] = 0) (hb : (above (bi l) c.name).length ≤ 1099511627776) :
  CtX prog 60 #[.agg #[v,fv],.agg uc.toArray,mv] X [] λu Y k'=>k'=[]/\∃ us',u = .agg us'.toArray/\Enc.rep Y us' (flatOf l c ms):=by
 have hml:maxLen=9223372036854775807:=rfl
 have hrb:reachBytes=140737488351232:=rfl
 have hab:=Am (tu hl) c.name
 rw [hR] at hab
 rw [show okL 0 (above (bi l) c.name)=above (bi l) c.name from rfl] at hab
 have hfo:flatOf l c ms={ name:=c.name,dfd:=c.dfd,mems:=ms,inv:=(above (bi l) c.name).filterMap (Em l) }:=rfl
 rw [hfo]
 generalize above (bi l) c.name=xs at hab hb ⊢
 obtain ⟨ca,cb,ce,cf,ci,rfl,hca,hcb,hce,hcf,hci⟩:=gB hc
 obtain ⟨ma,mk,rfl,_⟩:=id hm.form
 unfold CtX
 refine aL (n:=50) func60 Z Z (len Z) λhr w0=>?_
 refine cQ (aV Z Z λb3=>?_)
 refine aV Z Z λb4=>?_
 refine au ES λb6=>?_
 refine sK [2,3,4,6] Z<|cQ<|sV (vF Z dN Z)<|sV (vY Z ld9) ?_
 refine sV (vF Z MO Z)<|sV (vY Z ld4) ?_
 refine sM Z<|sV (aO (cells:=[sv c.name,.bool c.dfd,.slice ma ms.length mk,.slice none 0 0]) Z<|λ_=>Zz) ?_
 refine au ES λb7=>?_
 refine ai Z Z zS Z Z ?_
 refine sK [3,4,6,7] Z<|cQ<|sV (vF Z Jv Z)<|sV (vY Z ld22) ?_
 refine sV (vF Z dN Z)<|sV (vY Z ld9) ?_
 refine aH Z Z en41 Z (hab) ?_
 rintro u h' ⟨T,rfl,w,rfl,hw,rfl⟩
 simp only [lC,lN]
 refine sM Z<|sV (af Z Z)<|sV (af Z Z)<|sA Z<|sA Z<|sK [3,6,7,8] Z<|cS<|cS ?_
 unfold NR
 refine gm (v:=w) (E:=9) (sz:=1) (rows:=xs.map nC) slq λwa wc hwf hwl hwm=>?_
 rw [List.length_map] at hwf hwl
 subst hwf
 refine dK (cz 170 2)<|cR<|sM Z<|sV (aF Z underlying40)<|sM Z<|sK [3,6,7,27,28,29] Z<|cB<|aX (σ := Value×List (List Value)×Nat) (λq=>[(3,.pointer (some ⟨b3,0,none⟩)),(6,.pointer (some ⟨b6,0,none⟩)),(7,.pointer (some ⟨b7,0,none⟩)),(27,.slice wa xs.length wc),(28,.int .i64 xs.length),(29,.int .i64 (q.2.2:Nat))]) (λq=>pt b7 (cl [sv c.name,.bool c.dfd,.slice ma ms.length mk,q.1] 55)::VR q.1 170 2 q.2.1::VR (.slice wa xs.length wc) 9 1 (xs.map nC)::pt b6 (cl [.string ⟨#[]⟩,.bool false,.slice none 0 0,.slice none 0 0] 55)::pt b3 (cl [v,fv] 114)::X::hr) (λq=>q.2.2≤xs.length/\q.1.oneCell'=true/\Rws X q.2.1 ((xs.take q.2.2).filterMap<|Em l)) (λq=>xs.length - q.2.2) (.slice none 0 0,[],0) ⟨Nat.zero_le _,Z,Rws.nil⟩ ?_
 rintro ⟨iw,rows,i⟩ ⟨hi,hiw,hro⟩
 simp only at hi hiw hro
 dsimp only
 refine cQ<|sV (aN Z Z)<|sN<|nT<|cS<|cC Z (λhd=>?_)<|λhd=>?_
 ·have hlt:i<xs.length:=Zx
  have htk:=bW hlt
  have hrl:rows.length≤i:=by
   rw [hro.1]
   have:=List.length_filterMap_le (Em l)<|xs.take i
   rw [List.length_take] at this
   omega
  have hnx:(xs.map nC)[i]? = some [sv xs[i]]:=by rw [List.getElem?_map,Zy hlt]; rfl
  refine fO (r:=VR (.slice wa xs.length wc) 9 1<|xs.map nC) slq λhok=>?_
  obtain ⟨ab,ao,rfl⟩:∃ ab ao,wa=some ⟨ab,ao,none⟩:=by
   obtain ⟨f0,hf0⟩:=hok
   rcases VR.form hf0 with ⟨h3,h4⟩ | ⟨b,o,cp,h3,-⟩
   ·have:=List.map_eq_nil_iff.1 h4
    subst this; simp at hlt
   ·rw [List.length_map] at h3; cases h3; exact ⟨b,o,rfl⟩
  generalize hxi:xs[i]=x at hnx htk
  have hcc:=jW (n:=x) (fv:=fv) hl hfv
  refine cK<|xT<|cS<|cB<|cQ<|sV (vI (k:=i) Z Z jo Z hlt Z)<|sV (vY Z ld9 (ha:=⟨_,_,slq,eU hnx 0<|by simp⟩)) ?_
  refine sA Z<|sK [3,6,7,11,27,28,29] Z<|cQ<|sV (ag Z gD Z ah) ?_
  refine sM Z<|aH Z Z EU Z (hcc) ?_
  rintro u h' ⟨rfl,cus,rfl,hcr⟩
  simp only [lC,lN]
  obtain ⟨fa,fb,fc,fd,fe,rfl,-,-,-,-,hfi⟩:=gB hcr
  obtain ⟨fA,fK,rfl,_⟩:=id hfi.form
  refine sV (iy (k:=6) Z underlying44 Z isAgg42 Z)<|sA Z<|sK [3,6,7,11,12,27,28,29] Z<|cQ<|sM Z<|sV (aF Z underlying42)<|sV (bZ Z Z)<|sK [3,6,7,11,12,27,28,29,39] Z<|cC Z (λhpos=>?_)<|λhpos=>?_
  ·have hne:¬ (ae l x).inv=[]:=λe=>by rw [e] at hpos; simp at hpos
   have hinv:Em l x=some ⟨x,(ae l x).inv⟩:=by unfold Em; rw [if_neg hne]
   refine cR<|sV (vF Z DF Z)<|sV (vY Z zW) ?_
   refine sM Z<|sM Z<|sV (aO (cells:=[sv x,.slice fA (ae l x).inv.length fK]) Z<|λ_=>Zz) ?_
   refine ak (cells:=[sv x,.slice fA (ae l x).inv.length fK]) Z underlying53 mZ Z Z Zz (ltn Z) λb45=>?_
   refine dY [[sv x,.slice fA (ae l x).inv.length fK]] Z Z underlying53 mZ Z (by decide) (show Sel _ (VR iw 170 2 rows) _ from slq) (by simp) Z (λj u2 hu2=>bS<|bV Zu) (by simp [sv,Value.oneCell']) (by omega) (by omega) (ltn Z) λw2 hw2 _=>?_
   refine sV (vF Z DF Z)<|aZ Z Z mY ?_
   refine sN<|nK [3,6,7,27,28,29] Z<|ax<|xB<|xT<|cR<|sV (aI Z Z Za)<|sM Z<|sN<|nK [3,6,7,27,28,29] Z<|ax ?_
   refine aJ (w2,rows++[[sv x,.slice fA (ae l x).inv.length fK]],i+1) ⟨hlt,hw2,by rw [htk,List.filterMap_append]; simp only [List.filterMap_cons,hinv,List.filterMap_nil]; exact hro.snoc ⟨_,Z,hfi⟩⟩ (by dsimp only; omega)
  ·have hne:(ae l x).inv=[]:=by simpa using hpos
   have hinv:Em l x=none:=by unfold Em; rw [if_pos hne]
   refine cK<|xB<|xT<|cR<|sV (aI Z Z Za)<|sM Z<|sN<|nK [3,6,7,27,28,29] Z<|ax ?_
   refine aJ (iw,rows,i+1) ⟨hlt,hiw,by rw [htk,List.filterMap_append]; simp only [List.filterMap_cons,hinv,List.filterMap_nil,List.append_nil]; exact hro⟩ (by dsimp only; omega)
 ·have hie:i=xs.length:=by
   have:¬ i<xs.length:=Zx
   omega
  subst hie
  rw [List.take_length] at hro
  refine aB<|xE<|xE<|xY<|xT<|cQ<|sV (ag Z EQ Z ah) ?_
  have hone2:([sv c.name,.bool c.dfd,.slice ma ms.length mk,iw]:List Value).all Value.oneCell'=true:=by simp only [List.all_cons,List.all_nil,hiw,Bool.and_true,Bool.true_and]; rfl
  refine ai Z Z zS Z hone2 ?_
  refine sK [6] Z<|cT ?_
  have hil:(xs.filterMap<|Em l).length * 40≤reachBytes:=by
   have:=List.length_filterMap_le (Em l) xs
   omega
  refine dX (r:=VR iw 170 2 rows) slq λhok=>?_
  refine ik [VR iw 170 2 rows] X λY2 hE2 hsel=>?_
  exact bC (.cellN Z EQ Z slq .nil) ⟨Y2,[],Z,hE2,Z,_,Z,_,_,Z,hm.up hE2,Rws.ls (E:=170) (hro.up hE2) hok (hsel _ _ .here) hil⟩ sbr
end
end Go.Fl
namespace Go.Fl
open Go Go.RowKit Go.Ck Go.Proofs Go.Proofs.Tryz Go.Proofs.YtknmacdbffgjgaaGreatDoor Fx Go.Hr
theorem Gq {c:Cx} {ex:Exit} {Q:Exit->Act->World->Prop} {e:Env} {h h':SH} {mb ib:Nat} {m left:List (Bs×Value)} {last:Option (Bs×Value)} (s:Sel h (wN mb ib m left last) h') (hx:Xt c ex Q e (mps mb m::h')):Xt c ex Q e h:=λa w hk hh hw=>by
 have hh':=hh.sel s
 obtain ⟨_,es,ck,seen,g1,g2,hB,_⟩:=hh'.1
 exact hx a w hk ⟨⟨es,ck,g1,g2,hB⟩,λb hb=>hh'.2.1 b (.inl hb),hh'.2.2⟩ hw
attribute [local irreducible] Go.Ck.Sub St Cd Xt Nx DrL LsW
section
variable {X Y:Res} {v v':Value} {us us':List Value}
theorem Lm {σ : Type} {b1 bm yl : Nat} {m : List (Nm × Value)} (Inv : σ -> SH) (Φ : List Nm -> σ -> Prop) (s0 : σ) (h0 : Φ [] s0) (hy : ∀ (ds : List Nm) (k : Nm) (s : σ), ds.length < m.length -> Φ ds s -> Yc prog yl #[sv k] (Inv s) λu h' => u = .bool true /\ ∃ s', Φ (ds ++ [k]) s' /\ h' = Inv s') :
  Ct prog 266 #[.func (.yield yl) #[] #[],.pointer (some ⟨b1,0,none⟩)] (pt b1 (cl [.map (some bm)] 188)::mps bm m::Inv s0) λu h'=>u = .tuple #[]/\∃ ds s,ds.Perm (m.map λp=>p.1) /\ Φ ds s/\h'=pt b1 (cl [.map (some bm)] 188)::mps bm m::Inv s:=by
 refine aL (n:=14) func266 Z Z (len Z) λhr w0=>?_
 refine cQ<|sV (vY Z qF) ?_
 refine A8 Z r9 slq (ltn Z) λib hnd=>?_
 refine sK [0,5] Z<|cB<|aX (σ := List Nm×List (Nm×Value)×Option (Nm×Value) × σ) (λq=>[(0,.func (.yield yl) #[] #[]),(5,.pointer (some ⟨ib,0,none⟩))]) (λq=>wN bm ib m q.2.1 q.2.2.1::pt b1 (cl [.map (some bm)] 188)::(Inv q.2.2.2++hr)) (λq=>(q.1++q.2.1.map λp=>p.1).Perm (m.map λp=>p.1) /\ Φ q.1 q.2.2.2) (λq=>q.2.1.length) ([],m,none,s0) ⟨by simp,h0⟩ ?_
 rintro ⟨ds,left,last,s⟩ ⟨hds,hΦ⟩
 simp only at hds hΦ
 dsimp only
 refine cQ<|CU Z slq (ltn Z) (λhl0=>?_)<|λk v1 left' hp=>?_
 ·subst hl0
  rw [List.map_nil,List.append_nil] at hds
  refine sV (af Z Z)<|sK [0,5,7] Z<|cS<|aG Z ?_
  refine aB<|xE<|xE<|xY<|Gq slq ?_
  refine Cg (k:=pt b1 (cl [.map (some bm)] 188)::mps bm m::(Inv s++hr)) (.swap _ _ _) ?_
  exact zQ Z ⟨Z,ds,s,hds,hΦ,Z⟩ sbq
 ·refine sV (af Z Z)<|sK [0,5,7] Z<|cS<|aT Z ?_
  refine cK<|xT<|cB<|cQ<|sV (CV Z slq) ?_
  have hlen:ds.length<m.length:=by
   have h1:=hds.length_eq
   have h2:=hp.length_eq
   simp only [List.length_append,List.length_map,List.length_cons] at h1 h2
   omega
  have hyy:=hy ds k s hlen hΦ
  refine sV (af Z Z)<|sA Z<|sK [0,3,5] Z<|cQ<|sM Z<|sM Z<|uE (gd:=0) (.inl Z) Z Z hyy (Pk.of (hr:=wN bm ib m left' (some (k,v1))::pt b1 (cl [.map (some bm)] 188)::hr)<|by exact List.perm_append_comm_assoc [wN bm ib m left' (some (k,v1)),pt b1 (cl [.map (some bm)] 188)] (Inv s) hr) (ltn Z) ?_
  rintro u h' ⟨rfl,s2,hΦ2,rfl⟩
  refine sV (bn Z)<|sK [0,5,13] Z<|aG Z ?_
  refine cK<|xB<|Cg (k:=wN bm ib m left' (some (k,v1))::pt b1 (cl [.map (some bm)] 188)::(Inv s2++hr)) (by exact List.perm_append_comm_assoc (Inv s2) [wN bm ib m left' (some (k,v1)),pt b1 (cl [.map (some bm)] 188)] hr) ?_
  refine aJ (ds++[k],left',some (k,v1),s2) ⟨by rw [List.append_assoc]; exact ((hp.map λp=>p.1).append_left ds).symm.trans hds,hΦ2⟩ (by dsimp only; rw [hp.length_eq,List.length_cons]; omega)
theorem en266:Ck.Enters prog 266:=enters_of func266 Zz rfl
theorem Lp {b1 bm:Nat} {m:List (Nm×Value)} (hb:m.length * 16≤1099511627776):Ct prog 294 #[.slice none 0 0,.func (.func 266) #[] #[.pointer (some ⟨b1,0,none⟩)]] [pt b1 (cl [.map (some bm)] 188),mps bm m] λu h'=>∃ ds,ds.Perm (m.map λp=>p.1)/\u.oneCell'=true/\h'=[NR u ds,pt b1 (cl [.map (some bm)] 188),mps bm m]:=by
 have hml:maxLen=9223372036854775807:=rfl
 refine qC (n:=13) func294 Z Z (len Z) λhr w0=>?_
 refine cQ (aV Z Z λb2=>?_)
 refine sA Z<|sK [1,2,4] Z<|cS<|cQ<|sM Z<|sK [2,4,6] Z<|cB<|dK (cz 9 1) (jc Z en266 λyl db rec hst hpe hps hasg hbo hkn2=>?_)
 refine ⟨_,Ct.perm (Lm (σ := Value×List Nm) (b1:=b1) (bm:=bm) (yl:=yl) (m:=m) (λq=>pt yl (.loop rec)::pt db (.deferred<|some [])::pt b2 (cl [q.1] 40)::NR q.1 q.2::hr) (λds q=>q.2=ds/\q.1.oneCell'=true) (.slice none 0 0,[]) ⟨Z,Z⟩ ?_) ?_,?_⟩
 ·rintro ds k ⟨w,xs⟩ hlt ⟨rfl,hw⟩
  dsimp only at hlt hw ⊢
  unfold NR
  refine Yc.perm (qz (n:=13) (rec:=rec) (args:=[sv k]) (hf:=pt db (.deferred<|some [])::pt b2 (cl [w] 40)::VR w 9 1 (xs.map nC)::hr) (by rw [hps]; rfl) hkn2 (by rw [hps]; decide) ?_) (by exact (by repeat (first | exact Pm.refl | refine Pm.cons slq ?_):Pm _ _).perm)
  intro hr2 w1
  rw [hasg,hps,hbo]
  simp only [lC,lN]
  refine cR<|sA Z<|sN<|nK [2,4,5] Z<|ax<|lm Z slq (by first | rfl | assumption) ?_
  refine cB<|cR<|sV (vY Z fM) ?_
  refine sM Z (ak (cells:=[sv k]) Z underlying40 fG Z Z Zz (ltn Z) λb10=>?_)
  refine dY [[sv k]] Z Z underlying40 fG Z (by decide) (show Sel _ (VR w 9 1<|xs.map nC) _ from slq) (by simp) Z (λj u2 hu2=>bS<|bV Zu) (by simp [sv,Value.oneCell']) (by rw [List.length_map]; omega) (by rw [List.length_map]; omega) (ltn Z) λw2 hw2 _=>?_
  rw [show xs.map nC++[[sv k]]=(xs++[k]).map nC by simp [nC]]
  refine aZ Z Z yB ?_
  refine sN<|nK [4] Z<|ax<|xB<|dA slq ⟨Z,(w2,xs++[k]),⟨Z,hw2⟩,Z⟩ ?_
  rw [dB hst hpe]
  exact sbq
 ·simp only [lC,lN]
  exact (by repeat (first | exact Pm.refl | refine Pm.cons slq ?_):Pm _ _).perm
 ·rintro u h' ⟨rfl,ds,⟨w,xs⟩,hds,⟨rfl,hw⟩,rfl⟩
  dsimp only at hw ⊢
  refine ⟨rec,_,slq,(by rw [hst]; simp),?_⟩
  rw [hpe]
  dsimp only
  refine xB<|xT<|cQ<|sV (vY Z fM) ?_
  refine sA Z<|sK [4] Z<|cT ?_
  exact jN (bs:=[db]) Z Z ⟨xs,hds,hw,Z⟩ sbq
theorem tZ {bm:Nat}:Ct prog 213 #[.map (some bm)] [] λu h'=>∃ b1,u = .func (.func 266) #[] #[.pointer (some ⟨b1,0,none⟩)]/\h'=[pt b1 (cl [.map (some bm)] 188)]:=by
 refine aL (n:=4) func213 Z Z (len Z) λhr w0=>?_
 refine cQ (aV Z Z λb1=>?_)
 refine sA Z<|sK [1,2] Z<|cQ<|sV (bY Z Z)<|sA Z<|sK [2] Z<|cT ?_
 exact aj Z ⟨_,Z,Z⟩ sbq
theorem Bw {b1 bm:Nat} {m:List (Nm×Value)} (hb:m.length * 16≤1099511627776):Ct prog 264 #[.func (.func 266) #[] #[.pointer (some ⟨b1,0,none⟩)]] [pt b1 (cl [.map (some bm)] 188),mps bm m] λu h'=>∃ ds,ds.Perm (m.map λp=>p.1)/\u.oneCell'=true/\h'=[NR u ds,pt b1 (cl [.map (some bm)] 188),mps bm m]:=by
 refine aL (n:=5) func264 Z Z (len Z) λhr w0=>?_
 refine cQ<|sA Z<|sN<|nT<|cQ<|sM Z<|aH Z Z en294 Z (Lp hb) ?_
 rintro u h' ⟨ds,hds,hu,rfl⟩
 simp only [lC,lN]
 refine sA Z<|sK [2] Z<|cT ?_
 exact aj Z ⟨ds,hds,hu,Z⟩ sbq
theorem pO {b1 bm:Nat} {m:List (Nm×Value)} (hb:m.length * 16≤1099511627776) (hn:(m.map λp=>p.1).Nodup):Ct prog 212 #[.func (.func 266) #[] #[.pointer (some ⟨b1,0,none⟩)]] [pt b1 (cl [.map (some bm)] 188),mps bm m] λu h'=>u.oneCell'=true/\h'=[NR u (srt (m.map λp=>p.1)),pt b1 (cl [.map (some bm)] 188),mps bm m]:=by
 refine aL (n:=9) func212 Z Z (len Z) λhr w0=>?_
 refine cQ<|sA Z<|sN<|nT<|cQ<|sM Z<|aH Z Z en264 Z (Bw hb) ?_
 rintro u h' ⟨ds,hds,hu,rfl⟩
 simp only [lC,lN]
 have hnd:=hds.nodup_iff.2 hn
 have hdl:ds.length≤1099511627776:=by rw [hds.length_eq,List.length_map]; omega
 have hsr:srt ds=srt (m.map λp=>p.1):=(iN ds).1.ext (iN _).1 λx=>by rw [(iN ds).2,(iN _).2,hds.mem_iff]
 refine sA Z<|sK [2,3] Z<|cQ<|sM Z<|aH Z Z en265 Z (Sort_ct hnd hdl) ?_
 rintro u2 h' ⟨rfl,rfl⟩
 simp only [lC,lN]
 rw [hsr]
 refine sK [2,3] Z<|cQ<|sM Z<|sA Z<|sK [2] Z<|cT ?_
 exact aj Z ⟨hu,Z⟩ sbq
end
section
variable {X Y:Res} {v v':Value} {us us':List Value}
def eZ (v fv:Value) (c:FC) (ca cb ce cf ci:Value) (mv bv:Value) (all:Bool):List Value:=[v,fv,sv c.name,.bool c.dfd,ca,cb,ce,cf,ci,mv,bv,.bool all]
theorem fT {fv:Value} {c:FC} {ca cb ce cf ci mv bv:Value} {all:Bool} (k:Int) (n:Nm) (a b:Og):Ct prog 204 #[.agg (eZ v fv c ca cb ce cf ci mv bv all).toArray,.int .i64 k,sv n,.agg #[sv a.par,sv a.name],.agg #[sv b.par,sv b.name]] [] λu h'=>u=cfV ⟨k,c.name,n,[],a,b⟩/\h'=[]:=by
 unfold eZ cfV cfC
 refine aL (n:=19) func204 Z Z (len Z) λhr w0=>?_
 refine cQ (aV Z Z λb5=>?_)
 refine aV Z Z λb8=>?_
 refine aV Z Z λb9=>?_
 refine au DR λb10=>?_
 refine sK [1,2,5,8,9,10] Z<|cQ<|sM Z<|sV (vF Z gU Z)<|sV (vF Z dN Z)<|sV (vY Z ld9) ?_
 refine sM Z<|sV (ag Z qi Z ah) ?_
 refine sV (ag Z qi Z ah) ?_
 refine sV (aO (cells:=[.int .i64 k,sv c.name,sv n,sv [],sv a.par,sv a.name,sv b.par,sv b.name]) Z<|λ_=>Zz) ?_
 refine ai Z Z wo Z Z ?_
 refine sK [10] Z<|cT ?_
 exact bC (.cellN Z sP Z slq .nil) ⟨Z,Z⟩ sbr
theorem NN {β : Type} (f:Mb->List β) {l:List Mb} {i:Nat} (h:i<l.length):((l.take i).flatMap f).length+(f l[i]).length≤(l.flatMap f).length:=by
 have h1:l=l.take i++l[i]::l.drop (i+1):=by rw [List.getElem_cons_drop,List.take_append_drop]
 have h2:=congrArg (λx=>(x.flatMap f).length) h1
 simp only [List.flatMap_append,List.flatMap_cons,List.length_append] at h2
 omega
theorem ym {ms:List Mb} (hv:Ls X v ms) (hb:(ms.flatMap λm=>m.seeds).length * 32≤1099511627776):Ct prog 219 #[v] [X] λu h'=>u.oneCell'=true/\h'=[VR u 69 2 ((qP (ms.flatMap λm=>m.seeds)).map sdC),X]:=by
 have hml:maxLen=9223372036854775807:=rfl
 obtain ⟨a,cap,rfl,hlc,hcm,_⟩:=id hv.form
 refine aL (n:=21) func219 Z Z (len Z) λhr w0=>?_
 refine cQ<|sA Z<|sN<|nT<|cQ<|sA Z<|sN<|nT<|cS<|cQ<|sM Z<|sV (aF Z underlying52)<|sM Z ?_
 refine sK [2,3,6,7,8] Z<|cB<|dK (cz 69 2)<|aX (σ := Value×Nat) (λq=>[(3,q.1),(6,.slice a ms.length cap),(7,.int .i64 ms.length),(8,.int .i64 (q.2:Nat))]) (λq=>VR q.1 69 2 (((ms.take q.2).flatMap λm=>m.seeds).map sdC)::X::hr) (λq=>q.2≤ms.length/\q.1.oneCell'=true) (λq=>ms.length - q.2) (.slice none 0 0,0) ⟨Nat.zero_le _,Z⟩ ?_
 rintro ⟨w,i⟩ ⟨hi,hw⟩
 simp only at hi hw
 dsimp only
 refine cQ<|sV (aN Z Z)<|sN<|nT<|cS<|cC Z (λhd=>?_)<|λhd=>?_
 ·have hlt:i<ms.length:=Zx
  obtain ⟨b,o,cap2,us,e1,hus,hrd,hre⟩:=hv.at<|Zy hlt
  cases e1
  have hS:=NN (λm=>m.seeds) hlt
  have htk:=bW hlt
  generalize ms[i]=x at hre hS htk
  have hone:=Enc.ones hre
  obtain ⟨x2,x5,xy,x11,x12,x13,rfl,hx2,-⟩:=dh hre
  obtain ⟨ax2,kx2,rfl,_⟩:=id hx2.form
  unfold gz at *
  have hfm:(ms.take (i+1)).flatMap (λm=>m.seeds)=(ms.take i).flatMap (λm=>m.seeds)++x.seeds:=by rw [htk]; simp
  refine cK<|xT<|cS<|cB<|cQ<|sV (vI (k:=i) Z Z oP Z hlt Z)<|sV (ag Z eY Z hrd) ?_
  refine au iT λb5=>?_
  refine ai Z Z gL Z hone ?_
  refine sK [3,5,6,7,8] Z<|cR<|sM Z<|sV (vF Z dI Z)<|sV (vY Z l8) ?_
  refine qZ hx2.1 Z Z underlying67 Cc Z (by decide) (show Sel _ (VR w 69 2<|((ms.take i).flatMap λm=>m.seeds).map sdC) _ from slq) (show Sel _ X _ from slq) (λus x _ hr u hu=>List.all_eq_true.1 (Enc.ones hr) u hu) (by rw [List.length_map]; omega) (by rw [List.length_map]; omega) (ltn Z) λw2 news hw2 hn1 hn2 hn3=>?_
  rw [J7 hn1 hn3,<- List.map_append,<- hfm]
  refine sA Z<|sN<|nK [3,6,7,8] Z<|ax<|xB<|xT<|cR<|sV (aI Z Z Za)<|sM Z<|sN<|nK [3,6,7,8] Z<|ax ?_
  refine aJ (w2,i+1) ⟨hlt,hw2⟩ (by dsimp only; omega)
 ·have hie:i=ms.length:=by
   have:¬ i<ms.length:=Zx
   omega
  subst hie
  have hjs:(ms.flatMap λm=>m.seeds).length≤1099511627776:=by omega
  rw [List.take_length]
  refine aB<|xE<|xE<|xY<|xT<|cQ<|sM Z<|aH Z Z en197 Z (AU hjs) ?_
  rintro u h' ⟨rfl,ys,hperm,hcs,rfl⟩
  simp only [lC,lN]
  refine sK [3] Z<|cQ<|sM Z<|aH Z Z en199 Z (AV (xs:=ys)) ?_
  rintro u h' ⟨hu,rfl⟩
  simp only [lC,lN]
  rw [hcs]
  refine sA Z<|sK [2] Z<|cT ?_
  exact aj Z ⟨hu,Z⟩ sbq
end
end Go.Fl
