/-
  Package flat: selected. Conditions: what is read; sizes; parents come ahead.
-/
import Derived.Test.YtknmacdbffgjgaaGreatDoorP6
import Derived.Test.YtknmacdbffgjgaaGreatDoorP2
import Derived.Laws.IdiomRangeMap
import Derived.Test.YtknmacdbffgjgaaGreatDoorP7
import Derived.Test.YtknmacdbffgjgaaGreatDoorP4
import Derived.Test.YtknmacdbffgjgaaGreatDoorP5
import Derived.Shelf.Strings.OnBuilder
set_option linter.unusedVariables false
set_option linter.unusedSimpArgs false
set_option maxRecDepth 100000
set_option maxHeartbeats 16000000
namespace Go.Ck
open Go Go.RowKit
def mit (mb ib:Nat) (m left:List (Int×Value)) (last:Option (Int×Value)):Res where
 dom b:=b=mb\/b=ib
 ok f:=mb≠ib/\∃ es ck seen,f mb=some (.map es ck)/\es.toList.map (λx:MapEntry=>(x.key,x.val))=nL m/\Brn es ck m/\f ib=some (.mapIter (some mb) ck seen ck) /\
  ((es.toList.filter λx:MapEntry => !seen.contains x.born).map λx:MapEntry=>(x.key,x.val)).Perm (nL left)/\∀ p,last=some p->∃ x∈es.toList,seen.back? = some x.born/\x.key = .int .i64 p.1/\x.val=p.2
 loc f g he:=λ⟨hn,es,ck,seen,h1,h2,h3,h4,h5⟩=>⟨hn,es,ck,seen,by rw [<- he mb (.inl rfl)]; exact h1,h2,h3,by rw [<- he ib (.inr rfl)]; exact h4,h5⟩
 pres f:=λ⟨_,es,ck,seen,h1,_,_,h4,_⟩ b hb=>by
  rcases hb with rfl | rfl
  .rw [h1]; rfl
  .rw [h4]; rfl
theorem Bg (seen : Array Nat) (e : MapEntry) (he : seen.contains e.born = false) : ∀ (l : List MapEntry), (l.map (·.born)).Nodup -> e ∈ l -> (l.filter λx => !seen.contains x.born).Perm (e :: l.filter λx => !(seen.push e.born).contains x.born)
 | [],_,h=>by cases h
 | x :: t, hn, h => by
  rw [List.map_cons,List.nodup_cons] at hn
  have hpush:∀ y:MapEntry,y.born≠e.born->(seen.push e.born).contains y.born=seen.contains y.born:=λy hy=>by
   rw [Bool.eq_iff_iff]; simp [Array.contains_iff_mem,Array.mem_push,hy]
  have hself:(seen.push e.born).contains e.born=true:=by simp
  by_cases hx:x=e
  .subst hx
   have ht:t.filter (λy => !(seen.push x.born).contains y.born)=t.filter λy => !seen.contains y.born:=List.filter_congr λy hy=>by
    rw [hpush y λheq=>hn.1 (heq ▸ List.mem_map.2 ⟨y,hy,rfl⟩)]
   rw [List.filter_cons,List.filter_cons,he,hself,ht]
   exact .refl _
  .have hm:e∈t:=(List.mem_cons.1 h).resolve_left λq=>hx q.symm
   have hb:x.born≠e.born:=λheq=>hn.1 (heq ▸ List.mem_map.2 ⟨e,hm,rfl⟩)
   have ih:=Bg seen e he t hn.2 hm
   rw [List.filter_cons,List.filter_cons,hpush x hb]
   by_cases hc:(!seen.contains x.born)=true
   .rw [if_pos hc,if_pos hc]
    exact (ih.cons x).trans (.swap ..)
   .rw [if_neg hc,if_neg hc]; exact ih
section
variable {P:Program}
theorem run_next_at {w : World} {mb ib ck : Nat} {es : Array MapEntry} {seen : Array Nat} (h1 : w.heap[mb]? = some (.map es ck)) (h2 : w.heap[ib]? = some (.mapIter (some mb) ck seen ck)) (hold : ∀ x ∈ es.toList, x.born < ck) (ty : TypeId) :
  ((es.toList.filter λx => !seen.contains x.born)=[]/\(Instr.next (.pointer<|some ⟨ib,0,none⟩) false ty).run P w = .ok (.tuple #[.bool false]) w) \/
  ∃ x∈(es.toList.filter λx => !seen.contains x.born),∃ n:Nat,w.drawn<=n/\(Instr.next (.pointer<|some ⟨ib,0,none⟩) false ty).run P w = .ok (.tuple #[.bool true,x.key,x.val]) { w with drawn:=n,heap:=w.heap.setIfInBounds ib (.mapIter (some mb) ck (seen.push x.born) ck) }:=by
 simp only [Instr.next,getObj,Sem.run_bind,Sem.run,h1,h2,Result.andThen,next_test_false seen es ck ck hold (Nat.le_refl _),Bool.false_eq_true,if_false]
 have hmem:∀ x∈(Array.filter (λe => !seen.contains e.born) es).toList,x.born<ck:=λx hx=>hold x (by simp at hx ⊢; exact hx.1)
 have hL:(Array.filter (λe => !seen.contains e.born) es).toList=es.toList.filter λx => !seen.contains x.born:=by simp
 rw [<- hL]
 generalize Array.filter (λe => !seen.contains e.born) es=L at hmem ⊢
 have e1:L.filter (λx=>decide (x.born<ck))=L:=Array.filter_eq_self.2<|λx hx=>by simpa using hmem x (by simpa using hx)
 have e2:L.filter (λx=>decide (x.born ≥ ck)) = #[]:=by
  rw [Array.filter_eq_empty_iff]
  intro x hx
  have:=hmem x<|by simpa using hx
  simp
  omega
 simp only [e1,e2,Array.append_empty]
 by_cases h0:L.size=0
 .left
  have:L = #[]:=Array.eq_empty_of_size_eq_zero h0
  subst this
  refine ⟨Z,?_⟩
  simp [choose,Sem.run,Question.forced]
 .right
  have hne:L.isEmpty=false:=by simp [Array.isEmpty,h0]
  simp only [hne,Bool.false_eq_true,if_false,Array.empty_append,Array.size_map]
  have hch : ∃ (j n : Nat), j < L.size /\ w.drawn <= n /\ (choose<|Question.mapNext L.size).run P w = .ok j { w with drawn := n } := by
   by_cases hf:L.size<=1
   .exact ⟨0,w.drawn,by omega,Nat.le_refl _,by simp [choose,Sem.run,Question.forced,hf]⟩
   .exact ⟨_,w.drawn+1,Nat.mod_lt _ (by omega),Nat.le_succ _,by
     simp only [choose,Sem.run,Question.forced,decide_eq_true_eq,hf,if_false,Question.cut]
     rfl⟩
  obtain ⟨j,n,hj,hdn,hrun⟩:=hch
  refine ⟨L[j],by simp,n,hdn,?_⟩
  have hset:∀ o':Obj,(setObj ib o').run P { w with drawn:=n } = .ok () { w with drawn:=n,heap:=w.heap.setIfInBounds ib o' }:=λo'=>by
   simp [setObj,Sem.run,h2]
  simp only [hrun,Array.getElem?_map,Array.getElem?_eq_getElem hj,Option.map_some,Sem.run_bind,hset,Result.andThen]
  rfl
theorem run_entry_at {w:World} {mb ib ck:Nat} {es:Array MapEntry} {seen:Array Nat} {x:MapEntry} (h1:w.heap[mb]? = some (.map es ck)) (h2:w.heap[ib]? = some (.mapIter (some mb) ck seen ck)) (hx:x∈es.toList) (hb:seen.back? = some x.born) (hn:(es.toList.map (·.born)).Nodup) :
  (Instr.entry<|.pointer<|some ⟨ib,0,none⟩).run P w = .ok (.tuple #[x.key,x.val]) w:=by
 have hf:es.find? (·.born == x.born)=some x:=by rw [<- Array.find?_toList]; exact find_born x es.toList hn hx
 simp only [Instr.entry,getObj,Sem.run_bind,Sem.run,h1,h2,Result.andThen,hb,bne_self_eq_false,Bool.false_eq_true,if_false,hf]
 rfl
end
section
variable {c:Cx} {ops:Array Oper} {K:Act->World->Prop} {rest:List Oper} {e:Env} {h h':SH}
theorem OT {d : Nat} {T K' E ty : TypeId} {x : Operand} {pos : String} {after : Array Edge} {mb : Nat} {m : List (Int × Value)} (hx : e.ev? x = some (.map (some mb))) (hT : MpT c.P T K' E) (hs : Sel h (mpr mb m) h') (hd : d < c.n)
  (hnx:∀ ib,(m.map (·.1)).Nodup->St c ops K rest ((d,.pointer (some ⟨ib,0,none⟩))::e) (mit mb ib m m none::h')) :
  St c ops K (⟨some d,.range T x,ty,pos,after,none⟩::rest) e h :=
 eD (by simp) λa w hk hh hw=>by
  have hh':=hh.sel hs
  obtain ⟨es,ck,h1,h2,hB⟩:=hh'.1
  have h1':w.heap[mb]? = some (.map es ck):=h1
  have hlt:mb<w.heap.size:=(Array.getElem?_eq_some_iff.1 h1').1
  have hr:=run_range_map (P:=c.P) w T K' E mb es ck hT.1 h1'
  simp only [execOp,hk.ev hx,Sem.run_bind,hr,Result.andThen_ok,Sem.run_pure]
  have hg:=Grew.alloc w (.mapIter (some mb) ck #[] ck) rfl
  refine hnx w.heap.size hB.2.2 _ _ (hk.put _ hd) ⟨⟨by omega,es,ck,#[],?_,h2,hB,?_,?_,λp hp=>by cases hp⟩,λb hb hd'=>?_,?_⟩<|hw.trans hg.toSame
  .show (w.alloc _).heap[mb]? = _
   rw [alloc_old w _ mb (by omega)]; exact h1'
  .show (w.heap.push _)[w.heap.size]? = _
   simp
  .have hf:(es.toList.filter λx:MapEntry => !(#[]:Array Nat).contains x.born)=es.toList:=List.filter_eq_self.2 λ_ _=>by simp
   rw [hf,h2]
  .rcases hb with rfl | rfl
   .exact hh'.2.1 b Z hd'
   .have:=Holds.lt (w:=w) hh'.2.2 hd'; omega
  .exact bn.loc hh'.2.2 λb hb=>(hg.block b<|Holds.lt (w:=w) hh'.2.2 hb).symm
theorem st_next {d : Nat} {ty : TypeId} {x : Operand} {pos : String} {after : Array Edge} {mb ib : Nat} {m left : List (Int × Value)} {last : Option (Int × Value)} (hx : e.ev? x = some (.pointer (some ⟨ib, 0, none⟩))) (hs : Sel h (mit mb ib m left last) h') (hd : d < c.n)
  (h0:left=[]->St c ops K rest ((d,.tuple #[.bool false])::e) (mit mb ib m [] last::h'))
  (h1:∀ k v left',left.Perm ((k,v)::left')->St c ops K rest ((d,.tuple #[.bool true,.int .i64 k,v])::e) (mit mb ib m left' (some (k,v))::h')) :
  St c ops K (⟨some d,.next x false,ty,pos,after,none⟩::rest) e h :=
 eD (by simp) λa w hk hh hw => by
  have hh':=hh.sel hs
  obtain ⟨hne,es,ck,seen,g1,g2,hB,g4,g5,g6⟩:=hh'.1
  have g1':w.heap[mb]? = some (.map es ck):=g1
  have g4':w.heap[ib]? = some (.mapIter (some mb) ck seen ck):=g4
  have hlt:ib<w.heap.size:=(Array.getElem?_eq_some_iff.1 g4').1
  rcases run_next_at (P:=c.P) g1' g4' hB.1 ty with ⟨q1,q2⟩ | ⟨z,hz,n,hdn,q2⟩
  .simp only [execOp,hk.ev hx,Sem.run_bind,q2,Result.andThen_ok,Sem.run_pure]
   have hl:left=[]:=by
    rw [q1] at g5
    have:=g5.symm.eq_nil
    unfold nL at this
    simpa using this
   subst hl
   exact h0 Z _ _ (hk.put _ hd) hh' hw
  .simp only [execOp,hk.ev hx,Sem.run_bind,q2,Result.andThen_ok,Sem.run_pure]
   have hz1:z∈es.toList:=(List.mem_filter.1 hz).1
   have hz2:seen.contains z.born=false:=by simpa using (List.mem_filter.1 hz).2
   have hzm:(z.key,z.val)∈nL left:=g5.mem_iff.1<|List.mem_map.2 ⟨z,hz,rfl⟩
   obtain ⟨⟨k,v⟩,hkv,hkv2⟩:=List.mem_map.1 hzm
   simp only [Prod.mk.injEq] at hkv2
   obtain ⟨hk1,hv1⟩:=hkv2
   obtain ⟨s,t,rfl⟩:=List.append_of_mem hkv
   have hp:(s++(k,v)::t).Perm ((k,v)::(s++t)):=List.perm_middle
   have hf:=Bg seen z hz2 es.toList hB.2.1 hz1
   have hrest:((es.toList.filter λx => !(seen.push z.born).contains x.born).map λx=>(x.key,x.val)).Perm (nL (s++t)):=by
    have h3:=(hf.map λx:MapEntry=>(x.key,x.val)).symm.trans<|g5.trans (hp.map λp:Int×Value=>((.int .i64 p.1:Value),p.2))
    rw [List.map_cons,List.map_cons,<- hk1,<- hv1] at h3
    exact h3.cons_inv
   rw [<- hk1,<- hv1]
   have hsame:Same w { w with drawn:=n,heap:=w.heap.setIfInBounds ib (.mapIter (some mb) ck (seen.push z.born) ck) }:=⟨rfl,rfl,rfl,hdn,by simp,pJ (b:=ib) (λo ho=>by rw [g4'] at ho; cases ho; rfl) (λo ho=>by
    have:(w.heap.setIfInBounds ib<|.mapIter (some mb) ck (seen.push z.born) ck)[ib]? = some o:=ho
    simp [hlt] at this; rw [<- this]; rfl) λc hc=>dZ w ib c _ hc⟩
   refine h1 k v (s++t) hp _ _ (hk.put _ hd) ⟨⟨hne,es,ck,seen.push z.born,?_,g2,hB,?_,hrest,λp hp'=>?_⟩,hh'.2.1,?_⟩<|hw.trans hsame
   .show (w.heap.setIfInBounds ib _)[mb]? = _
    rw [Array.getElem?_setIfInBounds_ne (Ne.symm hne)]; exact g1'
   .show (w.heap.setIfInBounds ib _)[ib]? = _
    simp [hlt]
   .cases hp'
    exact ⟨z,hz1,by simp,hk1.symm,hv1.symm⟩
   .exact bn.loc hh'.2.2 λb hb=>(dZ w ib b _<|λq=>hh'.2.1 b (.inr q) hb).symm
theorem v_entry {ty:TypeId} {x:Operand} {mb ib:Nat} {m left:List (Int×Value)} {k:Int} {v:Value} (hx:e.ev? x=some (.pointer (some ⟨ib,0,none⟩))) (hs:Sel h (mit mb ib m left (some (k,v))) h') :
  Vop c.P e h (.entry x) ty (.tuple #[.int .i64 k,v]):=
 ⟨by simp,by simp,λρ w d pos after g hρ hh=>by
  obtain ⟨_,es,ck,seen,g1,_,hB,g4,_,g6⟩:=(hh.sel hs).1
  obtain ⟨z,hz,hb,h1,h2⟩:=g6 _ rfl
  have:=run_entry_at (P:=c.P) (w:=w) g1 g4 hz hb hB.2.1
  rw [h1,h2] at this
  simp [execOp,hρ x _ hx,this]⟩
end
section
variable {c:Cx} {x:Code} {Q:Exit->Act->World->Prop} {e:Env} {h h':SH}
end
def xz (mb ib:Nat) (m left:List (Bs×Value)) (last:Option (Bs×Value)):Res where
 dom b:=b=mb\/b=ib
 ok f:=mb≠ib/\∃ es ck seen,f mb=some (.map es ck)/\es.toList.map (λx:MapEntry=>(x.key,x.val))=lw m/\SBrn es ck m/\f ib=some (.mapIter (some mb) ck seen ck) /\
  ((es.toList.filter λx:MapEntry => !seen.contains x.born).map λx:MapEntry=>(x.key,x.val)).Perm (lw left)/\∀ p,last=some p->∃ x∈es.toList,seen.back? = some x.born/\x.key=sv p.1/\x.val=p.2
 loc f g he:=λ⟨hn,es,ck,seen,h1,h2,h3,h4,h5⟩=>⟨hn,es,ck,seen,by rw [<- he mb (.inl rfl)]; exact h1,h2,h3,by rw [<- he ib (.inr rfl)]; exact h4,h5⟩
 pres f:=λ⟨_,es,ck,seen,h1,_,_,h4,_⟩ b hb=>by
  rcases hb with rfl | rfl
  .rw [h1]; rfl
  .rw [h4]; rfl
section
variable {c:Cx} {ops:Array Oper} {K:Act->World->Prop} {rest:List Oper} {e:Env} {h h':SH}
theorem Bh {d : Nat} {T K' E ty : TypeId} {x : Operand} {pos : String} {after : Array Edge} {mb : Nat} {m : List (Bs × Value)} (hx : e.ev? x = some (.map (some mb))) (hT : MpS c.P T K' E) (hs : Sel h (mps mb m) h') (hd : d < c.n)
  (hnx:∀ ib,(m.map (·.1)).Nodup->St c ops K rest ((d,.pointer (some ⟨ib,0,none⟩))::e) (xz mb ib m m none::h')) :
  St c ops K (⟨some d,.range T x,ty,pos,after,none⟩::rest) e h :=
 eD (by simp) λa w hk hh hw=>by
  have hh':=hh.sel hs
  obtain ⟨es,ck,h1,h2,hB⟩:=hh'.1
  have h1':w.heap[mb]? = some (.map es ck):=h1
  have hlt:mb<w.heap.size:=(Array.getElem?_eq_some_iff.1 h1').1
  have hr:=run_range_map (P:=c.P) w T K' E mb es ck hT.1 h1'
  simp only [execOp,hk.ev hx,Sem.run_bind,hr,Result.andThen_ok,Sem.run_pure]
  have hg:=Grew.alloc w (.mapIter (some mb) ck #[] ck) rfl
  refine hnx w.heap.size hB.2.2 _ _ (hk.put _ hd) ⟨⟨by omega,es,ck,#[],?_,h2,hB,?_,?_,λp hp=>by cases hp⟩,λb hb hd'=>?_,?_⟩<|hw.trans hg.toSame
  .show (w.alloc _).heap[mb]? = _
   rw [alloc_old w _ mb (by omega)]; exact h1'
  .show (w.heap.push _)[w.heap.size]? = _
   simp
  .have hf:(es.toList.filter λx:MapEntry => !(#[]:Array Nat).contains x.born)=es.toList:=List.filter_eq_self.2 λ_ _=>by simp
   rw [hf,h2]
  .rcases hb with rfl | rfl
   .exact hh'.2.1 b Z hd'
   .have:=Holds.lt (w:=w) hh'.2.2 hd'; omega
  .exact bn.loc hh'.2.2 λb hb=>(hg.block b<|Holds.lt (w:=w) hh'.2.2 hb).symm
theorem DW {d : Nat} {ty : TypeId} {x : Operand} {pos : String} {after : Array Edge} {mb ib : Nat} {m left : List (Bs × Value)} {last : Option (Bs × Value)} (hx : e.ev? x = some (.pointer (some ⟨ib, 0, none⟩))) (hs : Sel h (xz mb ib m left last) h') (hd : d < c.n)
  (h0:left=[]->St c ops K rest ((d,.tuple #[.bool false])::e) (xz mb ib m [] last::h'))
  (h1:∀ k v left',left.Perm ((k,v)::left')->St c ops K rest ((d,.tuple #[.bool true,sv k,v])::e) (xz mb ib m left' (some (k,v))::h')) :
  St c ops K (⟨some d,.next x false,ty,pos,after,none⟩::rest) e h :=
 eD (by simp) λa w hk hh hw => by
  have hh':=hh.sel hs
  obtain ⟨hne,es,ck,seen,g1,g2,hB,g4,g5,g6⟩:=hh'.1
  have g1':w.heap[mb]? = some (.map es ck):=g1
  have g4':w.heap[ib]? = some (.mapIter (some mb) ck seen ck):=g4
  have hlt:ib<w.heap.size:=(Array.getElem?_eq_some_iff.1 g4').1
  rcases run_next_at (P:=c.P) g1' g4' hB.1 ty with ⟨q1,q2⟩ | ⟨z,hz,n,hdn,q2⟩
  .simp only [execOp,hk.ev hx,Sem.run_bind,q2,Result.andThen_ok,Sem.run_pure]
   have hl:left=[]:=by
    rw [q1] at g5
    have:=g5.symm.eq_nil
    unfold lw at this
    simpa using this
   subst hl
   exact h0 Z _ _ (hk.put _ hd) hh' hw
  .simp only [execOp,hk.ev hx,Sem.run_bind,q2,Result.andThen_ok,Sem.run_pure]
   have hz1:z∈es.toList:=(List.mem_filter.1 hz).1
   have hz2:seen.contains z.born=false:=by simpa using (List.mem_filter.1 hz).2
   have hzm:(z.key,z.val)∈lw left:=g5.mem_iff.1<|List.mem_map.2 ⟨z,hz,rfl⟩
   obtain ⟨⟨k,v⟩,hkv,hkv2⟩:=List.mem_map.1 hzm
   simp only [Prod.mk.injEq] at hkv2
   obtain ⟨hk1,hv1⟩:=hkv2
   obtain ⟨s,t,rfl⟩:=List.append_of_mem hkv
   have hp:(s++(k,v)::t).Perm ((k,v)::(s++t)):=List.perm_middle
   have hf:=Bg seen z hz2 es.toList hB.2.1 hz1
   have hrest:((es.toList.filter λx => !(seen.push z.born).contains x.born).map λx=>(x.key,x.val)).Perm (lw (s++t)):=by
    have h3:=(hf.map λx:MapEntry=>(x.key,x.val)).symm.trans<|g5.trans (hp.map λp:Bs×Value=>((sv p.1:Value),p.2))
    rw [List.map_cons,List.map_cons,<- hk1,<- hv1] at h3
    exact h3.cons_inv
   rw [<- hk1,<- hv1]
   have hsame:Same w { w with drawn:=n,heap:=w.heap.setIfInBounds ib (.mapIter (some mb) ck (seen.push z.born) ck) }:=⟨rfl,rfl,rfl,hdn,by simp,pJ (b:=ib) (λo ho=>by rw [g4'] at ho; cases ho; rfl) (λo ho=>by
    have:(w.heap.setIfInBounds ib<|.mapIter (some mb) ck (seen.push z.born) ck)[ib]? = some o:=ho
    simp [hlt] at this; rw [<- this]; rfl) λc hc=>dZ w ib c _ hc⟩
   refine h1 k v (s++t) hp _ _ (hk.put _ hd) ⟨⟨hne,es,ck,seen.push z.born,?_,g2,hB,?_,hrest,λp hp'=>?_⟩,hh'.2.1,?_⟩<|hw.trans hsame
   .show (w.heap.setIfInBounds ib _)[mb]? = _
    rw [Array.getElem?_setIfInBounds_ne (Ne.symm hne)]; exact g1'
   .show (w.heap.setIfInBounds ib _)[ib]? = _
    simp [hlt]
   .cases hp'
    exact ⟨z,hz1,by simp,hk1.symm,hv1.symm⟩
   .exact bn.loc hh'.2.2 λb hb=>(dZ w ib b _<|λq=>hh'.2.1 b (.inr q) hb).symm
theorem DX {ty:TypeId} {x:Operand} {mb ib:Nat} {m left:List (Bs×Value)} {k:Bs} {v:Value} (hx:e.ev? x=some (.pointer (some ⟨ib,0,none⟩))) (hs:Sel h (xz mb ib m left (some (k,v))) h') :
  Vop c.P e h (.entry x) ty (.tuple #[sv k,v]):=
 ⟨by simp,by simp,λρ w d pos after g hρ hh=>by
  obtain ⟨_,es,ck,seen,g1,_,hB,g4,_,g6⟩:=(hh.sel hs).1
  obtain ⟨z,hz,hb,h1,h2⟩:=g6 _ rfl
  have:=run_entry_at (P:=c.P) (w:=w) g1 g4 hz hb hB.2.1
  rw [h1,h2] at this
  simp [execOp,hρ x _ hx,this]⟩
end
section
variable {c:Cx} {x:Code} {Q:Exit->Act->World->Prop} {e:Env} {h h':SH}
theorem HV {mb ib:Nat} {m left:List (Bs×Value)} {last:Option (Bs×Value)} (s:Sel h (xz mb ib m left last) h') (hx:Cd c x Q e (mps mb m::h')):Cd c x Q e h:=λa w hk hh hw=>by
 have hh':=hh.sel s
 obtain ⟨_,es,ck,seen,g1,g2,hB,_⟩:=hh'.1
 exact hx a w hk ⟨⟨es,ck,g1,g2,hB⟩,λb hb=>hh'.2.1 b (.inl hb),hh'.2.2⟩ hw
end
end Go.Ck
namespace Go.Fl
open Go Go.RowKit Go.Ck Go.Proofs Go.Proofs.Tryz Go.Proofs.YtknmacdbffgjgaaGreatDoor Fx Go.Hr
abbrev BE:=Nm×Value×List (List Value)
def BN (E:List BE):Res:=Res.star (E.map λe=>VR e.2.1 191 18 e.2.2)
def kP (E:List BE):List (Nm×Value):=E.map λe=>(e.1,e.2.1)
def BOk (Y:Res) (E:List BE) (cs:List Cm):Prop:=E.map (λe=>e.1)=keys cs/\∀ e∈E,e.2.1.oneCell'=true/\Rws Y e.2.2 (under cs e.1)
theorem BOk.up {X Y:Res} {E:List BE} {cs:List Cm} (h:BOk X E cs) (he:Ext X Y):BOk Y E cs:=⟨h.1,λe hm=>⟨(h.2 e hm).1,(h.2 e hm).2.up he⟩⟩
theorem kg (E:List BE):(kP E).map (·.1)=E.map λe=>e.1:=by simp [kP]
theorem OU {m:List (Nm×Value)} {n:Nm} {v:Value} (h:n ∉ m.map (·.1)):eU m n v=m++[(n,v)]:=by
 induction m with
 | nil=>rfl
 | cons p t ih =>
  rw [List.map_cons,List.mem_cons,not_or] at h
  rw [eU,if_neg (λe=>h.1 e.symm),ih h.2]; rfl
theorem OV {m1 m2:List (Nm×Value)} {n:Nm} {v v2:Value} (h:n ∉ m1.map (·.1)):eU (m1++(n,v)::m2) n v2=m1++(n,v2)::m2:=by
 induction m1 with
 | nil=>simp [eU]
 | cons p t ih =>
  rw [List.map_cons,List.mem_cons,not_or] at h
  rw [List.cons_append,eU,if_neg (λe=>h.1 e.symm),ih h.2]; rfl
theorem Mt {m1 m2:List (Nm×Value)} {n:Nm} {v:Value} (h:n ∉ m1.map (·.1)):bR (m1++(n,v)::m2) n=some v:=by
 unfold bR
 have:m1.find? (λp=>p.1 == n)=none:=by
  rw [List.find?_eq_none]
  intro p hp
  simp only [beq_iff_eq]
  exact λe=>h<|List.mem_map.2 ⟨p,hp,e⟩
 rw [List.find?_append,this]
 simp
theorem HY (E : List BE) (n : Nm) (hn : (E.map λe => e.1).Nodup) : ∃ (v : Value) (rows : List (List Value)) (BO : Res) (F : Value -> List (List Value) -> List BE), (bR (kP E) n).getD (.slice none 0 0) = v /\ (∀ t, Vw (BN E :: t) (VR v 191 18 rows :: BO :: t)) /\ (∀ v2 r2 t, Vw (Res.star [VR v2 191 18 r2, BO] :: t) (BN (F v2 r2) :: t)) /\ (∀ v2 r2, eU (kP E) n v2 = kP (F v2 r2)) /\
  ((n ∉ (E.map λe=>e.1)/\rows=[]/\∀ v2 r2,F v2 r2=E++[(n,v2,r2)])\/∃ E1 E2,E=E1++(n,v,rows)::E2/\∀ v2 r2,F v2 r2=E1++(n,v2,r2)::E2):=by
 by_cases hm:n∈E.map λe=>e.1
 .obtain ⟨e, he, rfl⟩ := List.mem_map.1 hm
  obtain ⟨E1,E2,rfl⟩:=List.append_of_mem he
  obtain ⟨n,v,rows⟩:=e
  have h1:n ∉ E1.map λe=>e.1:=λh=>by
   rw [List.map_append,List.map_cons] at hn
   exact (List.nodup_append.1 hn).2.2 n h n (by simp) Z
  have h2:n ∉ (kP E1).map (·.1):=by rw [kg]; exact h1
  have hb:∀ v2 r2,kP (E1++(n,v2,r2)::E2)=kP E1++(n,v2)::kP E2:=λv2 r2=>by simp [kP]
  refine ⟨v,rows,Res.star ((E1++E2).map λe=>VR e.2.1 191 18 e.2.2),λv2 r2=>E1++(n,v2,r2)::E2,by rw [hb,Mt h2]; rfl,λt w hh=>?_,λv2 r2 t w hh=>?_,λv2 r2=>by rw [hb,hb,OV h2],.inr ⟨E1,E2,Z,λ_ _=>rfl⟩⟩
  .have h3:bn (hp w) (((E1++(n,v,rows)::E2).map λe=>VR e.2.1 191 18 e.2.2)++t):=dL.1 hh
   have h4:bn (hp w) (((VR v 191 18 rows)::(E1++E2).map λe=>VR e.2.1 191 18 e.2.2)++t):=(bn.perm (List.Perm.append_right t (by
    rw [List.map_append,List.map_cons,List.map_append]; exact List.perm_middle))).1 h3
   have h5:bn (hp w) (((E1++E2).map λe=>VR e.2.1 191 18 e.2.2)++(VR v 191 18 rows::t)):=(bn.perm (by
    rw [List.cons_append]; exact List.perm_middle.symm)).1 h4
   have h6:=dL.2 h5
   exact (bn.perm<|.swap _ _ _).1 h6
  .have h3:bn (hp w) ([VR v2 191 18 r2,Res.star ((E1++E2).map λe=>VR e.2.1 191 18 e.2.2)]++t):=dL.1 hh
   have h4:=dL.1 ((bn.perm<|.swap _ _ _).1 h3)
   refine dL.2 ((bn.perm ?_).1 h4)
   rw [List.map_append,List.map_append,List.map_cons,List.append_assoc,List.append_assoc]
   refine List.Perm.append_left _ ?_
   rw [List.cons_append]
   exact List.perm_middle
 .have h2:n ∉ (kP E).map (·.1):=by rw [kg]; exact hm
  refine ⟨.slice none 0 0,[],BN E,λv2 r2=>E++[(n,v2,r2)],by rw [zX.2 h2]; rfl,λt w hh=>hh.vr_nil 191 18,λv2 r2 t w hh=>?_,λv2 r2=>by rw [OU h2]; simp [kP],.inl ⟨hm,Z,λ_ _=>rfl⟩⟩
  have h3:bn (hp w) ([VR v2 191 18 r2,BN E]++t):=dL.1 hh
  have h4:=dL.1 ((bn.perm<|.swap _ _ _).1 h3)
  refine dL.2 ((bn.perm ?_).1 h4)
  rw [List.map_append,List.append_assoc]
  exact .refl _
theorem xA (cs:List Cm) (x:Cm):keys (cs++[x])=if x.mem.name∈keys cs then keys cs else keys cs++[x.mem.name]:=by
 unfold keys
 rw [List.map_append,List.map_cons,List.map_nil,sF]
 unfold Hr.step
 by_cases h:x.mem.name∈dd [] (cs.map λx=>x.mem.name)
 .rw [if_pos h,if_pos Zp]
 .rw [if_neg h,if_neg Zp]
theorem qz (cs:List Cm) (x:Cm) (n:Nm):under (cs++[x]) n=if x.mem.name=n then under cs n++[x] else under cs n:=by
 unfold under
 rw [List.filter_append]
 by_cases h:x.mem.name=n <;> simp [h]
theorem Bi {cs:List Cm} {n:Nm} (h:n ∉ keys cs):under cs n=[]:=by
 unfold under
 rw [List.filter_eq_nil_iff]
 intro x hx
 simp only [beq_iff_eq]
 exact λe=>h<|kK.2 ⟨x,hx,e⟩
theorem OW {Y : Res} {E : List BE} {cs : List Cm} {x : Cm} {us : List Value} {v v2 : Value} {rows : List (List Value)} {F : Value -> List (List Value) -> List BE} (hb : BOk Y E cs) (hx : Enc.rep Y us x) (hv : v2.oneCell' = true)
  (hF:(x.mem.name ∉ (E.map λe=>e.1)/\rows=[]/\∀ v2 r2,F v2 r2=E++[(x.mem.name,v2,r2)])\/∃ E1 E2,E=E1++(x.mem.name,v,rows)::E2/\∀ v2 r2,F v2 r2=E1++(x.mem.name,v2,r2)::E2):BOk Y (F v2 (rows++[us])) (cs++[x]):=by
 obtain ⟨hk,hr⟩:=hb
 rcases hF with ⟨h1,rfl,h3⟩ | ⟨E1,E2,rfl,h3⟩
 .rw [h3]
  have h4:x.mem.name ∉ keys cs:=by rw [<- hk]; exact h1
  refine ⟨by rw [xA,if_neg h4,List.map_append,hk]; rfl,λe he=>?_⟩
  rcases List.mem_append.1 he with he | he
  .have h5:e.1≠x.mem.name:=λq=>h1 (q ▸ List.mem_map.2 ⟨e,he,rfl⟩)
   rw [qz,if_neg (λq=>h5 q.symm)]
   exact hr e he
  .rw [List.mem_singleton.1 he]
   dsimp only
   rw [qz,if_pos rfl,Bi h4]
   exact ⟨hv,Rws.nil.snoc hx⟩
 .rw [h3]
  have h4:x.mem.name∈keys cs:=by rw [<- hk]; simp
  have hnd:(E1.map (λe=>e.1)++x.mem.name::E2.map λe=>e.1).Nodup:=by
   have:=iB cs
   rw [<- hk,List.map_append,List.map_cons] at this
   exact this
  refine ⟨by rw [xA,if_pos h4,<- hk,List.map_append,List.map_append]; rfl,λe he=>?_⟩
  have hother:∀ e∈E1++E2,e.1≠x.mem.name:=λe he q=>by
   have h6:=List.nodup_append.1 hnd
   rcases List.mem_append.1 he with he | he
   .exact h6.2.2 e.1 (List.mem_map.2 ⟨e,he,Z⟩) x.mem.name (by simp) q
   .exact (List.nodup_cons.1 h6.2.1).1 (q ▸ List.mem_map.2 ⟨e,he,Z⟩)
  have hcase:e=(x.mem.name,v2,rows++[us])\/e∈E1++E2:=by
   rcases List.mem_append.1 he with he | he
   .exact .inr<|List.mem_append_left _ he
   .rcases List.mem_cons.1 he with he | he
    .exact .inl he
    .exact .inr<|List.mem_append_right _ he
  rcases hcase with rfl | he2
  .dsimp only
   rw [qz,if_pos rfl]
   exact ⟨hv,(hr (x.mem.name,v,rows)<|by simp).2.snoc hx⟩
  .rw [qz,if_neg (λq=>hother e he2 q.symm)]
   exact hr e (by rcases List.mem_append.1 he2 with h | h <;> simp [h])
theorem OX {Y:Res} {E:List BE} {cs:List Cm} {n:Nm} {v:Value} {rows:List (List Value)} {F:Value->List (List Value)->List BE} (hb:BOk Y E cs) (hF:(n ∉ (E.map λe=>e.1)/\rows=[]/\∀ v2 r2,F v2 r2=E++[(n,v2,r2)])\/∃ E1 E2,E=E1++(n,v,rows)::E2/\∀ v2 r2,F v2 r2=E1++(n,v2,r2)::E2):rows.length<=cs.length:=by
 rcases hF with ⟨_,rfl,_⟩ | ⟨E1,E2,rfl,_⟩
 .simp
 .rw [(hb.2 (n,v,rows)<|by simp).2.1]
  exact List.length_filter_le _ _
attribute [local irreducible] Go.Ck.Sub St Cd Xt Nx DrL LsW
section
variable {X Y:Res} {v v':Value} {us us':List Value}
theorem DY {mb:Nat} {uc:List Value}:Ct prog 171 #[.agg #[v,.map (some mb)],.agg uc.toArray] [] λu h'=>∃ b1 b2,u = .func (.func 237) #[] #[.pointer (some ⟨b1,0,none⟩),.pointer (some ⟨b2,0,none⟩)]/\h'=[pt b1 (cl uc 44),pt b2 (cl [v,.map (some mb)] 114)]:=by
 refine aJ (n:=6) func171 Z Z (len Z) λhr w0=>?_
 refine cQ (aV Z Z λb2=>?_)
 refine aV Z Z λb3=>?_
 refine sA Z<|sK [2,3,4] Z<|cQ<|sV (bX Z Z)<|sA Z<|sK [4] Z<|cT ?_
 exact aj Z ⟨_,_,Z,Z⟩ sbq
theorem en237:Ck.Enters prog 237:=enters_of func237 Zz rfl

theorem xC {mb : Nat} {m : List (Nm × Value)} {fl : Nm -> Fl} {l : FS} {c : FC} {uc : List Value} (hl : Ls X v l) (hc : Enc.rep X uc c) (hm : FlR X m fl) (hf : ∀ p ∈ c.pars, (ae l p.name).forms.length = p.args.length /\ p.und.length <= 1099511627776) (hb : (comes fl l c).length * 280 <= 1099511627776) :
  CtX prog 113 #[.agg #[v,.map (some mb)],.agg uc.toArray] X [mps mb m] λu Y k'=>∃ bm E,u = .map (some bm)/\k'=[mps mb m,mps bm (kP E),BN E]/\BOk Y E (comes fl l c):=by
 have hml:maxLen=9223372036854775807:=rfl
 have hcl:uc.length=7:=Enc.len hc
 unfold CtX
 refine rC (n:=25) func113 Z Z (len Z) λhr w0=>?_
 refine cQ (aV Z Z λb2=>?_)
 refine aV Z Z λb3=>?_
 refine sA Z<|sK [2,3,4] Z<|cQ (fq (ltn Z) λbm=>?_)
 refine au al188 λb5=>?_
 refine bi Z Z sz188 ?_
 refine sK [2,3,4,5] Z<|cS<|cQ<|sV (af Z ig Z ag) ?_
 refine sV (af Z gU hcl ag) ?_
 refine aH Z Z en171 Z (DY (v:=v) (mb:=mb) (uc:=uc)) ?_
 rintro u h' ⟨c1,c2,rfl,rfl⟩
 simp only [lC,lN]
 refine sK [4,5,10] Z<|cB<|dY (fw (L:=[])) (ji Z en237 λyl db rec hst hpe hps hasg hbo hkn2=>?_)
 refine ⟨_,Ct.perm (Hu (σ := List BE) (mb:=mb) (b1:=c1) (b2:=c2) (yl:=yl) (λE=>pt yl (.loop rec)::pt db (.deferred<|some [])::pt b5 (cl [.map (some bm)] 188)::mps bm (kP E)::BN E::pt b3 (cl uc 44)::pt b2 (cl [v,.map (some mb)] 114)::hr)
  (λk Y E=>BOk Y E ((comes fl l c).take k)) (λ_ _ _=>False) [] ⟨rfl,λe he=>by cases he⟩ hl hc hm hf ?_ (λ_ _ _ _ he h=>h.up he)) ?_,?_⟩
 .rintro k Y E x us hx hE hrep hbk
  have hone:=Enc.ones hrep
  have hlt:=(List.getElem?_eq_some_iff.1 hx).1
  have htk:(comes fl l c).take (k+1)=(comes fl l c).take k++[x]:=by rw [cz hlt,(List.getElem?_eq_some_iff.1 hx).2]
  obtain ⟨v1,rows,BO,F,hlook,hV1,hV2,hsupd,hcase⟩:=HY E x.mem.name (by rw [hbk.1]; exact iB _)
  have hrl:=OX hbk hcase
  rw [List.length_take] at hrl
  have hstep:=λ(v2:Value) (hv2:v2.oneCell'=true)=>OW (us:=us) hbk hrep hv2 hcase
  obtain ⟨x2,x5,xy,x11,x12,x13,rfl,hxm⟩:=iD hrep
  unfold pE at *
  refine Yc.perm (rz (n:=25) (rec:=rec) (args:=[.agg [sv x.og.par,sv x.og.name,.int .i64 x.par,sv x.mem.name,.int .i64 x.mem.kind,x2,sv x.mem.impl.cls,sv x.mem.impl.name,x5,.int .i64 x.mem.ty.kind,sv x.mem.ty.name,xy,.bool x.mem.ty.void,.bool x.mem.ty.sep,x11,x12,x13,.int .i64 x.was].toArray]) (hf:=pt db (.deferred<|some [])::pt b5 (cl [.map (some bm)] 188)::mps bm (kP E)::BN E::Y::mps mb m::pt b3 (cl uc 44)::pt b2 (cl [v,.map (some mb)] 114)::hr) (by rw [hps]; rfl) hkn2 (by rw [hps]; decide) ?_) (by exact (by repeat (first | exact Pm.refl | refine Pm.cons slq ?_):Pm _ _).perm)
  intro hr2 w1
  rw [hasg,hps,hbo]
  simp only [lC,lN]
  refine cR (au rP λb6=>?_)
  refine ai Z Z mY Z hone ?_
  refine sN<|nK [4,5,6] Z<|ax<|lW Z slq (by first | rfl | assumption) ?_
  refine cB<|dY (Vw.sel (r:=BN E) slq<|hV1 _) ?_
  refine jC (ork [(0,1),(1,2),(2,2),(3,1),(4,1),(5,2),(6,2),(7,1),(8,1),(9,1),(10,0),(11,0),(12,0)] .nil) (λi => !(Nat.beq i 12)) [pt b5 (cl [.map (some bm)] 188),pt b6 (cl [sv x.og.par,sv x.og.name,.int .i64 x.par,sv x.mem.name,.int .i64 x.mem.kind,x2,sv x.mem.impl.cls,sv x.mem.impl.name,x5,.int .i64 x.mem.ty.kind,sv x.mem.ty.name,xy,.bool x.mem.ty.void,.bool x.mem.ty.sep,x11,x12,x13,.int .i64 x.was] 191),mps bm (kP E)] mixed Zz ?_
  refine bu Z (vY Z rJ) ?_
  refine dV Z (vF Z ed Z)<|dV Z (vF Z eQ Z)<|bu Z (vY Z ld9) ?_
  refine bu Z (vY Z rJ) ?_
  refine dV Z (vF Z ed Z)<|dV Z (vF Z eQ Z)<|bu Z (vY Z ld9) ?_
  refine bu Z (gM hlook<|bP Z Z tH ug slq) ?_
  refine bu Z (af Z ik Z ag) ?_
  refine aT Z (ak (cells:=[sv x.og.par,sv x.og.name,.int .i64 x.par,sv x.mem.name,.int .i64 x.mem.kind,x2,sv x.mem.impl.cls,sv x.mem.impl.name,x5,.int .i64 x.mem.ty.kind,sv x.mem.ty.name,xy,.bool x.mem.ty.void,.bool x.mem.ty.sep,x11,x12,x13,.int .i64 x.was]) Z underlying187 Ab Z Z Zz (ltn Z) λb22=>aW ?_)
  refine aT Z (eG [[sv x.og.par,sv x.og.name,.int .i64 x.par,sv x.mem.name,.int .i64 x.mem.kind,x2,sv x.mem.impl.cls,sv x.mem.impl.name,x5,.int .i64 x.mem.ty.kind,sv x.mem.ty.name,xy,.bool x.mem.ty.void,.bool x.mem.ty.sep,x11,x12,x13,.int .i64 x.was]] Z Z underlying187 Ab Z (by decide) (show Sel _ (VR v1 191 18 rows) _ from slq) (by simp) Z (λj u2 hu2=>bV<|bZ Zt) (by simpa using hone) (by omega) (by omega) (ltn Z) λw2 hw2 _=>aW ?_)
  refine aT Z<|dB Z Z Z tH slq<|aW ?_
  rw [hsupd]
  refine bB<|nK [4] Z<|ax<|xB<|lm (fP (L:=[VR w2 191 18 (rows++[[sv x.og.par,sv x.og.name,.int .i64 x.par,sv x.mem.name,.int .i64 x.mem.kind,x2,sv x.mem.impl.cls,sv x.mem.impl.name,x5,.int .i64 x.mem.ty.kind,sv x.mem.ty.name,xy,.bool x.mem.ty.void,.bool x.mem.ty.sep,x11,x12,x13,.int .i64 x.was]]),BO])) ?_
  simp only [lC,lN]
  refine jq (hV2 _ _ _)<|dI slq (.inl ⟨Z,Y,_,Ext.refl Y,by rw [htk]; exact hstep w2 hw2,Z⟩) ?_
  rw [dJ hst hpe]
  exact sbq
 .exact (by repeat (first | exact Pm.refl | refine Pm.cons slq ?_):Pm _ _).perm
 .rintro u h' ⟨rfl,(⟨Y,E,hE,hbk,rfl⟩ | ⟨k,Y,t,_,hS,rfl⟩)⟩
  .rw [List.take_length] at hbk
   refine ⟨rec,_,slq,(by rw [hst]; simp),?_⟩
   rw [hpe]
   dsimp only
   refine xB<|xT<|cQ<|sV (vY Z rJ) ?_
   refine sA Z<|sK [4] Z<|cT ?_
   exact kv (bs:=[db]) Z Z ⟨Y,_,Z,hE,bm,E,Z,Z,hbk⟩ sbq
  .exact hS.elim
end
end Go.Fl
namespace Go.Fl
open Go Go.RowKit Go.Ck Go.Proofs Go.Proofs.Tryz Go.Proofs.YtknmacdbffgjgaaGreatDoor Fx Go.Hr

def Jz:Go.Shelf.Ren:={
 f:=λ| 6=>124 | 15=>202 | 14=>201 | 28=>258 | 29=>259 | 20=>250 | 21=>251 | 22=>252 | 23=>253 | 24=>254 | 25=>255 | 26=>256 | 27=>257 | 46=>289 | 47=>290 | 48=>291 | 49=>292 | 50=>293 | 57=>304 | n=>n
 t:=λ| 22=>52 | 24=>75 | 25=>204 | 3=>3 | 39=>275 | 0=>0 | 53=>322 | 55=>324 | 4=>4 | 46=>316 | 45=>315 | 50=>222 | 5=>5 | 9=>9 | 66=>345 | 70=>349 | 76=>365 | 77=>366 | n=>n
 g:=λn=>n }
theorem laysMb:Go.Proofs.SlLaysF0.n6 prog Jz:={
 mixed:=rfl
 f6 := bU "slices.SortFunc[[]cosigner/api.Member,cosigner/api.Member]" rfl (func124.trans (congrArg some Zz))
 f14 := bU "slices.pdqsortCmpFunc[cosigner/api.Member]" rfl (func201.trans (congrArg some Zz))
 f15:=func202.trans<|congrArg some Zz
 f20 := bU "slices.insertionSortCmpFunc[cosigner/api.Member]" rfl (func250.trans (congrArg some Zz))
 f21 := bU "slices.heapSortCmpFunc[cosigner/api.Member]" rfl (func251.trans (congrArg some Zz))
 f22 := bU "slices.breakPatternsCmpFunc[cosigner/api.Member]" rfl (func252.trans (congrArg some Zz))
 f23 := bU "slices.choosePivotCmpFunc[cosigner/api.Member]" rfl (func253.trans (congrArg some Zz))
 f24 := bU "slices.reverseRangeCmpFunc[cosigner/api.Member]" rfl (func254.trans (congrArg some Zz))
 f25 := bU "slices.partialInsertionSortCmpFunc[cosigner/api.Member]" rfl (func255.trans (congrArg some Zz))
 f26 := bU "slices.partitionEqualCmpFunc[cosigner/api.Member]" rfl (func256.trans (congrArg some Zz))
 f27 := bU "slices.partitionCmpFunc[cosigner/api.Member]" rfl (func257.trans (congrArg some Zz))
 f28:=func258.trans<|congrArg some Zz
 f29:=func259.trans<|congrArg some Zz
 f46 := bU "slices.siftDownCmpFunc[cosigner/api.Member]" rfl (func289.trans (congrArg some Zz))
 f47:=func290.trans<|congrArg some Zz
 f48:=func291.trans<|congrArg some Zz
 f49 := bU "slices.medianAdjacentCmpFunc[cosigner/api.Member]" rfl (func292.trans (congrArg some Zz))
 f50 := bU "slices.medianCmpFunc[cosigner/api.Member]" rfl (func293.trans (congrArg some Zz))
 f57 := bU "slices.order2CmpFunc[cosigner/api.Member]" rfl (func304.trans (congrArg some Zz))
 t0:=underlying0
 a0:=isAgg0
 z0:=sizeOf0
 v0:=zeroValue0
 t3:=underlying3
 a3:=isAgg3
 z3:=sizeOf3
 v3:=zeroValue3
 t4:=underlying4
 a4:=isAgg4
 z4:=sizeOf4
 v4:=zeroValue4
 t5:=underlying5
 a5:=isAgg5
 z5:=sizeOf5
 v5:=zeroValue5
 t9:=underlying9
 a9:=isAgg9
 z9:=sizeOf9
 v9:=zeroValue9
 t22:=underlying52
 a22:=isAgg52
 z22:=sizeOf52
 v22:=zeroValue52
 t25:=underlying204
 a25:=isAgg204
 z25:=sizeOf204
 v25:=zeroValue204
 t39:=underlying275
 a39:=isAgg275
 z39:=sizeOf275
 v39:=zeroValue275
 t45:=underlying315
 a45:=isAgg315
 z45:=sizeOf315
 v45:=zeroValue315
 t46:=underlying316
 a46:=isAgg316
 z46:=sizeOf316
 v46:=zeroValue316
 t50:=underlying222
 a50:=isAgg222
 z50:=sizeOf222
 v50:=zeroValue222
 t53:=underlying322
 a53:=isAgg322
 z53:=sizeOf322
 v53:=zeroValue322
 t55:=underlying324
 a55:=isAgg324
 z55:=sizeOf324
 v55:=zeroValue324
 t66:=underlying345
 a66:=isAgg345
 z66:=sizeOf345
 v66:=zeroValue345
 t70:=underlying349
 a70:=isAgg349
 z70:=sizeOf349
 v70:=zeroValue349
 t76:=underlying365
 a76:=isAgg365
 z76:=sizeOf365
 v76:=zeroValue365
 t77:=underlying366
 a77:=isAgg366
 z77:=sizeOf366
 v77:=zeroValue366 }
abbrev MC:Type:={ p:Mb×List Value // p.2.length=14/\p.2.all Value.oneCell'=true/\p.2[0]? = some (sv p.1.name) }
instance:Inhabited MC:=⟨⟨(mb0,sv []::List.replicate 13 (.bool false)),rfl,rfl,rfl⟩⟩
def HZ (a b:MC):Int:=rT a.1.1.name b.1.1.name
theorem H5 (a b:Nm):(rT a b<0)↔lt a b=true:=by
 unfold rT
 rcases eu a b with h | h | h
 .simp [h]
 .rw [h]; simp [lt_irrefl]
 .simp [h,iQ h]
theorem swoMC:Sort.SWO (ltOf HZ):=by
 have key:∀ x y,ltOf HZ x y=lt x.1.1.name y.1.1.name:=λx y=>by
  unfold ltOf HZ
  rw [Bool.eq_iff_iff,decide_eq_true_iff,H5]
 refine ⟨λx=>by rw [key,lt_irrefl],λx y z h1 h2=>by rw [key] at *; exact lt_trans h1 h2,λx y z h1 h2=>?_⟩
 rw [key] at *
 cases h3:lt x.1.1.name z.1.1.name with
 | false=>rfl
 | true =>
  rcases eu x.1.1.name y.1.1.name with h4 | h4 | h4
  .rw [h1] at h4; cases h4
  .rw [h4,h2] at h3; cases h3
  .rw [lt_trans h4 h3] at h2; cases h2
attribute [local irreducible] Go.Ck.Sub St Cd Xt Nx DrL LsW
section
variable {X Y:Res} {v v':Value} {us us':List Value}
theorem Mv (a b:MC):Reads prog 125 #[.agg a.1.2.toArray,.agg b.1.2.toArray] [] (.int .i64 (HZ a b)):=by
 obtain ⟨⟨n,us⟩,h1,h2,h3⟩:=a
 obtain ⟨⟨n',us'⟩,h1',h2',h3'⟩:=b
 dsimp only at h1 h2 h3 h1' h2' h3' ⊢
 obtain ⟨c,t,rfl⟩:∃ c t,us=c::t:=by cases us with | nil=>cases h1 | cons c t=>exact ⟨c,t,rfl⟩
 obtain ⟨c',t',rfl⟩:∃ c t,us'=c::t:=by cases us' with | nil=>cases h1' | cons c t=>exact ⟨c,t,rfl⟩
 obtain rfl:c=sv n.name:=Zc
 obtain rfl:c'=sv n'.name:=by simpa using h3'
 unfold HZ
 refine aJ (n:=10) func125 Z Z (len Z) λhr w0=>?_
 refine cQ (aV Z Z λb2=>?_)
 refine aV Z Z λb3=>?_
 refine sA Z<|sK [2,3,4] Z<|cQ<|sV (vF Z eQ Z)<|sV (vY Z ld9) ?_
 refine sV (vF Z eQ Z)<|sV (vY Z ld9) ?_
 refine bf Z Z KL Z (zk n.name n'.name) ?_
 refine sA Z<|sK [4] Z<|cT ?_
 exact aj Z ⟨Z,Z⟩ sbq
theorem mb_name {m:Mb} (h:Enc.rep X us m):us.length=14/\us.all Value.oneCell'=true/\us[0]? = some (sv m.name):=by
 refine ⟨Enc.len h,Enc.ones h,?_⟩
 obtain ⟨x2,x5,xy,x11,x12,x13,rfl,_⟩:=dN h
 rfl
theorem JA {Y:Res} {v:Value} {rows:List (List Value)} {ms:List Mb} (hr:Rws Y rows ms) (hn:(ms.map λm=>m.name).Nodup) (hl:ms.length<=1099511627776):Ct prog 124 #[v,.func (.func 125) #[] #[]] [VR v 75 14 rows] λu h'=>u = .tuple #[]/\∃ rows',Rws Y rows' (rW ms)/\rows'.length=rows.length/\h'=[VR v 75 14 rows']:=by
  have hex : ∃ xs : List MC, xs.map (λx => x.1.2) = rows /\ xs.map (λx => x.1.1) = ms /\ ∀ x ∈ xs, Enc.rep Y x.1.2 x.1.1 := by
    obtain ⟨hlen,hr⟩:=hr
    clear hn hl
    induction rows generalizing ms with
    | nil => have : ms = [] := by cases ms with | nil => rfl | cons _ _ => cases hlen
             subst this; exact ⟨[],rfl,rfl,λx hx=>by cases hx⟩
    | cons r t ih =>
      cases ms with
      | nil=>cases hlen
      | cons m mt =>
        have h0:=hr 0 r m rfl rfl
        have h1:=mb_name h0
        obtain ⟨xs,h2,h3,h4⟩:=ih (ms:=mt) (by simpa using hlen) λj us x g1 g2=>hr (j+1) us x g1 g2
        refine ⟨⟨(m,r),h1⟩::xs,by rw [List.map_cons,h2],by rw [List.map_cons,h3],λx hx=>?_⟩
        rcases List.mem_cons.1 hx with rfl | hx
        · exact h0
        · exact h4 x hx
  obtain ⟨xs,hx1,hx2,hx3⟩:=hex
  have hxl:xs.length=ms.length:=by have:=congrArg List.length hx2; simpa using this
  have h:=Ht (E:=75) (v:=v) laysMb (k:=14) isAgg75 sizeOf75 (enc:=λx:MC=>x.1.2) (λx=>x.2.1) (λx u hu=>List.all_eq_true.1 x.2.2.1 u hu) swoMC (g:=125) (enters_of func125 Zz rfl) (λx y=>Mv x y) (xs:=xs)<|by omega
  rw [hx1] at h
  refine Ct.mono h ?_
  rintro u h' ⟨rfl,ys,hp,hs,rfl⟩
  refine ⟨Z,_,?_,by rw [<- hx1,List.length_map,List.length_map]; exact hp.length_eq,Z⟩
  have hpm:(ys.map λy=>y.1.1).Perm ms:=by rw [<- hx2]; exact hp.map _
  have hnd:((ys.map λy=>y.1.1).map λm=>m.name).Nodup:=(hpm.map _).nodup_iff.2 hn
  have hsrt:tq (ys.map λy=>y.1.1):=by
    unfold tq
    rw [List.pairwise_map]
    rw [List.map_map] at hnd
    have h7:=List.pairwise_map.1 hnd
    refine (hs.and h7).imp λ{a b} hab=>?_
    rcases eu a.1.1.name b.1.1.name with g | g | g
    · exact g
    · exact absurd g hab.2
    · exact (hab.1 ((H5 _ _).2 g)).elim
  have he:(ys.map λy=>y.1.1)=rW ms:=yn hsrt (jb hn).1 λm=>by rw [(jb hn).2,hpm.mem_iff]
  rw [<- he]
  refine ⟨by simp,λj us x g1 g2=>?_⟩
  rw [List.getElem?_map] at g1 g2
  cases hj:ys[j]? with
  | none=>rw [hj] at g1; cases g1
  | some y =>
    rw [hj] at g1 g2
    cases g1; cases g2
    exact hx3 y<|hp.mem_iff.1<|List.mem_of_getElem? hj
end
end Go.Fl
namespace Go.Fl
open Go Go.RowKit Go.Ck Go.Proofs Go.Proofs.Tryz Go.Proofs.YtknmacdbffgjgaaGreatDoor Fx Go.Hr
theorem K9 {Y Y2:Res} {E:List BE} {cs:List Cm} (hb:BOk Y E cs) (he:Ext Y Y2) (hok:∃ f,(BN E).ok f) (hr:∀ p u,Rd (BN E) p u->Rd Y2 p u) (hs:cs.length * 280<=1099511627776):∀ e∈E,Ls Y2 e.2.1 (under cs e.1):=λe hm=>by
 obtain ⟨s,t,rfl⟩:=List.append_of_mem hm
 have hrw:=(hb.2 e hm).2.up he
 have hul:(under cs e.1).length<=cs.length:=List.length_filter_le _ _
 have hrb:reachBytes=140737488351232:=rfl
 have hsel:∀ (s t:List BE),Sel ((s++e::t).map λe=>VR e.2.1 191 18 e.2.2) (VR e.2.1 191 18 e.2.2) ((s++t).map λe=>VR e.2.1 191 18 e.2.2):=λs t=>by
  induction s with
  | nil=>exact .here
  | cons a s ih=>exact .there ih
 have h9:(under cs e.1).length * 280<=140737488351232:=by omega
 rw [<- hrb] at h9
 have hrd2:∀ p u,Rd (VR e.2.1 191 18 e.2.2) p u->Rd Y2 p u:=λp u h=>hr p u (by unfold BN; exact pM (hsel s t) h)
 refine Rws.ls (E:=191) hrw ?_ hrd2 h9
 obtain ⟨f,hf⟩:=hok
 have h1:bn f ((s++e::t).map λe=>VR e.2.1 191 18 e.2.2):=hf
 exact ⟨f,((bn.perm (hsel s t).perm).1 h1).1⟩
theorem Bj (cs:List Cm):(keys cs).length<=cs.length:=by
 have:∀ ys:List Cm,(keys ys.reverse).length<=ys.reverse.length:=λys=>by
  induction ys with
  | nil=>simp [keys,dd]
  | cons y t ih =>
   rw [List.reverse_cons,xA]
   split <;> simp at ih ⊢ <;> omega
 simpa using this cs.reverse
theorem Bl {β : Type} (f:Cm->List β) (cs:List Cm) (n:Nm):((under cs n).flatMap f).length<=(cs.flatMap f).length:=by
 unfold under
 induction cs with
 | nil=>simp
 | cons x t ih =>
  rw [List.filter_cons]
  split <;> simp only [List.flatMap_cons,List.length_append] <;> omega
theorem JB {xs ys:List Mb} (hp:xs.Perm ys) (hn:(ys.map λm=>m.name).Nodup):rW xs=rW ys:=by
 have hn':(xs.map λm=>m.name).Nodup:=(hp.map _).nodup_iff.2 hn
 exact yn (jb hn').1 (jb hn).1 λm=>by rw [(jb hn').2,(jb hn).2,hp.mem_iff]
theorem zu {Y:Res} {E:List BE} {cs:List Cm} (hk:E.map (λe=>e.1)=keys cs) (h:∀ e∈E,Ls Y e.2.1 (under cs e.1)) (n:Nm):Ls Y ((bR (kP E) n).getD (.slice none 0 0)) (under cs n):=by
 obtain ⟨v,rows,BO,F,h1,-,-,-,h5⟩:=HY E n (by rw [hk]; exact iB _)
 rw [h1]
 rcases h5 with ⟨h6,-,-⟩ | ⟨E1,E2,rfl,-⟩
 .have h7:bR (kP E) n=none:=zX.2 (by rw [kg]; exact h6)
  rw [h7] at h1
  rw [Bi (by rw [<- hk]; exact h6),<- h1]
  exact Ls.nil
 .exact h (n,v,rows)<|by simp
def Mid1 (Y:Res) (rows:List (List Value)) (cs:List Cm) (c:FC) (left:List (Nm×Value)):Prop:=∃ ds:List Nm,Rws Y rows ((ds.filter λn=>(feat c n).isNone).map λn=>joined<|under cs n)/\(ds++left.map (λp=>p.1)).Perm (keys cs)
theorem Mid1.len {Y:Res} {rows:List (List Value)} {cs:List Cm} {c:FC} {left:List (Nm×Value)} (h:Mid1 Y rows cs c left):rows.length<=cs.length:=by
 obtain ⟨ds,h1,h2⟩:=h
 have h3:=h2.length_eq
 have h4:=Bj cs
 have h5:=List.length_filter_le (λn=>(feat c n).isNone) ds
 rw [h1.1,List.length_map]
 rw [List.length_append] at h3
 omega
attribute [local irreducible] Go.Ck.Sub St Cd Xt Nx DrL LsW
section
variable {X Y:Res} {v v':Value} {us us':List Value}

theorem Bn {mb : Nat} {m : List (Nm × Value)} {fl : Nm -> Fl} {l : FS} {c : FC} {uc : List Value} (hl : Ls X v l) (hc : Enc.rep X uc c) (hm : FlR X m fl) (hf : ∀ p ∈ c.pars, (ae l p.name).forms.length = p.args.length /\ p.und.length <= 1099511627776) (hb : (comes fl l c).length * 280 <= 1099511627776) (hn : (c.feats.map λf => f.name).Nodup)
  (hbS:(oq<|comes fl l c).length * 32<=1099511627776) (hbP:((comes fl l c).flatMap λx=>x.mem.pre).length * 40<=1099511627776) (hbQ:((comes fl l c).flatMap λx=>x.mem.post).length * 40<=1099511627776) (hbF:c.feats.length * 256<=1099511627776) :
  CtX prog 57 #[.agg #[v,.map (some mb)],.agg uc.toArray] X [mps mb m] λu Y k'=>k'=[mps mb m]/\Ls Y u (members (comes fl l c) c):=by
 have hml:maxLen=9223372036854775807:=rfl
 have hrb:reachBytes=140737488351232:=rfl
 have hby:=xC (mb:=mb) hl hc hm hf hb
 have hc0:=hc
 obtain ⟨ca,cb,ce,cf,ci,rfl,hca,hcb,hce,hcf,hci⟩:=gB hc
 obtain ⟨cf,cfk,rfl,hcfl,_⟩:=id hcf.form
 have hkl:=Bj<|comes fl l c
 have hraw:=Du (comes fl l c) hn
 have hmem:members (comes fl l c) c=rW (uw (comes fl l c) c):=rfl
 rw [hmem]
 have hSu:=λn=>Bl (λx=>x.mem.seeds) (comes fl l c) n
 have hPu:=λn=>Bl (λx=>x.mem.pre) (comes fl l c) n
 have hQu:=λn=>Bl (λx=>x.mem.post) (comes fl l c) n
 unfold oq at hbS
 generalize comes fl l c=cs at hb hbS hbP hbQ hkl hraw hSu hPu hQu hby ⊢
 unfold CtX at hby ⊢
 refine aJ (n:=58) func57 Z Z (len Z) λhr w0=>?_
 refine cQ (aV Z Z λb2=>?_)
 refine aV Z Z λb3=>?_
 refine sA Z<|sK [2,3,4] Z<|cQ<|sV (af Z ig Z ag) ?_
 refine sV (af Z gU Z ag) ?_
 refine aH Z Z KH Z (hby) ?_
 rintro u h' ⟨Y,k',rfl,hE,bm,E,rfl,rfl,hbk⟩
 simp only [lC,lN]
 refine sA Z<|sK [3,4,5] Z<|cQ<|sA Z<|sN<|nT<|cS<|cS (fD (r:=BN E) slq λhokE=>?_)
 refine E5 [BN E] Y λY2 hE2 hsel=>?_
 have hls:=K9 hbk hE2 hokE (hsel _ _ .here) hb
 have hlk:=zu hbk.1 hls
 have hk0:=hbk.1
 refine dY (dn 75 14)<|cR<|sM Z (Bh Z tH slq (ltn Z) λib hndE=>?_)
 refine sK [3,4,5,6,17] Z<|cB<|aY (σ := Value×List (List Value)×Res×List (Nm×Value)×Option (Nm×Value)) (λq=>[(3,.pointer (some ⟨b3,0,none⟩)),(5,.map (some bm)),(6,q.1),(17,.pointer (some ⟨ib,0,none⟩))]) (λq=>xz bm ib (kP E) q.2.2.2.1 q.2.2.2.2::VR q.1 75 14 q.2.1::pt b3 (cl [sv c.name,.bool c.dfd,ca,cb,ce,.slice cf c.feats.length cfk,ci] 44)::q.2.2.1::mps mb m::hr) (λq=>q.1.oneCell'=true/\Ext Y2 q.2.2.1/\Mid1 q.2.2.1 q.2.1 cs c q.2.2.2.1/\∀ p∈q.2.2.2.1,p∈kP E) (λq=>q.2.2.2.1.length) (.slice none 0 0,[],Y2,kP E,none) ⟨Z,Ext.refl Y2,⟨[],Rws.nil,by rw [List.nil_append,kg,hk0]⟩,λp hp=>hp⟩ ?_
 rintro ⟨w,rows,Zq,left,last⟩ ⟨hw,hE3,hmid,hsub⟩
 simp only at hw hE3 hmid hsub
 dsimp only
 refine cQ<|DW Z slq (ltn Z) (λhl0=>?_)<|λk v1 left' hp=>?_
 .subst hl0
  obtain ⟨ds,hr0,hds⟩:=hmid
  rw [List.map_nil,List.append_nil] at hds
  have hfin:(((ds.filter λn=>(feat c n).isNone).map λn=>joined<|under cs n)++c.feats.map λf=>jB c f<|under cs f.name).Perm (uw cs c):=((hds.filter _).map _).append_right _
  generalize ((ds.filter λn=>(feat c n).isNone).map λn=>joined<|under cs n)=ms0 at hr0 hfin
  have hnfin:=(hfin.map λm=>m.name).nodup_iff.2 hraw
  have hlen0:ms0.length+c.feats.length<=cs.length+c.feats.length:=by
   have:=hfin.length_eq
   simp only [List.length_append,List.length_map] at this
   have h8:(uw cs c).length<=cs.length+c.feats.length:=by
    unfold uw
    rw [List.length_append,List.length_map,List.length_map]
    have:=List.length_filter_le (λn=>(feat c n).isNone)<|keys cs
    omega
   omega
  have hlenF:=hfin.length_eq
  rw [List.length_append,List.length_map] at hlenF
  refine sV (ah Z Z)<|sK [3,5,6,17,19] Z<|cS<|aG Z ?_
  refine aB<|xE<|xE<|xY<|xT<|cS<|cS<|HV slq ?_
  refine cR<|sV (vF Z kW Z)<|sV (vY Z yK) ?_
  refine sV (aC Z underlying41)<|sM Z<|sK [3,5,6,38,39,40] Z<|cB<|aY (σ := Value×List (List Value)×Res×Nat) (λq=>[(3,.pointer (some ⟨b3,0,none⟩)),(5,.map (some bm)),(6,q.1),(38,.slice cf c.feats.length cfk),(39,.int .i64 c.feats.length),(40,.int .i64 (q.2.2.2:Nat))]) (λq=>mps bm (kP E)::VR q.1 75 14 q.2.1::pt b3 (cl [sv c.name,.bool c.dfd,ca,cb,ce,.slice cf c.feats.length cfk,ci] 44)::q.2.2.1::mps mb m::hr) (λq=>q.1.oneCell'=true/\Ext Y2 q.2.2.1/\Rws q.2.2.1 q.2.1 (ms0++(c.feats.take q.2.2.2).map λf=>jB c f<|under cs f.name)/\q.2.2.2<=c.feats.length) (λq=>c.feats.length - q.2.2.2) (w,rows,Zq,0) ⟨hw,hE3,by simpa using hr0,Nat.zero_le _⟩ ?_
  rintro ⟨w,rows,Zq,i⟩ ⟨hw,hE3,hro,hi⟩
  simp only at hw hE3 hro hi
  dsimp only
  refine cQ<|sV (aO Z Z)<|sN<|nT<|cS<|cC Z (λhd=>?_)<|λhd=>?_
  .have hlt:i<c.feats.length:=Zx
   have hrl:rows.length=ms0.length+i:=by rw [hro.1]; simp; omega
   have htk:=cz hlt
   obtain ⟨fb,fo,fcap,fus,e1,hfus,hfrd,hfr⟩:=((hcf.up<|hE.trans hE2).up hE3).at<|Zy hlt
   obtain ⟨rfl,rfl⟩:cf=some ⟨fb,fo,none⟩/\cfk=fcap:=by cases e1; exact ⟨rfl,rfl⟩
   generalize c.feats[i]=f at hfr htk
   have hfr0:=hfr
   obtain ⟨x2,x3,fy,x9,x10,x11,x12,x13,x14,rfl,-⟩:=oz hfr
   have hfo:=Enc.ones hfr0
   have how:=own_ct (Enc.up ((hE.trans hE2).trans hE3).rd hc0) hfr0 ((hlk f.name).up hE3) (by have:=hSu f.name; unfold oq; omega) (by have:=hPu f.name; omega) (by have:=hQu f.name; omega)
   unfold CtX at how
   generalize hJ:jB c f (under cs f.name)=J at how
   unfold Be at *
   refine cK<|xT<|cS<|cB<|cQ<|sV (vI (k:=i) Z Z sl41 Z hlt Z)<|sV (af Z oQ Z hfrd) ?_
   refine au mg λb12=>?_
   refine ai Z Z kE Z hfo ?_
   refine sK [3,5,6,12,38,39,40] Z<|cR<|sM Z<|sV (af Z gU Z ag) ?_
   refine sV (af Z oQ Z ag) ?_
   refine sM Z<|sV (vF Z p9 Z)<|sV (vY Z ld9) ?_
   refine sV (bP Z Z tH ug slq) ?_
   refine aH Z Z en123 Z (how) ?_
   rintro u h' ⟨Z2,k2,rfl,hE4,rfl,us,rfl,hrep⟩
   simp only [lC,lN]
   have hone:=Enc.ones hrep
   obtain ⟨j2,j5,jy,j11,j12,j13,rfl,-⟩:=dN hrep
   unfold iC at *
   refine ak (cells:=[sv J.name,.int .i64 J.kind,j2,sv J.impl.cls,sv J.impl.name,j5,.int .i64 J.ty.kind,sv J.ty.name,jy,.bool J.ty.void,.bool J.ty.sep,j11,j12,j13]) Z underlying52 vG Z Z Zz (ltn Z) λb52=>?_
   refine eG [[sv J.name,.int .i64 J.kind,j2,sv J.impl.cls,sv J.impl.name,j5,.int .i64 J.ty.kind,sv J.ty.name,jy,.bool J.ty.void,.bool J.ty.sep,j11,j12,j13]] Z Z underlying52 vG Z (by decide) (show Sel _ (VR w 75 14 rows) _ from slq) (by simp) Z (λj u2 hu2=>bV<|bZ Zt) (by simpa using hone) (by omega) (by omega) (ltn Z) λw2 hw2 _=>?_
   refine sA Z<|sN<|nK [3,5,6,38,39,40] Z<|ax<|xB<|xT<|cR<|sV (aI Z Z Z0)<|sM Z<|sN<|nK [3,5,6,38,39,40] Z<|ax ?_
   refine aL (w2,rows++[[sv J.name,.int .i64 J.kind,j2,sv J.impl.cls,sv J.impl.name,j5,.int .i64 J.ty.kind,sv J.ty.name,jy,.bool J.ty.void,.bool J.ty.sep,j11,j12,j13]],Z2,i+1) ⟨hw2,hE3.trans hE4,by rw [htk,List.map_append,<- List.append_assoc]; exact (hro.up hE4).snoc (show Enc.rep Z2 _ (jB c f<|under cs f.name) from by rw [hJ]; exact hrep),hlt⟩ (by dsimp only; omega)
  .have hie:i=c.feats.length:=by
    have:¬ i<c.feats.length:=Zx
    omega
   subst hie
   rw [List.take_length] at hro
   have hsl:(ms0++c.feats.map λf=>jB c f<|under cs f.name).length<=1099511627776:=by rw [List.length_append,List.length_map]; omega
   refine aB<|xE<|xE<|xY<|xT<|cQ<|sM Z<|aH Z Z en124 Z (JA hro hnfin hsl) ?_
   rintro u h' ⟨rfl,rows',hr',hrl',rfl⟩
   simp only [lC,lN]
   rw [JB hfin hraw] at hr'
   have hml2:(rW<|uw cs c).length * 232<=reachBytes:=by
    have h1:(rW<|uw cs c).length=rows'.length:=hr'.1.symm
    have h2:=hro.1
    rw [List.length_append,List.length_map] at h2
    omega
   refine sK [6] Z<|cQ<|sM Z<|sA Z<|sK [4] Z<|cT (eF (r:=VR w 75 14 rows') slq λhok=>?_)
   refine iP [VR w 75 14 rows'] Zq λY3 hE5 hsel3=>?_
   exact aj Z ⟨Y3,[mps mb m],Z,((hE.trans hE2).trans hE3).trans hE5,Z,Rws.ls (E:=75) (hr'.up hE5) hok (hsel3 _ _ .here) hml2⟩ sbq
 .refine sV (ah Z Z)<|sK [3,5,6,17,19] Z<|cS<|aQ Z ?_
  refine cK<|xT<|cB<|cQ<|sV (DX Z slq) ?_
  have hkv:(k,v1)∈kP E:=hsub _<|hp.mem_iff.2<|by simp
  have hsub':∀ p∈left',p∈kP E:=λp hp'=>hsub p<|hp.mem_iff.2<|by simp [hp']
  have hv1:Ls Zq v1 (under cs k):=by
   obtain ⟨e,he,hev⟩:=List.mem_map.1 hkv
   cases hev
   exact (hls e he).up hE3
  have hkk:k∈keys cs:=by rw [<- hk0,<- kg]; exact List.mem_map.2 ⟨_,hkv,rfl⟩
  have hne:under cs k≠[]:=by
   obtain ⟨x,hx,hxn⟩:=kK.1 hkk
   exact List.ne_nil_of_mem<|List.mem_filter.2 ⟨hx,by simpa using hxn⟩
  have hrl:=hmid.len
  have hstep:∀ (Z2:Res) (us:List Value),Ext Zq Z2->Enc.rep Z2 us (joined<|under cs k)->feat c k=none->Mid1 Z2 (rows++[us]) cs c left':=λZ2 us he hr hfn=>by
   obtain ⟨ds,g1,g2⟩:=hmid
   have e1:[k].filter (λn=>(feat c n).isNone)=[k]:=by simp [hfn]
   refine ⟨ds++[k],by rw [List.filter_append,List.map_append,e1]; exact (g1.up he).snoc hr,?_⟩
   rw [List.append_assoc]
   exact ((hp.map λp=>p.1).append_left ds).symm.trans g2
  have hskip:(feat c k).isSome=true->Mid1 Zq rows cs c left':=λhfn=>by
   obtain ⟨ds,g1,g2⟩:=hmid
   refine ⟨ds++[k],?_,?_⟩
   .have:(feat c k).isNone=false:=by cases hq:feat c k <;> simp [hq] at hfn ⊢
    have e1:[k].filter (λn=>(feat c n).isNone)=[]:=by simp [this]
    rw [List.filter_append,List.map_append,e1]
    simpa using g1
   .rw [List.append_assoc]
    exact ((hp.map λp=>p.1).append_left ds).symm.trans g2
  refine sV (ah Z Z)<|sV (ah Z Z)<|sA Z<|sA Z<|sK [3,5,6,7,8,17] Z<|cQ<|sV (vF Z kW Z)<|sV (vY Z yK) ?_
  refine sM Z<|aH Z Z yg Z (je (n:=k)<|(hcf.up<|hE.trans hE2).up hE3) ?_
  rintro u h' ⟨rfl,fus,rfl,hfr⟩
  simp only [lC,lN]
  have hf15:fus.length=15:=Enc.len hfr
  have hfo:=Enc.ones hfr
  have hfeat:(c.feats.find? λf=>f.name == k)=feat c k:=rfl
  rw [hfeat]
  refine sM Z<|sV (ah Z Z)<|sV (ah Z Z) (au mg λb9=>?_)
  refine ai (hl:=by rw [hf15]; rfl) Z Z kE hf15 hfo ?_
  refine sA Z<|sK [3,5,6,8,10,17] Z<|cQ<|sM Z<|sV (bg Z)<|sK [3,5,6,8,17,31] Z<|cC Z (λhnf=>?_)<|λhnf=>?_
  .have hfn:feat c k=none:=by cases hq:feat c k <;> simp [hq] at hnf ⊢
   have hj:=DV hv1 hne (by have:=hSu k; unfold oq; omega) (by have:=hPu k; omega) (by have:=hQu k; omega)
   unfold CtX at hj
   generalize hJ:joined (under cs k)=J at hj
   refine cR<|sM Z<|sM Z<|aH Z Z en122 Z (hj) ?_
   rintro u h' ⟨Z2,k2,rfl,hE4,rfl,us,rfl,hrep⟩
   simp only [lC,lN]
   have hst:=hstep Z2 us hE4 (by rw [hJ]; exact hrep) hfn
   have hone:=Enc.ones hrep
   obtain ⟨j2,j5,jy,j11,j12,j13,rfl,-⟩:=dN hrep
   unfold iC at *
   refine ak (cells:=[sv J.name,.int .i64 J.kind,j2,sv J.impl.cls,sv J.impl.name,j5,.int .i64 J.ty.kind,sv J.ty.name,jy,.bool J.ty.void,.bool J.ty.sep,j11,j12,j13]) Z underlying52 vG Z Z Zz (ltn Z) λb35=>?_
   refine eG [[sv J.name,.int .i64 J.kind,j2,sv J.impl.cls,sv J.impl.name,j5,.int .i64 J.ty.kind,sv J.ty.name,jy,.bool J.ty.void,.bool J.ty.sep,j11,j12,j13]] Z Z underlying52 vG Z (by decide) (show Sel _ (VR w 75 14 rows) _ from slq) (by simp) Z (λj u2 hu2=>bV<|bZ Zt) (by simpa using hone) (by omega) (by omega) (ltn Z) λw2 hw2 _=>?_
   refine sA Z<|sN<|nK [3,5,6,17] Z<|ax<|xB ?_
   refine aL (w2,rows++[[sv J.name,.int .i64 J.kind,j2,sv J.impl.cls,sv J.impl.name,j5,.int .i64 J.ty.kind,sv J.ty.name,jy,.bool J.ty.void,.bool J.ty.sep,j11,j12,j13]],Z2,left',some (k,v1)) ⟨hw2,hE3.trans hE4,hst,hsub'⟩ (by dsimp only; rw [hp.length_eq,List.length_cons]; omega)
  .have hfn:(feat c k).isSome=true:=by cases hq:feat c k <;> simp [hq] at hnf ⊢
   refine cK<|xB ?_
   refine aL (w,rows,Zq,left',some (k,v1)) ⟨hw,hE3,hskip hfn,hsub'⟩ (by dsimp only; rw [hp.length_eq,List.length_cons]; omega)
end
end Go.Fl
namespace Go.Fl
open Go Go.RowKit Go.Ck Go.Proofs Go.Proofs.Tryz Go.Proofs.YtknmacdbffgjgaaGreatDoor Fx Go.Hr
theorem La {S:Res} {α β : Type} {sz:Nat} {X:List Value -> α -> Prop} {Y:List Value -> β -> Prop} {g : α -> β} {v:Value} {l:List α} (h:Row S sz X v l) (hx:∀ us x,X us x->Y us (g x)):Row S sz Y v (l.map g):=by
 obtain ⟨a,cap,h1,h2,h3,h4,h5⟩:=h
 refine ⟨a,cap,by rw [h1,List.length_map],by rw [List.length_map]; exact h2,h3,h4,λi y hi=>?_⟩
 rw [List.getElem?_map] at hi
 obtain ⟨x,hx1,rfl⟩:=Option.map_eq_some_iff.1 hi
 obtain ⟨b,o,us,g1,g2,g3,g4⟩:=h5 i x hx1
 exact ⟨b,o,us,g1,g2,g3,hx _ _ g4⟩
theorem wY {X:Res} {v:Value} {l:FS} (h:Ls X v l):mQ X v (aZ l):=La h.1 λus c hc=>by
 have ho:=Enc.ones hc
 obtain ⟨a,b,e,f,i,rfl,h1,h2,h3,h4,h5⟩:=hc
 obtain ⟨fa,fc,rfl,_⟩:=id h4.form
 exact ⟨.bool c.dfd,a,b,e,fa,fc,i,Z,ho,La h2.1 λus p hp=>by
  have ho:=Enc.ones hp
  obtain ⟨x1,x2,x3,x4,x5,rfl,_⟩:=hp
  exact ⟨x1,x2,x3,x4,x5,Z,ho⟩⟩
attribute [local irreducible] Go.Ck.Sub St Cd Xt Nx DrL LsW
section
variable {X Y:Res} {v v':Value} {us us':List Value}
def Fv (l:FS) (a:Nm):Option Grp:=if (ae l a).inv=[] then none else some ⟨a,(ae l a).inv⟩

theorem Lb {l : FS} {c : FC} {ms : List Mb} {fv mv : Value} {uc : List Value} (hl : Ls X v l) (hc : Enc.rep X uc c) (hm : Ls X mv ms) (hfv : fv.oneCell' = true) (hR : dW (aZ l) [c.name] = 0) (hb : (above (aZ l) c.name).length <= 1099511627776) :
  CtX prog 60 #[.agg #[v,fv],.agg uc.toArray,mv] X [] λu Y k'=>k'=[]/\∃ us',u = .agg us'.toArray/\Enc.rep Y us' (flatOf l c ms):=by
 have hml:maxLen=9223372036854775807:=rfl
 have hrb:reachBytes=140737488351232:=rfl
 have hab:=Gu (wY hl) c.name
 rw [hR] at hab
 rw [show okL 0 (above (aZ l) c.name)=above (aZ l) c.name from rfl] at hab
 have hfo:flatOf l c ms={ name:=c.name,dfd:=c.dfd,mems:=ms,inv:=(above (aZ l) c.name).filterMap (Fv l) }:=rfl
 rw [hfo]
 generalize above (aZ l) c.name=xs at hab hb ⊢
 obtain ⟨ca,cb,ce,cf,ci,rfl,hca,hcb,hce,hcf,hci⟩:=gB hc
 obtain ⟨ma,mk,rfl,_⟩:=id hm.form
 unfold CtX
 refine aJ (n:=50) func60 Z Z (len Z) λhr w0=>?_
 refine cQ (aV Z Z λb3=>?_)
 refine aV Z Z λb4=>?_
 refine au al55 λb6=>?_
 refine sK [2,3,4,6] Z<|cQ<|sV (vF Z dR Z)<|sV (vY Z ld9) ?_
 refine sV (vF Z NJ Z)<|sV (vY Z ld4) ?_
 refine sM Z<|sV (aP (cells:=[sv c.name,.bool c.dfd,.slice ma ms.length mk,.slice none 0 0]) Z<|λ_=>Zz) ?_
 refine au al55 λb7=>?_
 refine ai Z Z Ey Z Z ?_
 refine sK [3,4,6,7] Z<|cQ<|sV (vF Z Kz Z)<|sV (vY Z ld22) ?_
 refine sV (vF Z dR Z)<|sV (vY Z ld9) ?_
 refine aH Z Z en41 Z (hab) ?_
 rintro u h' ⟨T,rfl,w,rfl,hw,rfl⟩
 simp only [lC,lN]
 refine sM Z<|sV (ah Z Z)<|sV (ah Z Z)<|sA Z<|sA Z<|sK [3,6,7,8] Z<|cS<|cS ?_
 unfold NR
 refine fO (v:=w) (E:=9) (sz:=1) (rows:=xs.map nC) slq λwa wc hwf hwl hwm=>?_
 rw [List.length_map] at hwf hwl
 subst hwf
 refine dY (dn 170 2)<|cR<|sM Z<|sV (aC Z underlying40)<|sM Z<|sK [3,6,7,27,28,29] Z<|cB<|aY (σ := Value×List (List Value)×Nat) (λq=>[(3,.pointer (some ⟨b3,0,none⟩)),(6,.pointer (some ⟨b6,0,none⟩)),(7,.pointer (some ⟨b7,0,none⟩)),(27,.slice wa xs.length wc),(28,.int .i64 xs.length),(29,.int .i64 (q.2.2:Nat))]) (λq=>pt b7 (cl [sv c.name,.bool c.dfd,.slice ma ms.length mk,q.1] 55)::VR q.1 170 2 q.2.1::VR (.slice wa xs.length wc) 9 1 (xs.map nC)::pt b6 (cl [.string ⟨#[]⟩,.bool false,.slice none 0 0,.slice none 0 0] 55)::pt b3 (cl [v,fv] 114)::X::hr) (λq=>q.2.2<=xs.length/\q.1.oneCell'=true/\Rws X q.2.1 ((xs.take q.2.2).filterMap<|Fv l)) (λq=>xs.length - q.2.2) (.slice none 0 0,[],0) ⟨Nat.zero_le _,Z,Rws.nil⟩ ?_
 rintro ⟨iw,rows,i⟩ ⟨hi,hiw,hro⟩
 simp only at hi hiw hro
 dsimp only
 refine cQ<|sV (aO Z Z)<|sN<|nT<|cS<|cC Z (λhd=>?_)<|λhd=>?_
 .have hlt:i<xs.length:=Zx
  have htk:=cz hlt
  have hrl:rows.length<=i:=by
   rw [hro.1]
   have:=List.length_filterMap_le (Fv l)<|xs.take i
   rw [List.length_take] at this
   omega
  have hnx:(xs.map nC)[i]? = some [sv xs[i]]:=by rw [List.getElem?_map,Zy hlt]; rfl
  refine fD (r:=VR (.slice wa xs.length wc) 9 1<|xs.map nC) slq λhok=>?_
  obtain ⟨ab,ao,rfl⟩:∃ ab ao,wa=some ⟨ab,ao,none⟩:=by
   obtain ⟨f0,hf0⟩:=hok
   rcases VR.form hf0 with ⟨h3,h4⟩ | ⟨b,o,cp,h3,-⟩
   .have:=List.map_eq_nil_iff.1 h4
    subst this; simp at hlt
   .rw [List.length_map] at h3; cases h3; exact ⟨b,o,rfl⟩
  generalize hxi:xs[i]=x at hnx htk
  have hcc:=mG (n:=x) (fv:=fv) hl hfv
  refine cK<|xT<|cS<|cB<|cQ<|sV (vI (k:=i) Z Z jG Z hlt Z)<|sV (vY Z ld9 (ha:=⟨_,_,slq,dU hnx 0<|by simp⟩)) ?_
  refine sA Z<|sK [3,6,7,11,27,28,29] Z<|cQ<|sV (af Z ig Z ag) ?_
  refine sM Z<|aH Z Z en56 Z (hcc) ?_
  rintro u h' ⟨rfl,cus,rfl,hcr⟩
  simp only [lC,lN]
  obtain ⟨fa,fb,fc,fd,fe,rfl,-,-,-,-,hfi⟩:=gB hcr
  obtain ⟨fA,fK,rfl,_⟩:=id hfi.form
  refine sV (iU (k:=6) Z underlying44 Z isAgg42 Z)<|sA Z<|sK [3,6,7,11,12,27,28,29] Z<|cQ<|sM Z<|sV (aC Z underlying42)<|sV (dh Z Z)<|sK [3,6,7,11,12,27,28,29,39] Z<|cC Z (λhpos=>?_)<|λhpos=>?_
  .have hne:¬ (ae l x).inv=[]:=λe=>by rw [e] at hpos; simp at hpos
   have hinv:Fv l x=some ⟨x,(ae l x).inv⟩:=by unfold Fv; rw [if_neg hne]
   refine cR<|sV (vF Z EC Z)<|sV (vY Z oO) ?_
   refine sM Z<|sM Z<|sV (aP (cells:=[sv x,.slice fA (ae l x).inv.length fK]) Z<|λ_=>Zz) ?_
   refine ak (cells:=[sv x,.slice fA (ae l x).inv.length fK]) Z underlying53 nO Z Z Zz (ltn Z) λb45=>?_
   refine eG [[sv x,.slice fA (ae l x).inv.length fK]] Z Z underlying53 nO Z (by decide) (show Sel _ (VR iw 170 2 rows) _ from slq) (by simp) Z (λj u2 hu2=>bV<|bZ Zt) (by simp [sv,Value.oneCell']) (by omega) (by omega) (ltn Z) λw2 hw2 _=>?_
   refine sV (vF Z EC Z)<|bi Z Z nN ?_
   refine sN<|nK [3,6,7,27,28,29] Z<|ax<|xB<|xT<|cR<|sV (aI Z Z Z0)<|sM Z<|sN<|nK [3,6,7,27,28,29] Z<|ax ?_
   refine aL (w2,rows++[[sv x,.slice fA (ae l x).inv.length fK]],i+1) ⟨hlt,hw2,by rw [htk,List.filterMap_append]; simp only [List.filterMap_cons,hinv,List.filterMap_nil]; exact hro.snoc ⟨_,Z,hfi⟩⟩ (by dsimp only; omega)
  .have hne:(ae l x).inv=[]:=by simpa using hpos
   have hinv:Fv l x=none:=by unfold Fv; rw [if_pos hne]
   refine cK<|xB<|xT<|cR<|sV (aI Z Z Z0)<|sM Z<|sN<|nK [3,6,7,27,28,29] Z<|ax ?_
   refine aL (iw,rows,i+1) ⟨hlt,hiw,by rw [htk,List.filterMap_append]; simp only [List.filterMap_cons,hinv,List.filterMap_nil,List.append_nil]; exact hro⟩ (by dsimp only; omega)
 .have hie:i=xs.length:=by
   have:¬ i<xs.length:=Zx
   omega
  subst hie
  rw [List.take_length] at hro
  refine aB<|xE<|xE<|xY<|xT<|cQ<|sV (af Z ld55 Z ag) ?_
  have hone2:([sv c.name,.bool c.dfd,.slice ma ms.length mk,iw]:List Value).all Value.oneCell'=true:=by simp only [List.all_cons,List.all_nil,hiw,Bool.and_true,Bool.true_and]; rfl
  refine ai Z Z Ey Z hone2 ?_
  refine sK [6] Z<|cT ?_
  have hil:(xs.filterMap<|Fv l).length * 40<=reachBytes:=by
   have:=List.length_filterMap_le (Fv l) xs
   omega
  refine eF (r:=VR iw 170 2 rows) slq λhok=>?_
  refine iP [VR iw 170 2 rows] X λY2 hE2 hsel=>?_
  exact bM (.cellN Z ld55 Z slq .nil) ⟨Y2,[],Z,hE2,Z,_,Z,_,_,Z,hm.up hE2,Rws.ls (E:=170) (hro.up hE2) hok (hsel _ _ .here) hil⟩ sbr
end
end Go.Fl
namespace Go.Fl
open Go Go.RowKit Go.Ck Go.Proofs Go.Proofs.Tryz Go.Proofs.YtknmacdbffgjgaaGreatDoor Fx Go.Hr
theorem H6 {c:Cx} {ex:Exit} {Q:Exit->Act->World->Prop} {e:Env} {h h':SH} {mb ib:Nat} {m left:List (Bs×Value)} {last:Option (Bs×Value)} (s:Sel h (xz mb ib m left last) h') (hx:Xt c ex Q e (mps mb m::h')):Xt c ex Q e h:=λa w hk hh hw=>by
 have hh':=hh.sel s
 obtain ⟨_,es,ck,seen,g1,g2,hB,_⟩:=hh'.1
 exact hx a w hk ⟨⟨es,ck,g1,g2,hB⟩,λb hb=>hh'.2.1 b (.inl hb),hh'.2.2⟩ hw
attribute [local irreducible] Go.Ck.Sub St Cd Xt Nx DrL LsW
section
variable {X Y:Res} {v v':Value} {us us':List Value}
theorem Mw {σ : Type} {b1 bm yl : Nat} {m : List (Nm × Value)} (Inv : σ -> SH) (Φ : List Nm -> σ -> Prop) (s0 : σ) (h0 : Φ [] s0) (hy : ∀ (ds : List Nm) (k : Nm) (s : σ), ds.length < m.length -> Φ ds s -> Yc prog yl #[sv k] (Inv s) λu h' => u = .bool true /\ ∃ s', Φ (ds ++ [k]) s' /\ h' = Inv s') :
  Ct prog 266 #[.func (.yield yl) #[] #[],.pointer (some ⟨b1,0,none⟩)] (pt b1 (cl [.map (some bm)] 188)::mps bm m::Inv s0) λu h'=>u = .tuple #[]/\∃ ds s,ds.Perm (m.map λp=>p.1) /\ Φ ds s/\h'=pt b1 (cl [.map (some bm)] 188)::mps bm m::Inv s:=by
 refine aJ (n:=14) func266 Z Z (len Z) λhr w0=>?_
 refine cQ<|sV (vY Z rJ) ?_
 refine Bh Z tH slq (ltn Z) λib hnd=>?_
 refine sK [0,5] Z<|cB<|aY (σ := List Nm×List (Nm×Value)×Option (Nm×Value) × σ) (λq=>[(0,.func (.yield yl) #[] #[]),(5,.pointer (some ⟨ib,0,none⟩))]) (λq=>xz bm ib m q.2.1 q.2.2.1::pt b1 (cl [.map (some bm)] 188)::(Inv q.2.2.2++hr)) (λq=>(q.1++q.2.1.map λp=>p.1).Perm (m.map λp=>p.1) /\ Φ q.1 q.2.2.2) (λq=>q.2.1.length) ([],m,none,s0) ⟨by simp,h0⟩ ?_
 rintro ⟨ds,left,last,s⟩ ⟨hds,hΦ⟩
 simp only at hds hΦ
 dsimp only
 refine cQ<|DW Z slq (ltn Z) (λhl0=>?_)<|λk v1 left' hp=>?_
 .subst hl0
  rw [List.map_nil,List.append_nil] at hds
  refine sV (ah Z Z)<|sK [0,5,7] Z<|cS<|aG Z ?_
  refine aB<|xE<|xE<|xY<|H6 slq ?_
  refine Dj (k:=pt b1 (cl [.map (some bm)] 188)::mps bm m::(Inv s++hr)) (.swap _ _ _) ?_
  exact xV Z ⟨Z,ds,s,hds,hΦ,Z⟩ sbq
 .refine sV (ah Z Z)<|sK [0,5,7] Z<|cS<|aQ Z ?_
  refine cK<|xT<|cB<|cQ<|sV (DX Z slq) ?_
  have hlen:ds.length<m.length:=by
   have h1:=hds.length_eq
   have h2:=hp.length_eq
   simp only [List.length_append,List.length_map,List.length_cons] at h1 h2
   omega
  have hyy:=hy ds k s hlen hΦ
  refine sV (ah Z Z)<|sA Z<|sK [0,3,5] Z<|cQ<|sM Z<|sM Z<|ve (gd:=0) (.inl Z) Z Z hyy (Pk.of (hr:=xz bm ib m left' (some (k,v1))::pt b1 (cl [.map (some bm)] 188)::hr)<|by exact List.perm_append_comm_assoc [xz bm ib m left' (some (k,v1)),pt b1 (cl [.map (some bm)] 188)] (Inv s) hr) (ltn Z) ?_
  rintro u h' ⟨rfl,s2,hΦ2,rfl⟩
  refine sV (bg Z)<|sK [0,5,13] Z<|aG Z ?_
  refine cK<|xB<|Dj (k:=xz bm ib m left' (some (k,v1))::pt b1 (cl [.map (some bm)] 188)::(Inv s2++hr)) (by exact List.perm_append_comm_assoc (Inv s2) [xz bm ib m left' (some (k,v1)),pt b1 (cl [.map (some bm)] 188)] hr) ?_
  refine aL (ds++[k],left',some (k,v1),s2) ⟨by rw [List.append_assoc]; exact ((hp.map λp=>p.1).append_left ds).symm.trans hds,hΦ2⟩ (by dsimp only; rw [hp.length_eq,List.length_cons]; omega)
theorem en266:Ck.Enters prog 266:=enters_of func266 Zz rfl
theorem Mx {b1 bm:Nat} {m:List (Nm×Value)} (hb:m.length * 16<=1099511627776):Ct prog 294 #[.slice none 0 0,.func (.func 266) #[] #[.pointer (some ⟨b1,0,none⟩)]] [pt b1 (cl [.map (some bm)] 188),mps bm m] λu h'=>∃ ds,ds.Perm (m.map λp=>p.1)/\u.oneCell'=true/\h'=[NR u ds,pt b1 (cl [.map (some bm)] 188),mps bm m]:=by
 have hml:maxLen=9223372036854775807:=rfl
 refine rC (n:=13) func294 Z Z (len Z) λhr w0=>?_
 refine cQ (aV Z Z λb2=>?_)
 refine sA Z<|sK [1,2,4] Z<|cS<|cQ<|sM Z<|sK [2,4,6] Z<|cB<|dY (dn 9 1) (ji Z en266 λyl db rec hst hpe hps hasg hbo hkn2=>?_)
 refine ⟨_,Ct.perm (Mw (σ := Value×List Nm) (b1:=b1) (bm:=bm) (yl:=yl) (m:=m) (λq=>pt yl (.loop rec)::pt db (.deferred<|some [])::pt b2 (cl [q.1] 40)::NR q.1 q.2::hr) (λds q=>q.2=ds/\q.1.oneCell'=true) (.slice none 0 0,[]) ⟨Z,Z⟩ ?_) ?_,?_⟩
 .rintro ds k ⟨w,xs⟩ hlt ⟨rfl,hw⟩
  dsimp only at hlt hw ⊢
  unfold NR
  refine Yc.perm (rz (n:=13) (rec:=rec) (args:=[sv k]) (hf:=pt db (.deferred<|some [])::pt b2 (cl [w] 40)::VR w 9 1 (xs.map nC)::hr) (by rw [hps]; rfl) hkn2 (by rw [hps]; decide) ?_) (by exact (by repeat (first | exact Pm.refl | refine Pm.cons slq ?_):Pm _ _).perm)
  intro hr2 w1
  rw [hasg,hps,hbo]
  simp only [lC,lN]
  refine cR<|sA Z<|sN<|nK [2,4,5] Z<|ax<|lW Z slq (by first | rfl | assumption) ?_
  refine cB<|cR<|sV (vY Z gq) ?_
  refine sM Z (ak (cells:=[sv k]) Z underlying40 gp Z Z Zz (ltn Z) λb10=>?_)
  refine eG [[sv k]] Z Z underlying40 gp Z (by decide) (show Sel _ (VR w 9 1<|xs.map nC) _ from slq) (by simp) Z (λj u2 hu2=>bV<|bZ Zt) (by simp [sv,Value.oneCell']) (by rw [List.length_map]; omega) (by rw [List.length_map]; omega) (ltn Z) λw2 hw2 _=>?_
  rw [show xs.map nC++[[sv k]]=(xs++[k]).map nC by simp [nC]]
  refine bi Z Z yI ?_
  refine sN<|nK [4] Z<|ax<|xB<|dI slq ⟨Z,(w2,xs++[k]),⟨Z,hw2⟩,Z⟩ ?_
  rw [dJ hst hpe]
  exact sbq
 .simp only [lC,lN]
  exact (by repeat (first | exact Pm.refl | refine Pm.cons slq ?_):Pm _ _).perm
 .rintro u h' ⟨rfl,ds,⟨w,xs⟩,hds,⟨rfl,hw⟩,rfl⟩
  dsimp only at hw ⊢
  refine ⟨rec,_,slq,(by rw [hst]; simp),?_⟩
  rw [hpe]
  dsimp only
  refine xB<|xT<|cQ<|sV (vY Z gq) ?_
  refine sA Z<|sK [4] Z<|cT ?_
  exact kv (bs:=[db]) Z Z ⟨xs,hds,hw,Z⟩ sbq
theorem uL {bm:Nat}:Ct prog 213 #[.map (some bm)] [] λu h'=>∃ b1,u = .func (.func 266) #[] #[.pointer (some ⟨b1,0,none⟩)]/\h'=[pt b1 (cl [.map (some bm)] 188)]:=by
 refine aJ (n:=4) func213 Z Z (len Z) λhr w0=>?_
 refine cQ (aV Z Z λb1=>?_)
 refine sA Z<|sK [1,2] Z<|cQ<|sV (bX Z Z)<|sA Z<|sK [2] Z<|cT ?_
 exact aj Z ⟨_,Z,Z⟩ sbq
theorem Ci {b1 bm:Nat} {m:List (Nm×Value)} (hb:m.length * 16<=1099511627776):Ct prog 264 #[.func (.func 266) #[] #[.pointer (some ⟨b1,0,none⟩)]] [pt b1 (cl [.map (some bm)] 188),mps bm m] λu h'=>∃ ds,ds.Perm (m.map λp=>p.1)/\u.oneCell'=true/\h'=[NR u ds,pt b1 (cl [.map (some bm)] 188),mps bm m]:=by
 refine aJ (n:=5) func264 Z Z (len Z) λhr w0=>?_
 refine cQ<|sA Z<|sN<|nT<|cQ<|sM Z<|aH Z Z en294 Z (Mx hb) ?_
 rintro u h' ⟨ds,hds,hu,rfl⟩
 simp only [lC,lN]
 refine sA Z<|sK [2] Z<|cT ?_
 exact aj Z ⟨ds,hds,hu,Z⟩ sbq
theorem qB {b1 bm:Nat} {m:List (Nm×Value)} (hb:m.length * 16<=1099511627776) (hn:(m.map λp=>p.1).Nodup):Ct prog 212 #[.func (.func 266) #[] #[.pointer (some ⟨b1,0,none⟩)]] [pt b1 (cl [.map (some bm)] 188),mps bm m] λu h'=>u.oneCell'=true/\h'=[NR u (srt (m.map λp=>p.1)),pt b1 (cl [.map (some bm)] 188),mps bm m]:=by
 refine aJ (n:=9) func212 Z Z (len Z) λhr w0=>?_
 refine cQ<|sA Z<|sN<|nT<|cQ<|sM Z<|aH Z Z en264 Z (Ci hb) ?_
 rintro u h' ⟨ds,hds,hu,rfl⟩
 simp only [lC,lN]
 have hnd:=hds.nodup_iff.2 hn
 have hdl:ds.length<=1099511627776:=by rw [hds.length_eq,List.length_map]; omega
 have hsr:srt ds=srt (m.map λp=>p.1):=(iR ds).1.ext (iR _).1 λx=>by rw [(iR ds).2,(iR _).2,hds.mem_iff]
 refine sA Z<|sK [2,3] Z<|cQ<|sM Z<|aH Z Z en265 Z (Sort_ct hnd hdl) ?_
 rintro u2 h' ⟨rfl,rfl⟩
 simp only [lC,lN]
 rw [hsr]
 refine sK [2,3] Z<|cQ<|sM Z<|sA Z<|sK [2] Z<|cT ?_
 exact aj Z ⟨hu,Z⟩ sbq
end
section
variable {X Y:Res} {v v':Value} {us us':List Value}
def fC (v fv:Value) (c:FC) (ca cb ce cf ci:Value) (mv bv:Value) (all:Bool):List Value:=[v,fv,sv c.name,.bool c.dfd,ca,cb,ce,cf,ci,mv,bv,.bool all]
theorem gD {fv:Value} {c:FC} {ca cb ce cf ci mv bv:Value} {all:Bool} (k:Int) (n:Nm) (a b:Og):Ct prog 204 #[.agg (fC v fv c ca cb ce cf ci mv bv all).toArray,.int .i64 k,sv n,.agg #[sv a.par,sv a.name],.agg #[sv b.par,sv b.name]] [] λu h'=>u=cfV ⟨k,c.name,n,[],a,b⟩/\h'=[]:=by
 unfold fC cfV cfC
 refine aJ (n:=19) func204 Z Z (len Z) λhr w0=>?_
 refine cQ (aV Z Z λb5=>?_)
 refine aV Z Z λb8=>?_
 refine aV Z Z λb9=>?_
 refine au EH λb10=>?_
 refine sK [1,2,5,8,9,10] Z<|cQ<|sM Z<|sV (vF Z gY Z)<|sV (vF Z dR Z)<|sV (vY Z ld9) ?_
 refine sM Z<|sV (af Z qW Z ag) ?_
 refine sV (af Z qW Z ag) ?_
 refine sV (aP (cells:=[.int .i64 k,sv c.name,sv n,sv [],sv a.par,sv a.name,sv b.par,sv b.name]) Z<|λ_=>Zz) ?_
 refine ai Z Z wP Z Z ?_
 refine sK [10] Z<|cT ?_
 exact bM (.cellN Z uh Z slq .nil) ⟨Z,Z⟩ sbr
theorem OY {β : Type} (f:Mb->List β) {l:List Mb} {i:Nat} (h:i<l.length):((l.take i).flatMap f).length+(f l[i]).length<=(l.flatMap f).length:=by
 have h1:l=l.take i++l[i]::l.drop (i+1):=by rw [List.getElem_cons_drop,List.take_append_drop]
 have h2:=congrArg (λx=>(x.flatMap f).length) h1
 simp only [List.flatMap_append,List.flatMap_cons,List.length_append] at h2
 omega
theorem yz {ms:List Mb} (hv:Ls X v ms) (hb:(ms.flatMap λm=>m.seeds).length * 32<=1099511627776):Ct prog 219 #[v] [X] λu h'=>u.oneCell'=true/\h'=[VR u 69 2 ((nX (ms.flatMap λm=>m.seeds)).map sdC),X]:=by
 have hml:maxLen=9223372036854775807:=rfl
 obtain ⟨a,cap,rfl,hlc,hcm,_⟩:=id hv.form
 refine aJ (n:=21) func219 Z Z (len Z) λhr w0=>?_
 refine cQ<|sA Z<|sN<|nT<|cQ<|sA Z<|sN<|nT<|cS<|cQ<|sM Z<|sV (aC Z underlying52)<|sM Z ?_
 refine sK [2,3,6,7,8] Z<|cB<|dY (dn 69 2)<|aY (σ := Value×Nat) (λq=>[(3,q.1),(6,.slice a ms.length cap),(7,.int .i64 ms.length),(8,.int .i64 (q.2:Nat))]) (λq=>VR q.1 69 2 (((ms.take q.2).flatMap λm=>m.seeds).map sdC)::X::hr) (λq=>q.2<=ms.length/\q.1.oneCell'=true) (λq=>ms.length - q.2) (.slice none 0 0,0) ⟨Nat.zero_le _,Z⟩ ?_
 rintro ⟨w,i⟩ ⟨hi,hw⟩
 simp only at hi hw
 dsimp only
 refine cQ<|sV (aO Z Z)<|sN<|nT<|cS<|cC Z (λhd=>?_)<|λhd=>?_
 .have hlt:i<ms.length:=Zx
  obtain ⟨b,o,cap2,us,e1,hus,hrd,hre⟩:=hv.at<|Zy hlt
  cases e1
  have hS:=OY (λm=>m.seeds) hlt
  have htk:=cz hlt
  generalize ms[i]=x at hre hS htk
  have hone:=Enc.ones hre
  obtain ⟨x2,x5,xy,x11,x12,x13,rfl,hx2,-⟩:=dN hre
  obtain ⟨ax2,kx2,rfl,_⟩:=id hx2.form
  unfold iC at *
  have hfm:(ms.take (i+1)).flatMap (λm=>m.seeds)=(ms.take i).flatMap (λm=>m.seeds)++x.seeds:=by rw [htk]; simp
  refine cK<|xT<|cS<|cB<|cQ<|sV (vI (k:=i) Z Z oM Z hlt Z)<|sV (af Z fE Z hrd) ?_
  refine au jR λb5=>?_
  refine ai Z Z iH Z hone ?_
  refine sK [3,5,6,7,8] Z<|cR<|sM Z<|sV (vF Z eT Z)<|sV (vY Z pW) ?_
  refine om hx2.1 Z Z underlying67 Dh Z (by decide) (show Sel _ (VR w 69 2<|((ms.take i).flatMap λm=>m.seeds).map sdC) _ from slq) (show Sel _ X _ from slq) (λus x _ hr u hu=>List.all_eq_true.1 (Enc.ones hr) u hu) (by rw [List.length_map]; omega) (by rw [List.length_map]; omega) (ltn Z) λw2 news hw2 hn1 hn2 hn3=>?_
  rw [K7 hn1 hn3,<- List.map_append,<- hfm]
  refine sA Z<|sN<|nK [3,6,7,8] Z<|ax<|xB<|xT<|cR<|sV (aI Z Z Z0)<|sM Z<|sN<|nK [3,6,7,8] Z<|ax ?_
  refine aL (w2,i+1) ⟨hlt,hw2⟩ (by dsimp only; omega)
 .have hie:i=ms.length:=by
   have:¬ i<ms.length:=Zx
   omega
  subst hie
  have hjs:(ms.flatMap λm=>m.seeds).length<=1099511627776:=by omega
  rw [List.take_length]
  refine aB<|xE<|xE<|xY<|xT<|cQ<|sM Z<|aH Z Z en197 Z (A9 hjs) ?_
  rintro u h' ⟨rfl,ys,hperm,hcs,rfl⟩
  simp only [lC,lN]
  refine sK [3] Z<|cQ<|sM Z<|aH Z Z en199 Z (Ba (xs:=ys)) ?_
  rintro u h' ⟨hu,rfl⟩
  simp only [lC,lN]
  rw [hcs]
  refine sA Z<|sK [2] Z<|cT ?_
  exact aj Z ⟨hu,Z⟩ sbq
end
end Go.Fl
namespace Go.Fl
open Go Go.RowKit Go.Ck Go.Proofs Go.Proofs.Tryz Go.Proofs.YtknmacdbffgjgaaGreatDoor Fx Go.Hr
theorem H7 {o:Option Nat}:(ixI o == -1)=o.isNone:=by
 cases o with
 | none=>rfl
 | some i=>rfl
attribute [local irreducible] Go.Ck.Sub St Cd Xt Nx DrL LsW
section
variable {X Y:Res} {v v':Value} {us us':List Value}
theorem MB {v : Value} {rows : List (List Value)} {xs : List Cm} {kf : FuncId} {cp : Array Value} {g : Cm -> Bool} (hro : Rws X rows xs) (hb : xs.length * 280 <= 1099511627776) (hE : Ck.Enters prog kf) (hf : ∀ R : Res, (∀ p u, Rd X p u -> Rd R p u) -> ∀ a ∈ xs, ∀ us, Enc.rep R us a -> Reads prog kf (#[] ++ ([.agg us.toArray] : List Value).toArray ++ cp) [R] (.bool (g a))) :
  Ct prog 261 #[v,.func (.func kf) #[] cp] [VR v 191 18 rows,X] λu h'=>∃ rows',u.oneCell'=true/\Rws X rows' (xs.filter λx => !g x)/\h'=[VR u 191 18 rows',X]:=by
 have hml:maxLen=9223372036854775807:=rfl
 have hrb:reachBytes=140737488351232:=rfl
 have hrl:=hro.1
 refine aJ (n:=42) func261 Z Z (len Z) λhr w0=>?_
 refine fD (r:=VR v 191 18 rows) slq λhok=>?_
 have ho:=VR.one hok.choose_spec
 have hls:Ls (Res.star [VR v 191 18 rows,X]) v xs:=Rws.ls (E:=191) (jO hro<|bL<|.there .here) hok (bL .here) (show xs.length * 280<=reachBytes by omega)
 have hix:=dS<|DD (g:=g) (cp:=cp) hls hE<|hf _<|bL<|.there .here
 refine fO (v:=v) (E:=191) (sz:=18) (rows:=rows) slq λwa wc hwf hwl hwm=>?_
 rw [hrl] at hwf hwl
 subst hwf
 refine cQ<|sA Z<|sN<|nT<|cQ<|sM Z<|sM Z<|bf Z Z en193 Z (hix) ?_
 refine sA Z<|sK [0,1,4,5] Z<|cS<|cQ<|sM Z<|sV (dX Z Z)<|sK [0,1,4,5,12] Z ?_
 rw [H7]
 cases hq:xs.findIdx? g with
 | none =>
  have hall:(xs.filter λx => !g x)=xs:=by
   rw [List.filter_eq_self]
   intro x hx
   simp [List.findIdx?_eq_none_iff.1 hq x hx]
  rw [hall]
  refine aQ Z ?_
  refine cQ<|sM Z<|sA Z<|sK [4] Z<|cT<|xR ?_
  exact aj Z ⟨rows,ho,hro,Z⟩ sbq
 | some i0 =>
  obtain ⟨hi0,hg0,hbf⟩:=List.findIdx?_eq_some_iff_getElem.1 hq
  obtain ⟨b,o,rfl⟩:∃ b o,wa=some ⟨b,o,none⟩:=by
   obtain ⟨f0,hf0⟩:=hok
   rcases VR.form hf0 with ⟨h3,h4⟩ | ⟨b,o,cp,h3,-⟩
   .rw [h4] at hrl; simp at hrl; omega
   .rw [hrl] at h3; cases h3; exact ⟨b,o,rfl⟩
  have hf0:(xs.take i0).filter (λx => !g x)=xs.take i0:=by
   rw [List.filter_eq_self]
   intro x hx
   obtain ⟨j,hj,rfl⟩:=List.getElem_of_mem hx
   rw [List.length_take] at hj
   rw [List.getElem_take]
   simpa using hbf j (by omega)
  have hstart:Rws X (rows.take i0) ((xs.take (i0+1)).filter λx => !g x):=by
   rw [List.take_succ_eq_append_getElem hi0,List.filter_append,hf0]
   have:[xs[i0]].filter (λx => !g x)=[]:=by simp [hg0]
   rw [this,List.append_nil]
   refine ⟨by rw [List.length_take,List.length_take,hrl],λj us x h1 h2=>?_⟩
   rw [List.getElem?_take] at h1 h2
   split at h1
   .rename_i hji; rw [if_pos hji] at h2; exact hro.2 j us x h1 h2
   .cases h1
  rw [show ixI (some i0)=((i0:Nat):Int) from rfl]
  refine aG Z ?_
  refine cK<|xT<|cS<|cQ<|sM Z<|sV (aI Z Z Z0)<|sA Z<|sK [0,1,4,5,6] Z<|cB<|aY (σ := Nat×Nat×List (List Value)) (λq=>[(0,.slice (some ⟨b,o,none⟩) xs.length wc),(1,.func (.func kf) #[] cp),(5,.int .i64 (q.1:Nat)),(6,.int .i64 (q.2.1:Nat))]) (λq=>VR (.slice (some ⟨b,o,none⟩) xs.length wc) 191 18 q.2.2::X::hr) (λq=>q.1<q.2.1/\q.2.1<=xs.length/\q.2.2.length=xs.length/\Rws X (q.2.2.take q.1) ((xs.take q.2.1).filter λx => !g x)/\∀ k,q.2.1<=k->q.2.2[k]? = rows[k]?) (λq=>xs.length - q.2.1) (i0,i0+1,rows) ⟨Nat.lt_succ_self _,hi0,hrl,hstart,λ_ _=>rfl⟩ ?_
  rintro ⟨m,j,rws⟩ ⟨hmj,hjn,hwl2,hpre,hrest⟩
  simp only at hmj hjn hwl2 hpre hrest
  dsimp only
  refine cS<|cQ<|sM Z<|sM Z<|sV (aC Z underlying187)<|sV (aO Z Z)<|sK [0,1,5,6,19] Z<|cC Z (λhd=>?_)<|λhd=>?_
  .have hlt:j<xs.length:=Zx
   have hjr:j<rows.length:=by omega
   have hrow:rws[j]? = some rows[j]:=(hrest j<|Nat.le_refl _).trans<|Zy hjr
   have hrep:=hro.2 j _ xs[j] (Zy hjr)<|Zy hlt
   have hfx:=hf X (λ_ _ h=>h) xs[j] (List.getElem_mem hlt) _ hrep
   have htk:=cz hlt
   have hset:∀ r,(rws.set m r).take (m+1)=rws.take m++[r]:=λr=>by
    rw [List.take_succ_eq_append_getElem (by rw [List.length_set]; omega),List.take_set_of_le (Nat.le_refl _),List.getElem_set_self]
   generalize xs[j]=x at hrep hfx htk
   generalize rows[j]=r at hrow hrep hfx
   have hsz:r.length=18:=Enc.len hrep
   have hone:=Enc.ones hrep
   refine cK<|xT<|cS<|cB<|cQ<|sM Z<|sM Z<|sV (vI (k:=j) Z Z lZ Z hlt Z)<|sV (af Z ik hsz<|dU hrow) ?_
   refine au rP λb7=>?_
   refine ai (hl:=by rw [hsz]; rfl) Z Z mY hsz hone ?_
   refine sK [0,1,5,6,7] Z<|cQ<|sM Z<|sV (af Z ik hsz ag) ?_
   refine bf Z Z hE Z (hfx) ?_
   refine sV (bg Z)<|sK [0,1,5,6,7,29] Z<|cC Z (λhg=>?_)<|λhg=>?_
   .have hgf:g x=false:=Za
    have e1:[x].filter (λx => !g x)=[x]:=by simp [hgf]
    refine cQ<|sM Z<|sM Z<|sV (af Z ik hsz ag) ?_
    refine sV (vI (k:=m) Z Z lZ Z (by omega) Z)<|A8 (m:=m) (rows:=rws) (vs:=r) Z Z mY hsz (λu hu=>List.all_eq_true.1 hone u hu) (by omega) slq ?_
    refine sK [0,1,5,6] Z<|cR<|sM Z<|sV (aI Z Z Z0)<|sA Z<|sN<|nK [0,1,5,6] Z<|ax<|xB<|xT<|cR<|sM Z<|sV (aI Z Z Z0)<|sA Z<|sN<|nK [0,1,5,6] Z<|ax ?_
    refine aL (m+1,j+1,rws.set m r) ⟨by dsimp only; omega,hlt,by rw [List.length_set]; exact hwl2,by rw [hset,htk,List.filter_append,e1]; exact hpre.snoc hrep,λk hk=>by
     have hk:j+1<=k:=hk
     rw [List.getElem?_set_ne (by omega)]; exact hrest k (by omega)⟩ (by dsimp only; omega)
   .have hgt:g x=true:=Za
    have e1:[x].filter (λx => !g x)=[]:=by simp [hgt]
    refine cK<|xB<|xT<|cR<|sM Z<|sV (aI Z Z Z0)<|sA Z<|sN<|nK [0,1,5,6] Z<|ax ?_
    refine aL (m,j+1,rws) ⟨by dsimp only; omega,hlt,hwl2,by rw [htk,List.filter_append,e1,List.append_nil]; exact hpre,λk hk=>hrest k (by dsimp only at hk; omega)⟩ (by dsimp only; omega)
  .have hje:j=xs.length:=by
    have:¬ j<xs.length:=Zx
    omega
   subst hje
   rw [List.take_length] at hpre
   refine aB<|xE<|xE<|xY<|xT<|cQ<|sM Z<|sM Z<|sV (gM (show Value.slice (some ⟨b,if wc=m then o else o+m * 18,none⟩) (xs.length - m) (wc - m)=Value.slice (some ⟨b,o+m * 18,none⟩) (rws.length - m) (wc - m) by rw [if_neg (by omega),hwl2])<|ng (lo:=m) Z Z lZ Z (by omega)<|by omega) ?_
   refine uJ (m:=m) (rows:=rws) rfl underlying187 Ab rfl (λv hv=>by simp [Value.cells] at hv; (repeat (first | (rcases hv with rfl | hv; · rfl) | (subst hv; rfl)))) (by omega) slq ?_
   refine sK [0,5] Z<|cQ<|sM Z<|sM Z<|sV (kI (hi:=m) Z Z lZ Z<|by omega)<|rQ (zi (m:=m) ?_) ?_
   .rw [List.length_append,List.length_take,List.length_replicate]; omega
   rw [List.take_append_of_le_length (by rw [List.length_take]; omega),List.take_take,Nat.min_self]
   refine sA Z<|sK [4] Z<|cT ?_
   exact aj Z ⟨_,Z,hpre,Z⟩ sbq
theorem ME {v : Value} {rows : List (List Value)} {xs : List Mb} {kf : FuncId} {cp : Array Value} {g : Mb -> Bool} (hro : Rws X rows xs) (hb : xs.length * 232 <= 1099511627776) (hE : Ck.Enters prog kf) (hf : ∀ R : Res, (∀ p u, Rd X p u -> Rd R p u) -> ∀ a ∈ xs, ∀ us, Enc.rep R us a -> Reads prog kf (#[] ++ ([.agg us.toArray] : List Value).toArray ++ cp) [R] (.bool (g a))) :
  Ct prog 268 #[v,.func (.func kf) #[] cp] [VR v 75 14 rows,X] λu h'=>∃ rows',u.oneCell'=true/\Rws X rows' (xs.filter λx => !g x)/\h'=[VR u 75 14 rows',X]:=by
 have hml:maxLen=9223372036854775807:=rfl
 have hrb:reachBytes=140737488351232:=rfl
 have hrl:=hro.1
 refine aJ (n:=42) func268 Z Z (len Z) λhr w0=>?_
 refine fD (r:=VR v 75 14 rows) slq λhok=>?_
 have ho:=VR.one hok.choose_spec
 have hls:Ls (Res.star [VR v 75 14 rows,X]) v xs:=Rws.ls (E:=75) (jO hro<|bL<|.there .here) hok (bL .here) (show xs.length * 232<=reachBytes by omega)
 have hix:=dS<|xk (g:=g) (cp:=cp) hls hE<|hf _<|bL<|.there .here
 refine fO (v:=v) (E:=75) (sz:=14) (rows:=rows) slq λwa wc hwf hwl hwm=>?_
 rw [hrl] at hwf hwl
 subst hwf
 refine cQ<|sA Z<|sN<|nT<|cQ<|sM Z<|sM Z<|bf Z Z en222 Z (hix) ?_
 refine sA Z<|sK [0,1,4,5] Z<|cS<|cQ<|sM Z<|sV (dX Z Z)<|sK [0,1,4,5,12] Z ?_
 rw [H7]
 cases hq:xs.findIdx? g with
 | none =>
  have hall:(xs.filter λx => !g x)=xs:=by
   rw [List.filter_eq_self]
   intro x hx
   simp [List.findIdx?_eq_none_iff.1 hq x hx]
  rw [hall]
  refine aQ Z ?_
  refine cQ<|sM Z<|sA Z<|sK [4] Z<|cT<|xR ?_
  exact aj Z ⟨rows,ho,hro,Z⟩ sbq
 | some i0 =>
  obtain ⟨hi0,hg0,hbf⟩:=List.findIdx?_eq_some_iff_getElem.1 hq
  obtain ⟨b,o,rfl⟩:∃ b o,wa=some ⟨b,o,none⟩:=by
   obtain ⟨f0,hf0⟩:=hok
   rcases VR.form hf0 with ⟨h3,h4⟩ | ⟨b,o,cp,h3,-⟩
   .rw [h4] at hrl; simp at hrl; omega
   .rw [hrl] at h3; cases h3; exact ⟨b,o,rfl⟩
  have hf0:(xs.take i0).filter (λx => !g x)=xs.take i0:=by
   rw [List.filter_eq_self]
   intro x hx
   obtain ⟨j,hj,rfl⟩:=List.getElem_of_mem hx
   rw [List.length_take] at hj
   rw [List.getElem_take]
   simpa using hbf j (by omega)
  have hstart:Rws X (rows.take i0) ((xs.take (i0+1)).filter λx => !g x):=by
   rw [List.take_succ_eq_append_getElem hi0,List.filter_append,hf0]
   have:[xs[i0]].filter (λx => !g x)=[]:=by simp [hg0]
   rw [this,List.append_nil]
   refine ⟨by rw [List.length_take,List.length_take,hrl],λj us x h1 h2=>?_⟩
   rw [List.getElem?_take] at h1 h2
   split at h1
   .rename_i hji; rw [if_pos hji] at h2; exact hro.2 j us x h1 h2
   .cases h1
  rw [show ixI (some i0)=((i0:Nat):Int) from rfl]
  refine aG Z ?_
  refine cK<|xT<|cS<|cQ<|sM Z<|sV (aI Z Z Z0)<|sA Z<|sK [0,1,4,5,6] Z<|cB<|aY (σ := Nat×Nat×List (List Value)) (λq=>[(0,.slice (some ⟨b,o,none⟩) xs.length wc),(1,.func (.func kf) #[] cp),(5,.int .i64 (q.1:Nat)),(6,.int .i64 (q.2.1:Nat))]) (λq=>VR (.slice (some ⟨b,o,none⟩) xs.length wc) 75 14 q.2.2::X::hr) (λq=>q.1<q.2.1/\q.2.1<=xs.length/\q.2.2.length=xs.length/\Rws X (q.2.2.take q.1) ((xs.take q.2.1).filter λx => !g x)/\∀ k,q.2.1<=k->q.2.2[k]? = rows[k]?) (λq=>xs.length - q.2.1) (i0,i0+1,rows) ⟨Nat.lt_succ_self _,hi0,hrl,hstart,λ_ _=>rfl⟩ ?_
  rintro ⟨m,j,rws⟩ ⟨hmj,hjn,hwl2,hpre,hrest⟩
  simp only at hmj hjn hwl2 hpre hrest
  dsimp only
  refine cS<|cQ<|sM Z<|sM Z<|sV (aC Z underlying52)<|sV (aO Z Z)<|sK [0,1,5,6,19] Z<|cC Z (λhd=>?_)<|λhd=>?_
  .have hlt:j<xs.length:=Zx
   have hjr:j<rows.length:=by omega
   have hrow:rws[j]? = some rows[j]:=(hrest j<|Nat.le_refl _).trans<|Zy hjr
   have hrep:=hro.2 j _ xs[j] (Zy hjr)<|Zy hlt
   have hfx:=hf X (λ_ _ h=>h) xs[j] (List.getElem_mem hlt) _ hrep
   have htk:=cz hlt
   have hset:∀ r,(rws.set m r).take (m+1)=rws.take m++[r]:=λr=>by
    rw [List.take_succ_eq_append_getElem (by rw [List.length_set]; omega),List.take_set_of_le (Nat.le_refl _),List.getElem_set_self]
   generalize xs[j]=x at hrep hfx htk
   generalize rows[j]=r at hrow hrep hfx
   have hsz:r.length=14:=Enc.len hrep
   have hone:=Enc.ones hrep
   refine cK<|xT<|cS<|cB<|cQ<|sM Z<|sM Z<|sV (vI (k:=j) Z Z oM Z hlt Z)<|sV (af Z fE hsz<|dU hrow) ?_
   refine au jR λb7=>?_
   refine ai (hl:=by rw [hsz]; rfl) Z Z iH hsz hone ?_
   refine sK [0,1,5,6,7] Z<|cQ<|sM Z<|sV (af Z fE hsz ag) ?_
   refine bf Z Z hE Z (hfx) ?_
   refine sV (bg Z)<|sK [0,1,5,6,7,29] Z<|cC Z (λhg=>?_)<|λhg=>?_
   .have hgf:g x=false:=Za
    have e1:[x].filter (λx => !g x)=[x]:=by simp [hgf]
    refine cQ<|sM Z<|sM Z<|sV (af Z fE hsz ag) ?_
    refine sV (vI (k:=m) Z Z oM Z (by omega) Z)<|A8 (m:=m) (rows:=rws) (vs:=r) Z Z iH hsz (λu hu=>List.all_eq_true.1 hone u hu) (by omega) slq ?_
    refine sK [0,1,5,6] Z<|cR<|sM Z<|sV (aI Z Z Z0)<|sA Z<|sN<|nK [0,1,5,6] Z<|ax<|xB<|xT<|cR<|sM Z<|sV (aI Z Z Z0)<|sA Z<|sN<|nK [0,1,5,6] Z<|ax ?_
    refine aL (m+1,j+1,rws.set m r) ⟨by dsimp only; omega,hlt,by rw [List.length_set]; exact hwl2,by rw [hset,htk,List.filter_append,e1]; exact hpre.snoc hrep,λk hk=>by
     have hk:j+1<=k:=hk
     rw [List.getElem?_set_ne (by omega)]; exact hrest k (by omega)⟩ (by dsimp only; omega)
   .have hgt:g x=true:=Za
    have e1:[x].filter (λx => !g x)=[]:=by simp [hgt]
    refine cK<|xB<|xT<|cR<|sM Z<|sV (aI Z Z Z0)<|sA Z<|sN<|nK [0,1,5,6] Z<|ax ?_
    refine aL (m,j+1,rws) ⟨by dsimp only; omega,hlt,hwl2,by rw [htk,List.filter_append,e1,List.append_nil]; exact hpre,λk hk=>hrest k (by dsimp only at hk; omega)⟩ (by dsimp only; omega)
  .have hje:j=xs.length:=by
    have:¬ j<xs.length:=Zx
    omega
   subst hje
   rw [List.take_length] at hpre
   refine aB<|xE<|xE<|xY<|xT<|cQ<|sM Z<|sM Z<|sV (gM (show Value.slice (some ⟨b,if wc=m then o else o+m * 14,none⟩) (xs.length - m) (wc - m)=Value.slice (some ⟨b,o+m * 14,none⟩) (rws.length - m) (wc - m) by rw [if_neg (by omega),hwl2])<|ng (lo:=m) Z Z oM Z (by omega)<|by omega) ?_
   refine uJ (m:=m) (rows:=rws) rfl underlying52 vG rfl (λv hv=>by simp [Value.cells] at hv; (repeat (first | (rcases hv with rfl | hv; · rfl) | (subst hv; rfl)))) (by omega) slq ?_
   refine sK [0,5] Z<|cQ<|sM Z<|sM Z<|sV (kI (hi:=m) Z Z oM Z<|by omega)<|rQ (zi (m:=m) ?_) ?_
   .rw [List.length_append,List.length_take,List.length_replicate]; omega
   rw [List.take_append_of_le_length (by rw [List.length_take]; omega),List.take_take,Nat.min_self]
   refine sA Z<|sK [4] Z<|cT ?_
   exact aj Z ⟨_,Z,hpre,Z⟩ sbq
end
section
variable {X Y:Res} {v v':Value} {us us':List Value}
theorem JC {x:Cm} {b4 i:Nat} (h:Enc.rep X us x) (hrd:Rd X ⟨b4,0,none⟩ (.int .i64 (i:Nat))):Reads prog 263 #[.agg us.toArray,.pointer (some ⟨b4,0,none⟩)] [X] (.bool (!(x.par == i))):=by
 obtain ⟨x2,x5,xy,x11,x12,x13,rfl,_⟩:=iD h
 unfold pE
 refine aJ (n:=8) func263 Z Z (len Z) λhr w0=>?_
 refine cQ (aV Z Z λb2=>?_)
 refine sA Z<|sK [1,2,3] Z<|cQ<|sV (vF Z zb Z)<|sV (vY Z ld3) ?_
 refine sV (vY Z ld3) ?_
 refine sV (bT Z Z)<|sA Z<|sK [3] Z<|cT ?_
 rw [show (((x.par:Nat):Int) != ((i:Nat):Int)) = !(x.par == i) by
  rw [Bool.eq_iff_iff]; simp; omega]
 exact aj Z ⟨Z,Z⟩ sbq
theorem en263:Ck.Enters prog 263:=enters_of func263 Zz rfl
theorem qC {fv:Value} {c:FC} {ca cb ce cf ci mv:Value} {all:Bool} {bm i:Nat} {m:List (Nm×Value)} {n:Nm} {xs:List Cm} (hlk:Ls X ((bR m n).getD (.slice none 0 0)) xs) (hb:xs.length * 280<=1099511627776) :
  CtX prog 206 #[.agg (fC v fv c ca cb ce cf ci mv (.map<|some bm) all).toArray,.int .i64 (i:Nat),sv n] X [mps bm m] λu Y k'=>∃ rows,u.oneCell'=true/\Rws Y rows (xs.filter λx=>x.par == i)/\k'=[VR u 191 18 rows,mps bm m]:=by
 have hfl:(xs.filter λx => !(!(x.par == i)))=xs.filter λx=>x.par == i:=by simp
 unfold fC CtX
 refine aJ (n:=14) func206 Z Z (len Z) λhr w0=>?_
 refine cQ (aV Z Z λb3=>?_)
 refine aV Z Z λb4=>?_
 refine sA Z<|sK [2,3,4,6] Z<|cQ<|sV (vF Z qf Z)<|sV (vY Z rJ) ?_
 refine sM Z<|sV (bP Z Z tH ug slq) ?_
 refine aH Z Z en262 Z (G7 hlk) ?_
 rintro u h' ⟨T,rfl,rows,rfl,ho,hr⟩
 simp only [lC,lN]
 refine sV (bX Z Z) (K5 [pt b4 (cl [.int .i64 (i:Nat)] 3)] X λY hE hsel hpk=>?_)
 refine aH Z Z en261 Z (MB (g:=λx => !(x.par == i)) (cp := #[.pointer (some ⟨b4,0,none⟩)]) (hr.up hE) hb en263 λR hRY a _ us h=>JC (i:=i) h<|hRY _ _<|hsel _ _ .here _ _<|bZ Z) ?_
 rintro u h' ⟨rows',hu,hr',rfl⟩
 simp only [lC,lN]
 rw [hfl] at hr'
 refine sA Z<|sK [6] Z<|cT ?_
 exact aj Z ⟨Y,_,Z,hE,rows',hu,hr',Z⟩ sbq
end
end Go.Fl
namespace Go.Fl
open Go Go.Hr
def dSds (l:FS):List Sd:=l.flatMap λc=>c.feats.map λf=>⟨c.name,f.name⟩
def dPre (l:FS):List Grp:=l.flatMap λc=>c.feats.map λf=>⟨c.name,f.req⟩
def dPost (l:FS):List Grp:=l.flatMap λc=>c.feats.map λf=>⟨c.name,f.ens⟩
structure MOk (l:FS) (m:Mb):Prop where
 name:m.name.length<=20
 snd:m.seeds.Nodup
 sds:∀ s∈m.seeds,s∈dSds l
 pnd:m.pre.Nodup
 pre:∀ g∈m.pre,g∈dPre l
 qnd:m.post.Nodup
 post:∀ g∈m.post,g∈dPost l
theorem JD {o:List Grp} {g:Grp} (h:o.Nodup):(vT o g).Nodup:=by
 unfold vT
 split
 .exact h
 .rename_i hg
  have hg:g ∉ o:=by simpa using hg
  refine List.nodup_append.2 ⟨h,by simp,λa ha b hb e=>?_⟩
  rw [List.mem_singleton.1 hb] at e
  exact hg (e ▸ ha)
theorem JE {l o:List Grp} (h:o.Nodup):(rV o l).Nodup:=by
 unfold rV
 induction l generalizing o with
 | nil=>exact h
 | cons g t ih=>exact ih (JD h)
theorem qD (ls:List (List Grp)):(groups ls).Nodup:=by
 have key:∀ (ls:List (List Grp)) (o:List Grp),o.Nodup->(ls.foldl rV o).Nodup:=by
  intro ls
  induction ls with
  | nil=>exact λ_ h=>h
  | cons a t ih=>exact λo h=>ih _ (JE h)
 exact key ls [] List.nodup_nil
theorem nG (cs:List Cm) (f:Cm->List Grp):(cs.foldl (λ(o:List Grp) (y:Cm)=>groups [o,f y]) []).Nodup:=by
 have key:∀ (cs:List Cm) (o:List Grp),o.Nodup->(cs.foldl (λ(o:List Grp) (y:Cm)=>groups [o,f y]) o).Nodup:=by
  intro cs
  induction cs with
  | nil=>exact λ_ h=>h
  | cons a t ih=>exact λo h=>ih _ (qD _)
 exact key cs [] List.nodup_nil
theorem yO.nodup {xs:List Sd} (h:yO xs):xs.Nodup:=by
 rw [List.nodup_iff_pairwise_ne]
 exact h.imp λ{a b} hab e=>by
  subst e
  rw [qp] at hab; cases hab
theorem DZ {s:Nm} (h:small s=true):s.length<=20:=by
 unfold small at h
 split at h
 .simp
 .simp only [Bool.and_eq_true,decide_eq_true_eq] at h
  exact h.1.1.1
section
variable {l:FS}
theorem H8 {c:FC} (hc:CRight l c) {p:Pt} (hp:p∈c.pars) {n:Nm} (hn:n.length<=20):(bJ p n).length<=20:=by
 unfold bJ
 cases hf:p.ren.find? λx=>x.fro == n with
 | none=>exact hn
 | some x=>exact DZ (hc.tosmall p hp x (List.mem_of_find?_eq_some hf))
theorem zw {fl:Nm->Fl} (h:∀ n,∀ m∈(fl n).mems,MOk l m) {c:FC} (hc:CRight l c) {x:Cm} (hx:x∈comes fl l c):MOk l x.mem:=by
 obtain ⟨p,hp,m,hm,e⟩:=gz hx
 have h1:=h _ m hm
 rw [e]
 exact ⟨H8 hc (List.mem_of_getElem? hp) h1.name,h1.snd,h1.sds,h1.pnd,h1.pre,h1.qnd,h1.post⟩
theorem D5 {cs:List Cm} (h:∀ x∈cs,MOk l x.mem) (h0:cs≠[]):MOk l (joined cs):=by
 obtain ⟨x,hx,h1,_⟩:=jw cs h0
 exact ⟨h1 ▸ (h x hx).name,(fG _).1.nodup,λs hs=>by
   obtain ⟨y,hy,h2⟩:=lF.1 hs
   exact (h y hy).sds s h2,nG cs λx=>x.mem.pre,λg hg=>by
   obtain ⟨y,hy,h2⟩:=mD.1 hg
   exact (h y hy).pre g h2,nG cs λx=>x.mem.post,λg hg=>by
   obtain ⟨y,hy,h2⟩:=kL.1 hg
   exact (h y hy).post g h2⟩
theorem own_ok {cs:List Cm} {c:FC} {f:Fe} (hc:CRight l c) (hcl:c∈l) (hf:f∈c.feats) (h:∀ x∈cs,MOk l x.mem):MOk l (jB c f cs):=by
 have hp:(⟨c.name,f.req⟩:Grp)∈dPre l:=List.mem_flatMap.2 ⟨c,hcl,List.mem_map.2 ⟨f,hf,rfl⟩⟩
 have hq:(⟨c.name,f.ens⟩:Grp)∈dPost l:=List.mem_flatMap.2 ⟨c,hcl,List.mem_map.2 ⟨f,hf,rfl⟩⟩
 have hs:(⟨c.name,f.name⟩:Sd)∈dSds l:=List.mem_flatMap.2 ⟨c,hcl,List.mem_map.2 ⟨f,hf,rfl⟩⟩
 have hn:=DZ<|hc.fsmall f hf
 have hpost:∀ g∈(if f.ens=[] then ([]:List Grp) else [⟨c.name,f.ens⟩]),g∈dPost l:=λg hg=>by
  split at hg
  .cases hg
  .rw [List.mem_singleton.1 hg]; exact hq
 by_cases h0:cs=[]
 .subst h0
  refine ⟨hn,?_,?_,?_,?_,?_,hpost⟩
  .show ([_]:List Sd).Nodup
   simp
  .intro s h2
   have h2:s∈([⟨c.name,f.name⟩]:List Sd):=h2
   rw [List.mem_singleton.1 h2]; exact hs
  .show ([_]:List Grp).Nodup
   simp
  .intro s h2
   have h2:s∈([⟨c.name,f.req⟩]:List Grp):=h2
   rw [List.mem_singleton.1 h2]; exact hp
  .show (if f.ens=[] then ([]:List Grp) else [⟨c.name,f.ens⟩]).Nodup
   split <;> simp
 .have hj := D5 h h0
  unfold jB
  simp only []
  rw [if_neg h0]
  refine ⟨hn,hj.snd,hj.sds,qD _,λg hg=>?_,qD _,λg hg=>?_⟩
  .obtain ⟨a,ha,hga⟩:=jc.1 hg
   simp only [List.mem_cons,List.not_mem_nil,or_false] at ha
   rcases ha with rfl | rfl
   .exact hj.pre g hga
   .split at hga
    .cases hga
    .rw [List.mem_singleton.1 hga]; exact hp
  .obtain ⟨a,ha,hga⟩:=jc.1 hg
   simp only [List.mem_cons,List.not_mem_nil,or_false] at ha
   rcases ha with rfl | rfl
   .exact hj.post g hga
   .exact hpost g hga
theorem zx {fl:Nm->Fl} (h:∀ n,∀ m∈(fl n).mems,MOk l m) {c:FC} (hc:CRight l c) (hcl:c∈l):∀ m∈members (comes fl l c) c,MOk l m:=λm hm=>by
 rcases (gH hc.names).1 hm with ⟨n,⟨x,hx,hxn⟩,_,rfl⟩ | ⟨f,hf,rfl⟩
 .exact D5 (λy hy=>zw h hc (bD.1 hy).1)<|List.ne_nil_of_mem<|bD.2 ⟨hx,hxn⟩
 .exact own_ok hc hcl hf λy hy=>zw h hc (bD.1 hy).1
theorem H9 {c:Nm}:ae l c∈l\/ae l c=Cg:=by
 cases h:bQ l c with
 | none=>exact .inr (vV h)
 | some x=>rw [iI h]; exact .inl (List.mem_of_find?_eq_some h)
theorem OZ (hR : FRight l) : ∀ (n : Nat) (c : Nm), ∀ m ∈ (flF l n c).mems, MOk l m
 | 0,c,m,hm=>by cases hm
 | n + 1, c, m, hm => by
  rcases H9 (l:=l) (c:=c) with h | h
  .exact zx (OZ hR n) (gJ<|hR.form _ h) h m hm
  .have:(flF l (n+1) c).mems=[]:=by
    show members (comes (flF l n) l<|ae l c) (ae l c)=[]
    rw [h]; rfl
   rw [this] at hm; cases hm
theorem FL_ok (hR:FRight l) (c:Nm):∀ m∈(FL l c).mems,MOk l m:=OZ hR _ c
structure FlB (l:FS) (fl:Nm->Fl):Prop where
 few:∀ n,(fl n).mems.length<=60
 ok:∀ n,∀ m∈(fl n).mems,MOk l m
theorem O0 (hR:FRight l) {o:List Nm} (h:∀ n∈o,okF l n):FlB l (look (forms l o)):=by
 have key:∀ n,look (forms l o) n=fl0\/(n∈o/\look (forms l o) n=FL l n):=λn=>by
  by_cases hn:n∈o
  .exact .inr ⟨hn,qm hn⟩
  .exact .inl<|LK hn
 constructor
 .intro n
  rcases key n with h1 | ⟨h1,h2⟩
  .rw [h1]; exact Nat.zero_le _
  .rw [h2,fB hR.sys]
   have:=(h n h1).2
   unfold over at this
   simp only [Bool.or_eq_false_iff,decide_eq_false_iff_not] at this
   omega
 .intro n m hm
  rcases key n with h1 | ⟨h1,h2⟩
  .rw [h1] at hm; cases hm
  .rw [h2] at hm; exact FL_ok hR n m hm
theorem jf {α β : Type} {f : α -> List β} {k:Nat}:∀ {xs:List α},(∀ x∈xs,(f x).length<=k)->(xs.flatMap f).length<=xs.length * k
 | [],_=>by simp
 | a::t,h=>by
  have h1:=h a<|by simp
  have h2:=jf (f:=f) (xs:=t) λx hx=>h x<|by simp [hx]
  rw [List.flatMap_cons,List.length_append,List.length_cons,Nat.add_mul,Nat.one_mul]
  omega
theorem dLen {β : Type} (hR:FRight l) (g:FC->Fe -> β):(l.flatMap λc=>c.feats.map (g c)).length<=1440:=by
 have h1:=jf (xs:=l) (f:=λc=>c.feats.map<|g c) (k:=60) λc hc=>by
  rw [List.length_map]; exact (gJ<|hR.form c hc).feats
 have h2:=hR.sys.len
 rw [gN] at h2
 omega
theorem MOk.lens (hR:FRight l) {m:Mb} (h:MOk l m):m.seeds.length<=1440/\m.pre.length<=1440/\m.post.length<=1440 :=
 ⟨Nat.le_trans (aN h.snd h.sds) (dLen hR _),Nat.le_trans (aN h.pnd h.pre) (dLen hR _),Nat.le_trans (aN h.qnd h.post)<|dLen hR _⟩
theorem O1 (hR:FRight l) {c:FC} (hc:c∈l):c.pars.length<=4:=by
 have:=hR.sys.few c.cls<|List.mem_map.2 ⟨c,hc,rfl⟩
 simpa [FC.cls] using this
theorem xD (hR:FRight l) {fl:Nm->Fl} (h:FlB l fl) {c:FC} (hc:c∈l):(comes fl l c).length<=240:=by
 have h1:=jf (xs:=c.pars.zipIdx) (f:=λq:Pt×Nat=>(fl q.1.name).mems.map<|iO (ae l q.1.name).forms q.2 q.1) (k:=60) λq _=>by
  rw [List.length_map]; exact h.few _
 have h2:=O1 hR hc
 have h3:(comes fl l c).length<=c.pars.zipIdx.length * 60:=h1
 rw [List.length_zipIdx] at h3
 omega
theorem JF (hR:FRight l) {fl:Nm->Fl} (h:FlB l fl) {c:FC} (hc:c∈l):((comes fl l c).flatMap λx=>x.mem.seeds).length<=345600/\((comes fl l c).flatMap λx=>x.mem.pre).length<=345600/\((comes fl l c).flatMap λx=>x.mem.post).length<=345600:=by
 have h1:=xD hR h hc
 have h2:=λx (hx:x∈comes fl l c)=>(zw h.ok (gJ<|hR.form c hc) hx).lens hR
 have g1:=jf (xs:=comes fl l c) (f:=λx=>x.mem.seeds) (k:=1440) λx hx=>(h2 x hx).1
 have g2:=jf (xs:=comes fl l c) (f:=λx=>x.mem.pre) (k:=1440) λx hx=>(h2 x hx).2.1
 have g3:=jf (xs:=comes fl l c) (f:=λx=>x.mem.post) (k:=1440) λx hx=>(h2 x hx).2.2
 omega
theorem Ia (hR:FRight l) {fl:Nm->Fl} (h:FlB l fl) {c:FC} (hc:c∈l):(members (comes fl l c) c).length<=300/\((members (comes fl l c) c).flatMap λm=>m.seeds).length<=432000:=by
 have hC:=gJ<|hR.form c hc
 have h1:=xD hR h hc
 have hn:=(jM (comes fl l c) hC.names)
 have hk:(keys<|comes fl l c).length<=(comes fl l c).length:=by
  have:(keys<|comes fl l c).length<=((comes fl l c).map λx=>x.mem.name).length:=aN (iB _) λn hn=>by
   obtain ⟨x,hx,e⟩:=kK.1 hn
   exact List.mem_map.2 ⟨x,hx,e⟩
  simpa using this
 have h2:(members (comes fl l c) c).length<=(uw (comes fl l c) c).length:=by
  have:((members (comes fl l c) c).map λm=>m.name).length<=((uw (comes fl l c) c).map λm=>m.name).length:=aN hn.1.nodup λn hn'=>by
   obtain ⟨m,hm,e⟩:=List.mem_map.1 hn'
   exact List.mem_map.2 ⟨m,(hn.2 m).1 hm,e⟩
  simpa using this
 have h3:(uw (comes fl l c) c).length<=300:=by
  unfold uw
  rw [List.length_append,List.length_map,List.length_map]
  have:=List.length_filter_le (λn=>(feat c n).isNone)<|keys<|comes fl l c
  have:=hC.feats
  omega
 have g1:=jf (xs:=members (comes fl l c) c) (f:=λm=>m.seeds) (k:=1440) λm hm=>((zx h.ok hC hc m hm).lens hR).1
 omega
end
end Go.Fl
namespace Go.Ck
open Go Go.RowKit
def dz (w:World):World:={ w with drawn:=0 }
theorem wy (w:World):Same (dz w) w:=⟨rfl,rfl,rfl,Nat.zero_le _,Nat.le_refl _,λ_ _=>rfl⟩
theorem Same.dz {w w':World} (h:Same w w'):Same (dz w) w':=(wy w).trans h
theorem Same.dtrans {w0 w w':World} (h:Same w0 w) (h0:w0.drawn=0) (k:Same (Go.Ck.dz w) w'):Same w0 w' :=
 ⟨k.os.trans h.os,k.tape.trans h.tape,k.output.trans h.output,by rw [h0]; exact Nat.zero_le _,Nat.le_trans h.size k.size,λx hx=>(k.fz x<|Nat.lt_of_lt_of_le hx h.size).trans<|h.fz x hx⟩
def Ctw (P:Program) (k:FuncId) (args:Array Value) (hf:SH) (R:Value->SH->Prop):Prop :=
 ∀ (hr:SH) (w:World),Holds w (hf++hr)->Calls P k args w λe w'=>∃ v h',e = .returned v/\R v h'/\Holds w' (h'++hr)/\Same (dz w) w'
theorem Ct.w {P:Program} {k:FuncId} {args:Array Value} {hf:SH} {R:Value->SH->Prop} (h:Ct P k args hf R):Ctw P k args hf R :=
 λhr w hh=>(h hr w hh).mono λ_ _ ⟨v,h',e,r,g,s⟩=>⟨v,h',e,r,g,s.dz⟩
theorem Ctw.mono {P:Program} {k:FuncId} {args:Array Value} {hf:SH} {R R':Value->SH->Prop} (h:Ctw P k args hf R) (hr:∀ v h',R v h'->R' v h'):Ctw P k args hf R' :=
 λhr' w hw=>(h hr' w hw).mono λ_ _ ⟨v,h',e,r,rest⟩=>⟨v,h',e,hr v h' r,rest⟩
theorem Ctw.perm {P:Program} {k:FuncId} {args:Array Value} {hf hf':SH} {R:Value->SH->Prop} (h:Ctw P k args hf R) (p:hf.Perm hf'):Ctw P k args hf' R :=
 λhr w hw=>h hr w ((bn.perm<|p.append_right hr).2 hw)
def eZ (P:Program) (k:FuncId) (args:Array Value) (X:Res) (hf:SH) (R:Value->Res->SH->Prop):Prop:=Ctw P k args (X::hf) λu h'=>∃ Y k',h'=Y::k'/\Ext X Y/\R u Y k'
theorem gF {P:Program} {k:FuncId} {fn:Func} {x:Code} {n:Nat} {l:List Value} {hf:SH} {R:Value->SH->Prop} (hF:P.funcs[k]? = some fn) (hb:fn.body=some x) (hnt:fn.ntmps=n) (hn:l.length<=n)
  (hc:∀ (hr:SH) (w0:World),w0.drawn=0->Cd ⟨P,none,n,[],w0⟩ x (bodyPost P fn<|Post w0 hr R) (Env.ofArgs 0 l) (hf++hr)):Ctw P k l.toArray hf R:=λhr w hh=>by
 refine uX (r:=none) (n:=0)<|callsIn_of_wp hF hb trivial<|hc hr (dz w) Z _ w ⟨?_,Z,λi v hi=>?_⟩ hh<|wy w
 .simp; omega
 .obtain ⟨_,h2⟩:=Env.ofArgs_get hi
  simp only [Nat.sub_zero] at h2
  have hlt:i<l.length:=(List.getElem?_eq_some_iff.1 h2).1
  rw [Zy hlt,Option.some.injEq] at h2
  simp [Array.getElem?_append,hlt,h2]
theorem Fy {P:Program} {k:FuncId} {fn:Func} {x:Code} {n:Nat} {l:List Value} {hf:SH} {R:Value->SH->Prop} (hF:P.funcs[k]? = some fn) (hb:fn.body=some x) (hnt:fn.ntmps=n) (hn:l.length<=n)
  (hc:∀ (hr:SH) (w0:World),w0.drawn=0->Cd ⟨P,none,n,[],w0⟩ x (bodyPostM (Fw none) 0 P fn<|Post w0 hr R) (Env.ofArgs 0 l) (hf++hr)):Ctw P k l.toArray hf R:=λhr w hh=>by
 refine uX (r:=none) (n:=0)<|callsIn_of_wp_marks hF hb trivial<|hc hr (dz w) Z _ w ⟨?_,Z,λi v hi=>?_⟩ hh<|wy w
 .simp; omega
 .obtain ⟨_,h2⟩:=Env.ofArgs_get hi
  simp only [Nat.sub_zero] at h2
  have hlt:i<l.length:=(List.getElem?_eq_some_iff.1 h2).1
  rw [Zy hlt,Option.some.injEq] at h2
  simp [Array.getElem?_append,hlt,h2]
section
variable {c:Cx} {ops:Array Oper} {K:Act->World->Prop} {rest:List Oper} {e:Env} {h hr:SH}
theorem bW {d:Nat} {f:Operand} {az:Array Operand} {ts:Array TypeId} {ty:TypeId} {pos:String} {after:Array Edge} {k:FuncId} {fi cp:Array Value} {vs:List Value} {args:Array Value} {hf:SH} {R:Value->SH->Prop} (h0:c.w0.drawn=0)
  (hv:e.ev? f=some (.func (.func k) fi cp)) (has:az.toList.mapM e.ev? = some vs) (hE:Enters c.P k) (ha:fi++vs.toArray++cp=args) (ct:Ctw c.P k args hf R)
  (hn:∀ v h',R v h'->St c ops K rest ((d,v)::e) (h'++hr)) (pk:Pk h hf hr:=by repeat (first | exact Pk.nil | (apply Pk.cons; (repeat (first | exact Sel.here | apply Sel.there))))) (hd:d<c.n:=by exact ltn rfl) :
  St c ops K (⟨some d,.call { callee:=.value f,args:=az,argTypes:=ts },ty,pos,after,none⟩::rest) e h :=
 eD (by simp) λa w hk hh hs=>by
  rw [ru hv has hE ha hk.evs]
  exact (ct hr w<|hh.pk pk).mono λ_ w' ⟨v,h',he,hR,hH,hS⟩=>⟨v,he,hn v h' hR _ w' (hk.put v hd) hH<|hs.dtrans h0 hS⟩
end
theorem xG {P : Program} {n : Nat} {ds : List Deferred} {w0 : World} {Q : Exit -> Act -> World -> Prop} {e : Env} {h : SH} {g : Operand} {k : FuncId} {fi cp : Array Value} {ps : Array Tmp} {assign body : Code} (h0 : w0.drawn = 0)
  (hg:e.ev? g=some (.func (.func k) fi cp)) (hE:Enters P k)
  (hct:∀ (l db:Nat) (rec:Loop),rec.state = .ready->rec.pending=none->rec.params=ps->rec.assign=assign->rec.body=body->Kn n [] { tmps:=rec.tmps,defers:=[] } e ->
   ∃ R',Ctw P k (fi ++ #[.func (.yield l) #[] #[]]++cp) (pt l (.loop rec)::pt db (.deferred<|some [])::h) R' /\
    ∀ v h',R' v h'->∃ rec h'',Sel h' (pt l (.loop rec)) h''/\rec.state≠.busy/\(match rec.pending with | none=>Xt ⟨P,none,n,mk db::ds,w0⟩ .normal Q e h'' | some x=>Cd ⟨P,none,n,mk db::ds,w0⟩ x Q e h'')) :
  Cd ⟨P,none,n,ds,w0⟩ (.rangeFunc g ps assign body) Q e h:=λa w hk hh hw=>by
 refine wpIn_rangeFunc λfn _=>?_
 obtain ⟨R',ct,hR'⟩:=hct (w.heap.size+1) w.heap.size (rA fn a.tmps ps assign body w.heap.size) rfl rfl rfl rfl rfl ⟨hk.size,rfl,hk.get⟩
 have h1:=Holds.alloc (Holds.alloc hh<|.deferred<|some [])<|.loop<|rA fn a.tmps ps assign body w.heap.size
 have hsz:(w.alloc<|.deferred<|some []).heap.size=w.heap.size+1:=World.size_alloc _ _
 rw [hsz] at h1
 refine ⟨_,_,_,⟨.fn (.func k) cp,fi ++ #[.func (.yield (w.heap.size+1)) #[] #[]]⟩,(w.alloc<|.deferred<|some []).alloc (.loop<|rA fn a.tmps ps assign body w.heap.size),k,fi ++ #[.func (.yield (w.heap.size+1)) #[] #[]]++cp,(w.alloc<|.deferred<|some []).alloc (.loop<|rA fn a.tmps ps assign body w.heap.size),run_enterLoop_outer fn a.tmps ps assign body,?_,λ_ _=>trivial,?_,λh=>by simp [Fw,Fence.wide] at h,?_⟩
 .simp only [resolve,hk.ev hg,Deferred.ofValue,Sem.run_bind,Sem.run_pure,Result.andThen_ok]
  simp [Act.eval,rA]
 .have:(invoke (.fn (.func k) cp) (fi ++ #[.func (.yield (w.heap.size+1)) #[] #[]])).run P ((w.alloc<|.deferred<|some []).alloc<|.loop<|rA fn a.tmps ps assign body w.heap.size) = .ok (.enter k (fi ++ #[.func (.yield (w.heap.size+1)) #[] #[]]++cp)) ((w.alloc<|.deferred<|some []).alloc<|.loop<|rA fn a.tmps ps assign body w.heap.size):=hE _ _
  exact this
 .have hgr:Same w ((w.alloc<|.deferred<|some []).alloc<|.loop<|rA fn a.tmps ps assign body w.heap.size):=(Grew.alloc _ _ rfl).toSame.trans (Grew.alloc _ _ rfl).toSame
  have hctw:=ct [] _ Zf
  refine tX (Calls.mono hctw λen w' ⟨v,h',he,hRv,hH,hS⟩=>?_)
  subst he
  obtain ⟨rec,h'',s,hbusy,hj⟩:=hR' v h' hRv
  have hH':=(show Holds w' h' by simpa using hH).sel s
  refine ⟨rec.pending,_,run_endLoop hH'.1 hbusy,?_⟩
  have hk2:Kn n (mk w.heap.size::ds) { a with defers:=[{ target:=.collected w.heap.size,args := #[] }]++a.defers } e:=⟨hk.size,by simp [mk,hk.defers],hk.get⟩
  have hH2:∀ o,Holds (w'.putObj (w.heap.size+1) o) h'':=λo=>(Holds.putObj hH' o).2.2
  have hS2:∀ r,Same w0 (w'.putObj (w.heap.size+1)<|.loop r):=λr=>((hw.trans hgr).dtrans h0 hS).trans<|Same.putObj _ _ _ hH'.1 rfl rfl
  generalize rec.pending=j at hj ⊢
  cases j with
  | none=>exact hj _ _ hk2 (hH2 _) (hS2 _)
  | some x=>exact hj _ _ hk2 (hH2 _) (hS2 _)
end Go.Ck
namespace Go.Fl
open Go Go.RowKit Go.Ck Go.Proofs Go.Proofs.Tryz Go.Proofs.YtknmacdbffgjgaaGreatDoor Fx Go.Hr
def yA:Go.Shelf.Ren:={
 f:=λ| 156=>172 | 165=>238 | 166=>239 | 169=>240 | 240=>276 | 241=>277 | 276=>299 | 277=>300 | n=>n
 t:=λ| 31=>40 | 9=>9 | 3=>3 | 4=>4 | 0=>0 | 20=>20 | 72=>301 | 76=>305 | 70=>299 | 37=>37 | 75=>304 | 127=>338 | 164=>360 | 5=>5 | 80=>307 | n=>n
 g:=λn=>n }
theorem Lc:Go.Proofs.Lays.n156 prog yA:={
 mixed:=rfl
 f156:=func172.trans<|congrArg some Zz
 f165:=func238.trans<|congrArg some Zz
 f166:=func239.trans<|congrArg some Zz
 f169:=func240.trans<|congrArg some Zz
 f240:=func276.trans<|congrArg some Zz
 f241:=func277.trans<|congrArg some Zz
 f276:=func299.trans<|congrArg some Zz
 f277:=func300.trans<|congrArg some Zz
 t0:=underlying0
 a0:=isAgg0
 z0:=sizeOf0
 v0:=zeroValue0
 t3:=underlying3
 a3:=isAgg3
 z3:=sizeOf3
 v3:=zeroValue3
 t4:=underlying4
 a4:=isAgg4
 z4:=sizeOf4
 v4:=zeroValue4
 t9:=underlying9
 a9:=isAgg9
 z9:=sizeOf9
 v9:=zeroValue9
 t20:=underlying20
 a20:=isAgg20
 z20:=sizeOf20
 v20:=zeroValue20
 t31:=underlying40
 a31:=isAgg40
 z31:=sizeOf40
 v31:=zeroValue40
 t37:=underlying37
 a37:=isAgg37
 z37:=sizeOf37
 v37:=zeroValue37
 t70:=underlying299
 a70:=isAgg299
 z70:=sizeOf299
 v70:=zeroValue299
 t72:=underlying301
 a72:=isAgg301
 z72:=sizeOf301
 v72:=zeroValue301
 t75:=underlying304
 a75:=isAgg304
 z75:=sizeOf304
 v75:=zeroValue304
 t76:=underlying305
 a76:=isAgg305
 z76:=sizeOf305
 v76:=zeroValue305
 t127:=underlying338
 a127:=isAgg338
 z127:=sizeOf338
 v127:=zeroValue338
 t164:=underlying360
 a164:=isAgg360
 z164:=sizeOf360
 v164:=zeroValue360 }
theorem Ib:Builder.Extra prog yA where
 sizeBuilder:=Zz
 liesBuilder:=Zz
 t5:=Zz
 a5:=isAgg5
 z5:=sizeOf5
 v5:=zeroValue5
 infoByte:=Zz
 cellsByte:=Zz
 sizeByte:=Zz
 neB5:=by decide
theorem Bo {w w':World} (h:Below w.heap.size w w'):Same (dz w) w':=⟨h.os,h.tape,h.output,Nat.zero_le _,h.size,λa ha=>h.frozen ha⟩
theorem yB {w w':World} {H:SH} (h:Below w.heap.size w w') (hh:Holds w H):Holds w' H:=bn.loc hh λb hb=>(h.block b<|Holds.lt hh hb).symm
theorem JG (a:Nm) (t:List Nm):jK (a::t)=a++Lib.joinTail [32] t:=by
 induction t generalizing a with
 | nil=>simp [jK,Lib.joinTail]
 | cons b t ih =>
  show a++32::jK (b::t)=_
  rw [ih b]
  simp [Lib.joinTail]
theorem Ic (xs:List Nm):Lib.join xs [32]=jK xs:=by
 cases xs with
 | nil=>rfl
 | cons a t=>rw [Lib.join_cons,JG]
theorem D6 {k:Nat}:∀ {xs:List Nm},(∀ x∈xs,x.length<=k)->(jK xs).length<=xs.length * (k+1)
 | [],_=>by simp [jK]
 | [a],h=>by
  have:=h a<|by simp
  show a.length<=_
  simp only [List.length_singleton,Nat.one_mul]; omega
 | a::b::t,h=>by
  have h1:=h a<|by simp
  have h2:=D6 (xs:=b::t) λx hx=>h x (by simp only [List.mem_cons] at hx ⊢; exact .inr hx)
  have h3:jK (a::b::t)=a++32::jK (b::t):=rfl
  rw [h3,List.length_append,List.length_cons,List.length_cons (a:=a),Nat.add_mul,Nat.one_mul]
  omega
theorem Ld {v:Value} {xs:List Nm} (hl:xs.length<=1099511627776) (hj:(jK xs).length<=140737488355328):Ctw prog 172 #[v,sv [32]] [NR v xs] λu h'=>u=sv (jK xs)/\h'=[NR v xs]:=by
 intro hr w hh
 have hv:=hh.1
 rcases hv.2 with ⟨rfl,h0⟩ | ⟨b,o,cp,pre,j,rfl,hb,hpre,hc1,hc2,hc3⟩
 .have hx:xs=[]:=List.map_eq_nil_iff.1 h0
  subst hx
  exact (Any.strings_Join_none Lc Ib none 0 ⟨⟨[32]⟩⟩ w).mono λe w' ⟨h1,h2⟩=>⟨sv [],_,h1,⟨Z,Z⟩,by rw [h2]; exact hh,by rw [h2]; exact wy w⟩
 .rw [nk] at hb
  have hb:w.heap[b]? = some (cl (pre++(xs.map sv++j)) 9):=hb
  have hlt:b<w.heap.size:=(Array.getElem?_eq_some_iff.1 hb).1
  have hml:(xs.map λn=>(⟨⟨n⟩⟩:ByteArray)).map (·.data.toList)=xs:=by rw [List.map_map]; exact List.map_id _
  have hc:=Any.strings_Join Lc Ib b o cp (xs.map λn=>(⟨⟨n⟩⟩:ByteArray)) ⟨⟨[32]⟩⟩ w (λi x hi=>by
   rw [List.getElem?_map] at hi
   obtain ⟨n,hn,rfl⟩:=Option.map_eq_some_iff.1 hi
   have hil:=(List.getElem?_eq_some_iff.1 hn).1
   simp only [World.cell?,hb,cl,Option.isSome_none,Bool.false_eq_true,if_false,List.getElem?_toArray]
   rw [<- hpre,List.getElem?_append_right (by omega),Nat.add_sub_cancel_left,List.getElem?_append_left (by simpa using hil),List.getElem?_map,hn]
   rfl) hlt (by rw [List.length_map]; omega) (by
    rw [List.length_map]
    have:(xs.map nC).length=xs.length:=by simp
    omega) (by rw [hml,Ic]; exact hj)
  rw [hml,Ic,List.length_map] at hc
  rw [show (xs.map nC).length=xs.length by simp]
  rw [show (xs.map nC).length=xs.length by simp] at hh
  exact Calls.mono hc λe w' ⟨h1,h2⟩=>⟨sv (jK xs),_,h1,⟨Z,Z⟩,yB h2 hh,Bo h2⟩
end Go.Fl
namespace Go.Ck
open Go Go.RowKit
theorem v_mlenI {P : Program} {e : Env} {h h' : SH} {t ty' K E : TypeId} {x : Operand} {b : Nat} {m : List (Int × Value)} (hx : e.ev? x = some (.map (some b))) (ht : P.underlying t = some (.map K E)) (hs : Sel h (mpr b m) h') :
  Vop P e h (.call { callee:=.builtin .len,args := #[x],argTypes := #[t] }) ty' (.int .i64 m.length):=
 ⟨by simp,by simp,λρ w d pos after g hρ hh=>by
  obtain ⟨es,ck,h1,h2,_⟩:=(hh.sel hs).1
  have hg:(getObj b).run P w = .ok (.map es ck) w:=run_getObj_map h1
  have hl:es.size=m.length:=by
   have:=congrArg List.length h2
   simpa [nL] using this
  simp [execOp,resolve,invoke,builtin,hρ x _ hx,Builtin.len_,run_underlying ht,goInt,hg,hl]⟩
end Go.Ck
namespace Go.Fl
open Go Go.RowKit Go.Ck Go.Proofs Go.Proofs.Tryz Go.Proofs.YtknmacdbffgjgaaGreatDoor Fx Go.Hr
theorem Ie (cs:List Cm) (x:Cm) (s:Sd):having (cs++[x]) s=if x.mem.seeds.contains s then having cs s++[x] else having cs s:=by
 unfold having
 rw [List.filter_append]
 by_cases h:x.mem.seeds.contains s=true
 .rw [if_pos h,List.filter_cons,if_pos h]; rfl
 .rw [if_neg h,List.filter_cons,if_neg h]; simp
theorem Ig (c:FC) (xs:List Cm) (x:Cm):picked c (xs++[x])=if (cO c x.par).sel.contains x.mem.name && !(picked c xs).contains x.mem.name then picked c xs++[x.mem.name] else picked c xs:=by
 unfold picked
 rw [List.filter_append]
 by_cases h:(cO c x.par).sel.contains x.mem.name=true
 .have e1:[x].filter (λx=>(cO c x.par).sel.contains x.mem.name)=[x]:=by rw [List.filter_cons,if_pos h]; rfl
  rw [e1,List.map_append,List.map_cons,List.map_nil,sF,h,Bool.true_and]
  unfold Hr.step
  by_cases h2:(dd [] ((xs.filter λx=>(cO c x.par).sel.contains x.mem.name).map λx=>x.mem.name)).contains x.mem.name=true
  .rw [if_pos h2,h2]; rfl
  .rw [if_neg h2,if_pos Zo]
 .have e1:[x].filter (λx=>(cO c x.par).sel.contains x.mem.name)=[]:=by rw [List.filter_cons,if_neg h]; rfl
  rw [e1,List.append_nil,Bool.eq_false_iff.2 h]; rfl
theorem O3 (o xs:List Nat) (i:Nat):ddn o (xs++[i])=if (ddn o xs).contains i then ddn o xs else ddn o xs++[i]:=by
 unfold ddn
 rw [List.foldl_append]; rfl
theorem Cj (xs:List Cm) (x:Cm):bE (xs++[x])=if (bE xs).contains x.par then bE xs else bE xs++[x.par]:=by
 unfold bE
 rw [List.map_append,List.map_cons,List.map_nil,O3]
def qZ (ps:List Nat):List (Int×Value):=ps.map λ(i:Nat)=>((i:Int),.bool true)
theorem Ih : ∀ (ps : List Nat) (i : Nat), oG (qZ ps) (i : Int) (.bool true) = qZ (if ps.contains i then ps else ps ++ [i])
 | [],i=>by simp [qZ,oG]
 | p::t,i=>by
  have ih:=Ih t i
  unfold qZ at ih ⊢
  rw [List.map_cons,oG]
  by_cases h:p=i
  .subst h
   simp
  .have h1:¬ ((p:Nat):Int)=(i:Nat):=by omega
   have h2:(p::t).contains i=t.contains i:=by rw [List.contains_cons]; simp [show (i == p)=false by simpa using λe=>h (by omega)]
   rw [if_neg h1,ih,h2]
   split <;> rfl
structure Fits (l:FS) (fl:Nm->Fl):Prop where
 right:FRight l
 flb:FlB l fl
 lists:∀ c∈l,∀ p∈c.pars,p.ren.length<=12/\p.und.length<=12/\p.red.length<=12/\p.sel.length<=12
section
variable {l:FS} {fl:Nm->Fl}
theorem Fits.hf (h:Fits l fl) {c:FC} (hc:c∈l\/c=Cg):∀ p∈c.pars,(ae l p.name).forms.length=p.args.length/\p.und.length<=1099511627776:=λp hp=>by
 rcases hc with hc | rfl
 .exact ⟨((gJ<|h.right.form c hc).args p hp).symm,by have:=(h.lists c hc p hp).2.1; omega⟩
 .cases hp
theorem Fits.sel (h:Fits l fl) {c:FC} (hc:c∈l\/c=Cg):∀ p∈c.pars,p.sel.length<=1099511627776:=λp hp=>by
 rcases hc with hc | rfl
 .have:=(h.lists c hc p hp).2.2.2; omega
 .cases hp
theorem Fits.few (h:Fits l fl) {c:FC} (hc:c∈l\/c=Cg):(comes fl l c).length<=240:=by
 rcases hc with hc | rfl
 .exact xD h.right h.flb hc
 .exact Nat.zero_le _
theorem Fits.name (h:Fits l fl) {c:FC} (hc:c∈l\/c=Cg):∀ x∈comes fl l c,x.mem.name.length<=20:=λx hx=>by
 rcases hc with hc | rfl
 .exact (zw h.flb.ok (gJ<|h.right.form c hc) hx).name
 .cases hx
theorem Bp (c:FC) (xs:List Cm):(picked c xs).length<=xs.length:=by
 have:(picked c xs).length<=(xs.map λx=>x.mem.name).length:=aN (AJ _) λn hn=>by
  obtain ⟨x,hx,_,e⟩:=qw.1 hn
  exact List.mem_map.2 ⟨x,hx,e⟩
 simpa using this
theorem Fits.join (h:Fits l fl) {c:FC} (hc:c∈l\/c=Cg) (s:Sd):(picked c (having (comes fl l c) s)).length<=240/\(jK (picked c (having (comes fl l c) s))).length<=140737488355328:=by
 have h1:=Bp c<|having (comes fl l c) s
 have h2:(having (comes fl l c) s).length<=(comes fl l c).length:=List.length_filter_le _ _
 have h3:=h.few hc
 have h4:=D6 (k:=20) (xs:=picked c<|having (comes fl l c) s) λn hn=>by
  obtain ⟨x,hx,_,e⟩:=qw.1 hn
  rw [<- e]
  exact h.name hc x (List.mem_filter.1 hx).1
 omega
theorem O4 {n:Nat} {c:FC} {ms:List Mb} {s:Sd}:∃ up,dE fl l n c ms s=GQ fl l c ms s up:=by
 cases n with
 | zero=>exact ⟨_,LY⟩
 | succ n=>exact ⟨_,Dz⟩
theorem O5 {n:Nat} {c:FC} {ms:List Mb} {s:Sd} (h:(aX ms s).length=1):dE fl l n c ms s=((aX ms s).headD [],true):=by
 obtain ⟨up,e⟩:=O4 (l:=l) (fl:=fl) (n:=n) (c:=c) (ms:=ms) (s:=s)
 rw [e]; unfold GQ; rw [if_pos h]
theorem Ii {n:Nat} {c:FC} {ms:List Mb} {s:Sd} (h:(aX ms s).length≠1) (h2:picked c (having (comes fl l c) s)≠[]\/(bE (having (comes fl l c) s)).length≠1):dE fl l n c ms s=(jK (picked c (having (comes fl l c) s)),(picked c (having (comes fl l c) s)).length == 1):=by
 obtain ⟨up,e⟩:=O4 (l:=l) (fl:=fl) (n:=n) (c:=c) (ms:=ms) (s:=s)
 rw [e]; unfold GQ; rw [if_neg h,if_pos h2]
theorem sel_up {n:Nat} {c:FC} {ms:List Mb} {s:Sd} {i:Nat} (h:(aX ms s).length≠1) (h2:picked c (having (comes fl l c) s)=[]) (h3:bE (having (comes fl l c) s)=[i]):dE fl l (n+1) c ms s =
  if 1<(aX (fl (cO c i).name).mems s).length then (bJ (cO c i) (dE fl l n (ae l (cO c i).name) (fl (cO c i).name).mems s).1,(dE fl l n (ae l (cO c i).name) (fl (cO c i).name).mems s).2) else ([],false):=by
 rw [Dz]
 unfold GQ
 rw [if_neg h,if_neg (by rw [h2,h3]; simp),h3]
 rfl
theorem D7 (ms:List Mb) (s:Sd):(aX ms s).length<=ms.length:=by
 unfold aX
 rw [List.length_map]
 exact List.length_filter_le _ _
end
attribute [local irreducible] Go.Ck.Sub St Cd Xt Nx DrL LsW
section
variable {v v':Value}
theorem yC {mb : Nat} {m : List (Nm × Value)} {fl : Nm -> Fl} {l : FS} (hF : Fits l fl) : ∀ (n : Nat) (X : Res) (c : FC) (cn : Nm) (uc : List Value) (mv : Value) (ms : List Mb) (s : Sd), c = ae l cn -> rk (aZ l) cn <= n -> Ls X v l -> Enc.rep X uc c -> FlR X m fl -> Ls X mv ms ->
  eZ prog 98 #[.agg #[v,.map (some mb)],.agg uc.toArray,mv,.agg #[sv s.cls,sv s.name]] X [mps mb m] λu Y k'=>k'=[mps mb m]/\u = .tuple #[sv (dE fl l n c ms s).1,.bool (dE fl l n c ms s).2]:=by
 intro n
 induction n using Nat.strongRecOn with
 | ind n ih =>
 intro X c cn uc mv ms s hcn hrk hl hc hm hms
 have hcl:c∈l\/c=Cg:=by rw [hcn]; exact H9
 have hnl:=D7 ms s
 have hml:maxLen=9223372036854775807:=rfl
 have huc:=Enc.len hc
 obtain ⟨hj1,hj2⟩:=hF.join hcl s
 unfold eZ
 refine Fy (n:=120) func98 Z Z (len Z) λhr w0 hw0=>?_
 refine cQ (aV Z Z λb4=>?_)
 refine aV Z Z λb5=>?_
 refine aV Z Z λb7=>?_
 refine sA Z<|sA Z<|sK [2,4,5,7,8,9] Z<|cQ<|sM Z<|sV (af Z iN Z ag) ?_
 refine aH Z Z Gc Z (mi hms) ?_
 rintro u h' ⟨T,rfl,hu,rfl⟩
 simp only [lC,lN]
 unfold NR
 refine sA Z<|sK [4,5,7,8,9,10] Z<|cS<|cS (fO (v:=u) (E:=9) (sz:=1) (rows:=(aX ms s).map nC) slq λwa wc hwf hwl hwm=>?_)
 rw [List.length_map] at hwf hwl
 subst hwf
 refine cR<|sM Z<|sV (aC Z underlying40)<|sV (dX Z Z)<|sK [4,5,7,8,9,10,23] Z<|cC Z (λhd=>?_)<|λhd=>?_
 .have h1:(aX ms s).length=1:=by have:=beq_iff_eq.1 hd; omega
  rw [O5 h1]
  refine fD (r:=VR (.slice wa (aX ms s).length wc) 9 1<|(aX ms s).map nC) slq λhok=>?_
  obtain ⟨ab,ao,rfl⟩:∃ ab ao,wa=some ⟨ab,ao,none⟩:=by
   obtain ⟨f0,hf0⟩:=hok
   rcases VR.form hf0 with ⟨h3,h4⟩ | ⟨b,o,cp,h3,-⟩
   .have:=List.map_eq_nil_iff.1 h4
    rw [this] at h1; cases h1
   .rw [List.length_map] at h3; cases h3; exact ⟨b,o,rfl⟩
  have hnx:((aX ms s).map nC)[0]? = some [sv ((aX ms s).headD [])]:=by
   match hq:aX ms s,h1 with
   | [a],_=>rfl
  refine cQ<|sM Z<|sV (vI (k:=0) Z Z jG Z (by omega) Z)<|sV (vY Z ld9 (ha:=⟨_,_,slq,dU hnx 0<|by simp⟩)) ?_
  refine sA Z<|sA Z<|sK [8,9] Z<|cT<|xR ?_
  exact kv (bs:=[]) Z Z ⟨X,_,Z,Ext.refl X,Z,Z⟩ sbq
 .have hn1:(aX ms s).length≠1:=λh=>by rw [h] at hd; exact absurd hd (by decide)
  refine cK<|xT<|cQ (au al40 λb11=>?_)
  refine sK [4,5,7,8,9,11] Z<|cQ (IP (ltn Z) λbm=>?_)
  refine au al250 λb12=>?_
  refine bi Z Z sz250 ?_
  refine sK [4,5,7,8,9,11,12] Z<|cS<|cQ<|sV (af Z ig Z ag) ?_
  refine sV (af Z gU huc ag) ?_
  refine aH Z Z en171 Z (DY (v:=v) (mb:=mb) (uc:=uc)) ?_
  rintro u h' ⟨c1,c2,rfl,rfl⟩
  simp only [lC,lN]
  refine sK [4,5,7,8,9,11,12,30] Z<|cB<|dY (dn 9 1) (ji Z en237 λyl db rec hst hpe hps hasg hbo hkn2=>?_)
  refine ⟨_,Ct.perm (Hu (σ := Value×List Nm×List Nat) (mb:=mb) (b1:=c1) (b2:=c2) (yl:=yl) (λq=>pt yl (.loop rec)::pt db (.deferred<|some [])::pt b11 (cl [q.1] 40)::VR q.1 9 1 (q.2.1.map nC)::pt b12 (cl [.map (some bm)] 250)::mpr bm (qZ q.2.2)::pt b4 (cl [v,.map (some mb)] 114)::pt b5 (cl uc 44)::pt b7 (cl [sv s.cls,sv s.name] 69)::VR (.slice wa (aX ms s).length wc) 9 1 ((aX ms s).map nC)::hr)
   (λk Y q=>q.1.oneCell'=true/\q.2.1=picked c (having ((comes fl l c).take k) s)/\q.2.2=bE (having ((comes fl l c).take k) s)) (λ_ _ _=>False) (.slice none 0 0,[],[]) ⟨rfl,rfl,rfl⟩ hl hc hm (hF.hf hcl) ?_ (λ_ _ _ _ _ h=>h)) ?_,?_⟩
  .rintro k Y ⟨w, ns, ps⟩ x us hx hE hrep ⟨hw, hns, hps2⟩
   simp only at hw hns hps2 ⊢
   have hone:=Enc.ones hrep
   have hus:=Enc.len hrep
   have hlt:=(List.getElem?_eq_some_iff.1 hx).1
   have htk:(comes fl l c).take (k+1)=(comes fl l c).take k++[x]:=by rw [cz hlt,(List.getElem?_eq_some_iff.1 hx).2]
   obtain ⟨p,hp,-,-,-⟩:=gz<|List.mem_of_getElem? hx
   have hpx:cO c x.par=p:=by unfold cO; rw [hp]; rfl
   have hpm:=List.mem_of_getElem? hp
   have hplt:=(List.getElem?_eq_some_iff.1 hp).1
   have hhs:=Ie ((comes fl l c).take k) x s
   have hpk:=Ig c (having ((comes fl l c).take k) s) x
   have hfp:=Cj (having ((comes fl l c).take k) s) x
   have hnsl:=Bp c<|having ((comes fl l c).take k) s
   have hhl:(having ((comes fl l c).take k) s).length<=((comes fl l c).take k).length:=List.length_filter_le _ _
   have hfew:=hF.few hcl
   rw [List.length_take] at hhl
   rw [hpx] at hpk
   rw [<- hns] at hpk hnsl
   rw [<- hps2] at hfp
   obtain ⟨ca,cb,ce,cf,ci,rfl,hca,hcb,hce,hcf,hci⟩:=gB hc
   obtain ⟨pb,po,pcap,pus,e1,hpus,hprd,hpr⟩:=(hcb.up hE).at hp
   subst e1
   have hsl:=hF.sel hcl p hpm
   obtain ⟨pa,pr,pu,pd,pS,rfl,hpa,hpr,hpu,hpd,hpsel⟩:=hpr
   obtain ⟨x2,x5,xy,x11,x12,x13,rfl,hxm⟩:=iD hrep
   obtain ⟨hx2,hx5,hxy,hx11,hx12,hx13⟩:=hxm
   obtain ⟨ax2,kx2,rfl,_⟩:=id hx2.form
   unfold pE at *
   refine Yc.perm (rz (n:=120) (rec:=rec) (args:=[.agg [sv x.og.par,sv x.og.name,.int .i64 x.par,sv x.mem.name,.int .i64 x.mem.kind,.slice ax2 x.mem.seeds.length kx2,sv x.mem.impl.cls,sv x.mem.impl.name,x5,.int .i64 x.mem.ty.kind,sv x.mem.ty.name,xy,.bool x.mem.ty.void,.bool x.mem.ty.sep,x11,x12,x13,.int .i64 x.was].toArray]) (hf:=pt db (.deferred<|some [])::pt b11 (cl [w] 40)::VR w 9 1 (ns.map nC)::pt b12 (cl [.map (some bm)] 250)::mpr bm (qZ ps)::pt b4 (cl [v,.map (some mb)] 114)::pt b5 (cl [sv c.name,.bool c.dfd,ca,.slice (some ⟨pb,po,none⟩) c.pars.length pcap,ce,cf,ci] 44)::pt b7 (cl [sv s.cls,sv s.name] 69)::VR (.slice wa (aX ms s).length wc) 9 1 ((aX ms s).map nC)::Y::mps mb m::hr) (by rw [hps]; rfl) hkn2 (by rw [hps]; decide) ?_) (by exact (by repeat (first | exact Pm.refl | refine Pm.cons slq ?_):Pm _ _).perm)
   intro hr2 w1
   rw [hasg,hps,hbo]
   simp only [lC,lN]
   refine fD (r:=VR w 9 1<|ns.map nC) slq λhokw=>?_
   refine cR (au rP λb13=>?_)
   refine ai Z Z mY Z hone ?_
   refine sN<|nK [5,7,8,9,11,12,13] Z<|ax<|lW Z slq (by first | rfl | assumption) ?_
   refine cB<|cS<|cQ<|sV (vF Z ed Z)<|sV (vF Z eT Z)<|sV (vY Z pW) ?_
   refine sV (af Z iN Z ag) ?_
   refine bf Z Z en33 Z (ww hx2) ?_
   refine sV (bg Z)<|sK [5,8,9,11,12,13,37] Z<|cC Z (λhct=>?_)<|λhct=>?_
   .have hct:x.mem.seeds.contains s=false:=Ze
    rw [hct] at hhs
    simp only [Bool.false_eq_true,if_false] at hhs
    refine aB<|xE<|xY<|dI slq (.inl ⟨Z,Y,(w,ns,ps),Ext.refl Y,⟨hw,by rw [htk,hhs]; exact hns,by rw [htk,hhs]; exact hps2⟩,Z⟩) ?_
    rw [dJ hst hpe]
    exact sbq
   .have hct:x.mem.seeds.contains s=true:=Ze
    rw [hct] at hhs
    simp only [if_true] at hhs
    rw [<- hhs,<- htk] at hpk hfp
    refine cK<|xT<|cQ<|sV (vY Z ld250) ?_
    refine sV (vF Z zb Z)<|sV (vY Z ld3) ?_
    refine Eo Z Z Z mp250 slq ?_
    rw [Ih]
    refine sK [5,8,9,11,13] Z<|cS<|bC (ork [(0,2),(1,1),(2,2),(3,1),(4,2),(5,2),(6,1),(7,2),(8,2),(9,1),(10,1),(11,2),(12,1),(13,2),(14,2),(15,1),(16,1),(17,2),(18,2)] .nil) (λ_=>true) mixed Zz ?_
    refine dV Z (vF Z eP Z)<|bu Z (vY Z lD) ?_
    refine dV Z (vF Z zb Z)<|bu Z (vY Z ld3) ?_
    have hsel1:=fQ (Fu hpsel) x.mem.name hsl
    have hsel2:=fQ (iX hokw) x.mem.name<|by omega
    refine dV Z (vI (k:=x.par) Z Z lY Z hplt Z)<|dV Z (vF Z Ae Z)<|bu Z (vY Z gq (ha:=⟨_,_,slq,hprd 5<|by simp⟩)) ?_
    refine dV Z (vF Z ed Z)<|dV Z (vF Z eQ Z)<|bu Z (vY Z ld9) ?_
    refine jE Z Z Z EI Z (hsel1) ?_
    cases hq1:p.sel.contains x.mem.name
    .rw [hq1,Bool.false_and] at hpk
     simp only [Bool.false_eq_true,if_false] at hpk
     refine dV Z (vM Z)<|kC Z Z Z Z ?_
     iterate 2 refine jm rfl rfl rfl rfl ?_
     iterate 2 refine kC rfl rfl rfl rfl ?_
     refine jm Z Z Z Z ?_
     refine dV Z (vP Z Z)<|bB<|nK [8,9,11,13,59] Z<|nT<|aG Z ?_
     refine cK<|xB<|dI slq (.inl ⟨Z,Y,(w,ns,if ps.contains x.par then ps else ps++[x.par]),Ext.refl Y,⟨hw,hpk.symm,hfp.symm⟩,Z⟩) ?_
     rw [dJ hst hpe]
     exact sbq
    .rw [hq1,Bool.true_and] at hpk
     refine dV Z (vM Z)<|jl Z Z Z (vY Z gq) ?_
     refine dC Z Z Z (vF Z ed Z)<|dC Z Z Z (vF Z eQ Z)<|jl Z Z Z (vY Z ld9) ?_
     refine yV Z Z Z Z Z EI Z (hsel2) ?_
     refine dC Z Z Z (bg Z)<|dV Z (vQ Z Z)<|bB<|nK [8,9,11,13,59] Z<|nT<|cC Z (λhap=>?_)<|λhap=>?_
     .have hap:ns.contains x.mem.name=false:=by simpa using hap
      rw [hap] at hpk
      simp only [Bool.not_false,if_true] at hpk
      refine cR<|sV (vY Z gq) ?_
      refine sV (vF Z ed Z)<|sV (vF Z eQ Z)<|sV (vY Z ld9) ?_
      refine ak (cells:=[sv x.mem.name]) Z underlying40 gp Z Z Zz (ltn Z) λb64=>?_
      refine eG [[sv x.mem.name]] Z Z underlying40 gp Z (by decide) (show Sel _ (VR w 9 1<|ns.map nC) _ from slq) (by simp) Z (λj u2 hu2=>bV<|bZ Zt) (by simp [sv,Value.oneCell']) (by rw [List.length_map]; omega) (by rw [List.length_map]; omega) (ltn Z) λw2 hw2 _=>?_
      rw [show ns.map nC++[[sv x.mem.name]]=(ns++[x.mem.name]).map nC by simp [nC]]
      refine bi Z Z yI ?_
      refine sN<|nK [8,9] Z<|ax<|xB<|dI slq (.inl ⟨Z,Y,(w2,ns++[x.mem.name],if ps.contains x.par then ps else ps++[x.par]),Ext.refl Y,⟨hw2,hpk.symm,hfp.symm⟩,Z⟩) ?_
      rw [dJ hst hpe]
      exact sbq
     .have hap:ns.contains x.mem.name=true:=by simpa using hap
      rw [hap] at hpk
      simp only [Bool.not_true,Bool.false_eq_true,if_false] at hpk
      refine cK<|xB<|dI slq (.inl ⟨Z,Y,(w,ns,if ps.contains x.par then ps else ps++[x.par]),Ext.refl Y,⟨hw,hpk.symm,hfp.symm⟩,Z⟩) ?_
      rw [dJ hst hpe]
      exact sbq
  .exact (by repeat (first | exact Pm.refl | refine Pm.cons slq ?_):Pm _ _).perm
  .rintro u h' ⟨rfl, (⟨Y, ⟨w, ns, ps⟩, hE, ⟨hw, hns, hps2⟩, rfl⟩ | ⟨k, Y, t, _, hS, rfl⟩)⟩
   .simp only at hw hns hps2
    rw [List.take_length] at hns hps2
    refine ⟨rec,_,slq,(by rw [hst]; simp),?_⟩
    rw [hpe]
    dsimp only
    refine xB<|xT<|cS<|cS (fO (v:=w) (E:=9) (sz:=1) (rows:=ns.map nC) slq λpa pc hpf hpl hpm=>?_)
    rw [List.length_map] at hpf hpl
    subst hpf
    refine cR<|sV (vY Z gq) ?_
    refine sV (aC Z underlying40)<|sV (dh Z Z)<|sM Z ?_
    by_cases h0:ns=[]
    .have hg0:decide ((0:Int)<(ns.length:Nat))=false:=by rw [h0]; rfl
     rw [hg0]
     refine sG Z Z (vY Z ld250) ?_
     refine sG Z Z (v_mlenI Z underlying250 slq) ?_
     refine sG Z Z (bT Z Z)<|sV (vP Z Z)<|sK [4,5,7,8,9,11,12,73] Z ?_
     by_cases h1:ps.length=1
     .have hg1:((((qZ ps).length:Nat):Int) != 1)=false:=by unfold qZ; rw [List.length_map,h1]; rfl
      rw [hg1]
      obtain ⟨i,rfl⟩:=List.length_eq_one_iff.1 h1
      have hfr:bE (having (comes fl l c) s)=[i]:=hps2.symm
      have hpk0:picked c (having (comes fl l c) s)=[]:=by rw [<- hns]; exact h0
      have hpm:cO c i∈c.pars:=o8 (fl:=fl) (l:=l) (s:=s) (by rw [hfr]; simp)
      obtain ⟨n',rfl,hrk'⟩:∃ n',n=n'+1/\rk (aZ l) (cO c i).name<=n':=by
       have h2:=iJ hF.right.sys.acyc<|dK hF.right.sys (c:=cn) (p:=cO c i) (by rw [<- hcn]; exact hpm)
       exact ⟨n - 1,by omega,by omega⟩
      have hih:=λZq (hE:Ext X Zq) (cus:List Value) (mxv:Value) hrep hmx=>ih n' (Nat.lt_succ_self _) Zq (ae l (cO c i).name) (cO c i).name cus mxv (fl (cO c i).name).mems s rfl hrk' (hl.up hE) hrep (hm.up hE) hmx
      rw [sel_up hn1 hpk0 hfr]
      obtain ⟨hplt,hpi⟩:i<c.pars.length/\c.pars[i]? = some (cO c i):=by
       have hi:i∈bE (having (comes fl l c) s):=by rw [hfr]; simp
       obtain ⟨x,hx,rfl⟩:=eX.1 hi
       obtain ⟨p,hp,-⟩:=gz (List.mem_filter.1 hx).1
       refine ⟨(List.getElem?_eq_some_iff.1 hp).1,?_⟩
       unfold cO; rw [hp]; rfl
      generalize dE fl l n' (ae l (cO c i).name) (fl (cO c i).name).mems s=r at hih ⊢
      generalize cO c i=p at hih hpi hpm ⊢
      obtain ⟨ca,cb,ce,cf,ci,rfl,hca,hcb,hce,hcf,hci⟩:=gB hc
      obtain ⟨cb,ck,rfl,_⟩:=id hcb.form
      clear huc
      refine aG Z ?_
      refine cK<|xT<|cS<|cQ<|sV (vY Z ld250) ?_
      refine OT Z mp250 slq (ltn Z) λib hnd=>?_
      refine sK [4,5,7,8,9,80] Z<|cB<|aY (σ := List (Int×Value)×Option (Int×Value)×Res) (λq=>[(4,.pointer (some ⟨b4,0,none⟩)),(5,.pointer (some ⟨b5,0,none⟩)),(7,.pointer (some ⟨b7,0,none⟩)),(80,.pointer (some ⟨ib,0,none⟩))]) (λq=>mit bm ib (qZ [i]) q.1 q.2.1::pt db (.deferred<|some [])::pt b4 (cl [v,.map (some mb)] 114)::pt b5 (cl [sv c.name,.bool c.dfd,ca,.slice cb c.pars.length ck,ce,cf,ci] 44)::pt b7 (cl [sv s.cls,sv s.name] 69)::q.2.2::mps mb m::hr) (λq=>Ext X q.2.2/\(q.1=qZ [i]\/(q.1=[]/\¬ 1<(aX (fl p.name).mems s).length))) (λq=>q.1.length) (qZ [i],none,Y) ⟨hE,.inl Z⟩ ?_
      rintro ⟨left,last,Zq⟩ ⟨hE2,hleft⟩
      simp only at hE2 hleft
      dsimp only
      refine cQ<|st_next Z slq (ltn Z) (λhl0=>?_)<|λk v1 left' hp=>?_
      .subst hl0
       have hno:¬ 1<(aX (fl p.name).mems s).length:=hleft.elim (λe=>by cases e) λe=>e.2
       rw [if_neg hno]
       refine sV (ah Z Z)<|sK [4,5,7,80,82] Z<|cS<|aG Z ?_
       refine aB<|xE<|xE<|xY<|xT<|cQ<|sA Z<|sA Z<|sK [8,9] Z<|cT ?_
       exact kv (bs:=[db]) Z Z ⟨Zq,_,Z,hE2,Z,Z⟩ sbq
      .refine sV (ah Z Z)<|sK [4,5,7,80,82] Z<|cS<|aQ Z ?_
       refine cK<|xT<|cB<|cQ<|sV (v_entry Z slq) ?_
       have hki:k=(i:Int)/\left'=[]:=by
        rcases hleft with e | ⟨e,_⟩
        .rw [e] at hp
         have h3:=hp.length_eq
         have h4:(k,v1)∈qZ [i]:=hp.mem_iff.2<|by simp
         simp only [qZ,List.map_cons,List.map_nil,List.mem_singleton,Prod.mk.injEq] at h4
         simp only [qZ,List.map_cons,List.map_nil,List.length_cons,List.length_nil] at h3
         exact ⟨h4.1,List.eq_nil_of_length_eq_zero<|by omega⟩
        .rw [e] at hp
         have:=hp.length_eq
         simp at this
       obtain ⟨rfl,rfl⟩:=hki
       obtain ⟨pb,po,pcap,pus,e1,hpus,hprd,hpr⟩:=(hcb.up hE2).at hpi
       obtain ⟨rfl,rfl⟩:cb=some ⟨pb,po,none⟩/\ck=pcap:=by cases e1; exact ⟨rfl,rfl⟩
       have hpr0:=hpr
       obtain ⟨pa,pr,pu,pd,pS,rfl,hpa,hpR,hpu,hpd,hpsel⟩:=hpr
       obtain ⟨aA,kA,rfl,_⟩:=id hpa.form
       obtain ⟨aR,kR,rfl,_⟩:=id hpR.form
       obtain ⟨aU,kU,rfl,_⟩:=id hpu.form
       obtain ⟨aD,kD,rfl,_⟩:=id hpd.form
       obtain ⟨aS,kS,rfl,_⟩:=id hpsel.form
       obtain ⟨fus,hfl,hfr2⟩:=hm.up hE2 p.name
       obtain ⟨mx,my,rfl,hmx,hmy⟩:=hfr2
       obtain ⟨mA,mK,rfl,_⟩:=id hmx.form
       refine sV (ah Z Z)<|sA Z<|sK [4,5,7,14,80] Z<|cQ<|sV (vF Z eP Z)<|sV (vY Z lD) ?_
       refine sM Z<|sV (vI (k:=i) Z Z lY Z hplt Z)<|sV (af Z oP Z hprd) ?_
       refine au vO λb15=>?_
       refine ai Z Z qU Z Z ?_
       refine sK [4,5,7,15,80] Z<|cQ<|sV (vF Z iW Z)<|sV (vY Z qI) ?_
       refine sV (vF Z gV Z)<|sV (vY Z ld9) ?_
       refine sV (gM hfl<|bP Z Z qG qH slq) ?_
       refine sV (iU (k:=2) Z underlying55 Z isAgg52 Z)<|sV (af Z iN Z ag) ?_
       refine aH Z Z Gc Z (mi (s:=s) hmx) ?_
       rintro u h' ⟨T,rfl,hu2,rfl⟩
       simp only [lC,lN]
       unfold NR
       refine jJ (v:=u) (E:=9) (sz:=1) (rows:=(aX (fl p.name).mems s).map nC) slq λqa qc hqf hql hqm=>?_
       rw [List.length_map] at hqf hql
       subst hqf
       refine sV (aC Z underlying40)<|sV (dh Z Z)<|sK [4,5,7,15,80,99] Z<|cC Z (λhmore=>?_)<|λhmore=>?_
       .have hmore:1<(aX (fl p.name).mems s).length:=by
         have:=of_decide_eq_true hmore
         omega
        rw [if_pos hmore]
        have hcc:=mG (n:=p.name) (fv:=.map<|some mb) (hl.up hE2) rfl
        refine cS<|bC (ork [(0,1),(1,1),(2,2),(3,1),(5,2),(6,1),(7,2),(8,1),(9,1),(10,1),(11,1),(4,0),(12,0),(13,2),(14,2),(15,2),(16,2),(17,2)] .nil) (λi => !(Nat.beq i 12)) mixed Zz ?_
        refine bu Z (af Z ig Z ag) ?_
        refine bu Z (af Z ig Z ag) ?_
        refine dV Z (vF Z gV Z)<|bu Z (vY Z ld9) ?_
        refine dV Z (vF Z iW Z)<|bu Z (vY Z qI) ?_
        refine dV Z (vF Z gV Z)<|bu Z (vY Z ld9) ?_
        refine bu Z (gM hfl<|bP Z Z qG qH slq) ?_
        refine bu Z (iU (k:=2) Z underlying55 Z isAgg52 Z)<|bu Z (af Z iN Z ag) ?_
        refine aT Z<|aH Z Z en56 Z (hcc) ?_
        rintro u h' ⟨rfl,cus,rfl,hcr⟩
        simp only [lC,lN]
        refine aW ?_
        refine aT Z<|bW hw0 Z Z en98 Z (hih Zq hE2 cus _ hcr hmx) ?_
        rintro u h' ⟨Z2,k2,rfl,hE3,rfl,rfl⟩
        simp only [lC,lN]
        refine aW ?_
        refine dV Z (vM Z)<|dV Z (ah Z Z)<|dV Z (ah Z Z)<|dV Z (vA Z)<|dV Z (vA Z)<|bB<|nK [4,5,7,15,16,17,80] Z<|nT<|cQ<|sV (af Z oP Z ag) ?_
        refine sM Z<|aH Z Z en173 Z (uI (n:=r.1)<|Enc.up hE3.rd hpr0) ?_
        rintro u h' ⟨rfl,rfl⟩
        simp only [lC,lN]
        refine sM Z<|sA Z<|sA Z<|sK [8,9] Z<|cT<|xW<|xR<|xW<|xR ?_
        exact kv (bs:=[db]) Z Z ⟨Z2,_,Z,hE2.trans hE3,Z,Z⟩ sbq
       .have hmore:¬ 1<(aX (fl p.name).mems s).length:=by
         have:=of_decide_eq_false hmore
         omega
        refine cK<|xB ?_
        refine aL ([],some ((i:Int),v1),Zq) ⟨hE2,.inr ⟨rfl,hmore⟩⟩ (by rcases hleft with e | ⟨e,_⟩ <;> rw [e] at hp <;> simp [qZ] at hp ⊢ <;> simp [e,qZ])
     .have hg1:((((qZ ps).length:Nat):Int) != 1)=true:=by
       unfold qZ
       rw [List.length_map]
       simp only [bne_iff_ne,ne_eq]; omega
      rw [hg1]
      refine aQ Z ?_
      refine cS<|bC (ork [(0,1),(2,1),(3,2),(4,2),(1,0),(5,2),(6,2)] .nil) (λ_=>true) mixed Zz ?_
      refine bu Z (vY Z gq) ?_
      refine bu Z (vY Z gq) ?_
      refine dV Z (aC Z underlying40)<|dV Z (dX Z Z) ?_
      rw [Ii hn1 (.inr (by rw [<- hps2]; exact h1)),<- hns]
      refine aT Z<|bW hw0 Z Z en172 Z (Ld (xs:=ns) (by rw [hns]; omega) (by rw [hns]; exact hj2)) ?_
      rintro u h' ⟨rfl,rfl⟩
      simp only [lC,lN]
      refine aW ?_
      refine dV Z (vA Z)<|dV Z (vA Z)<|bB<|nK [8,9] Z<|nT<|cT<|xR ?_
      rw [show (((ns.length:Nat):Int) == 1)=(ns.length == 1) by rw [Bool.eq_iff_iff]; simp; omega]
      exact kv (bs:=[db]) Z Z ⟨Y,_,Z,hE,Z,Z⟩ sbq
    .have hg0:decide ((0:Int)<(ns.length:Nat))=true:=by
      have:=List.length_pos_iff.2 h0
      simp; omega
     rw [hg0]
     iterate 3 refine aF rfl rfl rfl ?_
     refine sV (vQ Z Z)<|sK [4,5,7,8,9,11,12,73] Z<|aQ Z ?_
     refine cS<|bC (ork [(0,1),(2,1),(3,2),(4,2),(1,0),(5,2),(6,2)] .nil) (λ_=>true) mixed Zz ?_
     refine bu Z (vY Z gq) ?_
     refine bu Z (vY Z gq) ?_
     refine dV Z (aC Z underlying40)<|dV Z (dX Z Z) ?_
     rw [Ii hn1 (.inl (by rw [<- hns]; exact h0)),<- hns]
     refine aT Z<|bW hw0 Z Z en172 Z (Ld (xs:=ns) (by rw [hns]; omega) (by rw [hns]; exact hj2)) ?_
     rintro u h' ⟨rfl,rfl⟩
     simp only [lC,lN]
     refine aW ?_
     refine dV Z (vA Z)<|dV Z (vA Z)<|bB<|nK [8,9] Z<|nT<|cT<|xR ?_
     rw [show (((ns.length:Nat):Int) == 1)=(ns.length == 1) by rw [Bool.eq_iff_iff]; simp; omega]
     exact kv (bs:=[db]) Z Z ⟨Y,_,Z,hE,Z,Z⟩ sbq
   .exact hS.elim
end
end Go.Fl
