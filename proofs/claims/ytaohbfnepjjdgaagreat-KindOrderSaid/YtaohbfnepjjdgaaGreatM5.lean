/-
  Laws: what the arguments of a law read as,deep data as Lean data; the same reading behind the call. Generic: nothing of the program is named here. No condition.
  Laws: from a contract to what a statement of a law asks. Generic: nothing of the program is named here. No condition.
  Closed facts on the types,fields and functions of this seat,each reckoned by the kernel (printed by a program: facts.py). No condition.
  A row that a slice owns,opened and shut. Generic: nothing of the program is named here. No condition.
  Types of generic classes as plain data: equal types,depth,parts,formals replaced. No program in sight.
  Systems of generic classes as plain data: right types,right systems,what formals of ancestors are. No program in sight.
-/
import Derived.Test.YtaohbfnepjjdgaaGreatM4
import Derived.ProofKit
import Derived.OpenShut
import Derived.Test.YtaohbfnepjjdgaaGreatRows
import Derived.Test.YtaohbfnepjjdgaaGreatM1
set_option linter.unusedVariables false
set_option linter.unusedSimpArgs false
namespace Go.Ck
open Go Go.RowKit Go.ChangeShapes Go.WideShapes
inductive Ty where
 | int (k:IntKind)
 | bool
 | str
 | slice (t:Ty)
 | struct (fs:List Ty)
 | any (n:Nat) (L:List TypeId)
mutual
def Ty.D:Ty→Type
 | .int _=>Int
 | .bool=>Bool
 | .str=>ByteArray
 | .slice t=>List (Ty.D t)
 | .struct fs=>Ty.Ds fs
 | .any _ _=>Unit
def Ty.Ds:List Ty→Type
 | []=>Unit
 | t::ts=>Ty.D t×Ty.Ds ts
end
mutual
def Ty.sz:Ty→Nat
 | .int _=>1
 | .bool=>1
 | .str=>1
 | .slice _=>1
 | .struct fs=>Ty.szs fs
 | .any n _=>n
def Ty.szs:List Ty→Nat
 | []=>0
 | t::ts=>Ty.sz t+Ty.szs ts
end
mutual
def Rep (r : Res) : (t : Ty) → List Value → t.D → Prop
 | .int k,cs,n=>cs=[.int k n]∧(Lit.int k n).wf=true
 | .bool,cs,b=>cs=[.bool b]
 | .str,cs,s=>cs=[.string s]∧s.size≤maxLen
 | .slice t,cs,l=>∃ a cap,cs=[.slice a (List.length l) cap]∧List.length l≤cap∧cap≤maxLen∧(a=none→cap=0) ∧
   (l=([]:List t.D)∨∃ b o,a=some ⟨b,o,none⟩∧∀ (i:Nat) (x:t.D),@getElem? (List t.D) Nat t.D _ _ l i=some x→∃ us:List Value,us.length=t.sz∧Rds r b (o+i * t.sz) us∧Rep r t us x)
 | .struct fs,cs,x=>Reps r fs cs x
 | .any n _,cs,_=>cs.length=n
def Reps (r:Res):(fs:List Ty)→List Value→Ty.Ds fs→Prop
 | [],cs,_=>cs=[]
 | t::ts,cs,(x,xs)=>∃ u us,cs=u++us∧u.length=t.sz∧Rep r t u x∧Reps r ts us xs
end
def closedB (P:Program) (L:List TypeId):Bool:=L.all fun t=>match P.underlying t with
 | some (.int _)=>true
 | some .bool=>true
 | some .string=>true
 | some (.slice e)=>L.contains e && Nat.ble 1 (P.cellsOf e)
 | some (.struct fs)=>fs.toList.all fun f=>L.contains f.type
 | _=>false
def structB (P:Program) (t:TypeId):Bool:=match P.underlying t with
 | some (.struct _)=>true
 | _=>false
mutual
def fitB (P:Program):Ty→TypeId→Bool
 | .int k,t=>match P.underlying t with | some (.int k')=>decide (k'=k) | _=>false
 | .bool,t=>match P.underlying t with | some .bool=>true | _=>false
 | .str,t=>match P.underlying t with | some .string=>true | _=>false
 | .slice u,t=>match P.underlying t with | some (.slice e)=>Nat.beq (P.cellsOf e) u.sz && Nat.ble 1 u.sz && fitB P u e | _=>false
 | .struct fs,t=>match P.underlying t with | some (.struct gs)=>Nat.beq (P.cellsOf t) (Ty.szs fs) && fitsB P fs gs.toList 0 | _=>false
 | .any n L,t=>closedB P L && L.contains t && Nat.beq (P.cellsOf t) n && structB P t
def fitsB (P:Program):List Ty→List Field→Nat→Bool
 | [],[],_=>true
 | t::ts,f::fs,off=>Nat.beq f.offset off && Nat.beq (P.cellsOf f.type) t.sz && fitB P t f.type && fitsB P ts fs (off+t.sz)
 | _,_,_=>false
end

section
variable {H:Type} {enc:TypeId×Value→H} {P:Program} {W:World} {held:Bool} {sp:Nat→Bool}
theorem cells?_at {base:Nat} {a:Addr} {n:Nat} {cs:List Value} (h:W.cells? base a n=some cs):cs.length=n∧∀ i,(hi:i<cs.length)→W.cell? (a.add i)=some cs[i]:=by
 obtain ⟨_,h1,h2⟩:=World.cells?_some h
 exact ⟨h1,fun i hi=>by rw [h2 i (by omega),List.getElem?_eq_getElem hi]⟩
theorem cell_spot {a : Addr} {v : Value} (h : W.cell? a = some v) : a.spot = none ∧ a.block < W.heap.size := by
 unfold World.cell? at h
 cases hq:W.heap[a.block]? with
 | none=>rw [hq] at h; cases h
 | some o =>
  rw [hq] at h
  have hb:=(Array.getElem?_eq_some_iff.1 hq).1
  cases o with
  | cells c t f =>
   by_cases hs:a.spot.isSome=true
   ·simp [hs] at h
   ·exact ⟨by simpa using hs,hb⟩
  | _=>cases h
mutual
theorem rep_of : (ty : Ty) → ∀ (t : TypeId) (n : Nat) (cs : List Value) (x : DataW H × List MemPlace), fitB P ty t = true → DataW.trod enc P W 0 (fun _ => true) held n t cs = some x → cs.length = ty.sz ∧ ∃ y, Rep (old W) ty cs y
 | .int k,t,n,cs,x,hf,h=>by
  unfold fitB at hf
  cases hu:P.underlying t with
  | none=>rw [hu] at hf; cases hf
  | some d =>
   rw [hu] at hf
   cases d <;> try (cases hf; done)
   rename_i k'
   have hk:k'=k:=by simpa using hf
   subst hk
   obtain ⟨m,h1,h2,h3⟩:=DataW.trod_int hu h
   subst h1
   exact ⟨Z,m,Z,h3⟩
 | .bool,t,n,cs,x,hf,h=>by
  unfold fitB at hf
  cases hu:P.underlying t with
  | none=>rw [hu] at hf; cases hf
  | some d =>
   rw [hu] at hf
   cases d <;> try (cases hf; done)
   obtain ⟨m,h1,h2⟩:=DataW.trod_bool hu h
   subst h1
   exact ⟨Z,m,Z⟩
 | .str,t,n,cs,x,hf,h=>by
  unfold fitB at hf
  cases hu:P.underlying t with
  | none=>rw [hu] at hf; cases hf
  | some d =>
   rw [hu] at hf
   cases d <;> try (cases hf; done)
   obtain ⟨s,h1,h2,h3⟩:=DataW.trod_string hu h
   subst h1
   exact ⟨Z,s,Z,h3⟩
 | .slice u, t, n, cs, x, hf, h => by
  unfold fitB at hf
  cases hu:P.underlying t with
  | none=>rw [hu] at hf; cases hf
  | some d =>
   rw [hu] at hf
   cases d <;> try (cases hf; done)
   rename_i e
   simp only [Bool.and_eq_true] at hf
   obtain ⟨⟨hc,hp⟩,he⟩:=hf
   have hc:P.cellsOf e=u.sz:=Nat.eq_of_beq_eq_true hc
   have hp:1≤u.sz:=Nat.le_of_ble_eq_true hp
   rcases DataW.trod_slice hu h with ⟨h0,_⟩ | ⟨a,len,cap,elems,rest,m,_,h1,_,hb,hl,hm,hlen,hel,hsp,_⟩
   ·subst h0; exact ⟨rfl,[],none,0,rfl,Nat.le_refl _,Nat.zero_le _,fun _=>rfl,.inl rfl⟩
   ·subst h1
    have each:∀ i,i<len→∃ us y,us.length=u.sz∧(∀ j,(hj:j<us.length)→W.cell? ((a.add (i * u.sz)).add j)=some us[j])∧Rep (old W) u us y:=fun i hi=>by
     have h2:=hel i hi
     rw [List.getElem?_eq_getElem (by omega),hc,Option.bind_eq_some_iff] at h2
     obtain ⟨us,h3,h4⟩:=h2
     obtain ⟨h5,h6⟩:=cells?_at h3
     obtain ⟨_,y,h7⟩:=rep_of u e m us _ he h4
     exact ⟨us,y,h5,h6,h7⟩
    obtain ⟨ys, hys⟩ : ∃ ys : List u.D, ys.length = len ∧ ∀ i y, ys[i]? = some y → ∃ us : List Value, us.length = u.sz ∧ (∀ j, (hj : j < us.length) → W.cell? ((a.add (i * u.sz)).add j) = some us[j]) ∧ Rep (old W) u us y := by
     have key : ∀ k, k ≤ len → ∃ ys : List u.D, ys.length = k ∧ ∀ i y, ys[i]? = some y → ∃ us : List Value, us.length = u.sz ∧ (∀ j, (hj : j < us.length) → W.cell? ((a.add (i * u.sz)).add j) = some us[j]) ∧ Rep (old W) u us y := by
      intro k
      induction k with
      | zero=>exact fun _=>⟨[],rfl,fun i y h=>by simp at h⟩
      | succ k ih =>
       intro hk
       obtain ⟨ys,h1,h2⟩:=ih (by omega)
       obtain ⟨us,y,h3,h4,h5⟩:=each k (by omega)
       refine ⟨ys++[y],by simp [h1],fun i z hz=>?_⟩
       rcases Nat.lt_or_ge i ys.length with hlt | hge
       ·rw [List.getElem?_append_left hlt] at hz; exact h2 i z hz
       ·have hi:i=ys.length:=by
         have:=(List.getElem?_eq_some_iff.1 hz).1; simp at this; omega
        subst hi
        rw [List.getElem?_append_right (Nat.le_refl _)] at hz
        simp at hz
        subst hz
        rw [h1]; exact ⟨us,h3,h4,h5⟩
     exact key len (Nat.le_refl _)
    obtain ⟨hyl,hy⟩:=hys
    refine ⟨rfl,ys,some a,cap,by rw [hyl],by rw [hyl]; exact hl,hm,(fun h=>by cases h),?_⟩
    by_cases h0:len=0
    ·exact .inl (List.eq_nil_of_length_eq_zero (by omega))
    ·right
     have hspot:a.spot=none:=by
      obtain ⟨us,y,h3,h4,_⟩:=each 0 (by omega)
      have:=h4 0 (by omega)
      simp only [Nat.zero_mul,Addr.add,if_true] at this
      exact (cell_spot this).1
     obtain ⟨ab,ao,asp⟩:=a
     simp only at hspot
     subst hspot
     refine ⟨ab,ao,Z,fun i y hi=>?_⟩
     obtain ⟨us,h3,h4,h5⟩:=hy i y hi
     refine ⟨us,h3,fun j hj=>?_,h5⟩
     have:=h4 j hj
     rw [Addr.add_lit,Addr.add_lit] at this
     exact rd_old (cell_spot this).2 this
 | .struct fs,t,n,cs,x,hf,h=>by
  unfold fitB at hf
  cases hu:P.underlying t with
  | none=>rw [hu] at hf; cases hf
  | some d =>
   rw [hu] at hf
   cases d <;> try (cases hf; done)
   rename_i gs
   simp only [Bool.and_eq_true] at hf
   obtain ⟨hc,hfs⟩:=hf
   have hc:P.cellsOf t=Ty.szs fs:=Nat.eq_of_beq_eq_true hc
   obtain ⟨xs,m,_,_,hcl,hxl,hfe⟩:=DataW.trod_struct hu h
   refine ⟨by rw [hcl,hc]; rfl,?_⟩
   have:=reps_of fs gs.toList 0 m cs xs (by rw [hcl,hc]; omega) hfs (fun i f hi=>hfe i f (by simpa using hi)) (by simpa using hxl)
   obtain ⟨y,hy⟩:=this
   rw [List.drop_zero] at hy
   exact ⟨y,hy⟩
 | .any k L,t,n,cs,x,hf,h=>by
  unfold fitB at hf
  simp only [Bool.and_eq_true] at hf
  obtain ⟨⟨⟨_,_⟩,hc⟩,hs⟩:=hf
  unfold structB at hs
  cases hu:P.underlying t with
  | none=>rw [hu] at hs; cases hs
  | some d =>
   rw [hu] at hs
   cases d <;> try (cases hs; done)
   obtain ⟨xs,m,_,_,hcl,_,_⟩:=DataW.trod_struct hu h
   have hl:cs.length=k:=by rw [hcl]; exact Nat.eq_of_beq_eq_true hc
   exact ⟨hl,(),hl⟩
theorem reps_of : (fs : List Ty) → ∀ (gs : List Field) (off n : Nat) (cs : List Value) (xs : List (DataW H × List MemPlace)), cs.length = off + Ty.szs fs → fitsB P fs gs off = true →
  (∀ (i:Nat) (f:Field),gs[i]? = some f→DataW.trod enc P W 0 (fun _=>true) held n f.type ((cs.drop f.offset).take (P.cellsOf f.type))=xs[i]?)→xs.length=gs.length→∃ y,Reps (old W) fs (cs.drop off) y
 | [],gs,off,n,cs,xs,hl,hf,_,_=>⟨(),by
   show cs.drop off=[]
   apply List.drop_eq_nil_of_le
   simp only [Ty.szs] at hl; omega⟩
 | t::ts,[],off,n,cs,xs,hl,hf,_,_=>by simp [fitsB] at hf
 | t::ts,g::gs,off,n,cs,xs,hl,hf,hx,hxl=>by
  unfold fitsB at hf
  simp only [Bool.and_eq_true] at hf
  obtain ⟨⟨⟨h1,h2⟩,h3⟩,h4⟩:=hf
  have h1:g.offset=off:=Nat.eq_of_beq_eq_true h1
  have h2:P.cellsOf g.type=t.sz:=Nat.eq_of_beq_eq_true h2
  have h5:=hx 0 g rfl
  cases xs with
  | nil=>simp at hxl
  | cons x xs =>
   rw [h1,h2] at h5
   obtain ⟨h6,y,h7⟩:=rep_of t g.type n _ x h3 h5
   have hl':cs.length=off+(t.sz+Ty.szs ts):=hl
   obtain ⟨ys,h8⟩:=reps_of ts gs (off+t.sz) n cs xs (by omega) h4 (fun i f hi=>by have:=hx (i+1) f (by simpa using hi); simpa using this) (by simpa using hxl)
   refine ⟨(y,ys),(cs.drop off).take t.sz,cs.drop (off+t.sz),?_,h6,h7,h8⟩
   rw [← List.drop_drop,List.take_append_drop]
end

theorem cells?_same {W' : World} (hb : ∀ b, b < W.heap.size → W'.heap[b]? = W.heap[b]?) {base : Nat} {a : Addr} {n : Nat} {cs : List Value} (h : W.cells? base a n = some cs) : W'.cells? base a n = some cs := by
 cases n with
 | zero=>unfold World.cells? at h ⊢; simpa using h
 | succ n =>
  obtain ⟨h1,h2⟩:=cells?_at h
  have h3:=h2 0 (by omega)
  have hbl:a.block<W.heap.size:=by
   have:=(cell_spot h3).2
   simpa [Addr.add] using this
  have:∀ i,W'.cell? (a.add i)=W.cell? (a.add i):=fun i=>World.cell?_of_block (hb _ (by unfold Addr.add; split <;> exact hbl))
  unfold World.cells? at h ⊢
  simp only [this]; exact h
theorem mapM_same {α β : Type} {f g : α → Option β}:∀ {l:List α} {ys:List β},l.mapM f=some ys→(∀ x y,x∈l→y∈ys→f x=some y→g x=some y)→l.mapM g=some ys
 | [],ys,h,_=>by simpa using h
 | a::l,ys,h,hfg=>by
  simp only [List.mapM_cons,Option.bind_eq_bind,Option.bind_eq_some_iff,Option.pure_def,Option.some.injEq] at h
  obtain ⟨y,h1,zs,h2,rfl⟩:=h
  simp only [List.mapM_cons,Option.bind_eq_bind,Option.bind_eq_some_iff,Option.pure_def,Option.some.injEq]
  exact ⟨y,hfg a y (by simp) (by simp) h1,zs,mapM_same h2 fun x z hx hz=>hfg x z (by simp [hx]) (by simp [hz]),Z⟩
theorem reread_any {W' : World} (hb : ∀ b, b < W.heap.size → W'.heap[b]? = W.heap[b]?) {L : List TypeId} (hL : closedB P L = true) : ∀ (n : Nat) (t : TypeId) (cs : List Value) (x : DataW H × List MemPlace), t ∈ L → DataW.trod enc P W 0 (fun _ => true) held n t cs = some x →
  (∀ p∈x.2,sp p.block=true)→DataW.trod enc P W' 0 sp held n t cs=some x
 | 0,t,cs,x,ht,h,_=>by simp [DataW.trod] at h
 | n + 1, t, cs, x, ht, h, hsp => by
  have hcl:=List.all_eq_true.1 hL t ht
  cases hu:P.underlying t with
  | none=>rw [hu] at hcl; cases hcl
  | some d =>
   rw [hu] at hcl
   cases d with
   | int k =>
    obtain ⟨q,rfl,rfl,h3⟩:=DataW.trod_int hu h
    simp [DataW.trod,hu,h3]
   | bool =>
    obtain ⟨q,rfl,rfl⟩:=DataW.trod_bool hu h
    simp [DataW.trod,hu]
   | string =>
    obtain ⟨q,rfl,rfl,h3⟩:=DataW.trod_string hu h
    simp [DataW.trod,hu,h3]
   | slice e =>
    simp only [Bool.and_eq_true] at hcl
    have he:e∈L:=by simpa using hcl.1
    have hp:1≤P.cellsOf e:=Nat.le_of_ble_eq_true hcl.2
    rcases DataW.trod_slice hu h with ⟨rfl,rfl⟩ | ⟨a,len,cap,_,_,_,_,rfl,_⟩
    ·simp [DataW.trod,hu]
    ·unfold DataW.trod at h ⊢
     rw [hu] at h ⊢
     simp only at h ⊢
     split at h
     ·rename_i hcond
      rw [if_pos hcond]
      simp only [if_true,Option.bind_eq_some_iff,Option.map_eq_some_iff] at h
      obtain ⟨elems,h1,rest,h2,rfl⟩:=h
      simp only [List.mem_append,List.mem_flatMap] at hsp
      have hstep:∀ i y,y∈elems++rest→(W.cells? 0 (a.add (i * P.cellsOf e)) (P.cellsOf e)).bind (DataW.trod enc P W 0 (fun _=>true) held n e)=some y→(W'.cells? 0 (a.add (i * P.cellsOf e)) (P.cellsOf e)).bind (DataW.trod enc P W' 0 sp held n e)=some y:=fun i y hy hb'=>by
       rw [Option.bind_eq_some_iff] at hb' ⊢
       obtain ⟨us,g1,g2⟩:=hb'
       exact ⟨us,cells?_same hb g1,reread_any hb hL n e us y he g2 fun p hp'=>hsp p (.inr ⟨y,List.mem_append.1 hy,hp'⟩)⟩
      have e1:(List.range len).mapM (fun i=>(W'.cells? 0 (a.add (i * P.cellsOf e)) (P.cellsOf e)).bind (DataW.trod enc P W' 0 sp held n e))=some elems:=mapM_same h1 fun i y _ hy g=>hstep i y (List.mem_append_left _ hy) g
      have e2:(List.range (cap - len)).mapM (fun j=>(W'.cells? 0 (a.add ((len+j) * P.cellsOf e)) (P.cellsOf e)).bind (DataW.trod enc P W' 0 sp held n e))=some rest:=mapM_same h2 fun i y _ hy g=>hstep (len+i) y (List.mem_append_right _ hy) g
      rw [e1]
      simp only [Option.bind_some]
      by_cases hs:sp a.block=true
      ·rw [if_pos hs,e2]; rfl
      ·rw [if_neg hs]
       have hr : rest = [] := by
        cases rest with
        | nil=>rfl
        | cons y ys =>
         exfalso
         apply hs
         have:=hsp (MemPlace.cell a.block a.off) (.inl ?_)
         ·exact this
         ·unfold MemPlace.row
          refine List.mem_map.2 ⟨0,?_,by simp [Addr.add]⟩
          rw [List.mem_range]
          simp only [List.length_cons]
          exact Nat.mul_pos (by omega) (by omega)
       subst hr; rfl
     ·cases h
   | struct gs =>
    rw [List.all_eq_true] at hcl
    unfold DataW.trod at h ⊢
    rw [hu] at h ⊢
    simp only at h ⊢
    split at h
    ·rename_i hl
     rw [if_pos hl]
     rw [Option.map_eq_some_iff] at h ⊢
     obtain ⟨xs,h1,rfl⟩:=h
     refine ⟨xs,mapM_same h1 fun g y hg hy h2=>?_,Z⟩
     exact reread_any hb hL n g.type _ y (by simpa using hcl g hg) h2 fun p hp=>hsp p (List.mem_flatMap.2 ⟨y,hy,hp⟩)
    ·cases h
   | _=>cases hcl
mutual
theorem reread_of {W' : World} (hb : ∀ b, b < W.heap.size → W'.heap[b]? = W.heap[b]?) : (ty : Ty) → ∀ (t : TypeId) (n : Nat) (cs : List Value) (x : DataW H × List MemPlace), fitB P ty t = true → DataW.trod enc P W 0 (fun _ => true) held n t cs = some x →
  (∀ p∈x.2,sp p.block=true)→DataW.trod enc P W' 0 sp held n t cs=some x
 | .int k, t, n, cs, x, hf, h, _ => by
  unfold fitB at hf
  cases n with
  | zero=>simp [DataW.trod] at h
  | succ n =>
   cases hu:P.underlying t with
   | none=>rw [hu] at hf; cases hf
   | some d =>
    rw [hu] at hf
    cases d <;> try (cases hf; done)
    obtain ⟨q,rfl,rfl,h3⟩:=DataW.trod_int hu h
    simp [DataW.trod,hu,h3]
 | .bool, t, n, cs, x, hf, h, _ => by
  unfold fitB at hf
  cases n with
  | zero=>simp [DataW.trod] at h
  | succ n =>
   cases hu:P.underlying t with
   | none=>rw [hu] at hf; cases hf
   | some d =>
    rw [hu] at hf
    cases d <;> try (cases hf; done)
    obtain ⟨q,rfl,rfl⟩:=DataW.trod_bool hu h
    simp [DataW.trod,hu]
 | .str, t, n, cs, x, hf, h, _ => by
  unfold fitB at hf
  cases n with
  | zero=>simp [DataW.trod] at h
  | succ n =>
   cases hu:P.underlying t with
   | none=>rw [hu] at hf; cases hf
   | some d =>
    rw [hu] at hf
    cases d <;> try (cases hf; done)
    obtain ⟨q,rfl,rfl,h3⟩:=DataW.trod_string hu h
    simp [DataW.trod,hu,h3]
 | .slice u, t, n, cs, x, hf, h, hsp => by
  unfold fitB at hf
  cases hu:P.underlying t with
  | none=>rw [hu] at hf; cases hf
  | some d =>
   rw [hu] at hf
   cases d <;> try (cases hf; done)
   rename_i e
   simp only [Bool.and_eq_true] at hf
   obtain ⟨⟨hc,hp⟩,he⟩:=hf
   have hc:P.cellsOf e=u.sz:=Nat.eq_of_beq_eq_true hc
   have hp:1≤u.sz:=Nat.le_of_ble_eq_true hp
   cases n with
   | zero=>simp [DataW.trod] at h
   | succ n =>
    rcases DataW.trod_slice hu h with ⟨rfl,rfl⟩ | ⟨a,len,cap,_,_,_,_,rfl,_⟩
    ·simp [DataW.trod,hu]
    ·unfold DataW.trod at h ⊢
     rw [hu] at h ⊢
     simp only at h ⊢
     split at h
     ·rename_i hcond
      rw [if_pos hcond]
      simp only [if_true,Option.bind_eq_some_iff,Option.map_eq_some_iff] at h
      obtain ⟨elems,h1,rest,h2,rfl⟩:=h
      simp only [List.mem_append,List.mem_flatMap] at hsp
      have hstep:∀ i y,y∈elems++rest→(W.cells? 0 (a.add (i * P.cellsOf e)) (P.cellsOf e)).bind (DataW.trod enc P W 0 (fun _=>true) held n e)=some y→(W'.cells? 0 (a.add (i * P.cellsOf e)) (P.cellsOf e)).bind (DataW.trod enc P W' 0 sp held n e)=some y:=fun i y hy hb'=>by
       rw [Option.bind_eq_some_iff] at hb' ⊢
       obtain ⟨us,g1,g2⟩:=hb'
       exact ⟨us,cells?_same hb g1,reread_of hb u e n us y he g2 fun p hp'=>hsp p (.inr ⟨y,List.mem_append.1 hy,hp'⟩)⟩
      have e1:(List.range len).mapM (fun i=>(W'.cells? 0 (a.add (i * P.cellsOf e)) (P.cellsOf e)).bind (DataW.trod enc P W' 0 sp held n e))=some elems:=mapM_same h1 fun i y _ hy g=>hstep i y (List.mem_append_left _ hy) g
      have e2:(List.range (cap - len)).mapM (fun j=>(W'.cells? 0 (a.add ((len+j) * P.cellsOf e)) (P.cellsOf e)).bind (DataW.trod enc P W' 0 sp held n e))=some rest:=mapM_same h2 fun i y _ hy g=>hstep (len+i) y (List.mem_append_right _ hy) g
      rw [e1]
      simp only [Option.bind_some]
      by_cases hs:sp a.block=true
      ·rw [if_pos hs,e2]; rfl
      ·rw [if_neg hs]
       have hr : rest = [] := by
        cases rest with
        | nil=>rfl
        | cons y ys =>
         exfalso
         apply hs
         have:=hsp (MemPlace.cell a.block a.off) (.inl ?_)
         ·exact this
         ·unfold MemPlace.row
          rw [hc]
          refine List.mem_map.2 ⟨0,?_,by simp [Addr.add]⟩
          rw [List.mem_range]
          simp only [List.length_cons]
          exact Nat.mul_pos (by omega) (by omega)
       subst hr; rfl
     ·cases h
 | .struct fs, t, n, cs, x, hf, h, hsp => by
  unfold fitB at hf
  cases hu:P.underlying t with
  | none=>rw [hu] at hf; cases hf
  | some d =>
   rw [hu] at hf
   cases d <;> try (cases hf; done)
   rename_i gs
   simp only [Bool.and_eq_true] at hf
   obtain ⟨hc,hfs⟩:=hf
   cases n with
   | zero=>simp [DataW.trod] at h
   | succ n =>
    unfold DataW.trod at h ⊢
    rw [hu] at h ⊢
    simp only at h ⊢
    split at h
    ·rename_i hl
     rw [if_pos hl]
     rw [Option.map_eq_some_iff] at h ⊢
     obtain ⟨xs,h1,rfl⟩:=h
     refine ⟨xs,?_,Z⟩
     exact rereads_of hb fs gs.toList 0 n cs xs hfs h1 fun y hy p hp=>hsp p (List.mem_flatMap.2 ⟨y,hy,hp⟩)
    ·cases h
 | .any k L,t,n,cs,x,hf,h,hsp=>by
  unfold fitB at hf
  simp only [Bool.and_eq_true] at hf
  obtain ⟨⟨⟨hL,ht⟩,_⟩,_⟩:=hf
  exact reread_any hb hL n t cs x (by simpa using ht) h hsp
theorem rereads_of {W':World} (hb:∀ b,b<W.heap.size→W'.heap[b]? = W.heap[b]?):(fs:List Ty)→∀ (gs:List Field) (off n:Nat) (cs:List Value) (xs:List (DataW H×List MemPlace)),fitsB P fs gs off=true →
  gs.mapM (fun f=>DataW.trod enc P W 0 (fun _=>true) held n f.type ((cs.drop f.offset).take (P.cellsOf f.type)))=some xs→(∀ y∈xs,∀ p∈y.2,sp p.block=true) →
  gs.mapM (fun f=>DataW.trod enc P W' 0 sp held n f.type ((cs.drop f.offset).take (P.cellsOf f.type)))=some xs
 | [],[],off,n,cs,xs,hf,h,_=>by simpa using h
 | [],g::gs,off,n,cs,xs,hf,h,_=>by simp [fitsB] at hf
 | t::ts,[],off,n,cs,xs,hf,h,_=>by simp [fitsB] at hf
 | t::ts,g::gs,off,n,cs,xs,hf,h,hsp=>by
  unfold fitsB at hf
  simp only [Bool.and_eq_true] at hf
  obtain ⟨⟨⟨h1,h2⟩,h3⟩,h4⟩:=hf
  simp only [List.mapM_cons,Option.bind_eq_bind,Option.bind_eq_some_iff,Option.pure_def,Option.some.injEq] at h ⊢
  obtain ⟨y,g1,zs,g2,rfl⟩:=h
  exact ⟨y,reread_of hb t g.type n _ y h3 g1 (hsp y (by simp)),zs,rereads_of hb ts gs (off+t.sz) n cs zs h4 g2 fun z hz=>hsp z (by simp [hz]),Z⟩
end
end
end Go.Ck
namespace Go.Ck
open Go Go.RowKit Go.ChangeShapes Go.WideShapes
theorem holds_old (W:World):Holds W [old W]:=⟨fun _ _=>rfl,fun _ _ h=>h,trivial⟩
structure Kept (W w':World):Prop extends Same W w' where
 block:∀ b,b<W.heap.size→w'.heap[b]? = W.heap[b]?
theorem kept_of {W w':World} {h:SH} (hh:Holds w' h) (hs:Sub [old W] h) (hS:Same W w'):Kept W w':=⟨hS,(hh.sub hs).1⟩
theorem Kept.frame {W w':World} (h:Kept W w') (may:MemPlace→Prop):W.keptBut w' may:=by
 refine ⟨h.os,h.output,fun i hi=>?_⟩
 rw [h.block i hi]
 cases hq:W.heap[i]? with
 | none=>rfl
 | some o=>cases o <;> first | exact ⟨rfl,rfl,rfl,fun _ _=>rfl⟩ | exact Or.inr ⟨rfl,rfl⟩ | rfl
theorem ct_calls {P:Program} {k:FuncId} {args:Array Value} {W:World} {R:Value→SH→Prop} (h:Ct P k args [old W] R) (hR:∀ v h',R v h'→v = .bool true∧Sub [old W] h'):Calls P k args W fun e w'=>e = .returned (.bool true)∧Kept W w' :=
 (h [] W (by simpa using holds_old W)).mono fun e w' ⟨v,h',he,hr,hH,hS⟩=>by
  obtain ⟨h1,h2⟩:=hR v h' hr
  exact ⟨by rw [he,h1],kept_of (by simpa using hH) h2 hS⟩
def fitAll (P:Program):List Ty→List TypeId→Bool
 | [],[]=>true
 | t::ts,u::us=>fitB P t u && fitAll P ts us
 | _,_=>false
section
variable {H:Type} {enc:TypeId×Value→H} {P:Program} {W W':World} {sp:Nat→Bool}
theorem rereadAll (hb:∀ b,b<W.heap.size→W'.heap[b]? = W.heap[b]?):∀ {tys:List Ty} {ts:List TypeId} {vs:List Value} {ds:List (DataW H)} {ps:List MemPlace},fitAll P tys ts=true→DataW.TrodAll enc P W 0 (fun _=>true) true ts vs ds ps→(∀ p∈ps,sp p.block=true) →
  DataW.TrodAll enc P W' 0 sp true ts vs ds ps
 | [],[],[],[],ps,_,h,_=>h
 | [],[],[],_::_,ps,_,h,_=>h.elim
 | [],[],_::_,_,ps,_,h,_=>h.elim
 | [],_::_,_,_,_,hf,_,_=>by simp [fitAll] at hf
 | _::_,[],_,_,_,hf,_,_=>by simp [fitAll] at hf
 | ty::tys,t::ts,[],_,ps,_,h,_=>h.elim
 | ty::tys,t::ts,_::_,[],ps,_,h,_=>h.elim
 | ty::tys,t::ts,v::vs,d::ds,ps,hf,h,hp=>by
  unfold fitAll at hf
  rw [Bool.and_eq_true] at hf
  obtain ⟨p,q,⟨n,h1⟩,h2,rfl⟩:=h
  exact ⟨p,q,⟨n,reread_of hb ty t n _ _ hf.1 h1 fun x hx=>hp x (List.mem_append_left _ hx)⟩,rereadAll hb hf.2 h2 fun x hx=>hp x (List.mem_append_right _ hx),Z⟩
theorem law_post {f:Func} {s:ChangeSpec} {args:Array Value} {ds gs:List (DataW H)} {before:List MemPlace} {tb:TypeId} {tys:List Ty} (hW:DataW.Whole enc P f.params.toList s.vars false W args.toList ds gs before)
  (hv:s.vars=[]) (hr:f.resultTypes = #[tb]) (htb:P.underlying tb=some .bool) (hf:fitAll P tys f.params.toList=true) (hfn:s.fn H (ds++gs)={ results:=[.lit (.bool true)],args:=ds }) (hk:Kept W W') :
  s.post enc P f false true false false W args (.bool true) W':=by
 have hW':=hW
 obtain ⟨p,q,hA,hV,rfl,hfz,hnd⟩:=hW
 rw [hv] at hV
 obtain ⟨rfl,rfl⟩:=trodVars_none hV
 have hres:∀ (b:Nat) (sp:Nat→Bool) (hd:Bool),DataW.TrodAll enc P W' b sp hd f.resultTypes.toList ((Value.bool true).resultList f.resultTypes.size) (s.fn H (ds++[])).results []:=fun b sp hd=>by
  rw [hr,hfn]
  exact trodAll_mk1 (shut_bool htb _)
 have hargs:∀ sp:Nat→Bool,(∀ x∈p++[],sp x.block=true)→DataW.TrodAll enc P W' 0 sp true f.params.toList args.toList (s.fn H (ds++[])).args p:=fun sp hsp=>by
  rw [hfn]
  exact rereadAll hk.block hf hA fun x hx=>hsp x (List.mem_append_left _ hx)
 have hvars:∀ sp:Nat→Bool,DataW.TrodVars enc P W' sp s.vars (s.fn H (ds++[])).vars []:=fun sp=>by rw [hv,hfn]; rfl
 have hold:∀ x∈p++[],(fun b=>decide (b<W.heap.size)) x.block=true:=fun x hx=>by simpa using hW'.lt x hx
 refine ⟨ds,[],p++[],[],p,[],hW',hres _ _ _,hargs _ hold,hvars _,World.keptBut_mono (fun x hx=>⟨hx,.inr (List.mem_append.1 hx)⟩) (hk.frame (· ∈ p++[])),fun _=>?_⟩
 refine ⟨ok_one hr Z (okWide_bool_mk htb _),_,_,([]++p)++[],⟨[]++p,[],trodAll_append (hargs _ fun _ _=>rfl) (hres _ _ _),hvars _,Z,fun b off hm=>?_,fun ha=>?_⟩,fun x hx _=>by simpa using hx⟩
 ·have hm':MemPlace.cell b off∈p++[]:=by simpa using hm
  rw [hk.fz _ (show b<W.heap.size from of_decide_eq_true (hold _ hm'))]
  exact hfz b off hm'
 ·simpa using hnd ha
theorem arg_rep {ty:Ty} {t:TypeId} {v:Value} {d:DataW H} {ps:List MemPlace} (hf:fitB P ty t=true) (h:DataW.Trod enc P W 0 (fun _=>true) true t v d ps):∃ y,Rep (old W) ty v.cells.toList y:=by
 obtain ⟨n,hn⟩:=h
 exact (rep_of ty t n _ _ hf hn).2
theorem okWide_one {t : TypeId} {v : Value} {b : Nat} (hs : (match P.underlying t with | some (.struct _) | some (.array _ _) => false | some _ => true | none => false) = true) (h : Value.okWide P W .any b t v) : v.oneCell' = true := by
 unfold Value.okWide at h
 cases hu:P.underlying t with
 | none=>rw [hu] at hs; cases hs
 | some d =>
  rw [hu] at h hs
  cases d <;> first
   | (cases hs; done)
   | (cases v <;> first | rfl | (unfold Cell.okWide at h; rw [hu] at h; simp only [Cell.ok,hu] at h))
theorem okWide_agg {t:TypeId} {v:Value} {b:Nat} {fs:Array Field} (hs:P.underlying t=some (.struct fs)) (h:Value.okWide P W .any b t v):v = .agg v.cells:=by
 obtain ⟨cs,h1,_⟩:=okWide_struct hs h
 rw [h1]; rfl
end
end Go.Ck
namespace Go.Proofs.YtaohbfnepjjdgaaGreat
open Go.Ck
namespace Fx
theorem mixed:Tryz.prog.follows .mixedOrders=true:=by kernel_rfl
theorem sz3:Sz Tryz.prog 3 1:=fun _=>by kernel_rfl
theorem sz4:Sz Tryz.prog 4 1:=fun _=>by kernel_rfl
theorem sz9:Sz Tryz.prog 9 1:=fun _=>by kernel_rfl
theorem sz23:Sz Tryz.prog 23 1:=fun _=>by kernel_rfl
theorem sz25:Sz Tryz.prog 25 5:=fun _=>by kernel_rfl
theorem sz29:Sz Tryz.prog 29 1:=fun _=>by kernel_rfl
theorem sz48:Sz Tryz.prog 48 1:=fun _=>by kernel_rfl
theorem sz50:Sz Tryz.prog 50 1:=fun _=>by kernel_rfl
theorem sz54:Sz Tryz.prog 54 7:=fun _=>by kernel_rfl
theorem sz61:Sz Tryz.prog 61 2:=fun _=>by kernel_rfl
theorem sz76:Sz Tryz.prog 76 1:=fun _=>by kernel_rfl
theorem sz79:Sz Tryz.prog 79 6:=fun _=>by kernel_rfl
theorem sz85:Sz Tryz.prog 85 2:=fun _=>by kernel_rfl
theorem sz94:Sz Tryz.prog 94 2:=fun _=>by kernel_rfl
theorem sz132:Sz Tryz.prog 132 1:=fun _=>by kernel_rfl
theorem sz163:Sz Tryz.prog 163 1:=fun _=>by kernel_rfl
theorem sz165:Sz Tryz.prog 165 2:=fun _=>by kernel_rfl
theorem sz194:Sz Tryz.prog 194 1:=fun _=>by kernel_rfl
theorem sz205:Sz Tryz.prog 205 1:=fun _=>by kernel_rfl
theorem sz217:Sz Tryz.prog 217 1:=fun _=>by kernel_rfl
theorem sl22:SlE Tryz.prog 22 54 7:=⟨Tryz.underlying22,sz54⟩
theorem sl23:SlE Tryz.prog 23 25 5:=⟨Tryz.underlying23,sz25⟩
theorem sl48:SlE Tryz.prog 48 94 2:=⟨Tryz.underlying48,sz94⟩
theorem sl49:SlE Tryz.prog 49 79 6:=⟨Tryz.underlying49,sz79⟩
theorem sl50:SlE Tryz.prog 50 9 1:=⟨Tryz.underlying50,sz9⟩
theorem sl133:SlE Tryz.prog 133 132 1:=⟨Tryz.underlying133,sz132⟩
theorem sl209:SlE Tryz.prog 209 29 1:=⟨Tryz.underlying209,sz29⟩
theorem sl219:SlE Tryz.prog 219 3 1:=⟨Tryz.underlying219,sz3⟩
theorem mp83:MpS Tryz.prog 83 9 54:=⟨Tryz.underlying83,Tryz.underlying9⟩
theorem mp141:MpS Tryz.prog 141 9 23:=⟨Tryz.underlying141,Tryz.underlying9⟩
theorem mp163:MpS Tryz.prog 163 9 3:=⟨Tryz.underlying163,Tryz.underlying9⟩
theorem mp183:MpS Tryz.prog 183 9 141:=⟨Tryz.underlying183,Tryz.underlying9⟩
theorem mp205:MpS Tryz.prog 205 9 4:=⟨Tryz.underlying205,Tryz.underlying9⟩
theorem inf3:Inf Tryz.prog 3 (.int .i64 0) 1 8:=by unfold Inf; kernel_rfl
theorem inf4:Inf Tryz.prog 4 (.bool false) 1 1:=by unfold Inf; kernel_rfl
theorem inf9:Inf Tryz.prog 9 (.string ⟨#[]⟩) 1 16:=by unfold Inf; kernel_rfl
theorem inf23:Inf Tryz.prog 23 (.slice none 0 0) 1 24:=by unfold Inf; kernel_rfl
theorem inf25:Inf Tryz.prog 25 (.agg #[.int .i64 0,.string ⟨#[]⟩,.slice none 0 0,.bool false,.bool false]) 5 56:=by unfold Inf; kernel_rfl
theorem inf29:Inf Tryz.prog 29 (.int .i64 0) 1 8:=by unfold Inf; kernel_rfl
theorem inf54:Inf Tryz.prog 54 (.agg #[.string ⟨#[]⟩,.bool false,.slice none 0 0,.slice none 0 0,.slice none 0 0,.slice none 0 0,.slice none 0 0]) 7 144:=by unfold Inf; kernel_rfl
theorem inf79:Inf Tryz.prog 79 (.agg #[.string ⟨#[]⟩,.slice none 0 0,.slice none 0 0,.slice none 0 0,.slice none 0 0,.slice none 0 0]) 6 136:=by unfold Inf; kernel_rfl
theorem inf94:Inf Tryz.prog 94 (.agg #[.string ⟨#[]⟩,.string ⟨#[]⟩]) 2 32:=by unfold Inf; kernel_rfl
theorem inf132:Inf Tryz.prog 132 (.nilFunc) 1 8:=by unfold Inf; kernel_rfl
theorem inf141:Inf Tryz.prog 141 (.map none) 1 8:=by unfold Inf; kernel_rfl
theorem ld3:Ld1 Tryz.prog 3:=Ld1.of Tryz.underlying3 rfl
theorem ld4:Ld1 Tryz.prog 4:=Ld1.of Tryz.underlying4 rfl
theorem ld9:Ld1 Tryz.prog 9:=Ld1.of Tryz.underlying9 rfl
theorem ld22:Ld1 Tryz.prog 22:=Ld1.of Tryz.underlying22 rfl
theorem ld23:Ld1 Tryz.prog 23:=Ld1.of Tryz.underlying23 rfl
theorem ld25:LdN Tryz.prog 25 5:=LdN.of Tryz.underlying25 sz25
theorem ld29:Ld1 Tryz.prog 29:=Ld1.of Tryz.underlying29 rfl
theorem ld48:Ld1 Tryz.prog 48:=Ld1.of Tryz.underlying48 rfl
theorem ld49:Ld1 Tryz.prog 49:=Ld1.of Tryz.underlying49 rfl
theorem ld50:Ld1 Tryz.prog 50:=Ld1.of Tryz.underlying50 rfl
theorem ld54:LdN Tryz.prog 54 7:=LdN.of Tryz.underlying54 sz54
theorem ld61:LdN Tryz.prog 61 2:=LdN.of Tryz.underlying61 sz61
theorem ld76:Ld1 Tryz.prog 76:=Ld1.of Tryz.underlying76 rfl
theorem ld79:LdN Tryz.prog 79 6:=LdN.of Tryz.underlying79 sz79
theorem ld83:Ld1 Tryz.prog 83:=Ld1.of Tryz.underlying83 rfl
theorem ld85:LdN Tryz.prog 85 2:=LdN.of Tryz.underlying85 sz85
theorem ld94:LdN Tryz.prog 94 2:=LdN.of Tryz.underlying94 sz94
theorem ld132:Ld1 Tryz.prog 132:=Ld1.of Tryz.underlying132 rfl
theorem ld163:Ld1 Tryz.prog 163:=Ld1.of Tryz.underlying163 rfl
theorem ld165:LdN Tryz.prog 165 2:=LdN.of Tryz.underlying165 sz165
theorem ld205:Ld1 Tryz.prog 205:=Ld1.of Tryz.underlying205 rfl
theorem ld217:Ld1 Tryz.prog 217:=Ld1.of Tryz.underlying217 rfl
theorem fa25_0:Fa Tryz.prog 25 0 0:=fun _ _ _=>by kernel_rfl
theorem fa25_1:Fa Tryz.prog 25 1 1:=fun _ _ _=>by kernel_rfl
theorem fa25_2:Fa Tryz.prog 25 2 2:=fun _ _ _=>by kernel_rfl
theorem fa25_3:Fa Tryz.prog 25 3 3:=fun _ _ _=>by kernel_rfl
theorem fa25_4:Fa Tryz.prog 25 4 4:=fun _ _ _=>by kernel_rfl
theorem fa54_0:Fa Tryz.prog 54 0 0:=fun _ _ _=>by kernel_rfl
theorem fa54_2:Fa Tryz.prog 54 2 2:=fun _ _ _=>by kernel_rfl
theorem fa54_3:Fa Tryz.prog 54 3 3:=fun _ _ _=>by kernel_rfl
theorem fa61_0:Fa Tryz.prog 61 0 0:=fun _ _ _=>by kernel_rfl
theorem fa61_1:Fa Tryz.prog 61 1 1:=fun _ _ _=>by kernel_rfl
theorem fa79_0:Fa Tryz.prog 79 0 0:=fun _ _ _=>by kernel_rfl
theorem fa79_1:Fa Tryz.prog 79 1 1:=fun _ _ _=>by kernel_rfl
theorem fa85_0:Fa Tryz.prog 85 0 0:=fun _ _ _=>by kernel_rfl
theorem fa85_1:Fa Tryz.prog 85 1 1:=fun _ _ _=>by kernel_rfl
theorem fa94_0:Fa Tryz.prog 94 0 0:=fun _ _ _=>by kernel_rfl
theorem fa94_1:Fa Tryz.prog 94 1 1:=fun _ _ _=>by kernel_rfl
theorem fa165_0:Fa Tryz.prog 165 0 0:=fun _ _ _=>by kernel_rfl
theorem fa165_1:Fa Tryz.prog 165 1 1:=fun _ _ _=>by kernel_rfl
theorem fa194_0:Fa Tryz.prog 194 0 0:=fun _ _ _=>by kernel_rfl
theorem al3:Al Tryz.prog 3 [.int .i64 0]:=fun _=>by kernel_rfl
theorem al4:Al Tryz.prog 4 [.bool false]:=fun _=>by kernel_rfl
theorem al23:Al Tryz.prog 23 [.slice none 0 0]:=fun _=>by kernel_rfl
theorem al25:Al Tryz.prog 25 [.int .i64 0,.string ⟨#[]⟩,.slice none 0 0,.bool false,.bool false]:=fun _=>by kernel_rfl
theorem al29:Al Tryz.prog 29 [.int .i64 0]:=fun _=>by kernel_rfl
theorem al48:Al Tryz.prog 48 [.slice none 0 0]:=fun _=>by kernel_rfl
theorem al50:Al Tryz.prog 50 [.slice none 0 0]:=fun _=>by kernel_rfl
theorem al54:Al Tryz.prog 54 [.string ⟨#[]⟩,.bool false,.slice none 0 0,.slice none 0 0,.slice none 0 0,.slice none 0 0,.slice none 0 0]:=fun _=>by kernel_rfl
theorem al61:Al Tryz.prog 61 [.int .i64 0,.slice none 0 0]:=fun _=>by kernel_rfl
theorem al76:Al Tryz.prog 76 [.nilFunc]:=fun _=>by kernel_rfl
theorem al79:Al Tryz.prog 79 [.string ⟨#[]⟩,.slice none 0 0,.slice none 0 0,.slice none 0 0,.slice none 0 0,.slice none 0 0]:=fun _=>by kernel_rfl
theorem al85:Al Tryz.prog 85 [.map none,.slice none 0 0]:=fun _=>by kernel_rfl
theorem al94:Al Tryz.prog 94 [.string ⟨#[]⟩,.string ⟨#[]⟩]:=fun _=>by kernel_rfl
theorem al163:Al Tryz.prog 163 [.map none]:=fun _=>by kernel_rfl
theorem al165:Al Tryz.prog 165 [.slice none 0 0,.map none]:=fun _=>by kernel_rfl
theorem al194:Al Tryz.prog 194 [.int .i64 0]:=fun _=>by kernel_rfl
theorem al205:Al Tryz.prog 205 [.map none]:=fun _=>by kernel_rfl
theorem al217:Al Tryz.prog 217 [.nilFunc]:=fun _=>by kernel_rfl
theorem en10:Enters Tryz.prog 10:=fun _ _=>by kernel_rfl
theorem en11:Enters Tryz.prog 11:=fun _ _=>by kernel_rfl
theorem en12:Enters Tryz.prog 12:=fun _ _=>by kernel_rfl
theorem en13:Enters Tryz.prog 13:=fun _ _=>by kernel_rfl
theorem en15:Enters Tryz.prog 15:=fun _ _=>by kernel_rfl
theorem en16:Enters Tryz.prog 16:=fun _ _=>by kernel_rfl
theorem en17:Enters Tryz.prog 17:=fun _ _=>by kernel_rfl
theorem en19:Enters Tryz.prog 19:=fun _ _=>by kernel_rfl
theorem en21:Enters Tryz.prog 21:=fun _ _=>by kernel_rfl
theorem en23:Enters Tryz.prog 23:=fun _ _=>by kernel_rfl
theorem en25:Enters Tryz.prog 25:=fun _ _=>by kernel_rfl
theorem en26:Enters Tryz.prog 26:=fun _ _=>by kernel_rfl
theorem en27:Enters Tryz.prog 27:=fun _ _=>by kernel_rfl
theorem en28:Enters Tryz.prog 28:=fun _ _=>by kernel_rfl
theorem en29:Enters Tryz.prog 29:=fun _ _=>by kernel_rfl
theorem en33:Enters Tryz.prog 33:=fun _ _=>by kernel_rfl
theorem en35:Enters Tryz.prog 35:=fun _ _=>by kernel_rfl
theorem en37:Enters Tryz.prog 37:=fun _ _=>by kernel_rfl
theorem en39:Enters Tryz.prog 39:=fun _ _=>by kernel_rfl
theorem en40:Enters Tryz.prog 40:=fun _ _=>by kernel_rfl
theorem en42:Enters Tryz.prog 42:=fun _ _=>by kernel_rfl
theorem en43:Enters Tryz.prog 43:=fun _ _=>by kernel_rfl
theorem en44:Enters Tryz.prog 44:=fun _ _=>by kernel_rfl
theorem en45:Enters Tryz.prog 45:=fun _ _=>by kernel_rfl
theorem en46:Enters Tryz.prog 46:=fun _ _=>by kernel_rfl
theorem en53:Enters Tryz.prog 53:=fun _ _=>by kernel_rfl
theorem en54:Enters Tryz.prog 54:=fun _ _=>by kernel_rfl
theorem en56:Enters Tryz.prog 56:=fun _ _=>by kernel_rfl
theorem en58:Enters Tryz.prog 58:=fun _ _=>by kernel_rfl
theorem en59:Enters Tryz.prog 59:=fun _ _=>by kernel_rfl
theorem en61:Enters Tryz.prog 61:=fun _ _=>by kernel_rfl
theorem en62:Enters Tryz.prog 62:=fun _ _=>by kernel_rfl
theorem en63:Enters Tryz.prog 63:=fun _ _=>by kernel_rfl
theorem en64:Enters Tryz.prog 64:=fun _ _=>by kernel_rfl
theorem en65:Enters Tryz.prog 65:=fun _ _=>by kernel_rfl
theorem en67:Enters Tryz.prog 67:=fun _ _=>by kernel_rfl
theorem en69:Enters Tryz.prog 69:=fun _ _=>by kernel_rfl
theorem en72:Enters Tryz.prog 72:=fun _ _=>by kernel_rfl
theorem en75:Enters Tryz.prog 75:=fun _ _=>by kernel_rfl
theorem en76:Enters Tryz.prog 76:=fun _ _=>by kernel_rfl
theorem en77:Enters Tryz.prog 77:=fun _ _=>by kernel_rfl
theorem en79:Enters Tryz.prog 79:=fun _ _=>by kernel_rfl
theorem en80:Enters Tryz.prog 80:=fun _ _=>by kernel_rfl
theorem en81:Enters Tryz.prog 81:=fun _ _=>by kernel_rfl
theorem en82:Enters Tryz.prog 82:=fun _ _=>by kernel_rfl
theorem en83:Enters Tryz.prog 83:=fun _ _=>by kernel_rfl
theorem en96:Enters Tryz.prog 96:=fun _ _=>by kernel_rfl
theorem en97:Enters Tryz.prog 97:=fun _ _=>by kernel_rfl
theorem en98:Enters Tryz.prog 98:=fun _ _=>by kernel_rfl
theorem en99:Enters Tryz.prog 99:=fun _ _=>by kernel_rfl
theorem en100:Enters Tryz.prog 100:=fun _ _=>by kernel_rfl
theorem en101:Enters Tryz.prog 101:=fun _ _=>by kernel_rfl
theorem en102:Enters Tryz.prog 102:=fun _ _=>by kernel_rfl
theorem en103:Enters Tryz.prog 103:=fun _ _=>by kernel_rfl
theorem en104:Enters Tryz.prog 104:=fun _ _=>by kernel_rfl
theorem en105:Enters Tryz.prog 105:=fun _ _=>by kernel_rfl
theorem en106:Enters Tryz.prog 106:=fun _ _=>by kernel_rfl
theorem en108:Enters Tryz.prog 108:=fun _ _=>by kernel_rfl
theorem en109:Enters Tryz.prog 109:=fun _ _=>by kernel_rfl
theorem en112:Enters Tryz.prog 112:=fun _ _=>by kernel_rfl
theorem en113:Enters Tryz.prog 113:=fun _ _=>by kernel_rfl
theorem en114:Enters Tryz.prog 114:=fun _ _=>by kernel_rfl
theorem en115:Enters Tryz.prog 115:=fun _ _=>by kernel_rfl
theorem en116:Enters Tryz.prog 116:=fun _ _=>by kernel_rfl
theorem en117:Enters Tryz.prog 117:=fun _ _=>by kernel_rfl
theorem en118:Enters Tryz.prog 118:=fun _ _=>by kernel_rfl
theorem en119:Enters Tryz.prog 119:=fun _ _=>by kernel_rfl
theorem en122:Enters Tryz.prog 122:=fun _ _=>by kernel_rfl
theorem en123:Enters Tryz.prog 123:=fun _ _=>by kernel_rfl
theorem en124:Enters Tryz.prog 124:=fun _ _=>by kernel_rfl
theorem en125:Enters Tryz.prog 125:=fun _ _=>by kernel_rfl
theorem en128:Enters Tryz.prog 128:=fun _ _=>by kernel_rfl
theorem en129:Enters Tryz.prog 129:=fun _ _=>by kernel_rfl
theorem en130:Enters Tryz.prog 130:=fun _ _=>by kernel_rfl
theorem en131:Enters Tryz.prog 131:=fun _ _=>by kernel_rfl
theorem en132:Enters Tryz.prog 132:=fun _ _=>by kernel_rfl
theorem en133:Enters Tryz.prog 133:=fun _ _=>by kernel_rfl
theorem en134:Enters Tryz.prog 134:=fun _ _=>by kernel_rfl
theorem en135:Enters Tryz.prog 135:=fun _ _=>by kernel_rfl
theorem en136:Enters Tryz.prog 136:=fun _ _=>by kernel_rfl
theorem en137:Enters Tryz.prog 137:=fun _ _=>by kernel_rfl
theorem en138:Enters Tryz.prog 138:=fun _ _=>by kernel_rfl
theorem en139:Enters Tryz.prog 139:=fun _ _=>by kernel_rfl
theorem en140:Enters Tryz.prog 140:=fun _ _=>by kernel_rfl
theorem en141:Enters Tryz.prog 141:=fun _ _=>by kernel_rfl
theorem en147:Enters Tryz.prog 147:=fun _ _=>by kernel_rfl
theorem en148:Enters Tryz.prog 148:=fun _ _=>by kernel_rfl
theorem en150:Enters Tryz.prog 150:=fun _ _=>by kernel_rfl
theorem en152:Enters Tryz.prog 152:=fun _ _=>by kernel_rfl
theorem en153:Enters Tryz.prog 153:=fun _ _=>by kernel_rfl
theorem en154:Enters Tryz.prog 154:=fun _ _=>by kernel_rfl
theorem en155:Enters Tryz.prog 155:=fun _ _=>by kernel_rfl
theorem en156:Enters Tryz.prog 156:=fun _ _=>by kernel_rfl
theorem en157:Enters Tryz.prog 157:=fun _ _=>by kernel_rfl
theorem en158:Enters Tryz.prog 158:=fun _ _=>by kernel_rfl
theorem en159:Enters Tryz.prog 159:=fun _ _=>by kernel_rfl
theorem en160:Enters Tryz.prog 160:=fun _ _=>by kernel_rfl
theorem en161:Enters Tryz.prog 161:=fun _ _=>by kernel_rfl
theorem en162:Enters Tryz.prog 162:=fun _ _=>by kernel_rfl
theorem en163:Enters Tryz.prog 163:=fun _ _=>by kernel_rfl
theorem en164:Enters Tryz.prog 164:=fun _ _=>by kernel_rfl
theorem en165:Enters Tryz.prog 165:=fun _ _=>by kernel_rfl
theorem en167:Enters Tryz.prog 167:=fun _ _=>by kernel_rfl
theorem en168:Enters Tryz.prog 168:=fun _ _=>by kernel_rfl
theorem en169:Enters Tryz.prog 169:=fun _ _=>by kernel_rfl
theorem en170:Enters Tryz.prog 170:=fun _ _=>by kernel_rfl
theorem en171:Enters Tryz.prog 171:=fun _ _=>by kernel_rfl
theorem en172:Enters Tryz.prog 172:=fun _ _=>by kernel_rfl
theorem en173:Enters Tryz.prog 173:=fun _ _=>by kernel_rfl
theorem en174:Enters Tryz.prog 174:=fun _ _=>by kernel_rfl
theorem en175:Enters Tryz.prog 175:=fun _ _=>by kernel_rfl
theorem en176:Enters Tryz.prog 176:=fun _ _=>by kernel_rfl
theorem en177:Enters Tryz.prog 177:=fun _ _=>by kernel_rfl
theorem en178:Enters Tryz.prog 178:=fun _ _=>by kernel_rfl
end Fx
end Go.Proofs.YtaohbfnepjjdgaaGreat
namespace Go.Ck
open Go Go.RowKit

def OpenRow (v:Value) (sz n:Nat) (l:List Value) (b cp:Nat) (j:List Value):Prop:=v = .slice (some ⟨b,0,none⟩) n cp∧l.length=n * sz∧n≤cp∧cp≤maxLen∧(l++j).length=cp * sz
section
variable {c:Cx} {Q:Exit→Act→World→Prop} {e:Env} {h h':SH} {x:Code} {v:Value} {E:TypeId} {sz n:Nat} {l l':List Value}
end
end Go.Ck
namespace Go.Hr
open Go
inductive Kt
 | mk (kind:Int) (name:Nm) (args:List Kt) (void sep:Bool)
namespace Kt
def kind:Kt→Int | .mk k _ _ _ _=>k
def name:Kt→Nm | .mk _ n _ _ _=>n
def args:Kt→List Kt | .mk _ _ az _ _=>az
def void:Kt→Bool | .mk _ _ _ v _=>v
def sep:Kt→Bool | .mk _ _ _ _ s=>s
theorem ext {t u:Kt} (h1:t.kind=u.kind) (h2:t.name=u.name) (h3:t.args=u.args) (h4:t.void=u.void) (h5:t.sep=u.sep):t=u:=by
 cases t; cases u; simp only [kind,name,args,void,sep] at *; subst h1 h2 h3 h4 h5; rfl
end Kt
mutual
def Kt.same:Kt→Kt→Bool
 | .mk k n az v s,.mk k' n' az' v' s'=>k == k' && n == n' && v == v' && s == s' && sames az az'
def sames:List Kt→List Kt→Bool
 | [],[]=>true
 | a::t,b::u=>a.same b && sames t u
 | [],_::_=>false
 | _::_,[]=>false
end
mutual
theorem same_iff:∀ (a b:Kt),a.same b=true↔a=b
 | .mk k n az v s,.mk k' n' az' v' s'=>by
  simp only [Kt.same,Bool.and_eq_true,beq_iff_eq,sames_iff az az',Kt.mk.injEq]
  constructor
  ·rintro ⟨⟨⟨⟨h1,h2⟩,h3⟩,h4⟩,h5⟩; exact ⟨h1,h2,h5,h3,h4⟩
  ·rintro ⟨h1,h2,h5,h3,h4⟩; exact ⟨⟨⟨⟨h1,h2⟩,h3⟩,h4⟩,h5⟩
theorem sames_iff:∀ (a b:List Kt),sames a b=true↔a=b
 | [],[]=>by simp [sames]
 | a::t,b::u=>by simp only [sames,Bool.and_eq_true,same_iff a b,sames_iff t u,List.cons.injEq]
 | [],_::_=>by simp [sames]
 | _::_,[]=>by simp [sames]
end
instance:DecidableEq Kt:=fun a b=>decidable_of_iff _ (same_iff a b)
mutual
def Kt.depth:Kt→Nat
 | .mk _ _ az _ _=>depths az+1
def depths:List Kt→Nat
 | []=>0
 | a::t=>max a.depth (depths t)
end
theorem depths_mem:∀ {l:List Kt} {t:Kt},t∈l→t.depth≤depths l
 | a::l,t,h=>by
  unfold depths
  rcases List.mem_cons.1 h with rfl | h
  ·omega
  ·have:=depths_mem h; omega
theorem depth_args {t a:Kt} (h:a∈t.args):a.depth<t.depth:=by
 cases t
 have:=depths_mem h
 simp only [Kt.args] at this
 show a.depth<depths _+1; omega
mutual
def Kt.parts:Kt→Nat
 | .mk _ _ az _ _=>1+partss az
def partss:List Kt→Nat
 | []=>0
 | a::t=>a.parts+partss t
end
theorem partss_append:∀ (a b:List Kt),partss (a++b)=partss a+partss b
 | [],b=>by simp [partss]
 | x::a,b=>by simp only [List.cons_append,partss,partss_append a b]; omega
structure Fm where
 name:Nm
 bound:Nm
def fidx (F:List Fm) (n:Nm):Option Nat:=F.findIdx? fun f=>f.name == n
def Kt.flag (t:Kt) (v s:Bool):Kt:=.mk t.kind t.name t.args (t.void || v) (t.sep || s)
def Kt.with (t:Kt) (v s:Bool):Kt:=.mk t.kind t.name t.args v s
def actOf (F:List Fm) (A:List Kt) (n:Nm):Option Kt:=(fidx F n).bind fun i=>A[i]?
mutual
def Kt.subst (F:List Fm) (A:List Kt):Kt→Kt
 | .mk k n az v s=>if k=4 then (match actOf F A n with | some t=>t.flag v s | none=>.mk k n az v s) else if k=3 then .mk k n (substs F A az) v s else .mk k n az v s
def substs (F:List Fm) (A:List Kt):List Kt→List Kt
 | []=>[]
 | a::t=>a.subst F A::substs F A t
end
section
variable {F G:List Fm} {A B:List Kt}
theorem substs_map:∀ (l:List Kt),substs F A l=l.map (Kt.subst F A)
 | []=>rfl
 | a::t=>by rw [substs,substs_map t]; rfl
theorem flag_flag (t:Kt) (v s v' s':Bool):(t.flag v s).flag v' s'=t.flag (v || v') (s || s'):=by simp [Kt.flag,Kt.kind,Kt.name,Kt.args,Kt.void,Kt.sep,Bool.or_assoc]
theorem flag_none (t:Kt):t.flag false false=t:=by cases t; simp [Kt.flag,Kt.kind,Kt.name,Kt.args,Kt.void,Kt.sep]
theorem subst_formal {n:Nm} {az:List Kt} {v s:Bool}:Kt.subst F A (.mk 4 n az v s)=(match actOf F A n with | some t=>t.flag v s | none=>.mk 4 n az v s):=by
 rw [Kt.subst,if_pos rfl]
theorem subst_class {n:Nm} {az:List Kt} {v s:Bool}:Kt.subst F A (.mk 3 n az v s) = .mk 3 n (az.map (Kt.subst F A)) v s:=by
 rw [Kt.subst,if_neg (by decide),if_pos rfl,substs_map]
theorem subst_other {k:Int} {n:Nm} {az:List Kt} {v s:Bool} (h4:k≠4) (h3:k≠3):Kt.subst F A (.mk k n az v s) = .mk k n az v s:=by
 rw [Kt.subst,if_neg h4,if_neg h3]
theorem subst_flag (t:Kt) (v s:Bool):(t.flag v s).subst F A=(t.subst F A).flag v s:=by
 obtain ⟨k,n,az,v',s'⟩:=t
 show Kt.subst F A (.mk k n az (v' || v) (s' || s))=_
 by_cases h4:k=4
 ·subst h4
  rw [subst_formal,subst_formal]
  cases actOf F A n with
  | none=>rfl
  | some t=>simp only []; rw [flag_flag]
 ·by_cases h3:k=3
  ·subst h3; rw [subst_class,subst_class]; rfl
  ·rw [subst_other h4 h3,subst_other h4 h3]; rfl
inductive Cl (F:List Fm) (m:Nat):Kt→Prop
 | fml {n:Nm} {v s:Bool} {i:Nat}:fidx F n=some i→i<m→Cl F m (.mk 4 n [] v s)
 | cls {n:Nm} {az:List Kt} {v s:Bool}:(∀ a∈az,Cl F m a)→Cl F m (.mk 3 n az v s)
theorem actOf_some {n:Nm} {i:Nat} (h:fidx F n=some i) (hi:i<A.length):actOf F A n=some A[i]:=by
 unfold actOf; rw [h,Option.bind_some,List.getElem?_eq_getElem hi]
theorem subst_subst {t:Kt} (h:Cl G B.length t):(t.subst G B).subst F A=t.subst G (B.map (Kt.subst F A)):=by
 induction h with
 | @fml n v s i hi hl =>
  rw [subst_formal,subst_formal,actOf_some hi hl,actOf_some hi (by simpa using hl)]
  simp only [List.getElem_map]
  rw [subst_flag]
 | @cls n az v s _ ih =>
  rw [subst_class,subst_class,subst_class,List.map_map]
  congr 1
  exact List.map_congr_left fun a ha=>ih a ha
theorem Cl.subst {t:Kt} {m:Nat} (h:Cl G B.length t) (hB:∀ b∈B,Cl F m b):Cl F m (t.subst G B):=by
 induction h with
 | @fml n v s i hi hl =>
  rw [subst_formal,actOf_some hi hl]
  have:=hB B[i] (List.getElem_mem hl)
  generalize B[i]=b at this
  cases this with
  | fml h1 h2=>exact .fml h1 h2
  | cls h1=>exact .cls h1
 | @cls n az v s _ ih =>
  rw [subst_class]
  refine .cls fun a ha=>?_
  obtain ⟨a',h1,rfl⟩:=List.mem_map.1 ha
  exact ih a' h1
def ownT (F:List Fm):List Kt:=F.map fun f=>.mk 4 f.name [] false false
theorem fidx_nodup (hn:(F.map (·.name)).Nodup) {i:Nat} (hi:i<F.length):fidx F (F[i]).name=some i:=by
 unfold fidx
 rw [List.findIdx?_eq_some_iff_getElem]
 refine ⟨hi,by simp,fun j hj=>?_⟩
 have:=(List.pairwise_iff_getElem.1 (List.nodup_iff_pairwise_ne.1 hn)) j i (by simp; omega) (by simpa using hi) hj
 simpa using this
theorem own_subst (hn:(F.map (·.name)).Nodup) (hl:A.length=F.length):(ownT F).map (Kt.subst F A)=A:=by
 apply List.ext_getElem
 ·simp [ownT,hl]
 ·intro i h1 h2
  have hi:i<F.length:=by omega
  simp only [ownT,List.getElem_map]
  rw [subst_formal,actOf_some (fidx_nodup hn hi) h2]
  exact flag_none _
theorem own_cl (hn:(F.map (·.name)).Nodup):∀ t∈ownT F,Cl F F.length t:=fun t ht=>by
 obtain ⟨i,hi,rfl⟩:=List.getElem_of_mem ht
 have hi':i<F.length:=by simpa [ownT] using hi
 simp only [ownT,List.getElem_map]
 exact .fml (fidx_nodup hn hi') hi'
theorem subst_none {t:Kt} (h:Cl F 0 t):t.subst G B=t:=by
 induction h with
 | fml _ h=>omega
 | @cls n az v s _ ih =>
  rw [subst_class]
  congr 1
  conv=>rhs; rw [← List.map_id az]
  exact List.map_congr_left fun a ha=>ih a ha
end
end Go.Hr
namespace Go.Hr
open Go
structure Kp where
 name:Nm
 args:List Kt
structure KC where
 name:Nm
 formals:List Fm
 parents:List Kp
 feats:Nat
abbrev KS:=List KC
def KC.cls (x:KC):Cls:=⟨x.name,x.parents.map (·.name),x.feats⟩
def ksys (l:KS):Sys:=l.map KC.cls
def kfind (l:KS) (c:Nm):Option KC:=List.find? (fun x=>x.name == c) l
def fmsOf (l:KS) (c:Nm):List Fm:=((kfind l c).map (·.formals)).getD []
def root : Nm := "ANY".toUTF8.data.toList
section
variable {l:KS} {c:Nm} {x:KC}
theorem kfind_find:find (ksys l) c=(kfind l c).map KC.cls:=by
 unfold find kfind ksys
 rw [List.find?_map]
 rfl
theorem kfind_isC:(kfind l c).isSome=isC (ksys l) c:=by
 unfold isC; rw [kfind_find]; cases kfind l c <;> rfl
theorem kfind_some (h:kfind l c=some x):x.name=c∧x∈l:=⟨by simpa using List.find?_some h,List.mem_of_find?_eq_some h⟩
theorem kfind_mem (hR:Right (ksys l)) (hx:x∈l):kfind l x.name=some x:=by
 have hu:=hR.uniq
 obtain ⟨i,hi,rfl⟩:=List.getElem_of_mem hx
 unfold kfind
 rw [List.find?_eq_some_iff_getElem]
 refine ⟨by simp,i,hi,rfl,fun j hj=>?_⟩
 have:=(List.pairwise_iff_getElem.1 (List.nodup_iff_pairwise_ne.1 hu)) j i (by simp [nms,ksys]; omega) (by simp [nms,ksys]; omega) hj
 simpa [nms,ksys,KC.cls] using this
theorem ksys_mem (hx:x∈l):x.cls∈ksys l:=List.mem_map_of_mem hx
theorem kpar (hR:Right (ksys l)) (h:kfind l c=some x):par (ksys l) c=x.parents.map (·.name):=by
 obtain ⟨rfl,hx⟩:=kfind_some h
 exact hR.par_eq (ksys_mem hx)
theorem fmsOf_some (h:kfind l c=some x):fmsOf l c=x.formals:=by unfold fmsOf; rw [h]; rfl
end
/-! ## Right types -/
def boundOf (F:List Fm) (n:Nm):Nm:=(((fidx F n).bind (F[·]?)).map (·.bound)).getD []
def ctName (F:List Fm) (t:Kt):Nm:=if t.kind=4 then boundOf F t.name else t.name
def under (l:KS) (c b:Nm):Bool:=b == root || (c != root && has (ksys l) c b)
def isNmd (t:Kt):Bool:=t.kind == 3 || t.kind == 4
mutual
def Kt.inner (l : KS) (F : List Fm) : Kt → Int
 | .mk k n az v s =>
  if k=0∨k=1∨k=2 then (if n=[]∧az.length=0∧v=false∧s=false then 0 else 2)
  else if k=4 then (if az.length=0∧s=false then (if (fidx F n).isSome then 0 else 5) else 2)
  else if k=3 then (match kfind l n with
   | none=>if n=root then (if az.length=0 then 0 else 8) else 5
   | some x=>if az.length=x.formals.length then inners l F az (x.formals.map (·.bound)) else 8)
  else 2
def inners (l:KS) (F:List Fm):List Kt→List Nm→Int
 | [],_=>0
 | _::_,[]=>0
 | a::az,b::bs =>
  if isNmd a=false∨a.void=true∨a.sep=true then 8
  else if a.inner l F≠0 then a.inner l F
  else if under l (ctName F a) b=false then 8
  else inners l F az bs
end
def actE (l:KS) (F:List Fm) (a:Kt) (b:Nm):Int :=
 if isNmd a=false∨a.void=true∨a.sep=true then 8
 else if a.inner l F≠0 then a.inner l F
 else if under l (ctName F a) b=false then 8 else 0
theorem inners_cons {l : KS} {F : List Fm} {a : Kt} {az : List Kt} {b : Nm} {bs : List Nm} : inners l F (a :: az) (b :: bs) = if actE l F a b ≠ 0 then actE l F a b else inners l F az bs := by
 rw [inners]
 unfold actE
 by_cases h1:isNmd a=false∨a.void=true∨a.sep=true
 ·simp only [if_pos h1]; rfl
 ·simp only [if_neg h1]
  by_cases h2:a.inner l F≠0
  ·simp only [if_pos h2]
  ·simp only [if_neg h2]
   by_cases h3:under l (ctName F a) b=false
   ·simp only [if_pos h3]; rfl
   ·simp only [if_neg h3]; rfl
def rightK (l:KS) (F:List Fm) (t:Kt):Int:=if 40<t.depth then 3 else t.inner l F
structure ActOk (l:KS) (F:List Fm) (a:Kt) (b:Nm):Prop where
 nmd:isNmd a=true
 void:a.void=false
 sep:a.sep=false
 inn:a.inner l F=0
 und:under l (ctName F a) b=true
theorem actE_zero {l : KS} {F : List Fm} {a : Kt} {b : Nm} : actE l F a b = 0 ↔ ActOk l F a b := by
 unfold actE
 constructor
 ·intro h
  split at h
  ·cases h
  ·rename_i h1
   simp only [not_or,Bool.not_eq_false,Bool.not_eq_true] at h1
   split at h
   ·rename_i h2; exact absurd h h2
   ·rename_i h2
    split at h
    ·cases h
    ·rename_i h3
     exact ⟨h1.1,h1.2.1,h1.2.2,Classical.not_not.1 h2,by simpa using h3⟩
 ·rintro ⟨h1,h2,h3,h4,h5⟩
  simp [h1,h2,h3,h4,h5]
theorem inners_zero {l : KS} {F : List Fm} : ∀ {az : List Kt} {bs : List Nm}, az.length = bs.length → (inners l F az bs = 0 ↔ ∀ (i : Nat) a b, az[i]? = some a → bs[i]? = some b → ActOk l F a b)
 | [],[],_=>by simp [inners]
 | a :: az, b :: bs, h => by
  have ih:=inners_zero (l:=l) (F:=F) (az:=az) (bs:=bs) (by simpa using h)
  rw [inners_cons]
  constructor
  ·intro he
   split at he
   ·rename_i h1; exact absurd he h1
   ·rename_i h1
    have h1:=actE_zero.1 (Classical.not_not.1 h1)
    intro i a' b' ha hb
    cases i with
    | zero=>simp at ha hb; subst ha hb; exact h1
    | succ i=>exact ih.1 he i a' b' (by simpa using ha) (by simpa using hb)
  ·intro hall
   rw [actE_zero.2 (hall 0 a b rfl rfl),if_neg (by decide)]
   exact ih.2 fun i a' b' ha hb=>hall (i+1) a' b' (by simpa using ha) (by simpa using hb)
 | [],_::_,h=>by simp at h
 | _::_,[],h=>by simp at h
theorem inner_class {l : KS} {F : List Fm} {n : Nm} {az : List Kt} {v s : Bool} (h : Kt.inner l F (.mk 3 n az v s) = 0) :
  (kfind l n=none∧n=root∧az=[])∨∃ x,kfind l n=some x∧az.length=x.formals.length∧∀ (i:Nat) a f,az[i]? = some a→x.formals[i]? = some f→ActOk l F a f.bound:=by
 rw [Kt.inner,if_neg (by decide),if_neg (by decide),if_pos rfl] at h
 cases hk:kfind l n with
 | none =>
  rw [hk] at h
  simp only [] at h
  split at h
  ·rename_i h1
   split at h
   ·rename_i h2; exact .inl ⟨rfl,h1,List.eq_nil_of_length_eq_zero h2⟩
   ·cases h
  ·cases h
 | some x =>
  rw [hk] at h
  simp only [] at h
  split at h
  ·rename_i h1
   refine .inr ⟨x,rfl,h1,fun i a f ha hf=>?_⟩
   exact (inners_zero (by simpa using h1)).1 h i a f.bound ha (by rw [List.getElem?_map,hf]; rfl)
  ·cases h
theorem inner_formal {l : KS} {F : List Fm} {n : Nm} {az : List Kt} {v s : Bool} (h : Kt.inner l F (.mk 4 n az v s) = 0) : az = [] ∧ s = false ∧ ∃ i, fidx F n = some i ∧ i < F.length := by
 rw [Kt.inner,if_neg (by decide),if_pos rfl] at h
 split at h
 ·rename_i h1
  split at h
  ·rename_i h2
   obtain ⟨i,hi⟩:=Option.isSome_iff_exists.1 h2
   exact ⟨List.eq_nil_of_length_eq_zero h1.1,h1.2,i,hi,(List.findIdx?_eq_some_iff_getElem.1 hi).1⟩
  ·cases h
 ·cases h
theorem inner_cl {l : KS} {F : List Fm} : ∀ (d : Nat) (t : Kt), t.depth ≤ d → isNmd t = true → t.inner l F = 0 → Cl F F.length t
 | 0,t,hd,_,_=>by cases t; simp [Kt.depth] at hd
 | d + 1, .mk k n az v s, hd, hn, hi => by
  have hk:k=3∨k=4:=by simpa [isNmd,Kt.kind] using hn
  rcases hk with rfl | rfl
  ·refine .cls fun a ha=>?_
   have hda:a.depth≤d:=by have:=depth_args (t:=.mk 3 n az v s) ha; omega
   rcases inner_class hi with ⟨_,_,rfl⟩ | ⟨x,_,hlen,hall⟩
   ·cases ha
   ·obtain ⟨i,hi2,rfl⟩:=List.getElem_of_mem ha
    have:=hall i _ (x.formals[i]'(by omega)) (List.getElem?_eq_getElem hi2) (List.getElem?_eq_getElem _)
    exact inner_cl d _ hda this.nmd this.inn
  ·obtain ⟨rfl,_,i,h1,h2⟩:=inner_formal hi
   exact .fml h1 h2
/-! ## Right systems -/
def fmE (l:KS) (F:List Fm) (i:Nat) (f:Fm):Int :=
 if named f.name=false then 4
 else if (kfind l f.name).isSome∨(fidx (F.take i) f.name).isSome then 6
 else if (kfind l f.bound).isSome=false∧f.bound≠root then 5
 else if (fmsOf l f.bound).length≠0 then 8 else 0
def firstE:List Int→Int
 | []=>0
 | e::t=>if e≠0 then e else firstE t
def formalsE (l:KS) (x:KC):Int:=if 3<x.formals.length then 3 else firstE (x.formals.zipIdx.map fun q=>fmE l x.formals q.2 q.1)
def argE (l:KS) (F:List Fm) (a:Kt) (b:Nm):Int:=if 40<a.depth then 3 else actE l F a b
def parentE (l:KS) (x:KC) (p:Kp):Int:=if p.args.length≠(fmsOf l p.name).length then 8 else firstE ((p.args.zip ((fmsOf l p.name).map (·.bound))).map fun q=>argE l x.formals q.1 q.2)
def parentsE (l:KS) (x:KC):Int:=firstE (x.parents.map (parentE l x))
theorem firstE_zero : ∀ {es : List Int}, firstE es = 0 ↔ ∀ e ∈ es, e = 0
 | []=>by simp [firstE]
 | e::t=>by
  unfold firstE
  split
  ·rename_i h; simp [h]
  ·rename_i h
   have h:=Classical.not_not.1 h
   rw [firstE_zero]; simp [h]
/-! ## Tables -/
abbrev Own:=Nm→Option (List Kt)
def oupd (o:Own) (a:Nm) (ts:List Kt):Own:=fun y=>if y=a then some ts else o y
def seenT (l:KS) (all:List (Nm×Own)) (p:Kp) (a:Nm):List Kt:=(((alook all p.name).bind (· a)).getD []).map (Kt.subst (fmsOf l p.name) p.args)
def clash (o:Own) (a:Nm) (ts:List Kt):Bool:=match o a with | some was=>decide (was≠ts) | none=>false
def ownGo (l:KS) (all:List (Nm×Own)):List (Kp×Nm)→Own→Except Int Own
 | [],o=>.ok o
 | (p,a)::t,o=>if 400<partss (seenT l all p a) then .error 3 else if clash o a (seenT l all p a) then .error 10 else ownGo l all t (oupd o a (seenT l all p a))
def pairs (l:KS) (x:KC):List (Kp×Nm):=x.parents.flatMap fun p=>(above (ksys l) p.name).map fun a=>(p,a)
def own0 (x:KC):Own:=oupd (fun _=>none) x.name (ownT x.formals)
def tabGo (l : KS) : List Nm → List (Nm × Own) → Except (Int × Nm) (List (Nm × Own))
 | [],all=>.ok all
 | c::t,all=>match kfind l c with
  | none=>.ok all
  | some x=>match ownGo l all (pairs l x) (own0 x) with
   | .error e=>.error (e,c)
   | .ok o=>tabGo l t (all++[(c,o)])
def tabs (l:KS):Except (Int×Nm) (List (Nm×Own)):=tabGo l (order (ksys l)) []
def kcheck (l : KS) : Int × Nm :=
 if (check (ksys l)).1≠0 then check (ksys l) else
 match List.find? (fun x=>formalsE l x != 0) l with
 | some x=>(formalsE l x,x.name)
 | none=>match List.find? (fun x=>parentsE l x != 0) l with
  | some x=>(parentsE l x,x.name)
  | none=>match tabs l with
   | .error e=>e
   | .ok _=>(0,[])
end Go.Hr
