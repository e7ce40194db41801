/-
  Package flat: joined. Conditions: what is read,sizes.
-/
import Derived.Test.YtknmacdbffgjgaaGreatDoorM11
import Derived.Test.YtknmacdbffgjgaaGreatDoorM14
set_option linter.unusedVariables false
set_option linter.unusedSimpArgs false
set_option maxRecDepth 100000
set_option maxHeartbeats 16000000
namespace Go.Ck
open Go Go.RowKit
theorem lK {pre R j vs:List Value} {k:Nat} (hk:k+vs.length≤R.length):splice (pre++(R++j)) (pre.length+k) vs=pre++(splice R k vs++j):=by
 unfold splice
 rw [List.take_length_add_append,List.take_append_of_le_length (by omega),show pre.length+k+vs.length=pre.length+(k+vs.length) by omega,List.drop_length_add_append,List.drop_append_of_le_length hk]
 simp only [List.append_assoc]
theorem jY {sz:Nat} {rows:List (List Value)} (h:∀ r∈rows,r.length=sz):rows.flatten.length=rows.length * sz:=by
 induction rows with
 | nil=>simp
 | cons r t ih =>
  rw [List.flatten_cons,List.length_append,ih fun q hq=>h q (by simp [hq]),h r (by simp),List.length_cons,Nat.add_mul]
  omega
section
variable {c:Cx} {ops:Array Oper} {K:Act→World→Prop} {rest:List Oper} {e:Env} {h h' hr:SH}
theorem Il {T E : TypeId} {x y : Operand} {ty : TypeId} {pos : String} {after : Array Edge} {b o n cp m sz : Nat} {rows : List (List Value)} {vs : List Value}
  (hx:e.ev? x=some (.pointer (some ⟨b,o+m * sz,none⟩))) (hy:e.ev? y=some (.agg vs.toArray)) (hT:Sz c.P T sz) (hn:vs.length=sz) (h1:∀ v∈vs,v.oneCell'=true) (hm:m<rows.length) (hs:Sel h (VR (.slice (some ⟨b,o,none⟩) n cp) E sz rows) h')
  (hnx:St c ops K rest e (VR (.slice (some ⟨b,o,none⟩) n cp) E sz (rows.set m vs)::h')) :
  St c ops K (⟨none,.store T x y,ty,pos,after,none⟩::rest) e h:=fun a w hk hh hs'=>by
 obtain ⟨⟨g1,g2⟩,hd,ht⟩:=hh.sel hs
 rcases g2 with ⟨h3,_⟩ | ⟨b',o',cp',pre,j,h3,hb,hp,hc1,hc2,hc3⟩
 ·cases h3
 ·cases h3
  have hfl:=jY g1
  have hle:m * sz+sz≤rows.flatten.length:=by
   rw [hfl]
   have:=Nat.mul_le_mul_right sz (show m+1≤rows.length from hm)
   rw [Nat.add_mul] at this; omega
  have hpt:Holds w (pt b (cl (pre++(rows.flatten++j)) E)::h'):=⟨hb,fun c hc=>by rw [show c=b from hc]; exact hd b ⟨o,_,cp,rfl⟩,ht⟩
  refine ig (h:=pt b (cl (pre++(rows.flatten++j)) E)::h') hx hy hT hn h1 .here (by simp only [List.length_append]; omega) ?_ a w hk hpt hs'
  subst hp
  rw [lK (by omega),mq hn g1 hm]
  intro a w hk hh hw
  refine hnx a w hk ⟨⟨fun q hq=>?_,.inr ⟨b,pre.length,cp,pre,j,by rw [List.length_set],hh.1,Z,by rw [List.length_set]; exact hc1,hc2,?_⟩⟩,fun c hc=>?_,hh.2.2⟩ hw
  ·rcases List.mem_or_eq_of_mem_set hq with hq | rfl
   ·exact g1 q hq
   ·exact hn
  ·have:(rows.set m vs).flatten.length=rows.flatten.length:=by
    rw [jY (sz:=sz) fun q hq=>?_,hfl,List.length_set]
    rcases List.mem_or_eq_of_mem_set hq with hq | rfl
    ·exact g1 q hq
    ·exact hn
   rw [List.length_append,this,← List.length_append]; exact hc3
  ·obtain ⟨o2,_,cp2,h4⟩:=hc
   cases h4
   exact hh.2.1 b Z
theorem CJ {z:Array Value} {sz n:Nat} (hz:z.size=sz):(Builtin.zeroCells z n).toList=(List.replicate n z.toList).flatten:=by
 have hl:(List.replicate n z.toList).flatten.length=n * sz:=by simp [hz]
 apply List.ext_getElem
 ·rw [hl]; simp [Builtin.zeroCells,hz]
 ·intro i h1 h2
  have h3:i<n * sz:=by rw [hl] at h2; exact h2
  have s0:0<sz:=Nat.pos_of_ne_zero fun h=>by rw [h] at h3; simp at h3
  have hm:i / sz<n:=Nat.div_lt_of_lt_mul (by rw [Nat.mul_comm]; exact h3)
  have hk:i % sz<z.toList.length:=by simp [hz]; exact Nat.mod_lt _ s0
  have h4:=oN (rows:=List.replicate n z.toList) (sz:=sz) (m:=i / sz) (k:=i % sz) (r:=z.toList) (x:=z.toList[i % sz]) (fun r hr=>by rw [List.eq_of_mem_replicate hr]; simpa using hz) (by rw [List.getElem?_replicate,if_pos hm]) (List.getElem?_eq_getElem hk)
  rw [Nat.div_add_mod' i sz,List.getElem?_eq_getElem h2] at h4
  rw [Option.some.inj h4]
  simp [Builtin.zeroCells,hz]
  exact getElem!_pos z _ _
theorem tN {T E ty S : TypeId} {x : Operand} {pos : String} {after : Array Edge} {z : Value} {bytes b o n cp cp' m sz : Nat} {rows : List (List Value)} (hx : e.ev? x = some (.slice (some ⟨b, o + m * sz, none⟩) (rows.length - m) cp')) (hT : c.P.underlying T = some (.slice E)) (hE : Inf c.P E z sz bytes)
  (hz:z.cells.size=sz) (hz1:∀ v∈z.cells.toList,v.oneCell'=true) (hm:m<rows.length) (hs:Sel h (VR (.slice (some ⟨b,o,none⟩) n cp) S sz rows) h')
  (hnx:St c ops K rest e (VR (.slice (some ⟨b,o,none⟩) n cp) S sz (rows.take m++List.replicate (rows.length - m) z.cells.toList)::h')) :
  St c ops K (⟨none,.call { callee:=.builtin .clear,args := #[x],argTypes := #[T] },ty,pos,after,none⟩::rest) e h:=by
 refine dY (by simp) fun a w hk hh hw=>?_
 obtain ⟨⟨g1,g2⟩,hd,ht⟩:=hh.sel hs
 rcases g2 with ⟨h3,_⟩ | ⟨b',o',cp2,pre,j,h3,hb,hp,hc1,hc2,hc3⟩
 ·cases h3
 ·cases h3
  obtain ⟨ie,h1,h2,h3,h4⟩:=hE.parts
  have hfl:=jY g1
  have hpt:Holds w (pt b (cl (pre++(rows.flatten++j)) S)::h'):=⟨hb,fun c hc=>by rw [show c=b from hc]; exact hd b ⟨o,_,cp,rfl⟩,ht⟩
  have hg:w.heap[b]? = some (.cells (pre++(rows.flatten++j)).toArray S (0,0)):=hb
  have hzero:(zeroValue E).run c.P w = .ok z w:=by simp [zeroValue,typeInfo,h1,h2]
  have hR:∀ r∈rows.take m++List.replicate (rows.length - m) z.cells.toList,r.length=sz:=by
   intro r hr
   rcases List.mem_append.1 hr with hr | hr
   ·exact g1 r (List.mem_of_mem_take hr)
   ·rw [List.eq_of_mem_replicate hr]; simpa using hz
  have hRl:(rows.take m++List.replicate (rows.length - m) z.cells.toList).length=rows.length:=by
   rw [List.length_append,List.length_take,List.length_replicate]; omega
  have hzc:=CJ (n:=rows.length - m) hz
  have hzl:(Builtin.zeroCells z.cells (rows.length - m)).toList.length=(rows.length - m) * sz:=by rw [hzc]; simp [hz]
  have hms:m * sz+(rows.length - m) * sz=rows.length * sz:=by rw [← Nat.add_mul]; congr 1; omega
  have hsp:splice (pre++(rows.flatten++j)) (o+m * sz) (Builtin.zeroCells z.cells (rows.length - m)).toList=pre++((rows.take m++List.replicate (rows.length - m) z.cells.toList).flatten++j):=by
   rw [← hp,lK (by rw [hzl,hfl]; omega)]
   unfold splice
   rw [hzl,hms,← hfl,List.drop_length,List.append_nil,hzc,List.flatten_append]
   congr 3
   have h5:rows.flatten=(rows.take m).flatten++(rows.drop m).flatten:=by rw [← List.flatten_append,List.take_append_drop]
   have h6:(rows.take m).flatten.length=m * sz:=by
    rw [jY (sz:=sz) fun r hr=>g1 r (List.mem_of_mem_take hr),List.length_take,Nat.min_eq_left (by omega)]
   rw [h5,List.take_append_of_le_length (by omega),← h6,List.take_length]
  have hst:=run_storeCells_at c.P b (o+m * sz) S (Builtin.zeroCells z.cells (rows.length - m)).toList 0 (pre++(rows.flatten++j)).toArray w hg (by simp only [List.size_toArray,List.length_append]; omega) (fun v hv=>by
   rw [hzc] at hv
   obtain ⟨r,hr,hv⟩:=List.mem_flatten.1 hv
   rw [List.eq_of_mem_replicate hr] at hv
   exact hz1 v hv)
  simp only [Nat.add_zero] at hst
  have hcl:(Builtin.clear_ #[T] ty #[.slice (some ⟨b,o+m * sz,none⟩) (rows.length - m) cp']).run c.P w = .ok (.tuple #[]) (w.setRow b (splice (pre++(rows.flatten++j)) (o+m * sz) (Builtin.zeroCells z.cells (rows.length - m)).toList).toArray):=by
   unfold Builtin.clear_
   generalize hq:rows.length - m=q at hst hzl ⊢
   cases q with
   | zero=>omega
   | succ q=>simp [run_underlying hT,hzero,hst,splice]
  simp only [execOp,resolve,invoke,builtin,hk.ev hx,Sem.run_bind,Sem.run_pure,Result.andThen_ok,List.map_toArray,List.map_cons,List.map_nil,hcl]
  have hH:=Holds.setRow hpt (splice (pre++(rows.flatten++j)) (o+m * sz) (Builtin.zeroCells z.cells (rows.length - m)).toList)
  rw [hsp] at hH ⊢
  refine hnx _ _ hk ⟨⟨hR,.inr ⟨b,o,cp,pre,j,by rw [hRl],hH.1,hp,by rw [hRl]; exact hc1,hc2,?_⟩⟩,fun c hc=>?_,hH.2.2⟩ (hw.trans (Same.setRow _ _ _ hb))
  ·rw [List.length_append,jY hR,hRl,← hfl,← List.length_append]; exact hc3
  ·obtain ⟨o2,_,cp2,h4⟩:=hc
   cases h4
   exact hH.2.1 b Z
end
theorem Ee {L K:SH} {a X:Res} (s:Sel L a K) (p:Addr) (u:Value) (h:Rd (Res.star [a,X]) p u):Rd (Res.star (L++[X])) p u:=fun w hw=>by
 have h1:bf (hp w) ((L++[X])++[]):=dA.1 ⟨hw,fun b _ hb=>hb,trivial⟩
 have h2:(L++[X]).Perm ([a,X]++K):=by
  have h3:(L++[X]).Perm ((a::K)++[X]):=s.perm.append_right [X]
  refine h3.trans ?_
  show (a::(K++[X])).Perm (a::(X::K))
  exact .cons _ (List.perm_append_comm (l₁ := K) (l₂ := [X]))
 rw [List.append_nil] at h1
 have h4:=(bf.perm h2).1 h1
 have h5:bf (hp w) (Res.star [a,X]::K):=dA.2 h4
 exact h w h5.1
section
variable {c:Cx} {ops:Array Oper} {K:Act→World→Prop} {rest:List Oper} {e:Env} {h h' hr:SH} {Q:Exit→Act→World→Prop} {x:Code} {ex:Exit} {X:Res}
theorem oZ (L:SH) (X:Res) (hn:∀ Y,Ext X Y→(∀ r L',Sel L r L'→∀ p u,Rd r p u→Rd Y p u)→(∀ r L',Sel L r L'→∀ p u,Rd (Res.star [r,X]) p u→Rd Y p u)→Xt c ex Q e (Y::hr)) (p:Pk h (L++[X]) hr:=by repeat (first | exact Pk.nil | (apply Pk.cons; (repeat (first | exact Sel.here | apply Sel.there))))):Xt c ex Q e h :=
 jv (tC p) (hn _ (Ext.packs X L) (fun _ _ s p u h=>iE s p u h) fun _ _ s p u h=>Ee s p u h)
theorem cd_abs2 (L:SH) (X:Res) (hn:∀ Y,Ext X Y→(∀ r L',Sel L r L'→∀ p u,Rd r p u→Rd Y p u)→(∀ r L',Sel L r L'→∀ p u,Rd (Res.star [r,X]) p u→Rd Y p u)→Cd c x Q e (Y::hr)) (p:Pk h (L++[X]) hr:=by repeat (first | exact Pk.nil | (apply Pk.cons; (repeat (first | exact Sel.here | apply Sel.there))))):Cd c x Q e h :=
 dK (tC p) (hn _ (Ext.packs X L) (fun _ _ s p u h=>iE s p u h) fun _ _ s p u h=>Ee s p u h)
theorem J8 (L:SH) (X:Res) (hn:∀ Y,Ext X Y→(∀ r L',Sel L r L'→∀ p u,Rd r p u→Rd Y p u)→(∀ r L',Sel L r L'→∀ p u,Rd (Res.star [r,X]) p u→Rd Y p u)→St c ops K rest e (Y::hr)) (p:Pk h (L++[X]) hr:=by repeat (first | exact Pk.nil | (apply Pk.cons; (repeat (first | exact Sel.here | apply Sel.there))))):St c ops K rest e h :=
 qG (tC p) (hn _ (Ext.packs X L) (fun _ _ s p u h=>iE s p u h) fun _ _ s p u h=>Ee s p u h)
end
theorem mE {α : Type} {c:Cx} {x:Code} {ex:Exit} {Q:Exit→Act→World→Prop} {e:Env} {h:SH} (E : α → Env) (H : α → SH) (h1:(∀ q e' h',Env.sub (E q) e'→Sub (H q) h'→Xt c ex Q e' h')→Cd c x Q e h) (h2:∀ q,Xt c ex Q (E q) (H q)):Cd c x Q e h :=
 h1 fun q _ _ s1 s2 a w hk hh hw=>h2 q a w (hk.weaken s1) (hh.sub s2) hw
section
variable {c:Cx} {ops:Array Oper} {K:Act→World→Prop} {rest:List Oper} {e:Env} {h h' hr:SH}
theorem st_vrS {T E : TypeId} {x y : Operand} {ty : TypeId} {pos : String} {after : Array Edge} {b o n cp m sz k k0 : Nat} {rows : List (List Value)} {r vs : List Value}
  (hx:e.ev? x=some (.pointer (some ⟨b,o+m * sz+k,none⟩))) (hy:e.ev? y=some (.agg vs.toArray)) (hT:Sz c.P T k0) (hn:vs.length=k0) (h1:∀ v∈vs,v.oneCell'=true) (hr:rows[m]? = some r) (hk:k+k0≤sz) (hs:Sel h (VR (.slice (some ⟨b,o,none⟩) n cp) E sz rows) h')
  (hnx:St c ops K rest e (VR (.slice (some ⟨b,o,none⟩) n cp) E sz (rows.set m (splice r k vs))::h')) :
  St c ops K (⟨none,.store T x y,ty,pos,after,none⟩::rest) e h:=fun a w hk' hh hs'=>by
 obtain ⟨⟨g1,g2⟩,hd,ht⟩:=hh.sel hs
 rcases g2 with ⟨h3,_⟩ | ⟨b',o',cp',pre,j,h3,hb,hp,hc1,hc2,hc3⟩
 ·cases h3
 ·cases h3
  have hfl:=jY g1
  obtain ⟨hm,hrm⟩:=List.getElem?_eq_some_iff.1 hr
  have hrl:r.length=sz:=g1 r (List.mem_of_getElem? hr)
  have hle:m * sz+sz≤rows.flatten.length:=by
   rw [hfl]
   have:=Nat.mul_le_mul_right sz (show m+1≤rows.length from hm)
   rw [Nat.add_mul] at this; omega
  have hpt:Holds w (pt b (cl (pre++(rows.flatten++j)) E)::h'):=⟨hb,fun c hc=>by rw [show c=b from hc]; exact hd b ⟨o,_,cp,rfl⟩,ht⟩
  have hsl:(splice r k vs).length=sz:=by unfold splice; simp; omega
  have hsp:splice rows.flatten (m * sz+k) vs=(rows.set m (splice r k vs)).flatten:=by
   rw [← mq hsl g1 hm]
   have e1:rows.flatten=(rows.take m).flatten++(r++(rows.drop (m+1)).flatten):=by
    have:rows=rows.take m++r::rows.drop (m+1):=by rw [← hrm,List.getElem_cons_drop,List.take_append_drop]
    have h5:=congrArg List.flatten this
    rwa [List.flatten_append,List.flatten_cons] at h5
   have e2:(rows.take m).flatten.length=m * sz:=by
    rw [jY (sz:=sz) fun q hq=>g1 q (List.mem_of_mem_take hq),List.length_take,Nat.min_eq_left (by omega)]
   rw [e1,← e2,lK (by omega)]
   have e3:splice ((rows.take m).flatten++(r++(rows.drop (m+1)).flatten)) (rows.take m).flatten.length (splice r k vs)=(rows.take m).flatten++(splice r 0 (splice r k vs)++(rows.drop (m+1)).flatten):=lK (k:=0) (by omega)
   have e4:splice r 0 (splice r k vs)=splice r k vs:=by
    have:splice r 0 (splice r k vs)=r.take 0++splice r k vs++r.drop (0+(splice r k vs).length):=rfl
    rw [this,Nat.zero_add,hsl,← hrl,List.drop_length,List.take_zero,List.nil_append,List.append_nil]
   rw [e3,e4]
  refine ig (h:=pt b (cl (pre++(rows.flatten++j)) E)::h') hx hy hT hn h1 .here (by simp only [List.length_append]; omega) ?_ a w hk' hpt hs'
  subst hp
  rw [Nat.add_assoc,lK (by omega),hsp]
  intro a w hk hh hw
  have hG:∀ q∈rows.set m (splice r k vs),q.length=sz:=fun q hq=>by
   rcases List.mem_or_eq_of_mem_set hq with hq | rfl
   ·exact g1 q hq
   ·exact hsl
  refine hnx a w hk ⟨⟨hG,.inr ⟨b,pre.length,cp,pre,j,by rw [List.length_set],hh.1,Z,by rw [List.length_set]; exact hc1,hc2,?_⟩⟩,fun c hc=>?_,hh.2.2⟩ hw
  ·have:(rows.set m (splice r k vs)).flatten.length=rows.flatten.length:=by
    rw [jY hG,hfl,List.length_set]
   rw [List.length_append,this,← List.length_append]; exact hc3
  ·obtain ⟨o2,_,cp2,h4⟩:=hc
   cases h4
   exact hh.2.1 b Z
end
end Go.Ck
namespace Go.Fl
open Go Go.RowKit Go.Ck Go.Proofs Go.Proofs.Tryz Go.Proofs.YtknmacdbffgjgaaGreatDoor Fx Go.Hr

def cpS (xs:List Sd):List Sd:=xs.foldl (fun o x=>if o.getLast? = some x then o else o++[x]) []
theorem lL (xs:List Sd) (x:Sd):cpS (xs++[x])=if (cpS xs).getLast? = some x then cpS xs else cpS xs++[x]:=by unfold cpS; rw [List.foldl_append]; rfl
theorem zm {P:List Sd→Prop} (h0:P []) (hs:∀ xs x,P xs→P (xs++[x])) (xs:List Sd):P xs:=by
 have:∀ ys:List Sd,P ys.reverse:=fun ys=>by
  induction ys with
  | nil=>exact h0
  | cons y t ih=>rw [List.reverse_cons]; exact hs _ _ ih
 simpa using this xs.reverse
theorem qY (xs:List Sd):(cpS xs).getLast? = xs.getLast? := by
 refine zm (P:=fun xs=>(cpS xs).getLast? = xs.getLast?) Z (fun xs x ih=>?_) xs
 rw [lL]
 by_cases h:(cpS xs).getLast? = some x
 ·rw [if_pos h,h]; simp
 ·rw [if_neg h]; simp
theorem J9 {x:Sd} (xs:List Sd):x∈cpS xs↔x∈xs:=by
 refine zm (P:=fun xs=>x∈cpS xs↔x∈xs) (by simp [cpS]) (fun xs y ih=>?_) xs
 rw [lL]
 by_cases h:(cpS xs).getLast? = some y
 ·rw [if_pos h,ih]
  have hy:y∈xs:=by rw [qY] at h; exact List.mem_of_getLast? h
  simp only [List.mem_append,List.mem_singleton]
  exact ⟨Or.inl,fun h=>h.elim id fun e=>e ▸ hy⟩
 ·rw [if_neg h]; simp [ih]
theorem Im {xs:List Sd} (h:xs.Pairwise fun a b=>slt b a=false):yX (cpS xs):=by
 revert h
 refine zm (P:=fun xs=>(xs.Pairwise fun a b=>slt b a=false)→yX (cpS xs)) (fun _=>.nil) (fun xs x ih h=>?_) xs
 obtain ⟨h1,-,h2⟩:=List.pairwise_append.1 h
 have h2:∀ y∈xs,slt x y=false:=fun y hy=>h2 y hy x (by simp)
 rw [lL]
 by_cases hl:(cpS xs).getLast? = some x
 ·rw [if_pos hl]; exact ih h1
 ·rw [if_neg hl]
  refine List.pairwise_append.2 ⟨ih h1,List.pairwise_singleton _ _,fun y hy z hz=>?_⟩
  rw [List.mem_singleton.1 hz]
  have hy':=(J9 xs).1 hy
  rcases rF y x with h3 | h3 | h3
  ·exact h3
  ·exfalso
   subst h3
   rw [qY] at hl
   obtain ⟨zs,hz⟩:∃ zs w,xs=zs++[w]:=⟨xs.dropLast,_,(List.dropLast_concat_getLast (List.ne_nil_of_mem hy')).symm⟩
   obtain ⟨w,rfl⟩:=hz
   have hw:slt y w=false:=h2 w (by simp)
   rw [List.getLast?_append,List.getLast?_singleton] at hl
   have hne:w≠y:=fun e=>hl (by simp [e])
   have hwy:slt w y=false:=by
    rcases List.mem_append.1 hy' with h4 | h4
    ·exact (List.pairwise_append.1 h1).2.2 y h4 w (by simp)
    ·exact absurd (List.mem_singleton.1 h4).symm hne
   rcases rF w y with h5 | h5 | h5
   ·rw [hwy] at h5; cases h5
   ·exact hne h5
   ·rw [hw] at h5; cases h5
  ·rw [h2 y hy'] at h3; cases h3
theorem NK {xs ys:List Sd} (hp:ys.Perm xs) (h:ys.Pairwise fun a b=>slt b a=false):cpS ys=qM xs :=
 FH (Im h) (jI xs).1 fun m=>by rw [J9,(jI xs).2,hp.mem_iff]
theorem CK (a b:Sd):(F3 a b<0)↔slt a b=true:=by
 unfold F3 orI qI slt
 rcases dP a.cls b.cls with h | h | h
 ·simp [h]
 ·rw [h]
  simp only [lt_irrefl,Bool.false_eq_true,if_false,beq_self_eq_true,Bool.true_and,Bool.false_or]
  rcases dP a.name b.name with g | g | g
  ·simp [g]
  ·rw [g]; simp [lt_irrefl]
  ·simp [g,iB g]
 ·have h2:¬ a.cls=b.cls:=fun e=>by rw [e,lt_irrefl] at h; cases h
  simp [h,iB h,h2]
theorem swoSd:Sort.SWO (ltOf F3):=by
 have key:∀ x y,ltOf F3 x y=slt x y:=fun x y=>by
  unfold ltOf
  rw [Bool.eq_iff_iff,decide_eq_true_iff,CK]
 refine ⟨fun x=>by rw [key,oU],fun x y z h1 h2=>by rw [key] at *; exact rE h1 h2,fun x y z h1 h2=>?_⟩
 rw [key] at *
 cases h3:slt x z with
 | false=>rfl
 | true =>
  rcases rF x y with h4 | h4 | h4
  ·rw [h1] at h4; cases h4
  ·rw [h4,h2] at h3; cases h3
  ·rw [rE h4 h3] at h2; cases h2
def sdC (s:Sd):List Value:=[sv s.cls,sv s.name]
instance:Inhabited Sd:=⟨⟨[],[]⟩⟩
def Io:Go.Shelf.Ren:={
 f:=fun | 6=>197 | 15=>202 | 14=>249 | 28=>258 | 29=>259 | 20=>281 | 21=>282 | 22=>283 | 23=>284 | 24=>285 | 25=>286 | 26=>287 | 27=>288 | 46=>301 | 47=>290 | 48=>291 | 49=>302 | 50=>303 | 57=>316 | n=>n
 t:=fun | 22=>67 | 24=>69 | 25=>272 | 3=>3 | 39=>275 | 0=>0 | 53=>322 | 55=>324 | 4=>4 | 46=>316 | 45=>315 | 50=>222 | 5=>5 | 9=>9 | 66=>345 | 70=>349 | 76=>365 | 77=>366 | n=>n
 g:=fun n=>n }
theorem laysSd:Go.Proofs.SlLaysF0.n6 prog Io:={
 mixed:=rfl
 f6 := bN "slices.SortFunc[[]cosigner/api.Seed,cosigner/api.Seed]" rfl (func197.trans (congrArg some (by kernel_rfl)))
 f14 := bN "slices.pdqsortCmpFunc[cosigner/api.Seed]" rfl (func249.trans (congrArg some (by kernel_rfl)))
 f15:=func202.trans (congrArg some (by kernel_rfl))
 f20 := bN "slices.insertionSortCmpFunc[cosigner/api.Seed]" rfl (func281.trans (congrArg some (by kernel_rfl)))
 f21 := bN "slices.heapSortCmpFunc[cosigner/api.Seed]" rfl (func282.trans (congrArg some (by kernel_rfl)))
 f22 := bN "slices.breakPatternsCmpFunc[cosigner/api.Seed]" rfl (func283.trans (congrArg some (by kernel_rfl)))
 f23 := bN "slices.choosePivotCmpFunc[cosigner/api.Seed]" rfl (func284.trans (congrArg some (by kernel_rfl)))
 f24 := bN "slices.reverseRangeCmpFunc[cosigner/api.Seed]" rfl (func285.trans (congrArg some (by kernel_rfl)))
 f25 := bN "slices.partialInsertionSortCmpFunc[cosigner/api.Seed]" rfl (func286.trans (congrArg some (by kernel_rfl)))
 f26 := bN "slices.partitionEqualCmpFunc[cosigner/api.Seed]" rfl (func287.trans (congrArg some (by kernel_rfl)))
 f27 := bN "slices.partitionCmpFunc[cosigner/api.Seed]" rfl (func288.trans (congrArg some (by kernel_rfl)))
 f28:=func258.trans (congrArg some (by kernel_rfl))
 f29:=func259.trans (congrArg some (by kernel_rfl))
 f46 := bN "slices.siftDownCmpFunc[cosigner/api.Seed]" rfl (func301.trans (congrArg some (by kernel_rfl)))
 f47:=func290.trans (congrArg some (by kernel_rfl))
 f48:=func291.trans (congrArg some (by kernel_rfl))
 f49 := bN "slices.medianAdjacentCmpFunc[cosigner/api.Seed]" rfl (func302.trans (congrArg some (by kernel_rfl)))
 f50 := bN "slices.medianCmpFunc[cosigner/api.Seed]" rfl (func303.trans (congrArg some (by kernel_rfl)))
 f57 := bN "slices.order2CmpFunc[cosigner/api.Seed]" rfl (func316.trans (congrArg some (by kernel_rfl)))
 t0:=underlying0
 a0:=isAgg0
 z0:=sizeOf0
 v0:=zeroValue0
 t3:=underlying3
 a3:=isAgg3
 z3:=sizeOf3
 v3:=zeroValue3
 t4:=underlying4
 a4:=isAgg4
 z4:=sizeOf4
 v4:=zeroValue4
 t5:=underlying5
 a5:=isAgg5
 z5:=sizeOf5
 v5:=zeroValue5
 t9:=underlying9
 a9:=isAgg9
 z9:=sizeOf9
 v9:=zeroValue9
 t22:=underlying67
 a22:=isAgg67
 z22:=sizeOf67
 v22:=zeroValue67
 t25:=underlying272
 a25:=isAgg272
 z25:=sizeOf272
 v25:=zeroValue272
 t39:=underlying275
 a39:=isAgg275
 z39:=sizeOf275
 v39:=zeroValue275
 t45:=underlying315
 a45:=isAgg315
 z45:=sizeOf315
 v45:=zeroValue315
 t46:=underlying316
 a46:=isAgg316
 z46:=sizeOf316
 v46:=zeroValue316
 t50:=underlying222
 a50:=isAgg222
 z50:=sizeOf222
 v50:=zeroValue222
 t53:=underlying322
 a53:=isAgg322
 z53:=sizeOf322
 v53:=zeroValue322
 t55:=underlying324
 a55:=isAgg324
 z55:=sizeOf324
 v55:=zeroValue324
 t66:=underlying345
 a66:=isAgg345
 z66:=sizeOf345
 v66:=zeroValue345
 t70:=underlying349
 a70:=isAgg349
 z70:=sizeOf349
 v70:=zeroValue349
 t76:=underlying365
 a76:=isAgg365
 z76:=sizeOf365
 v76:=zeroValue365
 t77:=underlying366
 a77:=isAgg366
 z77:=sizeOf366
 v77:=zeroValue366 }
theorem AP {v:Value} {xs:List Sd} (hl:xs.length≤1099511627776):Ct prog 197 #[v,.func (.func 198) #[] #[]] [VR v 69 2 (xs.map sdC)] fun u h'=>u = .tuple #[]∧∃ ys:List Sd,ys.Perm xs∧cpS ys=qM xs∧h'=[VR v 69 2 (ys.map sdC)]:=by
 have h:=F9 (E:=69) (v:=v) laysSd (k:=2) isAgg69 sizeOf69 (enc:=sdC) (fun _=>rfl) (fun x v hv=>by simp [sdC] at hv; rcases hv with rfl | rfl <;> rfl) swoSd (g:=198) (enters_of func198 (by kernel_rfl) rfl) (fun x y=>Ed x y) hl
 refine Ct.mono h ?_
 rintro u h' ⟨rfl,ys,hp,hs,rfl⟩
 refine ⟨Z,ys,hp,NK hp (hs.imp fun {a b} hab=>?_),Z⟩
 cases h3:slt b a with
 | false=>rfl
 | true=>exact (hab ((CK b a).2 h3)).elim
attribute [local irreducible] Go.Ck.Sub St Cd Xt Nx DrL LsW
section
variable {X:Res} {v v':Value} {us us':List Value}
theorem Ef {xs:List Sd} {i:Nat} (h:i<xs.length):(xs.map sdC)[i]? = some [sv (xs[i]).cls,sv (xs[i]).name]:=by rw [List.getElem?_map,List.getElem?_eq_getElem h]; rfl
theorem bV {α : Type} {xs:List α} {i:Nat} (h:i<xs.length):xs.take (i+1)=xs.take i++[xs[i]]:=List.take_succ_eq_append_getElem h
theorem xu {xs:List Sd} {i:Nat} (h:i<xs.length):(xs.take (i+1)).getLast? = some xs[i]:=by rw [bV h,List.getLast?_append,List.getLast?_singleton]; rfl
theorem AQ {v:Value} {xs:List Sd}:Ct prog 199 #[v] [VR v 69 2 (xs.map sdC)] fun u h'=>u.oneCell'=true∧h'=[VR u 69 2 ((cpS xs).map sdC)]:=by
 have hml:maxLen=9223372036854775807:=rfl
 refine aL (n:=61) func199 Z Z (len Z) fun hr w0=>?_
 refine fI (r:=VR v 69 2 (xs.map sdC)) slq fun hok=>?_
 have ho:=VR.one hok.choose_spec
 refine fV (v:=v) (E:=69) (sz:=2) (rows:=xs.map sdC) slq fun wa wc hwf hwl hwm=>?_
 rw [List.length_map] at hwf hwl
 subst hwf
 refine cQ (sV (vA9 Z) (sN (nT (cS (cQ (sM Z (sV (aF Z underlying67) (sV (aO Z Z) (sN (nK9 [0,2,8] Z (nT (cC Z (fun h2=>?_) (fun h2=>?_)))))))))))))
 ·have h2:xs.length<2:=by
   have:(xs.length:Int)<2:=by simpa using h2
   omega
  have hc:cpS xs=xs:=by
   match xs,h2 with
   | [],_=>rfl
   | [x],_=>rfl
  rw [hc]
  refine cQ (sM Z (sV (vA9 Z) (sN (nK9 [2] Z (nT (cT (xR ?_)))))))
  exact aj Z ⟨ho,Z⟩ sbq
 ·have h2:2≤xs.length:=by
   have:¬ (xs.length:Int)<2:=by simpa using h2
   omega
  obtain ⟨b,o,rfl⟩:∃ b o,wa=some ⟨b,o,none⟩:=by
   obtain ⟨f,hf⟩:=hok
   rcases VR.form hf with ⟨h3,h4⟩ | ⟨b,o,cp,h3,-⟩
   ·rw [List.map_eq_nil_iff] at h4; subst h4; simp at h2
   ·rw [List.length_map] at h3; cases h3; exact ⟨b,o,rfl⟩
  refine cK9 (xT (cS (cQ (sV (vA9 Z) (sN (nK9 [0,2,3] Z (nT (cB (aZ (σ := Nat) (fun k=>[(0,.slice (some ⟨b,o,none⟩) xs.length wc),(3,.int .i64 (k:Nat))]) (fun _=>VR (.slice (some ⟨b,o,none⟩) xs.length wc) 69 2 (xs.map sdC)::hr) (fun k=>1≤k∧k≤xs.length∧cpS (xs.take k)=xs.take k) (fun k=>xs.length - k) 1 ⟨Nat.le_refl _,by omega,?_⟩ ?_)))))))))
  ·match xs,h2 with
   | x::y::t,_=>rfl
  rintro k ⟨hk1,hkn,hcp⟩
  refine cS (cQ (sM Z (sM Z (sV (aF Z underlying67) (sV (aO Z Z) (sN (nK9 [0,3,13] Z (nT (cC Z (fun hd=>?_) (fun hd=>?_))))))))))
  ·have hlt:k<xs.length:=by simpa using hd
   have hlt1:k - 1<xs.length:=by omega
   have hr1:=Ef hlt
   have hr0:=Ef hlt1
   have hsub:((k:Int) - 1)=((k - 1:Nat):Int):=by omega
   refine cK9 (xT (cS (cB (cS (bB (ork [(0,2),(1,2),(2,2),(3,1),(4,2),(5,2),(6,2),(7,2),(8,1),(9,1)] .nil) (fun _=>true) mixed (by kernel_rfl) ?_)))))
   refine dV Z (vM Z) (dV Z (vM Z) (dV Z (vI (k:=k) Z Z pX Z hlt Z) (bu Z (ag Z iM Z (eQ hr1)) ?_)))
   refine dV Z (vM Z) (dV Z (vM Z) (dV Z (BJ Z Z (by unfold I64 at *; omega)) (dV Z (vI (k:=k - 1) Z Z pX hsub hlt1 Z) (bu Z (ag Z iM Z (eQ hr0)) ?_))))
   refine bu Z (jG Az Z Z) (bA (nK9 [0,3,25] Z (nT ?_)))
   rw [← xn]
   refine cC Z (fun he=>?_) (fun he=>?_)
   ·have he:xs[k]=xs[k - 1]:=of_decide_eq_true he
    refine cQ (sM Z (sM Z (sV (gB (show Value.slice (some ⟨b,if wc=k then o else o+k * 2,none⟩) (xs.length - k) (wc - k)=Value.slice (some ⟨b,o+k * 2,none⟩) (xs.length - k) (wc - k) by rw [if_neg (by omega)]) (mi (lo:=k) Z Z pX Z (by omega) (by omega))) ?_)))
    refine sV (vA9 Z) (sN (nK9 [0,3,4] Z (nT (cS (cQ (sV (vA9 Z) (sN (nT (cB ?_)))))))))
    have hcp1:cpS (xs.take (k+1))=xs.take k:=by
     rw [bV hlt,lL,qY,if_pos,hcp]
     have:=xu hlt1
     rw [show k - 1+1=k by omega] at this
     rw [this,he]
    have hnk:((xs.length:Int) - (k:Int))=((xs.length - k:Nat):Int):=by omega
    refine aZ (σ := Nat×Nat×List (List Value)) (fun q=>[(0,.slice (some ⟨b,o,none⟩) xs.length wc),(3,.int .i64 (q.1:Nat)),(4,.slice (some ⟨b,o+k * 2,none⟩) (xs.length - k) (wc - k)),(5,.int .i64 (q.2.1:Nat))]) (fun q=>VR (.slice (some ⟨b,o,none⟩) xs.length wc) 69 2 q.2.2::hr) (fun q=>1≤q.2.1∧k+q.2.1≤xs.length∧q.1<k+q.2.1∧q.2.2.length=xs.length∧q.2.2.take q.1=(cpS (xs.take (k+q.2.1))).map sdC∧∀ j,k+q.2.1≤j+1→q.2.2[j]? = (xs.map sdC)[j]?) (fun q=>xs.length - k - q.2.1) (k,1,xs.map sdC) ⟨Nat.le_refl _,by dsimp only; omega,by dsimp only; omega,by simp,by rw [hcp1,List.map_take],fun _ _=>rfl⟩ ?_
    rintro ⟨m,p,rows⟩ ⟨hp1,hpn,hmp,hrl,htk,hrest⟩
    simp only at hp1 hpn hmp hrl htk hrest
    dsimp only
    refine cS (cQ (sM Z (sM Z (sV (aF Z underlying67) (sV (aO Z Z) (sN (nK9 [0,3,4,5,32] Z (nT (cC Z (fun hd2=>?_) (fun hd2=>?_))))))))))
    ·have hltp:p<xs.length - k:=by simpa using hd2
     have hq:k+p<xs.length:=by omega
     have hq1:k+p - 1<xs.length:=by omega
     have hr2:rows[k+p]? = some [sv (xs[k+p]).cls,sv (xs[k+p]).name]:=(hrest _ (by omega)).trans (Ef hq)
     have hr3:rows[k+p - 1]? = some [sv (xs[k+p - 1]).cls,sv (xs[k+p - 1]).name]:=(hrest _ (by omega)).trans (Ef hq1)
     have hsub2:((p:Int) - 1)=((p - 1:Nat):Int):=by omega
     have hrd2:=eQ (b:=b) (o:=o) (n:=xs.length) (cp:=wc) (E:=69) (sz:=2) hr2
     have hrd3:=eQ (b:=b) (o:=o) (n:=xs.length) (cp:=wc) (E:=69) (sz:=2) hr3
     rw [show o+(k+p) * 2=o+k * 2+p * 2 by omega] at hrd2
     rw [show o+(k+p - 1) * 2=o+k * 2+(p - 1) * 2 by omega] at hrd3
     have hcs:cpS (xs.take (k+(p+1)))=if xs[k+p - 1]=xs[k+p] then cpS (xs.take (k+p)) else cpS (xs.take (k+p))++[xs[k+p]]:=by
      rw [show k+(p+1)=k+p+1 by omega,bV hq,lL,qY]
      have:=xu hq1
      rw [show k+p - 1+1=k+p by omega] at this
      rw [this]
      simp only [Option.some.injEq]
     refine cK9 (xT (cS (cB (cS (bB (ork [(0,2),(1,2),(2,2),(3,1),(4,2),(5,2),(6,2),(7,2),(8,1),(9,1)] .nil) (fun _=>true) mixed (by kernel_rfl) ?_)))))
     refine dV Z (vM Z) (dV Z (vM Z) (dV Z (vI (k:=p) Z Z pX Z hltp Z) (bu Z (ag Z iM Z hrd2) ?_)))
     refine dV Z (vM Z) (dV Z (vM Z) (dV Z (BJ Z Z (by unfold I64 at *; omega)) (dV Z (vI (k:=p - 1) Z Z pX hsub2 (by omega) Z) (bu Z (ag Z iM Z hrd3) ?_))))
     refine bu Z (Cc Az Z Z) (bA (nK9 [0,3,4,5,44] Z (nT (cC Z (fun hne=>?_) (fun hne=>?_)))))
     ·have hne:xs[k+p]≠xs[k+p - 1]:=by exact NA hne
      rw [if_neg fun e=>hne e.symm] at hcs
      refine cQ (sM Z (sM Z (sM Z (sM Z (sV (vI (k:=p) Z Z pX Z hltp Z) (sV (ag Z iM Z hrd2) ?_))))))
      refine sV (vI (k:=m) rfl rfl pX rfl (by omega) rfl) (Il (m:=m) (rows:=rows) (vs:=[sv (xs[k+p]).cls,sv (xs[k+p]).name]) rfl rfl sz69 rfl (fun u hu=>by simp at hu; rcases hu with rfl | rfl <;> rfl) (by omega) slq ?_)
      refine sN (nK9 [0,3,4,5] Z (nT (cR (sM Z (sV (aI Z Z (by unfold I64 at *; omega)) (sV (vA9 Z) (sN (nK9 [0,3,4,5] Z (ax (xB (xT (cR (sM Z (sV (aI Z Z (by unfold I64 at *; omega)) (sV (vA9 Z) (sN (nK9 [0,3,4,5] Z (ax (aJ (m+1,p+1,rows.set m [sv (xs[k+p]).cls,sv (xs[k+p]).name]) ⟨by dsimp only; omega,by dsimp only; omega,by dsimp only; omega,by rw [List.length_set]; exact hrl,?_,fun j hj=>?_⟩ (by dsimp only; omega))))))))))))))))))))
      ·rw [hcs,List.map_append,← htk,bV (by rw [List.length_set]; omega),List.take_set_of_le (Nat.le_refl _),List.getElem_set_self]; rfl
      ·have hj:k+(p+1)≤j+1:=hj
       rw [List.getElem?_set_ne (by omega)]; exact hrest j (by omega)
     ·have hne:xs[k+p]=xs[k+p - 1]:=by exact NB hne
      rw [if_pos hne.symm] at hcs
      refine cK9 (xB (xT (cR (sM Z (sV (aI Z Z (by unfold I64 at *; omega)) (sV (vA9 Z) (sN (nK9 [0,3,4,5] Z (ax ?_)))))))))
      refine aJ (m,p+1,rows) ⟨by dsimp only; omega,by dsimp only; omega,by dsimp only; omega,hrl,by rw [hcs]; exact htk,fun j hj=>hrest j (by dsimp only at hj; omega)⟩ (by dsimp only; omega)
    ·have hpe:k+p=xs.length:=by
      have:¬ p<xs.length - k:=by simpa using hd2
      omega
     rw [hpe,List.take_length] at htk
     refine aB (xE (xE (xY (xT (cQ (sM Z (sM Z (sV (gB (show Value.slice (some ⟨b,if wc=m then o else o+m * 2,none⟩) (xs.length - m) (wc - m)=Value.slice (some ⟨b,o+m * 2,none⟩) (rows.length - m) (wc - m) by rw [if_neg (by omega),hrl]) (mi (lo:=m) Z Z pX Z (by omega) (by omega))) ?_))))))))
     refine tN (m:=m) (rows:=rows) rfl underlying67 BX rfl (fun v hv=>by simp [Value.cells] at hv; rcases hv with rfl | rfl <;> rfl) (by omega) slq ?_
     refine sN (nK9 [0,3] Z (nT (cQ (sM Z (sM Z (sV (jT (hi:=m) Z Z pX Z (by omega)) (qG (zi (m:=m) ?_) ?_)))))))
     ·rw [List.length_append,List.length_take,List.length_replicate]; omega
     rw [List.take_append_of_le_length (by rw [List.length_take]; omega),List.take_take,Nat.min_self,htk]
     refine sV (vA9 Z) (sN (nK9 [2] Z (nT (cT (xW (xR (xR (xW (xR ?_)))))))))
     exact aj Z ⟨Z,Z⟩ sbq
   ·have he:xs[k]≠xs[k - 1]:=of_decide_eq_false he
    refine cK9 (xB (xT (cR (sM Z (sV (aI Z Z (by unfold I64 at *; omega)) (sV (vA9 Z) (sN (nK9 [0,3] Z (ax (aJ (k+1) ⟨by omega,by omega,?_⟩ (by show _ - _<_ - _; omega)))))))))))
    rw [bV hlt,lL,qY,if_neg,hcp]
    have:=xu hlt1
    rw [show k - 1+1=k by omega] at this
    rw [this]
    simp only [Option.some.injEq]
    exact fun e=>he e.symm
  ·have hke:k=xs.length:=by
    have:¬ k<xs.length:=by simpa using hd
    omega
   subst hke
   rw [List.take_length] at hcp
   rw [hcp]
   refine aB (xE (xE (xY (xT (cQ (sM Z (sV (vA9 Z) (sN (nK9 [2] Z (nT (cT ?_)))))))))))
   exact aj Z ⟨Z,Z⟩ sbq
end
end Go.Fl
namespace Go.Fl
open Go Go.RowKit Go.Ck Go.Proofs Go.Proofs.Tryz Go.Proofs.YtknmacdbffgjgaaGreatDoor Fx Go.Hr
theorem v_imax {P:Program} {e:Env} {h:SH} {ty':TypeId} {x y:Operand} {ts:Array TypeId} {k:IntKind} {a b:Int} (hx:e.ev? x=some (.int k a)) (hy:e.ev? y=some (.int k b)):Vop P e h (.call { callee:=.builtin .max,args := #[x,y],argTypes:=ts }) ty' (.int k (if b>a then b else a)):=
 ⟨by simp,by simp,fun ρ w d pos after g hρ _=>by
  simp [execOp,resolve,invoke,builtin,hρ x _ hx,hρ y _ hy,Builtin.max_,Builtin.max2]⟩
attribute [local irreducible] Go.Ck.Sub St Cd Xt Nx DrL LsW
section
variable {X:Res} {v v':Value} {us us':List Value}
def nX (x:Cm) (x2 x5 y x11 x12 x13:Value):List Value:=[sv x.og.par,sv x.og.name,.int .i64 x.par,sv x.mem.name,.int .i64 x.mem.kind,x2,sv x.mem.impl.cls,sv x.mem.impl.name,x5,.int .i64 x.mem.ty.kind,sv x.mem.ty.name,y,.bool x.mem.ty.void,.bool x.mem.ty.sep,x11,x12,x13,.int .i64 x.was]
theorem gX {x:Cm} (h:Enc.rep X us x):∃ x2 x5 y x11 x12 x13,us=nX x x2 x5 y x11 x12 x13∧mbL X x.mem x2 x5 y x11 x12 x13:=by
 obtain ⟨ms,rfl,hm⟩:=h
 obtain ⟨x2,x5,y,x11,x12,x13,rfl,hl⟩:=dJ hm
 exact ⟨x2,x5,y,x11,x12,x13,Z,hl⟩
theorem cm_of {x:Cm} {x2 x5 y x11 x12 x13:Value} (h:mbL X x.mem x2 x5 y x11 x12 x13):Enc.rep X (nX x x2 x5 y x11 x12 x13) x:=⟨_,rfl,pU h⟩
theorem Eg {α : Type} [Enc α] {R:Res} {b:Nat} {p q : α} {ux uy:List Value} (h1:Enc.rep R ux p) (h2:Enc.rep R uy q) (hx:Rds R b 0 ux) (hy:Rds R b (Enc.sz α) uy) (hb:2 * Enc.by' α ≤ reachBytes):Ls R (.slice (some ⟨b,0,none⟩) 2 2) [p,q]:=
 ⟨⟨some ⟨b,0,none⟩,2,rfl,Nat.le_refl _,by decide,(fun h=>by cases h),fun i z hi=>by
  match i,hi with
  | 0,hi=>cases hi; exact ⟨b,0,ux,rfl,Enc.len h1,by rw [Nat.zero_mul,Nat.add_zero]; exact hx,h1⟩
  | 1,hi=>cases hi; exact ⟨b,0,uy,rfl,Enc.len h2,by rw [Nat.one_mul,Nat.zero_add]; exact hy,h2⟩⟩,hb⟩
theorem jo {α : Type} [Enc α] {R:Res} {b:Nat} {p : α} {ux:List Value} (h1:Enc.rep R ux p) (hx:Rds R b 0 ux) (hb:1 * Enc.by' α ≤ reachBytes):Ls R (.slice (some ⟨b,0,none⟩) 1 1) [p]:=
 ⟨⟨some ⟨b,0,none⟩,1,rfl,Nat.le_refl _,by decide,(fun h=>by cases h),fun i z hi=>by
  match i,hi with
  | 0,hi=>cases hi; exact ⟨b,0,ux,rfl,Enc.len h1,by rw [Nat.zero_mul,Nat.add_zero]; exact hx,h1⟩⟩,hb⟩
theorem Ip {x:Cm} (h:Enc.rep X us x):Reads prog 194 #[.agg us.toArray] [X] (.bool (!x.dfd)):=by
 have hd:=AC h
 obtain ⟨x2,x5,xy,x11,x12,x13,rfl,hx2,hx5,hxy,hx11,hx12,hx13⟩:=gX h
 have ho:=Enc.ones h
 have hl:=Enc.len h
 unfold nX at *
 refine aL (n:=6) func194 Z Z (len Z) fun hr w0=>?_
 refine cQ (aV Z Z fun b1=>?_)
 refine sV (vA9 Z) (sN (nK9 [1,2] Z (nT (cQ (sV (ag Z gU Z af) ?_)))))
 refine bg Z Z EU Z (hd) ?_
 refine sV (bi Z) (sV (vA9 Z) (sN (nK9 [2] Z (nT (cT ?_)))))
 exact aj Z ⟨Z,Z⟩ sbq
theorem en194:Ck.Enters prog 194:=enters_of func194 (by kernel_rfl) rfl


def jix (l:List Cm):Nat:=(l.findIdx? fun x => !x.dfd).getD 0
theorem Iq {l:List Cm} (h:l≠[]):jix l<l.length:=by
 unfold jix
 cases hq:l.findIdx? fun x => !x.dfd with
 | none=>exact List.length_pos_iff.2 h
 | some i=>exact (List.findIdx?_eq_some_iff_getElem.1 hq).1
theorem jix_mem {l:List Cm} (h:l≠[]):(match l.find? (fun (x:Cm) => !x.dfd) with | some x=>x.mem | none=>(l.head?.map fun (x:Cm)=>x.mem).getD mb0)=(l[jix l]'(Iq h)).mem:=by
 cases hq:l.findIdx? fun x => !x.dfd with
 | none =>
  have h1:l.find? (fun (x:Cm) => !x.dfd)=none:=by
   rw [List.find?_eq_none]
   intro x hx
   have:=List.findIdx?_eq_none_iff.1 hq x hx
   simp [this]
  rw [h1]
  have h2:jix l=0:=by unfold jix; rw [hq]; rfl
  simp only [h2]
  cases l with
  | nil=>exact absurd rfl h
  | cons x t=>rfl
 | some i =>
  obtain ⟨hi,hg,hb⟩:=List.findIdx?_eq_some_iff_getElem.1 hq
  have h1:l.find? (fun (x:Cm) => !x.dfd)=some l[i]:=by
   rw [List.find?_eq_some_iff_getElem]
   exact ⟨hg,i,hi,Z,fun j hj=>by simpa using hb j hj⟩
  have h2:jix l=i:=by unfold jix; rw [hq]; rfl
  rw [h1]
  simp only [h2]
theorem jix_max {l:List Cm}:(if ixI (l.findIdx? fun x => !x.dfd)>0 then ixI (l.findIdx? fun x => !x.dfd) else 0)=(jix l:Nat):=by
 unfold jix
 cases l.findIdx? fun x => !x.dfd with
 | none=>rfl
 | some i=>show (if (i:Int)>0 then (i:Int) else 0)=(i:Nat); split <;> omega
def lV (l:List Cm):List Grp:=l.foldl (fun (o:List Grp) (x:Cm)=>groups [o,x.mem.pre]) []
def gY (l:List Cm):List Grp:=l.foldl (fun (o:List Grp) (x:Cm)=>groups [o,x.mem.post]) []
def mU (l:List Cm):List Sd:=l.flatMap fun (x:Cm)=>x.mem.seeds
theorem xw {l:List Cm} (h:l≠[]):joined l={ (l[jix l]'(Iq h)).mem with seeds:=qM (mU l),pre:=lV l,post:=gY l }:=by
 have e:joined l={ (match l.find? (fun (x:Cm) => !x.dfd) with | some x=>x.mem | none=>(l.head?.map fun (x:Cm)=>x.mem).getD mb0) with seeds:=qM (mU l),pre:=lV l,post:=gY l }:=rfl
 rw [e,jix_mem h]
theorem CL (l:List Cm) (x:Cm):lV (l++[x])=groups [lV l,x.mem.pre]:=by simp [lV]
theorem AR (l:List Cm) (x:Cm):gY (l++[x])=groups [gY l,x.mem.post]:=by simp [gY]
theorem Ll (l:List Cm) (x:Cm):mU (l++[x])=mU l++x.mem.seeds:=by simp [mU]
theorem lM (a b:List Grp):[a,b].flatten.length=a.length+b.length:=by simp
theorem AU (l:List Cm):(lV l).length≤(l.flatMap fun x=>x.mem.pre).length:=by
 have:∀ ys:List Cm,(lV ys.reverse).length≤(ys.reverse.flatMap fun x=>x.mem.pre).length:=fun ys=>by
  induction ys with
  | nil=>simp [lV]
  | cons y t ih =>
   rw [List.reverse_cons,CL]
   have:=lJ [lV t.reverse,y.mem.pre]
   rw [lM] at this
   simp only [List.flatMap_append,List.length_append,List.flatMap_cons,List.flatMap_nil,List.append_nil]
   omega
 simpa using this l.reverse
theorem xx (l:List Cm):(gY l).length≤(l.flatMap fun x=>x.mem.post).length:=by
 have:∀ ys:List Cm,(gY ys.reverse).length≤(ys.reverse.flatMap fun x=>x.mem.post).length:=fun ys=>by
  induction ys with
  | nil=>simp [gY]
  | cons y t ih =>
   rw [List.reverse_cons,AR]
   have:=lJ [gY t.reverse,y.mem.post]
   rw [lM] at this
   simp only [List.flatMap_append,List.length_append,List.flatMap_cons,List.flatMap_nil,List.append_nil]
   omega
 simpa using this l.reverse
theorem Eh {β : Type} (f:Cm→List β) {l:List Cm} {i:Nat} (h:i<l.length):((l.take i).flatMap f).length+(f l[i]).length≤(l.flatMap f).length:=by
 have h1:l=l.take i++l[i]::l.drop (i+1):=by rw [List.getElem_cons_drop,List.take_append_drop]
 have h2:=congrArg (fun x=>(x.flatMap f).length) h1
 simp only [List.flatMap_append,List.flatMap_cons,List.length_append] at h2
 omega
theorem Ka {Y:Res} {news:List (List Value)} {xs:List Sd} (h1:news.length=xs.length) (h2:∀ (i:Nat) us x,news[i]? = some us→xs[i]? = some x→Enc.rep Y us x):news=xs.map sdC:=by
 refine List.ext_getElem (by rw [List.length_map,h1]) fun i g1 g2=>?_
 rw [List.length_map] at g2
 have:news[i]=[sv (xs[i]).cls,sv (xs[i]).name]:=h2 i _ _ (List.getElem?_eq_getElem g1) (List.getElem?_eq_getElem g2)
 rw [this,List.getElem_map]; rfl
theorem jq {α : Type} [Enc α] {X Y:Res} {rows:List (List Value)} {xs:List α} (h:Rws X rows xs) (hr:∀ p u,Rd X p u→Rd Y p u):Rws Y rows xs:=⟨h.1,fun j us x h1 h2=>Enc.up hr (h.2 j us x h1 h2)⟩
theorem zn {Y:Res} {b:Nat} {x y:Value} {p q:List Grp} (h1:Ls Y x p) (h2:Ls Y y q):Ls (Res.star [pt b (cl [x,y] 53),Y]) (.slice (some ⟨b,0,none⟩) 2 2) [p,q]:=
 Eg (ux:=[x]) (uy:=[y]) ⟨x,rfl,h1.up' (bH (.there .here))⟩ ⟨y,rfl,h2.up' (bH (.there .here))⟩ (fun i hi=>by match i,hi with | 0,_=>exact bH .here _ _ (bU rfl)) (fun i hi=>by match i,hi with | 0,_=>exact bH .here _ _ (bU rfl)) (by decide)
theorem rws_sd {Y:Res} (xs:List Sd):Rws Y (xs.map sdC) xs:=⟨by simp,fun j us x h1 h2=>by
 rw [List.getElem?_map,h2] at h1
 cases h1; rfl⟩
theorem cpS_len (xs:List Sd):(cpS xs).length≤xs.length:=by
 refine zm (P:=fun xs=>(cpS xs).length≤xs.length) (Nat.le_refl _) (fun xs y ih=>?_) xs
 rw [lL]
 split <;> simp <;> omega
theorem CO {l : List Cm} (hv : Ls X v l) (h0 : l ≠ []) (hbS : (mU l).length * 32 ≤ 1099511627776) (hbP : (l.flatMap fun x => x.mem.pre).length * 40 ≤ 1099511627776) (hbQ : (l.flatMap fun x => x.mem.post).length * 40 ≤ 1099511627776) :
  CtX prog 122 #[v] X [] fun u Y k'=>k'=[]∧∃ us',u = .agg us'.toArray∧Enc.rep Y us' (joined l):=by
 have hml:maxLen=9223372036854775807:=rfl
 have hrb:reachBytes=140737488351232:=rfl
 obtain ⟨a,cap,rfl,hlc,hcm,_⟩:=id hv.form
 have hjl:=Iq h0
 obtain ⟨b,o,cap2,us,e1,hus,hrd,hre⟩:=hv.at (List.getElem?_eq_getElem hjl)
 cases e1
 rw [xw h0]
 generalize hm:l[jix l].mem=m
 obtain ⟨x2,x5,xy,x11,x12,x13,rfl,hx⟩:=gX hre
 have hxm:mbL X m x2 x5 xy x11 x12 x13:=hm ▸ hx
 obtain ⟨hx2,hx5,hxy,hx11,hx12,hx13⟩:=hxm
 obtain ⟨ax5,kx5,rfl,_⟩:=id hx5.form
 obtain ⟨axy,kxy,rfl,_⟩:=id hxy.form
 obtain ⟨ax11,kx11,rfl,_⟩:=id hx11.form
 obtain ⟨ax2,kx2,rfl,_⟩:=id hx2.form
 obtain ⟨ax12,kx12,rfl,_⟩:=id hx12.form
 obtain ⟨ax13,kx13,rfl,_⟩:=id hx13.form
 have hrd14:Rds X b (o+jix l * 18+3) (ik m (.slice ax2 m.seeds.length kx2) (.slice ax5 m.args.length kx5) (.slice axy m.ty.args.length kxy) (.slice ax11 m.clients.length kx11) (.slice ax12 m.pre.length kx12) (.slice ax13 m.post.length kx13)):=by
  subst hm
  exact bF (k:=3) hrd Z
 unfold ik at hrd14
 unfold CtX
 refine aL (n:=56) func122 Z Z (len Z) fun hr w0=>?_
 refine cQ (au jQ fun b2=>?_)
 refine sN (nT (cQ (sM Z (bg Z Z en193 Z (Cz (g:=fun x:Cm => !x.dfd) hv en194 fun a _ us h=>Ip h) ?_))))
 refine sV (gB (show _=Value.int .i64 (jix l:Nat) by rw [jix_max]) (v_imax Z Z)) ?_
 refine sV (vA9 Z) (sN (nK9 [0,2,3] Z (nT (cQ (sM Z (sM Z (sV (vI (k:=jix l) Z Z lg Z hjl Z) (sV (vF Z dN Z) (sV (ag Z fB Z hrd14) ?_)))))))))
 refine au jQ fun b4=>?_
 refine ai Z Z iD Z Z ?_
 refine sN (nK9 [0,2,4] Z (nT (cQ (sV (vF Z eO Z) (aX Z Z EO ?_)))))
 refine sV (vF Z jD Z) (aX Z Z mM ?_)
 refine sV (vF Z jE Z) (aX Z Z mM ?_)
 refine sN (nK9 [0,2,4] Z (nT (cS (cQ (sM Z (sV (aF Z underlying187) (sM Z (sN (nK9 [2,4,18,19,20] Z (nT (cB (dK (cz 69 2) (aZ (σ := Value×Value×Value×Res×Nat) (fun q=>[(2,.pointer (some ⟨b2,0,none⟩)),(4,.pointer (some ⟨b4,0,none⟩)),(18,.slice (some ⟨b,o,none⟩) l.length cap),(19,.int .i64 l.length),(20,.int .i64 (q.2.2.2.2:Nat))]) (fun q=>pt b2 (cl [.string ⟨#[]⟩,.int .i64 0,.slice none 0 0,.string ⟨#[]⟩,.string ⟨#[]⟩,.slice none 0 0,.int .i64 0,.string ⟨#[]⟩,.slice none 0 0,.bool false,.bool false,.slice none 0 0,.slice none 0 0,.slice none 0 0] 75)::pt b4 (cl [sv m.name,.int .i64 m.kind,q.1,sv m.impl.cls,sv m.impl.name,.slice ax5 m.args.length kx5,.int .i64 m.ty.kind,sv m.ty.name,.slice axy m.ty.args.length kxy,.bool m.ty.void,.bool m.ty.sep,.slice ax11 m.clients.length kx11,q.2.1,q.2.2.1] 75)::VR q.1 69 2 ((mU (l.take q.2.2.2.2)).map sdC)::q.2.2.2.1::hr) (fun q=>q.2.2.2.2≤l.length∧q.1.oneCell'=true∧Ext X q.2.2.2.1∧Ls q.2.2.2.1 q.2.1 (lV (l.take q.2.2.2.2))∧Ls q.2.2.2.1 q.2.2.1 (gY (l.take q.2.2.2.2))) (fun q=>l.length - q.2.2.2.2) (.slice none 0 0,.slice none 0 0,.slice none 0 0,X,0) ⟨Nat.zero_le _,Z,Ext.refl X,Ls.nil,Ls.nil⟩ ?_)))))))))))))
 rintro ⟨w,p,q,Y,i⟩ ⟨hi,hw,hE,hp,hq⟩
 simp only at hi hw hE hp hq
 dsimp only
 refine cQ (sV (aO Z Z) (sN (nT (cS (cC Z (fun hd=>?_) (fun hd=>?_))))))
 ·have hlt:i<l.length:=by simpa using hd
  obtain ⟨b',o',cap3,us,e2,hus,hrd,hre⟩:=(hv.up hE).at (List.getElem?_eq_getElem hlt)
  obtain ⟨rfl,rfl⟩:b=b'∧o=o':=by cases e2; exact ⟨rfl,rfl⟩
  have hS:=Eh (fun x=>x.mem.seeds) hlt
  have hP:=Eh (fun x=>x.mem.pre) hlt
  have hQ:=Eh (fun x=>x.mem.post) hlt
  have hpl:=AU (l.take i)
  have hql:=xx (l.take i)
  have htk:=bV hlt
  generalize l[i]=x at hre hS hP hQ htk
  have hone:=Enc.ones hre
  obtain ⟨y2,y5,yy,y11,y12,y13,rfl,hy2,hy5,hyy,hy11,hy12,hy13⟩:=gX hre
  obtain ⟨ay2,ky2,rfl,_⟩:=id hy2.form
  obtain ⟨ay12,ky12,rfl,_⟩:=id hy12.form
  obtain ⟨ay13,ky13,rfl,_⟩:=id hy13.form
  obtain ⟨ap,kp,rfl,_⟩:=id hp.form
  obtain ⟨aq,kq,rfl,_⟩:=id hq.form
  have hb1:(lV (l.take (i+1))).length * 40≤reachBytes:=by
   have:=AU (l.take (i+1))
   rw [htk] at this ⊢
   simp only [List.flatMap_append,List.length_append,List.flatMap_cons,List.flatMap_nil,List.append_nil] at this
   omega
  have hb2:(gY (l.take (i+1))).length * 40≤reachBytes:=by
   have:=xx (l.take (i+1))
   rw [htk] at this ⊢
   simp only [List.flatMap_append,List.length_append,List.flatMap_cons,List.flatMap_nil,List.append_nil] at this
   omega
  have hgP:∀ b36,CtN prog 196 #[.slice (some ⟨b36,0,none⟩) 2 2] [pt b36 (cl [.slice ap (lV (l.take i)).length kp,.slice ay12 x.mem.pre.length ky12] 53),Y] fun u T=>u.oneCell'=true∧∃ rows,T=VR u 170 2 rows∧Rws (Res.star [pt b36 (cl [.slice ap (lV (l.take i)).length kp,.slice ay12 x.mem.pre.length ky12] 53),Y]) rows (lV (l.take (i+1))):=fun b36=>by
   have h:=rJ (zn (b:=b36) hp hy12) (by rw [lM]; omega)
   rw [← CL,← htk] at h
   exact jS h
  have hgQ:∀ b43,CtN prog 196 #[.slice (some ⟨b43,0,none⟩) 2 2] [pt b43 (cl [.slice aq (gY (l.take i)).length kq,.slice ay13 x.mem.post.length ky13] 53),Y] fun u T=>u.oneCell'=true∧∃ rows,T=VR u 170 2 rows∧Rws (Res.star [pt b43 (cl [.slice aq (gY (l.take i)).length kq,.slice ay13 x.mem.post.length ky13] 53),Y]) rows (gY (l.take (i+1))):=fun b43=>by
   have h:=rJ (zn (b:=b43) hq hy13) (by rw [lM]; omega)
   rw [← AR,← htk] at h
   exact jS h
  unfold nX at *
  refine cK9 (xT (cS (cB (cQ (sV (vI (k:=i) Z Z lg Z hlt Z) (sV (ag Z gU Z hrd) ?_))))))
  refine au qF fun b6=>?_
  refine ai Z Z l9 Z hone ?_
  refine sN (nK9 [2,4,6,18,19,20] Z (nT (cQ (sV (vF Z eO Z) (sV (vY Z qz) ?_)))))
  refine sV (vF Z dN Z) (sV (vF Z eO Z) (sV (vY Z qz) ?_))
  refine qW hy2.1 Z Z underlying67 BX Z (by decide) (show Sel _ (VR w 69 2 ((mU (l.take i)).map sdC)) _ from slq) (show Sel _ Y _ from slq) (fun us x _ hr u hu=>List.all_eq_true.1 (Enc.ones hr) u hu) (by rw [List.length_map]; unfold mU at *; omega) (by rw [List.length_map]; unfold mU at *; omega) (ltn Z) fun w2 news hw2 hn1 hn2 hn3=>?_
  rw [Ka hn1 hn3,← List.map_append,← Ll,← htk]
  refine sV (vF Z eO Z) (aX Z Z EO ?_)
  refine sN (nK9 [2,4,6,18,19,20] Z (nT (bB (ork [(0,2),(1,1),(2,2),(3,2),(4,1),(7,2),(8,1),(9,2),(10,2),(11,1)] (.two 5 (.two 6 (ork [(14,2),(12,0),(13,0),(15,0),(16,2),(17,0)] .nil) 12 (ork [(6,0),(14,2),(13,0),(15,0),(16,2),(17,0)] .nil)) 12 (ork [(5,0),(6,0),(14,2),(13,0),(15,0),(16,2),(17,0)] .nil))) (fun i => !(Nat.beq i 13 || Nat.beq i 15 || Nat.beq i 17)) mixed (by kernel_rfl) ?_)))
  refine dV Z (vF Z jD Z) (bu Z (vY Z zW) ?_)
  refine dV Z (vF Z dN Z) (dV Z (vF Z jD Z) (bu Z (vY Z zW) ?_))
  refine dV Z (vF Z jE Z) (bu Z (vY Z zW) ?_)
  refine dV Z (vF Z dN Z) (dV Z (vF Z jE Z) (bu Z (vY Z zW) ?_))
  refine mH Z Z ?_ ?_
  ·refine ak (cells:=[.slice ap (lV (l.take i)).length kp,.slice ay12 x.mem.pre.length ky12]) Z underlying312 rW Z Z (by kernel_rfl) (ltn Z) fun b36=>aW ?_
   refine mH Z Z ?_ ?_
   ·refine aH Z Z pO Z (hgP b36) ?_
    rintro u1 h1 ⟨T1,rfl,hu1,rows1,rfl,hr1⟩
    simp only [lC,lN]
    refine aW ?_
    refine dV Z (vF Z jD Z) (aQ Z (ak (cells:=[.slice aq (gY (l.take i)).length kq,.slice ay13 x.mem.post.length ky13]) Z underlying312 rW Z Z (by kernel_rfl) (ltn Z) fun b43=>aW ?_))
    refine aQ Z (aH Z Z pO Z (hgQ b43) ?_)
    rintro u2 h2 ⟨T2,rfl,hu2,rows2,rfl,hr2⟩
    simp only [lC,lN]
    refine aW ?_
    refine aQ Z (aX Z Z mM (aW ?_))
    refine dV Z (vF Z jE Z) (aQ Z (aX Z Z mM (aW ?_)))
    refine bA (nK9 [2,4,18,19,20] Z (ax (xB (xT (cR (sV (aI Z Z (by unfold I64 at *; omega)) (sM Z (sN (nK9 [2,4,18,19,20] Z (ax (dS (r:=VR u1 170 2 rows1) slq fun hok1=>?_)))))))))))
    refine dS (r:=VR u2 170 2 rows2) slq fun hok2=>?_
    refine oZ [VR u1 170 2 rows1,VR u2 170 2 rows2,pt b36 (cl [.slice ap (lV (l.take i)).length kp,.slice ay12 x.mem.pre.length ky12] 53),pt b43 (cl [.slice aq (gY (l.take i)).length kq,.slice ay13 x.mem.post.length ky13] 53)] Y fun Y2 hE2 hsel hpk=>?_
    refine aJ (w2,u1,u2,Y2,i+1) ⟨hlt,hw2,hE.trans hE2,Rws.ls (E:=170) (jq hr1 (hpk _ _ (.there (.there .here)))) hok1 (hsel _ _ .here) hb1,Rws.ls (E:=170) (jq hr2 (hpk _ _ (.there (.there (.there .here))))) hok2 (hsel _ _ (.there .here)) hb2⟩ (by dsimp only; omega)
   ·refine ak (cells:=[.slice aq (gY (l.take i)).length kq,.slice ay13 x.mem.post.length ky13]) Z underlying312 rW Z Z (by kernel_rfl) (ltn Z) fun b43=>aW ?_
    refine aQ Z (aH Z Z pO Z (hgP b36) ?_)
    rintro u1 h1 ⟨T1,rfl,hu1,rows1,rfl,hr1⟩
    simp only [lC,lN]
    refine aW ?_
    refine dV Z (vF Z jD Z) (aQ Z (aH Z Z pO Z (hgQ b43) ?_))
    rintro u2 h2 ⟨T2,rfl,hu2,rows2,rfl,hr2⟩
    simp only [lC,lN]
    refine aW ?_
    refine aQ Z (aX Z Z mM (aW ?_))
    refine dV Z (vF Z jE Z) (aQ Z (aX Z Z mM (aW ?_)))
    refine bA (nK9 [2,4,18,19,20] Z (ax (xB (xT (cR (sV (aI Z Z (by unfold I64 at *; omega)) (sM Z (sN (nK9 [2,4,18,19,20] Z (ax (dS (r:=VR u1 170 2 rows1) slq fun hok1=>?_)))))))))))
    refine dS (r:=VR u2 170 2 rows2) slq fun hok2=>?_
    refine oZ [VR u1 170 2 rows1,VR u2 170 2 rows2,pt b36 (cl [.slice ap (lV (l.take i)).length kp,.slice ay12 x.mem.pre.length ky12] 53),pt b43 (cl [.slice aq (gY (l.take i)).length kq,.slice ay13 x.mem.post.length ky13] 53)] Y fun Y2 hE2 hsel hpk=>?_
    refine aJ (w2,u1,u2,Y2,i+1) ⟨hlt,hw2,hE.trans hE2,Rws.ls (E:=170) (jq hr1 (hpk _ _ (.there (.there .here)))) hok1 (hsel _ _ .here) hb1,Rws.ls (E:=170) (jq hr2 (hpk _ _ (.there (.there (.there .here))))) hok2 (hsel _ _ (.there .here)) hb2⟩ (by dsimp only; omega)
  ·refine ak (cells:=[.slice aq (gY (l.take i)).length kq,.slice ay13 x.mem.post.length ky13]) Z underlying312 rW Z Z (by kernel_rfl) (ltn Z) fun b43=>aW ?_
   refine aQ Z (ak (cells:=[.slice ap (lV (l.take i)).length kp,.slice ay12 x.mem.pre.length ky12]) Z underlying312 rW Z Z (by kernel_rfl) (ltn Z) fun b36=>aW ?_)
   refine aQ Z (aH Z Z pO Z (hgP b36) ?_)
   rintro u1 h1 ⟨T1,rfl,hu1,rows1,rfl,hr1⟩
   simp only [lC,lN]
   refine aW ?_
   refine dV Z (vF Z jD Z) (aQ Z (aH Z Z pO Z (hgQ b43) ?_))
   rintro u2 h2 ⟨T2,rfl,hu2,rows2,rfl,hr2⟩
   simp only [lC,lN]
   refine aW ?_
   refine aQ Z (aX Z Z mM (aW ?_))
   refine dV Z (vF Z jE Z) (aQ Z (aX Z Z mM (aW ?_)))
   refine bA (nK9 [2,4,18,19,20] Z (ax (xB (xT (cR (sV (aI Z Z (by unfold I64 at *; omega)) (sM Z (sN (nK9 [2,4,18,19,20] Z (ax (dS (r:=VR u1 170 2 rows1) slq fun hok1=>?_)))))))))))
   refine dS (r:=VR u2 170 2 rows2) slq fun hok2=>?_
   refine oZ [VR u1 170 2 rows1,VR u2 170 2 rows2,pt b36 (cl [.slice ap (lV (l.take i)).length kp,.slice ay12 x.mem.pre.length ky12] 53),pt b43 (cl [.slice aq (gY (l.take i)).length kq,.slice ay13 x.mem.post.length ky13] 53)] Y fun Y2 hE2 hsel hpk=>?_
   refine aJ (w2,u1,u2,Y2,i+1) ⟨hlt,hw2,hE.trans hE2,Rws.ls (E:=170) (jq hr1 (hpk _ _ (.there (.there .here)))) hok1 (hsel _ _ .here) hb1,Rws.ls (E:=170) (jq hr2 (hpk _ _ (.there (.there (.there .here))))) hok2 (hsel _ _ (.there .here)) hb2⟩ (by dsimp only; omega)
 ·have hil:i=l.length:=by
   have:¬ i<l.length:=by simpa using hd
   omega
  subst hil
  rw [List.take_length] at hp hq ⊢
  have hjs:(mU l).length≤1099511627776:=by omega
  refine aB (xE (xE (xY (xT (cQ (sV (vF Z eO Z) (sV (vY Z qz) ?_)))))))
  refine aH Z Z en197 Z (AP hjs) ?_
  rintro u h' ⟨rfl,ys,hperm,hcs,rfl⟩
  simp only [lC,lN]
  refine sN (nK9 [2,4] Z (nT (cQ (sV (vF Z eO Z) (sV (vY Z qz) ?_)))))
  refine aH Z Z en199 Z (AQ (xs:=ys)) ?_
  rintro u h' ⟨hu,rfl⟩
  simp only [lC,lN]
  have hyl:=cpS_len ys
  rw [hcs,hperm.length_eq] at hyl
  rw [hcs]
  refine sV (vF Z eO Z) (aX Z Z EO ?_)
  refine sN (nK9 [2,4] Z (nT (cQ (sV (ag Z fB Z af) ?_))))
  obtain ⟨ap,kp,rfl,_⟩:=id hp.form
  obtain ⟨aq,kq,rfl,_⟩:=id hq.form
  have hone2:([sv m.name,.int .i64 m.kind,u,sv m.impl.cls,sv m.impl.name,.slice ax5 m.args.length kx5,.int .i64 m.ty.kind,sv m.ty.name,.slice axy m.ty.args.length kxy,.bool m.ty.void,.bool m.ty.sep,.slice ax11 m.clients.length kx11,.slice ap (lV l).length kp,.slice aq (gY l).length kq]:List Value).all Value.oneCell'=true:=by simp only [List.all_cons,List.all_nil,hu,Bool.and_true,Bool.true_and]; rfl
  refine ai Z Z iD Z hone2 ?_
  refine sN (nK9 [2] Z (nT (cT (dS (r:=VR u 69 2 ((qM (mU l)).map sdC)) slq fun hok=>?_))))
  refine iy [VR u 69 2 ((qM (mU l)).map sdC)] Y fun Y2 hE2 hsel=>?_
  have hE3:=hE.trans hE2
  exact bC (.cellN Z fB Z slq .nil) ⟨Y2,[],Z,hE3,Z,_,Z,pU (m:={ m with seeds:=qM (mU l),pre:=lV l,post:=gY l }) ⟨Rws.ls (E:=69) (rws_sd _) hok (hsel _ _ .here) (show (qM (mU l)).length * 32≤reachBytes by omega),hx5.up hE3,hxy.up hE3,hx11.up hE3,hp.up hE2,hq.up hE2⟩⟩ sbr
end
end Go.Fl
