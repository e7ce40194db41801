/-
  Structs of numbers held against each other; stores and loads of several cells; results that lie in cells; truths held against each other. Generic: nothing of the program is named here. No condition.
  Marks as one resource; calls of yield with resources in another order; empty rows. Generic: nothing of the program is named here. No condition.
  A region's orders come together at its end. Generic: nothing of the program is named here. No condition.
  Names: comparing them; maps from names: look-up,store,make. Generic: nothing of the program is named here. No condition.
  What is done to names: comparing,length,one sign,the least of two; the number of a map's entries. Generic: nothing of the program is named here. No condition.
  A range over a name's signs. Generic: nothing of the program is named here. No condition.
  The rules once more,with what a tactic finds by itself left out: shorter texts. Generic: nothing of the program is named here. No condition.
  Parts of a function's code,served by theorems of their own. Generic: nothing of the program is named here. No condition.
  Loops and rounds,with a quicker search for what is kept. Generic: nothing of the program is named here. No condition.
-/
import Derived.Test.YtaohbfnepjjdgaaGreatM3
import Derived.Scope
set_option linter.unusedVariables false
set_option linter.unusedSimpArgs false
namespace Go.Ck
open Go Go.RowKit

def isI64:Option TypeDesc→Bool
 | some (.int .i64)=>true
 | _=>false
def okFields (P:Program):List Field→Nat→Bool
 | [],_=>true
 | f :: t, i => (f.name != "_") && isI64 (P.underlying f.type) && Nat.beq f.offset i && okFields P t (i + 1)
def EqI (P:Program) (T:TypeId) (n:Nat):Prop:=P.eqGuardType P.depth T=false∧∀ (xs ys:List Int) (w:World),xs.length=n→ys.length=n →
 (Op.equalIn 10000 T (.agg (ints xs).toArray) (.agg (ints ys).toArray)).run P w = .ok (xs == ys) w
theorem run_part_int {P:Program} {T:TypeId} (h:isI64 (P.underlying T)=true) {xs:List Int} {i:Nat} {x:Int} (hx:xs[i]? = some x) (w:World):(part T (ints xs).toArray i).run P w = .ok (.int .i64 x) w:=by
 have hu:P.underlying T=some (.int .i64):=by
  unfold isI64 at h; split at h
  ·assumption
  ·cases h
 have hi:(isAgg T).run P w = .ok false w:=by
  unfold isAgg
  simp only [Sem.run_bind,run_underlying hu,Result.andThen_ok]
  rfl
 unfold part
 have:(ints xs).toArray[i]? = some (.int .i64 x):=by simp [ints,hx]
 simp only [Sem.run_bind,hi,Result.andThen_ok,Bool.false_eq_true,if_false,this,Sem.run_pure]
theorem run_eqFields {P : Program} {d : Nat} {xs ys : List Int} {w : World} : ∀ (fs : List Field) (i : Nat), okFields P fs i = true → xs.length = i + fs.length → ys.length = i + fs.length →
  (Op.eqFields (d+1) (ints xs).toArray (ints ys).toArray fs).run P w = .ok (xs.drop i == ys.drop i) w
 | [],i,_,hx,hy=>by
  have h1:xs.drop i=[]:=List.drop_of_length_le (by simp at hx; omega)
  have h2:ys.drop i=[]:=List.drop_of_length_le (by simp at hy; omega)
  rw [h1,h2]
  simp [Op.eqFields]
 | f::t,i,h,hx,hy=>by
  simp only [okFields,Bool.and_eq_true,bne_iff_ne] at h
  obtain ⟨⟨⟨h1,h2⟩,h3⟩,h4⟩:=h
  have h3':=Nat.eq_of_beq_eq_true h3
  simp only [List.length_cons] at hx hy
  have hxi:i<xs.length:=by omega
  have hyi:i<ys.length:=by omega
  have hu:P.underlying f.type=some (.int .i64):=by
   unfold isI64 at h2; split at h2
   ·assumption
   ·cases h2
  unfold Op.eqFields
  rw [if_pos h1,h3']
  simp only [Sem.run_bind,run_part_int h2 (List.getElem?_eq_getElem hxi),run_part_int h2 (List.getElem?_eq_getElem hyi),Result.andThen_ok,run_equalIn_int w d f.type .i64 .i64 xs[i] ys[i] hu]
  have hb:(xs.drop i == ys.drop i)=(xs[i] == ys[i] && (xs.drop (i+1) == ys.drop (i+1))):=by
   rw [List.drop_eq_getElem_cons hxi,List.drop_eq_getElem_cons hyi]; rfl
  rw [hb]
  by_cases he:xs[i]=ys[i]
  ·rw [if_neg (by simp [he]),run_eqFields t (i+1) h4 (by omega) (by omega),he]
   simp only [beq_self_eq_true,Bool.true_and]
  ·rw [if_pos (by simp [he]),beq_eq_false_iff_ne.2 he]
   rfl
theorem EqI.of {P:Program} {T:TypeId} {fs:Array Field} {n:Nat} (h1:P.underlying T=some (.struct fs)) (h2:P.stoodInHeld T=false) (h3:P.eqGuardType P.depth T=false) (h4:okFields P fs.toList 0=true) (hn:fs.size=n):EqI P T n:=by
 refine ⟨h3,fun xs ys w hx hy=>?_⟩
 have hf:P.fieldsOf T=fs:=by simp [Program.fieldsOf,h1]
 rw [run_equalIn_struct w 9999 T _ _ (by rw [hf]; exact h1) h2,hf,run_eqFields fs.toList 0 h4 (by simp [hx,hn]) (by simp [hy,hn])]
 simp

section
variable {P:Program} {e:Env} {h h':SH} {ty:TypeId}
theorem v_eql_bool {T t':TypeId} {x y:Operand} {a b:Bool} (hT:P.underlying T=some .bool) (hx:e.ev? x=some (.bool a)) (hy:e.ev? y=some (.bool b)):Vop P e h (.binOp .eql T x y t') ty (.bool (a == b)):=
 ⟨by simp,by simp,fun ρ w d pos after g hρ _=>by
  have hq:(Op.equalIn 10000 T (.bool a) (.bool b)).run P w = .ok (a == b) w:=run_equalIn_bool' w 9999 T a b hT
  simp [execOp,hρ x _ hx,hρ y _ hy,eqGuard,binOp,Op.equal,Op.maxDepth,hq]⟩
theorem v_neq_bool {T t':TypeId} {x y:Operand} {a b:Bool} (hT:P.underlying T=some .bool) (hx:e.ev? x=some (.bool a)) (hy:e.ev? y=some (.bool b)):Vop P e h (.binOp .neq T x y t') ty (.bool (!(a == b))):=
 ⟨by simp,by simp,fun ρ w d pos after g hρ _=>by
  have hq:(Op.equalIn 10000 T (.bool a) (.bool b)).run P w = .ok (a == b) w:=run_equalIn_bool' w 9999 T a b hT
  simp [execOp,hρ x _ hx,hρ y _ hy,eqGuard,binOp,Op.equal,Op.maxDepth,hq]⟩
def Rds (r:Res) (b o:Nat) (vs:List Value):Prop:=∀ i (hi:i<vs.length),Rd r ⟨b,o+i,none⟩ vs[i]
theorem v_loadR {T:TypeId} {x:Operand} {b o n:Nat} {vs:List Value} {r:Res} (hx:e.ev? x=some (.pointer (some ⟨b,o,none⟩))) (hT:LdN P T n) (hl:vs.length=n) (s:Sel h r h') (hr:Rds r b o vs) :
  Vop P e h (.load T x) ty (.agg vs.toArray):=v_loadN hx hT hl fun i hi=>⟨r,h',s,hr i hi⟩
theorem rds_pt {b:Nat} {vs:List Value} {E:TypeId}:Rds (pt b (cl vs E)) b 0 vs:=fun i hi=>rd_cl (by simp [hi])
end

section
variable {c:Cx} {ops:Array Oper} {K:Act→World→Prop} {rest:List Oper} {e:Env} {h h' hr:SH}
theorem st_storeN {T E : TypeId} {x y : Operand} {ty : TypeId} {pos : String} {after : Array Edge} {b off n : Nat} {l vs : List Value} {k : SH}
  (hx:e.ev? x=some (.pointer (some ⟨b,off,none⟩))) (hy:e.ev? y=some (.agg vs.toArray)) (hT:Sz c.P T n) (hn:vs.length=n) (h1:∀ v∈vs,v.oneCell'=true) (hs:Sel h (pt b (cl l E)) k) (ho:off+vs.length≤l.length)
  (hnx:St c ops K rest e (pt b (cl (splice l off vs) E)::k)) :
  St c ops K (⟨none,.store T x y,ty,pos,after,none⟩::rest) e h :=
 st_any (by simp) fun a w hk hh hs'=>by
  have hh':=hh.sel hs
  have hg:w.heap[b]? = some (.cells l.toArray E (0,0)):=hh'.1
  have hr:(Instr.storeAt T (.pointer (some ⟨b,off,none⟩)) (.agg vs.toArray)).run c.P w = .ok () (w.setRow b (splice l off vs).toArray):=by
   have hst:=run_storeCells_at c.P b off E vs 0 l.toArray w hg (by simpa using ho) h1
   unfold Instr.storeAt storeVar
   have hsz:(Value.agg vs.toArray).cells.size=n:=by simp [Value.cells,hn]
   simp only [Instr.sureAddr,Sem.run_bind,Sem.run_pure,Result.andThen_ok,hT w,hsz]
   simp only [Value.cells,ne_eq,not_true_eq_false,if_false,hst]
   simp [splice]
  simp only [execOp,hk.ev hx,hk.ev hy,Sem.run_bind,hr,Result.andThen_ok,Sem.run_pure]
  exact hnx _ _ hk (Holds.setRow hh' (splice l off vs)) (hs'.trans (Same.setRow _ _ _ hh'.1))
theorem st_storeW {T E:TypeId} {x y:Operand} {ty:TypeId} {pos:String} {after:Array Edge} {b n:Nat} {l vs:List Value} {k:SH}
  (hx:e.ev? x=some (.pointer (some ⟨b,0,none⟩))) (hy:e.ev? y=some (.agg vs.toArray)) (hT:Sz c.P T n) (hn:vs.length=n) (h1:∀ v∈vs,v.oneCell'=true) (hs:Sel h (pt b (cl l E)) k) (hl:l.length=vs.length)
  (hnx:St c ops K rest e (pt b (cl vs E)::k)) :
  St c ops K (⟨none,.store T x y,ty,pos,after,none⟩::rest) e h:=by
 refine st_storeN hx hy hT hn h1 hs (by omega) ?_
 have:splice l 0 vs=vs:=by simp [splice,← hl]
 rw [this]; exact hnx
end

theorem ones {vs:List Value} (h:vs.all Value.oneCell'=true):∀ v∈vs,v.oneCell'=true:=List.all_eq_true.1 h

/-! ## Results that lie in cells -/
inductive ResV (P:Program) (h:SH) (e:Env):List ResultVar→List Value→Prop
 | nil:ResV P h e [] []
 | tmp {t:Nat} {v:Value} {rs:List ResultVar} {vs:List Value}:e.get? t=some v→ResV P h e rs vs→ResV P h e (.tmp t::rs) (v::vs)
 | cell1 {a b o:Nat} {T:TypeId} {v:Value} {rs:List ResultVar} {vs:List Value}:e.get? a=some (.pointer (some ⟨b,o,none⟩))→Ld1 P T→At h ⟨b,o,none⟩ v→ResV P h e rs vs→ResV P h e (.cell a T::rs) (v::vs)
 | cellN {a b n:Nat} {T E:TypeId} {us:List Value} {h':SH} {rs:List ResultVar} {vs:List Value}:e.get? a=some (.pointer (some ⟨b,0,none⟩))→LdN P T n→us.length=n→Sel h (pt b (cl us E)) h'→ResV P h e rs vs→ResV P h e (.cell a T::rs) (.agg us.toArray::vs)
theorem loadVar_of {P:Program} {T:TypeId} {a:Addr} {v:Value} {w:World} (h:(Instr.loadAt T (.pointer (some a))).run P w = .ok v w):(loadVar T a).run P w = .ok v w:=by
 unfold Instr.loadAt at h
 simpa [Instr.sureAddr] using h
theorem run_resultsV {P : Program} {fn : Func} {n : Nat} {ds : List Deferred} {a : Act} {e : Env} {h : SH} (hk : Kn n ds a e) {vs : List Value} (hr : ResV P h e fn.results.toList vs) {w : World} (hh : Holds w h) :
  (results fn a.tmps).run P w = .ok (outOf vs) w:=by
 have key:∀ (f:ResultVar→Sem Value) (_:∀ t,f (.tmp t)=pure (a.tmps.getD t undef)) (_:∀ t T,f (.cell t T)=do loadVar T (← asAddr (a.tmps.getD t undef))) (l:List ResultVar) (vs:List Value),ResV P h e l vs→(l.mapM f).run P w = .ok vs w:=by
  intro f hf hc l vs hv
  induction hv with
  | nil=>simp
  | tmp h1 _ ih=>simp [List.mapM_cons,ih,hf,Array.getD_eq_getD_getElem?,hk.get _ _ h1]
  | cell1 h1 h2 h3 _ ih =>
   simp only [List.mapM_cons,hc,Array.getD_eq_getD_getElem?,hk.get _ _ h1,Option.getD_some,asAddr,Sem.run_bind,Sem.run_pure,Result.andThen_ok,loadVar_of (h2 w _ _ (h3.cell hh)),ih]
  | cellN h1 h2 h3 h4 _ ih =>
   have hld:=h2 w _ 0 _ h3 (fun i hi=>by rw [List.getElem?_eq_getElem (by omega)]; exact (rds_pt i (by omega)).at h4 hh)
   simp only [List.mapM_cons,hc,Array.getD_eq_getD_getElem?,hk.get _ _ h1,Option.getD_some,asAddr,Sem.run_bind,Sem.run_pure,Result.andThen_ok,loadVar_of hld,ih]
 unfold results
 rw [← Array.toArray_toList (xs:=fn.results),List.mapM_toArray]
 simp only [Sem.run_bind,Sem.run_map]
 rw [key _ (fun _=>rfl) (fun _ _=>rfl) _ _ hr]
 simp only [Result.andThen_ok,Sem.run_pure]
 cases vs with
 | nil=>simp [outOf]
 | cons v t=>cases t <;> simp [outOf]
section
variable {P:Program} {r:Option Nat} {n:Nat} {w0:World} {hr:SH} {R:Value→SH→Prop} {fn:Func} {e:Env} {h h':SH} {vs:List Value}
theorem xt_retV (hv:ResV P h e fn.results.toList vs) (hR:R (outOf vs) h') (hp:Sub (h'++hr) h):Xt ⟨P,r,n,[],w0⟩ .ret (bodyPost P fn (Post w0 hr R)) e h :=
 fun a w hk hh hw=>⟨hk.defers,_,run_resultsV hk hv hh,_,h',rfl,hR,hh.sub hp,hw⟩
end

/-! ## A scope that nothing jumps within -/
section
variable {P:Program} {F:Fence} {n:Nat} {b:Frame} {a:Act} {k:List Item} {cs:List Frame} {w:World} {Q:Exit→Act→World→Prop}
theorem stepR_scope {c:Code}:step P (lone (b.atR a (.code (.scope c)::k)) cs w) = .next (lone (b.atR a (.code c::.inScope c::k)) cs w):=step_lone_go (by simp [stepG,stepG.exec,Frame.atR])
theorem stepR_inScope {c:Code}:step P (lone (b.atR a (.inScope c::k)) cs w) = .next (lone (b.atR a k) cs w):=step_lone_go (by simp [stepG,stepG.exec,Frame.atR])
theorem wpIn_scope {c : Code} (h : c.wpIn F n P (Exit.noGoto Q) a w) : (Code.scope c).wpIn F n P Q a w := by
 intro b k cs hro hb hr
 have h0:(lone (b.atR a (.code (.scope c)::k)) cs w).fenced P F:=fenced_calm hb hr rfl
 obtain ⟨e,a₁,w₁,hq,harr⟩:=h b (.inScope c::k) cs hro hb hr
 cases e with
 | normal=>exact ⟨.normal,a₁,w₁,hq,.head h0 stepR_scope (StepsIn.trans harr (.one (fenced_calm hb hr rfl) stepR_inScope))⟩
 | exit id =>
  have hx:exitTo id (.inScope c::k)=exitTo id k:=by simp [exitTo]
  exact ⟨.exit id,a₁,w₁,hq,fun k' hk=>.head h0 stepR_scope (harr.1 k' (by rw [hx]; exact hk)),
   fun hr' hk=>let ⟨k₁,h1,h2⟩:=harr.2 hr' (by rw [hx]; exact hk); ⟨k₁,h1,.head h0 stepR_scope h2⟩⟩
 | goto l=>exact hq.elim
 | ret=>exact ⟨_,a₁,w₁,hq,.of_steps (.one h0 stepR_scope) harr⟩
 | panic ch=>exact ⟨_,a₁,w₁,hq,.of_steps (.one h0 stepR_scope) harr⟩
 | outgrown=>exact ⟨_,a₁,w₁,hq,.of_steps (.one h0 stepR_scope) harr⟩
end
section
variable {c:Cx} {Q:Exit→Act→World→Prop} {e:Env} {h:SH}
theorem cd_scope {x:Code} (hx:Cd c x (Exit.noGoto Q) e h):Cd c (.scope x) Q e h:=fun a w hk hh hw=>wpIn_scope (hx a w hk hh hw)
theorem xt_ret_scope (hx:Xt c .ret Q e h):Xt c .ret (Exit.noGoto Q) e h:=hx
end
end Go.Ck
namespace Go.Ck
open Go

section
variable {c:Cx} {Q:Exit→Act→World→Prop} {e:Env} {h h':SH} {x:Code}
theorem cd_marks0 (hc:Cd c x Q e (Res.star (marks [])::h)):Cd c x Q e h:=fun a w hk hh hw=>hc a w hk ⟨trivial,fun _ hb=>hb.elim,hh⟩ hw
theorem xt_mark {ex:Exit} {db:Nat} {bs:List Nat} {h1 h2:SH} (s1:Sel h (pt db (.deferred (some []))) h1) (s2:Sel h1 (Res.star (marks bs)) h2) (hx:Xt c ex Q e (Res.star (marks (db::bs))::h2)):Xt c ex Q e h:=fun a w hk hh hw=>by
 have k1:=hh.sel s1
 have k2:Holds w (pt db (.deferred (some []))::Res.star (marks bs)::h2):=k1.perm ((s2.perm).cons _)
 have k3:HoldsF (hp w) (pt db (.deferred (some []))::(marks bs++h2)):=by
  refine ⟨k2.1,fun b hb hd=>k2.2.1 b hb ?_,star_iff.1 k2.2.2⟩
  rcases SH.dom_append.1 hd with h | h
  ·exact .inl h
  ·exact .inr h
 exact hx a w hk (star_iff.2 k3) hw
end
theorem Yc.perm {P:Program} {l:Nat} {args:Array Value} {hf hf':SH} {R:Value→SH→Prop} (h:Yc P l args hf R) (p:hf'.Perm hf):Yc P l args hf' R:=fun hr w hh=>h hr w (hh.perm (p.append_right hr))
section
variable {P:Program} {r:Option Nat} {n:Nat} {w0:World} {hr:SH} {R:Value→SH→Prop} {fn:Func} {e:Env} {h h':SH} {vs:List Value} {bs:List Nat} {ds:List Deferred}
theorem xt_retS (hds:ds=bs.map mk) (hv:e.res? fn.results.toList=some vs) (hR:R (outOf vs) h') (hp:Sub (Res.star (marks bs)::(h'++hr)) h):Xt ⟨P,r,n,ds,w0⟩ .ret (bodyPostM (Fw none) 0 P fn (Post w0 hr R)) e h :=
 fun a w hk hh hw=>by
  show LeavesInM (Fw none) 0 P fn a.tmps _ a.defers .returning w
  rw [hk.defers,hds]
  exact leavesM bs w (star_iff.1 (hh.sub hp)) hw fun w' h1 h2=>⟨_,run_results hk hv w',_,h',rfl,hR,h1,h2⟩
end
theorem Ct.perm {P:Program} {k:FuncId} {args:Array Value} {hf hf':SH} {R:Value→SH→Prop} (h:Ct P k args hf R) (p:hf'.Perm hf):Ct P k args hf' R:=fun hr w hh=>h hr w (hh.perm (p.append_right hr))
theorem rec_back {rec:Loop} (h1:rec.state = .ready) (h2:rec.pending=none):({ ({ rec with state:=.busy }:Loop) with state:=.ready,pending:=none }:Loop)=rec:=by
 obtain ⟨st,pe,fn,tm,ps,a,b,d⟩:=rec
 simp only at h1 h2
 subst h1 h2
 rfl
theorem cd_range' {P : Program} {n : Nat} {ds : List Deferred} {w0 : World} {Q : Exit → Act → World → Prop} {e : Env} {h : SH} {g : Operand} {k : FuncId} {fi cp : Array Value} {ps : Array Tmp} {assign body : Code}
  (hg:e.ev? g=some (.func (.func k) fi cp)) (hE:Enters P k)
  (hct:∀ (l db:Nat) (rec:Loop),rec.state = .ready→rec.pending=none→rec.params=ps→rec.assign=assign→rec.body=body→Kn n [] { tmps:=rec.tmps,defers:=[] } e →
   ∃ R',Ct P k (fi ++ #[.func (.yield l) #[] #[]]++cp) (pt l (.loop rec)::pt db (.deferred (some []))::h) R' ∧
    ∀ v h',R' v h'→∃ rec h'',Sel h' (pt l (.loop rec)) h''∧rec.state≠.busy∧(match rec.pending with | none=>Xt ⟨P,none,n,mk db::ds,w0⟩ .normal Q e h'' | some x=>Cd ⟨P,none,n,mk db::ds,w0⟩ x Q e h'')) :
  Cd ⟨P,none,n,ds,w0⟩ (.rangeFunc g ps assign body) Q e h :=
 cd_range hg hE fun l db fn tm hk=>hct l db (rec0 fn tm ps assign body db) rfl rfl rfl rfl rfl hk
section
variable {c:Cx} {ops:Array Oper} {K:Act→World→Prop} {rest:List Oper} {e:Env} {h:SH} {Q:Exit→Act→World→Prop}
theorem st_buildSlice0 {d : Nat} {T E ty : TypeId} {pos : String} {after : Array Edge} {z : Value} {sz bytes : Nat} (hT : c.P.underlying T = some (.slice E)) (hE : Inf c.P E z sz bytes) (hd : d < c.n)
  (hnx:∀ b,St c ops K rest ((d,.slice (some ⟨b,0,none⟩) 0 0)::e) (vec (.slice (some ⟨b,0,none⟩) 0 0) E sz 0 []::h)) :
  St c ops K (⟨some d,.buildSlice T 0 #[],ty,pos,after,none⟩::rest) e h :=
 st_any (by simp) fun a w hk hh hs=>by
  obtain ⟨ie,h1,h2,h3,h4⟩:=hE.parts
  have hr:(Instr.buildSlice T 0 (#[].map fun (i,x)=>(i,a.eval x))).run c.P w = .ok (.slice (some ⟨w.heap.size,0,none⟩) 0 0) (w.alloc (cl [] E)):=by
   have h0:Array.range 0 = #[]:=rfl
   simp [Instr.buildSlice,run_underlying hT,sizeOf,typeInfo,h1,Instr.fill,newRow,cl,h0]
  simp only [execOp,Sem.run_bind,hr,Result.andThen_ok,Sem.run_pure]
  have hA:=Holds.alloc hh (cl [] E)
  exact hnx _ _ _ (hk.put _ hd) ⟨⟨by simp,.inr ⟨w.heap.size,0,[],rfl,hA.1,Nat.le_refl _,Nat.zero_le _,by simp⟩⟩,fun b ⟨m,cp,hv⟩=>(by cases hv; exact hA.2.1 _ rfl),hA.2.2⟩ (hs.trans (Grew.alloc _ _ rfl).toSame)
end
end Go.Ck
namespace Go.Ck
open Go
theorem dr_cutK {α : Type} {c:Cx} {ops:Array Oper} {pre:Nat→Bool} {hC:SH} {K:Act→World→Prop} {t:Ord} {e:Env} {h:SH} (E : α → Env) (H : α → SH) (hcont:∀ x,Nx c K (E x) (H x))
  (hwalk:(∀ x e' h',Env.sub (E x) e'→Sub (H x) h'→Nx c K e' h')→DrL c ops pre hC K t e h):DrL c ops pre hC K t e h :=
 hwalk fun x _ _ h1 h2 a w hk hh hw=>hcont x a w (hk.weaken h1) (hh.sub h2) hw
section
variable {c:Cx} {ops:Array Oper} {K:Act→World→Prop} {rest:List Oper} {e:Env} {h h' hr:SH}
end
end Go.Ck
namespace Go.Ck
open Go Go.RowKit
abbrev Bs:=List UInt8
abbrev sv (n:Bs):Value:=.string ⟨⟨n⟩⟩
theorem beq_bs (a b:Bs):((⟨⟨a⟩⟩:ByteArray) == ⟨⟨b⟩⟩)=(a == b):=by
 show ((⟨a⟩:Array UInt8) == ⟨b⟩)=_
 rw [Bool.eq_iff_iff]; simp
/-! ## Maps from names -/
def senc (m:List (Bs×Value)):List (Value×Value):=m.map fun p=>(sv p.1,p.2)
def slook (m:List (Bs×Value)) (k:Bs):Option Value:=(m.find? (·.1 == k)).map (·.2)
def supd:List (Bs×Value)→Bs→Value→List (Bs×Value)
 | [],k,v=>[(k,v)]
 | p::t,k,v=>if p.1=k then (k,v)::t else p::supd t k v
def SBrn (es:Array MapEntry) (ck:Nat) (m:List (Bs×Value)):Prop:=(∀ x∈es.toList,x.born<ck)∧(es.toList.map (·.born)).Nodup∧(m.map (·.1)).Nodup
def mps (b:Nat) (m:List (Bs×Value)):Res where
 dom:=(· = b)
 ok f:=∃ es ck,f b=some (.map es ck)∧es.toList.map (fun x=>(x.key,x.val))=senc m∧SBrn es ck m
 loc f g he:=fun ⟨es,ck,h1,h2⟩=>⟨es,ck,by rw [← he b rfl]; exact h1,h2⟩
 pres f:=fun ⟨es,ck,h1,_⟩ b' hb=>by rw [hb,h1]; rfl
def sfind (m:List (Bs×Value)) (k:Bs):Option (Nat×Value):=(m.findIdx? (·.1 == k)).bind fun j=>(slook m k).map fun v=>(j,v)
theorem findNow_senc (k : Bs) : ∀ (es : List MapEntry) (m : List (Bs × Value)) (i : Nat), es.map (fun x => (x.key, x.val)) = senc m →
  Instr.findNow .string (sv k) es i=some ((sfind m k).map fun p=>(i+p.1,p.2))
 | [],m,i,h=>by
  have:m=[]:=by cases m with | nil=>rfl | cons _ _=>simp [senc] at h
  subst this; simp [Instr.findNow,sfind]
 | x :: es, m, i, h => by
  cases m with
  | nil=>simp [senc] at h
  | cons p t =>
   simp only [List.map_cons,senc,List.cons.injEq,Prod.mk.injEq] at h
   obtain ⟨⟨h1,h2⟩,h3⟩:=h
   unfold Instr.findNow
   rw [h1]
   by_cases hp:p.1=k
   ·simp [Instr.sameNow,hp,slook,List.findIdx?_cons,h2,sfind,beq_bs]
   ·have hpk:(k == p.1)=false:=by simp; exact fun e=>hp e.symm
    have hpk':(p.1 == k)=false:=by simp [hp]
    have ih:=findNow_senc k es t (i+1) h3
    simp only [Instr.sameNow,beq_bs,hpk]
    rw [ih]
    simp only [sfind,List.findIdx?_cons,hpk',Bool.false_eq_true,if_false,slook,List.find?_cons,Option.some.injEq]
    cases t.findIdx? (·.1 == k) with
    | none=>rfl
    | some j=>simp only [Option.map_some,Option.bind_some]; cases h:(List.find? (·.1 == k) t) <;> simp [Nat.add_assoc,Nat.add_comm 1 j]
theorem slook_findIdx {m:List (Bs×Value)} {k:Bs}:(m.findIdx? (·.1 == k)=none↔slook m k=none):=by
 simp [slook,List.findIdx?_eq_none_iff,List.find?_eq_none]
theorem slook_upd (m : List (Bs × Value)) (k k' : Bs) (v : Value) : slook (supd m k v) k' = if k' = k then some v else slook m k' := by
 induction m with
 | nil=>by_cases h:k'=k <;> simp [supd,slook,h]; exact fun e=>h e.symm
 | cons p t ih =>
  unfold supd
  by_cases hp:p.1=k
  ·rw [if_pos hp]
   by_cases h:k'=k
   ·simp [slook,h]
   ·have h1:(k == k')=false:=by simp; exact fun e=>h e.symm
    have h2:(p.1 == k')=false:=by rw [hp]; exact h1
    simp [slook,h,List.find?_cons,h1,h2]
  ·rw [if_neg hp]
   by_cases h:p.1=k'
   ·have:¬ k'=k:=fun e=>hp (h.trans e)
    simp [slook,h,this]
   ·have h2:(p.1 == k')=false:=by simp [h]
    simp only [slook,List.find?_cons,h2] at ih ⊢
    exact ih
theorem supd_keys : ∀ (m : List (Bs × Value)) (k : Bs) (v : Value) (x : Bs), x ∈ (supd m k v).map (·.1) → x = k ∨ x ∈ m.map (·.1)
 | [],k,v,x,h=>by simp [supd] at h; exact .inl h
 | p::t,k,v,x,h=>by
  unfold supd at h
  split at h
  ·simp only [List.map_cons,List.mem_cons] at h ⊢
   exact h.imp id .inr
  ·simp only [List.map_cons,List.mem_cons] at h ⊢
   rcases h with h | h
   ·exact .inr (.inl h)
   ·exact (supd_keys t k v x h).imp id .inr
theorem supd_nodup : ∀ (m : List (Bs × Value)) (k : Bs) (v : Value), (m.map (·.1)).Nodup → ((supd m k v).map (·.1)).Nodup
 | [],k,v,_=>by simp [supd]
 | p::t,k,v,h=>by
  rw [List.map_cons,List.nodup_cons] at h
  unfold supd
  split
  ·rename_i hp
   rw [List.map_cons,List.nodup_cons]
   exact ⟨by rw [← hp]; exact h.1,h.2⟩
  ·rename_i hp
   rw [List.map_cons,List.nodup_cons]
   exact ⟨fun hm=>(supd_keys t k v _ hm).elim hp h.1,supd_nodup t k v h.2⟩
theorem modify_senc (k : Bs) (v : Value) : ∀ (es : List MapEntry) (m : List (Bs × Value)) (i : Nat), es.map (fun x => (x.key, x.val)) = senc m → m.findIdx? (·.1 == k) = some i →
  (es.modify i (fun x=>{ x with key:=sv k,val:=v })).map (fun x=>(x.key,x.val))=senc (supd m k v)
 | [],m,i,h,hi=>by
  have:m=[]:=by cases m with | nil=>rfl | cons _ _=>simp [senc] at h
  subst this; simp at hi
 | x :: es, m, i, h, hi => by
  cases m with
  | nil=>simp at hi
  | cons p t =>
   simp only [List.map_cons,senc,List.cons.injEq,Prod.mk.injEq] at h
   obtain ⟨⟨h1,h2⟩,h3⟩:=h
   by_cases hp:p.1=k
   ·simp [List.findIdx?_cons,hp] at hi
    subst hi
    simp [supd,hp,senc,h3,List.modify]
   ·have hpk':(p.1 == k)=false:=by simp [hp]
    simp only [List.findIdx?_cons,hpk',Bool.false_eq_true,if_false,Option.map_eq_some_iff] at hi
    obtain ⟨j,hj,rfl⟩:=hi
    have ih:=modify_senc k v es t j h3 hj
    simp only [List.modify_succ_cons,List.map_cons,ih,supd,hp,if_false,senc,h1,h2]
def MpS (P:Program) (T K E:TypeId):Prop:=P.underlying T=some (.map K E)∧P.underlying K=some .string

section
variable {P:Program} {e:Env} {h h':SH} {ty:TypeId}
theorem run_findKeyS {K:TypeId} (hK:P.underlying K=some .string) {es:Array MapEntry} {m:List (Bs×Value)} (hm:es.toList.map (fun x=>(x.key,x.val))=senc m) (k:Bs) (w:World) :
  (Instr.findKey K (sv k) es.toList).run P w = .ok (sfind m k) w:=by
 unfold Instr.findKey
 simp only [Sem.run_bind,run_underlying hK,Result.andThen_ok,findNow_senc k es.toList m 0 hm,Sem.run_pure,Nat.zero_add]
 congr 1
 cases sfind m k <;> rfl
theorem run_checkKeyS {K:TypeId} (hK:P.underlying K=some .string) (b:Bool) (n:Nat) (k:Bs) (w:World):(Instr.checkKey b (n+1) K (sv k)).run P w = .ok () w:=by
 unfold Instr.checkKey
 simp only [Sem.run_bind,run_underlying hK,Result.andThen_ok,Sem.run_pure]
theorem run_lookupS {T K E : TypeId} (hT : MpS P T K E) {z : Value} {sz bytes : Nat} (hE : Inf P E z sz bytes) {w : World} {b : Nat} {m : List (Bs × Value)} (hb : (mps b m).ok (hp w)) (k : Bs) (ok : Bool) :
  (Instr.lookup T (.map (some b)) (sv k) ok).run P w = .ok (if ok then .tuple #[(slook m k).getD z,.bool (slook m k).isSome] else (slook m k).getD z) w:=by
 obtain ⟨es,ck,h1,h2,_⟩:=hb
 obtain ⟨ie,g1,g2,_,_⟩:=hE.parts
 have hzero:(zeroValue E).run P w = .ok z w:=by simp [zeroValue,typeInfo,g1,g2]
 have hg:(getObj b).run P w = .ok (.map es ck) w:=run_getObj_map h1
 unfold Instr.lookup
 simp only [Sem.run_bind,run_underlying hT.1,Result.andThen_ok,hg,Sem.run_pure,run_checkKeyS hT.2,run_findKeyS hT.2 h2]
 cases hi:m.findIdx? (·.1 == k) with
 | none =>
  have:=slook_findIdx.1 hi
  have hf:sfind m k=none:=by simp [sfind,hi]
  rw [hf]
  cases ok <;> simp [this,hzero]
 | some j =>
  cases hl:slook m k with
  | none=>rw [slook_findIdx.2 hl] at hi; cases hi
  | some v =>
   have hf:sfind m k=some (j,v):=by simp [sfind,hi,hl]
   rw [hf]
   cases ok <;> simp
theorem v_slookup_ok {T K E:TypeId} {x y:Operand} {b:Nat} {m:List (Bs×Value)} {k:Bs} {z:Value} {sz bytes:Nat} (hx:e.ev? x=some (.map (some b))) (hy:e.ev? y=some (sv k)) (hT:MpS P T K E) (hE:Inf P E z sz bytes) (hs:Sel h (mps b m) h') :
  Vop P e h (.lookup T x y true) ty (.tuple #[(slook m k).getD z,.bool (slook m k).isSome]):=
 ⟨by simp,by simp,fun ρ w d pos after g hρ hh=>by
  simp [execOp,hρ x _ hx,hρ y _ hy,run_lookupS hT hE (hh.sel hs).1 k true]⟩
theorem v_slookup {T K E:TypeId} {x y:Operand} {b:Nat} {m:List (Bs×Value)} {k:Bs} {z:Value} {sz bytes:Nat} (hx:e.ev? x=some (.map (some b))) (hy:e.ev? y=some (sv k)) (hT:MpS P T K E) (hE:Inf P E z sz bytes) (hs:Sel h (mps b m) h') :
  Vop P e h (.lookup T x y false) ty ((slook m k).getD z):=
 ⟨by simp,by simp,fun ρ w d pos after g hρ hh=>by
  simp [execOp,hρ x _ hx,hρ y _ hy,run_lookupS hT hE (hh.sel hs).1 k false]⟩
end
section
variable {c:Cx} {ops:Array Oper} {K:Act→World→Prop} {rest:List Oper} {e:Env} {h h' hr:SH}
theorem st_smapUpdate {T K' E ty : TypeId} {x y v : Operand} {pos : String} {after : Array Edge} {b : Nat} {m : List (Bs × Value)} {k : Bs} {u : Value} (hx : e.ev? x = some (.map (some b))) (hy : e.ev? y = some (sv k)) (hv : e.ev? v = some u)
  (hT:MpS c.P T K' E) (hs:Sel h (mps b m) h') (hnx:St c ops K rest e (mps b (supd m k u)::h')) :
  St c ops K (⟨none,.mapUpdate T x y v,ty,pos,after,none⟩::rest) e h :=
 st_any (by simp) fun a w hk hh hw => by
  have hh':=hh.sel hs
  obtain ⟨es,ck,h1,h2,b1,b2,b3⟩:=hh'.1
  have hnd:=supd_nodup m k u b3
  have h1':w.heap[b]? = some (.map es ck):=h1
  have hlt:b<w.heap.size:=(Array.getElem?_eq_some_iff.1 h1').1
  have hg:(getObj b).run c.P w = .ok (.map es ck) w:=run_getObj_map h1
  have hset:∀ o,(setObj b o).run c.P w = .ok () { w with heap:=w.heap.setIfInBounds b o }:=fun o=>by simp [setObj,Sem.run,h1']
  have hnew:∀ es' ck',es'.toList.map (fun x=>(x.key,x.val))=senc (supd m k u)→(∀ x∈es'.toList,x.born<ck')→(es'.toList.map (·.born)).Nodup→Holds { w with heap:=w.heap.setIfInBounds b (.map es' ck') } (mps b (supd m k u)::h'):=fun es' ck' he hb1 hb2=>by
   refine ⟨⟨es',ck',?_,he,hb1,hb2,hnd⟩,hh'.2.1,HoldsF.loc hh'.2.2 fun c hc=>?_⟩
   ·show (w.heap.setIfInBounds b _)[b]? = _
    simp [hlt]
   ·exact (putObj_other w b c _ (fun e=>hh'.2.1 b rfl (e ▸ hc))).symm
  have hsame:∀ es' ck',Same w { w with heap:=w.heap.setIfInBounds b (.map es' ck') }:=fun es' ck'=>⟨rfl,rfl,rfl,by simp,fz_one (b:=b) (fun o ho=>by rw [h1'] at ho; cases ho; rfl) (fun o ho=>by
   have:(w.heap.setIfInBounds b (.map es' ck'))[b]? = some o:=ho
   simp [hlt] at this; rw [← this]; rfl) fun c hc=>putObj_other w b c _ hc⟩
  have hrun : ∃ w', (Instr.mapUpdate T (.map (some b)) (sv k) u).run c.P w = .ok () w' ∧ Holds w' (mps b (supd m k u) :: h') ∧ Same w w' := by
   unfold Instr.mapUpdate
   simp only [Sem.run_bind,run_underlying hT.1,Result.andThen_ok,hg,run_checkKeyS hT.2,run_findKeyS hT.2 h2]
   cases hi:m.findIdx? (·.1 == k) with
   | none =>
    have hl:=slook_findIdx.1 hi
    have hf:sfind m k=none:=by simp [sfind,hi]
    simp only [hf,hset]
    refine ⟨_,rfl,hnew _ _ ?_ ?_ ?_,hsame _ _⟩
    rotate_left
    ·intro x hx
     simp only [Array.toList_push,List.mem_append,List.mem_singleton] at hx
     rcases hx with hx | rfl
     ·have:=b1 x hx; omega
     ·exact Nat.lt_succ_self _
    ·simp only [Array.toList_push,List.map_append,List.map_cons,List.map_nil]
     refine List.nodup_append.2 ⟨b2,by simp,fun x hx y hy e=>?_⟩
     obtain ⟨z,hz,rfl⟩:=List.mem_map.1 hx
     have:=b1 z hz
     simp at hy
     omega
    have hup : supd m k u = m ++ [(k, u)] := by
     have:∀ (m:List (Bs×Value)),slook m k=none→supd m k u=m++[(k,u)]:=by
      intro m
      induction m with
      | nil=>intro _; rfl
      | cons p t ih =>
       intro hm
       have hp:¬ p.1=k:=fun e=>by simp [slook,e] at hm
       have hpk:(p.1 == k)=false:=by simp [hp]
       have ht:slook t k=none:=by simpa [slook,List.find?_cons,hpk] using hm
       simp [supd,hp,ih ht]
     exact this m hl
    rw [hup]
    simp only [Array.toList_push,List.map_append,List.map_cons,List.map_nil,h2,senc]
   | some j =>
    cases hl:slook m k with
    | none=>rw [slook_findIdx.2 hl] at hi; cases hi
    | some v0 =>
     have hkey:((es[j]?).map (·.key)).getD (sv k)=sv k:=by
      cases hej:es[j]? with
      | none=>rfl
      | some x =>
       have h3:(es.toList.map (fun x=>(x.key,x.val)))[j]? = some (x.key,x.val):=by simp [hej]
       rw [h2] at h3
       simp only [senc,List.getElem?_map,Option.map_eq_some_iff] at h3
       obtain ⟨p,hp,hpe⟩:=h3
       simp only [Prod.mk.injEq] at hpe
       have h4:=List.findIdx?_eq_some_iff_getElem.1 hi
       obtain ⟨hjl,h5,_⟩:=h4
       have:m[j]=p:=by rw [List.getElem?_eq_getElem hjl] at hp; exact Option.some.inj hp
       rw [this] at h5
       simp only [beq_iff_eq] at h5
       simp [← hpe.1,h5]
     have hf:sfind m k=some (j,v0):=by simp [sfind,hi,hl]
     simp only [hf,hkey]
     have hstay:(Instr.keyThatStays (sv k) (sv k)).run c.P w = .ok (sv k) w:=by
      unfold Instr.keyThatStays
      rw [if_pos (by unfold Instr.sameBits; rw [beq_bs]; simp)]
      rfl
     simp only [Sem.run_bind,hstay,Result.andThen_ok,hset]
     have hmb:(es.toList.modify j (fun x=>{ x with key:=sv k,val:=u })).map (·.born)=es.toList.map (·.born):=modify_born _ _ _ (fun _=>rfl)
     refine ⟨_,rfl,hnew _ _ ?_ ?_ ?_,hsame _ _⟩
     rotate_left
     ·intro x hx
      rw [Array.toList_modify] at hx
      have hx':x.born∈(es.toList.modify j (fun x=>{ x with key:=sv k,val:=u })).map (·.born):=List.mem_map.2 ⟨x,hx,rfl⟩
      rw [hmb] at hx'
      obtain ⟨z,hz,he⟩:=List.mem_map.1 hx'
      have:=b1 z hz
      omega
     ·rw [Array.toList_modify,hmb]; exact b2
     have:=modify_senc k u es.toList m j h2 hi
     simpa using this
  obtain ⟨w',hr,hH,hS⟩:=hrun
  simp only [execOp,hk.ev hx,hk.ev hy,hk.ev hv,Sem.run_bind,hr,Result.andThen_ok,Sem.run_pure]
  exact hnx _ _ hk hH (hw.trans hS)
theorem st_sinsert {T K' E ty : TypeId} {x y v : Operand} {pos : String} {after : Array Edge} {b : Nat} {m : List (Bs × Value)} {k : Bs} {u : Value} (hx : e.ev? x = some (.map (some b))) (hy : e.ev? y = some (sv k)) (hv : e.ev? v = some u)
  (hT:MpS c.P T K' E) (hs:Sel h (mps b m) h') (hnx:St c ops K rest e (mps b (supd m k u)::h')) :
  St c ops K (⟨none,.insert T x y v,ty,pos,after,none⟩::rest) e h :=
 st_any (by simp) fun a w hk hh hw => by
  have hh':=hh.sel hs
  obtain ⟨es,ck,h1,h2,b1,b2,b3⟩:=hh'.1
  have hnd:=supd_nodup m k u b3
  have h1':w.heap[b]? = some (.map es ck):=h1
  have hlt:b<w.heap.size:=(Array.getElem?_eq_some_iff.1 h1').1
  have hg:(getObj b).run c.P w = .ok (.map es ck) w:=run_getObj_map h1
  have hset:∀ o,(setObj b o).run c.P w = .ok () { w with heap:=w.heap.setIfInBounds b o }:=fun o=>by simp [setObj,Sem.run,h1']
  have hnew:∀ es' ck',es'.toList.map (fun x=>(x.key,x.val))=senc (supd m k u)→(∀ x∈es'.toList,x.born<ck')→(es'.toList.map (·.born)).Nodup→Holds { w with heap:=w.heap.setIfInBounds b (.map es' ck') } (mps b (supd m k u)::h'):=fun es' ck' he hb1 hb2=>by
   refine ⟨⟨es',ck',?_,he,hb1,hb2,hnd⟩,hh'.2.1,HoldsF.loc hh'.2.2 fun c hc=>?_⟩
   ·show (w.heap.setIfInBounds b _)[b]? = _
    simp [hlt]
   ·exact (putObj_other w b c _ (fun e=>hh'.2.1 b rfl (e ▸ hc))).symm
  have hsame:∀ es' ck',Same w { w with heap:=w.heap.setIfInBounds b (.map es' ck') }:=fun es' ck'=>⟨rfl,rfl,rfl,by simp,fz_one (b:=b) (fun o ho=>by rw [h1'] at ho; cases ho; rfl) (fun o ho=>by
   have:(w.heap.setIfInBounds b (.map es' ck'))[b]? = some o:=ho
   simp [hlt] at this; rw [← this]; rfl) fun c hc=>putObj_other w b c _ hc⟩
  have hrun : ∃ w', (Instr.mapUpdate T (.map (some b)) (sv k) u).run c.P w = .ok () w' ∧ Holds w' (mps b (supd m k u) :: h') ∧ Same w w' := by
   unfold Instr.mapUpdate
   simp only [Sem.run_bind,run_underlying hT.1,Result.andThen_ok,hg,run_checkKeyS hT.2,run_findKeyS hT.2 h2]
   cases hi:m.findIdx? (·.1 == k) with
   | none =>
    have hl:=slook_findIdx.1 hi
    have hf:sfind m k=none:=by simp [sfind,hi]
    simp only [hf,hset]
    refine ⟨_,rfl,hnew _ _ ?_ ?_ ?_,hsame _ _⟩
    rotate_left
    ·intro x hx
     simp only [Array.toList_push,List.mem_append,List.mem_singleton] at hx
     rcases hx with hx | rfl
     ·have:=b1 x hx; omega
     ·exact Nat.lt_succ_self _
    ·simp only [Array.toList_push,List.map_append,List.map_cons,List.map_nil]
     refine List.nodup_append.2 ⟨b2,by simp,fun x hx y hy e=>?_⟩
     obtain ⟨z,hz,rfl⟩:=List.mem_map.1 hx
     have:=b1 z hz
     simp at hy
     omega
    have hup : supd m k u = m ++ [(k, u)] := by
     have:∀ (m:List (Bs×Value)),slook m k=none→supd m k u=m++[(k,u)]:=by
      intro m
      induction m with
      | nil=>intro _; rfl
      | cons p t ih =>
       intro hm
       have hp:¬ p.1=k:=fun e=>by simp [slook,e] at hm
       have hpk:(p.1 == k)=false:=by simp [hp]
       have ht:slook t k=none:=by simpa [slook,List.find?_cons,hpk] using hm
       simp [supd,hp,ih ht]
     exact this m hl
    rw [hup]
    simp only [Array.toList_push,List.map_append,List.map_cons,List.map_nil,h2,senc]
   | some j =>
    cases hl:slook m k with
    | none=>rw [slook_findIdx.2 hl] at hi; cases hi
    | some v0 =>
     have hkey:((es[j]?).map (·.key)).getD (sv k)=sv k:=by
      cases hej:es[j]? with
      | none=>rfl
      | some x =>
       have h3:(es.toList.map (fun x=>(x.key,x.val)))[j]? = some (x.key,x.val):=by simp [hej]
       rw [h2] at h3
       simp only [senc,List.getElem?_map,Option.map_eq_some_iff] at h3
       obtain ⟨p,hp,hpe⟩:=h3
       simp only [Prod.mk.injEq] at hpe
       have h4:=List.findIdx?_eq_some_iff_getElem.1 hi
       obtain ⟨hjl,h5,_⟩:=h4
       have:m[j]=p:=by rw [List.getElem?_eq_getElem hjl] at hp; exact Option.some.inj hp
       rw [this] at h5
       simp only [beq_iff_eq] at h5
       simp [← hpe.1,h5]
     have hf:sfind m k=some (j,v0):=by simp [sfind,hi,hl]
     simp only [hf,hkey]
     have hstay:(Instr.keyThatStays (sv k) (sv k)).run c.P w = .ok (sv k) w:=by
      unfold Instr.keyThatStays
      rw [if_pos (by unfold Instr.sameBits; rw [beq_bs]; simp)]
      rfl
     simp only [Sem.run_bind,hstay,Result.andThen_ok,hset]
     have hmb:(es.toList.modify j (fun x=>{ x with key:=sv k,val:=u })).map (·.born)=es.toList.map (·.born):=modify_born _ _ _ (fun _=>rfl)
     refine ⟨_,rfl,hnew _ _ ?_ ?_ ?_,hsame _ _⟩
     rotate_left
     ·intro x hx
      rw [Array.toList_modify] at hx
      have hx':x.born∈(es.toList.modify j (fun x=>{ x with key:=sv k,val:=u })).map (·.born):=List.mem_map.2 ⟨x,hx,rfl⟩
      rw [hmb] at hx'
      obtain ⟨z,hz,he⟩:=List.mem_map.1 hx'
      have:=b1 z hz
      omega
     ·rw [Array.toList_modify,hmb]; exact b2
     have:=modify_senc k u es.toList m j h2 hi
     simpa using this
  obtain ⟨w',hr,hH,hS⟩:=hrun
  simp only [execOp,hk.ev hx,hk.ev hy,hk.ev hv,Sem.run_bind,hr,Result.andThen_ok,Sem.run_pure]
  exact hnx _ _ hk hH (hw.trans hS)
theorem st_smakeMap {d:Nat} {T ty:TypeId} {pos:String} {after:Array Edge} (hd:d<c.n) (hnx:∀ b,St c ops K rest ((d,.map (some b))::e) (mps b []::h)) :
  St c ops K (⟨some d,.makeMap T none,ty,pos,after,none⟩::rest) e h :=
 st_any (by simp) fun a w hk hh hw=>by
  simp only [execOp,Instr.makeMap,Option.map_none,Sem.run_bind,run_newObj_alloc,Result.andThen_ok,Sem.run_pure]
  have hA:=Holds.alloc hh (.map #[] 0)
  exact hnx _ _ _ (hk.put _ hd) ⟨⟨#[],0,hA.1,rfl,fun x hx=>by simp at hx,List.nodup_nil,List.nodup_nil⟩,hA.2.1,hA.2.2⟩ (hw.trans (Grew.alloc _ _ rfl).toSame)
end
end Go.Ck
namespace Go.Ck
open Go Go.RowKit
theorem size_bs (a:Bs):(⟨⟨a⟩⟩:ByteArray).size=a.length:=rfl
theorem toList_bs (a:Bs):(⟨⟨a⟩⟩:ByteArray).toList=a:=ByteArray.toList_eq _
section
variable {P:Program} {e:Env} {h h':SH} {ty:TypeId}
theorem v_seql {t t':TypeId} {x y:Operand} {a b:Bs} (hx:e.ev? x=some (sv a)) (hy:e.ev? y=some (sv b)):Vop P e h (.binOp .eql t x y t') ty (.bool (a == b)):=
 ⟨by simp,by simp,fun ρ w d pos after g hρ _=>by simp [execOp,hρ x _ hx,hρ y _ hy,eqGuard,binOp,Op.stringOp,toList_bs]⟩
theorem v_sneq {t t':TypeId} {x y:Operand} {a b:Bs} (hx:e.ev? x=some (sv a)) (hy:e.ev? y=some (sv b)):Vop P e h (.binOp .neq t x y t') ty (.bool (!(a == b))):=
 ⟨by simp,by simp,fun ρ w d pos after g hρ _=>by simp [execOp,hρ x _ hx,hρ y _ hy,eqGuard,binOp,Op.stringOp,toList_bs]⟩
theorem v_slss {t t':TypeId} {x y:Operand} {a b:Bs} (hx:e.ev? x=some (sv a)) (hy:e.ev? y=some (sv b)):Vop P e h (.binOp .lss t x y t') ty (.bool (Op.bytesLess a b)):=
 ⟨by simp,by simp,fun ρ w d pos after g hρ _=>by simp [execOp,hρ x _ hx,hρ y _ hy,eqGuard,binOp,Op.stringOp,toList_bs]⟩
theorem v_sgtr {t t':TypeId} {x y:Operand} {a b:Bs} (hx:e.ev? x=some (sv a)) (hy:e.ev? y=some (sv b)):Vop P e h (.binOp .gtr t x y t') ty (.bool (!(Op.bytesLess a b || a == b))):=
 ⟨by simp,by simp,fun ρ w d pos after g hρ _=>by simp [execOp,hρ x _ hx,hρ y _ hy,eqGuard,binOp,Op.stringOp,toList_bs]⟩
theorem v_slen {t ty':TypeId} {x:Operand} {a:Bs} (hx:e.ev? x=some (sv a)) (ht:P.underlying t=some .string):Vop P e h (.call { callee:=.builtin .len,args := #[x],argTypes := #[t] }) ty' (.int .i64 a.length):=
 ⟨by simp,by simp,fun ρ w d pos after g hρ _=>by simp [execOp,resolve,invoke,builtin,hρ x _ hx,Builtin.len_,run_underlying ht,goInt,size_bs,-ByteArray.size_data]⟩
theorem v_sindex {T : TypeId} {x y : Operand} {a : Bs} {k : Nat} {kd : IntKind} {i : Int} {u : UInt8} (hx : e.ev? x = some (sv a)) (hy : e.ev? y = some (.int kd i)) (hT : P.underlying T = some .string) (hi : i = (k : Int)) (hu : a[k]? = some u) :
  Vop P e h (.index T x y) ty (.int .u8 u.toNat):=
 ⟨by simp,by simp,fun ρ w d pos after g hρ _=>by
  subst hi
  have h1:(⟨⟨a⟩⟩:ByteArray)[k]? = some u:=by
   have hlt:=(List.getElem?_eq_some_iff.1 hu).1
   have h2:k<(⟨⟨a⟩⟩:ByteArray).size:=hlt
   obtain ⟨_,h3⟩:=List.getElem?_eq_some_iff.1 hu
   rw [getElem?_pos (⟨⟨a⟩⟩:ByteArray) k h2,← h3]; rfl
  have h0:(0:Int)≤k:=by omega
  simp [execOp,hρ x _ hx,hρ y _ hy,Instr.index,asIntOf,run_underlying hT,h1]⟩
theorem v_smin {ty':TypeId} {x y:Operand} {ts:Array TypeId} {a b:Bs} (hx:e.ev? x=some (sv a)) (hy:e.ev? y=some (sv b)):Vop P e h (.call { callee:=.builtin .min,args := #[x,y],argTypes:=ts }) ty' (sv (if Op.bytesLess a b || a == b then a else b)):=
 ⟨by simp,by simp,fun ρ w d pos after g hρ _=>by
  simp [execOp,resolve,invoke,builtin,hρ x _ hx,hρ y _ hy,Builtin.min_,Builtin.min2,Op.stringOp,toList_bs,asBool]
  split <;> simp⟩
theorem v_mlen {t ty' K E : TypeId} {x : Operand} {b : Nat} {m : List (Bs × Value)} (hx : e.ev? x = some (.map (some b))) (ht : P.underlying t = some (.map K E)) (hs : Sel h (mps b m) h') :
  Vop P e h (.call { callee:=.builtin .len,args := #[x],argTypes := #[t] }) ty' (.int .i64 m.length):=
 ⟨by simp,by simp,fun ρ w d pos after g hρ hh=>by
  obtain ⟨es,ck,h1,h2,_⟩:=(hh.sel hs).1
  have hg:(getObj b).run P w = .ok (.map es ck) w:=run_getObj_map h1
  have hl:es.size=m.length:=by
   have:=congrArg List.length h2
   simpa [senc] using this
  simp [execOp,resolve,invoke,builtin,hρ x _ hx,Builtin.len_,run_underlying ht,goInt,hg,hl]⟩
end
end Go.Ck
namespace Go.Ck
open Go Go.RowKit
section
variable {c:Cx} {ops:Array Oper} {K:Act→World→Prop} {rest:List Oper} {e:Env} {h h' hr:SH}
theorem st_srange {d:Nat} {T ty:TypeId} {x:Operand} {pos:String} {after:Array Edge} {a:Bs} (hx:e.ev? x=some (sv a)) (hT:c.P.underlying T=some .string) (hd:d<c.n)
  (hnx:∀ b,St c ops K rest ((d,.pointer (some ⟨b,0,none⟩))::e) (pt b (.stringIter ⟨⟨a⟩⟩ 0)::h)) :
  St c ops K (⟨some d,.range T x,ty,pos,after,none⟩::rest) e h :=
 st_any (by simp) fun act w hk hh hw=>by
  simp only [execOp,Instr.range,hk.ev hx,Sem.run_bind,run_underlying hT,Result.andThen_ok,Sem.run_pure,run_newObj_alloc]
  exact hnx _ _ _ (hk.put _ hd) (Holds.alloc hh _) (hw.trans (Grew.alloc _ _ rfl).toSame)
theorem st_snext0 {d:Nat} {ty:TypeId} {x:Operand} {pos:String} {after:Array Edge} {a:Bs} {b p:Nat} (hx:e.ev? x=some (.pointer (some ⟨b,0,none⟩))) (hs:Sel h (pt b (.stringIter ⟨⟨a⟩⟩ p)) h') (hp:a.length≤p) (hd:d<c.n)
  (hnx:St c ops K rest ((d,.tuple #[.bool false])::e) h) :
  St c ops K (⟨some d,.next x true,ty,pos,after,none⟩::rest) e h :=
 st_any (by simp) fun act w hk hh hw=>by
  have hg:w.heap[b]? = some (.stringIter ⟨⟨a⟩⟩ p):=(hh.sel hs).1
  have hgo:(getObj b).run c.P w = .ok (.stringIter ⟨⟨a⟩⟩ p) w:=by simp [getObj,Sem.run,hg]
  have hlt:¬ p<(⟨⟨a⟩⟩:ByteArray).size:=by rw [size_bs]; omega
  simp only [execOp,Instr.next,hk.ev hx,Sem.run_bind,hgo,Result.andThen_ok,if_neg hlt,Sem.run_pure]
  exact hnx _ _ (hk.put _ hd) hh hw
theorem st_snext {d:Nat} {ty:TypeId} {x:Operand} {pos:String} {after:Array Edge} {a:Bs} {b p:Nat} (hx:e.ev? x=some (.pointer (some ⟨b,0,none⟩))) (hs:Sel h (pt b (.stringIter ⟨⟨a⟩⟩ p)) h') (hp:p<a.length) (hd:d<c.n)
  (hnx:St c ops K rest ((d,.tuple #[.bool true,.int .i64 p,.int .i32 (Utf8.decode ⟨⟨a⟩⟩ p).1])::e) (pt b (.stringIter ⟨⟨a⟩⟩ (p+(Utf8.decode ⟨⟨a⟩⟩ p).2))::h')) :
  St c ops K (⟨some d,.next x true,ty,pos,after,none⟩::rest) e h :=
 st_any (by simp) fun act w hk hh hw=>by
  have hh':=hh.sel hs
  have hg:w.heap[b]? = some (.stringIter ⟨⟨a⟩⟩ p):=hh'.1
  have hgo:(getObj b).run c.P w = .ok (.stringIter ⟨⟨a⟩⟩ p) w:=by simp [getObj,Sem.run,hg]
  have hlt:p<(⟨⟨a⟩⟩:ByteArray).size:=by rw [size_bs]; omega
  have hset:∀ o,(setObj b o).run c.P w = .ok () (w.putObj b o):=fun o=>by simp [setObj,Sem.run,hg,World.putObj]
  simp only [execOp,Instr.next,hk.ev hx,Sem.run_bind,hgo,Result.andThen_ok,if_pos hlt,Sem.run_pure,hset]
  refine hnx _ _ (hk.put _ hd) (Holds.putObj hh' _) (hw.trans (Same.putObj w b _ hg rfl rfl))
end
theorem dec_ascii {a:Bs} {p:Nat} {u:UInt8} (hu:a[p]? = some u) (h:u.toNat<128):Utf8.decode ⟨⟨a⟩⟩ p=(u.toNat,1):=by
 have hg:(⟨⟨a⟩⟩:ByteArray).get! p=u:=by
  obtain ⟨hl,he⟩:=List.getElem?_eq_some_iff.1 hu
  show (⟨a⟩:Array UInt8)[p]! = u
  rw [getElem!_pos (⟨a⟩:Array UInt8) p hl]; exact he
 unfold Utf8.decode
 simp only [Nat.add_zero,hg,h,if_true]
theorem dec_other {a : Bs} {p : Nat} {u : UInt8} (hu : a[p]? = some u) (h : 128 ≤ u.toNat) : 128 ≤ (Utf8.decode ⟨⟨a⟩⟩ p).1 := by
 have hg:(⟨⟨a⟩⟩:ByteArray).get! p=u:=by
  obtain ⟨hl,he⟩:=List.getElem?_eq_some_iff.1 hu
  show (⟨a⟩:Array UInt8)[p]! = u
  rw [getElem!_pos (⟨a⟩:Array UInt8) p hl]; exact he
 unfold Utf8.decode
 simp only [Nat.add_zero,hg,show ¬ u.toNat<128 by omega,if_false,Utf8.runeError]
 split
 ·split
  ·show 128≤_; assumption
  ·show 128≤0xFFFD; omega
 ·split
  ·split
   ·rename_i _ _ hc
    have:=(Bool.and_eq_true _ _ ▸ hc:_∧_).1
    simp at this
    show 128≤_; omega
   ·show 128≤0xFFFD; omega
  ·split
   ·split
    ·rename_i _ _ _ hc
     have:=(Bool.and_eq_true _ _ ▸ hc:_∧_).1
     simp at this
     show 128≤_; omega
    ·show 128≤0xFFFD; omega
   ·show 128≤0xFFFD; omega
section
variable {c:Cx} {ops:Array Oper} {K:Act→World→Prop} {rest:List Oper} {e:Env} {h:SH}
theorem st_grd {d:Option Nat} {op:Op} {ty:TypeId} {pos:String} {after:Array Edge} {g gd:Nat} {want:Bool} (hg:((ops[g]?).bind (·.dst))=some gd) (hgv:e.get? gd=some (.bool want)) (hn:St c ops K (⟨d,op,ty,pos,after,none⟩::rest) e h) :
  St c ops K (⟨d,op,ty,pos,after,some (g,want)⟩::rest) e h:=fun a w hk hh hw=>by
 have h1:=hn a w hk hh hw
 unfold LsW at h1 ⊢
 have e1:Region.wanted (⟨d,op,ty,pos,after,none⟩:Oper) (yielded ops a.tmps)=true:=by simp [Region.wanted]
 have e2:Region.wanted (⟨d,op,ty,pos,after,some (g,want)⟩:Oper) (yielded ops a.tmps)=true:=by simp [Region.wanted,yields_guard hg hgv hk]
 rw [if_pos e1] at h1
 rw [if_pos e2]
 exact h1
end
end Go.Ck
namespace Go.Ck
open Go
section
variable {P:Program} {e:Env} {h:SH} {ty:TypeId}
end
section
variable {c:Cx} {ops:Array Oper} {K:Act→World→Prop} {rest:List Oper} {e:Env} {h h' hr:SH}
theorem sV {d:Nat} {op:Op} {ty:TypeId} {pos:String} {after:Array Edge} {v:Value} (hv:Vop c.P e h op ty v) (hn:St c ops K rest ((d,v)::e) h) (hd:d<c.n:=by exact ltn rfl) :
  St c ops K (⟨some d,op,ty,pos,after,none⟩::rest) e h:=st_val hv hd hn
theorem sG {d g gd:Nat} {op:Op} {ty:TypeId} {pos:String} {after:Array Edge} {v:Value} {want:Bool} (hg:((ops[g]?).bind (·.dst))=some gd) (hgv:e.get? gd=some (.bool want))
  (hv:Vop c.P e h op ty v) (hn:St c ops K rest ((d,v)::e) h) (hd:d<c.n:=by exact ltn rfl):St c ops K (⟨some d,op,ty,pos,after,some (g,want)⟩::rest) e h:=st_valg hg hgv hv hd hn
theorem st_sk {d g gd:Nat} {op:Op} {ty:TypeId} {pos:String} {after:Array Edge} {want b:Bool} (hg:((ops[g]?).bind (·.dst))=some gd) (hgv:e.get? gd=some (.bool b)) (hb:b = !want)
  (hn:St c ops K rest ((d,undef)::e) h) (hd:d<c.n:=by exact ltn rfl):St c ops K (⟨some d,op,ty,pos,after,some (g,want)⟩::rest) e h:=st_skip hg hgv hb hd hn
theorem st_cl {d:Nat} {f:Operand} {az:Array Operand} {ts:Array TypeId} {ty:TypeId} {pos:String} {after:Array Edge} {k:FuncId} {fi cp:Array Value} {vs:List Value} {args:Array Value} {hf:SH} {R:Value→SH→Prop}
  (hv:e.ev? f=some (.func (.func k) fi cp)) (has:az.toList.mapM e.ev? = some vs) (hE:Enters c.P k) (ha:fi++vs.toArray++cp=args) (ct:Ct c.P k args hf R)
  (hn:∀ v h',R v h'→St c ops K rest ((d,v)::e) (h'++hr)) (pk:Pk h hf hr:=by repeat (first | exact Pk.nil | (apply Pk.cons; (repeat (first | exact Sel.here | apply Sel.there))))) (hd:d<c.n:=by exact ltn rfl) :
  St c ops K (⟨some d,.call { callee:=.value f,args:=az,argTypes:=ts },ty,pos,after,none⟩::rest) e h:=st_call hv has hE ha ct pk hd hn
theorem st_clr {d:Nat} {f:Operand} {az:Array Operand} {ts:Array TypeId} {ty:TypeId} {pos:String} {after:Array Edge} {k:FuncId} {fi cp:Array Value} {vs:List Value} {args:Array Value} {hf:SH} {v:Value}
  (hv:e.ev? f=some (.func (.func k) fi cp)) (has:az.toList.mapM e.ev? = some vs) (hE:Enters c.P k) (ha:fi++vs.toArray++cp=args) (ct:Reads c.P k args hf v)
  (hn:St c ops K rest ((d,v)::e) h) (pk:Pk h hf hr:=by repeat (first | exact Pk.nil | (apply Pk.cons; (repeat (first | exact Sel.here | apply Sel.there))))) (hd:d<c.n:=by exact ltn rfl) :
  St c ops K (⟨some d,.call { callee:=.value f,args:=az,argTypes:=ts },ty,pos,after,none⟩::rest) e h:=st_callr hv has hE ha ct pk hd hn
theorem st_clrg {d g gd:Nat} {f:Operand} {az:Array Operand} {ts:Array TypeId} {ty:TypeId} {pos:String} {after:Array Edge} {k:FuncId} {fi cp:Array Value} {vs:List Value} {args:Array Value} {hf:SH} {v:Value} {want:Bool}
  (hg:((ops[g]?).bind (·.dst))=some gd) (hgv:e.get? gd=some (.bool want))
  (hv:e.ev? f=some (.func (.func k) fi cp)) (has:az.toList.mapM e.ev? = some vs) (hE:Enters c.P k) (ha:fi++vs.toArray++cp=args) (ct:Reads c.P k args hf v)
  (hn:St c ops K rest ((d,v)::e) h) (pk:Pk h hf hr:=by repeat (first | exact Pk.nil | (apply Pk.cons; (repeat (first | exact Sel.here | apply Sel.there))))) (hd:d<c.n:=by exact ltn rfl) :
  St c ops K (⟨some d,.call { callee:=.value f,args:=az,argTypes:=ts },ty,pos,after,some (g,want)⟩::rest) e h:=st_callrg hg hgv hv has hE ha ct pk hd hn
theorem st_sto {T E:TypeId} {x y:Operand} {ty:TypeId} {pos:String} {after:Array Edge} {b off:Nat} {l l':List Value} {v:Value} {k:SH}
  (hx:e.ev? x=some (.pointer (some ⟨b,off,none⟩))) (hy:e.ev? y=some v) (hT:Sz c.P T 1) (hn:St c ops K rest e (pt b (cl l' E)::k))
  (hv:v.oneCell'=true:=by first | rfl | assumption) (hs:Sel h (pt b (cl l E)) k:=by repeat (first | exact Sel.here | apply Sel.there)) (ho:off<l.length:=by first | exact ltn rfl | assumption | (simp only [List.length_append,ints_length,bools_length]; omega) | omega) (hl:SetAt l off v l':=by first | (repeat (first | exact SetAt.zero | apply SetAt.succ)); done | exact SetAt.set) :
  St c ops K (⟨none,.store T x y,ty,pos,after,none⟩::rest) e h:=st_store hx hy hT hv hs ho hl hn
theorem st_stoW {T E:TypeId} {x y:Operand} {ty:TypeId} {pos:String} {after:Array Edge} {b n:Nat} {l vs:List Value} {k:SH}
  (hx:e.ev? x=some (.pointer (some ⟨b,0,none⟩))) (hy:e.ev? y=some (.agg vs.toArray)) (hT:Sz c.P T n) (hn:vs.length=n) (h1:vs.all Value.oneCell'=true)
  (hnx:St c ops K rest e (pt b (cl vs E)::k)) (hs:Sel h (pt b (cl l E)) k:=by repeat (first | exact Sel.here | apply Sel.there)) (hl:l.length=vs.length:=by exact rfl) :
  St c ops K (⟨none,.store T x y,ty,pos,after,none⟩::rest) e h:=st_storeW hx hy hT hn (ones h1) hs hl hnx
theorem st_alc {d:Nat} {T ty:TypeId} {pos:String} {after:Array Edge} {zs:List Value} (hA:Al c.P T zs)
  (hn:∀ b,St c ops K rest ((d,.pointer (some ⟨b,0,none⟩))::e) (pt b (cl zs T)::h)) (hd:d<c.n:=by exact ltn rfl):St c ops K (⟨some d,.alloc T,ty,pos,after,none⟩::rest) e h:=st_alloc hA hd hn
theorem st_bx {d:Nat} {T ty:TypeId} {x:Operand} {pos:String} {after:Array Edge} {v:Value} {zs:List Value} (hx:e.ev? x=some v) (hz:v.cells=zs.toArray)
  (hn:∀ b,St c ops K rest ((d,.pointer (some ⟨b,0,none⟩))::e) (pt b (cl zs T)::h)) (hd:d<c.n:=by exact ltn rfl):St c ops K (⟨some d,.box T x,ty,pos,after,none⟩::rest) e h:=st_box hx hz hd hn

/-! In a region that draws its order. -/
variable {pre:Nat→Bool} {hC:SH} {t:Ord}
theorem dr_v {i d:Nat} {op:Op} {ty:TypeId} {pos:String} {after:Array Edge} {v:Value} (hi:ops[i]? = some ⟨some d,op,ty,pos,after,none⟩) (hv:Vop c.P e hC op ty v)
  (hn:DrL c ops pre hC K t ((d,v)::e) h) (hs:Sub hC h:=by repeat (first | exact Sub.refl _ | exact Sub.nil _ | refine Sub.sel slq ?_ | apply Sub.cons)) (hd:d<c.n:=by exact ltn rfl):DrL c ops pre hC K (.cons (i,true) t) e h:=dr_val hi hs hv hd hn
theorem dr_vg {i d g gd:Nat} {op:Op} {ty:TypeId} {pos:String} {after:Array Edge} {v:Value} {want:Bool} (hi:ops[i]? = some ⟨some d,op,ty,pos,after,some (g,want)⟩) (hg:((ops[g]?).bind (·.dst))=some gd) (hgv:e.get? gd=some (.bool want))
  (hv:Vop c.P e hC op ty v) (hn:DrL c ops pre hC K t ((d,v)::e) h) (hs:Sub hC h:=by repeat (first | exact Sub.refl _ | exact Sub.nil _ | refine Sub.sel slq ?_ | apply Sub.cons)) (hd:d<c.n:=by exact ltn rfl):DrL c ops pre hC K (.cons (i,true) t) e h:=dr_valg hi hg hgv hs hv hd hn
theorem dr_sk {i d g gd:Nat} {op:Op} {ty:TypeId} {pos:String} {after:Array Edge} {want b:Bool} (hi:ops[i]? = some ⟨some d,op,ty,pos,after,some (g,want)⟩) (hg:((ops[g]?).bind (·.dst))=some gd) (hgv:e.get? gd=some (.bool b)) (hb:b = !want)
  (hn:DrL c ops pre hC K t ((d,undef)::e) h) (hs:Sub hC h:=by repeat (first | exact Sub.refl _ | exact Sub.nil _ | refine Sub.sel slq ?_ | apply Sub.cons)) (hd:d<c.n:=by exact ltn rfl):DrL c ops pre hC K (.cons (i,true) t) e h:=dr_skip hi hg hgv hb hs hd hn
theorem dV {i d:Nat} {op:Op} {ty:TypeId} {pos:String} {after:Array Edge} {v:Value} (hi:ops[i]? = some ⟨some d,op,ty,pos,after,none⟩) (hv:Vop c.P e [] op ty v)
  (hn:DrL c ops pre hC K t ((d,v)::e) h) (hd:d<c.n:=by exact ltn rfl):DrL c ops pre hC K (.pure i t) e h:=drp_val hi hv hd hn
theorem dp_vg {i d g gd:Nat} {op:Op} {ty:TypeId} {pos:String} {after:Array Edge} {v:Value} {want:Bool} (hi:ops[i]? = some ⟨some d,op,ty,pos,after,some (g,want)⟩) (hg:((ops[g]?).bind (·.dst))=some gd) (hgv:e.get? gd=some (.bool want))
  (hv:Vop c.P e [] op ty v) (hn:DrL c ops pre hC K t ((d,v)::e) h) (hd:d<c.n:=by exact ltn rfl):DrL c ops pre hC K (.pure i t) e h:=drp_valg hi hg hgv hv hd hn
theorem dp_sk {i d g gd:Nat} {op:Op} {ty:TypeId} {pos:String} {after:Array Edge} {want b:Bool} (hi:ops[i]? = some ⟨some d,op,ty,pos,after,some (g,want)⟩) (hg:((ops[g]?).bind (·.dst))=some gd) (hgv:e.get? gd=some (.bool b)) (hb:b = !want)
  (hn:DrL c ops pre hC K t ((d,undef)::e) h) (hd:d<c.n:=by exact ltn rfl):DrL c ops pre hC K (.pure i t) e h:=drp_skip hi hg hgv hb hd hn
theorem dr_clr {i d:Nat} {f:Operand} {az:Array Operand} {ts:Array TypeId} {ty:TypeId} {pos:String} {after:Array Edge} {k:FuncId} {fi cp:Array Value} {vs:List Value} {args:Array Value} {hf hr:SH} {v:Value}
  (hi:ops[i]? = some ⟨some d,.call { callee:=.value f,args:=az,argTypes:=ts },ty,pos,after,none⟩)
  (hv:e.ev? f=some (.func (.func k) fi cp)) (has:az.toList.mapM e.ev? = some vs) (hE:Enters c.P k) (ha:fi++vs.toArray++cp=args) (ct:Reads c.P k args hf v)
  (hn:DrL c ops pre hC K t ((d,v)::e) h) (hs:Sub hC h:=by repeat (first | exact Sub.refl _ | exact Sub.nil _ | refine Sub.sel slq ?_ | apply Sub.cons)) (pk:Pk hC hf hr:=by repeat (first | exact Pk.nil | (apply Pk.cons; (repeat (first | exact Sel.here | apply Sel.there))))) (hd:d<c.n:=by exact ltn rfl):DrL c ops pre hC K (.cons (i,true) t) e h:=dr_call hi hs hv has hE ha ct pk hd hn
theorem dr_clrg {i d g gd:Nat} {f:Operand} {az:Array Operand} {ts:Array TypeId} {ty:TypeId} {pos:String} {after:Array Edge} {k:FuncId} {fi cp:Array Value} {vs:List Value} {args:Array Value} {hf hr:SH} {v:Value} {want:Bool}
  (hi:ops[i]? = some ⟨some d,.call { callee:=.value f,args:=az,argTypes:=ts },ty,pos,after,some (g,want)⟩) (hg:((ops[g]?).bind (·.dst))=some gd) (hgv:e.get? gd=some (.bool want))
  (hv:e.ev? f=some (.func (.func k) fi cp)) (has:az.toList.mapM e.ev? = some vs) (hE:Enters c.P k) (ha:fi++vs.toArray++cp=args) (ct:Reads c.P k args hf v)
  (hn:DrL c ops pre hC K t ((d,v)::e) h) (hs:Sub hC h:=by repeat (first | exact Sub.refl _ | exact Sub.nil _ | refine Sub.sel slq ?_ | apply Sub.cons)) (pk:Pk hC hf hr:=by repeat (first | exact Pk.nil | (apply Pk.cons; (repeat (first | exact Sel.here | apply Sel.there))))) (hd:d<c.n:=by exact ltn rfl):DrL c ops pre hC K (.cons (i,true) t) e h:=dr_callg hi hg hgv hs hv has hE ha ct pk hd hn
theorem dr_nx {i:Nat} {h0:SH} (hn:DrL c ops pre hC K t e h) (hs:pre i=true→Sub hC h0→Sub hC h:=by first | (intro hq; cases hq; done) | (intro _ hs; exact hs) | (intro _ hs; refine Sub.trans hs ?_; (repeat (first | exact Sub.refl _ | exact Sub.nil _ | refine Sub.sel slq ?_ | apply Sub.cons)); done) | (intro _ _; (repeat (first | exact Sub.refl _ | exact Sub.nil _ | refine Sub.sel slq ?_ | apply Sub.cons)); done)):St c ops (EffK c ops pre hC K i t h0) [] e h:=dr_nextR hs hn
/-! Remembered slots. -/
def kept (e:Env):List Nat→Option Env
 | []=>some []
 | k::ks=>match e.get? k with
  | some v=>(kept e ks).map ((k,v) :: ·)
  | none=>none
theorem kept_sub {e : Env} : ∀ {ks : List Nat} {e' : Env}, kept e ks = some e' → Env.sub e' e
 | [],e',h=>by simp only [kept,Option.some.injEq] at h; subst h; trivial
 | k::ks,e',h=>by
  simp only [kept] at h
  cases hg:e.get? k with
  | none=>rw [hg] at h; cases h
  | some v =>
   rw [hg] at h
   simp only [Option.map_eq_some_iff] at h
   obtain ⟨t,h1,rfl⟩:=h
   exact ⟨hg,kept_sub h1⟩
theorem nK (ks:List Nat) {e':Env} (hk:kept e ks=some e') (hn:Nx c K e' h):Nx c K e h:=hn.weaken (kept_sub hk)
variable {Q:Exit→Act→World→Prop}
end
section
variable {P:Program} {n:Nat} {w0:World} {fn:Func} {e:Env} {h hr h':SH} {R:Value→SH→Prop} {r:Option Nat} {vs:List Value}
theorem xt_rt (hv:e.res? fn.results.toList=some vs) (hR:R (outOf vs) h') (hp:Sub (h'++hr) h:=by first | (rw [List.nil_append]; (repeat (first | exact Sub.refl _ | apply Sub.cons)); done) | (repeat (first | exact Sub.refl _ | exact Sub.nil _ | refine Sub.sel slq ?_ | apply Sub.cons))):Xt ⟨P,r,n,[],w0⟩ .ret (bodyPost P fn (Post w0 hr R)) e h:=xt_ret hv hR hp
theorem xt_en (hv:e.res? fn.results.toList=some vs) (hR:R (outOf vs) h') (hp:Sub (h'++hr) h:=by first | (rw [List.nil_append]; (repeat (first | exact Sub.refl _ | apply Sub.cons)); done) | (repeat (first | exact Sub.refl _ | exact Sub.nil _ | refine Sub.sel slq ?_ | apply Sub.cons))):Xt ⟨P,r,n,[],w0⟩ .normal (bodyPost P fn (Post w0 hr R)) e h:=xt_end hv hR hp
end
theorem Z {α : Sort _} {a : α}:a=a:=Eq.refl a
theorem lC {α : Type _} {a : α} {as bs:List α}:(a::as)++bs=a::(as++bs):=rfl
theorem lN {α : Type _} {as:List α}:([]:List α)++as=as:=rfl
theorem uG {e e':Env} {d:Nat} {u v:Value} (hv:u=v:=by first | rfl | (rw [hg]; rfl) | simp_all) (h:SSub e e':=by repeat (first | exact uR | refine uS rfl ?_)):SSub ((d,u)::e) ((d,v)::e'):=uH hv h
section
variable {c:Cx} {ops:Array Oper} {K:Act→World→Prop} {rest:List Oper} {e:Env} {h:SH} {Q:Exit→Act→World→Prop}
theorem sM {d:Nat} {x:Operand} {ty:TypeId} {pos:String} {after:Array Edge} {v:Value} (hv:e.ev? x=some v) (hn:St c ops K rest ((d,v)::e) h) (hd:d<c.n:=by exact ltn rfl):St c ops K (⟨some d,.move x,ty,pos,after,none⟩::rest) e h:=sV (vM hv) hn hd
theorem sA {d:Nat} {x:Operand} {ty:TypeId} {pos:String} {after:Array Edge} {v:Value} (hv:e.ev? x=some v) (hn:St c ops K rest ((d,v)::e) h) (hd:d<c.n:=by exact ltn rfl):St c ops K (⟨some d,.assign x,ty,pos,after,none⟩::rest) e h:=sV (vA hv) hn hd
theorem sK (ks:List Nat) {e':Env} {y:Code} (hk:kept e ks=some e') (hy:Cd c y Q e' h):St c ops (Exit.then (Behind c y Q) Q .normal) [] e h:=sN (nK ks hk (nT hy))
theorem cQ {id:Nat} {l:List Oper} {y:Code} (hs:St c l.toArray (Exit.then (Behind c y Q) Q .normal) l e h):Cd c (.seq (.region id l.toArray false) y) Q e h:=cS (cR hs)
end
end Go.Ck
namespace Go.Ck
open Go
def fbody (f:Func):Code:=f.body.getD .skip
def cdl:Code→Code
 | .seq a _=>a
 | .block _ x=>x
 | .loop x=>x
 | .scope x=>x
 | .cond _ a _=>a
 | c=>c
def cdr:Code→Code
 | .seq _ b=>b
 | .cond _ _ b=>b
 | c=>c
section
variable {c:Cx} {Q:Exit→Act→World→Prop} {e e':Env} {h h':SH} {ex:Exit} {x:Code}
end

/-! ## A guard that has no value: skipped -/
section
variable {c:Cx} {ops:Array Oper} {K:Act→World→Prop} {rest:List Oper} {e:Env} {h hC:SH} {pre:Nat→Bool} {t:Ord}
theorem yields_undef {g gd:Nat} (hg:((ops[g]?).bind (·.dst))=some gd) (hgv:e.get? gd=some undef) {n:Nat} {ds:List Deferred} {a:Act} (hk:Kn n ds a e):yielded ops a.tmps g=none:=by
 unfold yielded
 cases ho:ops[g]? with
 | none=>simp [ho] at hg
 | some o=>simp only [ho,Option.bind_some] at hg; simp [hg,hk.get gd _ hgv,undef]
theorem st_sku {d g gd:Nat} {op:Op} {ty:TypeId} {pos:String} {after:Array Edge} {want:Bool} (hg:((ops[g]?).bind (·.dst))=some gd) (hgv:e.get? gd=some undef)
  (hn:St c ops K rest ((d,undef)::e) h) (hd:d<c.n:=by exact ltn rfl):St c ops K (⟨some d,op,ty,pos,after,some (g,want)⟩::rest) e h:=fun a w hk hh hs=>by
 unfold LsW
 rw [if_neg (by simp [Region.wanted,yields_undef hg hgv hk])]
 exact hn _ w (hk.put undef hd) hh hs
end
end Go.Ck
namespace Go.Ck
open Go
section
variable {c:Cx} {Q:Exit→Act→World→Prop} {e:Env} {h:SH}
theorem cd_lq {σ : Type} {x:Code} (E : σ → Env) (H : σ → SH) (Φ : σ → Prop) (μ : σ → Nat) (s0 : σ) (h0 : Φ s0) (hr:∀ s,Φ s→Cd c x (Exit.then (Again c E H Φ μ s) Q) (E s) (H s))
  (hs:Env.sub (E s0) e:=by repeat (first | exact trivial | refine ⟨rfl,?_⟩)) (hp:Sub (H s0) h:=by (repeat (refine Sub.sel slq ?_)); (repeat apply Sub.cons); first | exact Sub.refl _ | exact Sub.nil _):Cd c (.loop x) Q e h:=cd_loop E H Φ μ s0 h0 hs hp hr
theorem xt_aq {σ : Type} {E : σ → Env} {H : σ → SH} {Φ : σ → Prop} {μ : σ → Nat} {s : σ} (s' : σ) (h1 : Φ s') (h2 : μ s' < μ s) (hs:Env.sub (E s') e:=by repeat (first | exact trivial | refine ⟨rfl,?_⟩)) (hp:Sub (H s') h:=by (repeat (refine Sub.sel slq ?_)); (repeat apply Sub.cons); first | exact Sub.refl _ | exact Sub.nil _) :
  Xt c .normal (Exit.then (Again c E H Φ μ s) Q) e h:=xt_again s' h1 h2 hs hp
end
theorem xt_law {P:Program} {r:Option Nat} {n:Nat} {w0:World} {fn:Func} {e:Env} {h hr:SH} {S:Res} (hv:e.res? fn.results.toList=some [.bool true]) (hp:Sub ([S]++hr) h):Xt ⟨P,r,n,[],w0⟩ .ret (bodyPost P fn (Post w0 hr fun u h'=>u = .bool true∧h'=[S])) e h:=xt_ret hv ⟨rfl,rfl⟩ hp
end Go.Ck
