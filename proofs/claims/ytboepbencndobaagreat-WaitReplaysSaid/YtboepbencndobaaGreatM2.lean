/-
  A range over a function: the statement, the rounds, the calls of yield, the function's end with marks among its deferred calls. Generic: nothing of the program is named here. No condition.
  Structs of numbers held against each other; stores and loads of several cells; results that lie in cells; truths held against each other. Generic: nothing of the program is named here. No condition.
  Marks as one resource; calls of yield with resources in another order; empty rows. Generic: nothing of the program is named here. No condition.
  A region's orders come together at its end. Generic: nothing of the program is named here. No condition.
  The rules once more, with what a tactic finds by itself left out: shorter texts. Generic: nothing of the program is named here. No condition.
  Parts of a function's code, served by theorems of their own. Generic: nothing of the program is named here. No condition.
  Loops and rounds, with a quicker search for what is kept. Generic: nothing of the program is named here. No condition.
  Laws: what the arguments of a law read as, deep data as Lean data; the same reading behind the call. Generic: nothing of the program is named here. No condition.
  Laws: from a contract to what a statement of a law asks. Generic: nothing of the program is named here. No condition.
  The yard of package wait as plain data, and what is done to it. Nothing of the program is named here. No condition.
  A yard with all that has been: queues that are gone, requests that were taken. What a step does is a list of effects. Nothing of the program is named here. No condition.
  A step of the yard with all that has been, as a list of effects; what is always so of such a yard. Nothing of the program is named here. No condition.
  What each effect keeps of a processor. Nothing of the program is named here. No condition.
-/
import Derived.Test.YtboepbencndobaaGreatM1
import Derived.Scope
import Derived.ProofKit
import Derived.OpenShut
set_option linter.unusedVariables false
set_option linter.unusedSimpArgs false
namespace Go.Ck
open Go

def Yc (P : Program) (l : Nat) (args : Array Value) (hf : SH) (R : Value → SH → Prop) : Prop :=
 ∀ (hr : SH) (w : World), Holds w (hf ++ hr) → opUpon P (fun v w' => ∃ h', R v h' ∧ Holds w' (h' ++ hr) ∧ Same w w') ((Instr.yield l args).run P w)
def RQ (w0 : World) (hr : SH) (R : Value → SH → Prop) (e : Ending) (w : World) : Prop := ∃ v, e = .returned v ∧ ∃ h', R v h' ∧ Holds w (h' ++ hr) ∧ Same w0 w
def Mid (P : Program) (l : Nat) (body : Code) (Q : Exit → Act → World → Prop) (a : Act) (w : World) : Prop := ∃ w', (Instr.beginRound l).run P w = .ok () w' ∧ body.wpIn (Fw (some l)) 0 P Q a w'

theorem Holds.putObj {w : World} {b : Nat} {o : Obj} {h : SH} (hh : Holds w (pt b o :: h)) (o' : Obj) : Holds (w.putObj b o') (pt b o' :: h) := by
 have hlt : b < w.heap.size := Holds.lt hh (.inl rfl)
 exact Holds.modify hh (World.putObj_heap_same hlt) fun c hc => World.putObj_heap_other hc
theorem Same.putObj (w : World) (b : Nat) (o : Obj) {o' : Obj} (hb : w.heap[b]? = some o') (h1 : melt o' = true) (h2 : melt o = true) : Same w (w.putObj b o) := ⟨rfl, rfl, rfl, by simp, fz_one (b := b) (fun q hq => by rw [hb] at hq; cases hq; exact h1)
 (fun q hq => by rw [World.putObj_heap_same (Array.getElem?_eq_some_iff.1 hb).1] at hq; cases hq; exact h2) fun c hc => World.putObj_heap_other hc⟩

def Env.params : List Nat → List Value → Env → Env
 | t :: ts, v :: vs, e => Env.params ts vs ((t, v) :: e)
 | _, _, e => e
theorem Kn.params {n : Nat} : ∀ (ps : List Nat) (vs : List Value) {tm : Array Value} {e : Env}, Kn n [] { tmps := tm, defers := [] } e → (∀ p ∈ ps, p < n) →
  Kn n [] { tmps := (ps.zip vs).foldl (fun tmps p => tmps.setIfInBounds p.1 p.2) tm, defers := [] } (Env.params ps vs e)
 | [], vs, tm, e, hk, _ => by simpa [Env.params] using hk
 | t :: ts, [], tm, e, hk, _ => by simpa [Env.params] using hk
 | t :: ts, v :: vs, tm, e, hk, hn => by
  have h1 := hk.put (d := t) v (hn t (by simp))
  simp only [Act.put] at h1
  have := Kn.params ts vs h1 (fun p hp => hn p (by simp [hp]))
  simpa [Env.params] using this

theorem yc_of {P : Program} {l n : Nat} {rec : Loop} {args : List Value} {hf : SH} {R : Value → SH → Prop} {e : Env} (hsz : args.length = rec.params.size) (hk : Kn n [] { tmps := rec.tmps, defers := [] } e) (hps : ∀ p ∈ rec.params.toList, p < n)
  (hc : ∀ (hr : SH) (w0 : World), Cd ⟨P, some l, n, [], w0⟩ rec.assign (Exit.then (Mid P l rec.body (roundPost P l (RQ w0 hr R))) (fun _ _ _ => False)) (Env.params rec.params.toList args e) (pt l (.loop rec) :: hf ++ hr)) :
  Yc P l args.toArray (pt l (.loop rec) :: hf) R := fun hr w hh => by
 have h1 : w.heap[l]? = some (.loop rec) := hh.1
 rw [run_yield h1 (by simpa using hsz)]
 have hk' := Kn.params rec.params.toList args hk hps
 have hfold : (rec.params.zip args.toArray).foldl (fun tmps (t, a) => tmps.setIfInBounds t a) rec.tmps = (rec.params.toList.zip args).foldl (fun tmps p => tmps.setIfInBounds p.1 p.2) rec.tmps := by
  rw [← Array.foldl_toList]; simp
 show RoundIn (Fw none) 0 P l rec.fn _ rec.assign rec.body w _
 refine roundIn_of_wpIn trivial ?_
 rw [hfold]
 exact hc hr w _ w hk' hh (Same.refl w)

section
variable {c : Cx} {Q : Exit → Act → World → Prop} {e : Env} {h h' h'' : SH} {l : Nat} {rec : Loop}
theorem xt_mid {body : Code} {F : Exit → Act → World → Prop} (hr : c.r = some l) (s : Sel h (pt l (.loop rec)) h') (hst : rec.state = .ready) (hb : Cd c body Q e (pt l (.loop { rec with state := .busy }) :: h')) :
  Xt c .normal (Exit.then (Mid c.P l body Q) F) e h := fun a w hk hh hw => by
 have hh' := hh.sel s
 refine ⟨_, run_beginRound hh'.1 hst, ?_⟩
 have := hb a _ hk (Holds.putObj hh' _) (hw.trans (Same.putObj w l _ hh'.1 rfl rfl))
 rw [hr] at this
 exact this
theorem xt_round {P : Program} {r : Option Nat} {n : Nat} {w0 : World} {hr : SH} {R : Value → SH → Prop} (s : Sel h (pt l (.loop rec)) h') (hR : R (.bool true) h'') (hp : Sub (h'' ++ hr) (pt l (.loop { rec with state := .ready, pending := none }) :: h')) :
  Xt ⟨P, r, n, [], w0⟩ .normal (roundPost P l (RQ w0 hr R)) e h := fun a w hk hh hw => by
 have hh' := hh.sel s
 exact ⟨_, _, run_endRound none hh'.1, _, rfl, h'', hR, (Holds.putObj hh' _).sub hp, hw.trans (Same.putObj w l _ hh'.1 rfl rfl)⟩
theorem xt_round_ret {P : Program} {r : Option Nat} {n : Nat} {w0 : World} {hr : SH} {R : Value → SH → Prop} (s : Sel h (pt l (.loop rec)) h') (hR : R (.bool false) h'') (hp : Sub (h'' ++ hr) (pt l (.loop { rec with state := .done, pending := some .ret }) :: h')) :
  Xt ⟨P, r, n, [], w0⟩ .ret (roundPost P l (RQ w0 hr R)) e h := fun a w hk hh hw => by
 have hh' := hh.sel s
 exact ⟨_, _, run_endRound (some .ret) hh'.1, _, rfl, h'', hR, (Holds.putObj hh' _).sub hp, hw.trans (Same.putObj w l _ hh'.1 rfl rfl)⟩
theorem xt_round_exit {P : Program} {r : Option Nat} {n id : Nat} {w0 : World} {hr : SH} {R : Value → SH → Prop} (s : Sel h (pt l (.loop rec)) h') (hR : R (.bool false) h'') (hp : Sub (h'' ++ hr) (pt l (.loop { rec with state := .done, pending := some (.exit id) }) :: h')) :
  Xt ⟨P, r, n, [], w0⟩ (.exit id) (roundPost P l (RQ w0 hr R)) e h := fun a w hk hh hw => by
 have hh' := hh.sel s
 exact ⟨_, _, run_endRound (some (.exit id)) hh'.1, _, rfl, h'', hR, (Holds.putObj hh' _).sub hp, hw.trans (Same.putObj w l _ hh'.1 rfl rfl)⟩
end

def mk (b : Nat) : Deferred := { target := .collected b, args := #[] }
def marks (bs : List Nat) : SH := bs.map fun b => pt b (.deferred (some []))
def rec0 (fn : FuncId) (tm : Array Value) (ps : Array Tmp) (assign body : Code) (db : Nat) : Loop := ⟨.ready, none, fn, tm, ps, assign, body, db⟩
theorem cd_range {P : Program} {n : Nat} {ds : List Deferred} {w0 : World} {Q : Exit → Act → World → Prop} {e : Env} {h : SH} {g : Operand} {k : FuncId} {fi cp : Array Value} {ps : Array Tmp} {assign body : Code}
  (hg : e.ev? g = some (.func (.func k) fi cp)) (hE : Enters P k)
  (hct : ∀ (l db : Nat) (fn : FuncId) (tm : Array Value), Kn n [] { tmps := tm, defers := [] } e →
   ∃ R', Ct P k (fi ++ #[.func (.yield l) #[] #[]] ++ cp) (pt l (.loop (rec0 fn tm ps assign body db)) :: pt db (.deferred (some [])) :: h) R' ∧
    ∀ v h', R' v h' → ∃ rec h'', Sel h' (pt l (.loop rec)) h'' ∧ rec.state ≠ .busy ∧ (match rec.pending with | none => Xt ⟨P, none, n, mk db :: ds, w0⟩ .normal Q e h'' | some x => Cd ⟨P, none, n, mk db :: ds, w0⟩ x Q e h'')) :
  Cd ⟨P, none, n, ds, w0⟩ (.rangeFunc g ps assign body) Q e h := fun a w hk hh hw => by
 refine wpIn_rangeFunc fun fn _ => ?_
 obtain ⟨R', ct, hR'⟩ := hct (w.heap.size + 1) w.heap.size fn a.tmps ⟨hk.size, rfl, hk.get⟩
 have h1 := Holds.alloc (Holds.alloc hh (.deferred (some []))) (.loop (rec0 fn a.tmps ps assign body w.heap.size))
 have hsz : (w.alloc (.deferred (some []))).heap.size = w.heap.size + 1 := World.size_alloc _ _
 rw [hsz] at h1
 refine ⟨_, _, _, ⟨.fn (.func k) cp, fi ++ #[.func (.yield (w.heap.size + 1)) #[] #[]]⟩, (w.alloc (.deferred (some []))).alloc (.loop (rec0 fn a.tmps ps assign body w.heap.size)), k, fi ++ #[.func (.yield (w.heap.size + 1)) #[] #[]] ++ cp, (w.alloc (.deferred (some []))).alloc (.loop (rec0 fn a.tmps ps assign body w.heap.size)), run_enterLoop_outer fn a.tmps ps assign body, ?_, fun _ _ => trivial, ?_, fun h => by simp [Fw, Fence.wide] at h, ?_⟩
 ·simp only [resolve, hk.ev hg, Deferred.ofValue, Sem.run_bind, Sem.run_pure, Result.andThen_ok]
  simp [Act.eval, rec0]
 ·have : (invoke (.fn (.func k) cp) (fi ++ #[.func (.yield (w.heap.size + 1)) #[] #[]])).run P ((w.alloc (.deferred (some []))).alloc (.loop (rec0 fn a.tmps ps assign body w.heap.size))) = .ok (.enter k (fi ++ #[.func (.yield (w.heap.size + 1)) #[] #[]] ++ cp)) ((w.alloc (.deferred (some []))).alloc (.loop (rec0 fn a.tmps ps assign body w.heap.size))) := hE _ _
  exact this
 ·have hgr : Same w ((w.alloc (.deferred (some []))).alloc (.loop (rec0 fn a.tmps ps assign body w.heap.size))) := (Grew.alloc _ _ rfl).toSame.trans (Grew.alloc _ _ rfl).toSame
  have hctw := ct [] _ (by simpa using h1)
  refine callsIn_fw (Calls.mono hctw fun en w' ⟨v, h', he, hRv, hH, hS⟩ => ?_)
  subst he
  obtain ⟨rec, h'', s, hbusy, hj⟩ := hR' v h' hRv
  have hH' := (show Holds w' h' by simpa using hH).sel s
  refine ⟨rec.pending, _, run_endLoop hH'.1 hbusy, ?_⟩
  have hk2 : Kn n (mk w.heap.size :: ds) { a with defers := [{ target := .collected w.heap.size, args := #[] }] ++ a.defers } e := ⟨hk.size, by simp [mk, hk.defers], hk.get⟩
  have hH2 : ∀ o, Holds (w'.putObj (w.heap.size + 1) o) h'' := fun o => (Holds.putObj hH' o).2.2
  have hS2 : ∀ r, Same w0 (w'.putObj (w.heap.size + 1) (.loop r)) := fun r => (hw.trans hgr).trans (hS.trans (Same.putObj _ _ _ hH'.1 rfl rfl))
  generalize rec.pending = j at hj ⊢
  cases j with
  | none => exact hj _ _ hk2 (hH2 _) (hS2 _)
  | some x => exact hj _ _ hk2 (hH2 _) (hS2 _)

/-! ### The function's end, with marks -/
theorem leavesM {P : Program} {fn : Func} {tm : Array Value} {Rf : Ending → World → Prop} {w0 : World} {k : SH} : ∀ (bs : List Nat) (w : World), Holds w (marks bs ++ k) → Same w0 w →
  (∀ w', Holds w' k → Same w0 w' → ∃ v, (results fn tm).run P w' = .ok v w' ∧ Rf (.returned v) w') → LeavesInM (Fw none) 0 P fn tm Rf (bs.map mk) .returning w
 | [], w, hh, hs, hf => hf w hh hs
 | b :: bs, w, hh, hs, hf => by
  refine ⟨by simp, .inl ⟨b, _, rfl, run_takeDeferred (ds := []) hh.1, ?_⟩⟩
  exact leavesM bs _ (Holds.putObj hh _).2.2 (hs.trans (Same.putObj _ _ _ hh.1 rfl rfl)) hf
theorem ct_ofM {P : Program} {k : FuncId} {fn : Func} {x : Code} {n : Nat} {l : List Value} {hf : SH} {R : Value → SH → Prop} (hF : P.funcs[k]? = some fn) (hb : fn.body = some x) (hnt : fn.ntmps = n) (hn : l.length ≤ n)
  (hc : ∀ (hr : SH) (w0 : World), Cd ⟨P, none, n, [], w0⟩ x (bodyPostM (Fw none) 0 P fn (Post w0 hr R)) (Env.ofArgs 0 l) (hf ++ hr)) : Ct P k l.toArray hf R := fun hr w hh => by
 refine calls_fw (r := none) (n := 0) (callsIn_of_wp_marks hF hb trivial (hc hr w _ w ⟨?_, rfl, fun i v hi => ?_⟩ hh (Same.refl w)))
 ·simp; omega
 ·obtain ⟨_, h2⟩ := Env.ofArgs_get hi
  simp only [Nat.sub_zero] at h2
  have hlt : i < l.length := (List.getElem?_eq_some_iff.1 h2).1
  rw [List.getElem?_eq_getElem hlt, Option.some.injEq] at h2
  simp [Array.getElem?_append, hlt, h2]
section
variable {P : Program} {r : Option Nat} {n : Nat} {w0 : World} {hr : SH} {R : Value → SH → Prop} {fn : Func} {e : Env} {h h' : SH} {vs : List Value} {bs : List Nat} {ds : List Deferred}
theorem xt_retM (hds : ds = bs.map mk) (hv : e.res? fn.results.toList = some vs) (hR : R (outOf vs) h') (hp : Sub (marks bs ++ (h' ++ hr)) h) : Xt ⟨P, r, n, ds, w0⟩ .ret (bodyPostM (Fw none) 0 P fn (Post w0 hr R)) e h :=
 fun a w hk hh hw => by
  show LeavesInM (Fw none) 0 P fn a.tmps _ a.defers .returning w
  rw [hk.defers, hds]
  exact leavesM bs w (hh.sub hp) hw fun w' h1 h2 => ⟨_, run_results hk hv w', _, h', rfl, hR, h1, h2⟩
end

/-! ### A loop in which marks are laid -/
section
variable {P : Program} {r : Option Nat} {n : Nat} {ds : List Deferred} {w0 : World} {Q : Exit → Act → World → Prop} {e : Env} {h : SH}
def AgainD {σ : Type} (P : Program) (r : Option Nat) (n : Nat) (w0 : World) (D : σ → List Deferred) (E : σ → Env) (H : σ → SH) (Φ : σ → Prop) (μ : σ → Nat) (s : σ) (a : Act) (w : World) : Prop :=
 ∃ s', Φ s' ∧ μ s' < μ s ∧ Kn n (D s') a (E s') ∧ Holds w (H s') ∧ Same w0 w
theorem cd_loopD {σ : Type} {x : Code} (D : σ → List Deferred) (E : σ → Env) (H : σ → SH) (Φ : σ → Prop) (μ : σ → Nat) (s0 : σ) (h0 : Φ s0) (hd : ds = D s0) (hs : Env.sub (E s0) e) (hp : Sub (H s0) h)
    (hr : ∀ s, Φ s → Cd ⟨P, r, n, D s, w0⟩ x (Exit.then (AgainD P r n w0 D E H Φ μ s) Q) (E s) (H s)) : Cd ⟨P, r, n, ds, w0⟩ (.loop x) Q e h := fun a w hk hh hw => by
  subst hd
  let p : Act → World → Nat → Prop := fun a w m => ∃ s, Φ s ∧ μ s = m ∧ Kn n (D s) a (E s) ∧ Holds w (H s) ∧ Same w0 w
  have hmin : ∀ a w m, p a w m → p a w (least (p a w)) ∧ least (p a w) ≤ m := fun a w m hn => ⟨(least_spec ⟨m, hn⟩).1, (least_spec ⟨m, hn⟩).2 m hn⟩
  refine wpIn_loop (fun a w => ∃ m, p a w m) (fun a w => least (p a w)) ⟨_, s0, h0, rfl, hk.weaken hs, hh.sub hp, hw⟩ fun a w ⟨m, hn⟩ => ?_
  obtain ⟨⟨s, h1, h2, h3, h4, h5⟩, _⟩ := hmin a w m hn
  refine wpIn_mono (hr s h1 a w h3 h4 h5) fun ex a' w' hq => ?_
  cases ex <;> first
    | exact hq
    | (obtain ⟨s', g1, g2, g3, g4, g5⟩ := hq
       have hp' : p a' w' (μ s') := ⟨s', g1, rfl, g3, g4, g5⟩
       exact ⟨⟨_, hp'⟩, Nat.lt_of_le_of_lt (hmin a' w' _ hp').2 (h2 ▸ g2)⟩)
theorem xt_againD {σ : Type} {D : σ → List Deferred} {E : σ → Env} {H : σ → SH} {Φ : σ → Prop} {μ : σ → Nat} {s : σ} (s' : σ) (h1 : Φ s') (h2 : μ s' < μ s) (hd : ds = D s') (hs : Env.sub (E s') e) (hp : Sub (H s') h) :
  Xt ⟨P, r, n, ds, w0⟩ .normal (Exit.then (AgainD P r n w0 D E H Φ μ s) Q) e h := fun _ _ hk hh hw => ⟨s', h1, h2, by subst hd; exact hk.weaken hs, hh.sub hp, hw⟩
end

/-! ### Calls of yield -/
section
variable {c : Cx} {ops : Array Oper} {K : Act → World → Prop} {rest : List Oper} {e : Env} {h h' hr : SH}
theorem run_yieldCall {P : Program} {f : Operand} {az : Array Operand} {ts : Array TypeId} {l : Nat} {vs : List Value} (hf : e.ev? f = some (.func (.yield l) #[] #[])) (has : az.toList.mapM e.ev? = some vs)
  {ρ : Operand → Value} (hρ : ∀ x u, e.ev? x = some u → ρ x = u) (w : World) (d : Option Tmp) (ty : TypeId) (pos : String) (after : Array Edge) (g : Option (Nat × Bool)) :
  (execOp ρ ⟨d, .call { callee := .value f, args := az, argTypes := ts }, ty, pos, after, g⟩).run P w = (Instr.yield l vs.toArray).run P w := by
 have e1 : Array.map ρ az = vs.toArray := by
  apply Array.toList_inj.1; simpa using evs_map hρ az.toList vs has
 simp only [execOp, resolve, hρ f _ hf, Deferred.ofValue, e1, Sem.run_bind, Sem.run_pure, Result.andThen_ok, invoke]
 simp
theorem st_yield {d : Nat} {f : Operand} {az : Array Operand} {ts : Array TypeId} {ty : TypeId} {pos : String} {after : Array Edge} {l : Nat} {vs : List Value} {hf : SH} {R : Value → SH → Prop} {gu : Option (Nat × Bool)} {gd : Nat}
  (hgu : gu = none ∨ ∃ g want, gu = some (g, want) ∧ ((ops[g]?).bind (·.dst)) = some gd ∧ e.get? gd = some (.bool want))
  (hv : e.ev? f = some (.func (.yield l) #[] #[])) (has : az.toList.mapM e.ev? = some vs) (yc : Yc c.P l vs.toArray hf R) (pk : Pk h hf hr) (hd : d < c.n)
  (hn : ∀ v h', R v h' → St c ops K rest ((d, v) :: e) (h' ++ hr)) :
  St c ops K (⟨some d, .call { callee := .value f, args := az, argTypes := ts }, ty, pos, after, gu⟩ :: rest) e h := fun a w hk hh hs => by
 unfold LsW
 have hw : Region.wanted (⟨some d, .call { callee := .value f, args := az, argTypes := ts }, ty, pos, after, gu⟩ : Oper) (yielded ops a.tmps) = true := by
  rcases hgu with rfl | ⟨g, want, rfl, hg, hgv⟩
  ·simp [Region.wanted]
  ·simp [Region.wanted, yields_guard hg hgv hk]
 rw [if_pos hw]
 unfold OpW OpV
 rw [Oper.semAt_eq _ _ _ (by simp), run_yieldCall hv has hk.evs]
 refine opUpon_mono (fun v w' ⟨h', hR, hH, hS⟩ => ?_) (yc hr w (hh.pk pk))
 exact hn v h' hR _ w' (hk.put v hd) hH (hs.trans hS)
end
end Go.Ck
namespace Go.Ck
open Go Go.RowKit

def isI64 : Option TypeDesc → Bool
 | some (.int .i64) => true
 | _ => false
def okFields (P : Program) : List Field → Nat → Bool
 | [], _ => true
 | f :: t, i => (f.name != "_") && isI64 (P.underlying f.type) && Nat.beq f.offset i && okFields P t (i + 1)
def EqI (P : Program) (T : TypeId) (n : Nat) : Prop := P.eqGuardType P.depth T = false ∧ ∀ (xs ys : List Int) (w : World), xs.length = n → ys.length = n →
 (Op.equalIn 10000 T (.agg (ints xs).toArray) (.agg (ints ys).toArray)).run P w = .ok (xs == ys) w
theorem run_part_int {P : Program} {T : TypeId} (h : isI64 (P.underlying T) = true) {xs : List Int} {i : Nat} {x : Int} (hx : xs[i]? = some x) (w : World) : (part T (ints xs).toArray i).run P w = .ok (.int .i64 x) w := by
 have hu : P.underlying T = some (.int .i64) := by
  unfold isI64 at h; split at h
  ·assumption
  ·cases h
 have hi : (isAgg T).run P w = .ok false w := by
  unfold isAgg
  simp only [Sem.run_bind, run_underlying hu, Result.andThen_ok]
  rfl
 unfold part
 have : (ints xs).toArray[i]? = some (.int .i64 x) := by simp [ints, hx]
 simp only [Sem.run_bind, hi, Result.andThen_ok, Bool.false_eq_true, if_false, this, Sem.run_pure]
theorem run_eqFields {P : Program} {d : Nat} {xs ys : List Int} {w : World} : ∀ (fs : List Field) (i : Nat), okFields P fs i = true → xs.length = i + fs.length → ys.length = i + fs.length →
  (Op.eqFields (d + 1) (ints xs).toArray (ints ys).toArray fs).run P w = .ok (xs.drop i == ys.drop i) w
 | [], i, _, hx, hy => by
  have h1 : xs.drop i = [] := List.drop_of_length_le (by simp at hx; omega)
  have h2 : ys.drop i = [] := List.drop_of_length_le (by simp at hy; omega)
  rw [h1, h2]
  simp [Op.eqFields]
 | f :: t, i, h, hx, hy => by
  simp only [okFields, Bool.and_eq_true, bne_iff_ne] at h
  obtain ⟨⟨⟨h1, h2⟩, h3⟩, h4⟩ := h
  have h3' := Nat.eq_of_beq_eq_true h3
  simp only [List.length_cons] at hx hy
  have hxi : i < xs.length := by omega
  have hyi : i < ys.length := by omega
  have hu : P.underlying f.type = some (.int .i64) := by
   unfold isI64 at h2; split at h2
   ·assumption
   ·cases h2
  unfold Op.eqFields
  rw [if_pos h1, h3']
  simp only [Sem.run_bind, run_part_int h2 (List.getElem?_eq_getElem hxi), run_part_int h2 (List.getElem?_eq_getElem hyi), Result.andThen_ok, run_equalIn_int w d f.type .i64 .i64 xs[i] ys[i] hu]
  have hb : (xs.drop i == ys.drop i) = (xs[i] == ys[i] && (xs.drop (i + 1) == ys.drop (i + 1))) := by
   rw [List.drop_eq_getElem_cons hxi, List.drop_eq_getElem_cons hyi]; rfl
  rw [hb]
  by_cases he : xs[i] = ys[i]
  ·rw [if_neg (by simp [he]), run_eqFields t (i + 1) h4 (by omega) (by omega), he]
   simp only [beq_self_eq_true, Bool.true_and]
  ·rw [if_pos (by simp [he]), beq_eq_false_iff_ne.2 he]
   rfl
theorem EqI.of {P : Program} {T : TypeId} {fs : Array Field} {n : Nat} (h1 : P.underlying T = some (.struct fs)) (h2 : P.stoodInHeld T = false) (h3 : P.eqGuardType P.depth T = false) (h4 : okFields P fs.toList 0 = true) (hn : fs.size = n) : EqI P T n := by
 refine ⟨h3, fun xs ys w hx hy => ?_⟩
 have hf : P.fieldsOf T = fs := by simp [Program.fieldsOf, h1]
 rw [run_equalIn_struct w 9999 T _ _ (by rw [hf]; exact h1) h2, hf, run_eqFields fs.toList 0 h4 (by simp [hx, hn]) (by simp [hy, hn])]
 simp

section
variable {P : Program} {e : Env} {h h' : SH} {ty : TypeId}
theorem v_eql_bool {T t' : TypeId} {x y : Operand} {a b : Bool} (hT : P.underlying T = some .bool) (hx : e.ev? x = some (.bool a)) (hy : e.ev? y = some (.bool b)) : Vop P e h (.binOp .eql T x y t') ty (.bool (a == b)) :=
 ⟨by simp, by simp, fun ρ w d pos after g hρ _ => by
  have hq : (Op.equalIn 10000 T (.bool a) (.bool b)).run P w = .ok (a == b) w := run_equalIn_bool' w 9999 T a b hT
  simp [execOp, hρ x _ hx, hρ y _ hy, eqGuard, binOp, Op.equal, Op.maxDepth, hq]⟩
theorem v_neq_bool {T t' : TypeId} {x y : Operand} {a b : Bool} (hT : P.underlying T = some .bool) (hx : e.ev? x = some (.bool a)) (hy : e.ev? y = some (.bool b)) : Vop P e h (.binOp .neq T x y t') ty (.bool (!(a == b))) :=
 ⟨by simp, by simp, fun ρ w d pos after g hρ _ => by
  have hq : (Op.equalIn 10000 T (.bool a) (.bool b)).run P w = .ok (a == b) w := run_equalIn_bool' w 9999 T a b hT
  simp [execOp, hρ x _ hx, hρ y _ hy, eqGuard, binOp, Op.equal, Op.maxDepth, hq]⟩
def Rds (r : Res) (b o : Nat) (vs : List Value) : Prop := ∀ i (hi : i < vs.length), Rd r ⟨b, o + i, none⟩ vs[i]
theorem v_loadR {T : TypeId} {x : Operand} {b o n : Nat} {vs : List Value} {r : Res} (hx : e.ev? x = some (.pointer (some ⟨b, o, none⟩))) (hT : LdN P T n) (hl : vs.length = n) (s : Sel h r h') (hr : Rds r b o vs) :
  Vop P e h (.load T x) ty (.agg vs.toArray) := v_loadN hx hT hl fun i hi => ⟨r, h', s, hr i hi⟩
theorem rds_pt {b : Nat} {vs : List Value} {E : TypeId} : Rds (pt b (cl vs E)) b 0 vs := fun i hi => rd_cl (by simp [hi])
end

section
variable {c : Cx} {ops : Array Oper} {K : Act → World → Prop} {rest : List Oper} {e : Env} {h h' hr : SH}
theorem st_storeN {T E : TypeId} {x y : Operand} {ty : TypeId} {pos : String} {after : Array Edge} {b off n : Nat} {l vs : List Value} {k : SH}
  (hx : e.ev? x = some (.pointer (some ⟨b, off, none⟩))) (hy : e.ev? y = some (.agg vs.toArray)) (hT : Sz c.P T n) (hn : vs.length = n) (h1 : ∀ v ∈ vs, v.oneCell' = true) (hs : Sel h (pt b (cl l E)) k) (ho : off + vs.length ≤ l.length)
  (hnx : St c ops K rest e (pt b (cl (splice l off vs) E) :: k)) :
  St c ops K (⟨none, .store T x y, ty, pos, after, none⟩ :: rest) e h :=
 st_any (by simp) fun a w hk hh hs' => by
  have hh' := hh.sel hs
  have hg : w.heap[b]? = some (.cells l.toArray E (0, 0)) := hh'.1
  have hr : (Instr.storeAt T (.pointer (some ⟨b, off, none⟩)) (.agg vs.toArray)).run c.P w = .ok () (w.setRow b (splice l off vs).toArray) := by
   have hst := run_storeCells_at c.P b off E vs 0 l.toArray w hg (by simpa using ho) h1
   unfold Instr.storeAt storeVar
   have hsz : (Value.agg vs.toArray).cells.size = n := by simp [Value.cells, hn]
   simp only [Instr.sureAddr, Sem.run_bind, Sem.run_pure, Result.andThen_ok, hT w, hsz]
   simp only [Value.cells, ne_eq, not_true_eq_false, if_false, hst]
   simp [splice]
  simp only [execOp, hk.ev hx, hk.ev hy, Sem.run_bind, hr, Result.andThen_ok, Sem.run_pure]
  exact hnx _ _ hk (Holds.setRow hh' (splice l off vs)) (hs'.trans (Same.setRow _ _ _ hh'.1))
theorem st_storeW {T E : TypeId} {x y : Operand} {ty : TypeId} {pos : String} {after : Array Edge} {b n : Nat} {l vs : List Value} {k : SH}
  (hx : e.ev? x = some (.pointer (some ⟨b, 0, none⟩))) (hy : e.ev? y = some (.agg vs.toArray)) (hT : Sz c.P T n) (hn : vs.length = n) (h1 : ∀ v ∈ vs, v.oneCell' = true) (hs : Sel h (pt b (cl l E)) k) (hl : l.length = vs.length)
  (hnx : St c ops K rest e (pt b (cl vs E) :: k)) :
  St c ops K (⟨none, .store T x y, ty, pos, after, none⟩ :: rest) e h := by
 refine st_storeN hx hy hT hn h1 hs (by omega) ?_
 have : splice l 0 vs = vs := by simp [splice, ← hl]
 rw [this]; exact hnx
end

theorem ones {vs : List Value} (h : vs.all Value.oneCell' = true) : ∀ v ∈ vs, v.oneCell' = true := List.all_eq_true.1 h

/-! ## Results that lie in cells -/
inductive ResV (P : Program) (h : SH) (e : Env) : List ResultVar → List Value → Prop
 | nil : ResV P h e [] []
 | tmp {t : Nat} {v : Value} {rs : List ResultVar} {vs : List Value} : e.get? t = some v → ResV P h e rs vs → ResV P h e (.tmp t :: rs) (v :: vs)
 | cell1 {a b o : Nat} {T : TypeId} {v : Value} {rs : List ResultVar} {vs : List Value} : e.get? a = some (.pointer (some ⟨b, o, none⟩)) → Ld1 P T → At h ⟨b, o, none⟩ v → ResV P h e rs vs → ResV P h e (.cell a T :: rs) (v :: vs)
 | cellN {a b n : Nat} {T E : TypeId} {us : List Value} {h' : SH} {rs : List ResultVar} {vs : List Value} : e.get? a = some (.pointer (some ⟨b, 0, none⟩)) → LdN P T n → us.length = n → Sel h (pt b (cl us E)) h' → ResV P h e rs vs → ResV P h e (.cell a T :: rs) (.agg us.toArray :: vs)
theorem loadVar_of {P : Program} {T : TypeId} {a : Addr} {v : Value} {w : World} (h : (Instr.loadAt T (.pointer (some a))).run P w = .ok v w) : (loadVar T a).run P w = .ok v w := by
 unfold Instr.loadAt at h
 simpa [Instr.sureAddr] using h
theorem run_resultsV {P : Program} {fn : Func} {n : Nat} {ds : List Deferred} {a : Act} {e : Env} {h : SH} (hk : Kn n ds a e) {vs : List Value} (hr : ResV P h e fn.results.toList vs) {w : World} (hh : Holds w h) :
  (results fn a.tmps).run P w = .ok (outOf vs) w := by
 have key : ∀ (f : ResultVar → Sem Value) (_ : ∀ t, f (.tmp t) = pure (a.tmps.getD t undef)) (_ : ∀ t T, f (.cell t T) = do loadVar T (← asAddr (a.tmps.getD t undef))) (l : List ResultVar) (vs : List Value), ResV P h e l vs → (l.mapM f).run P w = .ok vs w := by
  intro f hf hc l vs hv
  induction hv with
  | nil => simp
  | tmp h1 _ ih => simp [List.mapM_cons, ih, hf, Array.getD_eq_getD_getElem?, hk.get _ _ h1]
  | cell1 h1 h2 h3 _ ih =>
   simp only [List.mapM_cons, hc, Array.getD_eq_getD_getElem?, hk.get _ _ h1, Option.getD_some, asAddr, Sem.run_bind, Sem.run_pure, Result.andThen_ok, loadVar_of (h2 w _ _ (h3.cell hh)), ih]
  | cellN h1 h2 h3 h4 _ ih =>
   have hld := h2 w _ 0 _ h3 (fun i hi => by rw [List.getElem?_eq_getElem (by omega)]; exact (rds_pt i (by omega)).at h4 hh)
   simp only [List.mapM_cons, hc, Array.getD_eq_getD_getElem?, hk.get _ _ h1, Option.getD_some, asAddr, Sem.run_bind, Sem.run_pure, Result.andThen_ok, loadVar_of hld, ih]
 unfold results
 rw [← Array.toArray_toList (xs := fn.results), List.mapM_toArray]
 simp only [Sem.run_bind, Sem.run_map]
 rw [key _ (fun _ => rfl) (fun _ _ => rfl) _ _ hr]
 simp only [Result.andThen_ok, Sem.run_pure]
 cases vs with
 | nil => simp [outOf]
 | cons v t => cases t <;> simp [outOf]
section
variable {P : Program} {r : Option Nat} {n : Nat} {w0 : World} {hr : SH} {R : Value → SH → Prop} {fn : Func} {e : Env} {h h' : SH} {vs : List Value}
theorem xt_retV (hv : ResV P h e fn.results.toList vs) (hR : R (outOf vs) h') (hp : Sub (h' ++ hr) h) : Xt ⟨P, r, n, [], w0⟩ .ret (bodyPost P fn (Post w0 hr R)) e h :=
 fun a w hk hh hw => ⟨hk.defers, _, run_resultsV hk hv hh, _, h', rfl, hR, hh.sub hp, hw⟩
end

/-! ## A scope that nothing jumps within -/
section
variable {P : Program} {F : Fence} {n : Nat} {b : Frame} {a : Act} {k : List Item} {cs : List Frame} {w : World} {Q : Exit → Act → World → Prop}
theorem stepR_scope {c : Code} : step P (lone (b.atR a (.code (.scope c) :: k)) cs w) = .next (lone (b.atR a (.code c :: .inScope c :: k)) cs w) := step_lone_go (by simp [stepG, stepG.exec, Frame.atR])
theorem stepR_inScope {c : Code} : step P (lone (b.atR a (.inScope c :: k)) cs w) = .next (lone (b.atR a k) cs w) := step_lone_go (by simp [stepG, stepG.exec, Frame.atR])
theorem wpIn_scope {c : Code} (h : c.wpIn F n P (Exit.noGoto Q) a w) : (Code.scope c).wpIn F n P Q a w := by
 intro b k cs hro hb hr
 have h0 : (lone (b.atR a (.code (.scope c) :: k)) cs w).fenced P F := fenced_calm hb hr rfl
 obtain ⟨e, a₁, w₁, hq, harr⟩ := h b (.inScope c :: k) cs hro hb hr
 cases e with
 | normal => exact ⟨.normal, a₁, w₁, hq, .head h0 stepR_scope (StepsIn.trans harr (.one (fenced_calm hb hr rfl) stepR_inScope))⟩
 | exit id =>
  have hx : exitTo id (.inScope c :: k) = exitTo id k := by simp [exitTo]
  exact ⟨.exit id, a₁, w₁, hq, fun k' hk => .head h0 stepR_scope (harr.1 k' (by rw [hx]; exact hk)),
   fun hr' hk => let ⟨k₁, h1, h2⟩ := harr.2 hr' (by rw [hx]; exact hk); ⟨k₁, h1, .head h0 stepR_scope h2⟩⟩
 | goto l => exact hq.elim
 | ret => exact ⟨_, a₁, w₁, hq, .of_steps (.one h0 stepR_scope) harr⟩
 | panic ch => exact ⟨_, a₁, w₁, hq, .of_steps (.one h0 stepR_scope) harr⟩
 | outgrown => exact ⟨_, a₁, w₁, hq, .of_steps (.one h0 stepR_scope) harr⟩
end
section
variable {c : Cx} {Q : Exit → Act → World → Prop} {e : Env} {h : SH}
theorem cd_scope {x : Code} (hx : Cd c x (Exit.noGoto Q) e h) : Cd c (.scope x) Q e h := fun a w hk hh hw => wpIn_scope (hx a w hk hh hw)
theorem xt_ret_scope (hx : Xt c .ret Q e h) : Xt c .ret (Exit.noGoto Q) e h := hx
end
end Go.Ck
namespace Go.Ck
open Go

section
variable {c : Cx} {Q : Exit → Act → World → Prop} {e : Env} {h h' : SH} {x : Code}
theorem cd_marks0 (hc : Cd c x Q e (Res.star (marks []) :: h)) : Cd c x Q e h := fun a w hk hh hw => hc a w hk ⟨trivial, fun _ hb => hb.elim, hh⟩ hw
theorem xt_mark {ex : Exit} {db : Nat} {bs : List Nat} {h1 h2 : SH} (s1 : Sel h (pt db (.deferred (some []))) h1) (s2 : Sel h1 (Res.star (marks bs)) h2) (hx : Xt c ex Q e (Res.star (marks (db :: bs)) :: h2)) : Xt c ex Q e h := fun a w hk hh hw => by
 have k1 := hh.sel s1
 have k2 : Holds w (pt db (.deferred (some [])) :: Res.star (marks bs) :: h2) := k1.perm ((s2.perm).cons _)
 have k3 : HoldsF (hp w) (pt db (.deferred (some [])) :: (marks bs ++ h2)) := by
  refine ⟨k2.1, fun b hb hd => k2.2.1 b hb ?_, star_iff.1 k2.2.2⟩
  rcases SH.dom_append.1 hd with h | h
  ·exact .inl h
  ·exact .inr h
 exact hx a w hk (star_iff.2 k3) hw
end
theorem Yc.perm {P : Program} {l : Nat} {args : Array Value} {hf hf' : SH} {R : Value → SH → Prop} (h : Yc P l args hf R) (p : hf'.Perm hf) : Yc P l args hf' R := fun hr w hh => h hr w (hh.perm (p.append_right hr))
section
variable {P : Program} {r : Option Nat} {n : Nat} {w0 : World} {hr : SH} {R : Value → SH → Prop} {fn : Func} {e : Env} {h h' : SH} {vs : List Value} {bs : List Nat} {ds : List Deferred}
end
theorem Ct.perm {P : Program} {k : FuncId} {args : Array Value} {hf hf' : SH} {R : Value → SH → Prop} (h : Ct P k args hf R) (p : hf'.Perm hf) : Ct P k args hf' R := fun hr w hh => h hr w (hh.perm (p.append_right hr))
theorem rec_back {rec : Loop} (h1 : rec.state = .ready) (h2 : rec.pending = none) : ({ ({ rec with state := .busy } : Loop) with state := .ready, pending := none } : Loop) = rec := by
 obtain ⟨st, pe, fn, tm, ps, a, b, d⟩ := rec
 simp only at h1 h2
 subst h1 h2
 rfl
theorem cd_range' {P : Program} {n : Nat} {ds : List Deferred} {w0 : World} {Q : Exit → Act → World → Prop} {e : Env} {h : SH} {g : Operand} {k : FuncId} {fi cp : Array Value} {ps : Array Tmp} {assign body : Code}
  (hg : e.ev? g = some (.func (.func k) fi cp)) (hE : Enters P k)
  (hct : ∀ (l db : Nat) (rec : Loop), rec.state = .ready → rec.pending = none → rec.params = ps → rec.assign = assign → rec.body = body → Kn n [] { tmps := rec.tmps, defers := [] } e →
   ∃ R', Ct P k (fi ++ #[.func (.yield l) #[] #[]] ++ cp) (pt l (.loop rec) :: pt db (.deferred (some [])) :: h) R' ∧
    ∀ v h', R' v h' → ∃ rec h'', Sel h' (pt l (.loop rec)) h'' ∧ rec.state ≠ .busy ∧ (match rec.pending with | none => Xt ⟨P, none, n, mk db :: ds, w0⟩ .normal Q e h'' | some x => Cd ⟨P, none, n, mk db :: ds, w0⟩ x Q e h'')) :
  Cd ⟨P, none, n, ds, w0⟩ (.rangeFunc g ps assign body) Q e h :=
 cd_range hg hE fun l db fn tm hk => hct l db (rec0 fn tm ps assign body db) rfl rfl rfl rfl rfl hk
section
variable {c : Cx} {ops : Array Oper} {K : Act → World → Prop} {rest : List Oper} {e : Env} {h : SH} {Q : Exit → Act → World → Prop}
theorem st_buildSlice0 {d : Nat} {T E ty : TypeId} {pos : String} {after : Array Edge} {z : Value} {sz bytes : Nat} (hT : c.P.underlying T = some (.slice E)) (hE : Inf c.P E z sz bytes) (hd : d < c.n)
  (hnx : ∀ b, St c ops K rest ((d, .slice (some ⟨b, 0, none⟩) 0 0) :: e) (vec (.slice (some ⟨b, 0, none⟩) 0 0) E sz 0 [] :: h)) :
  St c ops K (⟨some d, .buildSlice T 0 #[], ty, pos, after, none⟩ :: rest) e h :=
 st_any (by simp) fun a w hk hh hs => by
  obtain ⟨ie, h1, h2, h3, h4⟩ := hE.parts
  have hr : (Instr.buildSlice T 0 (#[].map fun (i, x) => (i, a.eval x))).run c.P w = .ok (.slice (some ⟨w.heap.size, 0, none⟩) 0 0) (w.alloc (cl [] E)) := by
   have h0 : Array.range 0 = #[] := rfl
   simp [Instr.buildSlice, run_underlying hT, sizeOf, typeInfo, h1, Instr.fill, newRow, cl, h0]
  simp only [execOp, Sem.run_bind, hr, Result.andThen_ok, Sem.run_pure]
  have hA := Holds.alloc hh (cl [] E)
  exact hnx _ _ _ (hk.put _ hd) ⟨⟨by simp, .inr ⟨w.heap.size, 0, [], rfl, hA.1, Nat.le_refl _, Nat.zero_le _, by simp⟩⟩, fun b ⟨m, cp, hv⟩ => (by cases hv; exact hA.2.1 _ rfl), hA.2.2⟩ (hs.trans (Grew.alloc _ _ rfl).toSame)
end
end Go.Ck
namespace Go.Ck
open Go
section
variable {c : Cx} {ops : Array Oper} {K : Act → World → Prop} {rest : List Oper} {e : Env} {h h' hr : SH}
end
end Go.Ck
namespace Go.Ck
open Go
section
variable {P : Program} {e : Env} {h : SH} {ty : TypeId}
end
section
variable {c : Cx} {ops : Array Oper} {K : Act → World → Prop} {rest : List Oper} {e : Env} {h h' hr : SH}
theorem sV {d : Nat} {op : Op} {ty : TypeId} {pos : String} {after : Array Edge} {v : Value} (hv : Vop c.P e h op ty v) (hn : St c ops K rest ((d, v) :: e) h) (hd : d < c.n := by exact ltn rfl) :
  St c ops K (⟨some d, op, ty, pos, after, none⟩ :: rest) e h := st_val hv hd hn
theorem sG {d g gd : Nat} {op : Op} {ty : TypeId} {pos : String} {after : Array Edge} {v : Value} {want : Bool} (hg : ((ops[g]?).bind (·.dst)) = some gd) (hgv : e.get? gd = some (.bool want))
  (hv : Vop c.P e h op ty v) (hn : St c ops K rest ((d, v) :: e) h) (hd : d < c.n := by exact ltn rfl) : St c ops K (⟨some d, op, ty, pos, after, some (g, want)⟩ :: rest) e h := st_valg hg hgv hv hd hn
theorem st_sk {d g gd : Nat} {op : Op} {ty : TypeId} {pos : String} {after : Array Edge} {want b : Bool} (hg : ((ops[g]?).bind (·.dst)) = some gd) (hgv : e.get? gd = some (.bool b)) (hb : b = !want)
  (hn : St c ops K rest ((d, undef) :: e) h) (hd : d < c.n := by exact ltn rfl) : St c ops K (⟨some d, op, ty, pos, after, some (g, want)⟩ :: rest) e h := st_skip hg hgv hb hd hn
theorem st_cl {d : Nat} {f : Operand} {az : Array Operand} {ts : Array TypeId} {ty : TypeId} {pos : String} {after : Array Edge} {k : FuncId} {fi cp : Array Value} {vs : List Value} {args : Array Value} {hf : SH} {R : Value → SH → Prop}
  (hv : e.ev? f = some (.func (.func k) fi cp)) (has : az.toList.mapM e.ev? = some vs) (hE : Enters c.P k) (ha : fi ++ vs.toArray ++ cp = args) (ct : Ct c.P k args hf R)
  (hn : ∀ v h', R v h' → St c ops K rest ((d, v) :: e) (h' ++ hr)) (pk : Pk h hf hr := by repeat (first | exact Pk.nil | (apply Pk.cons; (repeat (first | exact Sel.here | apply Sel.there))))) (hd : d < c.n := by exact ltn rfl) :
  St c ops K (⟨some d, .call { callee := .value f, args := az, argTypes := ts }, ty, pos, after, none⟩ :: rest) e h := st_call hv has hE ha ct pk hd hn
theorem st_clr {d : Nat} {f : Operand} {az : Array Operand} {ts : Array TypeId} {ty : TypeId} {pos : String} {after : Array Edge} {k : FuncId} {fi cp : Array Value} {vs : List Value} {args : Array Value} {hf : SH} {v : Value}
  (hv : e.ev? f = some (.func (.func k) fi cp)) (has : az.toList.mapM e.ev? = some vs) (hE : Enters c.P k) (ha : fi ++ vs.toArray ++ cp = args) (ct : Reads c.P k args hf v)
  (hn : St c ops K rest ((d, v) :: e) h) (pk : Pk h hf hr := by repeat (first | exact Pk.nil | (apply Pk.cons; (repeat (first | exact Sel.here | apply Sel.there))))) (hd : d < c.n := by exact ltn rfl) :
  St c ops K (⟨some d, .call { callee := .value f, args := az, argTypes := ts }, ty, pos, after, none⟩ :: rest) e h := st_callr hv has hE ha ct pk hd hn
theorem st_clrg {d g gd : Nat} {f : Operand} {az : Array Operand} {ts : Array TypeId} {ty : TypeId} {pos : String} {after : Array Edge} {k : FuncId} {fi cp : Array Value} {vs : List Value} {args : Array Value} {hf : SH} {v : Value} {want : Bool}
  (hg : ((ops[g]?).bind (·.dst)) = some gd) (hgv : e.get? gd = some (.bool want))
  (hv : e.ev? f = some (.func (.func k) fi cp)) (has : az.toList.mapM e.ev? = some vs) (hE : Enters c.P k) (ha : fi ++ vs.toArray ++ cp = args) (ct : Reads c.P k args hf v)
  (hn : St c ops K rest ((d, v) :: e) h) (pk : Pk h hf hr := by repeat (first | exact Pk.nil | (apply Pk.cons; (repeat (first | exact Sel.here | apply Sel.there))))) (hd : d < c.n := by exact ltn rfl) :
  St c ops K (⟨some d, .call { callee := .value f, args := az, argTypes := ts }, ty, pos, after, some (g, want)⟩ :: rest) e h := st_callrg hg hgv hv has hE ha ct pk hd hn
theorem st_sto {T E : TypeId} {x y : Operand} {ty : TypeId} {pos : String} {after : Array Edge} {b off : Nat} {l l' : List Value} {v : Value} {k : SH}
  (hx : e.ev? x = some (.pointer (some ⟨b, off, none⟩))) (hy : e.ev? y = some v) (hT : Sz c.P T 1) (hn : St c ops K rest e (pt b (cl l' E) :: k))
  (hv : v.oneCell' = true := by first | rfl | assumption) (hs : Sel h (pt b (cl l E)) k := by repeat (first | exact Sel.here | apply Sel.there)) (ho : off < l.length := by first | exact ltn rfl | assumption | (simp only [List.length_append, ints_length, bools_length]; omega) | omega) (hl : SetAt l off v l' := by first | (repeat (first | exact SetAt.zero | apply SetAt.succ)); done | exact SetAt.set) :
  St c ops K (⟨none, .store T x y, ty, pos, after, none⟩ :: rest) e h := st_store hx hy hT hv hs ho hl hn
theorem st_stoW {T E : TypeId} {x y : Operand} {ty : TypeId} {pos : String} {after : Array Edge} {b n : Nat} {l vs : List Value} {k : SH}
  (hx : e.ev? x = some (.pointer (some ⟨b, 0, none⟩))) (hy : e.ev? y = some (.agg vs.toArray)) (hT : Sz c.P T n) (hn : vs.length = n) (h1 : vs.all Value.oneCell' = true)
  (hnx : St c ops K rest e (pt b (cl vs E) :: k)) (hs : Sel h (pt b (cl l E)) k := by repeat (first | exact Sel.here | apply Sel.there)) (hl : l.length = vs.length := by exact rfl) :
  St c ops K (⟨none, .store T x y, ty, pos, after, none⟩ :: rest) e h := st_storeW hx hy hT hn (ones h1) hs hl hnx
theorem st_alc {d : Nat} {T ty : TypeId} {pos : String} {after : Array Edge} {zs : List Value} (hA : Al c.P T zs)
  (hn : ∀ b, St c ops K rest ((d, .pointer (some ⟨b, 0, none⟩)) :: e) (pt b (cl zs T) :: h)) (hd : d < c.n := by exact ltn rfl) : St c ops K (⟨some d, .alloc T, ty, pos, after, none⟩ :: rest) e h := st_alloc hA hd hn
theorem st_bx {d : Nat} {T ty : TypeId} {x : Operand} {pos : String} {after : Array Edge} {v : Value} {zs : List Value} (hx : e.ev? x = some v) (hz : v.cells = zs.toArray)
  (hn : ∀ b, St c ops K rest ((d, .pointer (some ⟨b, 0, none⟩)) :: e) (pt b (cl zs T) :: h)) (hd : d < c.n := by exact ltn rfl) : St c ops K (⟨some d, .box T x, ty, pos, after, none⟩ :: rest) e h := st_box hx hz hd hn

/-! In a region that draws its order. -/
variable {pre : Nat → Bool} {hC : SH} {t : Ord}
theorem dr_v {i d : Nat} {op : Op} {ty : TypeId} {pos : String} {after : Array Edge} {v : Value} (hi : ops[i]? = some ⟨some d, op, ty, pos, after, none⟩) (hv : Vop c.P e hC op ty v)
  (hn : DrL c ops pre hC K t ((d, v) :: e) h) (hs : Sub hC h := by repeat (first | exact Sub.refl _ | exact Sub.nil _ | refine Sub.sel slq ?_ | apply Sub.cons)) (hd : d < c.n := by exact ltn rfl) : DrL c ops pre hC K (.cons (i, true) t) e h := dr_val hi hs hv hd hn
theorem dr_vg {i d g gd : Nat} {op : Op} {ty : TypeId} {pos : String} {after : Array Edge} {v : Value} {want : Bool} (hi : ops[i]? = some ⟨some d, op, ty, pos, after, some (g, want)⟩) (hg : ((ops[g]?).bind (·.dst)) = some gd) (hgv : e.get? gd = some (.bool want))
  (hv : Vop c.P e hC op ty v) (hn : DrL c ops pre hC K t ((d, v) :: e) h) (hs : Sub hC h := by repeat (first | exact Sub.refl _ | exact Sub.nil _ | refine Sub.sel slq ?_ | apply Sub.cons)) (hd : d < c.n := by exact ltn rfl) : DrL c ops pre hC K (.cons (i, true) t) e h := dr_valg hi hg hgv hs hv hd hn
theorem dr_sk {i d g gd : Nat} {op : Op} {ty : TypeId} {pos : String} {after : Array Edge} {want b : Bool} (hi : ops[i]? = some ⟨some d, op, ty, pos, after, some (g, want)⟩) (hg : ((ops[g]?).bind (·.dst)) = some gd) (hgv : e.get? gd = some (.bool b)) (hb : b = !want)
  (hn : DrL c ops pre hC K t ((d, undef) :: e) h) (hs : Sub hC h := by repeat (first | exact Sub.refl _ | exact Sub.nil _ | refine Sub.sel slq ?_ | apply Sub.cons)) (hd : d < c.n := by exact ltn rfl) : DrL c ops pre hC K (.cons (i, true) t) e h := dr_skip hi hg hgv hb hs hd hn
theorem dV {i d : Nat} {op : Op} {ty : TypeId} {pos : String} {after : Array Edge} {v : Value} (hi : ops[i]? = some ⟨some d, op, ty, pos, after, none⟩) (hv : Vop c.P e [] op ty v)
  (hn : DrL c ops pre hC K t ((d, v) :: e) h) (hd : d < c.n := by exact ltn rfl) : DrL c ops pre hC K (.pure i t) e h := drp_val hi hv hd hn
theorem dp_vg {i d g gd : Nat} {op : Op} {ty : TypeId} {pos : String} {after : Array Edge} {v : Value} {want : Bool} (hi : ops[i]? = some ⟨some d, op, ty, pos, after, some (g, want)⟩) (hg : ((ops[g]?).bind (·.dst)) = some gd) (hgv : e.get? gd = some (.bool want))
  (hv : Vop c.P e [] op ty v) (hn : DrL c ops pre hC K t ((d, v) :: e) h) (hd : d < c.n := by exact ltn rfl) : DrL c ops pre hC K (.pure i t) e h := drp_valg hi hg hgv hv hd hn
theorem dp_sk {i d g gd : Nat} {op : Op} {ty : TypeId} {pos : String} {after : Array Edge} {want b : Bool} (hi : ops[i]? = some ⟨some d, op, ty, pos, after, some (g, want)⟩) (hg : ((ops[g]?).bind (·.dst)) = some gd) (hgv : e.get? gd = some (.bool b)) (hb : b = !want)
  (hn : DrL c ops pre hC K t ((d, undef) :: e) h) (hd : d < c.n := by exact ltn rfl) : DrL c ops pre hC K (.pure i t) e h := drp_skip hi hg hgv hb hd hn
theorem dr_clr {i d : Nat} {f : Operand} {az : Array Operand} {ts : Array TypeId} {ty : TypeId} {pos : String} {after : Array Edge} {k : FuncId} {fi cp : Array Value} {vs : List Value} {args : Array Value} {hf hr : SH} {v : Value}
  (hi : ops[i]? = some ⟨some d, .call { callee := .value f, args := az, argTypes := ts }, ty, pos, after, none⟩)
  (hv : e.ev? f = some (.func (.func k) fi cp)) (has : az.toList.mapM e.ev? = some vs) (hE : Enters c.P k) (ha : fi ++ vs.toArray ++ cp = args) (ct : Reads c.P k args hf v)
  (hn : DrL c ops pre hC K t ((d, v) :: e) h) (hs : Sub hC h := by repeat (first | exact Sub.refl _ | exact Sub.nil _ | refine Sub.sel slq ?_ | apply Sub.cons)) (pk : Pk hC hf hr := by repeat (first | exact Pk.nil | (apply Pk.cons; (repeat (first | exact Sel.here | apply Sel.there))))) (hd : d < c.n := by exact ltn rfl) : DrL c ops pre hC K (.cons (i, true) t) e h := dr_call hi hs hv has hE ha ct pk hd hn
theorem dr_clrg {i d g gd : Nat} {f : Operand} {az : Array Operand} {ts : Array TypeId} {ty : TypeId} {pos : String} {after : Array Edge} {k : FuncId} {fi cp : Array Value} {vs : List Value} {args : Array Value} {hf hr : SH} {v : Value} {want : Bool}
  (hi : ops[i]? = some ⟨some d, .call { callee := .value f, args := az, argTypes := ts }, ty, pos, after, some (g, want)⟩) (hg : ((ops[g]?).bind (·.dst)) = some gd) (hgv : e.get? gd = some (.bool want))
  (hv : e.ev? f = some (.func (.func k) fi cp)) (has : az.toList.mapM e.ev? = some vs) (hE : Enters c.P k) (ha : fi ++ vs.toArray ++ cp = args) (ct : Reads c.P k args hf v)
  (hn : DrL c ops pre hC K t ((d, v) :: e) h) (hs : Sub hC h := by repeat (first | exact Sub.refl _ | exact Sub.nil _ | refine Sub.sel slq ?_ | apply Sub.cons)) (pk : Pk hC hf hr := by repeat (first | exact Pk.nil | (apply Pk.cons; (repeat (first | exact Sel.here | apply Sel.there))))) (hd : d < c.n := by exact ltn rfl) : DrL c ops pre hC K (.cons (i, true) t) e h := dr_callg hi hg hgv hs hv has hE ha ct pk hd hn
theorem dr_nx {i : Nat} {h0 : SH} (hn : DrL c ops pre hC K t e h) (hs : pre i = true → Sub hC h0 → Sub hC h := by first | (intro hq; cases hq; done) | (intro _ hs; exact hs) | (intro _ hs; refine Sub.trans hs ?_; (repeat (first | exact Sub.refl _ | exact Sub.nil _ | refine Sub.sel slq ?_ | apply Sub.cons)); done) | (intro _ _; (repeat (first | exact Sub.refl _ | exact Sub.nil _ | refine Sub.sel slq ?_ | apply Sub.cons)); done)) : St c ops (EffK c ops pre hC K i t h0) [] e h := dr_nextR hs hn
/-! Remembered slots. -/
def kept (e : Env) : List Nat → Option Env
 | [] => some []
 | k :: ks => match e.get? k with
  | some v => (kept e ks).map ((k, v) :: ·)
  | none => none
theorem kept_sub {e : Env} : ∀ {ks : List Nat} {e' : Env}, kept e ks = some e' → Env.sub e' e
 | [], e', h => by simp only [kept, Option.some.injEq] at h; subst h; trivial
 | k :: ks, e', h => by
  simp only [kept] at h
  cases hg : e.get? k with
  | none => rw [hg] at h; cases h
  | some v =>
   rw [hg] at h
   simp only [Option.map_eq_some_iff] at h
   obtain ⟨t, h1, rfl⟩ := h
   exact ⟨hg, kept_sub h1⟩
theorem nK (ks : List Nat) {e' : Env} (hk : kept e ks = some e') (hn : Nx c K e' h) : Nx c K e h := hn.weaken (kept_sub hk)
variable {Q : Exit → Act → World → Prop}
theorem cd_lp {σ : Type} {x : Code} (E : σ → Env) (H : σ → SH) (Φ : σ → Prop) (μ : σ → Nat) (s0 : σ) (h0 : Φ s0) (hr : ∀ s, Φ s → Cd c x (Exit.then (Again c E H Φ μ s) Q) (E s) (H s))
  (hs : Env.sub (E s0) e := by repeat (first | exact trivial | refine ⟨rfl, ?_⟩)) (hp : Sub (H s0) h := by repeat (first | exact Sub.refl _ | exact Sub.nil _ | refine Sub.sel slq ?_ | apply Sub.cons)) : Cd c (.loop x) Q e h := cd_loop E H Φ μ s0 h0 hs hp hr
theorem xt_ag {σ : Type} {E : σ → Env} {H : σ → SH} {Φ : σ → Prop} {μ : σ → Nat} {s : σ} (s' : σ) (h1 : Φ s') (h2 : μ s' < μ s) (hs : Env.sub (E s') e := by repeat (first | exact trivial | refine ⟨rfl, ?_⟩)) (hp : Sub (H s') h := by repeat (first | exact Sub.refl _ | exact Sub.nil _ | refine Sub.sel slq ?_ | apply Sub.cons)) :
  Xt c .normal (Exit.then (Again c E H Φ μ s) Q) e h := xt_again s' h1 h2 hs hp
end
section
variable {P : Program} {n : Nat} {w0 : World} {fn : Func} {e : Env} {h hr h' : SH} {R : Value → SH → Prop} {r : Option Nat} {vs : List Value}
theorem xt_rt (hv : e.res? fn.results.toList = some vs) (hR : R (outOf vs) h') (hp : Sub (h' ++ hr) h := by first | (rw [List.nil_append]; (repeat (first | exact Sub.refl _ | apply Sub.cons)); done) | (repeat (first | exact Sub.refl _ | exact Sub.nil _ | refine Sub.sel slq ?_ | apply Sub.cons))) : Xt ⟨P, r, n, [], w0⟩ .ret (bodyPost P fn (Post w0 hr R)) e h := xt_ret hv hR hp
theorem xt_en (hv : e.res? fn.results.toList = some vs) (hR : R (outOf vs) h') (hp : Sub (h' ++ hr) h := by first | (rw [List.nil_append]; (repeat (first | exact Sub.refl _ | apply Sub.cons)); done) | (repeat (first | exact Sub.refl _ | exact Sub.nil _ | refine Sub.sel slq ?_ | apply Sub.cons))) : Xt ⟨P, r, n, [], w0⟩ .normal (bodyPost P fn (Post w0 hr R)) e h := xt_end hv hR hp
end
end Go.Ck
namespace Go.Ck
open Go
def fbody (f : Func) : Code := f.body.getD .skip
def cdl : Code → Code
 | .seq a _ => a
 | .block _ x => x
 | .loop x => x
 | .scope x => x
 | .cond _ a _ => a
 | c => c
def cdr : Code → Code
 | .seq _ b => b
 | .cond _ _ b => b
 | c => c
section
variable {c : Cx} {Q : Exit → Act → World → Prop} {e e' : Env} {h h' : SH} {ex : Exit} {x : Code}
end

/-! ## A guard that has no value: skipped -/
section
variable {c : Cx} {ops : Array Oper} {K : Act → World → Prop} {rest : List Oper} {e : Env} {h hC : SH} {pre : Nat → Bool} {t : Ord}
theorem yields_undef {g gd : Nat} (hg : ((ops[g]?).bind (·.dst)) = some gd) (hgv : e.get? gd = some undef) {n : Nat} {ds : List Deferred} {a : Act} (hk : Kn n ds a e) : yielded ops a.tmps g = none := by
 unfold yielded
 cases ho : ops[g]? with
 | none => simp [ho] at hg
 | some o => simp only [ho, Option.bind_some] at hg; simp [hg, hk.get gd _ hgv, undef]
theorem st_sku {d g gd : Nat} {op : Op} {ty : TypeId} {pos : String} {after : Array Edge} {want : Bool} (hg : ((ops[g]?).bind (·.dst)) = some gd) (hgv : e.get? gd = some undef)
  (hn : St c ops K rest ((d, undef) :: e) h) (hd : d < c.n := by exact ltn rfl) : St c ops K (⟨some d, op, ty, pos, after, some (g, want)⟩ :: rest) e h := fun a w hk hh hs => by
 unfold LsW
 rw [if_neg (by simp [Region.wanted, yields_undef hg hgv hk])]
 exact hn _ w (hk.put undef hd) hh hs
theorem dr_sku {i d g gd : Nat} {op : Op} {ty : TypeId} {pos : String} {after : Array Edge} {want : Bool} (hi : ops[i]? = some ⟨some d, op, ty, pos, after, some (g, want)⟩) (hg : ((ops[g]?).bind (·.dst)) = some gd) (hgv : e.get? gd = some undef)
  (hn : DrL c ops pre hC K t ((d, undef) :: e) h) (hs : Sub hC h := by repeat (first | exact Sub.refl _ | exact Sub.nil _ | refine Sub.sel slq ?_ | apply Sub.cons)) (hd : d < c.n := by exact ltn rfl) : DrL c ops pre hC K (.cons (i, true) t) e h :=
 ⟨hs, _, undef, hi, fun a hk => .inr ⟨by simp [Region.wanted, yields_undef hg hgv hk], rfl⟩, _, fun a hk => hk.put undef hd, hn⟩
theorem dp_sku {i d g gd : Nat} {op : Op} {ty : TypeId} {pos : String} {after : Array Edge} {want : Bool} (hi : ops[i]? = some ⟨some d, op, ty, pos, after, some (g, want)⟩) (hg : ((ops[g]?).bind (·.dst)) = some gd) (hgv : e.get? gd = some undef)
  (hn : DrL c ops pre hC K t ((d, undef) :: e) h) (hd : d < c.n := by exact ltn rfl) : DrL c ops pre hC K (.pure i t) e h :=
 ⟨_, undef, hi, fun a hk => .inr ⟨by simp [Region.wanted, yields_undef hg hgv hk], rfl⟩, _, fun a hk => hk.put undef hd, hn⟩
end
end Go.Ck
namespace Go.Ck
open Go
section
variable {c : Cx} {Q : Exit → Act → World → Prop} {e : Env} {h : SH}
theorem cd_lq {σ : Type} {x : Code} (E : σ → Env) (H : σ → SH) (Φ : σ → Prop) (μ : σ → Nat) (s0 : σ) (h0 : Φ s0) (hr : ∀ s, Φ s → Cd c x (Exit.then (Again c E H Φ μ s) Q) (E s) (H s))
  (hs : Env.sub (E s0) e := by repeat (first | exact trivial | refine ⟨rfl, ?_⟩)) (hp : Sub (H s0) h := by (repeat (refine Sub.sel slq ?_)); (repeat apply Sub.cons); first | exact Sub.refl _ | exact Sub.nil _) : Cd c (.loop x) Q e h := cd_loop E H Φ μ s0 h0 hs hp hr
theorem xt_aq {σ : Type} {E : σ → Env} {H : σ → SH} {Φ : σ → Prop} {μ : σ → Nat} {s : σ} (s' : σ) (h1 : Φ s') (h2 : μ s' < μ s) (hs : Env.sub (E s') e := by repeat (first | exact trivial | refine ⟨rfl, ?_⟩)) (hp : Sub (H s') h := by (repeat (refine Sub.sel slq ?_)); (repeat apply Sub.cons); first | exact Sub.refl _ | exact Sub.nil _) :
  Xt c .normal (Exit.then (Again c E H Φ μ s) Q) e h := xt_again s' h1 h2 hs hp
end
theorem xt_law {P : Program} {r : Option Nat} {n : Nat} {w0 : World} {fn : Func} {e : Env} {h hr : SH} {S : Res} (hv : e.res? fn.results.toList = some [.bool true]) (hp : Sub ([S] ++ hr) h) : Xt ⟨P, r, n, [], w0⟩ .ret (bodyPost P fn (Post w0 hr fun u h' => u = .bool true ∧ h' = [S])) e h := xt_ret hv ⟨rfl, rfl⟩ hp
end Go.Ck
namespace Go.Ck
open Go Go.RowKit Go.ChangeShapes Go.WideShapes
inductive Ty where
 | int (k : IntKind)
 | bool
 | str
 | slice (t : Ty)
 | struct (fs : List Ty)
mutual
def Ty.D : Ty → Type
 | .int _ => Int
 | .bool => Bool
 | .str => ByteArray
 | .slice t => List (Ty.D t)
 | .struct fs => Ty.Ds fs
def Ty.Ds : List Ty → Type
 | [] => Unit
 | t :: ts => Ty.D t × Ty.Ds ts
end
mutual
def Ty.sz : Ty → Nat
 | .int _ => 1
 | .bool => 1
 | .str => 1
 | .slice _ => 1
 | .struct fs => Ty.szs fs
def Ty.szs : List Ty → Nat
 | [] => 0
 | t :: ts => Ty.sz t + Ty.szs ts
end
mutual
def Rep (r : Res) : (t : Ty) → List Value → t.D → Prop
 | .int k, cs, n => cs = [.int k n] ∧ (Lit.int k n).wf = true
 | .bool, cs, b => cs = [.bool b]
 | .str, cs, s => cs = [.string s] ∧ s.size ≤ maxLen
 | .slice t, cs, l => ∃ a cap, cs = [.slice a (List.length l) cap] ∧ List.length l ≤ cap ∧ cap ≤ maxLen ∧ (a = none → cap = 0) ∧
   (l = ([] : List t.D) ∨ ∃ b o, a = some ⟨b, o, none⟩ ∧ ∀ (i : Nat) (x : t.D), @getElem? (List t.D) Nat t.D _ _ l i = some x → ∃ us : List Value, us.length = t.sz ∧ Rds r b (o + i * t.sz) us ∧ Rep r t us x)
 | .struct fs, cs, x => Reps r fs cs x
def Reps (r : Res) : (fs : List Ty) → List Value → Ty.Ds fs → Prop
 | [], cs, _ => cs = []
 | t :: ts, cs, (x, xs) => ∃ u us, cs = u ++ us ∧ u.length = t.sz ∧ Rep r t u x ∧ Reps r ts us xs
end
mutual
def fitB (P : Program) : Ty → TypeId → Bool
 | .int k, t => match P.underlying t with | some (.int k') => decide (k' = k) | _ => false
 | .bool, t => match P.underlying t with | some .bool => true | _ => false
 | .str, t => match P.underlying t with | some .string => true | _ => false
 | .slice u, t => match P.underlying t with | some (.slice e) => Nat.beq (P.cellsOf e) u.sz && Nat.ble 1 u.sz && fitB P u e | _ => false
 | .struct fs, t => match P.underlying t with | some (.struct gs) => Nat.beq (P.cellsOf t) (Ty.szs fs) && fitsB P fs gs.toList 0 | _ => false
def fitsB (P : Program) : List Ty → List Field → Nat → Bool
 | [], [], _ => true
 | t :: ts, f :: fs, off => Nat.beq f.offset off && Nat.beq (P.cellsOf f.type) t.sz && fitB P t f.type && fitsB P ts fs (off + t.sz)
 | _, _, _ => false
end

section
variable {H : Type} {enc : TypeId × Value → H} {P : Program} {W : World} {held : Bool} {sp : Nat → Bool}
theorem cells?_at {base : Nat} {a : Addr} {n : Nat} {cs : List Value} (h : W.cells? base a n = some cs) : cs.length = n ∧ ∀ i, (hi : i < cs.length) → W.cell? (a.add i) = some cs[i] := by
 obtain ⟨_, h1, h2⟩ := World.cells?_some h
 exact ⟨h1, fun i hi => by rw [h2 i (by omega), List.getElem?_eq_getElem hi]⟩
theorem cell_spot {a : Addr} {v : Value} (h : W.cell? a = some v) : a.spot = none ∧ a.block < W.heap.size := by
 unfold World.cell? at h
 cases hq : W.heap[a.block]? with
 | none => rw [hq] at h; cases h
 | some o =>
  rw [hq] at h
  have hb := (Array.getElem?_eq_some_iff.1 hq).1
  cases o with
  | cells c t f =>
   by_cases hs : a.spot.isSome = true
   ·simp [hs] at h
   ·exact ⟨by simpa using hs, hb⟩
  | _ => cases h
mutual
theorem rep_of : (ty : Ty) → ∀ (t : TypeId) (n : Nat) (cs : List Value) (x : DataW H × List MemPlace), fitB P ty t = true → DataW.trod enc P W 0 (fun _ => true) held n t cs = some x → cs.length = ty.sz ∧ ∃ y, Rep (old W) ty cs y
 | .int k, t, n, cs, x, hf, h => by
  unfold fitB at hf
  cases hu : P.underlying t with
  | none => rw [hu] at hf; cases hf
  | some d =>
   rw [hu] at hf
   cases d <;> try (cases hf; done)
   rename_i k'
   have hk : k' = k := by simpa using hf
   subst hk
   obtain ⟨m, h1, h2, h3⟩ := DataW.trod_int hu h
   subst h1
   exact ⟨rfl, m, rfl, h3⟩
 | .bool, t, n, cs, x, hf, h => by
  unfold fitB at hf
  cases hu : P.underlying t with
  | none => rw [hu] at hf; cases hf
  | some d =>
   rw [hu] at hf
   cases d <;> try (cases hf; done)
   obtain ⟨m, h1, h2⟩ := DataW.trod_bool hu h
   subst h1
   exact ⟨rfl, m, rfl⟩
 | .str, t, n, cs, x, hf, h => by
  unfold fitB at hf
  cases hu : P.underlying t with
  | none => rw [hu] at hf; cases hf
  | some d =>
   rw [hu] at hf
   cases d <;> try (cases hf; done)
   obtain ⟨s, h1, h2, h3⟩ := DataW.trod_string hu h
   subst h1
   exact ⟨rfl, s, rfl, h3⟩
 | .slice u, t, n, cs, x, hf, h => by
  unfold fitB at hf
  cases hu : P.underlying t with
  | none => rw [hu] at hf; cases hf
  | some d =>
   rw [hu] at hf
   cases d <;> try (cases hf; done)
   rename_i e
   simp only [Bool.and_eq_true] at hf
   obtain ⟨⟨hc, hp⟩, he⟩ := hf
   have hc : P.cellsOf e = u.sz := Nat.eq_of_beq_eq_true hc
   have hp : 1 ≤ u.sz := Nat.le_of_ble_eq_true hp
   rcases DataW.trod_slice hu h with ⟨h0, _⟩ | ⟨a, len, cap, elems, rest, m, _, h1, _, hb, hl, hm, hlen, hel, hsp, _⟩
   ·subst h0; exact ⟨rfl, [], none, 0, rfl, Nat.le_refl _, Nat.zero_le _, fun _ => rfl, .inl rfl⟩
   ·subst h1
    have each : ∀ i, i < len → ∃ us y, us.length = u.sz ∧ (∀ j, (hj : j < us.length) → W.cell? ((a.add (i * u.sz)).add j) = some us[j]) ∧ Rep (old W) u us y := fun i hi => by
     have h2 := hel i hi
     rw [List.getElem?_eq_getElem (by omega), hc, Option.bind_eq_some_iff] at h2
     obtain ⟨us, h3, h4⟩ := h2
     obtain ⟨h5, h6⟩ := cells?_at h3
     obtain ⟨_, y, h7⟩ := rep_of u e m us _ he h4
     exact ⟨us, y, h5, h6, h7⟩
    obtain ⟨ys, hys⟩ : ∃ ys : List u.D, ys.length = len ∧ ∀ i y, ys[i]? = some y → ∃ us : List Value, us.length = u.sz ∧ (∀ j, (hj : j < us.length) → W.cell? ((a.add (i * u.sz)).add j) = some us[j]) ∧ Rep (old W) u us y := by
     have key : ∀ k, k ≤ len → ∃ ys : List u.D, ys.length = k ∧ ∀ i y, ys[i]? = some y → ∃ us : List Value, us.length = u.sz ∧ (∀ j, (hj : j < us.length) → W.cell? ((a.add (i * u.sz)).add j) = some us[j]) ∧ Rep (old W) u us y := by
      intro k
      induction k with
      | zero => exact fun _ => ⟨[], rfl, fun i y h => by simp at h⟩
      | succ k ih =>
       intro hk
       obtain ⟨ys, h1, h2⟩ := ih (by omega)
       obtain ⟨us, y, h3, h4, h5⟩ := each k (by omega)
       refine ⟨ys ++ [y], by simp [h1], fun i z hz => ?_⟩
       rcases Nat.lt_or_ge i ys.length with hlt | hge
       ·rw [List.getElem?_append_left hlt] at hz; exact h2 i z hz
       ·have hi : i = ys.length := by
         have := (List.getElem?_eq_some_iff.1 hz).1; simp at this; omega
        subst hi
        rw [List.getElem?_append_right (Nat.le_refl _)] at hz
        simp at hz
        subst hz
        rw [h1]; exact ⟨us, h3, h4, h5⟩
     exact key len (Nat.le_refl _)
    obtain ⟨hyl, hy⟩ := hys
    refine ⟨rfl, ys, some a, cap, by rw [hyl], by rw [hyl]; exact hl, hm, (fun h => by cases h), ?_⟩
    by_cases h0 : len = 0
    ·exact .inl (List.eq_nil_of_length_eq_zero (by omega))
    ·right
     have hspot : a.spot = none := by
      obtain ⟨us, y, h3, h4, _⟩ := each 0 (by omega)
      have := h4 0 (by omega)
      simp only [Nat.zero_mul, Addr.add, if_true] at this
      exact (cell_spot this).1
     obtain ⟨ab, ao, asp⟩ := a
     simp only at hspot
     subst hspot
     refine ⟨ab, ao, rfl, fun i y hi => ?_⟩
     obtain ⟨us, h3, h4, h5⟩ := hy i y hi
     refine ⟨us, h3, fun j hj => ?_, h5⟩
     have := h4 j hj
     rw [Addr.add_lit, Addr.add_lit] at this
     exact rd_old (cell_spot this).2 this
 | .struct fs, t, n, cs, x, hf, h => by
  unfold fitB at hf
  cases hu : P.underlying t with
  | none => rw [hu] at hf; cases hf
  | some d =>
   rw [hu] at hf
   cases d <;> try (cases hf; done)
   rename_i gs
   simp only [Bool.and_eq_true] at hf
   obtain ⟨hc, hfs⟩ := hf
   have hc : P.cellsOf t = Ty.szs fs := Nat.eq_of_beq_eq_true hc
   obtain ⟨xs, m, _, _, hcl, hxl, hfe⟩ := DataW.trod_struct hu h
   refine ⟨by rw [hcl, hc]; rfl, ?_⟩
   have := reps_of fs gs.toList 0 m cs xs (by rw [hcl, hc]; omega) hfs (fun i f hi => hfe i f (by simpa using hi)) (by simpa using hxl)
   obtain ⟨y, hy⟩ := this
   rw [List.drop_zero] at hy
   exact ⟨y, hy⟩
theorem reps_of : (fs : List Ty) → ∀ (gs : List Field) (off n : Nat) (cs : List Value) (xs : List (DataW H × List MemPlace)), cs.length = off + Ty.szs fs → fitsB P fs gs off = true →
  (∀ (i : Nat) (f : Field), gs[i]? = some f → DataW.trod enc P W 0 (fun _ => true) held n f.type ((cs.drop f.offset).take (P.cellsOf f.type)) = xs[i]?) → xs.length = gs.length → ∃ y, Reps (old W) fs (cs.drop off) y
 | [], gs, off, n, cs, xs, hl, hf, _, _ => ⟨(), by
   show cs.drop off = []
   apply List.drop_eq_nil_of_le
   simp only [Ty.szs] at hl; omega⟩
 | t :: ts, [], off, n, cs, xs, hl, hf, _, _ => by simp [fitsB] at hf
 | t :: ts, g :: gs, off, n, cs, xs, hl, hf, hx, hxl => by
  unfold fitsB at hf
  simp only [Bool.and_eq_true] at hf
  obtain ⟨⟨⟨h1, h2⟩, h3⟩, h4⟩ := hf
  have h1 : g.offset = off := Nat.eq_of_beq_eq_true h1
  have h2 : P.cellsOf g.type = t.sz := Nat.eq_of_beq_eq_true h2
  have h5 := hx 0 g rfl
  cases xs with
  | nil => simp at hxl
  | cons x xs =>
   rw [h1, h2] at h5
   obtain ⟨h6, y, h7⟩ := rep_of t g.type n _ x h3 h5
   have hl' : cs.length = off + (t.sz + Ty.szs ts) := hl
   obtain ⟨ys, h8⟩ := reps_of ts gs (off + t.sz) n cs xs (by omega) h4 (fun i f hi => by have := hx (i + 1) f (by simpa using hi); simpa using this) (by simpa using hxl)
   refine ⟨(y, ys), (cs.drop off).take t.sz, cs.drop (off + t.sz), ?_, h6, h7, h8⟩
   rw [← List.drop_drop, List.take_append_drop]
end

theorem cells?_same {W' : World} (hb : ∀ b, b < W.heap.size → W'.heap[b]? = W.heap[b]?) {base : Nat} {a : Addr} {n : Nat} {cs : List Value} (h : W.cells? base a n = some cs) : W'.cells? base a n = some cs := by
 cases n with
 | zero => unfold World.cells? at h ⊢; simpa using h
 | succ n =>
  obtain ⟨h1, h2⟩ := cells?_at h
  have h3 := h2 0 (by omega)
  have hbl : a.block < W.heap.size := by
   have := (cell_spot h3).2
   simpa [Addr.add] using this
  have : ∀ i, W'.cell? (a.add i) = W.cell? (a.add i) := fun i => World.cell?_of_block (hb _ (by unfold Addr.add; split <;> exact hbl))
  unfold World.cells? at h ⊢
  simp only [this]; exact h
theorem mapM_same {α β : Type} {f g : α → Option β} : ∀ {l : List α} {ys : List β}, l.mapM f = some ys → (∀ x y, x ∈ l → y ∈ ys → f x = some y → g x = some y) → l.mapM g = some ys
 | [], ys, h, _ => by simpa using h
 | a :: l, ys, h, hfg => by
  simp only [List.mapM_cons, Option.bind_eq_bind, Option.bind_eq_some_iff, Option.pure_def, Option.some.injEq] at h
  obtain ⟨y, h1, zs, h2, rfl⟩ := h
  simp only [List.mapM_cons, Option.bind_eq_bind, Option.bind_eq_some_iff, Option.pure_def, Option.some.injEq]
  exact ⟨y, hfg a y (by simp) (by simp) h1, zs, mapM_same h2 fun x z hx hz => hfg x z (by simp [hx]) (by simp [hz]), rfl⟩
mutual
theorem reread_of {W' : World} (hb : ∀ b, b < W.heap.size → W'.heap[b]? = W.heap[b]?) : (ty : Ty) → ∀ (t : TypeId) (n : Nat) (cs : List Value) (x : DataW H × List MemPlace), fitB P ty t = true → DataW.trod enc P W 0 (fun _ => true) held n t cs = some x →
  (∀ p ∈ x.2, sp p.block = true) → DataW.trod enc P W' 0 sp held n t cs = some x
 | .int k, t, n, cs, x, hf, h, _ => by
  unfold fitB at hf
  cases n with
  | zero => simp [DataW.trod] at h
  | succ n =>
   cases hu : P.underlying t with
   | none => rw [hu] at hf; cases hf
   | some d =>
    rw [hu] at hf
    cases d <;> try (cases hf; done)
    obtain ⟨q, rfl, rfl, h3⟩ := DataW.trod_int hu h
    simp [DataW.trod, hu, h3]
 | .bool, t, n, cs, x, hf, h, _ => by
  unfold fitB at hf
  cases n with
  | zero => simp [DataW.trod] at h
  | succ n =>
   cases hu : P.underlying t with
   | none => rw [hu] at hf; cases hf
   | some d =>
    rw [hu] at hf
    cases d <;> try (cases hf; done)
    obtain ⟨q, rfl, rfl⟩ := DataW.trod_bool hu h
    simp [DataW.trod, hu]
 | .str, t, n, cs, x, hf, h, _ => by
  unfold fitB at hf
  cases n with
  | zero => simp [DataW.trod] at h
  | succ n =>
   cases hu : P.underlying t with
   | none => rw [hu] at hf; cases hf
   | some d =>
    rw [hu] at hf
    cases d <;> try (cases hf; done)
    obtain ⟨q, rfl, rfl, h3⟩ := DataW.trod_string hu h
    simp [DataW.trod, hu, h3]
 | .slice u, t, n, cs, x, hf, h, hsp => by
  unfold fitB at hf
  cases hu : P.underlying t with
  | none => rw [hu] at hf; cases hf
  | some d =>
   rw [hu] at hf
   cases d <;> try (cases hf; done)
   rename_i e
   simp only [Bool.and_eq_true] at hf
   obtain ⟨⟨hc, hp⟩, he⟩ := hf
   have hc : P.cellsOf e = u.sz := Nat.eq_of_beq_eq_true hc
   have hp : 1 ≤ u.sz := Nat.le_of_ble_eq_true hp
   cases n with
   | zero => simp [DataW.trod] at h
   | succ n =>
    rcases DataW.trod_slice hu h with ⟨rfl, rfl⟩ | ⟨a, len, cap, _, _, _, _, rfl, _⟩
    ·simp [DataW.trod, hu]
    ·unfold DataW.trod at h ⊢
     rw [hu] at h ⊢
     simp only at h ⊢
     split at h
     ·rename_i hcond
      rw [if_pos hcond]
      simp only [if_true, Option.bind_eq_some_iff, Option.map_eq_some_iff] at h
      obtain ⟨elems, h1, rest, h2, rfl⟩ := h
      simp only [List.mem_append, List.mem_flatMap] at hsp
      have hstep : ∀ i y, y ∈ elems ++ rest → (W.cells? 0 (a.add (i * P.cellsOf e)) (P.cellsOf e)).bind (DataW.trod enc P W 0 (fun _ => true) held n e) = some y → (W'.cells? 0 (a.add (i * P.cellsOf e)) (P.cellsOf e)).bind (DataW.trod enc P W' 0 sp held n e) = some y := fun i y hy hb' => by
       rw [Option.bind_eq_some_iff] at hb' ⊢
       obtain ⟨us, g1, g2⟩ := hb'
       exact ⟨us, cells?_same hb g1, reread_of hb u e n us y he g2 fun p hp' => hsp p (.inr ⟨y, List.mem_append.1 hy, hp'⟩)⟩
      have e1 : (List.range len).mapM (fun i => (W'.cells? 0 (a.add (i * P.cellsOf e)) (P.cellsOf e)).bind (DataW.trod enc P W' 0 sp held n e)) = some elems := mapM_same h1 fun i y _ hy g => hstep i y (List.mem_append_left _ hy) g
      have e2 : (List.range (cap - len)).mapM (fun j => (W'.cells? 0 (a.add ((len + j) * P.cellsOf e)) (P.cellsOf e)).bind (DataW.trod enc P W' 0 sp held n e)) = some rest := mapM_same h2 fun i y _ hy g => hstep (len + i) y (List.mem_append_right _ hy) g
      rw [e1]
      simp only [Option.bind_some]
      by_cases hs : sp a.block = true
      ·rw [if_pos hs, e2]; rfl
      ·rw [if_neg hs]
       have hr : rest = [] := by
        cases rest with
        | nil => rfl
        | cons y ys =>
         exfalso
         apply hs
         have := hsp (MemPlace.cell a.block a.off) (.inl ?_)
         ·exact this
         ·unfold MemPlace.row
          rw [hc]
          refine List.mem_map.2 ⟨0, ?_, by simp [Addr.add]⟩
          rw [List.mem_range]
          simp only [List.length_cons]
          exact Nat.mul_pos (by omega) (by omega)
       subst hr; rfl
     ·cases h
 | .struct fs, t, n, cs, x, hf, h, hsp => by
  unfold fitB at hf
  cases hu : P.underlying t with
  | none => rw [hu] at hf; cases hf
  | some d =>
   rw [hu] at hf
   cases d <;> try (cases hf; done)
   rename_i gs
   simp only [Bool.and_eq_true] at hf
   obtain ⟨hc, hfs⟩ := hf
   cases n with
   | zero => simp [DataW.trod] at h
   | succ n =>
    unfold DataW.trod at h ⊢
    rw [hu] at h ⊢
    simp only at h ⊢
    split at h
    ·rename_i hl
     rw [if_pos hl]
     rw [Option.map_eq_some_iff] at h ⊢
     obtain ⟨xs, h1, rfl⟩ := h
     refine ⟨xs, ?_, rfl⟩
     exact rereads_of hb fs gs.toList 0 n cs xs hfs h1 fun y hy p hp => hsp p (List.mem_flatMap.2 ⟨y, hy, hp⟩)
    ·cases h
theorem rereads_of {W' : World} (hb : ∀ b, b < W.heap.size → W'.heap[b]? = W.heap[b]?) : (fs : List Ty) → ∀ (gs : List Field) (off n : Nat) (cs : List Value) (xs : List (DataW H × List MemPlace)), fitsB P fs gs off = true →
  gs.mapM (fun f => DataW.trod enc P W 0 (fun _ => true) held n f.type ((cs.drop f.offset).take (P.cellsOf f.type))) = some xs → (∀ y ∈ xs, ∀ p ∈ y.2, sp p.block = true) →
  gs.mapM (fun f => DataW.trod enc P W' 0 sp held n f.type ((cs.drop f.offset).take (P.cellsOf f.type))) = some xs
 | [], [], off, n, cs, xs, hf, h, _ => by simpa using h
 | [], g :: gs, off, n, cs, xs, hf, h, _ => by simp [fitsB] at hf
 | t :: ts, [], off, n, cs, xs, hf, h, _ => by simp [fitsB] at hf
 | t :: ts, g :: gs, off, n, cs, xs, hf, h, hsp => by
  unfold fitsB at hf
  simp only [Bool.and_eq_true] at hf
  obtain ⟨⟨⟨h1, h2⟩, h3⟩, h4⟩ := hf
  simp only [List.mapM_cons, Option.bind_eq_bind, Option.bind_eq_some_iff, Option.pure_def, Option.some.injEq] at h ⊢
  obtain ⟨y, g1, zs, g2, rfl⟩ := h
  exact ⟨y, reread_of hb t g.type n _ y h3 g1 (hsp y (by simp)), zs, rereads_of hb ts gs (off + t.sz) n cs zs h4 g2 fun z hz => hsp z (by simp [hz]), rfl⟩
end
end
end Go.Ck
namespace Go.Ck
open Go Go.RowKit Go.ChangeShapes Go.WideShapes
theorem holds_old (W : World) : Holds W [old W] := ⟨fun _ _ => rfl, fun _ _ h => h, trivial⟩
structure Kept (W w' : World) : Prop extends Same W w' where
 block : ∀ b, b < W.heap.size → w'.heap[b]? = W.heap[b]?
theorem kept_of {W w' : World} {h : SH} (hh : Holds w' h) (hs : Sub [old W] h) (hS : Same W w') : Kept W w' := ⟨hS, (hh.sub hs).1⟩
theorem Kept.grown {W w' : World} (h : Kept W w') : Grown W w' := by
 refine ⟨⟨h.os, h.output, fun i hi => ?_⟩, h.fz, h.size⟩
 rw [h.block i hi]
 cases hq : W.heap[i]? with
 | none => rfl
 | some o => cases o <;> first | exact ⟨rfl, rfl, rfl, fun _ _ => rfl⟩ | exact Or.inr ⟨rfl, rfl⟩ | rfl
theorem ct_calls {P : Program} {k : FuncId} {args : Array Value} {W : World} {R : Value → SH → Prop} (h : Ct P k args [old W] R) (hR : ∀ v h', R v h' → v = .bool true ∧ Sub [old W] h') : Calls P k args W fun e w' => e = .returned (.bool true) ∧ Kept W w' :=
 (h [] W (by simpa using holds_old W)).mono fun e w' ⟨v, h', he, hr, hH, hS⟩ => by
  obtain ⟨h1, h2⟩ := hR v h' hr
  exact ⟨by rw [he, h1], kept_of (by simpa using hH) h2 hS⟩
def fitAll (P : Program) : List Ty → List TypeId → Bool
 | [], [] => true
 | t :: ts, u :: us => fitB P t u && fitAll P ts us
 | _, _ => false
section
variable {H : Type} {enc : TypeId × Value → H} {P : Program} {W W' : World} {sp : Nat → Bool}
theorem rereadAll (hb : ∀ b, b < W.heap.size → W'.heap[b]? = W.heap[b]?) : ∀ {tys : List Ty} {ts : List TypeId} {vs : List Value} {ds : List (DataW H)} {ps : List MemPlace}, fitAll P tys ts = true → DataW.TrodAll enc P W 0 (fun _ => true) true ts vs ds ps → (∀ p ∈ ps, sp p.block = true) →
  DataW.TrodAll enc P W' 0 sp true ts vs ds ps
 | [], [], [], [], ps, _, h, _ => h
 | [], [], [], _ :: _, ps, _, h, _ => h.elim
 | [], [], _ :: _, _, ps, _, h, _ => h.elim
 | [], _ :: _, _, _, _, hf, _, _ => by simp [fitAll] at hf
 | _ :: _, [], _, _, _, hf, _, _ => by simp [fitAll] at hf
 | ty :: tys, t :: ts, [], _, ps, _, h, _ => h.elim
 | ty :: tys, t :: ts, _ :: _, [], ps, _, h, _ => h.elim
 | ty :: tys, t :: ts, v :: vs, d :: ds, ps, hf, h, hp => by
  unfold fitAll at hf
  rw [Bool.and_eq_true] at hf
  obtain ⟨p, q, ⟨n, h1⟩, h2, rfl⟩ := h
  exact ⟨p, q, ⟨n, reread_of hb ty t n _ _ hf.1 h1 fun x hx => hp x (List.mem_append_left _ hx)⟩, rereadAll hb hf.2 h2 fun x hx => hp x (List.mem_append_right _ hx), rfl⟩
theorem law_post {f : Func} {s : ChangeSpec} {args : Array Value} {ds gs : List (DataW H)} {before : List MemPlace} {tb : TypeId} {tys : List Ty} (hW : DataW.Whole enc P f.params.toList s.vars false W args.toList ds gs before)
  (hv : s.vars = []) (hr : f.resultTypes = #[tb]) (htb : P.underlying tb = some .bool) (hf : fitAll P tys f.params.toList = true) (hfn : s.fn H (ds ++ gs) = { results := [.lit (.bool true)], args := ds }) (hk : Kept W W') :
  s.post enc P f false true false false W args (.bool true) W' := by
 have hW' := hW
 obtain ⟨p, q, hA, hV, rfl, hfz, hnd⟩ := hW
 rw [hv] at hV
 obtain ⟨rfl, rfl⟩ := trodVars_none hV
 refine post_of_same (pa := p) (pv := []) hW' (fun b sp hd => ?_) (fun sp hsp => ?_) (fun sp hsp => ?_) rfl (hk.grown.frame _) hk.fz (ok_one hr rfl (okWide_bool_mk htb _))
 ·rw [hr, hfn]
  exact trodAll_mk1 (shut_bool htb _)
 ·rw [hfn]
  exact rereadAll hk.block hf hA fun x hx => hsp x (List.mem_append_left _ hx)
 ·rw [hv, hfn]; rfl
theorem arg_rep {ty : Ty} {t : TypeId} {v : Value} {d : DataW H} {ps : List MemPlace} (hf : fitB P ty t = true) (h : DataW.Trod enc P W 0 (fun _ => true) true t v d ps) : ∃ y, Rep (old W) ty v.cells.toList y := by
 obtain ⟨n, hn⟩ := h
 exact (rep_of ty t n _ _ hf hn).2
theorem okWide_one {t : TypeId} {v : Value} {b : Nat} (hs : (match P.underlying t with | some (.struct _) | some (.array _ _) => false | some _ => true | none => false) = true) (h : Value.okWide P W .any b t v) : v.oneCell' = true := by
 unfold Value.okWide at h
 cases hu : P.underlying t with
 | none => rw [hu] at hs; cases hs
 | some d =>
  rw [hu] at h hs
  cases d <;> first
   | (cases hs; done)
   | (cases v <;> first | rfl | (unfold Cell.okWide at h; rw [hu] at h; simp only [Cell.ok, hu] at h))
theorem okWide_agg {t : TypeId} {v : Value} {b : Nat} {fs : Array Field} (hs : P.underlying t = some (.struct fs)) (h : Value.okWide P W .any b t v) : v = .agg v.cells := by
 obtain ⟨cs, h1, _⟩ := okWide_struct hs h
 rw [h1]; rfl
end
end Go.Ck
namespace Go.Wt
abbrev Move := Int × Int × Int
abbrev Key := Int × Int
abbrev Ask := Int × Bool
abbrev Hold := Int × Key × Bool
abbrev Did := Key × Int × Bool × Bool
structure Line where
 key : Key
 asks : List Ask
 closed : Bool
 broken : Bool
structure Proc where
 lines : List Line
 puts : List Key
 job : Int
 pc : Int
 waited : Bool
 holds : List Hold
 waits : Int
 made : Int
 did : List Did
structure Yard where
 jobs : List (List Move)
 procs : List Proc
theorem Line.ext' {a b : Line} (h1 : a.key = b.key) (h2 : a.asks = b.asks) (h3 : a.closed = b.closed) (h4 : a.broken = b.broken) : a = b := by cases a; cases b; simp_all
theorem Proc.ext' {a b : Proc} (h1 : a.lines = b.lines) (h2 : a.puts = b.puts) (h3 : a.job = b.job) (h4 : a.pc = b.pc) (h5 : a.waited = b.waited) (h6 : a.holds = b.holds) (h7 : a.waits = b.waits) (h8 : a.made = b.made) (h9 : a.did = b.did) : a = b := by cases a; cases b; simp_all
theorem Yard.ext' {a b : Yard} (h1 : a.jobs = b.jobs) (h2 : a.procs = b.procs) : a = b := by cases a; cases b; simp_all
instance : DecidableEq Line := fun a b => if h : a.key = b.key ∧ a.asks = b.asks ∧ a.closed = b.closed ∧ a.broken = b.broken then isTrue (Line.ext' h.1 h.2.1 h.2.2.1 h.2.2.2) else isFalse fun e => h (by subst e; exact ⟨rfl, rfl, rfl, rfl⟩)
instance : DecidableEq Proc := fun a b => if h : a.lines = b.lines ∧ a.puts = b.puts ∧ a.job = b.job ∧ a.pc = b.pc ∧ a.waited = b.waited ∧ a.holds = b.holds ∧ a.waits = b.waits ∧ a.made = b.made ∧ a.did = b.did then
 isTrue (Proc.ext' h.1 h.2.1 h.2.2.1 h.2.2.2.1 h.2.2.2.2.1 h.2.2.2.2.2.1 h.2.2.2.2.2.2.1 h.2.2.2.2.2.2.2.1 h.2.2.2.2.2.2.2.2) else isFalse fun e => h (by subst e; exact ⟨rfl, rfl, rfl, rfl, rfl, rfl, rfl, rfl, rfl⟩)
instance : DecidableEq Yard := fun a b => if h : a.jobs = b.jobs ∧ a.procs = b.procs then isTrue (Yard.ext' h.1 h.2) else isFalse fun e => h (by subst e; exact ⟨rfl, rfl⟩)

def within (n lo hi : Int) : Bool := decide (lo ≤ n) && decide (n ≤ hi)
def moved (m : Move) (jobs spots : Int) : Bool :=
 if m.1 = 1 then within m.2.1 0 (spots - 1) && decide (m.2.2 = 0)
 else if m.1 = 2 ∨ m.1 = 6 then decide (m.2.1 = 0) && decide (m.2.2 = 0)
 else if m.1 = 3 ∨ m.1 = 4 ∨ m.1 = 5 then within m.2.1 0 (spots - 1) && within m.2.2 0 (jobs - 1)
 else false
def bal : Int → List Move → Bool
 | o, [] => decide (o = 0)
 | o, m :: t => if m.1 = 1 then bal (o + 1) t else if m.1 = 2 then (if o - 1 < 0 then false else bal (o - 1) t) else if m.1 = 6 then t.isEmpty else bal o t
def check (jobs : List (List Move)) (spots : Int) : Int :=
 if (decide (12 < spots) || decide (30 < (jobs.length : Int)) || !jobs.all fun l => decide ((l.length : Int) ≤ 20)) = true then 3
 else if (decide (0 < spots) && decide (0 < (jobs.length : Int))) = false then 1
 else if (jobs.all fun l => l.all fun m => moved m jobs.length spots) = false then 1
 else if (jobs.all fun l => bal 0 l) = false then 2
 else 0
def Proc.empty : Proc := ⟨[], [], -1, 0, false, [], -1, 0, []⟩
def Yard.new (jobs : List (List Move)) (n : Nat) : Yard := ⟨jobs, (List.replicate n Proc.empty).set 0 { Proc.empty with lines := [⟨(0, 0), [(0, false)], true, false⟩], puts := [(0, 0)], made := 1 }⟩
def Yard.pr (y : Yard) (i : Nat) : Proc := y.procs.getD i Proc.empty
def Yard.put (y : Yard) (i : Nat) (p : Proc) : Yard := { y with procs := y.procs.set i p }
def Yard.mv (y : Yard) (j : Int) (k : Int) : Move := (y.jobs.getD j.toNat []).getD k.toNat (0, 0, 0)
def Yard.jlen (y : Yard) (j : Int) : Nat := (y.jobs.getD j.toNat []).length

def keyed (k : Key) (n : Int) : Bool := within k.1 0 (n - 1) && decide (0 ≤ k.2)
def Proc.right (p : Proc) (i : Int) (y : Yard) : Bool :=
 let n : Int := y.procs.length
 let nj : Int := y.jobs.length
 within p.job (-1) (nj - 1) && !(decide (p.job < 0) && (decide (p.pc ≠ 0) || decide (0 < (p.holds.length : Int)))) && !(decide (0 ≤ p.job) && !within p.pc 0 (y.jlen p.job))
 && within p.waits (-1) (n - 1) && decide (p.waits ≠ i) && !(decide (p.job < 0) && decide (0 ≤ p.waits)) && decide (0 ≤ p.made)
 && decide ((p.did.length : Int) ≤ 400) && decide ((p.puts.length : Int) ≤ 400) && decide ((p.lines.length : Int) ≤ 400) && decide ((p.holds.length : Int) ≤ 20)
 && p.lines.all (fun l => keyed l.key n && decide ((l.asks.length : Int) ≤ 400) && l.asks.all fun a => within a.1 0 (nj - 1)) && p.puts.all (fun k => keyed k n)
 && p.holds.all (fun h => within h.1 0 (n - 1) && keyed h.2.1 n) && p.did.all (fun d => keyed d.1 n && within d.2.1 0 (nj - 1))
def Yard.right (y : Yard) : Bool := decide (check y.jobs y.procs.length = 0) && (List.range y.procs.length).all fun i => (y.pr i).right i y
def Proc.state (p : Proc) : Int :=
 if 0 ≤ p.job ∧ 0 ≤ p.waits then 3
 else if 0 ≤ p.job then 1
 else match p.lines with
  | [] => 5
  | l :: _ => if l.asks ≠ [] ∨ l.closed = true then 2 else 4
def Proc.goes (p : Proc) : Bool := p.state == 1 || p.state == 2
def Yard.ready (y : Yard) : List Nat := (List.range y.procs.length).filter fun i => (y.pr i).goes

/-! ## A step -/
def Proc.hold (p : Proc) (of : Int) : Option Hold := p.holds.reverse.find? fun h => h.1 == of && !h.2.2
def Proc.line (p : Proc) (k : Key) : Option Nat := p.lines.findIdx? fun l => l.key == k
def Proc.setl (p : Proc) (i : Nat) (l : Line) : Proc := { p with lines := p.lines.set i l }
def Line.none : Line := ⟨(0, 0), [], false, false⟩
def Yard.lay (y : Yard) (i to : Nat) (closed : Bool) (asks : List Ask) : Yard :=
 let k : Key := ((i : Int), (y.pr i).made)
 let y := y.put i { y.pr i with made := (y.pr i).made + 1 }
 y.put to { y.pr to with lines := (y.pr to).lines ++ [⟨k, asks, closed, false⟩], puts := (y.pr to).puts ++ [k] }
def Yard.close (y : Yard) (h : Hold) : Yard :=
 if h.2.2 then y else match (y.pr h.1.toNat).line h.2.1 with
  | none => y
  | some j => y.put h.1.toNat ((y.pr h.1.toNat).setl j { (y.pr h.1.toNat).lines.getD j Line.none with closed := true })
def Yard.leave (y : Yard) (i : Nat) : Yard := match (y.pr i).holds.getLast? with
 | none => y
 | some h => (y.put i { y.pr i with holds := (y.pr i).holds.dropLast }).close h
def Yard.leaves (y : Yard) (i : Nat) : Nat → Yard
 | 0 => y
 | n + 1 => (y.leave i).leaves i n
def Yard.ends : Nat → Yard → Nat → Bool → Yard
 | 0, y, _, _ => y
 | n + 1, y, i, failed =>
  let y := y.leaves i (y.pr i).holds.length
  let p := y.pr i
  let y := y.put i { p with job := -1, pc := 0, waited := false }
  match p.lines with
  | [] => y
  | l :: t =>
   let y := y.put i { y.pr i with did := p.did ++ [(l.key, p.job, false, failed)], lines := { l with broken := l.broken || failed } :: t }
   if p.waited then
    let s := l.key.1.toNat
    if (y.pr s).waits = (i : Int) then
     let y := y.put s { y.pr s with waits := -1 }
     if failed then Yard.ends n y s true else y
    else y
   else y
def Yard.answer (n : Nat) (y : Yard) (s i : Nat) (failed : Bool) : Yard :=
 if (y.pr s).waits = (i : Int) then
  let y := y.put s { y.pr s with waits := -1 }
  if failed then Yard.ends n y s true else y
 else y
def Yard.fin (y : Yard) (i : Nat) (failed : Bool) : Yard := Yard.ends (y.procs.length + 1) y i failed
def Yard.take (y : Yard) (i : Nat) : Yard :=
 let p := y.pr i
 match p.lines with
 | [] => y
 | l :: t => match l.asks with
  | [] => y.put i { p with lines := t }
  | a :: r =>
   if l.broken then
    let y := y.put i { p with lines := { l with asks := r } :: t, did := p.did ++ [(l.key, a.1, true, false)] }
    if a.2 then y.answer (y.procs.length + 1) l.key.1.toNat i true else y
   else y.put i { p with lines := { l with asks := r } :: t, job := a.1, pc := 0, waited := a.2 }
def Yard.enter (y : Yard) (i : Nat) (to : Int) : Yard :=
 if ((y.pr i).hold to).isSome ∨ to = i then y.put i { y.pr i with holds := (y.pr i).holds ++ [(to, (0, 0), true)] }
 else
  let k : Key := ((i : Int), (y.pr i).made)
  let y := y.lay i to.toNat false []
  y.put i { y.pr i with holds := (y.pr i).holds ++ [(to, k, false)] }
def Yard.ask (y : Yard) (i : Nat) (m : Move) : Yard :=
 if m.2.1 = i then y else
 match (y.pr i).hold m.2.1 with
 | none => y.fin i true
 | some h => match (y.pr m.2.1.toNat).line h.2.1 with
  | none => y.fin i true
  | some j =>
   let q := y.pr m.2.1.toNat
   let l := q.lines.getD j Line.none
   let y := y.put m.2.1.toNat (q.setl j { l with asks := l.asks ++ [(m.2.2, m.1 == 4)] })
   if m.1 = 4 then y.put i { y.pr i with waits := m.2.1 } else y
def Yard.deed (y : Yard) (i : Nat) (m : Move) : Yard :=
 if m.1 = 1 then y.enter i m.2.1
 else if m.1 = 2 then y.leave i
 else if m.1 = 3 ∨ m.1 = 4 then y.ask i m
 else if m.1 = 5 then y.lay i m.2.1.toNat true [(m.2.2, false)]
 else y.fin i true
def Yard.move (y : Yard) (i : Nat) : Yard :=
 let p := y.pr i
 if p.pc = (y.jlen p.job : Int) then y.fin i false
 else (y.put i { p with pc := p.pc + 1 }).deed i (y.mv p.job p.pc)
def Yard.step (y : Yard) (i : Nat) : Yard := if 0 ≤ (y.pr i).job then y.move i else y.take i
def Yard.full (y : Yard) : Bool := !y.procs.all fun p => decide ((p.did.length : Int) ≤ 400) && decide ((p.puts.length : Int) ≤ 400) && decide ((p.lines.length : Int) ≤ 400) && p.lines.all fun l => decide ((l.asks.length : Int) ≤ 400)
abbrev YE := Yard × Int
def Yard.nil : Yard := ⟨[], []⟩
def Yard.stepE (y : Yard) (i : Nat) : YE := if (y.step i).full then (Yard.nil, 3) else (y.step i, 0)
def pick (n : Int) : Int := if n < 0 then -(n + 1) else n
def Yard.run : Yard → List Int → YE
 | y, [] => (y, 0)
 | y, n :: t =>
  if y.ready = [] then (y, 0)
  else
   let z := y.stepE (y.ready.getD (pick n % y.ready.length).toNat 0)
   if z.2 = 0 then z.1.run t else z
def Yard.gos (may : Yard → Nat → Bool) : Nat → Yard → YE
 | n, y => match y.ready.find? (may y) with
  | none => (y, 0)
  | some i => match n with
   | 0 => (Yard.nil, 13)
   | n + 1 =>
    let z := y.stepE i
    if z.2 = 0 then Yard.gos may n z.1 else z
end Go.Wt
namespace Go.Wt
structure HLine where
 key : Key
 all : List Ask
 tk : Nat
 res : List (Bool × Bool)
 closed : Bool
 broken : Bool
structure HProc where
 hl : List HLine
 gone : Nat
 job : Int
 pc : Int
 waited : Bool
 holds : List Hold
 waits : Int
 made : Int
structure HYard where
 jobs : List (List Move)
 procs : List HProc
def HLine.none : HLine := ⟨(0, 0), [], 0, [], true, false⟩
def HProc.empty : HProc := ⟨[], 0, -1, 0, false, [], -1, 0⟩
def HYard.pr (h : HYard) (i : Nat) : HProc := h.procs.getD i HProc.empty
def HYard.put (h : HYard) (i : Nat) (p : HProc) : HYard := { h with procs := h.procs.set i p }
def HLine.dids (l : HLine) : List Did := (l.all.zip l.res).map fun x => (l.key, x.1.1, x.2.1, x.2.2)
def HLine.now (l : HLine) : Line := ⟨l.key, l.all.drop l.tk, l.closed, l.broken⟩
def HProc.now (p : HProc) : Proc := ⟨(p.hl.drop p.gone).map HLine.now, p.hl.map HLine.key, p.job, p.pc, p.waited, p.holds, p.waits, p.made, p.hl.flatMap HLine.dids⟩
def HYard.now (h : HYard) : Yard := ⟨h.jobs, h.procs.map HProc.now⟩
def HProc.head (p : HProc) : HLine := p.hl.getD p.gone HLine.none

def HLine.fin (a b : Bool) (l : HLine) : HLine := { l with res := l.res ++ [(a, b)], broken := l.broken || b }
def HLine.take (l : HLine) : HLine := { l with tk := l.tk + 1 }
def HLine.asked (a : Ask) (l : HLine) : HLine := { l with all := l.all ++ [a] }
def HLine.shut (l : HLine) : HLine := { l with closed := true }
inductive Eff where
 | pc (v : Int)
 | hold (h : Hold)
 | holds (l : List Hold)
 | made
 | waits (v : Int)
 | job (j : Int) (w : Bool)
 | idle
 | res (j : Nat) (left failed : Bool)
 | tk (j : Nat)
 | gone
 | line (l : HLine)
 | ask (k : Key) (a : Ask)
 | close (k : Key)
def Eff.out : Eff → Bool
 | .line _ => true
 | .ask _ _ => true
 | .close _ => true
 | _ => false
def updh (k : Key) (f : HLine → HLine) (l : List HLine) : List HLine := l.map fun x => if x.key = k then f x else x
def Eff.ap : Eff → HProc → HProc
 | .pc v, p => { p with pc := v }
 | .hold h, p => { p with holds := p.holds ++ [h] }
 | .holds l, p => { p with holds := l }
 | .made, p => { p with made := p.made + 1 }
 | .waits v, p => { p with waits := v }
 | .job j w, p => { p with job := j, pc := 0, waited := w }
 | .idle, p => { p with job := -1, pc := 0, waited := false, holds := [] }
 | .res j a b, p => { p with hl := p.hl.modify j (HLine.fin a b) }
 | .tk j, p => { p with hl := p.hl.modify j HLine.take }
 | .gone, p => { p with gone := p.gone + 1 }
 | .line l, p => { p with hl := p.hl ++ [l] }
 | .ask k a, p => { p with hl := updh k (HLine.asked a) p.hl }
 | .close k, p => { p with hl := updh k HLine.shut p.hl }
def Eff.ok : Eff → HProc → Prop
 | .res j _ _, p => j < p.hl.length
 | .tk j, p => j < p.hl.length
 | .line l, p => l.key ∉ p.hl.map HLine.key
 | .ask k _, p => k ∈ p.hl.map HLine.key
 | .close k, p => k ∈ p.hl.map HLine.key
 | _, _ => True
abbrev Effs := List (Nat × Eff)
def HYard.ap (h : HYard) (e : Nat × Eff) : HYard := h.put e.1 (e.2.ap (h.pr e.1))
def HYard.aps (h : HYard) (l : Effs) : HYard := l.foldl HYard.ap h

/-! ## Effects that may be exchanged -/
def Eff.isLine : Eff → Bool
 | .line _ => true
 | _ => false
def Eff.cm : Eff → Eff → Prop
 | .line _, .line _ => False
 | .ask k _, .ask k' _ => k ≠ k'
 | e, f => e.out = true ∨ f.out = true
theorem updh_keys (k : Key) (f : HLine → HLine) (hf : ∀ x, (f x).key = x.key) (l : List HLine) : (updh k f l).map HLine.key = l.map HLine.key := by
 unfold updh
 rw [List.map_map]
 apply List.map_congr_left
 intro x _
 show (if x.key = k then f x else x).key = x.key
 split
 ·exact hf x
 ·rfl
theorem modify_keys (j : Nat) (f : HLine → HLine) (hf : ∀ x, (f x).key = x.key) (l : List HLine) : (l.modify j f).map HLine.key = l.map HLine.key := by
 apply List.ext_getElem?
 intro i
 rw [List.getElem?_map, List.getElem?_map, List.getElem?_modify]
 cases l[i]? with
 | none => rfl
 | some x => by_cases hji : j = i <;> simp [hji, hf x]
theorem Eff.ap_keys {e : Eff} (he : e.isLine = false) (p : HProc) : (e.ap p).hl.map HLine.key = p.hl.map HLine.key := by
 cases e with
 | line l => cases he
 | res j a b => exact modify_keys j (HLine.fin a b) (fun _ => rfl) p.hl
 | tk j => exact modify_keys j HLine.take (fun _ => rfl) p.hl
 | ask k a => exact updh_keys k (HLine.asked a) (fun _ => rfl) p.hl
 | close k => exact updh_keys k HLine.shut (fun _ => rfl) p.hl
 | _ => rfl
theorem Eff.ap_keys_sub {e : Eff} {p : HProc} {k : Key} (h : k ∈ p.hl.map HLine.key) : k ∈ (e.ap p).hl.map HLine.key := by
 cases he : e.isLine with
 | false => rw [Eff.ap_keys he]; exact h
 | true => cases e with
  | line l => show k ∈ (p.hl ++ [l]).map HLine.key; rw [List.map_append]; exact List.mem_append_left _ h
  | _ => cases he
theorem Eff.ap_len (e : Eff) (p : HProc) : p.hl.length ≤ (e.ap p).hl.length := by
 cases he : e.isLine with
 | false =>
  have := congrArg List.length (Eff.ap_keys he p)
  rw [List.length_map, List.length_map] at this
  omega
 | true => cases e with
  | line l => show p.hl.length ≤ (p.hl ++ [l]).length; simp
  | _ => cases he
theorem Eff.ok_ap {e f : Eff} {p : HProc} (h : e.cm f) (he : e.ok p) : e.ok (f.ap p) := by
 cases e with
 | res j a b => exact Nat.lt_of_lt_of_le he (Eff.ap_len f p)
 | tk j => exact Nat.lt_of_lt_of_le he (Eff.ap_len f p)
 | ask k a => exact Eff.ap_keys_sub he
 | close k => exact Eff.ap_keys_sub he
 | line l =>
  have hf : f.isLine = false := by cases f <;> first | rfl | exact h.elim
  show l.key ∉ _
  rw [Eff.ap_keys hf]; exact he
 | _ => trivial
theorem updh_modify (k : Key) (f g : HLine → HLine) (hg : ∀ x, (g x).key = x.key) (hc : ∀ x, f (g x) = g (f x)) (l : List HLine) (j : Nat) : updh k f (l.modify j g) = (updh k f l).modify j g := by
 apply List.ext_getElem?
 intro i
 simp only [updh, List.getElem?_map, List.getElem?_modify]
 cases l[i]? with
 | none => rfl
 | some x =>
  by_cases hji : j = i
  ·by_cases hk : x.key = k
   ·simp [hji, hk, hg, hc]
   ·simp [hji, hk, hg]
  ·simp [hji]
theorem updh_upd (k k' : Key) (f g : HLine → HLine) (hf : ∀ x, (f x).key = x.key) (hg : ∀ x, (g x).key = x.key) (hc : k = k' → ∀ x, f (g x) = g (f x)) (l : List HLine) : updh k f (updh k' g l) = updh k' g (updh k f l) := by
 unfold updh
 rw [List.map_map, List.map_map]
 apply List.map_congr_left
 intro x _
 simp only [Function.comp]
 by_cases h1 : x.key = k'
 ·by_cases h2 : x.key = k
  ·have h3 := h2.symm.trans h1
   subst h3
   simp [h1, hf, hg, hc rfl]
  ·have h3 : ¬ k' = k := fun h => h2 (h1.trans h)
   simp [h1, hg, h3]
 ·by_cases h2 : x.key = k
  ·have h3 : ¬ k = k' := fun h => h1 (h2.trans h)
   simp [h2, hf, h3]
  ·simp [h1, h2]
theorem updh_append (k : Key) (f : HLine → HLine) (l : List HLine) (x : HLine) (h : x.key ≠ k) : updh k f (l ++ [x]) = updh k f l ++ [x] := by
 simp [updh, h]
theorem modify_append (j : Nat) (f : HLine → HLine) (l : List HLine) (x : HLine) (h : j < l.length) : (l ++ [x]).modify j f = l.modify j f ++ [x] := by
 apply List.ext_getElem?
 intro i
 rw [List.getElem?_modify]
 rcases Nat.lt_or_ge i l.length with hi | hi
 ·rw [List.getElem?_append_left hi, List.getElem?_append_left (by simpa using hi), List.getElem?_modify]
 ·rw [List.getElem?_append_right hi, List.getElem?_append_right (by simpa using hi)]
  have : ¬ j = i := by omega
  simp [this]
theorem Eff.cm_symm {e f : Eff} (h : e.cm f) : f.cm e := by
 cases e <;> cases f <;> first | exact h.elim | exact h.symm | exact Or.symm h
theorem Eff.ap_comm_in {e f : Eff} {p : HProc} (h1 : e.out = true) (h2 : f.out = false) (hf : f.ok p) : e.ap (f.ap p) = f.ap (e.ap p) := by
 cases e with
 | line l =>
  cases f with
  | res j a b => simp only [Eff.ap, HProc.mk.injEq, and_true]; exact (modify_append _ _ _ _ hf).symm
  | tk j => simp only [Eff.ap, HProc.mk.injEq, and_true]; exact (modify_append _ _ _ _ hf).symm
  | line _ => cases h2
  | ask _ _ => cases h2
  | close _ => cases h2
  | _ => rfl
 | ask k q =>
  cases f with
  | res j a b => simp only [Eff.ap, HProc.mk.injEq, and_true]; exact updh_modify k (HLine.asked q) (HLine.fin a b) (fun _ => rfl) (fun _ => rfl) p.hl j
  | tk j => simp only [Eff.ap, HProc.mk.injEq, and_true]; exact updh_modify k (HLine.asked q) HLine.take (fun _ => rfl) (fun _ => rfl) p.hl j
  | line _ => cases h2
  | ask _ _ => cases h2
  | close _ => cases h2
  | _ => rfl
 | close k =>
  cases f with
  | res j a b => simp only [Eff.ap, HProc.mk.injEq, and_true]; exact updh_modify k HLine.shut (HLine.fin a b) (fun _ => rfl) (fun _ => rfl) p.hl j
  | tk j => simp only [Eff.ap, HProc.mk.injEq, and_true]; exact updh_modify k HLine.shut HLine.take (fun _ => rfl) (fun _ => rfl) p.hl j
  | line _ => cases h2
  | ask _ _ => cases h2
  | close _ => cases h2
  | _ => rfl
 | _ => cases h1
theorem Eff.ap_comm_out {e f : Eff} {p : HProc} (h1 : e.out = true) (h2 : f.out = true) (h : e.cm f) (he : e.ok p) (hf : f.ok p) : e.ap (f.ap p) = f.ap (e.ap p) := by
 have key : ∀ {l : HLine} {k : Key}, (Eff.line l).ok p → k ∈ p.hl.map HLine.key → l.key ≠ k := fun h1 h2 h3 => h1 (by rw [h3]; exact h2)
 cases e with
 | line l => cases f with
  | line _ => exact h.elim
  | ask k a => simp only [Eff.ap, HProc.mk.injEq, and_true]; exact (updh_append _ _ _ _ (key he hf)).symm
  | close k => simp only [Eff.ap, HProc.mk.injEq, and_true]; exact (updh_append _ _ _ _ (key he hf)).symm
  | _ => cases h2
 | ask k a => cases f with
  | line l => simp only [Eff.ap, HProc.mk.injEq, and_true]; exact updh_append _ _ _ _ (key hf he)
  | ask k' a' => simp only [Eff.ap, HProc.mk.injEq, and_true]; exact updh_upd k k' (HLine.asked a) (HLine.asked a') (fun _ => rfl) (fun _ => rfl) (fun h3 => absurd h3 h) p.hl
  | close k' => simp only [Eff.ap, HProc.mk.injEq, and_true]; exact updh_upd k k' (HLine.asked a) HLine.shut (fun _ => rfl) (fun _ => rfl) (fun _ _ => rfl) p.hl
  | _ => cases h2
 | close k => cases f with
  | line l => simp only [Eff.ap, HProc.mk.injEq, and_true]; exact updh_append _ _ _ _ (key hf he)
  | ask k' a' => simp only [Eff.ap, HProc.mk.injEq, and_true]; exact updh_upd k k' HLine.shut (HLine.asked a') (fun _ => rfl) (fun _ => rfl) (fun _ _ => rfl) p.hl
  | close k' => simp only [Eff.ap, HProc.mk.injEq, and_true]; exact updh_upd k k' HLine.shut HLine.shut (fun _ => rfl) (fun _ => rfl) (fun _ _ => rfl) p.hl
  | _ => cases h2
 | _ => cases h1
theorem Eff.ap_comm {e f : Eff} {p : HProc} (h : e.cm f) (he : e.ok p) (hf : f.ok p) : e.ap (f.ap p) = f.ap (e.ap p) := by
 cases h1 : e.out with
 | true =>
  cases h2 : f.out with
  | true => exact Eff.ap_comm_out h1 h2 h he hf
  | false => exact Eff.ap_comm_in h1 h2 hf
 | false =>
  have h2 : f.out = true := by
   cases e <;> cases f <;> first | rfl | (cases h1; done) | (rcases h with h | h <;> cases h)
  exact (Eff.ap_comm_in h2 h1 he).symm
/-! ### Lists of them -/
theorem HYard.pr_put_same {h : HYard} {i : Nat} {p : HProc} (hi : i < h.procs.length) : (h.put i p).pr i = p := by simp [HYard.pr, HYard.put, hi]
theorem HYard.pr_put_ne {h : HYard} {i j : Nat} {p : HProc} (hij : i ≠ j) : (h.put i p).pr j = h.pr j := by simp [HYard.pr, HYard.put, List.getElem?_set_ne hij]
theorem HYard.put_len {h : HYard} {i : Nat} {p : HProc} : (h.put i p).procs.length = h.procs.length := by simp [HYard.put]
theorem HYard.put_big {h : HYard} {i : Nat} {p : HProc} (hi : h.procs.length ≤ i) : h.put i p = h := by
 unfold HYard.put; rw [List.set_eq_of_length_le hi]
theorem HYard.put_put {h : HYard} {i : Nat} {p q : HProc} : (h.put i p).put i q = h.put i q := by simp [HYard.put]
theorem HYard.put_comm {h : HYard} {i j : Nat} {p q : HProc} (hij : i ≠ j) : (h.put i p).put j q = (h.put j q).put i p := by
 unfold HYard.put; rw [List.set_comm _ _ hij]
def Cm (a b : Nat × Eff) : Prop := a.1 ≠ b.1 ∨ a.2.cm b.2
def HYard.ok (h : HYard) (a : Nat × Eff) : Prop := a.2.ok (h.pr a.1)
theorem HYard.ok_ap {h : HYard} {a b : Nat × Eff} (hc : Cm a b) (ha : h.ok a) : (h.ap b).ok a := by
 unfold HYard.ok HYard.ap
 by_cases hi : b.1 < h.procs.length
 ·by_cases hab : a.1 = b.1
  ·rw [hab, HYard.pr_put_same hi]
   rcases hc with hc | hc
   ·exact absurd hab hc
   ·exact Eff.ok_ap hc (hab ▸ ha)
  ·rw [HYard.pr_put_ne (Ne.symm hab)]; exact ha
 ·rw [HYard.put_big (by omega)]; exact ha
theorem HYard.ap_comm {h : HYard} {a b : Nat × Eff} (hc : Cm a b) (ha : h.ok a) (hb : h.ok b) : (h.ap b).ap a = (h.ap a).ap b := by
 obtain ⟨i, e⟩ := a
 obtain ⟨j, f⟩ := b
 unfold HYard.ap
 simp only
 by_cases hij : i = j
 ·subst hij
  by_cases hi : i < h.procs.length
  ·rw [HYard.pr_put_same hi, HYard.pr_put_same hi, HYard.put_put, HYard.put_put]
   rcases hc with hc | hc
   ·exact absurd rfl hc
   ·have := Eff.ap_comm hc ha hb
    rw [this]
  ·rw [HYard.put_big (p := f.ap (h.pr i)) (by omega), HYard.put_big (p := e.ap (h.pr i)) (by omega), HYard.put_big (p := f.ap (h.pr i)) (by omega)]
 ·rw [HYard.pr_put_ne (Ne.symm hij), HYard.pr_put_ne hij, HYard.put_comm (Ne.symm hij)]
def HYard.oks : HYard → Effs → Prop
 | _, [] => True
 | h, a :: l => h.ok a ∧ (h.ap a).oks l
theorem HYard.aps_one {a : Nat × Eff} : ∀ {l : Effs} {h : HYard}, (∀ b ∈ l, Cm a b) → h.ok a → h.oks l → (h.aps l).ap a = (h.ap a).aps l ∧ (h.ap a).oks l ∧ (h.aps l).ok a
 | [], h, _, ha, _ => ⟨rfl, trivial, ha⟩
 | b :: l, h, hc, ha, hl => by
  have hcb := hc b (by simp)
  have hcb' : Cm b a := hcb.imp Ne.symm Eff.cm_symm
  obtain ⟨h1, h2, h3⟩ := HYard.aps_one (l := l) (h := h.ap b) (fun x hx => hc x (by simp [hx])) (HYard.ok_ap hcb ha) hl.2
  have e1 := HYard.ap_comm hcb ha hl.1
  refine ⟨?_, ⟨HYard.ok_ap hcb' hl.1, ?_⟩, h3⟩
  ·show ((h.ap b).aps l).ap a = ((h.ap a).ap b).aps l
   rw [h1, e1]
  ·rw [← e1]; exact h2
theorem HYard.aps_comm : ∀ {A B : Effs} {h : HYard}, (∀ a ∈ A, ∀ b ∈ B, Cm a b) → h.oks A → h.oks B → (h.aps A).aps B = (h.aps B).aps A ∧ (h.aps A).oks B ∧ (h.aps B).oks A
 | [], B, h, _, _, hB => ⟨rfl, hB, trivial⟩
 | a :: A, B, h, hc, hA, hB => by
  obtain ⟨h1, h2, h3⟩ := HYard.aps_one (h := h) (hc a (by simp)) hA.1 hB
  obtain ⟨g1, g2, g3⟩ := HYard.aps_comm (A := A) (B := B) (h := h.ap a) (fun x hx => hc x (by simp [hx])) hA.2 h2
  refine ⟨?_, g2, h3, ?_⟩
  ·show ((h.ap a).aps A).aps B = ((h.aps B).ap a).aps A
   rw [g1, h1]
  ·rw [h1]; exact g3
theorem HYard.aps_append {h : HYard} {A B : Effs} : h.aps (A ++ B) = (h.aps A).aps B := by simp [HYard.aps]
end Go.Wt
namespace Go.Wt
def HYard.mv (y : HYard) (j : Int) (k : Int) : Move := (y.jobs.getD j.toNat []).getD k.toNat (0, 0, 0)
def HYard.jlen (y : HYard) (j : Int) : Nat := (y.jobs.getD j.toNat []).length
def clh (x : Hold) : Effs := if x.2.2 then [] else [(x.1.toNat, .close x.2.1)]
def lvs (i : Nat) : List Hold → Effs
 | [] => []
 | x :: r => (i, .holds r.reverse) :: (clh x ++ lvs i r)
def HYard.effStop (h : HYard) (i : Nat) (failed : Bool) : Effs :=
 lvs i (h.pr i).holds.reverse ++ [(i, .idle), (i, .res (h.pr i).gone false failed)] ++ (if (h.pr i).waited then [((h.pr i).head.key.1.toNat, .waits (-1))] else [])
def HYard.effEnd : Nat → HYard → Nat → Bool → Effs
 | 0, _, _, _ => []
 | n + 1, h, i, failed => h.effStop i failed ++ (if (h.pr i).waited && failed then HYard.effEnd n (h.aps (h.effStop i failed)) (h.pr i).head.key.1.toNat true else [])
def HYard.effFin (h : HYard) (i : Nat) (failed : Bool) : Effs := HYard.effEnd (h.procs.length + 1) h i failed
def HProc.hold (p : HProc) (of : Int) : Option Hold := p.holds.reverse.find? fun h => h.1 == of && !h.2.2
def HProc.next (p : HProc) (i : Nat) : Key := ((i : Int), p.made)
def HYard.effDeed (h : HYard) (i : Nat) (m : Move) : Effs :=
 let p := h.pr i
 if m.1 = 1 then
  (if (p.hold m.2.1).isSome ∨ m.2.1 = i then [(i, .hold (m.2.1, (0, 0), true))]
  else [(m.2.1.toNat, .line ⟨p.next i, [], 0, [], false, false⟩), (i, .made), (i, .hold (m.2.1, p.next i, false))])
 else if m.1 = 2 then
  (match p.holds.getLast? with
  | none => []
  | some x => (i, .holds p.holds.dropLast) :: clh x)
 else if m.1 = 3 ∨ m.1 = 4 then
  (if m.2.1 = i then [] else match p.hold m.2.1 with
  | none => h.effFin i true
  | some x => (m.2.1.toNat, .ask x.2.1 (m.2.2, m.1 == 4)) :: (if m.1 = 4 then [(i, .waits m.2.1)] else []))
 else if m.1 = 5 then [(m.2.1.toNat, .line ⟨p.next i, [(m.2.2, false)], 0, [], true, false⟩), (i, .made)]
 else h.effFin i true
def HYard.effs (h : HYard) (i : Nat) : Effs :=
 let p := h.pr i
 if 0 ≤ p.job then
  (if p.pc = (h.jlen p.job : Int) then h.effFin i false else (i, .pc (p.pc + 1)) :: (h.ap (i, .pc (p.pc + 1))).effDeed i (h.mv p.job p.pc))
 else match p.head.all.drop p.head.tk with
  | [] => [(i, .gone)]
  | a :: _ =>
   if p.head.broken then
    let A := [(i, .tk p.gone), (i, .res p.gone true false)] ++ (if a.2 then [(p.head.key.1.toNat, .waits (-1))] else [])
    A ++ (if a.2 then (h.aps A).effFin p.head.key.1.toNat true else [])
   else [(i, .tk p.gone), (i, .job a.1 a.2)]
def HYard.step (h : HYard) (i : Nat) : HYard := h.aps (h.effs i)
def HProc.goes (p : HProc) : Bool := p.now.goes
def HYard.new (jobs : List (List Move)) (n : Nat) : HYard := ⟨jobs, (List.replicate n HProc.empty).set 0 { HProc.empty with hl := [⟨(0, 0), [(0, false)], 0, [], true, false⟩], made := 1 }⟩

/-! ## What is always so -/
def HLine.aw (s : Int) (l : HLine) : Nat := if l.key.1 = s then (l.all.drop l.tk).countP (·.2) else 0
def HProc.aw (s : Int) (p : HProc) : Nat := ((p.hl.drop p.gone).map (HLine.aw s)).sum + (if p.waited = true ∧ p.head.key.1 = s then 1 else 0)
structure HLine.Ok (l : HLine) (j : Nat) (gone : Nat) (job : Int) (n nj : Nat) : Prop where
 key : 0 ≤ l.key.1 ∧ l.key.1 < n ∧ 0 ≤ l.key.2
 ask : ∀ a ∈ l.all, 0 ≤ a.1 ∧ a.1 < nj
 past : j < gone → l.closed = true ∧ l.tk = l.all.length ∧ l.res.length = l.all.length
 cur : j = gone → l.tk ≤ l.all.length ∧ (0 ≤ job → l.broken = false ∧ l.tk = l.res.length + 1) ∧ (job < 0 → l.tk = l.res.length)
 later : gone < j → l.tk = 0 ∧ l.res = [] ∧ l.broken = false
structure HProc.Ok (p : HProc) (i : Nat) (n nj : Nat) (jl : Int → Nat) : Prop where
 made : 0 ≤ p.made
 gl : p.gone ≤ p.hl.length
 nd : (p.hl.map HLine.key).Nodup
 line : ∀ (j : Nat) (l : HLine), p.hl[j]? = some l → l.Ok j p.gone p.job n nj
 hold : ∀ x ∈ p.holds, 0 ≤ x.1 ∧ x.1 < n ∧ (if x.2.2 = true then x.2.1 = (0, 0) else x.1 ≠ i ∧ x.2.1.1 = i ∧ 0 ≤ x.2.1.2 ∧ x.2.1.2 < p.made)
 hu : ((p.holds.filter fun x => !x.2.2).map (·.1)).Nodup
 idle : p.job < 0 → p.job = -1 ∧ p.pc = 0 ∧ p.holds = [] ∧ p.waits = -1 ∧ p.waited = false
 busy : 0 ≤ p.job → p.job < nj ∧ 0 ≤ p.pc ∧ p.pc ≤ jl p.job ∧ p.gone < p.hl.length
 waits : p.waits = -1 ∨ 0 ≤ p.waits ∧ p.waits < n ∧ p.waits ≠ i ∧ 0 ≤ p.job
 doing : 0 ≤ p.job → ∃ l a, p.hl[p.gone]? = some l ∧ l.all[l.res.length]? = some a ∧ a.1 = p.job ∧ a.2 = p.waited
structure HInv0 (h : HYard) : Prop where
 pos : 0 < h.procs.length
 chk : check h.jobs h.procs.length = 0
 ok : ∀ i, i < h.procs.length → (h.pr i).Ok i h.procs.length h.jobs.length h.jlen
 uniq : ∀ s t, s < h.procs.length → t < h.procs.length → s ≠ t → ∀ l ∈ (h.pr s).hl, ∀ k ∈ (h.pr t).hl, l.key ≠ k.key
 kmade : ∀ t, t < h.procs.length → ∀ l ∈ (h.pr t).hl, l.key.2 < (h.pr l.key.1.toNat).made
 held : ∀ i, i < h.procs.length → ∀ x ∈ (h.pr i).holds, x.2.2 = false → ∃ (j : Nat) (l : HLine), (h.pr x.1.toNat).gone ≤ j ∧ (h.pr x.1.toNat).hl[j]? = some l ∧ l.key = x.2.1 ∧ l.closed = false
 opened : ∀ t, t < h.procs.length → ∀ l ∈ (h.pr t).hl, l.closed = false → ((t : Int), l.key, false) ∈ (h.pr l.key.1.toNat).holds
structure HInv (h : HYard) : Prop extends HInv0 h where
 aw : ∀ s t, s < h.procs.length → t < h.procs.length → (h.pr t).aw s = if (h.pr s).waits = t then 1 else 0
end Go.Wt
namespace Go.Wt
theorem modify_get (l : List HLine) (j i : Nat) (f : HLine → HLine) : (l.modify j f)[i]? = if j = i then (l[i]?).map f else l[i]? := by
 rw [List.getElem?_modify]
 cases l[i]? with
 | none => by_cases h : j = i <;> simp [h]
 | some x => by_cases h : j = i <;> simp [h]
theorem updh_get (k : Key) (l : List HLine) (i : Nat) (f : HLine → HLine) : (updh k f l)[i]? = (l[i]?).map fun x => if x.key = k then f x else x := by simp [updh]
theorem head_get {p : HProc} {l : HLine} (h : p.hl[p.gone]? = some l) : p.head = l := by simp [HProc.head, h]
theorem get_head {p : HProc} (h : p.gone < p.hl.length) : p.hl[p.gone]? = some p.head := by
 unfold HProc.head; rw [List.getD_eq_getElem?_getD, List.getElem?_eq_getElem h]; rfl
section
variable {p : HProc} {i n nj : Nat} {jl : Int → Nat}
theorem HProc.Ok.pc (h : p.Ok i n nj jl) (hj : 0 ≤ p.job) {v : Int} (h1 : 0 ≤ v) (h2 : v ≤ jl p.job) : ((Eff.pc v).ap p).Ok i n nj jl :=
 ⟨h.made, h.gl, h.nd, h.line, h.hold, h.hu, fun (h3 : p.job < 0) => by omega, fun _ => ⟨(h.busy hj).1, h1, h2, (h.busy hj).2.2.2⟩, h.waits, h.doing⟩
theorem HProc.Ok.holdOwn (h : p.Ok i n nj jl) (hj : 0 ≤ p.job) {to : Int} (h1 : 0 ≤ to ∧ to < n) : ((Eff.hold (to, (0, 0), true)).ap p).Ok i n nj jl :=
 ⟨h.made, h.gl, h.nd, h.line, fun x hx => by
  rcases List.mem_append.1 hx with hx | hx
  ·exact h.hold x hx
  ·obtain rfl := List.mem_singleton.1 hx
   exact ⟨h1.1, h1.2, by simp⟩,
 by show ((List.filter _ (p.holds ++ _)).map _).Nodup; rw [List.filter_append]; simpa using h.hu, fun (h3 : p.job < 0) => by omega, h.busy, h.waits, h.doing⟩
theorem HProc.Ok.hold' (h : p.Ok i n nj jl) (hj : 0 ≤ p.job) {to : Int} (h1 : 0 ≤ to ∧ to < n) (h2 : to ≠ i) (h3 : p.hold to = none) :
  ((Eff.hold (to, p.next i, false)).ap ((Eff.made).ap p)).Ok i n nj jl :=
 ⟨by have := h.made; show 0 ≤ p.made + 1; omega, h.gl, h.nd, h.line, fun x hx => by
  rcases List.mem_append.1 hx with hx | hx
  ·have := h.hold x hx
   refine ⟨this.1, this.2.1, ?_⟩
   have h4 := this.2.2
   split at h4
   ·rw [if_pos (by assumption)]; exact h4
   ·rw [if_neg (by assumption)]; exact ⟨h4.1, h4.2.1, h4.2.2.1, by show x.2.1.2 < p.made + 1; omega⟩
  ·obtain rfl := List.mem_singleton.1 hx
   have := h.made
   exact ⟨h1.1, h1.2, by rw [if_neg (by simp)]; exact ⟨h2, rfl, this, by show p.made < p.made + 1; omega⟩⟩,
 by
  show ((List.filter _ (p.holds ++ _)).map _).Nodup
  rw [List.filter_append, List.map_append, List.nodup_append]
  refine ⟨h.hu, by simp, ?_⟩
  intro a ha b hb e
  simp at hb
  subst hb e
  obtain ⟨x, hx, hxa⟩ := List.mem_map.1 ha
  obtain ⟨hx1, hx2⟩ := List.mem_filter.1 hx
  unfold HProc.hold at h3
  rw [List.find?_eq_none] at h3
  exact h3 x (by simpa using hx1) (by simp [hxa]; simpa using hx2),
 fun (h3 : p.job < 0) => by omega, h.busy, h.waits, h.doing⟩
theorem HProc.Ok.made' (h : p.Ok i n nj jl) : ((Eff.made).ap p).Ok i n nj jl :=
 ⟨by
  have := h.made; show 0 ≤ p.made + 1; omega, h.gl, h.nd, h.line, fun x hx => by
  have := h.hold x hx
  refine ⟨this.1, this.2.1, ?_⟩
  have h4 := this.2.2
  split at h4
  ·rw [if_pos (by assumption)]; exact h4
  ·rw [if_neg (by assumption)]; exact ⟨h4.1, h4.2.1, h4.2.2.1, by show x.2.1.2 < p.made + 1; omega⟩,
  h.hu, h.idle, h.busy, h.waits, h.doing⟩
theorem HProc.Ok.drop (h : p.Ok i n nj jl) (hj : 0 ≤ p.job) : ((Eff.holds p.holds.dropLast).ap p).Ok i n nj jl :=
 ⟨h.made, h.gl, h.nd, h.line, fun x hx => h.hold x (List.dropLast_subset _ hx), h.hu.sublist (((List.dropLast_sublist _).filter _).map _), fun (h3 : p.job < 0) => by omega, h.busy, h.waits, h.doing⟩
theorem HProc.Ok.wait (h : p.Ok i n nj jl) (hj : 0 ≤ p.job) {v : Int} (hv : v = -1 ∨ 0 ≤ v ∧ v < n ∧ v ≠ i) : ((Eff.waits v).ap p).Ok i n nj jl :=
 ⟨h.made, h.gl, h.nd, h.line, h.hold, h.hu, fun (h3 : p.job < 0) => by omega, h.busy, hv.imp id fun h => ⟨h.1, h.2.1, h.2.2, hj⟩, h.doing⟩
theorem HProc.Ok.stop (h : p.Ok i n nj jl) (hj : 0 ≤ p.job) (hw : p.waits = -1) (f : Bool) : ((Eff.res p.gone false f).ap ((Eff.idle).ap p)).Ok i n nj jl :=
 ⟨h.made, by show p.gone ≤ (p.hl.modify p.gone _).length; simpa using h.gl, by show ((p.hl.modify p.gone _).map _).Nodup; rw [modify_keys _ (HLine.fin false f) (fun _ => rfl)]; exact h.nd,
 fun j l hl => by
  have hl' : (p.hl.modify p.gone (HLine.fin false f))[j]? = some l := hl
  rw [modify_get] at hl'
  split at hl'
  ·rename_i hji
   subst hji
   rw [Option.map_eq_some_iff] at hl'
   obtain ⟨x, hx, rfl⟩ := hl'
   have hk := h.line _ x hx
   refine ⟨hk.key, hk.ask, fun h => absurd h (Nat.lt_irrefl _), fun _ => ⟨(hk.cur rfl).1, fun (h3 : (0 : Int) ≤ -1) => by omega, fun _ => ?_⟩, fun h => absurd h (Nat.lt_irrefl _)⟩
   have := ((hk.cur rfl).2.1 hj).2
   show x.tk = (x.res ++ [(false, f)]).length
   simp [this]
  ·rename_i hji
   have hk := h.line j l hl'
   exact ⟨hk.key, hk.ask, hk.past, fun h => absurd h.symm hji, hk.later⟩,
 fun x (hx : x ∈ []) => by simp at hx, by show ((List.filter _ []).map _).Nodup; simp, fun _ => ⟨rfl, rfl, rfl, hw, rfl⟩, fun (h3 : (0 : Int) ≤ -1) => by omega, .inl hw, fun (h3 : (0 : Int) ≤ -1) => by omega⟩
theorem HProc.Ok.begin (h : p.Ok i n nj jl) (hj : p.job < 0) {a : Ask} {r : List Ask} (hg : p.gone < p.hl.length) (ha : p.head.all.drop p.head.tk = a :: r) (hb : p.head.broken = false) : ((Eff.job a.1 a.2).ap ((Eff.tk p.gone).ap p)).Ok i n nj jl := by
 have hhd := get_head hg
 have hk := h.line _ _ hhd
 have hlt : p.head.tk < p.head.all.length := by
  rcases Nat.lt_or_ge p.head.tk p.head.all.length with h | h
  ·exact h
  ·rw [List.drop_of_length_le h] at ha; cases ha
 have hma : a ∈ p.head.all := List.mem_of_mem_drop (by rw [ha]; simp)
 refine ⟨h.made, by show p.gone ≤ (p.hl.modify p.gone _).length; simpa using h.gl, by show ((p.hl.modify p.gone _).map _).Nodup; rw [modify_keys _ HLine.take (fun _ => rfl)]; exact h.nd,
  fun j l hl => ?_, fun x (hx : x ∈ p.holds) => by rw [(h.idle hj).2.2.1] at hx; simp at hx, by show ((List.filter _ p.holds).map _).Nodup; exact h.hu, fun (h3 : a.1 < 0) => ?_, fun _ => ⟨(hk.ask a hma).2, Int.le_refl _, Int.natCast_nonneg _, by show p.gone < (p.hl.modify p.gone _).length; simpa using hg⟩, .inl (h.idle hj).2.2.2.1, fun _ => ⟨p.head.take, a, ?_, ?_, rfl, rfl⟩⟩
 ·have hl' : (p.hl.modify p.gone HLine.take)[j]? = some l := hl
  rw [modify_get] at hl'
  split at hl'
  ·rename_i hji
   subst hji
   rw [Option.map_eq_some_iff] at hl'
   obtain ⟨x, hx, rfl⟩ := hl'
   rw [hhd] at hx
   obtain rfl := Option.some.inj hx
   refine ⟨hk.key, hk.ask, fun h => absurd h (Nat.lt_irrefl _), fun _ => ⟨hlt, fun _ => ⟨hb, ?_⟩, fun (h3 : a.1 < 0) => ?_⟩, fun h => absurd h (Nat.lt_irrefl _)⟩
   ·have := (hk.cur rfl).2.2 hj
    show p.head.tk + 1 = p.head.res.length + 1
    omega
   ·have := (hk.ask a hma).1; omega
  ·rename_i hji
   have hk := h.line j l hl'
   exact ⟨hk.key, hk.ask, hk.past, fun h => absurd h.symm hji, hk.later⟩
 ·have := (hk.ask a hma).1; omega
 ·show (p.hl.modify p.gone HLine.take)[p.gone]? = _
  rw [modify_get, if_pos rfl, hhd]; rfl
 ·show p.head.all[p.head.res.length]? = some a
  rw [← (hk.cur rfl).2.2 hj]
  have := congrArg List.head? ha
  rw [List.head?_drop] at this
  exact this
theorem HProc.Ok.left (h : p.Ok i n nj jl) (hj : p.job < 0) {a : Ask} {r : List Ask} (hg : p.gone < p.hl.length) (ha : p.head.all.drop p.head.tk = a :: r) : ((Eff.res p.gone true false).ap ((Eff.tk p.gone).ap p)).Ok i n nj jl := by
 have hhd := get_head hg
 have hk := h.line _ _ hhd
 have hlt : p.head.tk < p.head.all.length := by
  rcases Nat.lt_or_ge p.head.tk p.head.all.length with h | h
  ·exact h
  ·rw [List.drop_of_length_le h] at ha; cases ha
 refine ⟨h.made, by show p.gone ≤ ((p.hl.modify p.gone _).modify p.gone _).length; simpa using h.gl, by show (((p.hl.modify p.gone _).modify p.gone _).map _).Nodup; rw [modify_keys _ (HLine.fin true false) (fun _ => rfl), modify_keys _ HLine.take (fun _ => rfl)]; exact h.nd,
  fun j l hl => ?_, h.hold, h.hu, h.idle, fun (h3 : 0 ≤ p.job) => by omega, h.waits, fun (h3 : 0 ≤ p.job) => by omega⟩
 have hl' : ((p.hl.modify p.gone HLine.take).modify p.gone (HLine.fin true false))[j]? = some l := hl
 rw [modify_get, modify_get] at hl'
 by_cases hji : p.gone = j
 ·subst hji
  rw [if_pos rfl, if_pos rfl, hhd] at hl'
  obtain rfl := Option.some.inj hl'
  refine ⟨hk.key, hk.ask, fun h => absurd h (Nat.lt_irrefl _), fun _ => ⟨hlt, fun (h3 : 0 ≤ p.job) => by omega, fun _ => ?_⟩, fun h => absurd h (Nat.lt_irrefl _)⟩
  have := (hk.cur rfl).2.2 hj
  show p.head.tk + 1 = (p.head.res ++ [(true, false)]).length
  simp [this]
 ·rw [if_neg hji, if_neg hji] at hl'
  have hk := h.line j l hl'
  exact ⟨hk.key, hk.ask, hk.past, fun h => absurd h.symm hji, hk.later⟩
theorem HProc.Ok.go (h : p.Ok i n nj jl) (hj : p.job < 0) (hg : p.gone < p.hl.length) (ha : p.head.all.drop p.head.tk = []) (hc : p.head.closed = true) : ((Eff.gone).ap p).Ok i n nj jl := by
 have hhd := get_head hg
 have hk := h.line _ _ hhd
 have hle := List.drop_eq_nil_iff.1 ha
 have h1 := hk.cur rfl
 have h2 := h1.2.2 hj
 refine ⟨h.made, hg, h.nd, fun j l hl => ?_, h.hold, h.hu, h.idle, fun (h3 : 0 ≤ p.job) => by omega, h.waits, fun (h3 : 0 ≤ p.job) => by omega⟩
 have hl' : p.hl[j]? = some l := hl
 have hkj := h.line j l hl'
 refine ⟨hkj.key, hkj.ask, fun (h3 : j < p.gone + 1) => ?_, fun (h3 : j = p.gone + 1) => ?_, fun (h3 : p.gone + 1 < j) => hkj.later (by omega)⟩
 ·rcases Nat.lt_or_ge j p.gone with h4 | h4
  ·exact hkj.past h4
  ·have : j = p.gone := by omega
   subst this
   rw [hhd] at hl'
   obtain rfl := Option.some.inj hl'
   exact ⟨hc, by omega, by omega⟩
 ·have := hkj.later (by omega)
  rw [this.1, this.2.1]
  exact ⟨Nat.zero_le _, fun (h3 : 0 ≤ p.job) => by omega, fun _ => rfl⟩
theorem HProc.Ok.line' (h : p.Ok i n nj jl) {x : HLine} (hx : x.key ∉ p.hl.map HLine.key) (hk : 0 ≤ x.key.1 ∧ x.key.1 < n ∧ 0 ≤ x.key.2) (ha : ∀ a ∈ x.all, 0 ≤ a.1 ∧ a.1 < nj) (h0 : x.tk = 0) (h1 : x.res = []) (h2 : x.broken = false) : ((Eff.line x).ap p).Ok i n nj jl := by
 refine ⟨h.made, by show p.gone ≤ (p.hl ++ [x]).length; have := h.gl; simp; omega, ?_, fun j l hl => ?_, h.hold, h.hu, h.idle, fun h3 => ?_, h.waits, fun h3 => ?_⟩
 ·show ((p.hl ++ [x]).map _).Nodup
  rw [List.map_append, List.nodup_append]
  refine ⟨h.nd, by simp, fun a ha b hb e => ?_⟩
  simp at hb
  subst hb e
  exact hx ha
 ·have hl' : (p.hl ++ [x])[j]? = some l := hl
  rcases Nat.lt_or_ge j p.hl.length with hj | hj
  ·rw [List.getElem?_append_left hj] at hl'
   exact h.line j l hl'
  ·rw [List.getElem?_append_right hj] at hl'
   have : j = p.hl.length := by
    have := (List.getElem?_eq_some_iff.1 hl').1
    simp at this; omega
   subst this
   simp at hl'
   subst hl'
   have hgl := h.gl
   refine ⟨hk, ha, fun (h3 : p.hl.length < p.gone) => by omega, fun (h3 : p.hl.length = p.gone) => ⟨by omega, fun (h4 : 0 ≤ p.job) => ?_, fun _ => by rw [h0, h1]; rfl⟩, fun _ => ⟨h0, h1, h2⟩⟩
   have := (h.busy h4).2.2.2; omega
 ·have := h.busy h3
  exact ⟨this.1, this.2.1, this.2.2.1, by show p.gone < (p.hl ++ [x]).length; simp; omega⟩
 ·obtain ⟨l, a, g1, g2⟩ := h.doing h3
  exact ⟨l, a, by show (p.hl ++ [x])[p.gone]? = _; rw [List.getElem?_append_left (List.getElem?_eq_some_iff.1 g1).1]; exact g1, g2⟩
theorem HProc.Ok.ask' (h : p.Ok i n nj jl) {k : Key} {a : Ask} (hc : ∀ l ∈ p.hl, l.key = k → l.closed = false) (ha : 0 ≤ a.1 ∧ a.1 < nj) : ((Eff.ask k a).ap p).Ok i n nj jl := by
 have hlen : (updh k (HLine.asked a) p.hl).length = p.hl.length := by simp [updh]
 refine ⟨h.made, by show p.gone ≤ (updh k (HLine.asked a) p.hl).length; rw [hlen]; exact h.gl, by show ((updh k (HLine.asked a) p.hl).map _).Nodup; rw [updh_keys _ (HLine.asked a) (fun _ => rfl)]; exact h.nd, fun j l hl => ?_, h.hold, h.hu, h.idle,
  fun h3 => by have := h.busy h3; exact ⟨this.1, this.2.1, this.2.2.1, by show p.gone < (updh k (HLine.asked a) p.hl).length; rw [hlen]; exact this.2.2.2⟩, h.waits, fun h3 => ?_⟩
 ·have hl' : (updh k (HLine.asked a) p.hl)[j]? = some l := hl
  rw [updh_get, Option.map_eq_some_iff] at hl'
  obtain ⟨x, hx, rfl⟩ := hl'
  have hk := h.line j x hx
  split
  ·rename_i hxk
   have hcl := hc x (List.mem_of_getElem? hx) hxk
   refine ⟨hk.key, fun b hb => ?_, fun h3 => ?_, fun h3 => ⟨?_, (hk.cur h3).2.1, (hk.cur h3).2.2⟩, fun h3 => hk.later h3⟩
   ·rcases List.mem_append.1 hb with hb | hb
    ·exact hk.ask b hb
    ·obtain rfl := List.mem_singleton.1 hb; exact ha
   ·rw [(hk.past h3).1] at hcl; cases hcl
   ·have := (hk.cur h3).1
    show x.tk ≤ (x.all ++ [a]).length
    simp; omega
  ·exact hk
 ·obtain ⟨l, b, g1, g2, g3⟩ := h.doing h3
  refine ⟨if l.key = k then HLine.asked a l else l, b, by show (updh k (HLine.asked a) p.hl)[p.gone]? = _; rw [updh_get, g1]; rfl, ?_, g3⟩
  split
  ·show (l.all ++ [a])[l.res.length]? = _
   rw [List.getElem?_append_left (List.getElem?_eq_some_iff.1 g2).1]; exact g2
  ·exact g2
theorem HProc.Ok.close' (h : p.Ok i n nj jl) {k : Key} : ((Eff.close k).ap p).Ok i n nj jl := by
 have hlen : (updh k HLine.shut p.hl).length = p.hl.length := by simp [updh]
 refine ⟨h.made, by show p.gone ≤ (updh k HLine.shut p.hl).length; rw [hlen]; exact h.gl, by show ((updh k HLine.shut p.hl).map _).Nodup; rw [updh_keys _ HLine.shut (fun _ => rfl)]; exact h.nd, fun j l hl => ?_, h.hold, h.hu, h.idle,
  fun h3 => by have := h.busy h3; exact ⟨this.1, this.2.1, this.2.2.1, by show p.gone < (updh k HLine.shut p.hl).length; rw [hlen]; exact this.2.2.2⟩, h.waits, fun h3 => ?_⟩
 ·have hl' : (updh k HLine.shut p.hl)[j]? = some l := hl
  rw [updh_get, Option.map_eq_some_iff] at hl'
  obtain ⟨x, hx, rfl⟩ := hl'
  have hk := h.line j x hx
  split
  ·exact ⟨hk.key, hk.ask, fun h3 => ⟨rfl, (hk.past h3).2⟩, hk.cur, hk.later⟩
  ·exact hk
 ·obtain ⟨l, b, g1, g2, g3⟩ := h.doing h3
  refine ⟨if l.key = k then HLine.shut l else l, b, by show (updh k HLine.shut p.hl)[p.gone]? = _; rw [updh_get, g1]; rfl, ?_, g3⟩
  split <;> exact g2
end
end Go.Wt
