/-
  The rules once more, with what a tactic finds by itself left out: shorter texts. Generic: nothing of the program is named here. No condition.
  Parts of a function's code, served by theorems of their own. Generic: nothing of the program is named here. No condition.
  Loops and rounds, with a quicker search for what is kept. Generic: nothing of the program is named here. No condition.
  Laws: what the arguments of a law read as, deep data as Lean data; the same reading behind the call. Generic: nothing of the program is named here. No condition.
  Laws: from a contract to what a statement of a law asks. Generic: nothing of the program is named here. No condition.
  Closed facts on the types, fields and functions of this seat, each reckoned by the kernel (printed by a program: facts.py). No condition.
  A row that a slice owns, opened and shut. Generic: nothing of the program is named here. No condition.
  Rows of elements: rows that are only read (Row), rows that are owned, wherever they begin (VR); contracts over many resources as one. Generic: nothing of the program is named here. No condition.
-/
import Derived.Test.YtjgiaohieadeiaaGreatM3
import Derived.ProofKit
import Derived.OpenShut
import Derived.Test.YtjgiaohieadeiaaGreatRows
import Derived.ArgAppend
set_option linter.unusedVariables false
set_option linter.unusedSimpArgs false
namespace Go.Ck
open Go
section
variable {P : Program} {e : Env} {h : SH} {ty : TypeId}
theorem v_ld {T : TypeId} {x : Operand} {p : Addr} {v : Value} (hx : e.ev? x = some (.pointer (some p))) (hT : Ld1 P T) (ha : At h p v := by repeat (first | exact at_here (rd_cl rfl) | exact at_here (by assumption) | apply at_there)) : Vop P e h (.load T x) ty v := v_load hx hT ha
end
section
variable {c : Cx} {ops : Array Oper} {K : Act → World → Prop} {rest : List Oper} {e : Env} {h h' hr : SH}
theorem st_v {d : Nat} {op : Op} {ty : TypeId} {pos : String} {after : Array Edge} {v : Value} (hv : Vop c.P e h op ty v) (hn : St c ops K rest ((d, v) :: e) h) (hd : d < c.n := by exact ltn rfl) :
    St c ops K (⟨some d, op, ty, pos, after, none⟩ :: rest) e h := st_val hv hd hn
theorem st_vg {d g gd : Nat} {op : Op} {ty : TypeId} {pos : String} {after : Array Edge} {v : Value} {want : Bool} (hg : ((ops[g]?).bind (·.dst)) = some gd) (hgv : e.get? gd = some (.bool want))
    (hv : Vop c.P e h op ty v) (hn : St c ops K rest ((d, v) :: e) h) (hd : d < c.n := by exact ltn rfl) : St c ops K (⟨some d, op, ty, pos, after, some (g, want)⟩ :: rest) e h := st_valg hg hgv hv hd hn
theorem st_sk {d g gd : Nat} {op : Op} {ty : TypeId} {pos : String} {after : Array Edge} {want b : Bool} (hg : ((ops[g]?).bind (·.dst)) = some gd) (hgv : e.get? gd = some (.bool b)) (hb : b = !want)
    (hn : St c ops K rest ((d, undef) :: e) h) (hd : d < c.n := by exact ltn rfl) : St c ops K (⟨some d, op, ty, pos, after, some (g, want)⟩ :: rest) e h := st_skip hg hgv hb hd hn
theorem st_cl {d : Nat} {f : Operand} {az : Array Operand} {ts : Array TypeId} {ty : TypeId} {pos : String} {after : Array Edge} {k : FuncId} {fi cp : Array Value} {vs : List Value} {args : Array Value} {hf : SH} {R : Value → SH → Prop}
    (hv : e.ev? f = some (.func (.func k) fi cp)) (has : az.toList.mapM e.ev? = some vs) (hE : Enters c.P k) (ha : fi ++ vs.toArray ++ cp = args) (ct : Ct c.P k args hf R)
    (hn : ∀ v h', R v h' → St c ops K rest ((d, v) :: e) (h' ++ hr)) (pk : Pk h hf hr := by repeat (first | exact Pk.nil | (apply Pk.cons; (repeat (first | exact Sel.here | apply Sel.there))))) (hd : d < c.n := by exact ltn rfl) :
    St c ops K (⟨some d, .call { callee := .value f, args := az, argTypes := ts }, ty, pos, after, none⟩ :: rest) e h := st_call hv has hE ha ct pk hd hn
theorem st_clr {d : Nat} {f : Operand} {az : Array Operand} {ts : Array TypeId} {ty : TypeId} {pos : String} {after : Array Edge} {k : FuncId} {fi cp : Array Value} {vs : List Value} {args : Array Value} {hf : SH} {v : Value}
    (hv : e.ev? f = some (.func (.func k) fi cp)) (has : az.toList.mapM e.ev? = some vs) (hE : Enters c.P k) (ha : fi ++ vs.toArray ++ cp = args) (ct : Reads c.P k args hf v)
    (hn : St c ops K rest ((d, v) :: e) h) (pk : Pk h hf hr := by repeat (first | exact Pk.nil | (apply Pk.cons; (repeat (first | exact Sel.here | apply Sel.there))))) (hd : d < c.n := by exact ltn rfl) :
    St c ops K (⟨some d, .call { callee := .value f, args := az, argTypes := ts }, ty, pos, after, none⟩ :: rest) e h := st_callr hv has hE ha ct pk hd hn
theorem st_clrg {d g gd : Nat} {f : Operand} {az : Array Operand} {ts : Array TypeId} {ty : TypeId} {pos : String} {after : Array Edge} {k : FuncId} {fi cp : Array Value} {vs : List Value} {args : Array Value} {hf : SH} {v : Value} {want : Bool}
    (hg : ((ops[g]?).bind (·.dst)) = some gd) (hgv : e.get? gd = some (.bool want))
    (hv : e.ev? f = some (.func (.func k) fi cp)) (has : az.toList.mapM e.ev? = some vs) (hE : Enters c.P k) (ha : fi ++ vs.toArray ++ cp = args) (ct : Reads c.P k args hf v)
    (hn : St c ops K rest ((d, v) :: e) h) (pk : Pk h hf hr := by repeat (first | exact Pk.nil | (apply Pk.cons; (repeat (first | exact Sel.here | apply Sel.there))))) (hd : d < c.n := by exact ltn rfl) :
    St c ops K (⟨some d, .call { callee := .value f, args := az, argTypes := ts }, ty, pos, after, some (g, want)⟩ :: rest) e h := st_callrg hg hgv hv has hE ha ct pk hd hn
theorem st_sto {T E : TypeId} {x y : Operand} {ty : TypeId} {pos : String} {after : Array Edge} {b off : Nat} {l l' : List Value} {v : Value} {k : SH}
    (hx : e.ev? x = some (.pointer (some ⟨b, off, none⟩))) (hy : e.ev? y = some v) (hT : Sz c.P T 1) (hn : St c ops K rest e (pt b (cl l' E) :: k))
    (hv : v.oneCell' = true := by first | rfl | assumption) (hs : Sel h (pt b (cl l E)) k := by repeat (first | exact Sel.here | apply Sel.there)) (ho : off < l.length := by first | exact ltn rfl | assumption | (simp only [List.length_append, ints_length, bools_length]; omega) | omega) (hl : SetAt l off v l' := by first | (repeat (first | exact SetAt.zero | apply SetAt.succ)); done | exact SetAt.set) :
    St c ops K (⟨none, .store T x y, ty, pos, after, none⟩ :: rest) e h := st_store hx hy hT hv hs ho hl hn
theorem st_stoW {T E : TypeId} {x y : Operand} {ty : TypeId} {pos : String} {after : Array Edge} {b n : Nat} {l vs : List Value} {k : SH}
    (hx : e.ev? x = some (.pointer (some ⟨b, 0, none⟩))) (hy : e.ev? y = some (.agg vs.toArray)) (hT : Sz c.P T n) (hn : vs.length = n) (h1 : vs.all Value.oneCell' = true)
    (hnx : St c ops K rest e (pt b (cl vs E) :: k)) (hs : Sel h (pt b (cl l E)) k := by repeat (first | exact Sel.here | apply Sel.there)) (hl : l.length = vs.length := by exact rfl) :
    St c ops K (⟨none, .store T x y, ty, pos, after, none⟩ :: rest) e h := st_storeW hx hy hT hn (ones h1) hs hl hnx
theorem st_alc {d : Nat} {T ty : TypeId} {pos : String} {after : Array Edge} {zs : List Value} (hA : Al c.P T zs)
    (hn : ∀ b, St c ops K rest ((d, .pointer (some ⟨b, 0, none⟩)) :: e) (pt b (cl zs T) :: h)) (hd : d < c.n := by exact ltn rfl) : St c ops K (⟨some d, .alloc T, ty, pos, after, none⟩ :: rest) e h := st_alloc hA hd hn
theorem st_bx {d : Nat} {T ty : TypeId} {x : Operand} {pos : String} {after : Array Edge} {v : Value} {zs : List Value} (hx : e.ev? x = some v) (hz : v.cells = zs.toArray)
    (hn : ∀ b, St c ops K rest ((d, .pointer (some ⟨b, 0, none⟩)) :: e) (pt b (cl zs T) :: h)) (hd : d < c.n := by exact ltn rfl) : St c ops K (⟨some d, .box T x, ty, pos, after, none⟩ :: rest) e h := st_box hx hz hd hn

/-! In a region that draws its order. -/
variable {pre : Nat → Bool} {hC : SH} {t : Ord}
theorem dr_v {i d : Nat} {op : Op} {ty : TypeId} {pos : String} {after : Array Edge} {v : Value} (hi : ops[i]? = some ⟨some d, op, ty, pos, after, none⟩) (hv : Vop c.P e hC op ty v)
    (hn : DrL c ops pre hC K t ((d, v) :: e) h) (hs : Sub hC h := by repeat (first | exact Sub.refl _ | exact Sub.nil _ | refine Sub.sel (by repeat (first | exact Sel.here | apply Sel.there)) ?_ | apply Sub.cons)) (hd : d < c.n := by exact ltn rfl) : DrL c ops pre hC K (.cons (i, true) t) e h := dr_val hi hs hv hd hn
theorem dr_vg {i d g gd : Nat} {op : Op} {ty : TypeId} {pos : String} {after : Array Edge} {v : Value} {want : Bool} (hi : ops[i]? = some ⟨some d, op, ty, pos, after, some (g, want)⟩) (hg : ((ops[g]?).bind (·.dst)) = some gd) (hgv : e.get? gd = some (.bool want))
    (hv : Vop c.P e hC op ty v) (hn : DrL c ops pre hC K t ((d, v) :: e) h) (hs : Sub hC h := by repeat (first | exact Sub.refl _ | exact Sub.nil _ | refine Sub.sel (by repeat (first | exact Sel.here | apply Sel.there)) ?_ | apply Sub.cons)) (hd : d < c.n := by exact ltn rfl) : DrL c ops pre hC K (.cons (i, true) t) e h := dr_valg hi hg hgv hs hv hd hn
theorem dr_sk {i d g gd : Nat} {op : Op} {ty : TypeId} {pos : String} {after : Array Edge} {want b : Bool} (hi : ops[i]? = some ⟨some d, op, ty, pos, after, some (g, want)⟩) (hg : ((ops[g]?).bind (·.dst)) = some gd) (hgv : e.get? gd = some (.bool b)) (hb : b = !want)
    (hn : DrL c ops pre hC K t ((d, undef) :: e) h) (hs : Sub hC h := by repeat (first | exact Sub.refl _ | exact Sub.nil _ | refine Sub.sel (by repeat (first | exact Sel.here | apply Sel.there)) ?_ | apply Sub.cons)) (hd : d < c.n := by exact ltn rfl) : DrL c ops pre hC K (.cons (i, true) t) e h := dr_skip hi hg hgv hb hs hd hn
theorem dr_skn {i g gd : Nat} {op : Op} {ty : TypeId} {pos : String} {after : Array Edge} {want b : Bool} (hi : ops[i]? = some ⟨none, op, ty, pos, after, some (g, want)⟩) (hg : ((ops[g]?).bind (·.dst)) = some gd) (hgv : e.get? gd = some (.bool b)) (hb : b = !want)
    (hn : DrL c ops pre hC K t e h) (hs : Sub hC h := by repeat (first | exact Sub.refl _ | exact Sub.nil _ | refine Sub.sel (by repeat (first | exact Sel.here | apply Sel.there)) ?_ | apply Sub.cons)) : DrL c ops pre hC K (.cons (i, true) t) e h := dr_skip_none hi hg hgv hb hs hn
theorem dp_v {i d : Nat} {op : Op} {ty : TypeId} {pos : String} {after : Array Edge} {v : Value} (hi : ops[i]? = some ⟨some d, op, ty, pos, after, none⟩) (hv : Vop c.P e [] op ty v)
    (hn : DrL c ops pre hC K t ((d, v) :: e) h) (hd : d < c.n := by exact ltn rfl) : DrL c ops pre hC K (.pure i t) e h := drp_val hi hv hd hn
theorem dp_vg {i d g gd : Nat} {op : Op} {ty : TypeId} {pos : String} {after : Array Edge} {v : Value} {want : Bool} (hi : ops[i]? = some ⟨some d, op, ty, pos, after, some (g, want)⟩) (hg : ((ops[g]?).bind (·.dst)) = some gd) (hgv : e.get? gd = some (.bool want))
    (hv : Vop c.P e [] op ty v) (hn : DrL c ops pre hC K t ((d, v) :: e) h) (hd : d < c.n := by exact ltn rfl) : DrL c ops pre hC K (.pure i t) e h := drp_valg hi hg hgv hv hd hn
theorem dp_sk {i d g gd : Nat} {op : Op} {ty : TypeId} {pos : String} {after : Array Edge} {want b : Bool} (hi : ops[i]? = some ⟨some d, op, ty, pos, after, some (g, want)⟩) (hg : ((ops[g]?).bind (·.dst)) = some gd) (hgv : e.get? gd = some (.bool b)) (hb : b = !want)
    (hn : DrL c ops pre hC K t ((d, undef) :: e) h) (hd : d < c.n := by exact ltn rfl) : DrL c ops pre hC K (.pure i t) e h := drp_skip hi hg hgv hb hd hn
theorem dp_skn {i g gd : Nat} {op : Op} {ty : TypeId} {pos : String} {after : Array Edge} {want b : Bool} (hi : ops[i]? = some ⟨none, op, ty, pos, after, some (g, want)⟩) (hg : ((ops[g]?).bind (·.dst)) = some gd) (hgv : e.get? gd = some (.bool b)) (hb : b = !want)
    (hn : DrL c ops pre hC K t e h) : DrL c ops pre hC K (.pure i t) e h := drp_skip_none hi hg hgv hb hn
theorem dr_clr {i d : Nat} {f : Operand} {az : Array Operand} {ts : Array TypeId} {ty : TypeId} {pos : String} {after : Array Edge} {k : FuncId} {fi cp : Array Value} {vs : List Value} {args : Array Value} {hf hr : SH} {v : Value}
    (hi : ops[i]? = some ⟨some d, .call { callee := .value f, args := az, argTypes := ts }, ty, pos, after, none⟩)
    (hv : e.ev? f = some (.func (.func k) fi cp)) (has : az.toList.mapM e.ev? = some vs) (hE : Enters c.P k) (ha : fi ++ vs.toArray ++ cp = args) (ct : Reads c.P k args hf v)
    (hn : DrL c ops pre hC K t ((d, v) :: e) h) (hs : Sub hC h := by repeat (first | exact Sub.refl _ | exact Sub.nil _ | refine Sub.sel (by repeat (first | exact Sel.here | apply Sel.there)) ?_ | apply Sub.cons)) (pk : Pk hC hf hr := by repeat (first | exact Pk.nil | (apply Pk.cons; (repeat (first | exact Sel.here | apply Sel.there))))) (hd : d < c.n := by exact ltn rfl) : DrL c ops pre hC K (.cons (i, true) t) e h := dr_call hi hs hv has hE ha ct pk hd hn
theorem dr_clrg {i d g gd : Nat} {f : Operand} {az : Array Operand} {ts : Array TypeId} {ty : TypeId} {pos : String} {after : Array Edge} {k : FuncId} {fi cp : Array Value} {vs : List Value} {args : Array Value} {hf hr : SH} {v : Value} {want : Bool}
    (hi : ops[i]? = some ⟨some d, .call { callee := .value f, args := az, argTypes := ts }, ty, pos, after, some (g, want)⟩) (hg : ((ops[g]?).bind (·.dst)) = some gd) (hgv : e.get? gd = some (.bool want))
    (hv : e.ev? f = some (.func (.func k) fi cp)) (has : az.toList.mapM e.ev? = some vs) (hE : Enters c.P k) (ha : fi ++ vs.toArray ++ cp = args) (ct : Reads c.P k args hf v)
    (hn : DrL c ops pre hC K t ((d, v) :: e) h) (hs : Sub hC h := by repeat (first | exact Sub.refl _ | exact Sub.nil _ | refine Sub.sel (by repeat (first | exact Sel.here | apply Sel.there)) ?_ | apply Sub.cons)) (pk : Pk hC hf hr := by repeat (first | exact Pk.nil | (apply Pk.cons; (repeat (first | exact Sel.here | apply Sel.there))))) (hd : d < c.n := by exact ltn rfl) : DrL c ops pre hC K (.cons (i, true) t) e h := dr_callg hi hg hgv hs hv has hE ha ct pk hd hn
theorem dr_nx {i : Nat} {h0 : SH} (hn : DrL c ops pre hC K t e h) (hs : pre i = true → Sub hC h0 → Sub hC h := by first | (intro hq; cases hq; done) | (intro _ hs; exact hs) | (intro _ hs; refine Sub.trans hs ?_; (repeat (first | exact Sub.refl _ | exact Sub.nil _ | refine Sub.sel (by repeat (first | exact Sel.here | apply Sel.there)) ?_ | apply Sub.cons)); done) | (intro _ _; (repeat (first | exact Sub.refl _ | exact Sub.nil _ | refine Sub.sel (by repeat (first | exact Sel.here | apply Sel.there)) ?_ | apply Sub.cons)); done)) : St c ops (EffK c ops pre hC K i t h0) [] e h := dr_nextR hs hn
/-! Remembered slots. -/
def kept (e : Env) : List Nat → Option Env
  | [] => some []
  | k :: ks => match e.get? k with
    | some v => (kept e ks).map ((k, v) :: ·)
    | none => none
theorem kept_sub {e : Env} : ∀ {ks : List Nat} {e' : Env}, kept e ks = some e' → Env.sub e' e
  | [], e', h => by simp only [kept, Option.some.injEq] at h; subst h; trivial
  | k :: ks, e', h => by
    simp only [kept] at h
    cases hg : e.get? k with
    | none => rw [hg] at h; cases h
    | some v =>
      rw [hg] at h
      simp only [Option.map_eq_some_iff] at h
      obtain ⟨t, h1, rfl⟩ := h
      exact ⟨hg, kept_sub h1⟩
theorem nx_kp (ks : List Nat) {e' : Env} (hk : kept e ks = some e') (hn : Nx c K e' h) : Nx c K e h := hn.weaken (kept_sub hk)
variable {Q : Exit → Act → World → Prop}
theorem cd_lp {σ : Type} {x : Code} (E : σ → Env) (H : σ → SH) (Φ : σ → Prop) (μ : σ → Nat) (s0 : σ) (h0 : Φ s0) (hr : ∀ s, Φ s → Cd c x (Exit.then (Again c E H Φ μ s) Q) (E s) (H s))
    (hs : Env.sub (E s0) e := by repeat (first | exact trivial | refine ⟨rfl, ?_⟩)) (hp : Sub (H s0) h := by repeat (first | exact Sub.refl _ | exact Sub.nil _ | refine Sub.sel (by repeat (first | exact Sel.here | apply Sel.there)) ?_ | apply Sub.cons)) : Cd c (.loop x) Q e h := cd_loop E H Φ μ s0 h0 hs hp hr
theorem xt_ag {σ : Type} {E : σ → Env} {H : σ → SH} {Φ : σ → Prop} {μ : σ → Nat} {s : σ} (s' : σ) (h1 : Φ s') (h2 : μ s' < μ s) (hs : Env.sub (E s') e := by repeat (first | exact trivial | refine ⟨rfl, ?_⟩)) (hp : Sub (H s') h := by repeat (first | exact Sub.refl _ | exact Sub.nil _ | refine Sub.sel (by repeat (first | exact Sel.here | apply Sel.there)) ?_ | apply Sub.cons)) :
    Xt c .normal (Exit.then (Again c E H Φ μ s) Q) e h := xt_again s' h1 h2 hs hp
theorem cd_dh {id : Nat} {l : List Oper} (p : Ord) (pre : Nat → Bool) (hm : c.P.follows .mixedOrders = true)
    (hB : (noSelDef l.toArray && tbOk l.toArray (Region.before l.toArray) && okPi l.toArray pre (Region.before l.toArray) p (Array.replicate l.toArray.size false) && decide (p.length = l.toArray.size)) = true)
    (hd : DrL c l.toArray pre h (Q .normal) p e h) : Cd c (.region id l.toArray true) Q e h := cd_drawh p pre hm hB hd
end
section
variable {P : Program} {n : Nat} {w0 : World} {fn : Func} {e : Env} {h hr h' : SH} {R : Value → SH → Prop} {r : Option Nat} {vs : List Value}
theorem xt_rt (hv : e.res? fn.results.toList = some vs) (hR : R (outOf vs) h') (hp : Sub (h' ++ hr) h := by first | (rw [List.nil_append]; (repeat (first | exact Sub.refl _ | apply Sub.cons)); done) | (repeat (first | exact Sub.refl _ | exact Sub.nil _ | refine Sub.sel (by repeat (first | exact Sel.here | apply Sel.there)) ?_ | apply Sub.cons))) : Xt ⟨P, r, n, [], w0⟩ .ret (bodyPost P fn (Post w0 hr R)) e h := xt_ret hv hR hp
theorem xt_en (hv : e.res? fn.results.toList = some vs) (hR : R (outOf vs) h') (hp : Sub (h' ++ hr) h := by first | (rw [List.nil_append]; (repeat (first | exact Sub.refl _ | apply Sub.cons)); done) | (repeat (first | exact Sub.refl _ | exact Sub.nil _ | refine Sub.sel (by repeat (first | exact Sel.here | apply Sel.there)) ?_ | apply Sub.cons))) : Xt ⟨P, r, n, [], w0⟩ .normal (bodyPost P fn (Post w0 hr R)) e h := xt_end hv hR hp
end
end Go.Ck
namespace Go.Ck
open Go
def fbody (f : Func) : Code := f.body.getD .skip
def cdl : Code → Code
  | .seq a _ => a
  | .block _ x => x
  | .loop x => x
  | .scope x => x
  | .cond _ a _ => a
  | c => c
def cdr : Code → Code
  | .seq _ b => b
  | .cond _ _ b => b
  | c => c
section
variable {c : Cx} {Q : Exit → Act → World → Prop} {e e' : Env} {h h' : SH} {ex : Exit} {x : Code}
theorem xt_use (hx : Xt c ex Q e' h') (hs : Env.sub e' e := by repeat (first | exact trivial | refine ⟨rfl, ?_⟩)) (hp : Sub h' h := by repeat (first | exact Sub.refl _ | exact Sub.nil _ | refine Sub.sel (by repeat (first | exact Sel.here | apply Sel.there)) ?_ | apply Sub.cons)) : Xt c ex Q e h :=
  fun a w hk hh hw => hx a w (hk.weaken hs) (hh.sub hp) hw
theorem cd_use (hx : Cd c x Q e' h') (hs : Env.sub e' e := by repeat (first | exact trivial | refine ⟨rfl, ?_⟩)) (hp : Sub h' h := by repeat (first | exact Sub.refl _ | exact Sub.nil _ | refine Sub.sel (by repeat (first | exact Sel.here | apply Sel.there)) ?_ | apply Sub.cons)) : Cd c x Q e h :=
  fun a w hk hh hw => hx a w (hk.weaken hs) (hh.sub hp) hw
theorem cd_pt {b : Nat} {l l' : List Value} {T : TypeId} (he : l = l') (hx : Cd c x Q e (pt b (cl l' T) :: h')) (s : Sel h (pt b (cl l T)) h' := by repeat (first | exact Sel.here | apply Sel.there)) : Cd c x Q e h := fun a w hk hh hw => hx a w hk (by subst he; exact hh.sel s) hw
theorem xt_pt {b : Nat} {l l' : List Value} {T : TypeId} (he : l = l') (hx : Xt c ex Q e (pt b (cl l' T) :: h')) (s : Sel h (pt b (cl l T)) h' := by repeat (first | exact Sel.here | apply Sel.there)) : Xt c ex Q e h := fun a w hk hh hw => hx a w hk (by subst he; exact hh.sel s) hw
theorem st_vecshape {ops : Array Oper} {K : Act → World → Prop} {rest : List Oper} {v : Value} {E : TypeId} {sz n : Nat} {l : List Value} (s : Sel h (vec v E sz n l) h') (hc : ∀ a cp, v = .slice a n cp → (0 < n → ∃ b, a = some ⟨b, 0, none⟩) → St c ops K rest e h) : St c ops K rest e h := fun a w hk hh hw => by
  rcases vec_form (hh.sel s).1 with ⟨h1, h2, _⟩ | ⟨b, cp, h1, _⟩
  · exact hc none 0 (by rw [h1, h2]) (fun h => by omega) a w hk hh hw
  · exact hc _ cp h1 (fun _ => ⟨b, rfl⟩) a w hk hh hw
theorem holds_pack {w : World} {h k hr : SH} (p : Pk h k hr) (hh : Holds w h) : Holds w (Res.star k :: hr) := star_iff.2 (hh.pk p)
theorem cd_pack {hr : SH} (k : SH) (hx : Cd c x Q e (Res.star k :: hr)) (p : Pk h k hr := by repeat (first | exact Pk.nil | (apply Pk.cons; (repeat (first | exact Sel.here | apply Sel.there))))) : Cd c x Q e h := fun a w hk hh hw => hx a w hk (holds_pack p hh) hw
theorem xt_pack {hr : SH} (k : SH) (hx : Xt c ex Q e (Res.star k :: hr)) (p : Pk h k hr := by repeat (first | exact Pk.nil | (apply Pk.cons; (repeat (first | exact Sel.here | apply Sel.there))))) : Xt c ex Q e h := fun a w hk hh hw => hx a w hk (holds_pack p hh) hw
end

/-! ## A guard that has no value: skipped -/
section
variable {c : Cx} {ops : Array Oper} {K : Act → World → Prop} {rest : List Oper} {e : Env} {h hC : SH} {pre : Nat → Bool} {t : Ord}
theorem yields_undef {g gd : Nat} (hg : ((ops[g]?).bind (·.dst)) = some gd) (hgv : e.get? gd = some undef) {n : Nat} {ds : List Deferred} {a : Act} (hk : Kn n ds a e) : yielded ops a.tmps g = none := by
  unfold yielded
  cases ho : ops[g]? with
  | none => simp [ho] at hg
  | some o => simp only [ho, Option.bind_some] at hg; simp [hg, hk.get gd _ hgv, undef]
theorem st_sku {d g gd : Nat} {op : Op} {ty : TypeId} {pos : String} {after : Array Edge} {want : Bool} (hg : ((ops[g]?).bind (·.dst)) = some gd) (hgv : e.get? gd = some undef)
    (hn : St c ops K rest ((d, undef) :: e) h) (hd : d < c.n := by exact ltn rfl) : St c ops K (⟨some d, op, ty, pos, after, some (g, want)⟩ :: rest) e h := fun a w hk hh hs => by
  unfold LsW
  rw [if_neg (by simp [Region.wanted, yields_undef hg hgv hk])]
  exact hn _ w (hk.put undef hd) hh hs
theorem dr_sku {i d g gd : Nat} {op : Op} {ty : TypeId} {pos : String} {after : Array Edge} {want : Bool} (hi : ops[i]? = some ⟨some d, op, ty, pos, after, some (g, want)⟩) (hg : ((ops[g]?).bind (·.dst)) = some gd) (hgv : e.get? gd = some undef)
    (hn : DrL c ops pre hC K t ((d, undef) :: e) h) (hs : Sub hC h := by repeat (first | exact Sub.refl _ | exact Sub.nil _ | refine Sub.sel (by repeat (first | exact Sel.here | apply Sel.there)) ?_ | apply Sub.cons)) (hd : d < c.n := by exact ltn rfl) : DrL c ops pre hC K (.cons (i, true) t) e h :=
  ⟨hs, _, undef, hi, fun a hk => .inr ⟨by simp [Region.wanted, yields_undef hg hgv hk], rfl⟩, _, fun a hk => hk.put undef hd, hn⟩
theorem dp_sku {i d g gd : Nat} {op : Op} {ty : TypeId} {pos : String} {after : Array Edge} {want : Bool} (hi : ops[i]? = some ⟨some d, op, ty, pos, after, some (g, want)⟩) (hg : ((ops[g]?).bind (·.dst)) = some gd) (hgv : e.get? gd = some undef)
    (hn : DrL c ops pre hC K t ((d, undef) :: e) h) (hd : d < c.n := by exact ltn rfl) : DrL c ops pre hC K (.pure i t) e h :=
  ⟨_, undef, hi, fun a hk => .inr ⟨by simp [Region.wanted, yields_undef hg hgv hk], rfl⟩, _, fun a hk => hk.put undef hd, hn⟩
end
end Go.Ck
namespace Go.Ck
open Go
section
variable {c : Cx} {Q : Exit → Act → World → Prop} {e : Env} {h : SH}
theorem cd_lq {σ : Type} {x : Code} (E : σ → Env) (H : σ → SH) (Φ : σ → Prop) (μ : σ → Nat) (s0 : σ) (h0 : Φ s0) (hr : ∀ s, Φ s → Cd c x (Exit.then (Again c E H Φ μ s) Q) (E s) (H s))
    (hs : Env.sub (E s0) e := by repeat (first | exact trivial | refine ⟨rfl, ?_⟩)) (hp : Sub (H s0) h := by (repeat (refine Sub.sel (by repeat (first | exact Sel.here | apply Sel.there)) ?_)); (repeat apply Sub.cons); first | exact Sub.refl _ | exact Sub.nil _) : Cd c (.loop x) Q e h := cd_loop E H Φ μ s0 h0 hs hp hr
theorem xt_aq {σ : Type} {E : σ → Env} {H : σ → SH} {Φ : σ → Prop} {μ : σ → Nat} {s : σ} (s' : σ) (h1 : Φ s') (h2 : μ s' < μ s) (hs : Env.sub (E s') e := by repeat (first | exact trivial | refine ⟨rfl, ?_⟩)) (hp : Sub (H s') h := by (repeat (refine Sub.sel (by repeat (first | exact Sel.here | apply Sel.there)) ?_)); (repeat apply Sub.cons); first | exact Sub.refl _ | exact Sub.nil _) :
    Xt c .normal (Exit.then (Again c E H Φ μ s) Q) e h := xt_again s' h1 h2 hs hp
end
/-- A law's end. -/
theorem xt_law {P : Program} {r : Option Nat} {n : Nat} {w0 : World} {fn : Func} {e : Env} {h hr : SH} {S : Res} (hv : e.res? fn.results.toList = some [.bool true]) (hp : Sub ([S] ++ hr) h) : Xt ⟨P, r, n, [], w0⟩ .ret (bodyPost P fn (Post w0 hr fun u h' => u = .bool true ∧ h' = [S])) e h := xt_ret hv ⟨rfl, rfl⟩ hp
end Go.Ck
namespace Go.Ck
open Go Go.RowKit Go.ChangeShapes Go.WideShapes
/-- Types of data. -/
inductive Ty where
  | int (k : IntKind)
  | bool
  | str
  | slice (t : Ty)
  | struct (fs : List Ty)
  | any (n : Nat) (L : List TypeId)
mutual
def Ty.D : Ty → Type
  | .int _ => Int
  | .bool => Bool
  | .str => ByteArray
  | .slice t => List (Ty.D t)
  | .struct fs => Ty.Ds fs
  | .any _ _ => Unit
def Ty.Ds : List Ty → Type
  | [] => Unit
  | t :: ts => Ty.D t × Ty.Ds ts
end
mutual
def Ty.sz : Ty → Nat
  | .int _ => 1
  | .bool => 1
  | .str => 1
  | .slice _ => 1
  | .struct fs => Ty.szs fs
  | .any n _ => n
def Ty.szs : List Ty → Nat
  | [] => 0
  | t :: ts => Ty.sz t + Ty.szs ts
end
mutual
/-- The cells are that data, where r holds. -/
def Rep (r : Res) : (t : Ty) → List Value → t.D → Prop
  | .int k, cs, n => cs = [.int k n] ∧ (Lit.int k n).wf = true
  | .bool, cs, b => cs = [.bool b]
  | .str, cs, s => cs = [.string s] ∧ s.size ≤ maxLen
  | .slice t, cs, l => ∃ a cap, cs = [.slice a (List.length l) cap] ∧ List.length l ≤ cap ∧ cap ≤ maxLen ∧ (a = none → cap = 0) ∧
      (l = ([] : List t.D) ∨ ∃ b o, a = some ⟨b, o, none⟩ ∧ ∀ (i : Nat) (x : t.D), @getElem? (List t.D) Nat t.D _ _ l i = some x → ∃ us : List Value, us.length = t.sz ∧ Rds r b (o + i * t.sz) us ∧ Rep r t us x)
  | .struct fs, cs, x => Reps r fs cs x
  | .any n _, cs, _ => cs.length = n
def Reps (r : Res) : (fs : List Ty) → List Value → Ty.Ds fs → Prop
  | [], cs, _ => cs = []
  | t :: ts, cs, (x, xs) => ∃ u us, cs = u ++ us ∧ u.length = t.sz ∧ Rep r t u x ∧ Reps r ts us xs
end
/-- These types have parts of these types alone. -/
def closedB (P : Program) (L : List TypeId) : Bool := L.all fun t => match P.underlying t with
  | some (.int _) => true
  | some .bool => true
  | some .string => true
  | some (.slice e) => L.contains e && Nat.ble 1 (P.cellsOf e)
  | some (.struct fs) => fs.toList.all fun f => L.contains f.type
  | _ => false
def structB (P : Program) (t : TypeId) : Bool := match P.underlying t with
  | some (.struct _) => true
  | _ => false
mutual
/-- The program's type is that one. -/
def fitB (P : Program) : Ty → TypeId → Bool
  | .int k, t => match P.underlying t with | some (.int k') => decide (k' = k) | _ => false
  | .bool, t => match P.underlying t with | some .bool => true | _ => false
  | .str, t => match P.underlying t with | some .string => true | _ => false
  | .slice u, t => match P.underlying t with | some (.slice e) => Nat.beq (P.cellsOf e) u.sz && Nat.ble 1 u.sz && fitB P u e | _ => false
  | .struct fs, t => match P.underlying t with | some (.struct gs) => Nat.beq (P.cellsOf t) (Ty.szs fs) && fitsB P fs gs.toList 0 | _ => false
  | .any n L, t => closedB P L && L.contains t && Nat.beq (P.cellsOf t) n && structB P t
def fitsB (P : Program) : List Ty → List Field → Nat → Bool
  | [], [], _ => true
  | t :: ts, f :: fs, off => Nat.beq f.offset off && Nat.beq (P.cellsOf f.type) t.sz && fitB P t f.type && fitsB P ts fs (off + t.sz)
  | _, _, _ => false
end

section
variable {H : Type} {enc : TypeId × Value → H} {P : Program} {W : World} {held : Bool} {sp : Nat → Bool}
theorem cells?_at {base : Nat} {a : Addr} {n : Nat} {cs : List Value} (h : W.cells? base a n = some cs) : cs.length = n ∧ ∀ i, (hi : i < cs.length) → W.cell? (a.add i) = some cs[i] := by
  obtain ⟨_, h1, h2⟩ := World.cells?_some h
  exact ⟨h1, fun i hi => by rw [h2 i (by omega), List.getElem?_eq_getElem hi]⟩
theorem cell_spot {a : Addr} {v : Value} (h : W.cell? a = some v) : a.spot = none ∧ a.block < W.heap.size := by
  unfold World.cell? at h
  cases hq : W.heap[a.block]? with
  | none => rw [hq] at h; cases h
  | some o =>
    rw [hq] at h
    have hb := (Array.getElem?_eq_some_iff.1 hq).1
    cases o with
    | cells c t f =>
      by_cases hs : a.spot.isSome = true
      · simp [hs] at h
      · exact ⟨by simpa using hs, hb⟩
    | _ => cases h
mutual
/-- What is read off is data. -/
theorem rep_of : (ty : Ty) → ∀ (t : TypeId) (n : Nat) (cs : List Value) (x : DataW H × List MemPlace), fitB P ty t = true → DataW.trod enc P W 0 (fun _ => true) held n t cs = some x → cs.length = ty.sz ∧ ∃ y, Rep (old W) ty cs y
  | .int k, t, n, cs, x, hf, h => by
    unfold fitB at hf
    cases hu : P.underlying t with
    | none => rw [hu] at hf; cases hf
    | some d =>
      rw [hu] at hf
      cases d <;> try (cases hf; done)
      rename_i k'
      have hk : k' = k := by simpa using hf
      subst hk
      obtain ⟨m, h1, h2, h3⟩ := DataW.trod_int hu h
      subst h1
      exact ⟨rfl, m, rfl, h3⟩
  | .bool, t, n, cs, x, hf, h => by
    unfold fitB at hf
    cases hu : P.underlying t with
    | none => rw [hu] at hf; cases hf
    | some d =>
      rw [hu] at hf
      cases d <;> try (cases hf; done)
      obtain ⟨m, h1, h2⟩ := DataW.trod_bool hu h
      subst h1
      exact ⟨rfl, m, rfl⟩
  | .str, t, n, cs, x, hf, h => by
    unfold fitB at hf
    cases hu : P.underlying t with
    | none => rw [hu] at hf; cases hf
    | some d =>
      rw [hu] at hf
      cases d <;> try (cases hf; done)
      obtain ⟨s, h1, h2, h3⟩ := DataW.trod_string hu h
      subst h1
      exact ⟨rfl, s, rfl, h3⟩
  | .slice u, t, n, cs, x, hf, h => by
    unfold fitB at hf
    cases hu : P.underlying t with
    | none => rw [hu] at hf; cases hf
    | some d =>
      rw [hu] at hf
      cases d <;> try (cases hf; done)
      rename_i e
      simp only [Bool.and_eq_true] at hf
      obtain ⟨⟨hc, hp⟩, he⟩ := hf
      have hc : P.cellsOf e = u.sz := Nat.eq_of_beq_eq_true hc
      have hp : 1 ≤ u.sz := Nat.le_of_ble_eq_true hp
      rcases DataW.trod_slice hu h with ⟨h0, _⟩ | ⟨a, len, cap, elems, rest, m, _, h1, _, hb, hl, hm, hlen, hel, hsp, _⟩
      · subst h0; exact ⟨rfl, [], none, 0, rfl, Nat.le_refl _, Nat.zero_le _, fun _ => rfl, .inl rfl⟩
      · subst h1
        have each : ∀ i, i < len → ∃ us y, us.length = u.sz ∧ (∀ j, (hj : j < us.length) → W.cell? ((a.add (i * u.sz)).add j) = some us[j]) ∧ Rep (old W) u us y := fun i hi => by
          have h2 := hel i hi
          rw [List.getElem?_eq_getElem (by omega), hc, Option.bind_eq_some_iff] at h2
          obtain ⟨us, h3, h4⟩ := h2
          obtain ⟨h5, h6⟩ := cells?_at h3
          obtain ⟨_, y, h7⟩ := rep_of u e m us _ he h4
          exact ⟨us, y, h5, h6, h7⟩
        obtain ⟨ys, hys⟩ : ∃ ys : List u.D, ys.length = len ∧ ∀ i y, ys[i]? = some y → ∃ us : List Value, us.length = u.sz ∧ (∀ j, (hj : j < us.length) → W.cell? ((a.add (i * u.sz)).add j) = some us[j]) ∧ Rep (old W) u us y := by
          have key : ∀ k, k ≤ len → ∃ ys : List u.D, ys.length = k ∧ ∀ i y, ys[i]? = some y → ∃ us : List Value, us.length = u.sz ∧ (∀ j, (hj : j < us.length) → W.cell? ((a.add (i * u.sz)).add j) = some us[j]) ∧ Rep (old W) u us y := by
            intro k
            induction k with
            | zero => exact fun _ => ⟨[], rfl, fun i y h => by simp at h⟩
            | succ k ih =>
              intro hk
              obtain ⟨ys, h1, h2⟩ := ih (by omega)
              obtain ⟨us, y, h3, h4, h5⟩ := each k (by omega)
              refine ⟨ys ++ [y], by simp [h1], fun i z hz => ?_⟩
              rcases Nat.lt_or_ge i ys.length with hlt | hge
              · rw [List.getElem?_append_left hlt] at hz; exact h2 i z hz
              · have hi : i = ys.length := by
                  have := (List.getElem?_eq_some_iff.1 hz).1; simp at this; omega
                subst hi
                rw [List.getElem?_append_right (Nat.le_refl _)] at hz
                simp at hz
                subst hz
                rw [h1]; exact ⟨us, h3, h4, h5⟩
          exact key len (Nat.le_refl _)
        obtain ⟨hyl, hy⟩ := hys
        refine ⟨rfl, ys, some a, cap, by rw [hyl], by rw [hyl]; exact hl, hm, (fun h => by cases h), ?_⟩
        by_cases h0 : len = 0
        · exact .inl (List.eq_nil_of_length_eq_zero (by omega))
        · right
          have hspot : a.spot = none := by
            obtain ⟨us, y, h3, h4, _⟩ := each 0 (by omega)
            have := h4 0 (by omega)
            simp only [Nat.zero_mul, Addr.add, if_true] at this
            exact (cell_spot this).1
          obtain ⟨ab, ao, asp⟩ := a
          simp only at hspot
          subst hspot
          refine ⟨ab, ao, rfl, fun i y hi => ?_⟩
          obtain ⟨us, h3, h4, h5⟩ := hy i y hi
          refine ⟨us, h3, fun j hj => ?_, h5⟩
          have := h4 j hj
          rw [Addr.add_lit, Addr.add_lit] at this
          exact rd_old (cell_spot this).2 this
  | .struct fs, t, n, cs, x, hf, h => by
    unfold fitB at hf
    cases hu : P.underlying t with
    | none => rw [hu] at hf; cases hf
    | some d =>
      rw [hu] at hf
      cases d <;> try (cases hf; done)
      rename_i gs
      simp only [Bool.and_eq_true] at hf
      obtain ⟨hc, hfs⟩ := hf
      have hc : P.cellsOf t = Ty.szs fs := Nat.eq_of_beq_eq_true hc
      obtain ⟨xs, m, _, _, hcl, hxl, hfe⟩ := DataW.trod_struct hu h
      refine ⟨by rw [hcl, hc]; rfl, ?_⟩
      have := reps_of fs gs.toList 0 m cs xs (by rw [hcl, hc]; omega) hfs (fun i f hi => hfe i f (by simpa using hi)) (by simpa using hxl)
      obtain ⟨y, hy⟩ := this
      rw [List.drop_zero] at hy
      exact ⟨y, hy⟩
  | .any k L, t, n, cs, x, hf, h => by
    unfold fitB at hf
    simp only [Bool.and_eq_true] at hf
    obtain ⟨⟨⟨_, _⟩, hc⟩, hs⟩ := hf
    unfold structB at hs
    cases hu : P.underlying t with
    | none => rw [hu] at hs; cases hs
    | some d =>
      rw [hu] at hs
      cases d <;> try (cases hs; done)
      obtain ⟨xs, m, _, _, hcl, _, _⟩ := DataW.trod_struct hu h
      have hl : cs.length = k := by rw [hcl]; exact Nat.eq_of_beq_eq_true hc
      exact ⟨hl, (), hl⟩
theorem reps_of : (fs : List Ty) → ∀ (gs : List Field) (off n : Nat) (cs : List Value) (xs : List (DataW H × List MemPlace)), cs.length = off + Ty.szs fs → fitsB P fs gs off = true →
    (∀ (i : Nat) (f : Field), gs[i]? = some f → DataW.trod enc P W 0 (fun _ => true) held n f.type ((cs.drop f.offset).take (P.cellsOf f.type)) = xs[i]?) → xs.length = gs.length → ∃ y, Reps (old W) fs (cs.drop off) y
  | [], gs, off, n, cs, xs, hl, hf, _, _ => ⟨(), by
      show cs.drop off = []
      apply List.drop_eq_nil_of_le
      simp only [Ty.szs] at hl; omega⟩
  | t :: ts, [], off, n, cs, xs, hl, hf, _, _ => by simp [fitsB] at hf
  | t :: ts, g :: gs, off, n, cs, xs, hl, hf, hx, hxl => by
    unfold fitsB at hf
    simp only [Bool.and_eq_true] at hf
    obtain ⟨⟨⟨h1, h2⟩, h3⟩, h4⟩ := hf
    have h1 : g.offset = off := Nat.eq_of_beq_eq_true h1
    have h2 : P.cellsOf g.type = t.sz := Nat.eq_of_beq_eq_true h2
    have h5 := hx 0 g rfl
    cases xs with
    | nil => simp at hxl
    | cons x xs =>
      rw [h1, h2] at h5
      obtain ⟨h6, y, h7⟩ := rep_of t g.type n _ x h3 h5
      have hl' : cs.length = off + (t.sz + Ty.szs ts) := hl
      obtain ⟨ys, h8⟩ := reps_of ts gs (off + t.sz) n cs xs (by omega) h4 (fun i f hi => by have := hx (i + 1) f (by simpa using hi); simpa using this) (by simpa using hxl)
      refine ⟨(y, ys), (cs.drop off).take t.sz, cs.drop (off + t.sz), ?_, h6, h7, h8⟩
      rw [← List.drop_drop, List.take_append_drop]
end

/-- The same is read behind. -/
theorem cells?_same {W' : World} (hb : ∀ b, b < W.heap.size → W'.heap[b]? = W.heap[b]?) {base : Nat} {a : Addr} {n : Nat} {cs : List Value} (h : W.cells? base a n = some cs) : W'.cells? base a n = some cs := by
  cases n with
  | zero => unfold World.cells? at h ⊢; simpa using h
  | succ n =>
    obtain ⟨h1, h2⟩ := cells?_at h
    have h3 := h2 0 (by omega)
    have hbl : a.block < W.heap.size := by
      have := (cell_spot h3).2
      simpa [Addr.add] using this
    have : ∀ i, W'.cell? (a.add i) = W.cell? (a.add i) := fun i => World.cell?_of_block (hb _ (by unfold Addr.add; split <;> exact hbl))
    unfold World.cells? at h ⊢
    simp only [this]; exact h
theorem mapM_same {α β : Type} {f g : α → Option β} : ∀ {l : List α} {ys : List β}, l.mapM f = some ys → (∀ x y, x ∈ l → y ∈ ys → f x = some y → g x = some y) → l.mapM g = some ys
  | [], ys, h, _ => by simpa using h
  | a :: l, ys, h, hfg => by
    simp only [List.mapM_cons, Option.bind_eq_bind, Option.bind_eq_some_iff, Option.pure_def, Option.some.injEq] at h
    obtain ⟨y, h1, zs, h2, rfl⟩ := h
    simp only [List.mapM_cons, Option.bind_eq_bind, Option.bind_eq_some_iff, Option.pure_def, Option.some.injEq]
    exact ⟨y, hfg a y (by simp) (by simp) h1, zs, mapM_same h2 fun x z hx hz => hfg x z (by simp [hx]) (by simp [hz]), rfl⟩
/-- Whatever parts it has. -/
theorem reread_any {W' : World} (hb : ∀ b, b < W.heap.size → W'.heap[b]? = W.heap[b]?) {L : List TypeId} (hL : closedB P L = true) : ∀ (n : Nat) (t : TypeId) (cs : List Value) (x : DataW H × List MemPlace), t ∈ L → DataW.trod enc P W 0 (fun _ => true) held n t cs = some x →
    (∀ p ∈ x.2, sp p.block = true) → DataW.trod enc P W' 0 sp held n t cs = some x
  | 0, t, cs, x, ht, h, _ => by simp [DataW.trod] at h
  | n + 1, t, cs, x, ht, h, hsp => by
    have hcl := List.all_eq_true.1 hL t ht
    cases hu : P.underlying t with
    | none => rw [hu] at hcl; cases hcl
    | some d =>
      rw [hu] at hcl
      cases d with
      | int k =>
        obtain ⟨q, rfl, rfl, h3⟩ := DataW.trod_int hu h
        simp [DataW.trod, hu, h3]
      | bool =>
        obtain ⟨q, rfl, rfl⟩ := DataW.trod_bool hu h
        simp [DataW.trod, hu]
      | string =>
        obtain ⟨q, rfl, rfl, h3⟩ := DataW.trod_string hu h
        simp [DataW.trod, hu, h3]
      | slice e =>
        simp only [Bool.and_eq_true] at hcl
        have he : e ∈ L := by simpa using hcl.1
        have hp : 1 ≤ P.cellsOf e := Nat.le_of_ble_eq_true hcl.2
        rcases DataW.trod_slice hu h with ⟨rfl, rfl⟩ | ⟨a, len, cap, _, _, _, _, rfl, _⟩
        · simp [DataW.trod, hu]
        · unfold DataW.trod at h ⊢
          rw [hu] at h ⊢
          simp only at h ⊢
          split at h
          · rename_i hcond
            rw [if_pos hcond]
            simp only [if_true, Option.bind_eq_some_iff, Option.map_eq_some_iff] at h
            obtain ⟨elems, h1, rest, h2, rfl⟩ := h
            simp only [List.mem_append, List.mem_flatMap] at hsp
            have hstep : ∀ i y, y ∈ elems ++ rest → (W.cells? 0 (a.add (i * P.cellsOf e)) (P.cellsOf e)).bind (DataW.trod enc P W 0 (fun _ => true) held n e) = some y → (W'.cells? 0 (a.add (i * P.cellsOf e)) (P.cellsOf e)).bind (DataW.trod enc P W' 0 sp held n e) = some y := fun i y hy hb' => by
              rw [Option.bind_eq_some_iff] at hb' ⊢
              obtain ⟨us, g1, g2⟩ := hb'
              exact ⟨us, cells?_same hb g1, reread_any hb hL n e us y he g2 fun p hp' => hsp p (.inr ⟨y, List.mem_append.1 hy, hp'⟩)⟩
            have e1 : (List.range len).mapM (fun i => (W'.cells? 0 (a.add (i * P.cellsOf e)) (P.cellsOf e)).bind (DataW.trod enc P W' 0 sp held n e)) = some elems := mapM_same h1 fun i y _ hy g => hstep i y (List.mem_append_left _ hy) g
            have e2 : (List.range (cap - len)).mapM (fun j => (W'.cells? 0 (a.add ((len + j) * P.cellsOf e)) (P.cellsOf e)).bind (DataW.trod enc P W' 0 sp held n e)) = some rest := mapM_same h2 fun i y _ hy g => hstep (len + i) y (List.mem_append_right _ hy) g
            rw [e1]
            simp only [Option.bind_some]
            by_cases hs : sp a.block = true
            · rw [if_pos hs, e2]; rfl
            · rw [if_neg hs]
              have hr : rest = [] := by
                cases rest with
                | nil => rfl
                | cons y ys =>
                  exfalso
                  apply hs
                  have := hsp (MemPlace.cell a.block a.off) (.inl ?_)
                  · exact this
                  · unfold MemPlace.row
                    refine List.mem_map.2 ⟨0, ?_, by simp [Addr.add]⟩
                    rw [List.mem_range]
                    simp only [List.length_cons]
                    exact Nat.mul_pos (by omega) (by omega)
              subst hr; rfl
          · cases h
      | struct gs =>
        rw [List.all_eq_true] at hcl
        unfold DataW.trod at h ⊢
        rw [hu] at h ⊢
        simp only at h ⊢
        split at h
        · rename_i hl
          rw [if_pos hl]
          rw [Option.map_eq_some_iff] at h ⊢
          obtain ⟨xs, h1, rfl⟩ := h
          refine ⟨xs, mapM_same h1 fun g y hg hy h2 => ?_, rfl⟩
          exact reread_any hb hL n g.type _ y (by simpa using hcl g hg) h2 fun p hp => hsp p (List.mem_flatMap.2 ⟨y, hy, hp⟩)
        · cases h
      | _ => cases hcl
mutual
theorem reread_of {W' : World} (hb : ∀ b, b < W.heap.size → W'.heap[b]? = W.heap[b]?) : (ty : Ty) → ∀ (t : TypeId) (n : Nat) (cs : List Value) (x : DataW H × List MemPlace), fitB P ty t = true → DataW.trod enc P W 0 (fun _ => true) held n t cs = some x →
    (∀ p ∈ x.2, sp p.block = true) → DataW.trod enc P W' 0 sp held n t cs = some x
  | .int k, t, n, cs, x, hf, h, _ => by
    unfold fitB at hf
    cases n with
    | zero => simp [DataW.trod] at h
    | succ n =>
      cases hu : P.underlying t with
      | none => rw [hu] at hf; cases hf
      | some d =>
        rw [hu] at hf
        cases d <;> try (cases hf; done)
        obtain ⟨q, rfl, rfl, h3⟩ := DataW.trod_int hu h
        simp [DataW.trod, hu, h3]
  | .bool, t, n, cs, x, hf, h, _ => by
    unfold fitB at hf
    cases n with
    | zero => simp [DataW.trod] at h
    | succ n =>
      cases hu : P.underlying t with
      | none => rw [hu] at hf; cases hf
      | some d =>
        rw [hu] at hf
        cases d <;> try (cases hf; done)
        obtain ⟨q, rfl, rfl⟩ := DataW.trod_bool hu h
        simp [DataW.trod, hu]
  | .str, t, n, cs, x, hf, h, _ => by
    unfold fitB at hf
    cases n with
    | zero => simp [DataW.trod] at h
    | succ n =>
      cases hu : P.underlying t with
      | none => rw [hu] at hf; cases hf
      | some d =>
        rw [hu] at hf
        cases d <;> try (cases hf; done)
        obtain ⟨q, rfl, rfl, h3⟩ := DataW.trod_string hu h
        simp [DataW.trod, hu, h3]
  | .slice u, t, n, cs, x, hf, h, hsp => by
    unfold fitB at hf
    cases hu : P.underlying t with
    | none => rw [hu] at hf; cases hf
    | some d =>
      rw [hu] at hf
      cases d <;> try (cases hf; done)
      rename_i e
      simp only [Bool.and_eq_true] at hf
      obtain ⟨⟨hc, hp⟩, he⟩ := hf
      have hc : P.cellsOf e = u.sz := Nat.eq_of_beq_eq_true hc
      have hp : 1 ≤ u.sz := Nat.le_of_ble_eq_true hp
      cases n with
      | zero => simp [DataW.trod] at h
      | succ n =>
        rcases DataW.trod_slice hu h with ⟨rfl, rfl⟩ | ⟨a, len, cap, _, _, _, _, rfl, _⟩
        · simp [DataW.trod, hu]
        · unfold DataW.trod at h ⊢
          rw [hu] at h ⊢
          simp only at h ⊢
          split at h
          · rename_i hcond
            rw [if_pos hcond]
            simp only [if_true, Option.bind_eq_some_iff, Option.map_eq_some_iff] at h
            obtain ⟨elems, h1, rest, h2, rfl⟩ := h
            simp only [List.mem_append, List.mem_flatMap] at hsp
            have hstep : ∀ i y, y ∈ elems ++ rest → (W.cells? 0 (a.add (i * P.cellsOf e)) (P.cellsOf e)).bind (DataW.trod enc P W 0 (fun _ => true) held n e) = some y → (W'.cells? 0 (a.add (i * P.cellsOf e)) (P.cellsOf e)).bind (DataW.trod enc P W' 0 sp held n e) = some y := fun i y hy hb' => by
              rw [Option.bind_eq_some_iff] at hb' ⊢
              obtain ⟨us, g1, g2⟩ := hb'
              exact ⟨us, cells?_same hb g1, reread_of hb u e n us y he g2 fun p hp' => hsp p (.inr ⟨y, List.mem_append.1 hy, hp'⟩)⟩
            have e1 : (List.range len).mapM (fun i => (W'.cells? 0 (a.add (i * P.cellsOf e)) (P.cellsOf e)).bind (DataW.trod enc P W' 0 sp held n e)) = some elems := mapM_same h1 fun i y _ hy g => hstep i y (List.mem_append_left _ hy) g
            have e2 : (List.range (cap - len)).mapM (fun j => (W'.cells? 0 (a.add ((len + j) * P.cellsOf e)) (P.cellsOf e)).bind (DataW.trod enc P W' 0 sp held n e)) = some rest := mapM_same h2 fun i y _ hy g => hstep (len + i) y (List.mem_append_right _ hy) g
            rw [e1]
            simp only [Option.bind_some]
            by_cases hs : sp a.block = true
            · rw [if_pos hs, e2]; rfl
            · rw [if_neg hs]
              have hr : rest = [] := by
                cases rest with
                | nil => rfl
                | cons y ys =>
                  exfalso
                  apply hs
                  have := hsp (MemPlace.cell a.block a.off) (.inl ?_)
                  · exact this
                  · unfold MemPlace.row
                    rw [hc]
                    refine List.mem_map.2 ⟨0, ?_, by simp [Addr.add]⟩
                    rw [List.mem_range]
                    simp only [List.length_cons]
                    exact Nat.mul_pos (by omega) (by omega)
              subst hr; rfl
          · cases h
  | .struct fs, t, n, cs, x, hf, h, hsp => by
    unfold fitB at hf
    cases hu : P.underlying t with
    | none => rw [hu] at hf; cases hf
    | some d =>
      rw [hu] at hf
      cases d <;> try (cases hf; done)
      rename_i gs
      simp only [Bool.and_eq_true] at hf
      obtain ⟨hc, hfs⟩ := hf
      cases n with
      | zero => simp [DataW.trod] at h
      | succ n =>
        unfold DataW.trod at h ⊢
        rw [hu] at h ⊢
        simp only at h ⊢
        split at h
        · rename_i hl
          rw [if_pos hl]
          rw [Option.map_eq_some_iff] at h ⊢
          obtain ⟨xs, h1, rfl⟩ := h
          refine ⟨xs, ?_, rfl⟩
          exact rereads_of hb fs gs.toList 0 n cs xs hfs h1 fun y hy p hp => hsp p (List.mem_flatMap.2 ⟨y, hy, hp⟩)
        · cases h
  | .any k L, t, n, cs, x, hf, h, hsp => by
    unfold fitB at hf
    simp only [Bool.and_eq_true] at hf
    obtain ⟨⟨⟨hL, ht⟩, _⟩, _⟩ := hf
    exact reread_any hb hL n t cs x (by simpa using ht) h hsp
theorem rereads_of {W' : World} (hb : ∀ b, b < W.heap.size → W'.heap[b]? = W.heap[b]?) : (fs : List Ty) → ∀ (gs : List Field) (off n : Nat) (cs : List Value) (xs : List (DataW H × List MemPlace)), fitsB P fs gs off = true →
    gs.mapM (fun f => DataW.trod enc P W 0 (fun _ => true) held n f.type ((cs.drop f.offset).take (P.cellsOf f.type))) = some xs → (∀ y ∈ xs, ∀ p ∈ y.2, sp p.block = true) →
    gs.mapM (fun f => DataW.trod enc P W' 0 sp held n f.type ((cs.drop f.offset).take (P.cellsOf f.type))) = some xs
  | [], [], off, n, cs, xs, hf, h, _ => by simpa using h
  | [], g :: gs, off, n, cs, xs, hf, h, _ => by simp [fitsB] at hf
  | t :: ts, [], off, n, cs, xs, hf, h, _ => by simp [fitsB] at hf
  | t :: ts, g :: gs, off, n, cs, xs, hf, h, hsp => by
    unfold fitsB at hf
    simp only [Bool.and_eq_true] at hf
    obtain ⟨⟨⟨h1, h2⟩, h3⟩, h4⟩ := hf
    simp only [List.mapM_cons, Option.bind_eq_bind, Option.bind_eq_some_iff, Option.pure_def, Option.some.injEq] at h ⊢
    obtain ⟨y, g1, zs, g2, rfl⟩ := h
    exact ⟨y, reread_of hb t g.type n _ y h3 g1 (hsp y (by simp)), zs, rereads_of hb ts gs (off + t.sz) n cs zs h4 g2 fun z hz => hsp z (by simp [hz]), rfl⟩
end
end
end Go.Ck
namespace Go.Ck
open Go Go.RowKit Go.ChangeShapes Go.WideShapes
theorem holds_old (W : World) : Holds W [old W] := ⟨fun _ _ => rfl, fun _ _ h => h, trivial⟩
/-- All that lay lies as it lay. -/
structure Kept (W w' : World) : Prop extends Same W w' where
  block : ∀ b, b < W.heap.size → w'.heap[b]? = W.heap[b]?
theorem kept_of {W w' : World} {h : SH} (hh : Holds w' h) (hs : Sub [old W] h) (hS : Same W w') : Kept W w' := ⟨hS, (hh.sub hs).1⟩
theorem Kept.frame {W w' : World} (h : Kept W w') (may : MemPlace → Prop) : W.keptBut w' may := by
  refine ⟨h.os, h.output, fun i hi => ?_⟩
  rw [h.block i hi]
  cases hq : W.heap[i]? with
  | none => rfl
  | some o => cases o <;> first | exact ⟨rfl, rfl, rfl, fun _ _ => rfl⟩ | exact Or.inr ⟨rfl, rfl⟩ | rfl
theorem ct_calls {P : Program} {k : FuncId} {args : Array Value} {W : World} {R : Value → SH → Prop} (h : Ct P k args [old W] R) (hR : ∀ v h', R v h' → v = .bool true ∧ Sub [old W] h') : Calls P k args W fun e w' => e = .returned (.bool true) ∧ Kept W w' :=
  (h [] W (by simpa using holds_old W)).mono fun e w' ⟨v, h', he, hr, hH, hS⟩ => by
    obtain ⟨h1, h2⟩ := hR v h' hr
    exact ⟨by rw [he, h1], kept_of (by simpa using hH) h2 hS⟩
def fitAll (P : Program) : List Ty → List TypeId → Bool
  | [], [] => true
  | t :: ts, u :: us => fitB P t u && fitAll P ts us
  | _, _ => false
section
variable {H : Type} {enc : TypeId × Value → H} {P : Program} {W W' : World} {sp : Nat → Bool}
theorem rereadAll (hb : ∀ b, b < W.heap.size → W'.heap[b]? = W.heap[b]?) : ∀ {tys : List Ty} {ts : List TypeId} {vs : List Value} {ds : List (DataW H)} {ps : List MemPlace}, fitAll P tys ts = true → DataW.TrodAll enc P W 0 (fun _ => true) true ts vs ds ps → (∀ p ∈ ps, sp p.block = true) →
    DataW.TrodAll enc P W' 0 sp true ts vs ds ps
  | [], [], [], [], ps, _, h, _ => h
  | [], [], [], _ :: _, ps, _, h, _ => h.elim
  | [], [], _ :: _, _, ps, _, h, _ => h.elim
  | [], _ :: _, _, _, _, hf, _, _ => by simp [fitAll] at hf
  | _ :: _, [], _, _, _, hf, _, _ => by simp [fitAll] at hf
  | ty :: tys, t :: ts, [], _, ps, _, h, _ => h.elim
  | ty :: tys, t :: ts, _ :: _, [], ps, _, h, _ => h.elim
  | ty :: tys, t :: ts, v :: vs, d :: ds, ps, hf, h, hp => by
    unfold fitAll at hf
    rw [Bool.and_eq_true] at hf
    obtain ⟨p, q, ⟨n, h1⟩, h2, rfl⟩ := h
    exact ⟨p, q, ⟨n, reread_of hb ty t n _ _ hf.1 h1 fun x hx => hp x (List.mem_append_left _ hx)⟩, rereadAll hb hf.2 h2 fun x hx => hp x (List.mem_append_right _ hx), rfl⟩
theorem law_post {f : Func} {s : ChangeSpec} {args : Array Value} {ds gs : List (DataW H)} {before : List MemPlace} {tb : TypeId} {tys : List Ty} (hW : DataW.Whole enc P f.params.toList s.vars false W args.toList ds gs before)
    (hv : s.vars = []) (hr : f.resultTypes = #[tb]) (htb : P.underlying tb = some .bool) (hf : fitAll P tys f.params.toList = true) (hfn : s.fn H (ds ++ gs) = { results := [.lit (.bool true)], args := ds }) (hk : Kept W W') :
    s.post enc P f false true false false W args (.bool true) W' := by
  have hW' := hW
  obtain ⟨p, q, hA, hV, rfl, hfz, hnd⟩ := hW
  rw [hv] at hV
  obtain ⟨rfl, rfl⟩ := trodVars_none hV
  have hres : ∀ (b : Nat) (sp : Nat → Bool) (hd : Bool), DataW.TrodAll enc P W' b sp hd f.resultTypes.toList ((Value.bool true).resultList f.resultTypes.size) (s.fn H (ds ++ [])).results [] := fun b sp hd => by
    rw [hr, hfn]
    exact trodAll_mk1 (shut_bool htb _)
  have hargs : ∀ sp : Nat → Bool, (∀ x ∈ p ++ [], sp x.block = true) → DataW.TrodAll enc P W' 0 sp true f.params.toList args.toList (s.fn H (ds ++ [])).args p := fun sp hsp => by
    rw [hfn]
    exact rereadAll hk.block hf hA fun x hx => hsp x (List.mem_append_left _ hx)
  have hvars : ∀ sp : Nat → Bool, DataW.TrodVars enc P W' sp s.vars (s.fn H (ds ++ [])).vars [] := fun sp => by rw [hv, hfn]; rfl
  have hold : ∀ x ∈ p ++ [], (fun b => decide (b < W.heap.size)) x.block = true := fun x hx => by simpa using hW'.lt x hx
  refine ⟨ds, [], p ++ [], [], p, [], hW', hres _ _ _, hargs _ hold, hvars _, World.keptBut_mono (fun x hx => ⟨hx, .inr (List.mem_append.1 hx)⟩) (hk.frame (· ∈ p ++ [])), fun _ => ?_⟩
  refine ⟨ok_one hr rfl (okWide_bool_mk htb _), _, _, ([] ++ p) ++ [], ⟨[] ++ p, [], trodAll_append (hargs _ fun _ _ => rfl) (hres _ _ _), hvars _, rfl, fun b off hm => ?_, fun ha => ?_⟩, fun x hx _ => by simpa using hx⟩
  · have hm' : MemPlace.cell b off ∈ p ++ [] := by simpa using hm
    rw [hk.fz _ (show b < W.heap.size from of_decide_eq_true (hold _ hm'))]
    exact hfz b off hm'
  · simpa using hnd ha
/-- An argument's value, by its cells. -/
theorem arg_rep {ty : Ty} {t : TypeId} {v : Value} {d : DataW H} {ps : List MemPlace} (hf : fitB P ty t = true) (h : DataW.Trod enc P W 0 (fun _ => true) true t v d ps) : ∃ y, Rep (old W) ty v.cells.toList y := by
  obtain ⟨n, hn⟩ := h
  exact (rep_of ty t n _ _ hf hn).2
theorem one_of_cells {v u : Value} (h : v.cells.toList = [u]) (hv : v.oneCell' = true) : v = u := by
  cases v <;> first | (simp [Value.cells] at h; exact h) | (simp [Value.oneCell'] at hv)
theorem okWide_one {t : TypeId} {v : Value} {b : Nat} (hs : (match P.underlying t with | some (.struct _) | some (.array _ _) => false | some _ => true | none => false) = true) (h : Value.okWide P W .any b t v) : v.oneCell' = true := by
  unfold Value.okWide at h
  cases hu : P.underlying t with
  | none => rw [hu] at hs; cases hs
  | some d =>
    rw [hu] at h hs
    cases d <;> first
      | (cases hs; done)
      | (cases v <;> first | rfl | (unfold Cell.okWide at h; rw [hu] at h; simp only [Cell.ok, hu] at h))
theorem okWide_agg {t : TypeId} {v : Value} {b : Nat} {fs : Array Field} (hs : P.underlying t = some (.struct fs)) (h : Value.okWide P W .any b t v) : v = .agg v.cells := by
  obtain ⟨cs, h1, _⟩ := okWide_struct hs h
  rw [h1]; rfl
end
end Go.Ck
namespace Go.Proofs.YtjgiaohieadeiaaGreat
open Go.Ck
namespace Fx
theorem mixed : Tryz.prog.follows .mixedOrders = true := by kernel_rfl
theorem sz3 : Sz Tryz.prog 3 1 := fun _ => by kernel_rfl
theorem sz4 : Sz Tryz.prog 4 1 := fun _ => by kernel_rfl
theorem sz9 : Sz Tryz.prog 9 1 := fun _ => by kernel_rfl
theorem sz22 : Sz Tryz.prog 22 1 := fun _ => by kernel_rfl
theorem sz23 : Sz Tryz.prog 23 1 := fun _ => by kernel_rfl
theorem sz24 : Sz Tryz.prog 24 1 := fun _ => by kernel_rfl
theorem sz25 : Sz Tryz.prog 25 1 := fun _ => by kernel_rfl
theorem sz26 : Sz Tryz.prog 26 1 := fun _ => by kernel_rfl
theorem sz27 : Sz Tryz.prog 27 1 := fun _ => by kernel_rfl
theorem sz29 : Sz Tryz.prog 29 7 := fun _ => by kernel_rfl
theorem sz32 : Sz Tryz.prog 32 1 := fun _ => by kernel_rfl
theorem sz36 : Sz Tryz.prog 36 2 := fun _ => by kernel_rfl
theorem sz57 : Sz Tryz.prog 57 1 := fun _ => by kernel_rfl
theorem sz68 : Sz Tryz.prog 68 2 := fun _ => by kernel_rfl
theorem sz71 : Sz Tryz.prog 71 2 := fun _ => by kernel_rfl
theorem sz73 : Sz Tryz.prog 73 1 := fun _ => by kernel_rfl
theorem sz75 : Sz Tryz.prog 75 2 := fun _ => by kernel_rfl
theorem sz90 : Sz Tryz.prog 90 1 := fun _ => by kernel_rfl
theorem sz91 : Sz Tryz.prog 91 1 := fun _ => by kernel_rfl
theorem sz93 : Sz Tryz.prog 93 6 := fun _ => by kernel_rfl
theorem sz100 : Sz Tryz.prog 100 1 := fun _ => by kernel_rfl
theorem sz120 : Sz Tryz.prog 120 1 := fun _ => by kernel_rfl
theorem sz136 : Sz Tryz.prog 136 5 := fun _ => by kernel_rfl
theorem sz143 : Sz Tryz.prog 143 1 := fun _ => by kernel_rfl
theorem sz144 : Sz Tryz.prog 144 1 := fun _ => by kernel_rfl
theorem sz146 : Sz Tryz.prog 146 15 := fun _ => by kernel_rfl
theorem sz165 : Sz Tryz.prog 165 1 := fun _ => by kernel_rfl
theorem sz167 : Sz Tryz.prog 167 4 := fun _ => by kernel_rfl
theorem sz169 : Sz Tryz.prog 169 5 := fun _ => by kernel_rfl
theorem sz174 : Sz Tryz.prog 174 1 := fun _ => by kernel_rfl
theorem sz182 : Sz Tryz.prog 182 6 := fun _ => by kernel_rfl
theorem sz186 : Sz Tryz.prog 186 8 := fun _ => by kernel_rfl
theorem sl22 : SlE Tryz.prog 22 29 7 := ⟨Tryz.underlying22, sz29⟩
theorem sz131 : Sz Tryz.prog 131 2 := fun _ => by kernel_rfl
theorem sl23 : SlE Tryz.prog 23 131 2 := ⟨Tryz.underlying23, sz131⟩
theorem sl24 : SlE Tryz.prog 24 93 6 := ⟨Tryz.underlying24, sz93⟩
theorem sl25 : SlE Tryz.prog 25 9 1 := ⟨Tryz.underlying25, sz9⟩
theorem sl26 : SlE Tryz.prog 26 146 15 := ⟨Tryz.underlying26, sz146⟩
theorem sl27 : SlE Tryz.prog 27 169 5 := ⟨Tryz.underlying27, sz169⟩
theorem sl54 : SlE Tryz.prog 54 25 1 := ⟨Tryz.underlying54, sz25⟩
theorem sl57 : SlE Tryz.prog 57 68 2 := ⟨Tryz.underlying57, sz68⟩
theorem sl90 : SlE Tryz.prog 90 136 5 := ⟨Tryz.underlying90, sz136⟩
theorem sz140 : Sz Tryz.prog 140 2 := fun _ => by kernel_rfl
theorem sl91 : SlE Tryz.prog 91 140 2 := ⟨Tryz.underlying91, sz140⟩
theorem sl126 : SlE Tryz.prog 126 3 1 := ⟨Tryz.underlying126, sz3⟩
theorem sl143 : SlE Tryz.prog 143 182 6 := ⟨Tryz.underlying143, sz182⟩
theorem sl144 : SlE Tryz.prog 144 186 8 := ⟨Tryz.underlying144, sz186⟩
theorem sl165 : SlE Tryz.prog 165 167 4 := ⟨Tryz.underlying165, sz167⟩
theorem mp73 : MpS Tryz.prog 73 9 3 := ⟨Tryz.underlying73, Tryz.underlying9⟩
theorem mp100 : MpS Tryz.prog 100 9 4 := ⟨Tryz.underlying100, Tryz.underlying9⟩
theorem inf3 : Inf Tryz.prog 3 (.int .i64 0) 1 8 := by unfold Inf; kernel_rfl
theorem inf4 : Inf Tryz.prog 4 (.bool false) 1 1 := by unfold Inf; kernel_rfl
theorem inf9 : Inf Tryz.prog 9 (.string ⟨#[]⟩) 1 16 := by unfold Inf; kernel_rfl
theorem inf25 : Inf Tryz.prog 25 (.slice none 0 0) 1 24 := by unfold Inf; kernel_rfl
theorem inf29 : Inf Tryz.prog 29 (.agg #[.string ⟨#[]⟩, .bool false, .slice none 0 0, .slice none 0 0, .slice none 0 0, .slice none 0 0, .slice none 0 0]) 7 144 := by unfold Inf; kernel_rfl
theorem inf68 : Inf Tryz.prog 68 (.agg #[.string ⟨#[]⟩, .string ⟨#[]⟩]) 2 32 := by unfold Inf; kernel_rfl
theorem inf93 : Inf Tryz.prog 93 (.agg #[.string ⟨#[]⟩, .slice none 0 0, .slice none 0 0, .slice none 0 0, .slice none 0 0, .slice none 0 0]) 6 136 := by unfold Inf; kernel_rfl
theorem inf131 : Inf Tryz.prog 131 (.agg #[.string ⟨#[]⟩, .string ⟨#[]⟩]) 2 32 := by unfold Inf; kernel_rfl
theorem inf136 : Inf Tryz.prog 136 (.agg #[.int .i64 0, .string ⟨#[]⟩, .slice none 0 0, .bool false, .bool false]) 5 56 := by unfold Inf; kernel_rfl
theorem inf140 : Inf Tryz.prog 140 (.agg #[.string ⟨#[]⟩, .string ⟨#[]⟩]) 2 32 := by unfold Inf; kernel_rfl
theorem inf146 : Inf Tryz.prog 146 (.agg #[.int .i64 0, .string ⟨#[]⟩, .slice none 0 0, .slice none 0 0, .int .i64 0, .string ⟨#[]⟩, .slice none 0 0, .bool false, .bool false, .slice none 0 0, .slice none 0 0, .slice none 0 0, .slice none 0 0, .slice none 0 0, .bool false]) 15 256 := by unfold Inf; kernel_rfl
theorem inf167 : Inf Tryz.prog 167 (.agg #[.int .i64 0, .string ⟨#[]⟩, .int .i64 0, .slice none 0 0]) 4 56 := by unfold Inf; kernel_rfl
theorem inf169 : Inf Tryz.prog 169 (.agg #[.string ⟨#[]⟩, .int .i64 0, .string ⟨#[]⟩, .int .i64 0, .slice none 0 0]) 5 72 := by unfold Inf; kernel_rfl
theorem inf182 : Inf Tryz.prog 182 (.agg #[.string ⟨#[]⟩, .int .i64 0, .string ⟨#[]⟩, .slice none 0 0, .bool false, .bool false]) 6 72 := by unfold Inf; kernel_rfl
theorem inf186 : Inf Tryz.prog 186 (.agg #[.int .i64 0, .string ⟨#[]⟩, .int .i64 0, .slice none 0 0, .slice none 0 0, .slice none 0 0, .slice none 0 0, .slice none 0 0]) 8 152 := by unfold Inf; kernel_rfl
theorem ld3 : Ld1 Tryz.prog 3 := Ld1.of Tryz.underlying3 rfl
theorem ld4 : Ld1 Tryz.prog 4 := Ld1.of Tryz.underlying4 rfl
theorem ld9 : Ld1 Tryz.prog 9 := Ld1.of Tryz.underlying9 rfl
theorem ld22 : Ld1 Tryz.prog 22 := Ld1.of Tryz.underlying22 rfl
theorem ld23 : Ld1 Tryz.prog 23 := Ld1.of Tryz.underlying23 rfl
theorem ld24 : Ld1 Tryz.prog 24 := Ld1.of Tryz.underlying24 rfl
theorem ld25 : Ld1 Tryz.prog 25 := Ld1.of Tryz.underlying25 rfl
theorem ld26 : Ld1 Tryz.prog 26 := Ld1.of Tryz.underlying26 rfl
theorem ld27 : Ld1 Tryz.prog 27 := Ld1.of Tryz.underlying27 rfl
theorem ld29 : LdN Tryz.prog 29 7 := LdN.of Tryz.underlying29 sz29
theorem ld32 : Ld1 Tryz.prog 32 := Ld1.of Tryz.underlying32 rfl
theorem ld57 : Ld1 Tryz.prog 57 := Ld1.of Tryz.underlying57 rfl
theorem ld68 : LdN Tryz.prog 68 2 := LdN.of Tryz.underlying68 sz68
theorem ld73 : Ld1 Tryz.prog 73 := Ld1.of Tryz.underlying73 rfl
theorem ld75 : LdN Tryz.prog 75 2 := LdN.of Tryz.underlying75 sz75
theorem ld90 : Ld1 Tryz.prog 90 := Ld1.of Tryz.underlying90 rfl
theorem ld91 : Ld1 Tryz.prog 91 := Ld1.of Tryz.underlying91 rfl
theorem ld93 : LdN Tryz.prog 93 6 := LdN.of Tryz.underlying93 sz93
theorem ld100 : Ld1 Tryz.prog 100 := Ld1.of Tryz.underlying100 rfl
theorem ld120 : Ld1 Tryz.prog 120 := Ld1.of Tryz.underlying120 rfl
theorem ld136 : LdN Tryz.prog 136 5 := LdN.of Tryz.underlying136 sz136
theorem ld143 : Ld1 Tryz.prog 143 := Ld1.of Tryz.underlying143 rfl
theorem ld144 : Ld1 Tryz.prog 144 := Ld1.of Tryz.underlying144 rfl
theorem ld146 : LdN Tryz.prog 146 15 := LdN.of Tryz.underlying146 sz146
theorem ld165 : Ld1 Tryz.prog 165 := Ld1.of Tryz.underlying165 rfl
theorem ld167 : LdN Tryz.prog 167 4 := LdN.of Tryz.underlying167 sz167
theorem ld169 : LdN Tryz.prog 169 5 := LdN.of Tryz.underlying169 sz169
theorem ld174 : Ld1 Tryz.prog 174 := Ld1.of Tryz.underlying174 rfl
theorem ld182 : LdN Tryz.prog 182 6 := LdN.of Tryz.underlying182 sz182
theorem ld186 : LdN Tryz.prog 186 8 := LdN.of Tryz.underlying186 sz186
theorem fa29_0 : Fa Tryz.prog 29 0 0 := fun _ _ _ => by kernel_rfl
theorem fa29_2 : Fa Tryz.prog 29 2 2 := fun _ _ _ => by kernel_rfl
theorem fa29_3 : Fa Tryz.prog 29 3 3 := fun _ _ _ => by kernel_rfl
theorem fa29_4 : Fa Tryz.prog 29 4 4 := fun _ _ _ => by kernel_rfl
theorem fa29_5 : Fa Tryz.prog 29 5 5 := fun _ _ _ => by kernel_rfl
theorem fa29_6 : Fa Tryz.prog 29 6 6 := fun _ _ _ => by kernel_rfl
theorem fa36_0 : Fa Tryz.prog 36 0 0 := fun _ _ _ => by kernel_rfl
theorem fa36_1 : Fa Tryz.prog 36 1 1 := fun _ _ _ => by kernel_rfl
theorem fa71_0 : Fa Tryz.prog 71 0 0 := fun _ _ _ => by kernel_rfl
theorem fa75_0 : Fa Tryz.prog 75 0 0 := fun _ _ _ => by kernel_rfl
theorem fa75_1 : Fa Tryz.prog 75 1 1 := fun _ _ _ => by kernel_rfl
theorem fa93_0 : Fa Tryz.prog 93 0 0 := fun _ _ _ => by kernel_rfl
theorem fa93_1 : Fa Tryz.prog 93 1 1 := fun _ _ _ => by kernel_rfl
theorem fa93_2 : Fa Tryz.prog 93 2 2 := fun _ _ _ => by kernel_rfl
theorem fa93_3 : Fa Tryz.prog 93 3 3 := fun _ _ _ => by kernel_rfl
theorem fa93_4 : Fa Tryz.prog 93 4 4 := fun _ _ _ => by kernel_rfl
theorem fa93_5 : Fa Tryz.prog 93 5 5 := fun _ _ _ => by kernel_rfl
theorem fa136_2 : Fa Tryz.prog 136 2 2 := fun _ _ _ => by kernel_rfl
theorem fa146_2 : Fa Tryz.prog 146 2 2 := fun _ _ _ => by kernel_rfl
theorem fa146_3 : Fa Tryz.prog 146 3 3 := fun _ _ _ => by kernel_rfl
theorem fa146_4 : Fa Tryz.prog 146 4 4 := fun _ _ _ => by kernel_rfl
theorem fa146_5 : Fa Tryz.prog 146 5 9 := fun _ _ _ => by kernel_rfl
theorem fa146_6 : Fa Tryz.prog 146 6 10 := fun _ _ _ => by kernel_rfl
theorem fa146_7 : Fa Tryz.prog 146 7 11 := fun _ _ _ => by kernel_rfl
theorem fa146_8 : Fa Tryz.prog 146 8 12 := fun _ _ _ => by kernel_rfl
theorem fa146_9 : Fa Tryz.prog 146 9 13 := fun _ _ _ => by kernel_rfl
theorem fa167_3 : Fa Tryz.prog 167 3 3 := fun _ _ _ => by kernel_rfl
theorem fa169_1 : Fa Tryz.prog 169 1 1 := fun _ _ _ => by kernel_rfl
theorem fa182_1 : Fa Tryz.prog 182 1 1 := fun _ _ _ => by kernel_rfl
theorem fa186_3 : Fa Tryz.prog 186 3 3 := fun _ _ _ => by kernel_rfl
theorem fa186_4 : Fa Tryz.prog 186 4 4 := fun _ _ _ => by kernel_rfl
theorem fa186_5 : Fa Tryz.prog 186 5 5 := fun _ _ _ => by kernel_rfl
theorem fa186_6 : Fa Tryz.prog 186 6 6 := fun _ _ _ => by kernel_rfl
theorem fa186_7 : Fa Tryz.prog 186 7 7 := fun _ _ _ => by kernel_rfl
theorem al3 : Al Tryz.prog 3 [.int .i64 0] := fun _ => by kernel_rfl
theorem al4 : Al Tryz.prog 4 [.bool false] := fun _ => by kernel_rfl
theorem al9 : Al Tryz.prog 9 [.string ⟨#[]⟩] := fun _ => by kernel_rfl
theorem al25 : Al Tryz.prog 25 [.slice none 0 0] := fun _ => by kernel_rfl
theorem al29 : Al Tryz.prog 29 [.string ⟨#[]⟩, .bool false, .slice none 0 0, .slice none 0 0, .slice none 0 0, .slice none 0 0, .slice none 0 0] := fun _ => by kernel_rfl
theorem al36 : Al Tryz.prog 36 [.slice none 0 0, .int .i64 0] := fun _ => by kernel_rfl
theorem al57 : Al Tryz.prog 57 [.slice none 0 0] := fun _ => by kernel_rfl
theorem al68 : Al Tryz.prog 68 [.string ⟨#[]⟩, .string ⟨#[]⟩] := fun _ => by kernel_rfl
theorem al71 : Al Tryz.prog 71 [.int .i64 0, .string ⟨#[]⟩] := fun _ => by kernel_rfl
theorem al73 : Al Tryz.prog 73 [.map none] := fun _ => by kernel_rfl
theorem al75 : Al Tryz.prog 75 [.slice none 0 0, .map none] := fun _ => by kernel_rfl
theorem al93 : Al Tryz.prog 93 [.string ⟨#[]⟩, .slice none 0 0, .slice none 0 0, .slice none 0 0, .slice none 0 0, .slice none 0 0] := fun _ => by kernel_rfl
theorem al100 : Al Tryz.prog 100 [.map none] := fun _ => by kernel_rfl
theorem al120 : Al Tryz.prog 120 [.nilFunc] := fun _ => by kernel_rfl
theorem al136 : Al Tryz.prog 136 [.int .i64 0, .string ⟨#[]⟩, .slice none 0 0, .bool false, .bool false] := fun _ => by kernel_rfl
theorem al146 : Al Tryz.prog 146 [.int .i64 0, .string ⟨#[]⟩, .slice none 0 0, .slice none 0 0, .int .i64 0, .string ⟨#[]⟩, .slice none 0 0, .bool false, .bool false, .slice none 0 0, .slice none 0 0, .slice none 0 0, .slice none 0 0, .slice none 0 0, .bool false] := fun _ => by kernel_rfl
theorem al167 : Al Tryz.prog 167 [.int .i64 0, .string ⟨#[]⟩, .int .i64 0, .slice none 0 0] := fun _ => by kernel_rfl
theorem al169 : Al Tryz.prog 169 [.string ⟨#[]⟩, .int .i64 0, .string ⟨#[]⟩, .int .i64 0, .slice none 0 0] := fun _ => by kernel_rfl
theorem al174 : Al Tryz.prog 174 [.int .u64 0] := fun _ => by kernel_rfl
theorem al182 : Al Tryz.prog 182 [.string ⟨#[]⟩, .int .i64 0, .string ⟨#[]⟩, .slice none 0 0, .bool false, .bool false] := fun _ => by kernel_rfl
theorem al186 : Al Tryz.prog 186 [.int .i64 0, .string ⟨#[]⟩, .int .i64 0, .slice none 0 0, .slice none 0 0, .slice none 0 0, .slice none 0 0, .slice none 0 0] := fun _ => by kernel_rfl
theorem en5 : Enters Tryz.prog 5 := fun _ _ => by kernel_rfl
theorem en6 : Enters Tryz.prog 6 := fun _ _ => by kernel_rfl
theorem en7 : Enters Tryz.prog 7 := fun _ _ => by kernel_rfl
theorem en8 : Enters Tryz.prog 8 := fun _ _ => by kernel_rfl
theorem en9 : Enters Tryz.prog 9 := fun _ _ => by kernel_rfl
theorem en10 : Enters Tryz.prog 10 := fun _ _ => by kernel_rfl
theorem en11 : Enters Tryz.prog 11 := fun _ _ => by kernel_rfl
theorem en12 : Enters Tryz.prog 12 := fun _ _ => by kernel_rfl
theorem en13 : Enters Tryz.prog 13 := fun _ _ => by kernel_rfl
theorem en14 : Enters Tryz.prog 14 := fun _ _ => by kernel_rfl
theorem en15 : Enters Tryz.prog 15 := fun _ _ => by kernel_rfl
theorem en16 : Enters Tryz.prog 16 := fun _ _ => by kernel_rfl
theorem en17 : Enters Tryz.prog 17 := fun _ _ => by kernel_rfl
theorem en18 : Enters Tryz.prog 18 := fun _ _ => by kernel_rfl
theorem en19 : Enters Tryz.prog 19 := fun _ _ => by kernel_rfl
theorem en20 : Enters Tryz.prog 20 := fun _ _ => by kernel_rfl
theorem en21 : Enters Tryz.prog 21 := fun _ _ => by kernel_rfl
theorem en22 : Enters Tryz.prog 22 := fun _ _ => by kernel_rfl
theorem en23 : Enters Tryz.prog 23 := fun _ _ => by kernel_rfl
theorem en24 : Enters Tryz.prog 24 := fun _ _ => by kernel_rfl
theorem en25 : Enters Tryz.prog 25 := fun _ _ => by kernel_rfl
theorem en26 : Enters Tryz.prog 26 := fun _ _ => by kernel_rfl
theorem en27 : Enters Tryz.prog 27 := fun _ _ => by kernel_rfl
theorem en28 : Enters Tryz.prog 28 := fun _ _ => by kernel_rfl
theorem en29 : Enters Tryz.prog 29 := fun _ _ => by kernel_rfl
theorem en30 : Enters Tryz.prog 30 := fun _ _ => by kernel_rfl
theorem en31 : Enters Tryz.prog 31 := fun _ _ => by kernel_rfl
theorem en32 : Enters Tryz.prog 32 := fun _ _ => by kernel_rfl
theorem en33 : Enters Tryz.prog 33 := fun _ _ => by kernel_rfl
theorem en34 : Enters Tryz.prog 34 := fun _ _ => by kernel_rfl
theorem en35 : Enters Tryz.prog 35 := fun _ _ => by kernel_rfl
theorem en36 : Enters Tryz.prog 36 := fun _ _ => by kernel_rfl
theorem en37 : Enters Tryz.prog 37 := fun _ _ => by kernel_rfl
theorem en38 : Enters Tryz.prog 38 := fun _ _ => by kernel_rfl
theorem en39 : Enters Tryz.prog 39 := fun _ _ => by kernel_rfl
theorem en40 : Enters Tryz.prog 40 := fun _ _ => by kernel_rfl
theorem en41 : Enters Tryz.prog 41 := fun _ _ => by kernel_rfl
theorem en42 : Enters Tryz.prog 42 := fun _ _ => by kernel_rfl
theorem en43 : Enters Tryz.prog 43 := fun _ _ => by kernel_rfl
theorem en44 : Enters Tryz.prog 44 := fun _ _ => by kernel_rfl
theorem en45 : Enters Tryz.prog 45 := fun _ _ => by kernel_rfl
theorem en46 : Enters Tryz.prog 46 := fun _ _ => by kernel_rfl
theorem en47 : Enters Tryz.prog 47 := fun _ _ => by kernel_rfl
theorem en48 : Enters Tryz.prog 48 := fun _ _ => by kernel_rfl
theorem en49 : Enters Tryz.prog 49 := fun _ _ => by kernel_rfl
theorem en50 : Enters Tryz.prog 50 := fun _ _ => by kernel_rfl
theorem en51 : Enters Tryz.prog 51 := fun _ _ => by kernel_rfl
theorem en52 : Enters Tryz.prog 52 := fun _ _ => by kernel_rfl
theorem en53 : Enters Tryz.prog 53 := fun _ _ => by kernel_rfl
theorem en54 : Enters Tryz.prog 54 := fun _ _ => by kernel_rfl
theorem en55 : Enters Tryz.prog 55 := fun _ _ => by kernel_rfl
theorem en56 : Enters Tryz.prog 56 := fun _ _ => by kernel_rfl
theorem en57 : Enters Tryz.prog 57 := fun _ _ => by kernel_rfl
theorem en58 : Enters Tryz.prog 58 := fun _ _ => by kernel_rfl
theorem en59 : Enters Tryz.prog 59 := fun _ _ => by kernel_rfl
theorem en60 : Enters Tryz.prog 60 := fun _ _ => by kernel_rfl
theorem en61 : Enters Tryz.prog 61 := fun _ _ => by kernel_rfl
theorem en62 : Enters Tryz.prog 62 := fun _ _ => by kernel_rfl
theorem en63 : Enters Tryz.prog 63 := fun _ _ => by kernel_rfl
theorem en64 : Enters Tryz.prog 64 := fun _ _ => by kernel_rfl
theorem en65 : Enters Tryz.prog 65 := fun _ _ => by kernel_rfl
theorem en66 : Enters Tryz.prog 66 := fun _ _ => by kernel_rfl
theorem en67 : Enters Tryz.prog 67 := fun _ _ => by kernel_rfl
theorem en68 : Enters Tryz.prog 68 := fun _ _ => by kernel_rfl
theorem en69 : Enters Tryz.prog 69 := fun _ _ => by kernel_rfl
theorem en70 : Enters Tryz.prog 70 := fun _ _ => by kernel_rfl
theorem en71 : Enters Tryz.prog 71 := fun _ _ => by kernel_rfl
theorem en72 : Enters Tryz.prog 72 := fun _ _ => by kernel_rfl
theorem en73 : Enters Tryz.prog 73 := fun _ _ => by kernel_rfl
theorem en74 : Enters Tryz.prog 74 := fun _ _ => by kernel_rfl
theorem en75 : Enters Tryz.prog 75 := fun _ _ => by kernel_rfl
theorem en76 : Enters Tryz.prog 76 := fun _ _ => by kernel_rfl
theorem en77 : Enters Tryz.prog 77 := fun _ _ => by kernel_rfl
theorem en78 : Enters Tryz.prog 78 := fun _ _ => by kernel_rfl
theorem en79 : Enters Tryz.prog 79 := fun _ _ => by kernel_rfl
theorem en80 : Enters Tryz.prog 80 := fun _ _ => by kernel_rfl
theorem en81 : Enters Tryz.prog 81 := fun _ _ => by kernel_rfl
theorem en82 : Enters Tryz.prog 82 := fun _ _ => by kernel_rfl
theorem en83 : Enters Tryz.prog 83 := fun _ _ => by kernel_rfl
theorem en84 : Enters Tryz.prog 84 := fun _ _ => by kernel_rfl
theorem en85 : Enters Tryz.prog 85 := fun _ _ => by kernel_rfl
theorem en86 : Enters Tryz.prog 86 := fun _ _ => by kernel_rfl
theorem en87 : Enters Tryz.prog 87 := fun _ _ => by kernel_rfl
theorem en88 : Enters Tryz.prog 88 := fun _ _ => by kernel_rfl
theorem en89 : Enters Tryz.prog 89 := fun _ _ => by kernel_rfl
theorem en90 : Enters Tryz.prog 90 := fun _ _ => by kernel_rfl
theorem en91 : Enters Tryz.prog 91 := fun _ _ => by kernel_rfl
theorem en92 : Enters Tryz.prog 92 := fun _ _ => by kernel_rfl
theorem en93 : Enters Tryz.prog 93 := fun _ _ => by kernel_rfl
theorem en94 : Enters Tryz.prog 94 := fun _ _ => by kernel_rfl
theorem en95 : Enters Tryz.prog 95 := fun _ _ => by kernel_rfl
theorem en96 : Enters Tryz.prog 96 := fun _ _ => by kernel_rfl
theorem en97 : Enters Tryz.prog 97 := fun _ _ => by kernel_rfl
theorem en98 : Enters Tryz.prog 98 := fun _ _ => by kernel_rfl
theorem en99 : Enters Tryz.prog 99 := fun _ _ => by kernel_rfl
theorem en100 : Enters Tryz.prog 100 := fun _ _ => by kernel_rfl
theorem en101 : Enters Tryz.prog 101 := fun _ _ => by kernel_rfl
theorem en102 : Enters Tryz.prog 102 := fun _ _ => by kernel_rfl
theorem en103 : Enters Tryz.prog 103 := fun _ _ => by kernel_rfl
theorem en104 : Enters Tryz.prog 104 := fun _ _ => by kernel_rfl
theorem en105 : Enters Tryz.prog 105 := fun _ _ => by kernel_rfl
theorem en106 : Enters Tryz.prog 106 := fun _ _ => by kernel_rfl
theorem en107 : Enters Tryz.prog 107 := fun _ _ => by kernel_rfl
theorem en108 : Enters Tryz.prog 108 := fun _ _ => by kernel_rfl
theorem en109 : Enters Tryz.prog 109 := fun _ _ => by kernel_rfl
theorem en110 : Enters Tryz.prog 110 := fun _ _ => by kernel_rfl
theorem en111 : Enters Tryz.prog 111 := fun _ _ => by kernel_rfl
theorem en112 : Enters Tryz.prog 112 := fun _ _ => by kernel_rfl
theorem en113 : Enters Tryz.prog 113 := fun _ _ => by kernel_rfl
theorem en114 : Enters Tryz.prog 114 := fun _ _ => by kernel_rfl
theorem en115 : Enters Tryz.prog 115 := fun _ _ => by kernel_rfl
theorem en116 : Enters Tryz.prog 116 := fun _ _ => by kernel_rfl
theorem en117 : Enters Tryz.prog 117 := fun _ _ => by kernel_rfl
theorem en118 : Enters Tryz.prog 118 := fun _ _ => by kernel_rfl
theorem en119 : Enters Tryz.prog 119 := fun _ _ => by kernel_rfl
theorem en120 : Enters Tryz.prog 120 := fun _ _ => by kernel_rfl
theorem en121 : Enters Tryz.prog 121 := fun _ _ => by kernel_rfl
theorem en122 : Enters Tryz.prog 122 := fun _ _ => by kernel_rfl
theorem en123 : Enters Tryz.prog 123 := fun _ _ => by kernel_rfl
theorem en124 : Enters Tryz.prog 124 := fun _ _ => by kernel_rfl
theorem en125 : Enters Tryz.prog 125 := fun _ _ => by kernel_rfl
theorem sz54 : Sz Tryz.prog 54 1 := fun _ => by kernel_rfl
theorem ld54 : Ld1 Tryz.prog 54 := Ld1.of Tryz.underlying54 rfl
theorem fa68_0 : Fa Tryz.prog 68 0 0 := fun _ _ _ => by kernel_rfl
theorem fa68_1 : Fa Tryz.prog 68 1 1 := fun _ _ _ => by kernel_rfl
end Fx
end Go.Proofs.YtjgiaohieadeiaaGreat
namespace Go.Ck
open Go Go.RowKit

/-- What is known of an open row: v is nil and has nothing, or it is a block with the row and some more cells. -/
def OpenRow (v : Value) (sz n : Nat) (l : List Value) (b cp : Nat) (j : List Value) : Prop := v = .slice (some ⟨b, 0, none⟩) n cp ∧ l.length = n * sz ∧ n ≤ cp ∧ cp ≤ maxLen ∧ (l ++ j).length = cp * sz
theorem Holds.openRow {w : World} {v : Value} {E : TypeId} {sz n : Nat} {l : List Value} {h : SH} (hh : Holds w (vec v E sz n l :: h)) :
    (v = .slice none 0 0 ∧ n = 0 ∧ l = []) ∨ ∃ b cp j, OpenRow v sz n l b cp j ∧ Holds w (pt b (cl (l ++ j) E) :: h) := by
  obtain ⟨h1, h2⟩ := hh.1
  rcases h2 with ⟨h3, h4⟩ | ⟨b, cp, j, h3, h4, h5, h6, h7⟩
  · exact .inl ⟨h3, h4, List.eq_nil_of_length_eq_zero (by rw [h1, h4]; simp)⟩
  · exact .inr ⟨b, cp, j, ⟨h3, h1, h5, h6, h7⟩, h4, fun c hc => hh.2.1 c ⟨n, cp, by rw [h3, show c = b from hc]⟩, hh.2.2⟩
theorem Holds.shutRow {w : World} {v : Value} {E : TypeId} {sz n : Nat} {l l' : List Value} {h : SH} {b cp : Nat} {j : List Value} (ho : OpenRow v sz n l b cp j) (hl : l'.length = l.length) (hh : Holds w (pt b (cl (l' ++ j) E) :: h)) : Holds w (vec v E sz n l' :: h) := by
  obtain ⟨h3, h1, h5, h6, h7⟩ := ho
  refine ⟨⟨by rw [hl, h1], .inr ⟨b, cp, j, h3, hh.1, h5, h6, by rw [List.length_append, hl, ← h7, List.length_append]⟩⟩, fun c ⟨m, cp', hv⟩ => ?_, hh.2.2⟩
  rw [h3] at hv; cases hv
  exact hh.2.1 b rfl
section
variable {c : Cx} {Q : Exit → Act → World → Prop} {e : Env} {h h' : SH} {x : Code} {v : Value} {E : TypeId} {sz n : Nat} {l l' : List Value}
theorem cd_open (s : Sel h (vec v E sz n l) h') (h0 : v = .slice none 0 0 → n = 0 → l = [] → Cd c x Q e h') (h1 : ∀ b cp j, OpenRow v sz n l b cp j → Cd c x Q e (pt b (cl (l ++ j) E) :: h')) : Cd c x Q e h := fun a w hk hh hw => by
  have k := hh.sel s
  rcases Holds.openRow k with ⟨a1, a2, a3⟩ | ⟨b, cp, j, ho, hH⟩
  · exact h0 a1 a2 a3 a w hk k.2.2 hw
  · exact h1 b cp j ho a w hk hH hw
theorem xt_shut {ex : Exit} {b cp : Nat} {j : List Value} (ho : OpenRow v sz n l b cp j) (hl : l'.length = l.length) (s : Sel h (pt b (cl (l' ++ j) E)) h') (hx : Xt c ex Q e (vec v E sz n l' :: h')) : Xt c ex Q e h :=
  fun a w hk hh hw => hx a w hk (Holds.shutRow ho hl (hh.sel s)) hw
theorem cd_shut {b cp : Nat} {j : List Value} (ho : OpenRow v sz n l b cp j) (hl : l'.length = l.length) (s : Sel h (pt b (cl (l' ++ j) E)) h') (hx : Cd c x Q e (vec v E sz n l' :: h')) : Cd c x Q e h :=
  fun a w hk hh hw => hx a w hk (Holds.shutRow ho hl (hh.sel s)) hw
end
end Go.Ck
namespace Go.Ck
open Go Go.RowKit

/-! ## Rows that are read -/
/-- The slice v has the elements l, each of which lies in so many cells that X says of it. -/
def Row {α : Type} (S : Res) (sz : Nat) (X : List Value → α → Prop) (v : Value) (l : List α) : Prop :=
  ∃ a cap, v = .slice a l.length cap ∧ l.length ≤ cap ∧ cap ≤ maxLen ∧ (a = none → cap = 0) ∧ ∀ i x, l[i]? = some x → ∃ b o us, a = some ⟨b, o, none⟩ ∧ us.length = sz ∧ Rds S b (o + i * sz) us ∧ X us x
section
variable {α : Type} {S S' : Res} {sz : Nat} {X X' : List Value → α → Prop} {v : Value} {l : List α}
theorem Row.mono (h : Row S sz X v l) (hr : ∀ p u, Rd S p u → Rd S' p u) (hx : ∀ us x, x ∈ l → X us x → X' us x) : Row S' sz X' v l := by
  obtain ⟨a, cap, h1, h2, h3, h4, h5⟩ := h
  refine ⟨a, cap, h1, h2, h3, h4, fun i x hi => ?_⟩
  obtain ⟨b, o, us, g1, g2, g3, g4⟩ := h5 i x hi
  exact ⟨b, o, us, g1, g2, fun j hj => hr _ _ (g3 j hj), hx _ _ (List.mem_of_getElem? hi) g4⟩
theorem Row.nil : Row S sz X (.slice none 0 0) [] := ⟨none, 0, rfl, Nat.le_refl _, Nat.zero_le _, fun _ => rfl, fun i x h => by simp at h⟩
theorem Row.at (h : Row S sz X v l) {i : Nat} {x : α} (hi : l[i]? = some x) : ∃ b o cap us, v = .slice (some ⟨b, o, none⟩) l.length cap ∧ us.length = sz ∧ Rds S b (o + i * sz) us ∧ X us x := by
  obtain ⟨a, cap, h1, h2, h3, h4, h5⟩ := h
  obtain ⟨b, o, us, g1, g2, g3, g4⟩ := h5 i x hi
  exact ⟨b, o, cap, us, by rw [h1, g1], g2, g3, g4⟩
theorem Row.one (h : Row S sz X v l) : v.oneCell' = true := by obtain ⟨a, cap, rfl, _⟩ := h; rfl
theorem Row.lenle (h : Row S sz X v l) : l.length ≤ maxLen := by obtain ⟨a, cap, _, h2, h3, _⟩ := h; omega
end
/-- A row whose values are one cell each. -/
theorem Row.at1 {α : Type} {S : Res} {X : List Value → α → Prop} {v : Value} {l : List α} (h : Row S 1 X v l) {i : Nat} {x : α} (hi : l[i]? = some x) : ∃ b o cap u, v = .slice (some ⟨b, o, none⟩) l.length cap ∧ Rd S ⟨b, o + i * 1, none⟩ u ∧ X [u] x := by
  obtain ⟨b, o, cap, us, h1, h2, h3, h4⟩ := h.at hi
  match us, h2 with
  | [u], _ => exact ⟨b, o, cap, u, h1, by simpa using h3 0 (by simp), h4⟩
theorem rds_at {r : Res} {b o k : Nat} {us : List Value} {v : Value} (h : Rds r b o us) (hv : us[k]? = some v) : Rd r ⟨b, o + k, none⟩ v := by
  obtain ⟨hk, hv⟩ := List.getElem?_eq_some_iff.1 hv
  subst hv; exact h k hk
theorem rds_sub {r : Res} {b o k : Nat} {us vs : List Value} (h : Rds r b o us) (hv : (us.drop k).take vs.length = vs) : Rds r b (o + k) vs := fun i hi => by
  have h1 : us[k + i]? = some vs[i] := by
    have : vs[i]? = some vs[i] := List.getElem?_eq_getElem hi
    rw [← this, ← hv, List.getElem?_take, if_pos (by have := congrArg List.length hv; simp at this; omega), List.getElem?_drop]
  rw [Nat.add_assoc]; exact rds_at h h1
theorem rd_in {k : SH} {r : Res} {k' : SH} (s : Sel k r k') (p : Addr) (v : Value) (h : Rd r p v) : Rd (Res.star k) p v := rd_star s h

/-! ## Contracts over many resources as one -/
theorem holds_star1 {w : World} {L hr : SH} : Holds w (Res.star L :: hr) ↔ Holds w (L ++ hr) := star_iff
theorem reads_star {P : Program} {k : FuncId} {args : Array Value} {L : SH} {v : Value} (h : Reads P k args [Res.star L] v) : Reads P k args L v := fun hr w hh =>
  (h hr w (holds_star1.2 hh)).mono fun _ _ ⟨u, h', he, ⟨hu, hh'⟩, hH, hS⟩ => ⟨u, L, he, ⟨hu, rfl⟩, by subst hh'; exact holds_star1.1 hH, hS⟩
theorem reads_one {P : Program} {k : FuncId} {args : Array Value} {L : SH} {v : Value} (h : Reads P k args L v) : Reads P k args [Res.star L] v := fun hr w hh =>
  (h hr w (holds_star1.1 hh)).mono fun _ _ ⟨u, h', he, ⟨hu, hh'⟩, hH, hS⟩ => ⟨u, _, he, ⟨hu, rfl⟩, by subst hh'; exact holds_star1.2 hH, hS⟩
/-- It leaves something new behind. -/
def CtN (P : Program) (k : FuncId) (args : Array Value) (hf : SH) (Q : Value → Res → Prop) : Prop := Ct P k args hf fun u h' => ∃ T, h' = T :: hf ∧ Q u T
theorem ctn_star {P : Program} {k : FuncId} {args : Array Value} {L : SH} {Q : Value → Res → Prop} (h : CtN P k args [Res.star L] Q) : CtN P k args L Q := fun hr w hh =>
  (h hr w (holds_star1.2 hh)).mono fun _ _ ⟨u, h', he, ⟨T, hT, hQ⟩, hH, hS⟩ => ⟨u, T :: L, he, ⟨T, rfl, hQ⟩, by
    subst hT
    have h1 : Holds _ (T :: Res.star L :: hr) := hH
    have h2 : Holds _ (Res.star L :: T :: hr) := h1.perm (.swap _ _ _)
    exact (holds_star1.1 h2).perm List.perm_middle, hS⟩
theorem ctn_one {P : Program} {k : FuncId} {args : Array Value} {L : SH} {Q : Value → Res → Prop} (h : CtN P k args L Q) : CtN P k args [Res.star L] Q := fun hr w hh =>
  (h hr w (holds_star1.1 hh)).mono fun _ _ ⟨u, h', he, ⟨T, hT, hQ⟩, hH, hS⟩ => ⟨u, [T, Res.star L], he, ⟨T, rfl, hQ⟩, by
    subst hT
    have h1 : Holds _ (T :: (L ++ hr)) := hH
    have h2 : Holds _ (Res.star L :: T :: hr) := holds_star1.2 (h1.perm List.perm_middle.symm)
    exact h2.perm (.swap _ _ _), hS⟩
theorem ctn_more {P : Program} {k : FuncId} {args : Array Value} {hf big x : SH} {Q : Value → Res → Prop} (h : CtN P k args hf Q) (pk : Pk big hf x) : CtN P k args big Q := fun hr w hh => by
  have hp : (big ++ hr).Perm (hf ++ (x ++ hr)) := (pk.perm.append_right hr).trans (by rw [List.append_assoc])
  exact (h (x ++ hr) w (hh.perm hp)).mono fun _ _ ⟨u, h', he, ⟨T, hT, hQ⟩, hH, hS⟩ => ⟨u, T :: big, he, ⟨T, rfl, hQ⟩, by subst hT; exact hH.perm ((hp.symm).cons T), hS⟩
theorem CtN.mono {P : Program} {k : FuncId} {args : Array Value} {hf : SH} {Q Q' : Value → Res → Prop} (h : CtN P k args hf Q) (hq : ∀ u T, Q u T → Q' u T) : CtN P k args hf Q' := Ct.mono h fun _ _ ⟨T, h1, h2⟩ => ⟨T, h1, hq _ _ h2⟩

/-! ## Rows that are owned -/
def VR (v : Value) (E : TypeId) (sz : Nat) (rows : List (List Value)) : Res where
  dom b := ∃ o m cp, v = .slice (some ⟨b, o, none⟩) m cp
  ok f := (∀ r ∈ rows, r.length = sz) ∧ ((v = .slice none 0 0 ∧ rows = []) ∨ ∃ b o cp pre j, v = .slice (some ⟨b, o, none⟩) rows.length cp ∧ f b = some (cl (pre ++ (rows.flatten ++ j)) E) ∧ pre.length = o ∧ rows.length ≤ cp ∧ cp ≤ maxLen ∧ cp * sz ≤ (rows.flatten ++ j).length)
  loc f g he := fun ⟨h1, h2⟩ => ⟨h1, h2.imp id fun ⟨b, o, cp, pre, j, hv, hb, hr⟩ => ⟨b, o, cp, pre, j, hv, by rw [← he b ⟨o, _, cp, hv⟩]; exact hb, hr⟩⟩
  pres f := fun ⟨_, h2⟩ b ⟨o, m, cp, hv⟩ => by
    rcases h2 with ⟨h3, _⟩ | ⟨b', o', cp', pre, j, h3, hb, _⟩
    · rw [h3] at hv; cases hv
    · rw [h3] at hv; cases hv; rw [hb]; rfl
section
variable {v : Value} {E : TypeId} {sz : Nat} {rows : List (List Value)} {f : Nat → Option Obj}
theorem VR.form (h : (VR v E sz rows).ok f) : (v = .slice none 0 0 ∧ rows = []) ∨ ∃ b o cp, v = .slice (some ⟨b, o, none⟩) rows.length cp ∧ rows.length ≤ cp ∧ cp ≤ maxLen := by
  rcases h.2 with h | ⟨b, o, cp, _, _, h1, _, _, h2, h3, _⟩
  · exact .inl h
  · exact .inr ⟨b, o, cp, h1, h2, h3⟩
theorem VR.one (h : (VR v E sz rows).ok f) : v.oneCell' = true := by rcases VR.form h with ⟨rfl, _⟩ | ⟨_, _, _, rfl, _⟩ <;> rfl
theorem VR.nil : (VR (.slice none 0 0) E sz []).ok f := ⟨by simp, .inl ⟨rfl, rfl⟩⟩
theorem flatten_at {rows : List (List Value)} {sz m k : Nat} {r : List Value} {x : Value} (h : ∀ r ∈ rows, r.length = sz) (hm : rows[m]? = some r) (hk : r[k]? = some x) : rows.flatten[m * sz + k]? = some x := by
  induction rows generalizing m with
  | nil => simp at hm
  | cons q t ih =>
    have hq := h q (by simp)
    cases m with
    | zero =>
      simp only [List.getElem?_cons_zero, Option.some.injEq] at hm
      subst hm
      rw [List.flatten_cons, Nat.zero_mul, Nat.zero_add, List.getElem?_append_left (List.getElem?_eq_some_iff.1 hk).1]; exact hk
    | succ m =>
      rw [List.getElem?_cons_succ] at hm
      rw [List.flatten_cons, List.getElem?_append_right (by rw [hq, Nat.succ_mul]; omega), hq, ← ih (fun r hr => h r (by simp [hr])) hm]
      congr 1
      rw [Nat.succ_mul]; omega
theorem flatten_set {rows : List (List Value)} {sz m k : Nat} {r : List Value} {x : Value} (h : ∀ r ∈ rows, r.length = sz) (hm : rows[m]? = some r) (hk : k < sz) : rows.flatten.set (m * sz + k) x = (rows.set m (r.set k x)).flatten := by
  induction rows generalizing m with
  | nil => simp at hm
  | cons q t ih =>
    have hq := h q (by simp)
    cases m with
    | zero =>
      simp only [List.getElem?_cons_zero, Option.some.injEq] at hm
      subst hm
      rw [List.flatten_cons, Nat.zero_mul, Nat.zero_add, List.set_append_left _ _ (by omega), List.set_cons_zero, List.flatten_cons]
    | succ m =>
      rw [List.getElem?_cons_succ] at hm
      rw [List.flatten_cons, List.set_append_right _ _ (by rw [hq, Nat.succ_mul]; omega), hq, List.set_cons_succ, List.flatten_cons, ← ih (fun r hr => h r (by simp [hr])) hm]
      congr 2
      rw [Nat.succ_mul]; omega
theorem flatten_len {rows : List (List Value)} {sz : Nat} (h : ∀ r ∈ rows, r.length = sz) : rows.flatten.length = rows.length * sz := by
  induction rows with
  | nil => simp
  | cons q t ih => rw [List.flatten_cons, List.length_append, h q (by simp), ih (fun r hr => h r (by simp [hr])), List.length_cons, Nat.succ_mul]; omega
theorem flatten_inv {rows : List (List Value)} {sz j : Nat} {x : Value} (h : ∀ r ∈ rows, r.length = sz) (hj : rows.flatten[j]? = some x) : ∃ m k r, j = m * sz + k ∧ rows[m]? = some r ∧ r[k]? = some x := by
  induction rows generalizing j with
  | nil => simp at hj
  | cons q t ih =>
    have hq := h q (by simp)
    rw [List.flatten_cons] at hj
    by_cases hjq : j < q.length
    · rw [List.getElem?_append_left hjq] at hj
      exact ⟨0, j, q, by simp, rfl, hj⟩
    · rw [List.getElem?_append_right (by omega)] at hj
      obtain ⟨m, k, r, h1, h2, h3⟩ := ih (fun r hr => h r (by simp [hr])) hj
      exact ⟨m + 1, k, r, by rw [Nat.succ_mul]; omega, h2, h3⟩
/-- The cells of a row that is read. -/
theorem Row.cells {α : Type} {S : Res} {X : List Value → α → Prop} {a : Option Addr} {n cp : Nat} : ∀ {l : List α}, Row S sz X (.slice a n cp) l → ∃ rows : List (List Value), rows.length = l.length ∧ (∀ r ∈ rows, r.length = sz) ∧ (∀ (i : Nat) us x, rows[i]? = some us → l[i]? = some x → X us x) ∧
    ∀ j u, rows.flatten[j]? = some u → ∃ b o, a = some ⟨b, o, none⟩ ∧ Rd S ⟨b, o + j, none⟩ u := fun {l} h => by
  obtain ⟨a', cap, h1, _, _, _, h5⟩ := h
  cases h1
  have key : ∀ (k : Nat), k ≤ l.length → ∃ rows : List (List Value), rows.length = k ∧ ∀ (i : Nat) us, rows[i]? = some us → ∃ x b o, l[i]? = some x ∧ a = some ⟨b, o, none⟩ ∧ us.length = sz ∧ Rds S b (o + i * sz) us ∧ X us x := by
    intro k
    induction k with
    | zero => exact fun _ => ⟨[], rfl, fun i us h => by simp at h⟩
    | succ k ih =>
      intro hk
      obtain ⟨rows, g1, g2⟩ := ih (by omega)
      obtain ⟨b, o, us, e1, e2, e3, e4⟩ := h5 k l[k] (List.getElem?_eq_getElem (by omega))
      refine ⟨rows ++ [us], by simp [g1], fun i us' hi => ?_⟩
      by_cases hik : i < rows.length
      · rw [List.getElem?_append_left hik] at hi; exact g2 i us' hi
      · rw [List.getElem?_append_right (by omega)] at hi
        have hi0 : i - rows.length = 0 := by
          have := (List.getElem?_eq_some_iff.1 hi).1
          simp at this; omega
        rw [hi0] at hi
        simp only [List.getElem?_cons_zero, Option.some.injEq] at hi
        subst hi
        have : i = k := by omega
        subst this
        exact ⟨l[i], b, o, List.getElem?_eq_getElem (by omega), e1, e2, e3, e4⟩
  obtain ⟨rows, g1, g2⟩ := key l.length (Nat.le_refl _)
  have hsz : ∀ r ∈ rows, r.length = sz := fun r hr => by
    obtain ⟨i, hi, rfl⟩ := List.mem_iff_getElem.1 hr
    obtain ⟨_, _, _, _, _, e2, _⟩ := g2 i _ (List.getElem?_eq_getElem hi)
    exact e2
  refine ⟨rows, g1, hsz, fun i us x hi hx => ?_, fun j u hj => ?_⟩
  · obtain ⟨x', b, o, e0, _, _, _, e4⟩ := g2 i us hi
    rw [hx] at e0; cases e0; exact e4
  · obtain ⟨m, k, r, rfl, e1, e2⟩ := flatten_inv hsz hj
    obtain ⟨x, b, o, _, e3, e4, e5, _⟩ := g2 m r e1
    exact ⟨b, o, e3, by have := rds_at e5 e2; rwa [Nat.add_assoc] at this⟩
/-- An element of it. -/
theorem rds_vr {b o n cp m : Nat} {r : List Value} (hm : rows[m]? = some r) : Rds (VR (.slice (some ⟨b, o, none⟩) n cp) E sz rows) b (o + m * sz) r := fun i hi w hw => by
  obtain ⟨h1, h2⟩ := hw
  rcases h2 with ⟨h3, _⟩ | ⟨b', o', cp', pre, j, h3, hb, hp, _⟩
  · cases h3
  · cases h3
    have hb' : w.heap[b]? = _ := hb
    have h4 := flatten_at h1 hm (List.getElem?_eq_getElem hi)
    have hlt := (List.getElem?_eq_some_iff.1 h4).1
    simp only [World.cell?, hb', cl, List.getElem?_toArray, Option.isSome_none, Bool.false_eq_true, if_false]
    rw [List.getElem?_append_right (by omega), hp, show o + m * sz + i - o = m * sz + i by omega, List.getElem?_append_left hlt, h4]
theorem row_vr {α : Type} {X : List Value → α → Prop} {l : List α} {S : Res} (hok : ∃ f, (VR v E sz rows).ok f) (hl : rows.length = l.length) (hr : ∀ p u, Rd (VR v E sz rows) p u → Rd S p u) (hx : ∀ (i : Nat) us x, rows[i]? = some us → l[i]? = some x → X us x) : Row S sz X v l := by
  obtain ⟨f, hf⟩ := hok
  rcases VR.form hf with ⟨rfl, h1⟩ | ⟨b, o, cp, rfl, h1, h2⟩
  · have hl0 : l = [] := List.eq_nil_of_length_eq_zero (by rw [← hl, h1]; rfl)
    subst hl0; exact Row.nil
  · refine ⟨some ⟨b, o, none⟩, cp, by rw [hl], by omega, h2, (fun h => by cases h), fun i x hi => ?_⟩
    have hlt : i < rows.length := by rw [hl]; exact (List.getElem?_eq_some_iff.1 hi).1
    have hri : rows[i]? = some rows[i] := List.getElem?_eq_getElem hlt
    exact ⟨b, o, rows[i], rfl, hf.1 _ (List.getElem_mem hlt), fun j hj => hr _ _ (rds_vr hri j hj), hx i _ _ hri hi⟩
end

/-! ### What is done to them -/
section
variable {w : World} {v : Value} {E : TypeId} {sz : Nat} {rows : List (List Value)} {h : SH}
theorem Holds.vr_nil (hh : Holds w h) (E : TypeId) (sz : Nat) : Holds w (VR (.slice none 0 0) E sz [] :: h) := ⟨VR.nil, (fun _ ⟨_, _, _, hv⟩ => by cases hv), hh⟩
/-- One cell of it is written. -/
theorem Holds.vr_set {b o n cp m k : Nat} {r : List Value} {x : Value} (hh : Holds w (VR (.slice (some ⟨b, o, none⟩) n cp) E sz rows :: h)) (hm : rows[m]? = some r) (hk : k < sz) :
    (∃ l, w.heap[b]? = some (cl l E) ∧ o + m * sz + k < l.length) ∧ Holds (w.setCell ⟨b, o + m * sz + k, none⟩ x) (VR (.slice (some ⟨b, o, none⟩) n cp) E sz (rows.set m (r.set k x)) :: h) := by
  obtain ⟨⟨h1, h2⟩, hd, ht⟩ := hh
  rcases h2 with ⟨h3, _⟩ | ⟨b', o', cp', pre, j, h3, hb, hp, hc1, hc2, hc3⟩
  · cases h3
  · cases h3
    have hr := h1 r (List.mem_of_getElem? hm)
    have h4 := flatten_at (k := k) h1 hm (List.getElem?_eq_getElem (by omega))
    have hlt := (List.getElem?_eq_some_iff.1 h4).1
    refine ⟨⟨_, hb, by simp only [List.length_append]; omega⟩, ?_⟩
    have hpt : Holds w (pt b (cl (pre ++ (rows.flatten ++ j)) E) :: h) := ⟨hb, fun c hc => by rw [show c = b from hc]; exact hd b ⟨o, _, cp, rfl⟩, ht⟩
    have hset := Holds.setCell (off := o + m * sz + k) hpt x
    have hl : (pre ++ (rows.flatten ++ j)).set (o + m * sz + k) x = pre ++ ((rows.set m (r.set k x)).flatten ++ j) := by
      rw [List.set_append_right _ _ (by omega), hp, show o + m * sz + k - o = m * sz + k by omega, List.set_append_left _ _ hlt, flatten_set h1 hm hk]
    rw [hl] at hset
    refine ⟨⟨fun q hq => ?_, .inr ⟨b, o, cp, pre, j, by rw [List.length_set], hset.1, hp, by rw [List.length_set]; exact hc1, hc2, ?_⟩⟩, fun c hc => hd c hc, hset.2.2⟩
    · rcases List.mem_or_eq_of_mem_set hq with hq | rfl
      · exact h1 q hq
      · rw [List.length_set]; exact hr
    · have : (rows.set m (r.set k x)).flatten.length = rows.flatten.length := by rw [← flatten_set h1 hm hk, List.length_set]
      rw [List.length_append, this, ← List.length_append]; exact hc3
/-- The first elements of it are left out. -/
theorem Holds.vr_tail {b o n cp m : Nat} (hh : Holds w (VR (.slice (some ⟨b, o, none⟩) n cp) E sz rows :: h)) (hm : m ≤ rows.length) :
    Holds w (VR (.slice (some ⟨b, if cp = m then o else o + m * sz, none⟩) (n - m) (cp - m)) E sz (rows.drop m) :: h) := by
  obtain ⟨⟨h1, h2⟩, hd, ht⟩ := hh
  rcases h2 with ⟨h3, _⟩ | ⟨b', o', cp', pre, j, h3, hb, hp, hc1, hc2, hc3⟩
  · cases h3
  · cases h3
    have hsp : rows.flatten = (rows.take m).flatten ++ (rows.drop m).flatten := by rw [← List.flatten_append, List.take_append_drop]
    have htl : (rows.take m).flatten.length = m * sz := by rw [flatten_len (fun r hr => h1 r (List.mem_of_mem_take hr)), List.length_take, Nat.min_eq_left hm]
    refine ⟨⟨fun q hq => h1 q (List.mem_of_mem_drop hq), .inr ?_⟩, fun c ⟨o', m', cp', hv⟩ => ?_, ht⟩
    · by_cases hcm : cp = m
      · have hn : rows.drop m = [] := List.drop_of_length_le (by omega)
        refine ⟨b, o, cp - m, pre, rows.flatten ++ j, by rw [if_pos hcm, List.length_drop], by rw [hn]; exact hb, hp, by rw [hn]; exact Nat.zero_le _, by omega, by subst hcm; simp⟩
      · refine ⟨b, o + m * sz, cp - m, pre ++ (rows.take m).flatten, j, by rw [if_neg hcm, List.length_drop], by rw [hb, hsp]; simp, by rw [List.length_append, hp, htl], by rw [List.length_drop]; omega, by omega, ?_⟩
        rw [hsp, List.length_append, List.length_append, htl] at hc3
        rw [List.length_append, Nat.sub_mul]; omega
    · cases hv; exact hd _ ⟨_, _, _, rfl⟩
/-- The last ones. -/
theorem Holds.vr_take {b o n cp m : Nat} (hh : Holds w (VR (.slice (some ⟨b, o, none⟩) n cp) E sz rows :: h)) (hm : m ≤ rows.length) :
    Holds w (VR (.slice (some ⟨b, o, none⟩) m cp) E sz (rows.take m) :: h) := by
  obtain ⟨⟨h1, h2⟩, hd, ht⟩ := hh
  rcases h2 with ⟨h3, _⟩ | ⟨b', o', cp', pre, j, h3, hb, hp, hc1, hc2, hc3⟩
  · cases h3
  · cases h3
    have hsp : rows.flatten = (rows.take m).flatten ++ (rows.drop m).flatten := by rw [← List.flatten_append, List.take_append_drop]
    refine ⟨⟨fun q hq => h1 q (List.mem_of_mem_take hq), .inr ⟨b, o, cp, pre, (rows.drop m).flatten ++ j, by rw [List.length_take, Nat.min_eq_left hm], by rw [hb, hsp, List.append_assoc], hp, by rw [List.length_take]; omega, hc2, ?_⟩⟩, fun c ⟨o', m', cp', hv⟩ => ?_, ht⟩
    · rw [← List.append_assoc, ← hsp]; exact hc3
    · cases hv; exact hd _ ⟨_, _, _, rfl⟩
/-- A block of elements is one. -/
theorem Holds.vr_of {b n : Nat} {cells : List Value} (hh : Holds w (pt b (cl cells E) :: h)) (hc : cells = rows.flatten) (h1 : ∀ r ∈ rows, r.length = sz) (hn : rows.length = n) (hm : n ≤ maxLen) : Holds w (VR (.slice (some ⟨b, 0, none⟩) n n) E sz rows :: h) := by
  subst hn hc
  refine ⟨⟨h1, .inr ⟨b, 0, _, [], [], rfl, ?_, rfl, Nat.le_refl _, hm, by rw [List.append_nil, flatten_len h1]; exact Nat.le_refl _⟩⟩, fun c ⟨o', m', cp', hv⟩ => ?_, hh.2.2⟩
  · have := hh.1
    simpa [pt] using this
  · cases hv; exact hh.2.1 _ rfl

theorem run_append_vr {P : Program} {t : TypeId} (ty : TypeId) {z : Value} {bytes : Nat} (ht : P.underlying t = some (.slice E)) (hE : Inf P E z sz bytes) (hzs : z.cells.size = sz) (hsz : 0 < sz)
    (hh : Holds w (VR v E sz rows :: h)) {src : Addr} {m cp : Nat} {news : List (List Value)} (hn1 : ∀ r ∈ news, r.length = sz) (hl : news.length = m)
    (hnews : ∀ j u, news.flatten[j]? = some u → w.cell? (src.add j) = some u) (h1 : ∀ u ∈ news.flatten, u.oneCell' = true) (hb : (rows.length + m) * bytes ≤ 140737488355328) (h63 : rows.length + m ≤ 9223372036854775807) :
    ∃ v' w', (Builtin.append_ #[t, t] ty #[v, .slice (some src) m cp]).run P w = .ok v' w' ∧ Holds w' (VR v' E sz (rows ++ news) :: h) ∧ Same w w' ∧ (v' = .slice none 0 0 ↔ v = .slice none 0 0 ∧ m = 0) := by
  obtain ⟨i, hi, hz, hisz, hiby⟩ := hE.parts
  subst hisz hiby
  have hok : (VR v E i.size rows).ok (hp w) := hh.1
  have hmax : maxLen = 9223372036854775807 := rfl
  have hall : ∀ r ∈ rows ++ news, r.length = i.size := fun r hr => (List.mem_append.1 hr).elim (hok.1 r) (hn1 r)
  have hnl : news.flatten.length = m * i.size := by rw [flatten_len hn1, hl]
  have hrl : rows.flatten.length = rows.length * i.size := flatten_len hok.1
  have newrow : ∀ (old : Nat), old < rows.length + m → ∀ w1 : World, w1 = w.drew.alloc (.cells (rows.flatten.toArray ++ news.flatten.toArray ++ Builtin.zeroCells z.cells (grownCap w (rows.length + m) old E - (rows.length + m))) E) →
      Holds w1 (VR (.slice (some ⟨w.heap.size, 0, none⟩) (rows.length + m) (grownCap w (rows.length + m) old E)) E i.size (rows ++ news) :: h) ∧ Same w w1 := by
    intro old ho w1 hw1
    have hge := grownCap_ge w (rows.length + m) old E
    have hcm : grownCap w (rows.length + m) old E ≤ maxLen := grownCap_le_maxLen w (rows.length + m) old E (by rw [hmax]; exact h63)
    have hH : Holds w.drew h := Holds.grew hh.2.2 (Grew.drawn w _)
    have hA := Holds.alloc hH (.cells (rows.flatten.toArray ++ news.flatten.toArray ++ Builtin.zeroCells z.cells (grownCap w (rows.length + m) old E - (rows.length + m))) E)
    have hobj : (Obj.cells (rows.flatten.toArray ++ news.flatten.toArray ++ Builtin.zeroCells z.cells (grownCap w (rows.length + m) old E - (rows.length + m))) E) = cl ([] ++ ((rows ++ news).flatten ++ (Builtin.zeroCells z.cells (grownCap w (rows.length + m) old E - (rows.length + m))).toList)) E := by
      simp only [cl, Obj.cells.injEq, and_true]
      apply Array.ext'
      simp
    rw [hobj] at hA
    refine ⟨?_, ?_⟩
    · rw [hw1, hobj]
      refine ⟨⟨hall, .inr ⟨w.heap.size, 0, _, [], _, by rw [List.length_append, hl], hA.1, rfl, by rw [List.length_append, hl]; exact hge, hcm, ?_⟩⟩, fun b ⟨o', m', cp', hv⟩ => ?_, hA.2.2⟩
      · have hzl : (Builtin.zeroCells z.cells (grownCap w (rows.length + m) old E - (rows.length + m))).toList.length = (grownCap w (rows.length + m) old E - (rows.length + m)) * i.size := by rw [Array.length_toList, size_zeroCells, hzs]
        rw [List.length_append, flatten_len hall, List.length_append, hl, hzl, ← Nat.add_mul]
        apply Nat.mul_le_mul_right; omega
      · cases hv; exact hA.2.1 _ rfl
    · rw [hw1]; exact (Grew.drawn w _).toSame.trans (Grew.alloc _ _ rfl).toSame
  rcases hok.2 with ⟨rfl, rfl⟩ | ⟨g, o, cap, pre, j, rfl, hg, hpo, hnc, hcm, hcs⟩
  · by_cases hm : m = 0
    · subst hm
      have hn : news = [] := List.eq_nil_of_length_eq_zero hl
      subst hn
      refine ⟨.slice none 0 0, w, ?_, hh, Same.refl w, by simp⟩
      simp [Builtin.append_, run_underlying ht, sizeOf, typeInfo, hi, Builtin.lenOf, Builtin.firstCells, loadCells, loadCellsFrom]
    · have hr := run_append_nil (P := P) w t ty E i z ht hi hz src m cp news.flatten hnl hnews (by omega) (by simp only [List.length_nil] at h63; omega) (by simp only [List.length_nil, Nat.zero_add] at hb; omega)
      have := newrow 0 (by omega) _ rfl
      simp only [List.length_nil, Nat.zero_add, List.nil_append, List.flatten_nil, Array.empty_append] at this hr ⊢
      exact ⟨_, _, hr, this.1, this.2, by simp [hm]⟩
  · have hg' : w.heap[g]? = some (.cells (pre ++ (rows.flatten ++ j)).toArray E (0, 0)) := hg
    by_cases hroom : rows.length + m ≤ cap
    · have hfit : o + rows.length * i.size + 0 + news.flatten.length ≤ (pre ++ (rows.flatten ++ j)).toArray.size := by
        rw [hnl, List.size_toArray, List.length_append, hpo]
        have : (rows.length + m) * i.size ≤ cap * i.size := Nat.mul_le_mul_right _ hroom
        rw [Nat.add_mul] at this
        omega
      have hst := run_storeCells_at P g (o + rows.length * i.size) E news.flatten 0 _ w hg' hfit h1
      simp only [Nat.add_zero] at hst
      have hfc := run_firstCells_some (P := P) w i.size m src m cp news.flatten hnl hnews
      have hr : (Builtin.append_ #[t, t] ty #[.slice (some ⟨g, o, none⟩) rows.length cap, .slice (some src) m cp]).run P w = .ok (.slice (some ⟨g, o, none⟩) (rows.length + m) cap) (w.setRow g ((pre ++ (rows.flatten ++ j)).toArray.toList.take (o + rows.length * i.size) ++ news.flatten ++ (pre ++ (rows.flatten ++ j)).toArray.toList.drop (o + rows.length * i.size + news.flatten.length)).toArray) := by
        simp [Builtin.append_, run_underlying ht, sizeOf, typeInfo, hi, Builtin.lenOf, hroom, hfc, Addr.add_lit, hst]
      have hset := setRow_heap w g (pre ++ (rows.flatten ++ j)).toArray ((pre ++ (rows.flatten ++ j)).toArray.toList.take (o + rows.length * i.size) ++ news.flatten ++ (pre ++ (rows.flatten ++ j)).toArray.toList.drop (o + rows.length * i.size + news.flatten.length)).toArray E (0, 0) hg'
      refine ⟨_, _, hr, ?_, ⟨rfl, rfl, rfl, by simp, fz_one (b := g) (fun o ho => by rw [hg'] at ho; cases ho; rfl) (fun o ho => by rw [hset] at ho; cases ho; rfl) fun c hc => setRow_other w g c _ hc⟩, by simp⟩
      have htk : (pre ++ (rows.flatten ++ j)).take (o + rows.length * i.size) = pre ++ rows.flatten := by
        rw [← List.append_assoc, List.take_left' (by rw [List.length_append, hpo, hrl])]
      have hdr : (pre ++ (rows.flatten ++ j)).drop (o + rows.length * i.size + news.flatten.length) = j.drop news.flatten.length := by
        rw [← List.drop_drop, ← List.append_assoc, List.drop_left' (by rw [List.length_append, hpo, hrl])]
      simp only [htk, hdr] at hset ⊢
      refine ⟨⟨hall, .inr ⟨g, o, cap, pre, j.drop news.flatten.length, by rw [List.length_append, hl], ?_, hpo, by rw [List.length_append, hl]; exact hroom, hcm, ?_⟩⟩, fun b ⟨o', m', cp', hv⟩ => ?_, ?_⟩
      · show w.setRow g _ |>.heap[g]? = _
        rw [hset]; simp [cl]
      · rw [List.length_append, List.length_drop, flatten_len hall, List.length_append, hl, hnl]
        rw [List.length_append, hrl] at hcs
        have h5 : (rows.length + m) * i.size ≤ cap * i.size := Nat.mul_le_mul_right _ hroom
        rw [Nat.add_mul] at h5 ⊢
        omega
      · cases hv; exact hh.2.1 _ ⟨_, _, _, rfl⟩
      · exact HoldsF.loc hh.2.2 fun b hb => (setRow_other w g b _ (fun e => hh.2.1 b ⟨o, rows.length, cap, by rw [e]⟩ hb)).symm
    · have holds : ∀ k u, rows.flatten[k]? = some u → w.cell? ((⟨g, o, none⟩ : Addr).add k) = some u := fun k u hu => by
        rw [Addr.add_lit]
        have hlt := (List.getElem?_eq_some_iff.1 hu).1
        simp only [World.cell?, hg', List.getElem?_toArray, Option.isSome_none, Bool.false_eq_true, if_false]
        rw [List.getElem?_append_right (by omega), hpo, show o + k - o = k by omega, List.getElem?_append_left hlt, hu]
      have hr := run_append_grow (P := P) w t ty E i z ht hi hz ⟨g, o, none⟩ rows.length cap rows.flatten hrl holds src m cp news.flatten hnl hnews (by omega) (by omega) (growslice_fits (by omega) hb)
      have := newrow cap (by omega) _ rfl
      exact ⟨_, _, hr, this.1, this.2, by simp⟩
end
end Go.Ck
