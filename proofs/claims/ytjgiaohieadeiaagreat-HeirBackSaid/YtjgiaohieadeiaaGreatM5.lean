/-
  Rules over rows of elements: loads, stores, slices, append; a row of which one element is looked at; a list of resources of which one is looked at. Generic: nothing of the program is named here. No condition.
  Systems of classes in the machine's memory, as data that is read. Nothing of the program but its types' numbers is named here. No condition.
  The specification: index, Has, parents, reserved; the law's few. Conditions: what is read.
  The specification: parents. Conditions: what is read.
  Package heir: kinds, of. Conditions: what is read.
  Package heir: of, the parents of a class one by one. Conditions: what is read, what is done at each.
  Package heir: the search for ancestors. Conditions: what is read, a system without rings.
  Package heir: above, has; Go's library: Index, Contains. Conditions: what is read, a system without rings.
  Package heir: far. Conditions: what is read.
-/
import Derived.Test.YtjgiaohieadeiaaGreatM4
import Derived.Test.YtjgiaohieadeiaaGreatM1
set_option linter.unusedVariables false
set_option linter.unusedSimpArgs false
namespace Go.Ck
open Go Go.RowKit

section
variable {P : Program} {e : Env} {h h' : SH} {ty : TypeId}
theorem rd_vrk {b o n cp m k sz : Nat} {E : TypeId} {rows : List (List Value)} {r : List Value} {v : Value} (hm : rows[m]? = some r) (hk : r[k]? = some v) : Rd (VR (.slice (some ⟨b, o, none⟩) n cp) E sz rows) ⟨b, o + m * sz + k, none⟩ v := rds_at (rds_vr hm) hk
theorem v_sliceTail {T E : TypeId} {x y : Operand} {b o n cp lo sz : Nat} {i : Int} {k : IntKind} (hx : e.ev? x = some (.slice (some ⟨b, o, none⟩) n cp)) (hy : e.ev? y = some (.int k i)) (hT : SlE P T E sz)
    (hi' : i = (lo : Int)) (h1 : lo ≤ n) (hc : n ≤ cp) : Vop P e h (.slice T x (some y) none none) ty (.slice (some ⟨b, if cp = lo then o else o + lo * sz, none⟩) (n - lo) (cp - lo)) :=
  ⟨by simp, by simp, fun ρ w d pos after g hρ _ => by
    subst hi'
    have hT' : P.underlying T = some (.slice (P.elem T)) := by simp [Program.elem, hT.1]
    have he : P.elem T = E := by simp [Program.elem, hT.1]
    have hr := run_slice_l (P := P) w T (some ⟨b, o, none⟩) n cp hT' k lo (by omega) (by omega)
    have hs : sliced (some ⟨b, o, none⟩) lo n cp sz = .slice (some ⟨b, if cp = lo then o else o + lo * sz, none⟩) (n - lo) (cp - lo) := by
      unfold sliced; by_cases hcl : cp = lo <;> simp [hcl, Addr.add_lit]
    simp only [he, hT.2 w, Result.andThen_ok, Int.toNat_natCast, hs] at hr
    simp only [execOp, hρ x _ hx, Option.map_some, Option.map_none, hρ y _ hy, Sem.run_bind, run_sliceAt_slice w T _ _ _ _ hT', hr, Result.andThen_ok, Sem.run_pure]⟩
theorem v_sliceHead {T E : TypeId} {x y : Operand} {b o n cp hi sz : Nat} {i : Int} {k : IntKind} (hx : e.ev? x = some (.slice (some ⟨b, o, none⟩) n cp)) (hy : e.ev? y = some (.int k i)) (hT : SlE P T E sz)
    (hi' : i = (hi : Int)) (h1 : hi ≤ cp) : Vop P e h (.slice T x none (some y) none) ty (.slice (some ⟨b, o, none⟩) hi cp) :=
  ⟨by simp, by simp, fun ρ w d pos after g hρ _ => by
    subst hi'
    have hT' : P.underlying T = some (.slice (P.elem T)) := by simp [Program.elem, hT.1]
    have he : P.elem T = E := by simp [Program.elem, hT.1]
    have hr := run_slice_h (P := P) w T (some ⟨b, o, none⟩) n cp hT' k hi (by omega) (by omega)
    have hs : sliced (some ⟨b, o, none⟩) 0 hi cp sz = .slice (some ⟨b, o, none⟩) hi cp := by
      unfold sliced; by_cases hcl : cp = 0 <;> simp [hcl, Addr.add_lit]
    simp only [he, hT.2 w, Result.andThen_ok, Int.toNat_natCast, Int.toNat_zero, hs] at hr
    simp only [execOp, hρ x _ hx, Option.map_some, Option.map_none, hρ y _ hy, Sem.run_bind, run_sliceAt_slice w T _ _ _ _ hT', hr, Result.andThen_ok, Sem.run_pure]⟩
end

/-! ## What is known without a step -/
section
variable {c : Cx} {ops : Array Oper} {K : Act → World → Prop} {rest : List Oper} {e : Env} {h h' : SH} {Q : Exit → Act → World → Prop} {x : Code} {ex : Exit} {r : Res}
theorem cd_ok (s : Sel h r h') (hc : (∃ f, r.ok f) → Cd c x Q e h) : Cd c x Q e h := fun a w hk hh hw => hc ⟨_, (hh.sel s).1⟩ a w hk hh hw
theorem st_ok (s : Sel h r h') (hc : (∃ f, r.ok f) → St c ops K rest e h) : St c ops K rest e h := fun a w hk hh hw => hc ⟨_, (hh.sel s).1⟩ a w hk hh hw
theorem xt_ok (s : Sel h r h') (hc : (∃ f, r.ok f) → Xt c ex Q e h) : Xt c ex Q e h := fun a w hk hh hw => hc ⟨_, (hh.sel s).1⟩ a w hk hh hw
/-- What lies there is looked at in another way. -/
def Vw (h h' : SH) : Prop := ∀ w : World, Holds w h → Holds w h'
theorem cd_vw (hv : Vw h h') (hc : Cd c x Q e h') : Cd c x Q e h := fun a w hk hh hw => hc a w hk (hv w hh) hw
theorem st_vw (hv : Vw h h') (hc : St c ops K rest e h') : St c ops K rest e h := fun a w hk hh hw => hc a w hk (hv w hh) hw
theorem xt_vw (hv : Vw h h') (hc : Xt c ex Q e h') : Xt c ex Q e h := fun a w hk hh hw => hc a w hk (hv w hh) hw
theorem nx_vw (hv : Vw h h') (hc : Nx c K e h') : Nx c K e h := fun a w hk hh hw => hc a w hk (hv w hh) hw
theorem Vw.sel {k : SH} (s : Sel h r h') (hv : Vw (r :: h') k) : Vw h k := fun w hh => hv w (hh.sel s)
theorem Vw.pk {k hr m : SH} (p : Pk h k hr) (hv : Vw (k ++ hr) m) : Vw h m := fun w hh => hv w (hh.pk p)
theorem Vw.trans {a b d : SH} (p : Vw a b) (q : Vw b d) : Vw a d := fun w h => q w (p w h)
theorem Vw.of_sub {k : SH} (s : Sub k h) : Vw h k := fun _ hh => hh.sub s
theorem Vw.refl : Vw h h := fun _ hh => hh
theorem Vw.frame {a b : SH} (hv : Vw a b) (hl : ∀ w : World, Holds w a → ∀ x, SH.dom b x → SH.dom a x) {k : SH} : Vw (a ++ k) (b ++ k) := fun w hh => by
  obtain ⟨h1, h2, h3⟩ := HoldsF.append.1 hh
  exact HoldsF.append.2 ⟨hv w h1, h2, fun x hx => h3 x (hl w h1 x hx)⟩
theorem vw_star {L k : SH} : Vw (Res.star L :: k) (L ++ k) := fun _ hh => holds_star1.1 hh
theorem vw_unstar {L k : SH} : Vw (L ++ k) (Res.star L :: k) := fun _ hh => holds_star1.2 hh
/-- Equal parts put for each other. -/
theorem vw_eq (he : h = h') : Vw h h' := he ▸ Vw.refl
end

/-! ## Rows -/
section
variable {v : Value} {E : TypeId} {sz : Nat} {rows rows' : List (List Value)} {h h' : SH}
theorem vw_tail {b o n cp m : Nat} (hm : m ≤ rows.length) : Vw (VR (.slice (some ⟨b, o, none⟩) n cp) E sz rows :: h) (VR (.slice (some ⟨b, if cp = m then o else o + m * sz, none⟩) (n - m) (cp - m)) E sz (rows.drop m) :: h) := fun _ hh => hh.vr_tail hm
theorem vw_take {b o n cp m : Nat} (hm : m ≤ rows.length) : Vw (VR (.slice (some ⟨b, o, none⟩) n cp) E sz rows :: h) (VR (.slice (some ⟨b, o, none⟩) m cp) E sz (rows.take m) :: h) := fun _ hh => hh.vr_take hm
theorem vw_of {b n : Nat} {cells : List Value} (rows : List (List Value)) (hc : cells = rows.flatten) (h1 : ∀ r ∈ rows, r.length = sz) (hn : rows.length = n) (hm : n ≤ maxLen) : Vw (pt b (cl cells E) :: h) (VR (.slice (some ⟨b, 0, none⟩) n n) E sz rows :: h) := fun _ hh => hh.vr_of hc h1 hn hm
theorem vw_nil (E : TypeId) (sz : Nat) : Vw h (VR (.slice none 0 0) E sz [] :: h) := fun _ hh => hh.vr_nil E sz
end
section
variable {c : Cx} {ops : Array Oper} {K : Act → World → Prop} {rest : List Oper} {e : Env} {h h' : SH} {Q : Exit → Act → World → Prop} {x : Code} {ex : Exit}
variable {v : Value} {E : TypeId} {sz : Nat} {rows rows' : List (List Value)}
/-- A row is nil or lies somewhere. -/
theorem cd_row (s : Sel h (VR v E sz rows) h') (h0 : v = .slice none 0 0 → rows = [] → Cd c x Q e h) (h1 : ∀ b o cp, v = .slice (some ⟨b, o, none⟩) rows.length cp → rows.length ≤ cp → cp ≤ maxLen → Cd c x Q e h) : Cd c x Q e h :=
  cd_ok s fun ⟨_, hf⟩ => (VR.form hf).elim (fun ⟨a, b⟩ => h0 a b) fun ⟨b, o, cp, h2, h3, h4⟩ => h1 b o cp h2 h3 h4
theorem st_row (s : Sel h (VR v E sz rows) h') (h0 : v = .slice none 0 0 → rows = [] → St c ops K rest e h) (h1 : ∀ b o cp, v = .slice (some ⟨b, o, none⟩) rows.length cp → rows.length ≤ cp → cp ≤ maxLen → St c ops K rest e h) : St c ops K rest e h :=
  st_ok s fun ⟨_, hf⟩ => (VR.form hf).elim (fun ⟨a, b⟩ => h0 a b) fun ⟨b, o, cp, h2, h3, h4⟩ => h1 b o cp h2 h3 h4
/-- A row is a slice of so many elements. -/
theorem cd_rowf (s : Sel h (VR v E sz rows) h') (hc : ∀ a cp, v = .slice a rows.length cp → rows.length ≤ cp → cp ≤ maxLen → Cd c x Q e h) : Cd c x Q e h :=
  cd_row s (fun h1 h2 => hc none 0 (by rw [h1, h2]; rfl) (by rw [h2]; exact Nat.le_refl _) (Nat.zero_le _)) fun b o cp h1 h2 h3 => hc _ cp h1 h2 h3
theorem st_rowf (s : Sel h (VR v E sz rows) h') (hc : ∀ a cp, v = .slice a rows.length cp → rows.length ≤ cp → cp ≤ maxLen → St c ops K rest e h) : St c ops K rest e h :=
  st_row s (fun h1 h2 => hc none 0 (by rw [h1, h2]; rfl) (by rw [h2]; exact Nat.le_refl _) (Nat.zero_le _)) fun b o cp h1 h2 h3 => hc _ cp h1 h2 h3
/-- One cell of a row is written. -/
theorem st_vr {T : TypeId} {x y : Operand} {ty : TypeId} {pos : String} {after : Array Edge} {b o n cp m k : Nat} {r : List Value} {u : Value}
    (hx : e.ev? x = some (.pointer (some ⟨b, o + m * sz + k, none⟩))) (hy : e.ev? y = some u) (hT : Sz c.P T 1) (hv : u.oneCell' = true) (hm : rows[m]? = some r) (hk : k < sz) (hl : rows.set m (r.set k u) = rows') (hs : Sel h (VR (.slice (some ⟨b, o, none⟩) n cp) E sz rows) h')
    (hn : St c ops K rest e (VR (.slice (some ⟨b, o, none⟩) n cp) E sz rows' :: h')) :
    St c ops K (⟨none, .store T x y, ty, pos, after, none⟩ :: rest) e h :=
  st_any (by simp) fun a w hk' hh hs' => by
    obtain ⟨⟨l, h1, h2⟩, h3⟩ := (hh.sel hs).vr_set (x := u) hm hk
    have hr := run_store1 hT hv (E := E) (l := l) h1 h2
    simp only [execOp, hk'.ev hx, hk'.ev hy, Sem.run_bind, hr, Result.andThen_ok, Sem.run_pure]
    rw [hl] at h3
    exact hn _ _ hk' h3 (hs'.trans (Same.setCell _ _ _))
/-- append(v, ..) -/
theorem st_appA {d : Nat} {t ty : TypeId} {x y : Operand} {pos : String} {after : Array Edge} {z : Value} {bytes m cp : Nat} {src : Addr} (news : List (List Value))
    (hx : e.ev? x = some v) (hy : e.ev? y = some (.slice (some src) m cp)) (ht : c.P.underlying t = some (.slice E)) (hE : Inf c.P E z sz bytes) (hzs : z.cells.size = sz) (hsz : 0 < sz)
    (hs : Sel h (VR v E sz rows) h') (hn1 : ∀ r ∈ news, r.length = sz) (hl : news.length = m) (hnews : ∀ j u, news.flatten[j]? = some u → At h (src.add j) u) (h1 : ∀ u ∈ news.flatten, u.oneCell' = true)
    (hb : (rows.length + m) * bytes ≤ 140737488355328) (h63 : rows.length + m ≤ 9223372036854775807) (hd : d < c.n)
    (hnx : ∀ v', v'.oneCell' = true → (v' = .slice none 0 0 ↔ v = .slice none 0 0 ∧ m = 0) → St c ops K rest ((d, v') :: e) (VR v' E sz (rows ++ news) :: h')) :
    St c ops K (⟨some d, .call { callee := .builtin .append, args := #[x, y], argTypes := #[t, t] }, ty, pos, after, none⟩ :: rest) e h :=
  st_any (by simp) fun a w hk hh hw => by
    obtain ⟨v', w', hr, hH, hS, hv⟩ := run_append_vr (P := c.P) ty ht hE hzs hsz (hh.sel hs) (src := src) (cp := cp) hn1 hl (fun j u hu => (hnews j u hu).cell hh) h1 hb h63
    simp only [execOp, resolve, invoke, builtin, hk.ev hx, hk.ev hy, Sem.run_bind, Sem.run_pure, Result.andThen_ok, List.map_toArray, List.map_cons, List.map_nil, hr]
    exact hnx v' (VR.one hH.1) hv _ w' (hk.put _ hd) hH (hw.trans hS)
theorem st_app {d : Nat} {t ty : TypeId} {x y : Operand} {pos : String} {after : Array Edge} {z : Value} {bytes sb so m cp : Nat} (news : List (List Value))
    (hx : e.ev? x = some v) (hy : e.ev? y = some (.slice (some ⟨sb, so, none⟩) m cp)) (ht : c.P.underlying t = some (.slice E)) (hE : Inf c.P E z sz bytes) (hzs : z.cells.size = sz) (hsz : 0 < sz)
    (hs : Sel h (VR v E sz rows) h') (hn1 : ∀ r ∈ news, r.length = sz) (hl : news.length = m) (hnews : ∀ j u, news.flatten[j]? = some u → At h ⟨sb, so + j, none⟩ u) (h1 : ∀ u ∈ news.flatten, u.oneCell' = true)
    (hb : (rows.length + m) * bytes ≤ 140737488355328) (h63 : rows.length + m ≤ 9223372036854775807) (hd : d < c.n)
    (hnx : ∀ v', v'.oneCell' = true → (v' = .slice none 0 0 ↔ v = .slice none 0 0 ∧ m = 0) → St c ops K rest ((d, v') :: e) (VR v' E sz (rows ++ news) :: h')) :
    St c ops K (⟨some d, .call { callee := .builtin .append, args := #[x, y], argTypes := #[t, t] }, ty, pos, after, none⟩ :: rest) e h :=
  st_appA news hx hy ht hE hzs hsz hs hn1 hl (fun j u hu => by rw [Addr.add_lit]; exact hnews j u hu) h1 hb h63 hd hnx
/-- []T{} -/
theorem st_bs0 {d : Nat} {T ty : TypeId} {pos : String} {after : Array Edge} {z : Value} {bytes : Nat} (hT : c.P.underlying T = some (.slice E)) (hE : Inf c.P E z sz bytes)
    (hnx : ∀ b, St c ops K rest ((d, .slice (some ⟨b, 0, none⟩) 0 0) :: e) (VR (.slice (some ⟨b, 0, none⟩) 0 0) E sz [] :: h)) (hd : d < c.n := by exact ltn rfl) :
    St c ops K (⟨some d, .buildSlice T 0 #[], ty, pos, after, none⟩ :: rest) e h :=
  st_buildSlice0 (sz := sz) hT hE hd fun b => fun a w hk hh hw => hnx b a w hk (by
    obtain ⟨h1, h2, h3⟩ := hh
    rcases h1.2 with ⟨h4, _⟩ | ⟨b', cp, j, h4, h5, _⟩
    · cases h4
    · cases h4
      exact ⟨⟨by simp, .inr ⟨b, 0, 0, [], j, rfl, by simpa using h5, rfl, Nat.le_refl _, Nat.zero_le _, by simp⟩⟩, fun x ⟨o, m, cp, hv⟩ => (by cases hv; exact h2 _ ⟨_, _, rfl⟩), h3⟩) hw
end

/-! ## One of many -/
def upd {α : Type} (f : Nat → α) (i : Nat) (x : α) : Nat → α := fun k => if k = i then x else f k
theorem upd_same {α : Type} (f : Nat → α) (i : Nat) (x : α) : upd f i x i = x := if_pos rfl
theorem upd_ne {α : Type} (f : Nat → α) {i k : Nat} (x : α) (h : k ≠ i) : upd f i x k = f k := if_neg h
theorem upd_self {α : Type} (f : Nat → α) (i : Nat) : upd f i (f i) = f := funext fun k => by unfold upd; split <;> simp_all
theorem upd_upd {α : Type} (f : Nat → α) (i : Nat) (x y : α) : upd (upd f i x) i y = upd f i y := funext fun k => by unfold upd; split <;> rfl
/-- The row of n, in which c stands at i. -/
def foc {α : Type} (n i : Nat) (c : α) (g : Nat → α) : List α := (List.range n).map (upd g i c)
theorem foc_get {α : Type} {n i : Nat} {c : α} {g : Nat → α} (hi : i < n) : (foc n i c g)[i]? = some c := by simp [foc, List.getElem?_map, List.getElem?_range, hi, upd_same]
theorem foc_set {α : Type} {n i : Nat} {c c' : α} {g : Nat → α} : (foc n i c g).set i c' = foc n i c' g := by
  apply List.ext_getElem?
  intro k
  simp only [foc, List.getElem?_set, List.length_map, List.length_range, List.getElem?_map]
  by_cases hk : i = k
  · subst hk
    rw [if_pos rfl]
    by_cases hn : i < n <;> simp [hn, upd_same, List.getElem?_range]
  · rw [if_neg hk]
    by_cases hn : k < n <;> simp [hn, upd_ne _ _ (Ne.symm hk), List.getElem?_range]
theorem foc_self {α : Type} (n i : Nat) (g : Nat → α) : (List.range n).map g = foc n i (g i) g := by rw [foc, upd_self]
theorem foc_upd {α : Type} (n i : Nat) (c : α) (g : Nat → α) : foc n i c g = (List.range n).map (upd g i c) := rfl
theorem foc_length {α : Type} (n i : Nat) (c : α) (g : Nat → α) : (foc n i c g).length = n := by simp [foc]
def others (n i : Nat) : List Nat := (List.range n).filter fun k => decide (k ≠ i)
/-- The resources but that at i. -/
def RSx (n i : Nat) (R : Nat → Res) : Res := Res.star ((others n i).map R)
def RS (n : Nat) (R : Nat → Res) : Res := Res.star ((List.range n).map R)
theorem filter_ne_perm : ∀ (l : List Nat) (i : Nat), l.Nodup → i ∈ l → l.Perm (i :: l.filter fun k => decide (k ≠ i))
  | [], i, _, h => by simp at h
  | a :: t, i, hn, h => by
    rw [List.nodup_cons] at hn
    by_cases ha : a = i
    · subst ha
      have : (t.filter fun k => decide (k ≠ a)) = t := List.filter_eq_self.2 fun x hx => by simp; exact fun e => hn.1 (e ▸ hx)
      rw [List.filter_cons_of_neg (by simp), this]
    · rw [List.filter_cons_of_pos (by simp [ha])]
      have hm : i ∈ t := by rcases List.mem_cons.1 h with h | h; exact absurd h.symm ha; exact h
      exact ((filter_ne_perm t i hn.2 hm).cons a).trans (.swap _ _ _)
theorem RSx_upd {n i : Nat} {R : Nat → Res} {r : Res} : RSx n i (upd R i r) = RSx n i R := by
  unfold RSx
  congr 1
  refine List.map_congr_left fun k hk => ?_
  have := (List.mem_filter.1 hk).2
  simp at this
  exact upd_ne _ _ this
theorem RSx_congr {n i : Nat} {R R' : Nat → Res} (h : ∀ k, k ≠ i → R k = R' k) : RSx n i R = RSx n i R' := by
  unfold RSx
  congr 1
  refine List.map_congr_left fun k hk => ?_
  have := (List.mem_filter.1 hk).2
  simp at this
  exact h k this
theorem vw_foc {n i : Nat} {R : Nat → Res} {h : SH} (hi : i < n) : Vw (RS n R :: h) (R i :: RSx n i R :: h) := fun w hh => by
  have hp := (filter_ne_perm (List.range n) i List.nodup_range (by simpa using hi)).map R
  have h1 : Holds w ((List.range n).map R ++ h) := holds_star1.1 hh
  have h2 : Holds w (R i :: ((others n i).map R ++ h)) := h1.perm (hp.append_right h)
  have h3 : Holds w (((others n i).map R) ++ (R i :: h)) := h2.perm List.perm_middle.symm
  have h4 : Holds w (RSx n i R :: R i :: h) := holds_star1.2 h3
  exact h4.perm (.swap _ _ _)
theorem vw_unfoc {n i : Nat} {R : Nat → Res} {h : SH} (hi : i < n) : Vw (R i :: RSx n i R :: h) (RS n R :: h) := fun w hh => by
  have hp := (filter_ne_perm (List.range n) i List.nodup_range (by simpa using hi)).map R
  have h1 : Holds w (RSx n i R :: R i :: h) := hh.perm (.swap _ _ _)
  have h2 : Holds w ((others n i).map R ++ (R i :: h)) := holds_star1.1 h1
  have h3 : Holds w (R i :: ((others n i).map R ++ h)) := h2.perm List.perm_middle
  have h4 : Holds w ((List.range n).map R ++ h) := h3.perm ((hp.append_right h).symm)
  exact holds_star1.2 h4
/-- With another one at i. -/
theorem vw_unfoc' {n i : Nat} {R R' : Nat → Res} {h : SH} (hi : i < n) (hne : ∀ k, k ≠ i → R k = R' k) : Vw (R' i :: RSx n i R :: h) (RS n R' :: h) := by
  rw [RSx_congr hne]; exact vw_unfoc hi
theorem RS_in {n i : Nat} {R : Nat → Res} (hi : i < n) (p : Addr) (v : Value) (h : Rd (R i) p v) : Rd (RS n R) p v := fun w hw => by
  have h1 : HoldsF (hp w) ((List.range n).map R ++ []) := by simpa [RS, Res.star] using hw
  have h2 : Holds w (RS n R :: []) := holds_star1.2 h1
  exact h w (vw_foc hi w h2).1
section
variable {P : Program} {e : Env} {h : SH} {ty : TypeId}
/-- A load; what is read is looked for among what is known. -/
theorem v_ldy {T : TypeId} {x : Operand} {p : Addr} {v : Value} (hx : e.ev? x = some (.pointer (some p))) (hT : Ld1 P T)
    (ha : At h p v := by repeat (first | exact at_here (rd_cl (by rfl)) | exact at_here (rds_at (by assumption) (by rfl)) | exact at_here (rd_vrk (foc_get (by assumption)) (by rfl)) | exact at_here (rd_vrk (by rfl) (by rfl)) | exact at_here (by assumption) | apply at_there)) : Vop P e h (.load T x) ty v := v_load hx hT ha
/-- A load of several cells. -/
theorem v_ldn {T : TypeId} {x : Operand} {b o n : Nat} {vs : List Value} {r : Res} {h' : SH} (hx : e.ev? x = some (.pointer (some ⟨b, o, none⟩))) (hT : LdN P T n) (hl : vs.length = n) (hr : Rds r b o vs) (s : Sel h r h' := by repeat (first | exact Sel.here | apply Sel.there)) :
    Vop P e h (.load T x) ty (.agg vs.toArray) := v_loadR hx hT hl s hr
end
section
variable {c : Cx} {ops : Array Oper} {K : Act → World → Prop} {rest : List Oper} {e : Env} {h k k' hr : SH} {Q : Exit → Act → World → Prop} {x : Code} {ex : Exit}
/-- Some of what lies there is looked at in another way. -/
theorem cd_pv (hv : ∀ t, Vw (k ++ t) (k' ++ t)) (hc : Cd c x Q e (k' ++ hr)) (p : Pk h k hr := by repeat (first | exact Pk.nil | (apply Pk.cons; (repeat (first | exact Sel.here | apply Sel.there))))) : Cd c x Q e h := cd_vw (Vw.pk p (hv hr)) hc
theorem st_pv (hv : ∀ t, Vw (k ++ t) (k' ++ t)) (hc : St c ops K rest e (k' ++ hr)) (p : Pk h k hr := by repeat (first | exact Pk.nil | (apply Pk.cons; (repeat (first | exact Sel.here | apply Sel.there))))) : St c ops K rest e h := st_vw (Vw.pk p (hv hr)) hc
theorem xt_pv (hv : ∀ t, Vw (k ++ t) (k' ++ t)) (hc : Xt c ex Q e (k' ++ hr)) (p : Pk h k hr := by repeat (first | exact Pk.nil | (apply Pk.cons; (repeat (first | exact Sel.here | apply Sel.there))))) : Xt c ex Q e h := xt_vw (Vw.pk p (hv hr)) hc
theorem nx_pv (hv : ∀ t, Vw (k ++ t) (k' ++ t)) (hc : Nx c K e (k' ++ hr)) (p : Pk h k hr := by repeat (first | exact Pk.nil | (apply Pk.cons; (repeat (first | exact Sel.here | apply Sel.there))))) : Nx c K e h := nx_vw (Vw.pk p (hv hr)) hc
theorem pv_eq {a b : Res} (he : a = b) : ∀ t, Vw ([a] ++ t) ([b] ++ t) := fun t => by rw [he]; exact Vw.refl
theorem pv_of {b n : Nat} {E : TypeId} {sz : Nat} {cells : List Value} (rows : List (List Value)) (hc : cells = rows.flatten) (h1 : ∀ r ∈ rows, r.length = sz) (hn : rows.length = n) (hm : n ≤ maxLen) : ∀ t, Vw ([pt b (cl cells E)] ++ t) ([VR (.slice (some ⟨b, 0, none⟩) n n) E sz rows] ++ t) := fun t => vw_of rows hc h1 hn hm
theorem pv_snoc {L : SH} {r : Res} : ∀ t, Vw ([Res.star L, r] ++ t) ([Res.star (L ++ [r])] ++ t) := fun t w hh => by
  refine holds_star1.2 ?_
  have h1 := holds_star1.1 hh
  rw [List.append_assoc]; exact h1
theorem pv_add {r : Res} (ht : ∀ (w : World) (h : SH), Holds w h → Holds w (r :: h)) : ∀ t, Vw ([] ++ t) ([r] ++ t) := fun t w hh => ht w t hh
theorem pv_pack {L : SH} : ∀ t, Vw (L ++ t) ([Res.star L] ++ t) := fun t => vw_unstar
theorem pv_unpack {L : SH} : ∀ t, Vw ([Res.star L] ++ t) (L ++ t) := fun t => vw_star
end
end Go.Ck
namespace Go.Hr
open Go Go.RowKit Go.Ck
def strC (us : List Value) (n : Nm) : Prop := us = [sv n]
def parC (us : List Value) (p : Nm) : Prop := ∃ a b c d e, us = [sv p, a, b, c, d, e] ∧ [sv p, a, b, c, d, e].all Value.oneCell' = true
def clsC (S : Res) (us : List Value) (x : Cls) : Prop := ∃ d f pv c fa fc i, us = [sv x.name, d, f, pv, c, .slice fa x.feats fc, i] ∧ [sv x.name, d, f, pv, c, .slice fa x.feats fc, i].all Value.oneCell' = true ∧ Row S 6 parC pv x.parents
def sysR (S : Res) (v : Value) (l : Sys) : Prop := Row S 7 (clsC S) v l
def nmsR (S : Res) (v : Value) (xs : List Nm) : Prop := Row S 1 strC v xs
section
variable {S S' : Res} (hr : ∀ p u, Rd S p u → Rd S' p u)
include hr
theorem clsC.mono {us : List Value} {x : Cls} (h : clsC S us x) : clsC S' us x := let ⟨d, f, pv, c, fa, fc, i, h1, h0, h2⟩ := h; ⟨d, f, pv, c, fa, fc, i, h1, h0, h2.mono hr fun _ _ _ h => h⟩
theorem sysR.mono {v : Value} {l : Sys} (h : sysR S v l) : sysR S' v l := Row.mono h hr fun _ _ _ h => clsC.mono hr h
theorem nmsR.mono {v : Value} {xs : List Nm} (h : nmsR S v xs) : nmsR S' v xs := Row.mono h hr fun _ _ _ h => h
end
section
variable {S : Res} {v : Value} {l : Sys}
/-- A class, its name and its parents. -/
theorem sys_at (h : sysR S v l) {i : Nat} {x : Cls} (hi : l[i]? = some x) : ∃ b o cap d f pa pc c fa fc j, v = .slice (some ⟨b, o, none⟩) l.length cap ∧ Rds S b (o + i * 7) [sv x.name, d, f, .slice pa x.parents.length pc, c, .slice fa x.feats fc, j] ∧ Row S 6 parC (.slice pa x.parents.length pc) x.parents ∧ [sv x.name, d, f, .slice pa x.parents.length pc, c, .slice fa x.feats fc, j].all Value.oneCell' = true := by
  obtain ⟨b, o, cap, us, h1, _, h3, d, f, pv, c, fa, fc, j, rfl, h0, h4⟩ := Row.at h hi
  obtain ⟨pa, pc, rfl, _⟩ := id h4
  exact ⟨b, o, cap, d, f, pa, pc, c, fa, fc, j, h1, h3, h4, h0⟩
theorem par_at {pv : Value} {ps : List Nm} (h : Row S 6 parC pv ps) {i : Nat} {p : Nm} (hi : ps[i]? = some p) : ∃ b o cap a c d e f, pv = .slice (some ⟨b, o, none⟩) ps.length cap ∧ Rds S b (o + i * 6) [sv p, a, c, d, e, f] ∧ [sv p, a, c, d, e, f].all Value.oneCell' = true := by
  obtain ⟨b, o, cap, us, h1, _, h3, a, c, d, e, f, rfl, h0⟩ := Row.at h hi
  exact ⟨b, o, cap, a, c, d, e, f, h1, h3, h0⟩
theorem nms_at {xs : List Nm} (h : nmsR S v xs) {i : Nat} {x : Nm} (hi : xs[i]? = some x) : ∃ b o cap, v = .slice (some ⟨b, o, none⟩) xs.length cap ∧ Rd S ⟨b, o + i * 1, none⟩ (sv x) := by
  obtain ⟨b, o, cap, u, h1, h2, h3⟩ := Row.at1 h hi
  simp only [strC, List.cons.injEq, and_true] at h3
  subst h3
  exact ⟨b, o, cap, h1, h2⟩
end
/-! ## Names that are owned -/
def nC (n : Nm) : List Value := [sv n]
def NR (v : Value) (xs : List Nm) : Res := VR v 9 1 (xs.map nC)
theorem nms_own {v : Value} {xs : List Nm} (hok : ∃ f, (NR v xs).ok f) : nmsR (NR v xs) v xs :=
  row_vr hok (by simp) (fun _ _ h => h) fun i us x h1 h2 => by
    rw [List.getElem?_map, h2] at h1
    simp only [Option.map_some, Option.some.injEq] at h1
    rw [← h1]; rfl
/-- What index hands back. -/
def ixN (l : Sys) (c : Nm) : Int := match idx l c with | some i => i | none => -1
theorem ixN_some {l : Sys} {c : Nm} {i : Nat} (hi : i < l.length) (he : (l[i]).name = c) (hne : ∀ (j : Nat) (y : Cls), j < i → l[j]? = some y → y.name ≠ c) : idx l c = some i := by
  unfold idx
  rw [List.findIdx?_eq_some_iff_getElem]
  exact ⟨hi, by simp [he], fun j hj => by simpa using hne j _ hj (List.getElem?_eq_getElem (by omega))⟩
theorem ixN_none {l : Sys} {c : Nm} (hne : ∀ (j : Nat) (y : Cls), j < l.length → l[j]? = some y → y.name ≠ c) : idx l c = none := by
  unfold idx
  rw [List.findIdx?_eq_none_iff]
  intro x hx
  obtain ⟨j, hj, rfl⟩ := List.getElem_of_mem hx
  simpa using hne j _ hj (List.getElem?_eq_getElem hj)
theorem idx_find {l : Sys} {c : Nm} : (∀ i, idx l c = some i → ∃ x, l[i]? = some x ∧ find l c = some x) ∧ (idx l c = none → find l c = none) := by
  constructor
  · intro i h
    obtain ⟨hi, h1, h2⟩ := List.findIdx?_eq_some_iff_getElem.1 h
    exact ⟨l[i], List.getElem?_eq_getElem hi, by
      unfold find
      rw [List.find?_eq_some_iff_getElem]
      exact ⟨h1, i, hi, rfl, fun j hj => by simpa using h2 j hj⟩⟩
  · intro h
    unfold idx at h
    rw [List.findIdx?_eq_none_iff] at h
    unfold find
    rw [List.find?_eq_none]
    intro x hx
    simpa using h x hx
end Go.Hr
namespace Go.Hr
open Go Go.Ck Go.Proofs Go.Proofs.YtjgiaohieadeiaaGreat Fx
attribute [local irreducible] Go.Ck.Sub St Cd Xt Nx DrL LsW
section
variable {S : Res} {v : Value} {l : Sys}
set_option maxRecDepth 100000 in
theorem index_ct (hv : sysR S v l) (c : Nm) (hl : l.length ≤ 1099511627776) : Reads Tryz.prog 67 #[v, sv c] [S] (.int .i64 (ixN l c)) := by
  obtain ⟨a, cap, rfl, _⟩ := id hv
  refine ct_of (n := 20) Tryz.func67 rfl rfl (len rfl) fun hr w0 => ?_
  refine cd_seq (cd_region (st_v (v_assign rfl) (st_nil (nx_then (cd_seq (cd_seq (cd_region (st_v (v_assign rfl) (st_nil (nx_then (cd_block (cd_lq (σ := Nat) (fun i => [(0, .slice a l.length cap), (1, sv c), (5, .int .i64 (i : Nat))]) (fun _ => S :: hr) (fun i => i ≤ l.length ∧ ∀ (j : Nat) (y : Cls), j < i → l[j]? = some y → y.name ≠ c) (fun i => l.length - i) 0 ⟨Nat.zero_le _, fun j y hj => by omega⟩ ?_))))))))))))
  rintro i ⟨hi, hne⟩
  refine cd_seq (cd_seq (cd_region (st_v (v_move rfl) (st_v (v_move rfl) (st_v (v_len rfl Tryz.underlying22) (st_v (v_lss rfl rfl) (st_nil (nx_kp [0, 1, 5, 9] rfl (nx_then (cd_cond rfl (fun hd => ?_) (fun hd => ?_)))))))))))
  · skip
    have hlt : i < l.length := by simpa using hd
    obtain ⟨b, o, cap2, d, f, pa, pc, c2, fa, fc, j2, hv2, hrd, hP, hone⟩ := sys_at hv (List.getElem?_eq_getElem hlt)
    refine cd_skip (xt_then (cd_seq (cd_block (cd_seq (cd_region (st_v (v_move rfl) (st_v (v_move rfl) (st_v (v_indexAddr (k := i) (congrArg some hv2) rfl sl22 rfl hlt rfl) (st_v (v_fieldAddr rfl fa29_0 rfl) (st_v (v_ldy rfl ld9) ?_))))))))))
    refine st_v (v_move rfl) (st_v (v_seql rfl rfl) (st_nil (nx_kp [0, 1, 5, 18] rfl (nx_then (cd_cond rfl (fun he => ?_) (fun he => ?_))))))
    · skip
      have he : (l[i]).name = c := by simpa using he
      refine cd_seq (cd_region (st_v (v_move rfl) (st_v (v_assign rfl) (st_nil (nx_kp [4] rfl (nx_then (cd_ret (xt_ret_block (xt_ret_then (xt_ret_then (xt_ret_block (xt_ret_then ?_))))))))))))
      rw [ixN, ixN_some hlt he hne]
      exact xt_rt rfl ⟨rfl, rfl⟩ (by (repeat (refine Sub.sel (by repeat (first | exact Sel.here | apply Sel.there)) ?_)); (repeat apply Sub.cons); first | exact Sub.refl _ | exact Sub.nil _)
    · skip
      have he : (l[i]).name ≠ c := by simpa using he
      refine cd_skip (xt_normal_block (xt_then (cd_region (st_v (v_move rfl) (st_v (v_add rfl rfl (by unfold I64 at *; omega)) (st_v (v_assign rfl) (st_nil (nx_kp [0, 1, 5] rfl (nx_xt (xt_aq (i + 1) ⟨hlt, fun j y hj hy => ?_⟩ (by show _ - _ < _ - _; omega)))))))))))
      by_cases hji : j = i
      · subst hji; rw [List.getElem?_eq_getElem hlt] at hy; cases hy; exact he
      · exact hne j y (by omega) hy
  · skip
    refine cd_exit (xt_exit_then (xt_exit_then (xt_exit_block (xt_then (cd_seq (cd_region (st_v (v_assign rfl) (st_nil (nx_kp [4] rfl (nx_then (cd_ret ?_)))))))))))
    have hil : i = l.length := by have : ¬ i < l.length := by simpa using hd
                                  omega
    rw [ixN, ixN_none (fun j y hj => hne j y (by omega))]
    exact xt_rt rfl ⟨rfl, rfl⟩ (by (repeat (refine Sub.sel (by repeat (first | exact Sel.here | apply Sel.there)) ?_)); (repeat apply Sub.cons); first | exact Sub.refl _ | exact Sub.nil _)
set_option maxRecDepth 100000 in
theorem Has_ct {xs : List Nm} (hv : nmsR S v xs) (c : Nm) (hl : xs.length ≤ 1099511627776) : Reads Tryz.prog 39 #[v, sv c] [S] (.bool (xs.contains c)) := by
  obtain ⟨a, cap, rfl, _⟩ := id hv
  refine ct_of (n := 18) Tryz.func39 rfl rfl (len rfl) fun hr w0 => ?_
  refine cd_seq (cd_region (st_v (v_assign rfl) (st_nil (nx_then (cd_seq (cd_seq (cd_region (st_v (v_assign rfl) (st_nil (nx_then (cd_block (cd_lq (σ := Nat) (fun i => [(0, .slice a xs.length cap), (1, sv c), (5, .int .i64 (i : Nat))]) (fun _ => S :: hr) (fun i => i ≤ xs.length ∧ ∀ (j : Nat) (y : Nm), j < i → xs[j]? = some y → y ≠ c) (fun i => xs.length - i) 0 ⟨Nat.zero_le _, fun j y hj => by omega⟩ ?_))))))))))))
  rintro i ⟨hi, hne⟩
  refine cd_seq (cd_seq (cd_region (st_v (v_move rfl) (st_v (v_move rfl) (st_v (v_len rfl Tryz.underlying25) (st_v (v_lss rfl rfl) (st_nil (nx_kp [0, 1, 5, 9] rfl (nx_then (cd_cond rfl (fun hd => ?_) (fun hd => ?_)))))))))))
  · skip
    have hlt : i < xs.length := by simpa using hd
    obtain ⟨b, o, cap2, hv2, hrd⟩ := nms_at hv (List.getElem?_eq_getElem hlt)
    refine cd_skip (xt_then (cd_seq (cd_block (cd_seq (cd_region (st_v (v_move rfl) (st_v (v_move rfl) (st_v (v_indexAddr (k := i) (congrArg some hv2) rfl sl25 rfl hlt rfl) (st_v (v_ldy rfl ld9) ?_)))))))))
    refine st_v (v_move rfl) (st_v (v_seql rfl rfl) (st_nil (nx_kp [0, 1, 5, 17] rfl (nx_then (cd_cond rfl (fun he => ?_) (fun he => ?_))))))
    · skip
      have he : xs[i] = c := by simpa using he
      refine cd_seq (cd_region (st_v (v_assign rfl) (st_nil (nx_kp [4] rfl (nx_then (cd_ret (xt_ret_block (xt_ret_then (xt_ret_then (xt_ret_block (xt_ret_then ?_)))))))))))
      rw [show xs.contains c = true by rw [List.contains_iff_mem, ← he]; exact List.getElem_mem hlt]
      exact xt_rt rfl ⟨rfl, rfl⟩ (by (repeat (refine Sub.sel (by repeat (first | exact Sel.here | apply Sel.there)) ?_)); (repeat apply Sub.cons); first | exact Sub.refl _ | exact Sub.nil _)
    · skip
      have he : xs[i] ≠ c := by simpa using he
      refine cd_skip (xt_normal_block (xt_then (cd_region (st_v (v_move rfl) (st_v (v_add rfl rfl (by unfold I64 at *; omega)) (st_v (v_assign rfl) (st_nil (nx_kp [0, 1, 5] rfl (nx_xt (xt_aq (i + 1) ⟨hlt, fun j y hj hy => ?_⟩ (by show _ - _ < _ - _; omega)))))))))))
      by_cases hji : j = i
      · subst hji; rw [List.getElem?_eq_getElem hlt] at hy; cases hy; exact he
      · exact hne j y (by omega) hy
  · skip
    refine cd_exit (xt_exit_then (xt_exit_then (xt_exit_block (xt_then (cd_seq (cd_region (st_v (v_assign rfl) (st_nil (nx_kp [4] rfl (nx_then (cd_ret ?_)))))))))))
    have hil : i = xs.length := by have : ¬ i < xs.length := by simpa using hd
                                   omega
    rw [show xs.contains c = false by
      cases hc : xs.contains c with
      | false => rfl
      | true =>
        rw [List.contains_iff_mem] at hc
        obtain ⟨j, hj, he⟩ := List.getElem_of_mem hc
        exact absurd he (hne j _ (by omega) (List.getElem?_eq_getElem hj))]
    exact xt_rt rfl ⟨rfl, rfl⟩ (by (repeat (refine Sub.sel (by repeat (first | exact Sel.here | apply Sel.there)) ?_)); (repeat apply Sub.cons); first | exact Sub.refl _ | exact Sub.nil _)
set_option maxRecDepth 100000 in
theorem reserved_ct (s : Nm) : Reads Tryz.prog 112 #[sv s] [] (.bool (reserved.contains s)) := by
  have hr : reserved.contains s = ((((s == [73, 78, 84, 69, 71, 69, 82]) || (s == [66, 79, 79, 76, 69, 65, 78])) || (s == [65, 78, 89])) || (s == [78, 79, 78, 69])) := by
    have he : reserved = [[73, 78, 84, 69, 71, 69, 82], [66, 79, 79, 76, 69, 65, 78], [65, 78, 89], [78, 79, 78, 69]] := by decide +kernel
    rw [he]
    simp only [List.contains_cons, List.contains_nil, Bool.or_false, Bool.or_assoc]
  rw [hr]
  refine ct_of (n := 17) Tryz.func112 rfl rfl (len rfl) fun hr w0 => ?_
  refine cd_seq (cd_region (st_v (v_assign rfl) (st_nil (nx_then (cd_seq (cd_region (st_v (v_move rfl) (st_v (v_seql rfl rfl) (st_v (v_move rfl) (st_cut (k := 6) (d := 8) (v := .bool ((s == [73, 78, 84, 69, 71, 69, 82]) || (s == [66, 79, 79, 76, 69, 65, 78]))) (fun hcut => bool_want (b := (s == [73, 78, 84, 69, 71, 69, 82])) false (fun hg => ?_) (fun hg => ?_)) ?_))))))))))
  · refine st_sk rfl rfl hg ?_
    refine st_sk rfl rfl hg ?_
    refine st_v (v_pick_true (bool_ev rfl hg) rfl) ?_
    exact hcut _ (ssub_head (by first | rfl | (rw [hg]; rfl) | simp_all) (ssub_skip rfl (ssub_skip rfl (ssub_refl))))
  · skip
    refine st_vg rfl (bool_get rfl hg) (v_move rfl) (st_vg rfl (bool_get rfl hg) (v_seql rfl rfl) (st_v (v_pick_false (bool_ev rfl hg) rfl) ?_))
    exact hcut _ (ssub_head (by first | rfl | (rw [hg]; rfl) | simp_all) (ssub_skip rfl (ssub_skip rfl (ssub_refl))))
  refine st_v (v_move rfl) (st_cut (k := 10) (d := 12) (v := .bool (((s == [73, 78, 84, 69, 71, 69, 82]) || (s == [66, 79, 79, 76, 69, 65, 78])) || (s == [65, 78, 89]))) (fun hcut => bool_want (b := ((s == [73, 78, 84, 69, 71, 69, 82]) || (s == [66, 79, 79, 76, 69, 65, 78]))) false (fun hg => ?_) (fun hg => ?_)) ?_)
  · refine st_sk rfl rfl hg ?_
    refine st_sk rfl rfl hg ?_
    refine st_v (v_pick_true (bool_ev rfl hg) rfl) ?_
    exact hcut _ (ssub_head (by first | rfl | (rw [hg]; rfl) | simp_all) (ssub_skip rfl (ssub_skip rfl (ssub_refl))))
  · skip
    refine st_vg rfl (bool_get rfl hg) (v_move rfl) (st_vg rfl (bool_get rfl hg) (v_seql rfl rfl) (st_v (v_pick_false (bool_ev rfl hg) rfl) ?_))
    exact hcut _ (ssub_head (by first | rfl | (rw [hg]; rfl) | simp_all) (ssub_skip rfl (ssub_skip rfl (ssub_refl))))
  refine st_v (v_move rfl) (st_cut (k := 14) (d := 16) (v := .bool ((((s == [73, 78, 84, 69, 71, 69, 82]) || (s == [66, 79, 79, 76, 69, 65, 78])) || (s == [65, 78, 89])) || (s == [78, 79, 78, 69]))) (fun hcut => bool_want (b := (((s == [73, 78, 84, 69, 71, 69, 82]) || (s == [66, 79, 79, 76, 69, 65, 78])) || (s == [65, 78, 89]))) false (fun hg => ?_) (fun hg => ?_)) ?_)
  · refine st_sk rfl rfl hg ?_
    refine st_sk rfl rfl hg ?_
    refine st_v (v_pick_true (bool_ev rfl hg) rfl) ?_
    exact hcut _ (ssub_head (by first | rfl | (rw [hg]; rfl) | simp_all) (ssub_skip rfl (ssub_skip rfl (ssub_refl))))
  · skip
    refine st_vg rfl (bool_get rfl hg) (v_move rfl) (st_vg rfl (bool_get rfl hg) (v_seql rfl rfl) (st_v (v_pick_false (bool_ev rfl hg) rfl) ?_))
    exact hcut _ (ssub_head (by first | rfl | (rw [hg]; rfl) | simp_all) (ssub_skip rfl (ssub_skip rfl (ssub_refl))))
  refine st_v (v_assign rfl) (st_nil (nx_kp [2] rfl (nx_then (cd_ret ?_))))
  exact xt_rt rfl ⟨rfl, rfl⟩ (by (repeat (refine Sub.sel (by repeat (first | exact Sel.here | apply Sel.there)) ?_)); (repeat apply Sub.cons); first | exact Sub.refl _ | exact Sub.nil _)
def fewL (l : Sys) : Bool := l.all (fun x => decide (x.parents.length ≤ 8)) && (decide (l.length ≤ 10) || (decide (24 < l.length) && decide (l.length ≤ 40)))
set_option maxRecDepth 100000 in
theorem few_ct (hv : sysR S v l) (hl : l.length ≤ 4000000000000000000) : Reads Tryz.prog 5 #[v] [S] (.bool (fewL l)) := by
  obtain ⟨a, cap, rfl, _⟩ := id hv
  refine ct_of (n := 30) Tryz.func5 rfl rfl (len rfl) fun hr w0 => ?_
  refine cd_seq (cd_region (st_v (v_assign rfl) (st_nil (nx_then (cd_seq (cd_seq (cd_region (st_v (v_assign rfl) (st_nil (nx_then (cd_block (cd_lq (σ := Nat) (fun i => [(0, .slice a l.length cap), (3, .int .i64 (i : Nat))]) (fun _ => S :: hr) (fun i => i ≤ l.length ∧ ∀ (j : Nat) (y : Cls), j < i → l[j]? = some y → y.parents.length ≤ 8) (fun i => l.length - i) 0 ⟨Nat.zero_le _, fun j y hj => by omega⟩ ?_))))))))))))
  rintro i ⟨hi, hne⟩
  refine cd_seq (cd_seq (cd_region (st_v (v_move rfl) (st_v (v_move rfl) (st_v (v_len rfl Tryz.underlying22) (st_v (v_lss rfl rfl) (st_nil (nx_kp [0, 3, 7] rfl (nx_then (cd_cond rfl (fun hd => ?_) (fun hd => ?_)))))))))))
  · skip
    have hlt : i < l.length := by simpa using hd
    obtain ⟨b, o, cap2, d, f, pa, pc, c2, fa, fc, j2, hv2, hrd, hP, hone⟩ := sys_at hv (List.getElem?_eq_getElem hlt)
    refine cd_skip (xt_then (cd_seq (cd_block (cd_seq (cd_region (st_v (v_move rfl) (st_v (v_move rfl) (st_v (v_indexAddr (k := i) (congrArg some hv2) rfl sl22 rfl hlt rfl) (st_v (v_fieldAddr rfl fa29_3 rfl) (st_v (v_ldy rfl ld24) ?_))))))))))
    refine st_v (v_len rfl Tryz.underlying24) (st_v (v_gtr rfl rfl) (st_nil (nx_kp [0, 3, 16] rfl (nx_then (cd_cond rfl (fun he => ?_) (fun he => ?_))))))
    · skip
      have he : ¬ (l[i]).parents.length ≤ 8 := by have : (8 : Int) < (l[i]).parents.length := by simpa using he
                                                  omega
      refine cd_seq (cd_region (st_v (v_assign rfl) (st_nil (nx_kp [2] rfl (nx_then (cd_ret (xt_ret_block (xt_ret_then (xt_ret_then (xt_ret_block (xt_ret_then ?_)))))))))))
      rw [show fewL l = false by
        unfold fewL
        rw [Bool.and_eq_false_iff]; left
        rw [List.all_eq_false]
        exact ⟨l[i], List.getElem_mem hlt, by simpa using he⟩]
      exact xt_rt rfl ⟨rfl, rfl⟩ (by (repeat (refine Sub.sel (by repeat (first | exact Sel.here | apply Sel.there)) ?_)); (repeat apply Sub.cons); first | exact Sub.refl _ | exact Sub.nil _)
    · skip
      have he : (l[i]).parents.length ≤ 8 := by have : ¬ (8 : Int) < (l[i]).parents.length := by simpa using he
                                                omega
      refine cd_skip (xt_normal_block (xt_then (cd_region (st_v (v_move rfl) (st_v (v_add rfl rfl (by unfold I64 at *; omega)) (st_v (v_assign rfl) (st_nil (nx_kp [0, 3] rfl (nx_xt (xt_aq (i + 1) ⟨hlt, fun j y hj hy => ?_⟩ (by show _ - _ < _ - _; omega)))))))))))
      by_cases hji : j = i
      · subst hji; rw [List.getElem?_eq_getElem hlt] at hy; cases hy; exact he
      · exact hne j y (by omega) hy
  · skip
    refine cd_exit (xt_exit_then (xt_exit_then (xt_exit_block (xt_then (cd_seq (cd_region (st_v (v_move rfl) (st_v (v_len rfl Tryz.underlying22) (st_v (v_leq rfl rfl) (st_v (v_move rfl) ?_))))))))))
    have hil : i = l.length := by have : ¬ i < l.length := by simpa using hd
                                  omega
    rw [show fewL l = (decide ((l.length : Int) ≤ 10) || (decide (24 < (l.length : Int)) && decide ((l.length : Int) ≤ 40))) by
      unfold fewL
      rw [show l.all (fun x => decide (x.parents.length ≤ 8)) = true from List.all_eq_true.2 fun x hx => by
        obtain ⟨j, hj, rfl⟩ := List.getElem_of_mem hx
        exact decide_eq_true (hne j _ (by omega) (List.getElem?_eq_getElem hj)), Bool.true_and]
      congr 1
      · rw [decide_eq_decide]; omega
      · congr 1 <;> rw [decide_eq_decide] <;> omega]
    refine st_cut (k := 13) (d := 29) (v := .bool (decide ((l.length : Int) ≤ 10) || (decide (24 < (l.length : Int)) && decide ((l.length : Int) ≤ 40)))) (fun hcut => bool_want (b := decide ((l.length : Int) ≤ 10)) false (fun hg => ?_) (fun hg => ?_)) ?_
    · refine st_sk rfl rfl hg ?_
      refine st_sk rfl rfl hg ?_
      refine st_sk rfl rfl hg ?_
      refine st_sk rfl rfl hg ?_
      refine st_sku rfl rfl ?_
      refine st_sku rfl rfl ?_
      refine st_sku rfl rfl ?_
      refine st_sk rfl rfl hg ?_
      refine st_v (v_pick_true (bool_ev rfl hg) rfl) ?_
      exact hcut _ (ssub_head (by first | rfl | (rw [hg]; rfl) | simp_all) (ssub_skip rfl (ssub_skip rfl (ssub_skip rfl (ssub_skip rfl (ssub_skip rfl (ssub_skip rfl (ssub_skip rfl (ssub_skip rfl (ssub_refl))))))))))
    · skip
      refine st_vg rfl (bool_get rfl hg) (v_move rfl) (st_vg rfl (bool_get rfl hg) (v_len rfl Tryz.underlying22) (st_vg rfl (bool_get rfl hg) (v_gtr rfl rfl) (st_vg rfl (bool_get rfl hg) (v_move rfl) (st_cut (k := 12) (d := 28) (v := .bool (decide (24 < (l.length : Int)) && decide ((l.length : Int) ≤ 40))) (fun hcut => bool_want (b := decide (24 < (l.length : Int))) true (fun hg1 => ?_) (fun hg1 => ?_)) ?_))))
      · refine st_sk rfl rfl hg1 ?_
        refine st_sk rfl rfl hg1 ?_
        refine st_sk rfl rfl hg1 ?_
        refine st_vg rfl (bool_get rfl hg) (v_pick_false (bool_ev rfl hg1) rfl) ?_
        exact hcut _ (ssub_head (by first | rfl | (rw [hg1]; rfl) | simp_all) (ssub_skip rfl (ssub_skip rfl (ssub_skip rfl (ssub_refl)))))
      · skip
        refine st_vg rfl (bool_get rfl hg1) (v_move rfl) (st_vg rfl (bool_get rfl hg1) (v_len rfl Tryz.underlying22) (st_vg rfl (bool_get rfl hg1) (v_leq rfl rfl) (st_vg rfl (bool_get rfl hg) (v_pick_true (bool_ev rfl hg1) rfl) ?_)))
        exact hcut _ (ssub_head (by first | rfl | (rw [hg1]; rfl) | simp_all) (ssub_skip rfl (ssub_skip rfl (ssub_skip rfl (ssub_refl)))))
      refine st_v (v_pick_false (bool_ev rfl hg) rfl) ?_
      exact hcut _ (ssub_head (by first | rfl | (rw [hg]; rfl) | simp_all) (by repeat (first | exact ssub_refl | refine ssub_skip rfl ?_)))
    refine st_v (v_assign rfl) (st_nil (nx_kp [2] rfl (nx_then (cd_ret ?_))))
    exact xt_rt rfl ⟨rfl, rfl⟩ (by (repeat (refine Sub.sel (by repeat (first | exact Sel.here | apply Sel.there)) ?_)); (repeat apply Sub.cons); first | exact Sub.refl _ | exact Sub.nil _)
end
end Go.Hr
namespace Go.Hr
open Go Go.Ck Go.Proofs Go.Proofs.YtjgiaohieadeiaaGreat Fx
attribute [local irreducible] Go.Ck.Sub St Cd Xt Nx DrL LsW
section
variable {S : Res} {v : Value} {l : Sys}
set_option maxRecDepth 100000 in
theorem parents_ct (hv : sysR S v l) (c : Nm) (hl : l.length ≤ 1099511627776) (hp : ∀ x ∈ l, x.parents.length ≤ 1099511627776) : CtN Tryz.prog 40 #[v, sv c] [S] fun u T => u.oneCell' = true ∧ T = NR u (pars l c) ∧ nmsR T u (pars l c) := by
  obtain ⟨a, cap, rfl, _⟩ := id hv
  refine ct_of (n := 37) Tryz.func40 rfl rfl (len rfl) fun hr w0 => ?_
  refine cd_seq (cd_region (st_v (v_assign rfl) (st_nil (nx_then (cd_seq (cd_region (st_v (v_move rfl) (st_v (v_move rfl) (st_clr rfl rfl en67 rfl (index_ct hv c hl) ?_)))))))))
  refine st_v (v_assign rfl) (st_nil (nx_kp [0, 4, 5] rfl (nx_then (cd_seq (cd_region (st_v (v_assign rfl) (st_nil (nx_then (cd_seq (cd_seq (cd_region (st_v (v_move rfl) (st_v (v_lss rfl rfl) (st_nil (nx_kp [0, 4, 5, 6, 12] rfl (nx_then (cd_cond rfl (fun hd => ?_) (fun hd => ?_))))))))))))))))))
  · skip
    have hx : idx l c = none := by
      cases h : idx l c with
      | none => rfl
      | some i => have : ixN l c < 0 := by simpa using hd
                  unfold ixN at this; rw [h] at this; simp at this; omega
    have hpn : pars l c = [] := by unfold pars; rw [idx_find.2 hx]; rfl
    refine cd_seq (cd_region (st_v (v_move rfl) (st_v (v_assign rfl) (st_nil (nx_kp [4] rfl (nx_then (cd_ret (xt_ret_then (xt_vw (vw_nil 9 1) (xt_ok (r := NR (.slice none 0 0) []) Sel.here fun hok => ?_))))))))))
    exact xt_rt rfl ⟨NR (.slice none 0 0) [], rfl, rfl, by rw [hpn]; rfl, by rw [hpn]; exact nms_own hok⟩ (by (repeat (refine Sub.sel (by repeat (first | exact Sel.here | apply Sel.there)) ?_)); (repeat apply Sub.cons); first | exact Sub.refl _ | exact Sub.nil _)
  · skip
    obtain ⟨k, hx⟩ : ∃ k, idx l c = some k := by
      cases h : idx l c with
      | some i => exact ⟨i, rfl⟩
      | none => exact absurd hd (by unfold ixN; rw [h]; decide)
    have hk : ixN l c = (k : Int) := by unfold ixN; rw [hx]
    obtain ⟨x, hxi, hf⟩ := idx_find.1 k hx
    have hkl := (List.getElem?_eq_some_iff.1 hxi).1
    have hps : pars l c = x.parents := by unfold pars; rw [hf]; rfl
    have hpl := hp x (List.mem_of_getElem? hxi)
    obtain ⟨b, o, cap2, d, f, pa, pc, c2, fa, fc, j2, hv2, hrd, hP, hone⟩ := sys_at hv hxi
    rw [hk, hps]
    refine cd_skip (xt_then (cd_seq (cd_seq (cd_region (st_v (v_assign rfl) (st_nil (nx_kp [0, 4, 5, 6, 7] rfl (nx_then (cd_block (cd_vw (vw_nil 9 1) (cd_lq (σ := Value × Nat) (fun q => [(0, .slice a l.length cap), (5, .int .i64 (k : Nat)), (6, q.1), (7, .int .i64 (q.2 : Nat))]) (fun q => VR q.1 9 1 ((x.parents.take q.2).map nC) :: S :: hr) (fun q => q.1.oneCell' = true ∧ q.2 ≤ x.parents.length) (fun q => x.parents.length - q.2) (.slice none 0 0, 0) ⟨rfl, Nat.zero_le _⟩ ?_)))))))))))
    rintro ⟨w, i⟩ ⟨hw, hi⟩
    simp only at hw hi
    dsimp only
    refine cd_seq (cd_seq (cd_region (st_v (v_move rfl) (st_v (v_move rfl) (st_v (v_move rfl) (st_v (v_indexAddr (k := k) (congrArg some hv2) rfl sl22 rfl hkl rfl) (st_v (v_fieldAddr rfl fa29_3 rfl) (st_v (v_ldy rfl ld24) ?_))))))))
    refine st_v (v_len rfl Tryz.underlying24) (st_v (v_lss rfl rfl) (st_nil (nx_kp [0, 5, 6, 7, 21] rfl (nx_then (cd_cond rfl (fun hd2 => ?_) (fun hd2 => ?_))))))
    · skip
      have hlt : i < x.parents.length := by simpa using hd2
      obtain ⟨pb, po, pcap, a1, c1, d1, e1, f1, hpv, hprd, hpone⟩ := par_at hP (List.getElem?_eq_getElem hlt)
      refine cd_skip (xt_then (cd_seq (cd_block (cd_region (st_v (v_move rfl) (st_v (v_move rfl) (st_v (v_move rfl) (st_v (v_indexAddr (k := k) (congrArg some hv2) rfl sl22 rfl hkl rfl) (st_v (v_fieldAddr rfl fa29_3 rfl) (st_v (v_ldy rfl ld24) ?_))))))))))
      refine st_v (v_move rfl) (st_v (v_indexAddr (k := i) (congrArg some hpv) rfl sl24 rfl hlt rfl) (st_v (v_fieldAddr rfl fa93_0 rfl) (st_v (v_ldy rfl ld9) ?_)))
      refine st_buildSlice (cells := [sv x.parents[i]]) rfl Tryz.underlying25 inf9 rfl rfl (by kernel_rfl) (ltn rfl) fun b34 => ?_
      refine st_app [nC x.parents[i]] rfl rfl Tryz.underlying25 inf9 rfl (by decide) (by repeat (first | exact Sel.here | apply Sel.there)) (by simp [nC]) rfl (fun j u2 hu2 => at_here (rd_cl (by simpa [nC] using hu2))) (by simp [nC, Value.oneCell']) (by simp; omega) (by simp; omega) (ltn rfl) fun v' hv' _ => ?_
      have ht : (x.parents.take i).map nC ++ [nC x.parents[i]] = (x.parents.take (i + 1)).map nC := by
        rw [List.take_succ_eq_append_getElem hlt, List.map_append]; rfl
      rw [ht]
      refine st_v (v_assign rfl) (st_nil (nx_kp [0, 5, 6, 7] rfl (nx_xt (xt_normal_block (xt_then (cd_region (st_v (v_move rfl) (st_v (v_add rfl rfl (by unfold I64 at *; omega)) (st_v (v_assign rfl) (st_nil (nx_kp [0, 5, 6, 7] rfl (nx_xt ?_))))))))))))
      refine xt_aq (v', i + 1) ⟨hv', hlt⟩ (by show _ - _ < _ - _; omega)
    · skip
      have hil : i = x.parents.length := by have : ¬ i < x.parents.length := by simpa using hd2
                                            omega
      subst hil
      rw [List.take_length]
      refine cd_exit (xt_exit_then (xt_exit_then (xt_exit_block (xt_then (cd_seq (cd_region (st_v (v_move rfl) (st_v (v_assign rfl) (st_nil (nx_kp [4] rfl (nx_then (cd_ret (xt_ok (r := NR w x.parents) (by repeat (first | exact Sel.here | apply Sel.there)) fun hok => ?_)))))))))))))
      exact xt_rt rfl ⟨NR w x.parents, rfl, hw, rfl, nms_own hok⟩ (by (repeat (refine Sub.sel (by repeat (first | exact Sel.here | apply Sel.there)) ?_)); (repeat apply Sub.cons); first | exact Sub.refl _ | exact Sub.nil _)
end
end Go.Hr
namespace Go.Hr
open Go Go.Ck Go.Proofs Go.Proofs.YtjgiaohieadeiaaGreat Fx
attribute [local irreducible] Go.Ck.Sub St Cd Xt Nx DrL LsW
/-- The places of the first classes of each name. -/
def kindsStep (m : List (Bs × Value)) (q : Cls × Nat) : List (Bs × Value) := if (slook m q.1.name).isSome then m else supd m q.1.name (.int .i64 q.2)
def kindsM (l : Sys) : List (Bs × Value) := l.zipIdx.foldl kindsStep []
theorem kinds_take {l : Sys} {i : Nat} (h : i < l.length) : kindsM (l.take (i + 1)) = kindsStep (kindsM (l.take i)) (l[i], i) := by
  unfold kindsM
  rw [List.take_succ_eq_append_getElem h, List.zipIdx_append, List.foldl_append]
  simp [List.length_take, Nat.min_eq_left (Nat.le_of_lt h)]
theorem kinds_look (l : Sys) (c : Nm) : slook (kindsM l) c = (idx l c).map fun i => .int .i64 i := by
  have key : ∀ n, n ≤ l.length → slook (kindsM (l.take n)) c = (idx (l.take n) c).map fun i => .int .i64 i := by
    intro n
    induction n with
    | zero => intro _; rfl
    | succ n ih =>
      intro hn
      rw [kinds_take (by omega)]
      have ih := ih (by omega)
      have hix : idx (l.take (n + 1)) c = (idx (l.take n) c).or (if (l[n]).name = c then some n else none) := by
        unfold idx
        rw [List.take_succ_eq_append_getElem (by omega), List.findIdx?_append]
        congr 1
        by_cases h : (l[n]).name = c <;> simp [List.findIdx?_cons, h, List.length_take, Nat.min_eq_left (Nat.le_of_lt hn)]
      rw [hix]
      unfold kindsStep
      by_cases hc : (l[n]).name = c
      · simp only [hc, if_true]
        cases hi : idx (l.take n) c with
        | none =>
          rw [hi] at ih
          simp only [ih, Option.map_none, Option.isSome_none, Bool.false_eq_true, if_false]
          rw [slook_upd, if_pos rfl]; rfl
        | some j =>
          rw [hi] at ih
          simp only [ih, Option.map_some, Option.isSome_some, if_true]
          rfl
      · simp only [hc, if_false, Option.or_none]
        split
        · exact ih
        · rw [slook_upd, if_neg (fun e => hc e.symm)]; exact ih
  have := key l.length (Nat.le_refl _)
  rwa [List.take_length] at this
section
variable {S : Res} {v : Value} {l : Sys}
set_option maxRecDepth 100000 in
theorem kinds_ct (hv : sysR S v l) (hl : l.length ≤ 1099511627776) : Ct Tryz.prog 41 #[v] [S] fun u h' => ∃ mb, u = .map (some mb) ∧ h' = [mps mb (kindsM l), S] := by
  obtain ⟨a, cap, rfl, _⟩ := id hv
  refine ct_of (n := 31) Tryz.func41 rfl rfl (len rfl) fun hr w0 => ?_
  refine cd_seq (cd_region (st_v (v_assign rfl) (st_nil (nx_then (cd_seq (cd_region (st_smakeMap (ltn rfl) fun b8 => ?_)))))))
  refine st_v (v_assign rfl) (st_nil (nx_kp [0, 2, 3] rfl (nx_then (cd_seq (cd_seq (cd_region (st_v (v_move rfl) (st_v (v_len rfl Tryz.underlying22) (st_v (v_move rfl) (st_nil (nx_kp [2, 3, 9, 10, 11] rfl (nx_then (cd_block (cd_lq (σ := Nat) (fun i => [(3, .map (some b8)), (9, .slice a l.length cap), (10, .int .i64 l.length), (11, .int .i64 (i : Nat))]) (fun i => mps b8 (kindsM (l.take i)) :: S :: hr) (fun i => i ≤ l.length) (fun i => l.length - i) 0 (Nat.zero_le _) ?_))))))))))))))
  intro i hi
  refine cd_seq (cd_region (st_v (v_lss rfl rfl) (st_nil (nx_then (cd_seq (cd_cond rfl (fun hd => ?_) (fun hd => ?_)))))))
  · skip
    have hlt : i < l.length := by simpa using hd
    obtain ⟨b, o, cap2, d, f, pa, pc, c2, fa, fc, j2, hv2, hrd, hP, hone⟩ := sys_at hv (List.getElem?_eq_getElem hlt)
    have hkt := kinds_take hlt
    unfold kindsStep at hkt
    simp only at hkt
    refine cd_skip (xt_then (cd_seq (cd_block (cd_seq (cd_region (st_v (v_move rfl) (st_v (v_indexAddr (k := i) (congrArg some hv2) rfl sl22 rfl hlt rfl) (st_v (v_ldn rfl ld29 rfl hrd) ?_))))))))
    refine st_alc al29 fun b5 => ?_
    refine st_v (v_assign rfl) (st_stoW rfl rfl sz29 rfl hone ?_)
    refine st_nil (nx_kp [3, 4, 5, 9, 10, 11] rfl (nx_then (cd_seq (cd_region (st_v (v_move rfl) (st_v (v_fieldAddr rfl fa29_0 rfl) (st_v (v_ldy rfl ld9) ?_)))))))
    refine st_v (v_slookup_ok rfl rfl mp73 inf3 (by repeat (first | exact Sel.here | apply Sel.there))) ?_
    refine st_v (v_move rfl) (st_v (v_extract rfl rfl) (st_v (v_extract rfl rfl) (st_v (v_assign rfl) (st_v (v_assign rfl) (st_nil (nx_kp [3, 4, 5, 7, 9, 10, 11] rfl (nx_then (cd_seq (cd_region (st_v (v_move rfl) (st_v (v_not rfl) (st_nil (nx_kp [3, 4, 5, 9, 10, 11, 24] rfl (nx_then (cd_cond rfl (fun hq => ?_) (fun hq => ?_))))))))))))))))
    · skip
      have hn : (slook (kindsM (l.take i)) (l[i]).name).isSome = false := by simpa using hq
      rw [hn] at hkt
      simp only [Bool.false_eq_true, if_false] at hkt
      refine cd_region (st_v (v_move rfl) (st_v (v_fieldAddr rfl fa29_0 rfl) (st_v (v_ldy rfl ld9) ?_)))
      refine st_v (v_move rfl) (st_smapUpdate rfl rfl rfl mp73 (by repeat (first | exact Sel.here | apply Sel.there)) ?_)
      refine st_nil (nx_kp [3, 9, 10, 11] rfl (nx_xt (xt_normal_block (xt_then (cd_region (st_v (v_add rfl rfl (by unfold I64 at *; omega)) (st_v (v_move rfl) (st_nil (nx_kp [3, 9, 10, 11] rfl (nx_xt ?_))))))))))
      rw [← hkt]
      refine xt_aq (i + 1) hlt (by show _ - _ < _ - _; omega)
    · skip
      have hn : (slook (kindsM (l.take i)) (l[i]).name).isSome = true := by simpa using hq
      rw [hn] at hkt
      simp only [if_true] at hkt
      refine cd_skip (xt_normal_block (xt_then (cd_region (st_v (v_add rfl rfl (by unfold I64 at *; omega)) (st_v (v_move rfl) (st_nil (nx_kp [3, 9, 10, 11] rfl (nx_xt ?_))))))))
      rw [← hkt]
      refine xt_aq (i + 1) hlt (by show _ - _ < _ - _; omega)
  · skip
    have hil : i = l.length := by have : ¬ i < l.length := by simpa using hd
                                  omega
    subst hil
    rw [List.take_length]
    refine cd_exit (xt_exit_then (xt_exit_then (xt_exit_block (xt_then (cd_seq (cd_region (st_v (v_move rfl) (st_v (v_assign rfl) (st_nil (nx_kp [2] rfl (nx_then (cd_ret ?_))))))))))))
    exact xt_rt rfl ⟨b8, rfl, rfl⟩ (by (repeat (refine Sub.sel (by repeat (first | exact Sel.here | apply Sel.there)) ?_)); (repeat apply Sub.cons); first | exact Sub.refl _ | exact Sub.nil _)
end
end Go.Hr
namespace Go.Hr
open Go Go.Ck Go.Proofs Go.Proofs.YtjgiaohieadeiaaGreat Fx
attribute [local irreducible] Go.Ck.Sub St Cd Xt Nx DrL LsW
theorem v_is {P : Program} {e : Env} {h : SH} {o : Op} {ty : TypeId} {u u' : Value} (hu : u = u') (hv : Vop P e h o ty u) : Vop P e h o ty u' := hu ▸ hv
theorem xt_pk {c : Cx} {ex : Exit} {Q : Exit → Act → World → Prop} {e : Env} {h k : SH} (p : h.Perm k) (hx : Xt c ex Q e k) : Xt c ex Q e h := xt_vw (fun _ hh => Holds.perm p hh) hx
theorem Yc.frame {P : Program} {l : Nat} {args : Array Value} {hf : SH} {R : Value → SH → Prop} (h : Yc P l args hf R) (r : Res) : Yc P l args (r :: hf) (fun v h' => ∃ k, h' = r :: k ∧ R v k) := fun hr w hh => by
  have h1 : Holds w (hf ++ (r :: hr)) := hh.perm (List.perm_middle (l₁ := hf)).symm
  exact opUpon_mono (fun v w' ⟨k, hR, hH, hS⟩ => ⟨r :: k, ⟨k, rfl, hR⟩, hH.perm (List.perm_middle (l₁ := k)), hS⟩) (h (r :: hr) w h1)
theorem Yc.mono {P : Program} {l : Nat} {args : Array Value} {hf : SH} {R R' : Value → SH → Prop} (h : Yc P l args hf R) (hr : ∀ v k, R v k → R' v k) : Yc P l args hf R' := fun x w hh => opUpon_mono (fun v w' ⟨k, h1, h2, h3⟩ => ⟨k, hr v k h1, h2, h3⟩) (h x w hh)
theorem look_isC (l : Sys) (c : Nm) : (slook (kindsM l) c).isSome = isC l c := by
  rw [kinds_look]
  unfold isC
  cases h : idx l c with
  | none => rw [(idx_find).2 h]; rfl
  | some i => obtain ⟨x, _, hx⟩ := idx_find.1 i h; rw [hx]; rfl
theorem filter_at {f : Nm → Bool} {xs : List Nm} {i : Nat} (hi : i < xs.length) (h : f xs[i] = true) : (xs.filter f)[((xs.take i).filter f).length]? = some xs[i] ∧ ((xs.take (i + 1)).filter f).length = ((xs.take i).filter f).length + 1 := by
  have h1 : xs = xs.take i ++ xs[i] :: xs.drop (i + 1) := by rw [List.getElem_cons_drop, List.take_append_drop]
  constructor
  · have h2 : xs.filter f = (xs.take i).filter f ++ xs[i] :: (xs.drop (i + 1)).filter f := by
      conv => lhs; rw [h1]
      rw [List.filter_append, List.filter_cons_of_pos h]
    rw [h2, List.getElem?_append_right (Nat.le_refl _)]
    simp
  · rw [List.take_succ_eq_append_getElem hi, List.filter_append, List.filter_cons_of_pos h]; simp
theorem filter_past {f : Nm → Bool} {xs : List Nm} {i : Nat} (hi : i < xs.length) (h : f xs[i] = false) : ((xs.take (i + 1)).filter f).length = ((xs.take i).filter f).length := by
  rw [List.take_succ_eq_append_getElem hi, List.filter_append, List.filter_cons_of_neg (by rw [h]; decide)]; simp
def seqv (b1 b2 : Nat) : Value := .func (.func 71) #[] #[.pointer (some ⟨b1, 0, none⟩), .pointer (some ⟨b2, 0, none⟩)]
section
variable {S : Res} {v : Value} {l : Sys}
set_option maxRecDepth 100000 in
theorem of_ct (hv : sysR S v l) (hl : l.length ≤ 1099511627776) : Ct Tryz.prog 51 #[v] [S] fun u h' => ∃ mb, u = .agg #[v, .map (some mb)] ∧ h' = [mps mb (kindsM l), S] := by
  obtain ⟨a, cap, rfl, _⟩ := id hv
  refine ct_of (n := 7) Tryz.func51 rfl rfl (len rfl) fun hr w0 => ?_
  refine cd_seq (cd_region (st_alc al75 fun b2 => ?_))
  refine st_nil (nx_then (cd_seq (cd_region (st_v (v_move rfl) (st_v (v_move rfl) (st_cl rfl rfl en41 rfl (kinds_ct hv hl) ?_))))))
  rintro u h' ⟨mb, rfl, rfl⟩
  refine st_v (v_build (cells := [.slice a l.length cap, .map (some mb)]) rfl (fun _ => by kernel_rfl)) ?_
  refine st_stoW rfl rfl sz75 rfl rfl ?_
  refine st_nil (nx_kp [2] rfl (nx_then (cd_ret ?_)))
  exact xt_retV (.cellN rfl ld75 rfl (by repeat (first | exact Sel.here | apply Sel.there)) .nil) ⟨mb, rfl, rfl⟩ (by repeat (first | exact Sub.refl _ | exact Sub.nil _ | refine Sub.sel (by repeat (first | exact Sel.here | apply Sel.there)) ?_ | apply Sub.cons))
set_option maxRecDepth 100000 in
theorem parents0_ct {mb : Nat} {c : Nm} (hv : v.oneCell' = true) : Ct Tryz.prog 37 #[.agg #[v, .map (some mb)], sv c] [] fun u h' => ∃ b1 b2, u = seqv b1 b2 ∧ h' = [pt b1 (cl [v, .map (some mb)] 75), pt b2 (cl [sv c] 9)] := by
  refine ct_of (n := 6) Tryz.func37 rfl rfl (len rfl) fun hr w0 => ?_
  refine cd_seq (cd_region (st_bx rfl rfl fun b2 => ?_))
  refine st_bx rfl rfl fun b3 => ?_
  refine st_v (v_assign rfl) (st_nil (nx_kp [2, 3, 4] rfl (nx_then (cd_seq (cd_region (st_v (v_makeFunc rfl rfl) (st_v (v_assign rfl) (st_nil (nx_kp [4] rfl (nx_then (cd_ret ?_)))))))))))
  exact xt_rt rfl ⟨b2, b3, rfl, rfl⟩ (by (repeat (refine Sub.sel (by repeat (first | exact Sel.here | apply Sel.there)) ?_)); (repeat apply Sub.cons); first | exact Sub.refl _ | exact Sub.nil _)
set_option maxRecDepth 100000 in
theorem it_ct {σ : Type} {b1 b2 mb yl : Nat} {c : Nm} (Inv : σ → SH) (Φ : Nat → σ → Prop) (Stop : Nat → SH → Prop) (s0 : σ) (h0 : Φ 0 s0) (hv : sysR S v l) (hp : ∀ x ∈ l, x.parents.length ≤ 1099511627776)
    (hy : ∀ (k : Nat) (s : σ) (p : Nm), (par l c)[k]? = some p → Φ k s → Yc Tryz.prog yl #[sv p] (S :: mps mb (kindsM l) :: Inv s) fun u h' => (u = .bool true ∧ ∃ s', Φ (k + 1) s' ∧ h' = S :: mps mb (kindsM l) :: Inv s') ∨ (u = .bool false ∧ ∃ t, h' = S :: mps mb (kindsM l) :: t ∧ Stop k t)) :
    Ct Tryz.prog 71 #[.func (.yield yl) #[] #[], .pointer (some ⟨b1, 0, none⟩), .pointer (some ⟨b2, 0, none⟩)] (pt b1 (cl [v, .map (some mb)] 75) :: pt b2 (cl [sv c] 9) :: S :: mps mb (kindsM l) :: Inv s0) fun u h' => u = .tuple #[] ∧
      ((∃ s, Φ (par l c).length s ∧ h' = pt b1 (cl [v, .map (some mb)] 75) :: pt b2 (cl [sv c] 9) :: S :: mps mb (kindsM l) :: Inv s) ∨ ∃ k t, Stop k t ∧ h' = pt b1 (cl [v, .map (some mb)] 75) :: pt b2 (cl [sv c] 9) :: S :: mps mb (kindsM l) :: t) := by
  obtain ⟨a, cap, rfl, _⟩ := id hv
  refine ct_of (n := 47) Tryz.func71 rfl rfl (len rfl) fun hr w0 => ?_
  refine cd_seq (cd_region (st_v (v_fieldAddr rfl fa75_1 rfl) (st_v (v_ldy rfl ld73) ?_)))
  refine st_v (v_ldy rfl ld9) ?_
  refine st_v (v_slookup_ok rfl rfl mp73 inf3 (by repeat (first | exact Sel.here | apply Sel.there))) ?_
  refine st_v (v_move rfl) (st_v (v_extract rfl rfl) (st_v (v_extract rfl rfl) (st_v (v_assign rfl) (st_v (v_assign rfl) (st_nil (nx_kp [0, 1, 4, 5] rfl (nx_then (cd_seq (cd_seq (cd_region (st_v (v_move rfl) (st_v (v_not rfl) (st_nil (nx_kp [0, 1, 4, 18] rfl (nx_then (cd_cond rfl (fun hd => ?_) (fun hd => ?_)))))))))))))))))
  · skip
    have hx : isC l c = false := by rw [← look_isC]; simpa using hd
    have hpn : par l c = [] := by
      cases h : par l c with
      | nil => rfl
      | cons p t => have := par_of (l := l) (c := c) (p := p) (by rw [h]; simp); rw [hx] at this; cases this
    refine cd_ret (xt_ret_then ?_)
    exact xt_rt rfl ⟨rfl, .inl ⟨s0, by rw [hpn]; exact h0, rfl⟩⟩ (by (repeat (refine Sub.sel (by repeat (first | exact Sel.here | apply Sel.there)) ?_)); (repeat apply Sub.cons); first | exact Sub.refl _ | exact Sub.nil _)
  · skip
    have hx : isC l c = true := by rw [← look_isC]; simpa using hd
    obtain ⟨k, hk⟩ : ∃ k, idx l c = some k := by
      cases h : idx l c with
      | some k => exact ⟨k, rfl⟩
      | none => unfold isC at hx; rw [idx_find.2 h] at hx; cases hx
    obtain ⟨x, hxi, hf⟩ := idx_find.1 k hk
    have hkl := (List.getElem?_eq_some_iff.1 hxi).1
    have hpar : par l c = x.parents.filter (isC l) := by unfold par pars; rw [hf]; rfl
    have hlk : slook (kindsM l) c = some (.int .i64 k) := by rw [kinds_look, hk]; rfl
    have hpl := hp x (List.mem_of_getElem? hxi)
    obtain ⟨b, o, cap2, d, f, pa, pc, c2, fa, fc, j2, hv2, hrd, hP, hone⟩ := sys_at hv hxi
    rw [hlk]
    refine cd_skip (xt_then (cd_seq (cd_region (st_v (v_fieldAddr rfl fa75_0 rfl) (st_v (v_ldy rfl ld22) ?_)))))
    refine st_v (v_move rfl) (st_v (v_indexAddr (k := k) (congrArg some hv2) rfl sl22 rfl hkl rfl) (st_v (v_fieldAddr rfl fa29_3 rfl) (st_v (v_ldy rfl ld24) ?_)))
    refine st_v (v_len rfl Tryz.underlying24) (st_v (v_move rfl) (st_nil (nx_kp [0, 1, 24, 25, 26] rfl (nx_then (cd_block (cd_lq (σ := Nat × σ) (fun q => [(0, .func (.yield yl) #[] #[]), (1, .pointer (some ⟨b1, 0, none⟩)), (24, .slice pa x.parents.length pc), (25, .int .i64 x.parents.length), (26, .int .i64 (q.1 : Nat))]) (fun q => pt b1 (cl [.slice a l.length cap, .map (some mb)] 75) :: pt b2 (cl [sv c] 9) :: S :: mps mb (kindsM l) :: (Inv q.2 ++ hr)) (fun q => q.1 ≤ x.parents.length ∧ Φ ((x.parents.take q.1).filter (isC l)).length q.2) (fun q => x.parents.length - q.1) (0, s0) ⟨Nat.zero_le _, h0⟩ ?_))))))
    rintro ⟨i, s⟩ ⟨hi, hΦ⟩
    simp only at hi hΦ
    dsimp only
    refine cd_seq (cd_region (st_v (v_lss rfl rfl) (st_nil (nx_then (cd_seq (cd_cond rfl (fun hd2 => ?_) (fun hd2 => ?_)))))))
    · skip
      have hlt : i < x.parents.length := by simpa using hd2
      obtain ⟨pb, po, pcap, a1, c1, d1, e1, f1, hpv, hprd, hpone⟩ := par_at hP (List.getElem?_eq_getElem hlt)
      refine cd_skip (xt_then (cd_seq (cd_block (cd_seq (cd_region (st_v (v_indexAddr (k := i) (congrArg some hpv) rfl sl24 rfl hlt rfl) (st_v (v_ldn rfl ld93 rfl hprd) ?_)))))))
      refine st_alc al93 fun b7 => ?_
      refine st_stoW rfl rfl sz93 rfl hpone ?_
      refine st_nil (nx_kp [0, 1, 7, 24, 25, 26] rfl (nx_then (cd_seq (cd_region (st_v (v_fieldAddr rfl fa75_1 rfl) (st_v (v_ldy rfl ld73) ?_))))))
      refine st_v (v_fieldAddr rfl fa93_0 rfl) (st_v (v_ldy rfl ld9) ?_)
      refine st_v (v_slookup_ok rfl rfl mp73 inf3 (by repeat (first | exact Sel.here | apply Sel.there))) ?_
      refine st_v (v_move rfl) (st_v (v_extract rfl rfl) (st_v (v_extract rfl rfl) (st_v (v_assign rfl) (st_v (v_assign rfl) (st_nil (nx_kp [0, 1, 7, 9, 24, 25, 26] rfl (nx_then (cd_seq ?_))))))))
      rw [look_isC]
      cases hc : isC l x.parents[i]
      · skip
        refine cd_region (st_v (v_move rfl) (st_v (v_move rfl) (st_sk rfl rfl rfl ?_)))
        refine st_sk rfl rfl rfl ?_
        refine st_sk rfl rfl rfl ?_
        refine st_sk rfl rfl rfl ?_
        refine st_sk rfl rfl rfl ?_
        refine st_v (v_pick_false rfl rfl) (st_nil (nx_kp [0, 1, 24, 25, 26, 45] rfl (nx_then (cd_false rfl ?_))))
        refine cd_skip (xt_normal_block (xt_then (cd_region (st_v (v_add rfl rfl (by unfold I64 at *; omega)) (st_v (v_move rfl) (st_nil (nx_kp [0, 1, 24, 25, 26] rfl (nx_xt ?_))))))))
        refine xt_aq (i + 1, s) ⟨hlt, by rw [filter_past hlt hc]; exact hΦ⟩ (by show _ - _ < _ - _; omega)
      · skip
        obtain ⟨q1, q2⟩ := filter_at hlt hc
        refine cd_region (st_v (v_move rfl) (st_v (v_move rfl) (st_vg rfl rfl (v_move rfl) (st_vg rfl rfl (v_fieldAddr rfl fa93_0 rfl) (st_vg rfl rfl (v_ldy rfl ld9) ?_)))))
        refine st_yield (gd := 39) (.inr ⟨_, _, rfl, rfl, rfl⟩) rfl rfl (hy _ s _ (by rw [hpar]; exact q1) hΦ) (Pk.of (hr := pt b7 (cl [sv x.parents[i], a1, c1, d1, e1, f1] 93) :: pt b1 (cl [.slice a l.length cap, .map (some mb)] 75) :: pt b2 (cl [sv c] 9) :: hr) (by exact List.perm_append_comm_assoc [pt b7 (cl [sv x.parents[i], a1, c1, d1, e1, f1] 93), pt b1 (cl [.slice a l.length cap, .map (some mb)] 75), pt b2 (cl [sv c] 9)] (S :: mps mb (kindsM l) :: Inv s) hr)) (ltn rfl) ?_
        rintro u h' (⟨rfl, s', h1, rfl⟩ | ⟨rfl, t, rfl, h1⟩)
        · skip
          refine st_vg rfl rfl (v_not rfl) (st_v (v_pick_true rfl rfl) (st_nil (nx_kp [0, 1, 24, 25, 26, 45] rfl (nx_then (cd_false rfl ?_)))))
          refine cd_skip (xt_normal_block (xt_then (cd_region (st_v (v_add rfl rfl (by unfold I64 at *; omega)) (st_v (v_move rfl) (st_nil (nx_kp [0, 1, 24, 25, 26] rfl (nx_xt (xt_pk (k := pt b7 (cl [sv x.parents[i], a1, c1, d1, e1, f1] 93) :: pt b1 (cl [.slice a l.length cap, .map (some mb)] 75) :: pt b2 (cl [sv c] 9) :: S :: mps mb (kindsM l) :: (Inv s' ++ hr)) (by exact List.perm_append_comm_assoc (S :: mps mb (kindsM l) :: Inv s') [pt b7 (cl [sv x.parents[i], a1, c1, d1, e1, f1] 93), pt b1 (cl [.slice a l.length cap, .map (some mb)] 75), pt b2 (cl [sv c] 9)] hr) ?_)))))))))
          refine xt_aq (i + 1, s') ⟨hlt, by rw [q2]; exact h1⟩ (by show _ - _ < _ - _; omega)
        · skip
          refine st_vg rfl rfl (v_not rfl) (st_v (v_pick_true rfl rfl) (st_nil (nx_kp [0, 1, 24, 25, 26, 45] rfl (nx_then (cd_true rfl ?_)))))
          refine cd_ret (xt_ret_block (xt_ret_then (xt_ret_then (xt_ret_block (xt_pk (k := pt b7 (cl [sv x.parents[i], a1, c1, d1, e1, f1] 93) :: pt b1 (cl [.slice a l.length cap, .map (some mb)] 75) :: pt b2 (cl [sv c] 9) :: S :: mps mb (kindsM l) :: (t ++ hr)) (by exact List.perm_append_comm_assoc (S :: mps mb (kindsM l) :: t) [pt b7 (cl [sv x.parents[i], a1, c1, d1, e1, f1] 93), pt b1 (cl [.slice a l.length cap, .map (some mb)] 75), pt b2 (cl [sv c] 9)] hr) ?_)))))
          exact xt_rt rfl ⟨rfl, .inr ⟨_, t, h1, rfl⟩⟩ (by (repeat (refine Sub.sel (by repeat (first | exact Sel.here | apply Sel.there)) ?_)); (repeat apply Sub.cons); first | exact Sub.refl _ | exact Sub.nil _)
    · skip
      have hil : i = x.parents.length := by have : ¬ i < x.parents.length := by simpa using hd2
                                            omega
      subst hil
      rw [List.take_length, ← hpar] at hΦ
      refine cd_exit (xt_exit_then (xt_exit_then (xt_exit_block ?_)))
      exact xt_en rfl ⟨rfl, .inl ⟨s, hΦ, rfl⟩⟩ (by (repeat (refine Sub.sel (by repeat (first | exact Sel.here | apply Sel.there)) ?_)); (repeat apply Sub.cons); first | exact Sub.refl _ | exact Sub.nil _)
end
end Go.Hr
namespace Go.Hr
open Go Go.Ck Go.Proofs Go.Proofs.YtjgiaohieadeiaaGreat Fx
attribute [local irreducible] Go.Ck.Sub St Cd Xt Nx DrL LsW
/-- The colours: what is done, what is under way. -/
def Col (m : List (Bs × Value)) (o G : List Nm) : Prop := ∀ x, slook m x = if x ∈ o then some (.int .i64 2) else if x ∈ G then some (.int .i64 1) else none
theorem Col.grey {m : List (Bs × Value)} {o G : List Nm} (h : Col m o G) {c : Nm} (hc : c ∉ o) : Col (supd m c (.int .i64 1)) o (c :: G) := fun x => by
  rw [slook_upd, h x]
  by_cases hx : x = c
  · subst hx; rw [if_pos rfl, if_neg hc, if_pos (by simp)]
  · rw [if_neg hx]; simp [hx]
theorem Col.black {m : List (Bs × Value)} {o G : List Nm} {c : Nm} (h : Col m o (c :: G)) : Col (supd m c (.int .i64 2)) (o ++ [c]) G := fun x => by
  rw [slook_upd, h x]
  by_cases hx : x = c
  · subst hx; rw [if_pos rfl, if_pos (by simp)]
  · rw [if_neg hx]; simp [hx]
def visV (b5 b2 b7 b6 : Nat) : Value := .func (.func 74) #[] #[.pointer (some ⟨b5, 0, none⟩), .pointer (some ⟨b2, 0, none⟩), .pointer (some ⟨b7, 0, none⟩), .pointer (some ⟨b6, 0, none⟩)]
/-- What the search has. -/
def visS (S : Res) (v : Value) (l : Sys) (b5 b2 b7 b6 mb mc : Nat) (q : List (Bs × Value) × Value × List Nm) : SH :=
  [pt b5 (cl [.map (some mc)] 73), pt b2 (cl [v, .map (some mb)] 75), pt b7 (cl [visV b5 b2 b7 b6] 120), mps mc q.1, pt b6 (cl [q.2.1] 25), NR q.2.1 q.2.2, S, mps mb (kindsM l)]
section
variable {S : Res} {v : Value} {l : Sys}
set_option maxHeartbeats 1000000 in
set_option maxRecDepth 100000 in
theorem visit_ct {b5 b2 b7 b6 mb mc : Nat} (hv : sysR S v l) (hp : ∀ x ∈ l, x.parents.length ≤ 1099511627776) (hl : l.length ≤ 1099511627776) (ha : Acyc l) : ∀ (f : Nat) (c : Nm) (m : List (Bs × Value)) (w : Value) (o G : List Nm), rk l c < f → isC l c = true → w.oneCell' = true → Tp l o → (∀ x ∈ o, isC l x = true) → Col m o G → (∀ g ∈ G, has l c g = false) →
    Ct Tryz.prog 74 #[sv c, .pointer (some ⟨b5, 0, none⟩), .pointer (some ⟨b2, 0, none⟩), .pointer (some ⟨b7, 0, none⟩), .pointer (some ⟨b6, 0, none⟩)] (visS S v l b5 b2 b7 b6 mb mc (m, w, o)) fun u h' => ∃ m' w', u = .tuple #[] ∧ w'.oneCell' = true ∧ Col m' (vis l f o c) G ∧ h' = visS S v l b5 b2 b7 b6 mb mc (m', w', vis l f o c) := by
  obtain ⟨a, cap, rfl, _⟩ := id hv
  intro f
  induction f with
  | zero => intro c m w o G h; omega
  | succ f ihf =>
    intro c m w o G hf hcC hw ho hoC hm hG
    have hlk := hm c
    have hcG : c ∉ G := fun hg => by have := hG c hg; rw [has_refl] at this; cases this
    by_cases hc : c ∈ o
    · rw [if_pos hc] at hlk
      have hvis : vis l (f + 1) o c = o := by rw [vis, if_pos (by simpa using hc)]
      rw [hvis]
      refine ct_ofM (n := 26) Tryz.func74 rfl rfl (len rfl) fun hr w0 => ?_
      unfold visS
      dsimp only
      refine cd_seq (cd_seq (cd_region (st_v (v_ldy rfl ld73) ?_)))
      refine st_v (v_move rfl) (st_v (v_is (show (slook m c).getD (.int .i64 0) = .int .i64 2 by rw [hlk]; rfl) (v_slookup rfl rfl mp73 inf3 (by repeat (first | exact Sel.here | apply Sel.there)))) ?_)
      refine st_v (v_neq rfl rfl) (st_nil (nx_kp [0, 1, 2, 3, 4, 10] rfl (nx_then (cd_true rfl ?_))))
      refine cd_ret (xt_ret_then ?_)
      exact xt_retM (bs := []) rfl rfl ⟨m, w, rfl, hw, hm, rfl⟩ (by repeat (first | exact Sub.refl _ | exact Sub.nil _ | refine Sub.sel (by repeat (first | exact Sel.here | apply Sel.there)) ?_ | apply Sub.cons))
    · rw [if_neg hc, if_neg hcG] at hlk
      refine ct_ofM (n := 26) Tryz.func74 rfl rfl (len rfl) fun hr w0 => ?_
      unfold visS
      dsimp only
      refine cd_seq (cd_seq (cd_region (st_v (v_ldy rfl ld73) ?_)))
      refine st_v (v_move rfl) (st_v (v_is (show (slook m c).getD (.int .i64 0) = .int .i64 0 by rw [hlk]; rfl) (v_slookup rfl rfl mp73 inf3 (by repeat (first | exact Sel.here | apply Sel.there)))) ?_)
      refine st_v (v_neq rfl rfl) (st_nil (nx_kp [0, 1, 2, 3, 4, 10] rfl (nx_then (cd_false rfl ?_))))
      refine cd_skip (xt_then (cd_seq (cd_region (st_v (v_ldy rfl ld73) ?_))))
      refine st_v (v_move rfl) (st_smapUpdate rfl rfl rfl mp73 (by repeat (first | exact Sel.here | apply Sel.there)) ?_)
      refine st_nil (nx_kp [0, 1, 2, 3, 4] rfl (nx_then (cd_seq (cd_seq (cd_region ?_)))))
      have hvis : vis l (f + 1) o c = (par l c).foldl (vis l f) o ++ [c] := by rw [vis, if_neg (by simpa using hc)]
      have hm1 := hm.grey hc
      refine st_v (v_ldn rfl ld75 rfl rds_pt) ?_
      refine st_v (v_move rfl) (st_cl rfl rfl en37 rfl (parents0_ct rfl) ?_)
      rintro u h' ⟨c1, c2, rfl, rfl⟩
      refine st_nil (nx_kp [0, 1, 3, 4, 15] rfl (nx_then (cd_block ?_)))
      simp only [List.cons_append, List.nil_append]
      unfold seqv
      refine cd_range' rfl en71 fun yl db rec hst hpe hps hasg hbo hkn2 => ?_
      refine ⟨_, Ct.perm (it_ct (σ := List (Bs × Value) × Value × List Nm) (b1 := c1) (b2 := c2) (mb := mb) (yl := yl) (c := c) (fun q => pt yl (.loop rec) :: pt db (.deferred (some [])) :: pt b5 (cl [.map (some mc)] 73) :: pt b2 (cl [.slice a l.length cap, .map (some mb)] 75) :: pt b7 (cl [visV b5 b2 b7 b6] 120) :: mps mc q.1 :: pt b6 (cl [q.2.1] 25) :: NR q.2.1 q.2.2 :: hr)
        (fun k q => q.2.1.oneCell' = true ∧ Col q.1 q.2.2 (c :: G) ∧ q.2.2 = ((par l c).take k).foldl (vis l f) o ∧ Tp l q.2.2 ∧ ∀ x ∈ q.2.2, isC l x = true) (fun _ _ => False) (supd m c (.int .i64 1), w, o) ⟨hw, hm1, rfl, ho, hoC⟩ hv hp ?_) ?_, ?_⟩
      · rintro k ⟨m2, w2, o2⟩ p hk ⟨hw2, hm2, ho2, hT2, hC2⟩
        simp only at hw2 hm2 ho2 hT2 hC2
        have hpm := List.mem_of_getElem? hk
        have hrk := rk_lt ha hpm
        refine Yc.perm (yc_of (n := 26) (rec := rec) (args := [sv p]) (hf := pt db (.deferred (some [])) :: pt b5 (cl [.map (some mc)] 73) :: pt b2 (cl [.slice a l.length cap, .map (some mb)] 75) :: pt b7 (cl [visV b5 b2 b7 b6] 120) :: mps mc m2 :: pt b6 (cl [w2] 25) :: NR w2 o2 :: S :: mps mb (kindsM l) :: hr) (by rw [hps]; rfl) hkn2 (by rw [hps]; decide) ?_) (by exact (by repeat (first | exact Pm.refl | refine Pm.cons (by repeat (first | exact Sel.here | apply Sel.there)) ?_) : Pm _ _).perm)
        intro hr2 w1
        rw [hasg, hps, hbo]
        simp only [List.cons_append, List.nil_append]
        have hih := ihf p m2 w2 o2 (c :: G) (by omega) (par_isC hpm) hw2 hT2 hC2 hm2 (fun g hg => by
          rcases List.mem_cons.1 hg with rfl | hg
          · exact ha g p hpm
          · cases hh : has l p g with
            | false => rfl
            | true => have := hG g hg; rw [has_trans (has_par hpm) hh] at this; cases this)
        obtain ⟨hs1, hs2⟩ := vis_spec ha f p o2 (by omega) hT2
        unfold visS at hih
        dsimp only at hih
        refine cd_region (st_v (v_assign rfl) (st_nil (nx_kp [3, 6] rfl (nx_xt (xt_mid rfl (by repeat (first | exact Sel.here | apply Sel.there)) (by first | rfl | assumption) ?_)))))
        refine cd_block (cd_region (st_v (v_ldy rfl ld120) ?_))
        refine st_v (v_move rfl) (st_cl rfl rfl en74 rfl (hih) ?_)
        rintro u h' ⟨m3, w3, rfl, hw3, hm3, rfl⟩
        simp only [List.cons_append, List.nil_append]
        refine st_nil (nx_kp [] rfl (nx_xt (xt_normal_block (xt_round (by repeat (first | exact Sel.here | apply Sel.there)) (.inl ⟨rfl, (m3, w3, vis l f o2 p), ⟨hw3, hm3, ?_, hs1, fun x hx => ?_⟩, rfl⟩) ?_))))
        · obtain ⟨hkl, hke⟩ := List.getElem?_eq_some_iff.1 hk
          rw [List.take_succ_eq_append_getElem hkl, List.foldl_append, ← ho2, hke]; rfl
        · rcases (hs2 x).1 hx with hx | hx
          · exact hC2 x hx
          · exact has_isC (par_isC hpm) hx
        · rw [rec_back hst hpe]
          exact (by repeat (first | exact Sub.refl _ | exact Sub.nil _ | refine Sub.sel (by repeat (first | exact Sel.here | apply Sel.there)) ?_ | apply Sub.cons))
      · exact (by repeat (first | exact Pm.refl | refine Pm.cons (by repeat (first | exact Sel.here | apply Sel.there)) ?_) : Pm _ _).perm
      · rintro u h' ⟨rfl, (⟨⟨m2, w2, o2⟩, ⟨hw2, hm2, ho2, hT2, hC2⟩, rfl⟩ | ⟨_, _, hfalse, _⟩)⟩
        · simp only at hw2 hm2 ho2 hT2 hC2
          refine ⟨rec, _, (by repeat (first | exact Sel.here | apply Sel.there)), (by rw [hst]; simp), ?_⟩
          rw [hpe]
          dsimp only
          rw [List.take_length] at ho2
          have hlen : o2.length ≤ l.length := by
            have := length_le_of_nodup (b := nms l) hT2.nodup fun x hx => isC_iff.1 (hC2 x hx)
            simpa [nms] using this
          rw [hvis, ← ho2]
          refine xt_normal_block (xt_then (cd_seq (cd_region (st_v (v_ldy rfl ld73) ?_))))
          refine st_v (v_move rfl) (st_smapUpdate rfl rfl rfl mp73 (by repeat (first | exact Sel.here | apply Sel.there)) ?_)
          refine st_nil (nx_kp [0, 4] rfl (nx_then (cd_region (st_v (v_ldy rfl ld25) ?_))))
          refine st_v (v_move rfl) (st_buildSlice (cells := [sv c]) rfl Tryz.underlying25 inf9 rfl rfl (by kernel_rfl) (ltn rfl) fun b24 => ?_)
          refine st_app [nC c] rfl rfl Tryz.underlying25 inf9 rfl (by decide) (by repeat (first | exact Sel.here | apply Sel.there)) (by simp [nC]) rfl (fun j u2 hu2 => at_here (rd_cl (by simpa [nC] using hu2))) (by simp [nC, Value.oneCell']) (by simp; omega) (by simp; omega) (ltn rfl) fun w3 hw3 _ => ?_
          rw [show o2.map nC ++ [nC c] = (o2 ++ [c]).map nC by simp]
          refine st_sto rfl rfl sz25 ?_
          refine st_nil (nx_kp [] rfl (nx_xt ?_))
          exact xt_endM (bs := [db]) rfl rfl ⟨supd m2 c (.int .i64 2), w3, rfl, hw3, hm2.black, rfl⟩ (by repeat (first | exact Sub.refl _ | exact Sub.nil _ | refine Sub.sel (by repeat (first | exact Sel.here | apply Sel.there)) ?_ | apply Sub.cons))
        · exact hfalse.elim
end
end Go.Hr
namespace Go.Hr
open Go Go.Ck Go.Proofs Go.Proofs.YtjgiaohieadeiaaGreat Fx
attribute [local irreducible] Go.Ck.Sub St Cd Xt Nx DrL LsW
/-- The program keeps what it needs of a system: right, as far as this goes. -/
structure Fine (l : Sys) : Prop where
  len : l.length ≤ 900000
  few : ∀ x ∈ l, x.parents.length ≤ 1099511627776
theorem Right.fine {l : Sys} (h : Right l) : Fine l := ⟨by have := h.len; omega, fun x hx => by have := h.few x hx; omega⟩
section
variable {S : Res} {v : Value} {l : Sys}
set_option maxRecDepth 100000 in
theorem above_ct {mb : Nat} (hv : sysR S v l) (hF : Fine l) (ha : Acyc l) {c : Nm} (hc : isC l c = true) : Ct Tryz.prog 46 #[.agg #[v, .map (some mb)], sv c] [S, mps mb (kindsM l)] fun u h' => u.oneCell' = true ∧ h' = [NR u (above l c), S, mps mb (kindsM l)] := by
  obtain ⟨a, cap, rfl, _⟩ := id hv
  refine ct_of (n := 14) Tryz.func46 rfl rfl (len rfl) fun hr w0 => ?_
  refine cd_vw (vw_nil 9 1) (cd_seq (cd_region (st_bx rfl rfl fun b2 => ?_)))
  refine st_v (v_assign rfl) (st_nil (nx_kp [1, 2, 4] rfl (nx_then (cd_seq (cd_region (st_smakeMap (ltn rfl) fun b8 => ?_))))))
  refine st_alc al73 fun b5 => ?_
  refine st_sto rfl rfl sz73 ?_
  refine st_nil (nx_kp [1, 2, 4, 5] rfl (nx_then (cd_seq (cd_region (st_alc al25 fun b6 => ?_)))))
  refine st_nil (nx_then (cd_seq (cd_region (st_alc al120 fun b7 => ?_))))
  refine st_nil (nx_then (cd_seq (cd_region (st_v (v_makeFunc rfl rfl) (st_sto rfl rfl sz120 ?_)))))
  refine st_nil (nx_kp [1, 4, 6, 7] rfl (nx_then (cd_seq (cd_region (st_v (v_ldy rfl ld120) ?_)))))
  refine st_v (v_move rfl) (st_cl rfl rfl en74 rfl (visit_ct (b5 := b5) (b2 := b2) (b7 := b7) (b6 := b6) (mb := mb) (mc := b8) hv hF.few (Nat.le_trans hF.len (by decide)) ha (l.length + 1) c [] (.slice none 0 0) [] [] (rk_fuel l c) hc rfl .nil (fun x hx => by cases hx) (fun x => rfl) (fun g hg => by cases hg)) ?_)
  rintro u h' ⟨m', w', rfl, hw, hm, rfl⟩
  unfold visS
  simp only [List.cons_append, List.nil_append]
  refine st_nil (nx_kp [4, 6] rfl (nx_then (cd_seq (cd_region (st_v (v_ldy rfl ld25) ?_)))))
  refine st_v (v_assign rfl) (st_nil (nx_kp [4] rfl (nx_then (cd_ret ?_))))
  exact xt_rt rfl ⟨hw, rfl⟩ (by (repeat (refine Sub.sel (by repeat (first | exact Sel.here | apply Sel.there)) ?_)); (repeat apply Sub.cons); first | exact Sub.refl _ | exact Sub.nil _)
def ixS (xs : List Nm) (c : Nm) : Int := match xs.findIdx? (· == c) with | some i => i | none => -1
theorem ixS_has (xs : List Nm) (c : Nm) : decide (0 ≤ ixS xs c) = xs.contains c := by
  unfold ixS
  cases h : xs.findIdx? (· == c) with
  | none =>
    rw [List.findIdx?_eq_none_iff] at h
    cases hc : xs.contains c with
    | false => rfl
    | true =>
      rw [List.contains_iff_mem] at hc
      have := h c hc
      simp at this
  | some i =>
    show decide (0 ≤ (i : Int)) = _
    obtain ⟨hi, h1, _⟩ := List.findIdx?_eq_some_iff_getElem.1 h
    have h1 : xs[i] = c := by simpa using h1
    rw [show xs.contains c = true by rw [List.contains_iff_mem, ← h1]; exact List.getElem_mem hi]
    exact decide_eq_true (by omega)
set_option maxRecDepth 100000 in
theorem Index_ct {xs : List Nm} (hv : nmsR S v xs) (c : Nm) (hl : xs.length ≤ 1099511627776) : Reads Tryz.prog 69 #[v, sv c] [S] (.int .i64 (ixS xs c)) := by
  obtain ⟨a, cap, rfl, _⟩ := id hv
  refine ct_of (n := 19) Tryz.func69 rfl rfl (len rfl) fun hr w0 => ?_
  refine cd_seq (cd_region (st_v (v_assign rfl) (st_nil (nx_then (cd_seq (cd_seq (cd_region (st_v (v_move rfl) (st_v (v_len rfl Tryz.underlying25) (st_v (v_move rfl) (st_nil (nx_kp [0, 1, 4, 7, 8] rfl (nx_then (cd_block (cd_lq (σ := Nat) (fun i => [(0, .slice a xs.length cap), (1, sv c), (7, .int .i64 xs.length), (8, .int .i64 (i : Nat))]) (fun _ => S :: hr) (fun i => i ≤ xs.length ∧ ∀ (j : Nat) (y : Nm), j < i → xs[j]? = some y → y ≠ c) (fun i => xs.length - i) 0 ⟨Nat.zero_le _, fun j y hj => by omega⟩ ?_)))))))))))))))
  rintro i ⟨hi, hne⟩
  refine cd_seq (cd_region (st_v (v_lss rfl rfl) (st_nil (nx_then (cd_seq (cd_cond rfl (fun hd => ?_) (fun hd => ?_)))))))
  · skip
    have hlt : i < xs.length := by simpa using hd
    obtain ⟨b, o, cap2, hv2, hrd⟩ := nms_at hv (List.getElem?_eq_getElem hlt)
    refine cd_skip (xt_then (cd_seq (cd_block (cd_seq (cd_region (st_v (v_move rfl) (st_v (v_assign rfl) (st_nil (nx_kp [0, 1, 5, 7, 8] rfl (nx_then (cd_seq (cd_region (st_v (v_move rfl) (st_v (v_move rfl) (st_v (v_move rfl) ?_)))))))))))))))
    refine st_v (v_indexAddr (k := i) (congrArg some hv2) rfl sl25 rfl hlt rfl) (st_v (v_ldy rfl ld9) ?_)
    refine st_v (v_seql rfl rfl) (st_nil (nx_kp [0, 1, 5, 7, 8, 16] rfl (nx_then (cd_cond rfl (fun he => ?_) (fun he => ?_)))))
    · skip
      have he : xs[i] = c := by have : c = xs[i] := by simpa using he
                                exact this.symm
      refine cd_seq (cd_region (st_v (v_move rfl) (st_v (v_assign rfl) (st_nil (nx_kp [4] rfl (nx_then (cd_ret (xt_ret_block (xt_ret_then (xt_ret_then (xt_ret_block (xt_ret_then ?_))))))))))))
      rw [show ixS xs c = (i : Int) by
        unfold ixS
        rw [show xs.findIdx? (· == c) = some i from List.findIdx?_eq_some_iff_getElem.2 ⟨hlt, by simp [he], fun j hj => by simpa using hne j _ hj (List.getElem?_eq_getElem (Nat.lt_trans hj hlt))⟩]]
      exact xt_rt rfl ⟨rfl, rfl⟩ (by (repeat (refine Sub.sel (by repeat (first | exact Sel.here | apply Sel.there)) ?_)); (repeat apply Sub.cons); first | exact Sub.refl _ | exact Sub.nil _)
    · skip
      have he : xs[i] ≠ c := fun h => by rw [h] at he; simp at he
      refine cd_skip (xt_normal_block (xt_then (cd_region (st_v (v_add rfl rfl (by unfold I64 at *; omega)) (st_v (v_move rfl) (st_nil (nx_kp [0, 1, 7, 8] rfl (nx_xt (xt_aq (i + 1) ⟨hlt, fun j y hj hy => ?_⟩ (by show _ - _ < _ - _; omega))))))))))
      by_cases hji : j = i
      · subst hji; rw [List.getElem?_eq_getElem hlt] at hy; cases hy; exact he
      · exact hne j y (by omega) hy
  · skip
    refine cd_exit (xt_exit_then (xt_exit_then (xt_exit_block (xt_then (cd_seq (cd_region (st_v (v_assign rfl) (st_nil (nx_kp [4] rfl (nx_then (cd_ret ?_)))))))))))
    have hil : i = xs.length := by have : ¬ i < xs.length := by simpa using hd
                                   omega
    rw [show ixS xs c = -1 by
      unfold ixS
      rw [show xs.findIdx? (· == c) = none from List.findIdx?_eq_none_iff.2 fun x hx => by
        obtain ⟨j, hj, rfl⟩ := List.getElem_of_mem hx
        simpa using hne j _ (by omega) (List.getElem?_eq_getElem hj)]]
    exact xt_rt rfl ⟨rfl, rfl⟩ (by (repeat (refine Sub.sel (by repeat (first | exact Sel.here | apply Sel.there)) ?_)); (repeat apply Sub.cons); first | exact Sub.refl _ | exact Sub.nil _)
set_option maxRecDepth 100000 in
theorem Contains_ct {xs : List Nm} (hv : nmsR S v xs) (c : Nm) (hl : xs.length ≤ 1099511627776) : Reads Tryz.prog 35 #[v, sv c] [S] (.bool (xs.contains c)) := by
  refine ct_of (n := 9) Tryz.func35 rfl rfl (len rfl) fun hr w0 => ?_
  refine cd_seq (cd_region (st_v (v_assign rfl) (st_nil (nx_then (cd_seq (cd_region (st_v (v_move rfl) (st_v (v_move rfl) (st_clr rfl rfl en69 rfl (Index_ct hv c hl) ?_)))))))))
  refine st_v (v_geq rfl rfl) (st_v (v_assign rfl) (st_nil (nx_kp [4] rfl (nx_then (cd_ret ?_)))))
  rw [ixS_has]
  exact xt_rt rfl ⟨rfl, rfl⟩ (by (repeat (refine Sub.sel (by repeat (first | exact Sel.here | apply Sel.there)) ?_)); (repeat apply Sub.cons); first | exact Sub.refl _ | exact Sub.nil _)
theorem above_len (ha : Acyc l) {c : Nm} (hc : isC l c = true) : (above l c).length ≤ l.length := by
  obtain ⟨h1, h2⟩ := above_spec ha c
  have := length_le_of_nodup (b := nms l) h1.nodup fun x hx => isC_iff.1 (has_isC hc ((h2 x).1 hx))
  simpa [nms] using this
theorem above_has (ha : Acyc l) (c a : Nm) : (above l c).contains a = has l c a := by
  rw [Bool.eq_iff_iff, List.contains_iff_mem]
  exact (above_spec ha c).2 a
set_option maxRecDepth 100000 in
theorem has_ct {mb : Nat} (hv : sysR S v l) (hF : Fine l) (ha : Acyc l) {c : Nm} (hc : isC l c = true) (x : Nm) : Ct Tryz.prog 55 #[.agg #[v, .map (some mb)], sv c, sv x] [S, mps mb (kindsM l)] fun u h' => u = .bool (has l c x) ∧ h' = [S, mps mb (kindsM l)] := by
  obtain ⟨a, cap, rfl, _⟩ := id hv
  have hlen := above_len ha hc
  have hFl := hF.len
  refine ct_of (n := 12) Tryz.func55 rfl rfl (len rfl) fun hr w0 => ?_
  refine cd_seq (cd_region (st_bx rfl rfl fun b3 => ?_))
  refine st_v (v_assign rfl) (st_nil (nx_kp [1, 2, 3, 6] rfl (nx_then (cd_seq (cd_region (st_v (v_ldn rfl ld75 rfl rds_pt) ?_))))))
  refine st_v (v_move rfl) (st_cl rfl rfl en46 rfl (above_ct hv hF ha hc) ?_)
  rintro u h' ⟨hu, rfl⟩
  simp only [List.cons_append, List.nil_append]
  refine st_ok (r := NR u (above l c)) (by repeat (first | exact Sel.here | apply Sel.there)) fun hok => ?_
  refine st_v (v_move rfl) (st_clr rfl rfl en35 rfl (Contains_ct (nms_own hok) x (by omega)) ?_)
  refine st_v (v_assign rfl) (st_nil (nx_kp [6] rfl (nx_then (cd_ret ?_))))
  rw [above_has ha]
  exact xt_rt rfl ⟨rfl, rfl⟩ (by (repeat (refine Sub.sel (by repeat (first | exact Sel.here | apply Sel.there)) ?_)); (repeat apply Sub.cons); first | exact Sub.refl _ | exact Sub.nil _)
end
end Go.Hr
namespace Go.Hr
open Go Go.Ck Go.Proofs Go.Proofs.YtjgiaohieadeiaaGreat Fx
attribute [local irreducible] Go.Ck.Sub St Cd Xt Nx DrL LsW
section
variable {α : Type} (g : α → Value)
def mvG (F : List (Nm × α)) : List (Bs × Value) := F.map fun p => (p.1, g p.2)
theorem slook_mvG (F : List (Nm × α)) (k : Nm) : slook (mvG g F) k = (alook F k).map g := by
  induction F with
  | nil => rfl
  | cons p t ih =>
    rw [alook_cons]
    unfold mvG slook at ih ⊢
    rw [List.map_cons, List.find?_cons]
    by_cases h : p.1 = k
    · simp [h]
    · have : (p.1 == k) = false := by simp [h]
      simp only [this, if_neg h]
      exact ih
theorem supd_mvG (F : List (Nm × α)) (k : Nm) (x : α) : supd (mvG g F) k (g x) = mvG g (aupd F k x) := by
  induction F with
  | nil => rfl
  | cons p t ih =>
    unfold mvG at ih ⊢
    rw [List.map_cons]
    unfold supd aupd
    by_cases h : p.1 = k
    · simp [h]
    · rw [if_neg h, if_neg h, ih]; rfl
end
def nV (n : Nat) : Value := .int .i64 ((n : Int) + 1)
section
variable {S : Res} {v : Value} {l : Sys}
set_option maxHeartbeats 2000000 in
set_option maxRecDepth 100000 in
theorem far_ct {mb : Nat} (hv : sysR S v l) (hF : Fine l) (to : Nm) : Ct Tryz.prog 75 #[.agg #[v, .map (some mb)], sv to] [S, mps mb (kindsM l)] fun u h' => ∃ mf F, u = .map (some mf) ∧ h' = [mps mf (mvG nV F), S, mps mb (kindsM l)] ∧ ∀ x, alook F x = dist l to x := by
  obtain ⟨a, cap, rfl, _⟩ := id hv
  have hFl := hF.len
  refine ct_ofM (n := 62) Tryz.func75 rfl rfl (len rfl) fun hr w0 => ?_
  refine cd_seq (cd_region (st_bx rfl rfl fun b2 => ?_))
  refine st_v (v_assign rfl) (st_nil (nx_kp [1, 2, 4] rfl (nx_then (cd_seq (cd_region (st_smakeMap (ltn rfl) fun b14 => ?_))))))
  refine st_v (v_move rfl) (st_sinsert rfl rfl rfl mp73 (by repeat (first | exact Sel.here | apply Sel.there)) ?_)
  refine st_v (v_move rfl) (st_alc al73 fun b5 => ?_)
  refine st_sto rfl rfl sz73 ?_
  refine st_nil (nx_kp [2, 4, 5] rfl (nx_then (cd_seq (cd_seq (cd_region (st_alc al4 fun b6 => ?_))))))
  refine st_sto rfl rfl sz4 ?_
  refine st_nil (nx_then (cd_block ?_))
  rw [show supd [] to (Value.int .i64 1) = mvG nV [(to, 0)] from rfl]
  refine cd_marks0 (cd_loopD (σ := List (Nm × Nat) × Bool × Nat × List Nat) (fun q => q.2.2.2.map mk) (fun q => [(2, .pointer (some ⟨b2, 0, none⟩)), (5, .pointer (some ⟨b5, 0, none⟩)), (6, .pointer (some ⟨q.2.2.1, 0, none⟩))]) (fun q => Res.star (marks q.2.2.2) :: pt q.2.2.1 (cl [.bool q.2.1] 4) :: pt b5 (cl [.map (some b14)] 73) :: mps b14 (mvG nV q.1) :: pt b2 (cl [.slice a l.length cap, .map (some mb)] 75) :: S :: mps mb (kindsM l) :: hr) (fun q => FarI l to q.1 ∧ (q.2.1 = false → ∀ c p, p ∈ par l c → Rel q.1 c p)) (fun q => if q.2.1 then pot l q.1 + 1 else 0) ([(to, 0)], true, b6, []) ⟨FarI.init l to, fun h => by cases h⟩ rfl ⟨rfl, rfl, rfl, trivial⟩ (by (repeat (refine Sub.sel (by repeat (first | exact Sel.here | apply Sel.there)) ?_)); (repeat apply Sub.cons); first | exact Sub.refl _ | exact Sub.nil _) ?_)
  rintro ⟨F0, fl0, b60, bs⟩ ⟨hI0, hdone⟩
  simp only at hI0 hdone
  dsimp only
  refine cd_seq (cd_seq (cd_region (st_v (v_ldy rfl ld4) ?_)))
  refine st_nil (nx_then (cd_cond rfl (fun hf => ?_) (fun hf => ?_)))
  · skip
    refine cd_skip (xt_then (cd_seq (cd_block (cd_seq (cd_region (st_sto rfl rfl sz4 ?_))))))
    refine st_nil (nx_kp [2, 5, 6] rfl (nx_then (cd_seq (cd_region (st_v (v_fieldAddr rfl fa75_0 rfl) (st_v (v_ldy rfl ld22) ?_))))))
    refine st_v (v_len rfl Tryz.underlying22) (st_v (v_move rfl) (st_nil (nx_kp [2, 5, 6, 19, 20, 21] rfl (nx_then (cd_block (cd_loopD (σ := Nat × List (Nm × Nat) × Bool × List Nat) (fun q => q.2.2.2.map mk) (fun q => [(2, .pointer (some ⟨b2, 0, none⟩)), (5, .pointer (some ⟨b5, 0, none⟩)), (6, .pointer (some ⟨b60, 0, none⟩)), (19, .slice a l.length cap), (20, .int .i64 l.length), (21, .int .i64 (q.1 : Nat))]) (fun q => Res.star (marks q.2.2.2) :: pt b60 (cl [.bool q.2.2.1] 4) :: pt b5 (cl [.map (some b14)] 73) :: mps b14 (mvG nV q.2.1) :: pt b2 (cl [.slice a l.length cap, .map (some mb)] 75) :: S :: mps mb (kindsM l) :: hr) (fun q => q.1 ≤ l.length ∧ FarI l to q.2.1 ∧ (q.2.2.1 = true → pot l q.2.1 < pot l F0) ∧ (q.2.2.1 = false → q.2.1 = F0 ∧ ∀ (j : Nat) (y : Cls), j < q.1 → l[j]? = some y → ∀ p ∈ par l y.name, Rel F0 y.name p)) (fun q => l.length - q.1) (0, F0, false, bs) ⟨Nat.zero_le _, hI0, fun h => (by cases h), fun _ => ⟨rfl, fun j y hj => by omega⟩⟩ rfl ⟨rfl, rfl, rfl, rfl, rfl, rfl, trivial⟩ (by (repeat (refine Sub.sel (by repeat (first | exact Sel.here | apply Sel.there)) ?_)); (repeat apply Sub.cons); first | exact Sub.refl _ | exact Sub.nil _) ?_))))))
    rintro ⟨i, F, fl, bs2⟩ ⟨hi, hI, hpot, hsame⟩
    simp only at hi hI hpot hsame
    dsimp only
    refine cd_seq (cd_region (st_v (v_lss rfl rfl) (st_nil (nx_then (cd_seq (cd_cond rfl (fun hd => ?_) (fun hd => ?_)))))))
    · skip
      have hlt : i < l.length := by simpa using hd
      obtain ⟨b, o, cap2, d, f, pa, pc, c2, fa, fc, j2, hv2, hrd, hP, hone⟩ := sys_at hv (List.getElem?_eq_getElem hlt)
      have hname : (l[i]).name = (l[i]).name := rfl
      generalize hcn : (l[i]).name = cn at *
      refine cd_skip (xt_then (cd_seq (cd_block (cd_seq (cd_region (st_v (v_indexAddr (k := i) (congrArg some hv2) rfl sl22 rfl hlt rfl) (st_v (v_ldn rfl ld29 rfl hrd) ?_)))))))
      refine st_alc al29 fun b8 => ?_
      refine st_stoW rfl rfl sz29 rfl hone ?_
      refine st_nil (nx_kp [2, 5, 6, 8, 19, 20, 21] rfl (nx_then (cd_seq (cd_region (st_v (v_ldn rfl ld75 rfl rds_pt) ?_)))))
      refine st_v (v_fieldAddr rfl fa29_0 rfl) (st_v (v_ldy rfl ld9) ?_)
      refine st_cl rfl rfl en37 rfl (parents0_ct rfl) ?_
      rintro u h' ⟨n1, n2, rfl, rfl⟩
      refine st_nil (nx_kp [2, 5, 6, 8, 19, 20, 21, 28] rfl (nx_then (cd_block ?_)))
      simp only [List.cons_append, List.nil_append]
      unfold seqv
      refine cd_range' rfl en71 fun yl db rec hst hpe hps hasg hbo hkn2 => ?_
      refine ⟨_, Ct.perm (it_ct (σ := List (Nm × Nat) × Bool) (b1 := n1) (b2 := n2) (mb := mb) (yl := yl) (c := cn) (fun q => pt yl (.loop rec) :: pt db (.deferred (some [])) :: pt b8 (cl [sv cn, d, f, .slice pa l[i].parents.length pc, c2, .slice fa l[i].feats fc, j2] 29) :: Res.star (marks bs2) :: pt b60 (cl [.bool q.2] 4) :: pt b5 (cl [.map (some b14)] 73) :: mps b14 (mvG nV q.1) :: pt b2 (cl [.slice a l.length cap, .map (some mb)] 75) :: hr)
        (fun k q => FarI l to q.1 ∧ (q.2 = true → pot l q.1 < pot l F0) ∧ (q.2 = false → q.1 = F0 ∧ (∀ (j : Nat) (y : Cls), j < i → l[j]? = some y → ∀ p ∈ par l y.name, Rel F0 y.name p) ∧ ∀ p ∈ (par l cn).take k, Rel F0 cn p)) (fun _ _ => False) (F, fl) ⟨hI, hpot, fun h => ⟨(hsame h).1, (hsame h).2, fun p hp => by simp at hp⟩⟩ hv hF.few ?_) ?_, ?_⟩
      · rintro k ⟨F2, fl2⟩ p hk ⟨hI2, hpot2, hsame2⟩
        simp only at hI2 hpot2 hsame2
        have hpm := List.mem_of_getElem? hk
        have htk : ∀ q, q ∈ (par l cn).take (k + 1) → q ∈ (par l cn).take k ∨ q = p := fun q hq => by
          obtain ⟨hkl, hke⟩ := List.getElem?_eq_some_iff.1 hk
          rw [List.take_succ_eq_append_getElem hkl, hke] at hq
          simpa using hq
        refine Yc.perm (yc_of (n := 62) (rec := rec) (args := [sv p]) (hf := pt db (.deferred (some [])) :: pt b8 (cl [sv cn, d, f, .slice pa l[i].parents.length pc, c2, .slice fa l[i].feats fc, j2] 29) :: Res.star (marks bs2) :: pt b60 (cl [.bool fl2] 4) :: pt b5 (cl [.map (some b14)] 73) :: mps b14 (mvG nV F2) :: pt b2 (cl [.slice a l.length cap, .map (some mb)] 75) :: S :: mps mb (kindsM l) :: hr) (by rw [hps]; rfl) hkn2 (by rw [hps]; decide) ?_) (by exact (by repeat (first | exact Pm.refl | refine Pm.cons (by repeat (first | exact Sel.here | apply Sel.there)) ?_) : Pm _ _).perm)
        intro hr2 w1
        rw [hasg, hps, hbo]
        simp only [List.cons_append, List.nil_append]
        refine cd_region (st_v (v_assign rfl) (st_nil (nx_kp [5, 6, 8, 9] rfl (nx_xt (xt_mid rfl (by repeat (first | exact Sel.here | apply Sel.there)) (by first | rfl | assumption) ?_)))))
        refine cd_block (cd_seq (cd_region (st_v (v_ldy rfl ld73) ?_)))
        refine st_v (v_move rfl) ?_
        cases hp1 : alook F2 p
        · skip
          refine st_v (v_is (show Value.tuple #[(slook (mvG nV F2) p).getD (.int .i64 0), .bool (slook (mvG nV F2) p).isSome] = .tuple #[.int .i64 0, .bool false] by rw [slook_mvG, hp1]; rfl) (v_slookup_ok rfl rfl mp73 inf3 (by repeat (first | exact Sel.here | apply Sel.there)))) ?_
          refine st_v (v_move rfl) (st_v (v_extract rfl rfl) (st_v (v_extract rfl rfl) (st_v (v_assign rfl) (st_v (v_assign rfl) (st_nil (nx_kp [5, 6, 8, 10, 11] rfl (nx_then (cd_seq (cd_region (st_v (v_ldy rfl ld73) ?_))))))))))
          refine st_v (v_fieldAddr rfl fa29_0 rfl) (st_v (v_ldy rfl ld9) ?_)
          refine st_v (v_slookup_ok rfl rfl mp73 inf3 (by repeat (first | exact Sel.here | apply Sel.there))) ?_
          refine st_v (v_move rfl) (st_v (v_extract rfl rfl) (st_v (v_extract rfl rfl) (st_v (v_assign rfl) (st_v (v_assign rfl) (st_nil (nx_kp [5, 6, 8, 10, 11, 12, 13] rfl (nx_then (cd_seq (cd_region (st_v (v_move rfl) (st_v (v_move rfl) (st_sk rfl rfl rfl ?_))))))))))))
          refine st_sk rfl rfl rfl ?_
          refine st_sk rfl rfl rfl ?_
          refine st_sku rfl rfl ?_
          refine st_sku rfl rfl ?_
          refine st_sku rfl rfl ?_
          refine st_sku rfl rfl ?_
          refine st_sk rfl rfl rfl ?_
          refine st_v (v_pick_false rfl rfl) (st_nil (nx_kp [5, 6, 8, 10, 53] rfl (nx_then (cd_false rfl ?_))))
          refine cd_skip (xt_normal_block (xt_round (by repeat (first | exact Sel.here | apply Sel.there)) (.inl ⟨rfl, (F2, fl2), ⟨hI2, hpot2, fun h => ⟨(hsame2 h).1, (hsame2 h).2.1, fun q hq => ?_⟩⟩, rfl⟩) ?_))
          · obtain ⟨he, _, h3⟩ := hsame2 h
            rcases htk q hq with hq | rfl
            · exact h3 q hq
            · intro n hn
              rw [← he, hp1] at hn; cases hn
          · rw [rec_back hst hpe]
            exact (by repeat (first | exact Sub.refl _ | exact Sub.nil _ | refine Sub.sel (by repeat (first | exact Sel.here | apply Sel.there)) ?_ | apply Sub.cons))
        · skip
          rename_i n
          have hn1 := hI2.walk p n hp1
          have hn2 := hI2.len
          refine st_v (v_is (show Value.tuple #[(slook (mvG nV F2) p).getD (.int .i64 0), .bool (slook (mvG nV F2) p).isSome] = .tuple #[.int .i64 ((n : Int) + 1), .bool true] by rw [slook_mvG, hp1]; rfl) (v_slookup_ok rfl rfl mp73 inf3 (by repeat (first | exact Sel.here | apply Sel.there)))) ?_
          refine st_v (v_move rfl) (st_v (v_extract rfl rfl) (st_v (v_extract rfl rfl) (st_v (v_assign rfl) (st_v (v_assign rfl) (st_nil (nx_kp [5, 6, 8, 10, 11] rfl (nx_then (cd_seq (cd_region (st_v (v_ldy rfl ld73) ?_))))))))))
          refine st_v (v_fieldAddr rfl fa29_0 rfl) (st_v (v_ldy rfl ld9) ?_)
          cases hc1 : alook F2 cn
          · skip
            refine st_v (v_is (show Value.tuple #[(slook (mvG nV F2) cn).getD (.int .i64 0), .bool (slook (mvG nV F2) cn).isSome] = .tuple #[.int .i64 0, .bool false] by rw [slook_mvG, hc1]; rfl) (v_slookup_ok rfl rfl mp73 inf3 (by repeat (first | exact Sel.here | apply Sel.there)))) ?_
            refine st_v (v_move rfl) (st_v (v_extract rfl rfl) (st_v (v_extract rfl rfl) (st_v (v_assign rfl) (st_v (v_assign rfl) (st_nil (nx_kp [5, 6, 8, 10, 11, 12, 13] rfl (nx_then (cd_seq (cd_region (st_v (v_move rfl) (st_v (v_move rfl) (st_vg rfl rfl (v_move rfl) (st_vg rfl rfl (v_not rfl) (st_vg rfl rfl (v_move rfl) (st_sk rfl rfl rfl ?_)))))))))))))))
            refine st_sk rfl rfl rfl ?_
            refine st_sk rfl rfl rfl ?_
            refine st_sk rfl rfl rfl ?_
            refine st_vg rfl rfl (v_pick_true rfl rfl) (st_v (v_pick_true rfl rfl) (st_nil (nx_kp [5, 6, 8, 10, 53] rfl (nx_then (cd_true rfl ?_)))))
            refine cd_region (st_v (v_ldy rfl ld73) ?_)
            refine st_v (v_fieldAddr rfl fa29_0 rfl) (st_v (v_ldy rfl ld9) ?_)
            refine st_v (v_move rfl) (st_v (v_add rfl rfl (by unfold I64 at *; omega)) (st_smapUpdate rfl rfl rfl mp73 (by repeat (first | exact Sel.here | apply Sel.there)) ?_))
            refine st_sto rfl rfl sz4 ?_
            refine st_nil (nx_kp [] rfl (nx_xt (xt_normal_block ?_)))
            rw [show supd (mvG nV F2) cn (.int .i64 ((n : Int) + 1 + 1)) = mvG nV (aupd F2 cn (n + 1)) from supd_mvG nV F2 cn (n + 1)]
            obtain ⟨hI3, hpot3⟩ := hI2.better hpm hp1 (fun n' h => by rw [hc1] at h; cases h)
            refine xt_round (by repeat (first | exact Sel.here | apply Sel.there)) (.inl ⟨rfl, (aupd F2 cn (n + 1), true), ⟨hI3, fun _ => ?_, fun h => by cases h⟩, rfl⟩) ?_
            · show pot l (aupd F2 cn (n + 1)) < pot l F0
              cases hfl : fl2 with
              | true => have := hpot2 hfl; omega
              | false => exact Nat.lt_of_lt_of_eq hpot3 (congrArg (pot l) (hsame2 hfl).1)
            · rw [rec_back hst hpe]
              exact (by repeat (first | exact Sub.refl _ | exact Sub.nil _ | refine Sub.sel (by repeat (first | exact Sel.here | apply Sel.there)) ?_ | apply Sub.cons))
          · skip
            rename_i n'
            have hn3 := hI2.walk cn n' hc1
            refine st_v (v_is (show Value.tuple #[(slook (mvG nV F2) cn).getD (.int .i64 0), .bool (slook (mvG nV F2) cn).isSome] = .tuple #[.int .i64 ((n' : Int) + 1), .bool true] by rw [slook_mvG, hc1]; rfl) (v_slookup_ok rfl rfl mp73 inf3 (by repeat (first | exact Sel.here | apply Sel.there)))) ?_
            refine st_v (v_move rfl) (st_v (v_extract rfl rfl) (st_v (v_extract rfl rfl) (st_v (v_assign rfl) (st_v (v_assign rfl) (st_nil (nx_kp [5, 6, 8, 10, 11, 12, 13] rfl (nx_then (cd_seq (cd_region (st_v (v_move rfl) (st_v (v_move rfl) (st_vg rfl rfl (v_move rfl) (st_vg rfl rfl (v_not rfl) (st_vg rfl rfl (v_move rfl) (st_vg rfl rfl (v_move rfl) ?_)))))))))))))))
            refine st_vg rfl rfl (v_move rfl) (st_vg rfl rfl (v_add rfl rfl (by unfold I64 at *; omega)) (st_vg rfl rfl (v_gtr rfl rfl) (st_vg rfl rfl (v_pick_false rfl rfl) (st_v (v_pick_true rfl rfl) (st_nil (nx_kp [5, 6, 8, 10, 53] rfl (nx_then (cd_cond rfl (fun hb => ?_) (fun hb => ?_)))))))))
            · skip
              have hb : n + 1 < n' := by have : (n : Int) + 1 + 1 < (n' : Int) + 1 := by simpa using hb
                                         omega
              refine cd_region (st_v (v_ldy rfl ld73) ?_)
              refine st_v (v_fieldAddr rfl fa29_0 rfl) (st_v (v_ldy rfl ld9) ?_)
              refine st_v (v_move rfl) (st_v (v_add rfl rfl (by unfold I64 at *; omega)) (st_smapUpdate rfl rfl rfl mp73 (by repeat (first | exact Sel.here | apply Sel.there)) ?_))
              refine st_sto rfl rfl sz4 ?_
              refine st_nil (nx_kp [] rfl (nx_xt (xt_normal_block ?_)))
              rw [show supd (mvG nV F2) cn (.int .i64 ((n : Int) + 1 + 1)) = mvG nV (aupd F2 cn (n + 1)) from supd_mvG nV F2 cn (n + 1)]
              obtain ⟨hI3, hpot3⟩ := hI2.better hpm hp1 (fun m h => by rw [hc1] at h; cases h; exact hb)
              refine xt_round (by repeat (first | exact Sel.here | apply Sel.there)) (.inl ⟨rfl, (aupd F2 cn (n + 1), true), ⟨hI3, fun _ => ?_, fun h => by cases h⟩, rfl⟩) ?_
              · show pot l (aupd F2 cn (n + 1)) < pot l F0
                cases hfl : fl2 with
                | true => have := hpot2 hfl; omega
                | false => exact Nat.lt_of_lt_of_eq hpot3 (congrArg (pot l) (hsame2 hfl).1)
              · rw [rec_back hst hpe]
                exact (by repeat (first | exact Sub.refl _ | exact Sub.nil _ | refine Sub.sel (by repeat (first | exact Sel.here | apply Sel.there)) ?_ | apply Sub.cons))
            · skip
              have hb : n' ≤ n + 1 := by have : ¬ (n : Int) + 1 + 1 < (n' : Int) + 1 := by simpa using hb
                                         omega
              refine cd_skip (xt_normal_block (xt_round (by repeat (first | exact Sel.here | apply Sel.there)) (.inl ⟨rfl, (F2, fl2), ⟨hI2, hpot2, fun h => ⟨(hsame2 h).1, (hsame2 h).2.1, fun q hq => ?_⟩⟩, rfl⟩) ?_))
              · obtain ⟨he, _, h3⟩ := hsame2 h
                rcases htk q hq with hq | rfl
                · exact h3 q hq
                · intro m hm
                  rw [← he, hp1] at hm
                  cases hm
                  exact ⟨n', by rw [← he]; exact hc1, hb⟩
              · rw [rec_back hst hpe]
                exact (by repeat (first | exact Sub.refl _ | exact Sub.nil _ | refine Sub.sel (by repeat (first | exact Sel.here | apply Sel.there)) ?_ | apply Sub.cons))
      · exact (by repeat (first | exact Pm.refl | refine Pm.cons (by repeat (first | exact Sel.here | apply Sel.there)) ?_) : Pm _ _).perm
      · rintro u h' ⟨rfl, (⟨⟨F2, fl2⟩, ⟨hI2, hpot2, hsame2⟩, rfl⟩ | ⟨_, _, hfalse, _⟩)⟩
        · simp only at hI2 hpot2 hsame2
          rw [List.take_length] at hsame2
          refine ⟨rec, _, (by repeat (first | exact Sel.here | apply Sel.there)), (by rw [hst]; simp), ?_⟩
          rw [hpe]
          dsimp only
          refine xt_normal_block (xt_normal_block (xt_then (cd_region (st_v (v_add rfl rfl (by unfold I64 at *; omega)) (st_v (v_move rfl) (st_nil (nx_kp [2, 5, 6, 19, 20, 21] rfl (nx_xt (xt_mark (by repeat (first | exact Sel.here | apply Sel.there)) (by repeat (first | exact Sel.here | apply Sel.there)) ?_)))))))))
          refine xt_againD (i + 1, F2, fl2, db :: bs2) ⟨hlt, hI2, hpot2, fun h => ⟨(hsame2 h).1, fun j y hj hy => ?_⟩⟩ (by show _ - _ < _ - _; omega) rfl ⟨rfl, rfl, rfl, rfl, rfl, rfl, trivial⟩ (by (repeat (refine Sub.sel (by repeat (first | exact Sel.here | apply Sel.there)) ?_)); (repeat apply Sub.cons); first | exact Sub.refl _ | exact Sub.nil _)
          obtain ⟨_, h2, h3⟩ := hsame2 h
          by_cases hji : j = i
          · subst hji
            rw [List.getElem?_eq_getElem hlt] at hy; cases hy
            rw [hcn]; exact h3
          · exact h2 j y (by omega) hy
        · exact hfalse.elim
    · skip
      have hil : i = l.length := by have : ¬ i < l.length := by simpa using hd
                                    omega
      subst hil
      refine cd_exit (xt_exit_then (xt_exit_then (xt_exit_block (xt_normal_block (xt_then (cd_seq (cd_region (st_v (v_ldy rfl ld4) ?_))))))))
      refine st_nil (nx_kp [2, 5, 6, 60] rfl (nx_then (cd_region (st_alc al4 fun b6 => ?_))))
      refine st_sto rfl rfl sz4 ?_
      refine st_nil (nx_kp [2, 5, 6] rfl (nx_xt ?_))
      refine xt_againD (F, fl, b6, bs2) ⟨hI, fun h c p hp => ?_⟩ (by
        show (if fl = true then pot l F + 1 else 0) < (if fl0 = true then pot l F0 + 1 else 0)
        rw [if_pos hf]
        split
        · rename_i h; have := hpot h; omega
        · omega) rfl ⟨rfl, rfl, rfl, trivial⟩ (by (repeat (refine Sub.sel (by repeat (first | exact Sel.here | apply Sel.there)) ?_)); (repeat apply Sub.cons); first | exact Sub.refl _ | exact Sub.nil _)
      obtain ⟨rfl, h2⟩ := hsame h
      have hc := par_of hp
      obtain ⟨j, hj⟩ : ∃ j, idx l c = some j := by
        cases hh : idx l c with
        | some j => exact ⟨j, rfl⟩
        | none => unfold isC at hc; rw [idx_find.2 hh] at hc; cases hc
      obtain ⟨x, hx, hfx⟩ := idx_find.1 j hj
      have hn := (find_name hfx).1
      have := h2 j x (List.getElem?_eq_some_iff.1 hx).1 hx p (by rw [hn]; exact hp)
      rwa [hn] at this
  · skip
    have hf2 : fl0 = false := by simpa using hf
    refine cd_exit (xt_exit_then (xt_exit_then (xt_exit_block (xt_then (cd_seq (cd_region (st_v (v_ldy rfl ld73) ?_)))))))
    refine st_v (v_assign rfl) (st_nil (nx_kp [4] rfl (nx_then (cd_ret (xt_retS (bs := bs) rfl rfl ⟨b14, F0, rfl, rfl, hI0.done (hdone hf2)⟩ (by (repeat (refine Sub.sel (by repeat (first | exact Sel.here | apply Sel.there)) ?_)); (repeat apply Sub.cons); first | exact Sub.refl _ | exact Sub.nil _))))))
end
end Go.Hr
