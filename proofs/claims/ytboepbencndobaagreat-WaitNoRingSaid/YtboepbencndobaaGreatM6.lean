/-
  Rules over rows of elements: loads, stores, slices, append; a row of which one element is looked at; a list of resources of which one is looked at. Generic: nothing of the program is named here. No condition.
  The yard in the machine's memory: as data that is read (yardR), and as rows that are owned (YO, YS). Nothing of the program but its types' numbers is named here. No condition.
  Go's library on rows: IndexFunc, ContainsFunc; package wait's all. Conditions: what is read.
  Keys, requests, reservations, moves, what was done: held against each other. No condition.
  Go's library on rows: Clone, Equal, Index, Contains. Conditions: what is read.
  Go's library on rows: Equal, EqualFunc, Index, Contains. Conditions: what is read.
-/
import Derived.Test.YtboepbencndobaaGreatM5
import Derived.Test.YtboepbencndobaaGreatM4
set_option linter.unusedVariables false
set_option linter.unusedSimpArgs false
namespace Go.Ck
open Go Go.RowKit

section
variable {P : Program} {e : Env} {h h' : SH} {ty : TypeId}
theorem rd_vrk {b o n cp m k sz : Nat} {E : TypeId} {rows : List (List Value)} {r : List Value} {v : Value} (hm : rows[m]? = some r) (hk : r[k]? = some v) : Rd (VR (.slice (some ⟨b, o, none⟩) n cp) E sz rows) ⟨b, o + m * sz + k, none⟩ v := rds_at (rds_vr hm) hk
theorem v_sliceTail {T E : TypeId} {x y : Operand} {b o n cp lo sz : Nat} {i : Int} {k : IntKind} (hx : e.ev? x = some (.slice (some ⟨b, o, none⟩) n cp)) (hy : e.ev? y = some (.int k i)) (hT : SlE P T E sz)
    (hi' : i = (lo : Int)) (h1 : lo ≤ n) (hc : n ≤ cp) : Vop P e h (.slice T x (some y) none none) ty (.slice (some ⟨b, if cp = lo then o else o + lo * sz, none⟩) (n - lo) (cp - lo)) :=
  ⟨by simp, by simp, fun ρ w d pos after g hρ _ => by
    subst hi'
    have hT' : P.underlying T = some (.slice (P.elem T)) := by simp [Program.elem, hT.1]
    have he : P.elem T = E := by simp [Program.elem, hT.1]
    have hr := run_slice_l (P := P) w T (some ⟨b, o, none⟩) n cp hT' k lo (by omega) (by omega)
    have hs : sliced (some ⟨b, o, none⟩) lo n cp sz = .slice (some ⟨b, if cp = lo then o else o + lo * sz, none⟩) (n - lo) (cp - lo) := by
      unfold sliced; by_cases hcl : cp = lo <;> simp [hcl, Addr.add_lit]
    simp only [he, hT.2 w, Result.andThen_ok, Int.toNat_natCast, hs] at hr
    simp only [execOp, hρ x _ hx, Option.map_some, Option.map_none, hρ y _ hy, Sem.run_bind, run_sliceAt_slice w T _ _ _ _ hT', hr, Result.andThen_ok, Sem.run_pure]⟩
theorem v_sliceHead {T E : TypeId} {x y : Operand} {b o n cp hi sz : Nat} {i : Int} {k : IntKind} (hx : e.ev? x = some (.slice (some ⟨b, o, none⟩) n cp)) (hy : e.ev? y = some (.int k i)) (hT : SlE P T E sz)
    (hi' : i = (hi : Int)) (h1 : hi ≤ cp) : Vop P e h (.slice T x none (some y) none) ty (.slice (some ⟨b, o, none⟩) hi cp) :=
  ⟨by simp, by simp, fun ρ w d pos after g hρ _ => by
    subst hi'
    have hT' : P.underlying T = some (.slice (P.elem T)) := by simp [Program.elem, hT.1]
    have he : P.elem T = E := by simp [Program.elem, hT.1]
    have hr := run_slice_h (P := P) w T (some ⟨b, o, none⟩) n cp hT' k hi (by omega) (by omega)
    have hs : sliced (some ⟨b, o, none⟩) 0 hi cp sz = .slice (some ⟨b, o, none⟩) hi cp := by
      unfold sliced; by_cases hcl : cp = 0 <;> simp [hcl, Addr.add_lit]
    simp only [he, hT.2 w, Result.andThen_ok, Int.toNat_natCast, Int.toNat_zero, hs] at hr
    simp only [execOp, hρ x _ hx, Option.map_some, Option.map_none, hρ y _ hy, Sem.run_bind, run_sliceAt_slice w T _ _ _ _ hT', hr, Result.andThen_ok, Sem.run_pure]⟩
end

/-! ## What is known without a step -/
section
variable {c : Cx} {ops : Array Oper} {K : Act → World → Prop} {rest : List Oper} {e : Env} {h h' : SH} {Q : Exit → Act → World → Prop} {x : Code} {ex : Exit} {r : Res}
theorem cd_ok (s : Sel h r h') (hc : (∃ f, r.ok f) → Cd c x Q e h) : Cd c x Q e h := fun a w hk hh hw => hc ⟨_, (hh.sel s).1⟩ a w hk hh hw
theorem st_ok (s : Sel h r h') (hc : (∃ f, r.ok f) → St c ops K rest e h) : St c ops K rest e h := fun a w hk hh hw => hc ⟨_, (hh.sel s).1⟩ a w hk hh hw
theorem xt_ok (s : Sel h r h') (hc : (∃ f, r.ok f) → Xt c ex Q e h) : Xt c ex Q e h := fun a w hk hh hw => hc ⟨_, (hh.sel s).1⟩ a w hk hh hw
def Vw (h h' : SH) : Prop := ∀ w : World, Holds w h → Holds w h'
theorem cd_vw (hv : Vw h h') (hc : Cd c x Q e h') : Cd c x Q e h := fun a w hk hh hw => hc a w hk (hv w hh) hw
theorem st_vw (hv : Vw h h') (hc : St c ops K rest e h') : St c ops K rest e h := fun a w hk hh hw => hc a w hk (hv w hh) hw
theorem xt_vw (hv : Vw h h') (hc : Xt c ex Q e h') : Xt c ex Q e h := fun a w hk hh hw => hc a w hk (hv w hh) hw
theorem Vw.sel {k : SH} (s : Sel h r h') (hv : Vw (r :: h') k) : Vw h k := fun w hh => hv w (hh.sel s)
theorem Vw.pk {k hr m : SH} (p : Pk h k hr) (hv : Vw (k ++ hr) m) : Vw h m := fun w hh => hv w (hh.pk p)
theorem Vw.trans {a b d : SH} (p : Vw a b) (q : Vw b d) : Vw a d := fun w h => q w (p w h)
theorem Vw.refl : Vw h h := fun _ hh => hh
theorem Vw.frame {a b : SH} (hv : Vw a b) (hl : ∀ w : World, Holds w a → ∀ x, SH.dom b x → SH.dom a x) {k : SH} : Vw (a ++ k) (b ++ k) := fun w hh => by
  obtain ⟨h1, h2, h3⟩ := HoldsF.append.1 hh
  exact HoldsF.append.2 ⟨hv w h1, h2, fun x hx => h3 x (hl w h1 x hx)⟩
theorem vw_star {L k : SH} : Vw (Res.star L :: k) (L ++ k) := fun _ hh => holds_star1.1 hh
theorem vw_unstar {L k : SH} : Vw (L ++ k) (Res.star L :: k) := fun _ hh => holds_star1.2 hh
end

/-! ## Rows -/
section
variable {v : Value} {E : TypeId} {sz : Nat} {rows rows' : List (List Value)} {h h' : SH}
theorem vw_tail {b o n cp m : Nat} (hm : m ≤ rows.length) : Vw (VR (.slice (some ⟨b, o, none⟩) n cp) E sz rows :: h) (VR (.slice (some ⟨b, if cp = m then o else o + m * sz, none⟩) (n - m) (cp - m)) E sz (rows.drop m) :: h) := fun _ hh => hh.vr_tail hm
theorem vw_take {b o n cp m : Nat} (hm : m ≤ rows.length) : Vw (VR (.slice (some ⟨b, o, none⟩) n cp) E sz rows :: h) (VR (.slice (some ⟨b, o, none⟩) m cp) E sz (rows.take m) :: h) := fun _ hh => hh.vr_take hm
theorem vw_of {b n : Nat} {cells : List Value} (rows : List (List Value)) (hc : cells = rows.flatten) (h1 : ∀ r ∈ rows, r.length = sz) (hn : rows.length = n) (hm : n ≤ maxLen) : Vw (pt b (cl cells E) :: h) (VR (.slice (some ⟨b, 0, none⟩) n n) E sz rows :: h) := fun _ hh => hh.vr_of hc h1 hn hm
theorem vw_nil (E : TypeId) (sz : Nat) : Vw h (VR (.slice none 0 0) E sz [] :: h) := fun _ hh => hh.vr_nil E sz
end
section
variable {c : Cx} {ops : Array Oper} {K : Act → World → Prop} {rest : List Oper} {e : Env} {h h' : SH} {Q : Exit → Act → World → Prop} {x : Code} {ex : Exit}
variable {v : Value} {E : TypeId} {sz : Nat} {rows rows' : List (List Value)}
theorem cd_row (s : Sel h (VR v E sz rows) h') (h0 : v = .slice none 0 0 → rows = [] → Cd c x Q e h) (h1 : ∀ b o cp, v = .slice (some ⟨b, o, none⟩) rows.length cp → rows.length ≤ cp → cp ≤ maxLen → Cd c x Q e h) : Cd c x Q e h :=
  cd_ok s fun ⟨_, hf⟩ => (VR.form hf).elim (fun ⟨a, b⟩ => h0 a b) fun ⟨b, o, cp, h2, h3, h4⟩ => h1 b o cp h2 h3 h4
theorem st_row (s : Sel h (VR v E sz rows) h') (h0 : v = .slice none 0 0 → rows = [] → St c ops K rest e h) (h1 : ∀ b o cp, v = .slice (some ⟨b, o, none⟩) rows.length cp → rows.length ≤ cp → cp ≤ maxLen → St c ops K rest e h) : St c ops K rest e h :=
  st_ok s fun ⟨_, hf⟩ => (VR.form hf).elim (fun ⟨a, b⟩ => h0 a b) fun ⟨b, o, cp, h2, h3, h4⟩ => h1 b o cp h2 h3 h4
theorem cd_rowf (s : Sel h (VR v E sz rows) h') (hc : ∀ a cp, v = .slice a rows.length cp → rows.length ≤ cp → cp ≤ maxLen → Cd c x Q e h) : Cd c x Q e h :=
  cd_row s (fun h1 h2 => hc none 0 (by rw [h1, h2]; rfl) (by rw [h2]; exact Nat.le_refl _) (Nat.zero_le _)) fun b o cp h1 h2 h3 => hc _ cp h1 h2 h3
theorem st_rowf (s : Sel h (VR v E sz rows) h') (hc : ∀ a cp, v = .slice a rows.length cp → rows.length ≤ cp → cp ≤ maxLen → St c ops K rest e h) : St c ops K rest e h :=
  st_row s (fun h1 h2 => hc none 0 (by rw [h1, h2]; rfl) (by rw [h2]; exact Nat.le_refl _) (Nat.zero_le _)) fun b o cp h1 h2 h3 => hc _ cp h1 h2 h3
theorem st_vr {T : TypeId} {x y : Operand} {ty : TypeId} {pos : String} {after : Array Edge} {b o n cp m k : Nat} {r : List Value} {u : Value}
    (hx : e.ev? x = some (.pointer (some ⟨b, o + m * sz + k, none⟩))) (hy : e.ev? y = some u) (hT : Sz c.P T 1) (hv : u.oneCell' = true) (hm : rows[m]? = some r) (hk : k < sz) (hl : rows.set m (r.set k u) = rows') (hs : Sel h (VR (.slice (some ⟨b, o, none⟩) n cp) E sz rows) h')
    (hn : St c ops K rest e (VR (.slice (some ⟨b, o, none⟩) n cp) E sz rows' :: h')) :
    St c ops K (⟨none, .store T x y, ty, pos, after, none⟩ :: rest) e h :=
  st_any (by simp) fun a w hk' hh hs' => by
    obtain ⟨⟨l, h1, h2⟩, h3⟩ := (hh.sel hs).vr_set (x := u) hm hk
    have hr := run_store1 hT hv (E := E) (l := l) h1 h2
    simp only [execOp, hk'.ev hx, hk'.ev hy, Sem.run_bind, hr, Result.andThen_ok, Sem.run_pure]
    rw [hl] at h3
    exact hn _ _ hk' h3 (hs'.trans (Same.setCell _ _ _))
theorem st_appA {d : Nat} {t ty : TypeId} {x y : Operand} {pos : String} {after : Array Edge} {z : Value} {bytes m cp : Nat} {src : Addr} (news : List (List Value))
    (hx : e.ev? x = some v) (hy : e.ev? y = some (.slice (some src) m cp)) (ht : c.P.underlying t = some (.slice E)) (hE : Inf c.P E z sz bytes) (hzs : z.cells.size = sz) (hsz : 0 < sz)
    (hs : Sel h (VR v E sz rows) h') (hn1 : ∀ r ∈ news, r.length = sz) (hl : news.length = m) (hnews : ∀ j u, news.flatten[j]? = some u → At h (src.add j) u) (h1 : ∀ u ∈ news.flatten, u.oneCell' = true)
    (hb : (rows.length + m) * bytes ≤ 140737488355328) (h63 : rows.length + m ≤ 9223372036854775807) (hd : d < c.n)
    (hnx : ∀ v', v'.oneCell' = true → (v' = .slice none 0 0 ↔ v = .slice none 0 0 ∧ m = 0) → St c ops K rest ((d, v') :: e) (VR v' E sz (rows ++ news) :: h')) :
    St c ops K (⟨some d, .call { callee := .builtin .append, args := #[x, y], argTypes := #[t, t] }, ty, pos, after, none⟩ :: rest) e h :=
  st_any (by simp) fun a w hk hh hw => by
    obtain ⟨v', w', hr, hH, hS, hv⟩ := run_append_vr (P := c.P) ty ht hE hzs hsz (hh.sel hs) (src := src) (cp := cp) hn1 hl (fun j u hu => (hnews j u hu).cell hh) h1 hb h63
    simp only [execOp, resolve, invoke, builtin, hk.ev hx, hk.ev hy, Sem.run_bind, Sem.run_pure, Result.andThen_ok, List.map_toArray, List.map_cons, List.map_nil, hr]
    exact hnx v' (VR.one hH.1) hv _ w' (hk.put _ hd) hH (hw.trans hS)
theorem st_app {d : Nat} {t ty : TypeId} {x y : Operand} {pos : String} {after : Array Edge} {z : Value} {bytes sb so m cp : Nat} (news : List (List Value))
    (hx : e.ev? x = some v) (hy : e.ev? y = some (.slice (some ⟨sb, so, none⟩) m cp)) (ht : c.P.underlying t = some (.slice E)) (hE : Inf c.P E z sz bytes) (hzs : z.cells.size = sz) (hsz : 0 < sz)
    (hs : Sel h (VR v E sz rows) h') (hn1 : ∀ r ∈ news, r.length = sz) (hl : news.length = m) (hnews : ∀ j u, news.flatten[j]? = some u → At h ⟨sb, so + j, none⟩ u) (h1 : ∀ u ∈ news.flatten, u.oneCell' = true)
    (hb : (rows.length + m) * bytes ≤ 140737488355328) (h63 : rows.length + m ≤ 9223372036854775807) (hd : d < c.n)
    (hnx : ∀ v', v'.oneCell' = true → (v' = .slice none 0 0 ↔ v = .slice none 0 0 ∧ m = 0) → St c ops K rest ((d, v') :: e) (VR v' E sz (rows ++ news) :: h')) :
    St c ops K (⟨some d, .call { callee := .builtin .append, args := #[x, y], argTypes := #[t, t] }, ty, pos, after, none⟩ :: rest) e h :=
  st_appA news hx hy ht hE hzs hsz hs hn1 hl (fun j u hu => by rw [Addr.add_lit]; exact hnews j u hu) h1 hb h63 hd hnx
theorem st_bs0 {d : Nat} {T ty : TypeId} {pos : String} {after : Array Edge} {z : Value} {bytes : Nat} (hT : c.P.underlying T = some (.slice E)) (hE : Inf c.P E z sz bytes)
    (hnx : ∀ b, St c ops K rest ((d, .slice (some ⟨b, 0, none⟩) 0 0) :: e) (VR (.slice (some ⟨b, 0, none⟩) 0 0) E sz [] :: h)) (hd : d < c.n := by exact ltn rfl) :
    St c ops K (⟨some d, .buildSlice T 0 #[], ty, pos, after, none⟩ :: rest) e h :=
  st_buildSlice0 (sz := sz) hT hE hd fun b => fun a w hk hh hw => hnx b a w hk (by
    obtain ⟨h1, h2, h3⟩ := hh
    rcases h1.2 with ⟨h4, _⟩ | ⟨b', cp, j, h4, h5, _⟩
    · cases h4
    · cases h4
      exact ⟨⟨by simp, .inr ⟨b, 0, 0, [], j, rfl, by simpa using h5, rfl, Nat.le_refl _, Nat.zero_le _, by simp⟩⟩, fun x ⟨o, m, cp, hv⟩ => (by cases hv; exact h2 _ ⟨_, _, rfl⟩), h3⟩) hw
end

/-! ## One of many -/
def upd {α : Type} (f : Nat → α) (i : Nat) (x : α) : Nat → α := fun k => if k = i then x else f k
theorem upd_same {α : Type} (f : Nat → α) (i : Nat) (x : α) : upd f i x i = x := if_pos rfl
theorem upd_ne {α : Type} (f : Nat → α) {i k : Nat} (x : α) (h : k ≠ i) : upd f i x k = f k := if_neg h
theorem upd_self {α : Type} (f : Nat → α) (i : Nat) : upd f i (f i) = f := funext fun k => by unfold upd; split <;> simp_all
def foc {α : Type} (n i : Nat) (c : α) (g : Nat → α) : List α := (List.range n).map (upd g i c)
theorem foc_get {α : Type} {n i : Nat} {c : α} {g : Nat → α} (hi : i < n) : (foc n i c g)[i]? = some c := by simp [foc, List.getElem?_map, List.getElem?_range, hi, upd_same]
theorem foc_set {α : Type} {n i : Nat} {c c' : α} {g : Nat → α} : (foc n i c g).set i c' = foc n i c' g := by
  apply List.ext_getElem?
  intro k
  simp only [foc, List.getElem?_set, List.length_map, List.length_range, List.getElem?_map]
  by_cases hk : i = k
  · subst hk
    rw [if_pos rfl]
    by_cases hn : i < n <;> simp [hn, upd_same, List.getElem?_range]
  · rw [if_neg hk]
    by_cases hn : k < n <;> simp [hn, upd_ne _ _ (Ne.symm hk), List.getElem?_range]
theorem foc_self {α : Type} (n i : Nat) (g : Nat → α) : (List.range n).map g = foc n i (g i) g := by rw [foc, upd_self]
theorem foc_upd {α : Type} (n i : Nat) (c : α) (g : Nat → α) : foc n i c g = (List.range n).map (upd g i c) := rfl
def others (n i : Nat) : List Nat := (List.range n).filter fun k => decide (k ≠ i)
def RSx (n i : Nat) (R : Nat → Res) : Res := Res.star ((others n i).map R)
def RS (n : Nat) (R : Nat → Res) : Res := Res.star ((List.range n).map R)
theorem filter_ne_perm : ∀ (l : List Nat) (i : Nat), l.Nodup → i ∈ l → l.Perm (i :: l.filter fun k => decide (k ≠ i))
  | [], i, _, h => by simp at h
  | a :: t, i, hn, h => by
    rw [List.nodup_cons] at hn
    by_cases ha : a = i
    · subst ha
      have : (t.filter fun k => decide (k ≠ a)) = t := List.filter_eq_self.2 fun x hx => by simp; exact fun e => hn.1 (e ▸ hx)
      rw [List.filter_cons_of_neg (by simp), this]
    · rw [List.filter_cons_of_pos (by simp [ha])]
      have hm : i ∈ t := by rcases List.mem_cons.1 h with h | h; exact absurd h.symm ha; exact h
      exact ((filter_ne_perm t i hn.2 hm).cons a).trans (.swap _ _ _)
theorem RSx_congr {n i : Nat} {R R' : Nat → Res} (h : ∀ k, k ≠ i → R k = R' k) : RSx n i R = RSx n i R' := by
  unfold RSx
  congr 1
  refine List.map_congr_left fun k hk => ?_
  have := (List.mem_filter.1 hk).2
  simp at this
  exact h k this
theorem vw_foc {n i : Nat} {R : Nat → Res} {h : SH} (hi : i < n) : Vw (RS n R :: h) (R i :: RSx n i R :: h) := fun w hh => by
  have hp := (filter_ne_perm (List.range n) i List.nodup_range (by simpa using hi)).map R
  have h1 : Holds w ((List.range n).map R ++ h) := holds_star1.1 hh
  have h2 : Holds w (R i :: ((others n i).map R ++ h)) := h1.perm (hp.append_right h)
  have h3 : Holds w (((others n i).map R) ++ (R i :: h)) := h2.perm List.perm_middle.symm
  have h4 : Holds w (RSx n i R :: R i :: h) := holds_star1.2 h3
  exact h4.perm (.swap _ _ _)
theorem vw_unfoc {n i : Nat} {R : Nat → Res} {h : SH} (hi : i < n) : Vw (R i :: RSx n i R :: h) (RS n R :: h) := fun w hh => by
  have hp := (filter_ne_perm (List.range n) i List.nodup_range (by simpa using hi)).map R
  have h1 : Holds w (RSx n i R :: R i :: h) := hh.perm (.swap _ _ _)
  have h2 : Holds w ((others n i).map R ++ (R i :: h)) := holds_star1.1 h1
  have h3 : Holds w (R i :: ((others n i).map R ++ h)) := h2.perm List.perm_middle
  have h4 : Holds w ((List.range n).map R ++ h) := h3.perm ((hp.append_right h).symm)
  exact holds_star1.2 h4
theorem vw_unfoc' {n i : Nat} {R R' : Nat → Res} {h : SH} (hi : i < n) (hne : ∀ k, k ≠ i → R k = R' k) : Vw (R' i :: RSx n i R :: h) (RS n R' :: h) := by
  rw [RSx_congr hne]; exact vw_unfoc hi
theorem RS_in {n i : Nat} {R : Nat → Res} (hi : i < n) (p : Addr) (v : Value) (h : Rd (R i) p v) : Rd (RS n R) p v := fun w hw => by
  have h1 : HoldsF (hp w) ((List.range n).map R ++ []) := by simpa [RS, Res.star] using hw
  have h2 : Holds w (RS n R :: []) := holds_star1.2 h1
  exact h w (vw_foc hi w h2).1
section
variable {P : Program} {e : Env} {h : SH} {ty : TypeId}
theorem v_ldy {T : TypeId} {x : Operand} {p : Addr} {v : Value} (hx : e.ev? x = some (.pointer (some p))) (hT : Ld1 P T)
    (ha : At h p v := by repeat (first | exact at_here (rd_cl (by rfl)) | exact at_here (rds_at (by assumption) (by rfl)) | exact at_here (rd_vrk (foc_get (by assumption)) (by rfl)) | exact at_here (rd_vrk (by rfl) (by rfl)) | exact at_here (by assumption) | apply at_there)) : Vop P e h (.load T x) ty v := v_load hx hT ha
theorem v_ldn {T : TypeId} {x : Operand} {b o n : Nat} {vs : List Value} {r : Res} {h' : SH} (hx : e.ev? x = some (.pointer (some ⟨b, o, none⟩))) (hT : LdN P T n) (hl : vs.length = n) (hr : Rds r b o vs) (s : Sel h r h' := by repeat (first | exact Sel.here | apply Sel.there)) :
    Vop P e h (.load T x) ty (.agg vs.toArray) := v_loadR hx hT hl s hr
end
section
variable {c : Cx} {ops : Array Oper} {K : Act → World → Prop} {rest : List Oper} {e : Env} {h k k' hr : SH} {Q : Exit → Act → World → Prop} {x : Code} {ex : Exit}
theorem cd_pv (hv : ∀ t, Vw (k ++ t) (k' ++ t)) (hc : Cd c x Q e (k' ++ hr)) (p : Pk h k hr := by repeat (first | exact Pk.nil | (apply Pk.cons; (repeat (first | exact Sel.here | apply Sel.there))))) : Cd c x Q e h := cd_vw (Vw.pk p (hv hr)) hc
theorem st_pv (hv : ∀ t, Vw (k ++ t) (k' ++ t)) (hc : St c ops K rest e (k' ++ hr)) (p : Pk h k hr := by repeat (first | exact Pk.nil | (apply Pk.cons; (repeat (first | exact Sel.here | apply Sel.there))))) : St c ops K rest e h := st_vw (Vw.pk p (hv hr)) hc
theorem xt_pv (hv : ∀ t, Vw (k ++ t) (k' ++ t)) (hc : Xt c ex Q e (k' ++ hr)) (p : Pk h k hr := by repeat (first | exact Pk.nil | (apply Pk.cons; (repeat (first | exact Sel.here | apply Sel.there))))) : Xt c ex Q e h := xt_vw (Vw.pk p (hv hr)) hc
theorem pv_eq {a b : Res} (he : a = b) : ∀ t, Vw ([a] ++ t) ([b] ++ t) := fun t => by rw [he]; exact Vw.refl
theorem pv_of {b n : Nat} {E : TypeId} {sz : Nat} {cells : List Value} (rows : List (List Value)) (hc : cells = rows.flatten) (h1 : ∀ r ∈ rows, r.length = sz) (hn : rows.length = n) (hm : n ≤ maxLen) : ∀ t, Vw ([pt b (cl cells E)] ++ t) ([VR (.slice (some ⟨b, 0, none⟩) n n) E sz rows] ++ t) := fun t => vw_of rows hc h1 hn hm
theorem pv_snoc {L : SH} {r : Res} : ∀ t, Vw ([Res.star L, r] ++ t) ([Res.star (L ++ [r])] ++ t) := fun t w hh => by
  refine holds_star1.2 ?_
  have h1 := holds_star1.1 hh
  rw [List.append_assoc]; exact h1
theorem pv_add {r : Res} (ht : ∀ (w : World) (h : SH), Holds w h → Holds w (r :: h)) : ∀ t, Vw ([] ++ t) ([r] ++ t) := fun t w hh => ht w t hh
theorem pv_pack {L : SH} : ∀ t, Vw (L ++ t) ([Res.star L] ++ t) := fun t => vw_unstar
theorem pv_unpack {L : SH} : ∀ t, Vw ([Res.star L] ++ t) (L ++ t) := fun t => vw_star
end
end Go.Ck
namespace Go.Wt
open Go Go.RowKit Go.Ck
def mC (m : Move) : List Value := [.int .i64 m.1, .int .i64 m.2.1, .int .i64 m.2.2]
def kC (k : Key) : List Value := [.int .i64 k.1, .int .i64 k.2]
def aC (a : Ask) : List Value := [.int .i64 a.1, .bool a.2]
def holdC (h : Hold) : List Value := [.int .i64 h.1, .int .i64 h.2.1.1, .int .i64 h.2.1.2, .bool h.2.2]
def dC (d : Did) : List Value := [.int .i64 d.1.1, .int .i64 d.1.2, .int .i64 d.2.1, .bool d.2.2.1, .bool d.2.2.2]
def lC (av : Value) (l : Line) : List Value := [.int .i64 l.key.1, .int .i64 l.key.2, av, .bool l.closed, .bool l.broken]
def pC (lv pv hv dv : Value) (p : Proc) : List Value := [lv, pv, .int .i64 p.job, .int .i64 p.pc, .bool p.waited, hv, .int .i64 p.waits, .int .i64 p.made, dv]
def eqC {α : Type} (f : α → List Value) : List Value → α → Prop := fun us x => us = f x
def lineR (S : Res) (us : List Value) (l : Line) : Prop := ∃ av, us = lC av l ∧ Row S 2 (eqC aC) av l.asks
def procR (S : Res) (us : List Value) (p : Proc) : Prop := ∃ lv pv hv dv, us = pC lv pv hv dv p ∧ Row S 5 (lineR S) lv p.lines ∧ Row S 2 (eqC kC) pv p.puts ∧ Row S 4 (eqC holdC) hv p.holds ∧ Row S 5 (eqC dC) dv p.did
def jobR (S : Res) (us : List Value) (l : List Move) : Prop := ∃ v, us = [v] ∧ Row S 3 (eqC mC) v l
def yardR (S : Res) (us : List Value) (y : Yard) : Prop := ∃ jv pv, us = [jv, pv] ∧ Row S 1 (jobR S) jv y.jobs ∧ Row S 9 (procR S) pv y.procs
section
variable {S S' : Res} (hr : ∀ p u, Rd S p u → Rd S' p u)
include hr
theorem lineR.mono {us : List Value} {l : Line} (h : lineR S us l) : lineR S' us l := let ⟨av, h1, h2⟩ := h; ⟨av, h1, h2.mono hr fun _ _ _ h => h⟩
theorem procR.mono {us : List Value} {p : Proc} (h : procR S us p) : procR S' us p :=
  let ⟨lv, pv, hv, dv, h1, h2, h3, h4, h5⟩ := h; ⟨lv, pv, hv, dv, h1, h2.mono hr fun _ _ _ h => lineR.mono hr h, h3.mono hr fun _ _ _ h => h, h4.mono hr fun _ _ _ h => h, h5.mono hr fun _ _ _ h => h⟩
theorem jobR.mono {us : List Value} {l : List Move} (h : jobR S us l) : jobR S' us l := let ⟨v, h1, h2⟩ := h; ⟨v, h1, h2.mono hr fun _ _ _ h => h⟩
theorem jobsR.mono {v : Value} {l : List (List Move)} (h : Row S 1 (jobR S) v l) : Row S' 1 (jobR S') v l := h.mono hr fun _ _ _ h => jobR.mono hr h
theorem procsR.mono {v : Value} {l : List Proc} (h : Row S 9 (procR S) v l) : Row S' 9 (procR S') v l := h.mono hr fun _ _ _ h => procR.mono hr h
theorem yardR.mono {us : List Value} {y : Yard} (h : yardR S us y) : yardR S' us y := let ⟨jv, pv, h1, h2, h3⟩ := h; ⟨jv, pv, h1, jobsR.mono hr h2, procsR.mono hr h3⟩
end

/-! ## Owned -/
structure PH where
  lv : Value
  pv : Value
  hv : Value
  dv : Value
  av : List Value
def pureR (φ : Prop) : Res := ⟨fun _ => False, fun _ => φ, fun _ _ _ h => h, fun _ _ _ h => h.elim⟩
theorem vw_pure {φ : Prop} {h : SH} (hp : φ) : Vw h (pureR φ :: h) := fun _ hh => ⟨hp, fun _ hb => hb.elim, hh⟩
theorem pureR_ok {φ : Prop} (h : ∃ f, (pureR φ).ok f) : φ := h.elim fun _ h => h
def lrows (avs : List Value) (ls : List Line) : List (List Value) := List.zipWith lC avs ls
def arows (avs : List Value) (ls : List Line) : List Res := List.zipWith (fun v l => VR v 117 2 (l.asks.map aC)) avs ls
def prl (H : PH) (p : Proc) : SH := [VR H.lv 120 5 (lrows H.av p.lines), VR H.pv 79 2 (p.puts.map kC), VR H.hv 161 4 (p.holds.map holdC), VR H.dv 81 5 (p.did.map dC), Res.star (arows H.av p.lines), pureR (H.av.length = p.lines.length)]
def PR (H : PH) (p : Proc) : Res := Res.star (prl H p)
def hpC (H : PH) (p : Proc) : List Value := pC H.lv H.pv H.hv H.dv p
def YO (pv : Value) (n : Nat) (H : Nat → PH) (f : Nat → Proc) : SH := [VR pv 77 9 ((List.range n).map fun k => hpC (H k) (f k)), RS n fun k => PR (H k) (f k)]
def YS (yb : Nat) (jv pv : Value) (n : Nat) (H : Nat → PH) (f : Nat → Proc) : SH := pt yb (cl [jv, pv] 27) :: YO pv n H f

theorem HoldsF.get {f : Nat → Option Obj} {L : SH} (h : HoldsF f L) {r : Res} (hr : r ∈ L) : r.ok f := by
  induction L with
  | nil => cases hr
  | cons a t ih =>
    rcases List.mem_cons.1 hr with rfl | hr
    · exact h.1
    · exact ih h.2.2 hr
theorem rd_mem {L : SH} {r : Res} (hr : r ∈ L) (p : Addr) (v : Value) (h : Rd r p v) : Rd (Res.star L) p v := fun w hw => h w (HoldsF.get hw hr)
theorem prl_procR {H : PH} {p : Proc} {S : Res} (hok : ∃ g, (PR H p).ok g) (hr : ∀ a u, Rd (PR H p) a u → Rd S a u) : procR S (hpC H p) p := by
  obtain ⟨g, hg⟩ := hok
  have hm : ∀ r ∈ prl H p, r.ok g := fun r h => HoldsF.get hg h
  have hrd : ∀ r ∈ prl H p, ∀ a u, Rd r a u → Rd S a u := fun r h a u hu => hr a u (rd_mem h a u hu)
  have hlen : H.av.length = p.lines.length := hm (pureR _) (by simp [prl])
  have ha : HoldsF g (arows H.av p.lines) := hm (Res.star (arows H.av p.lines)) (by simp [prl])
  refine ⟨H.lv, H.pv, H.hv, H.dv, rfl, ?_, ?_, ?_, ?_⟩
  · refine row_vr (E := 120) (rows := lrows H.av p.lines) ⟨g, hm _ (by simp [prl])⟩ (by simp [lrows, hlen]) (hrd _ (by simp [prl])) fun i us l h1 h2 => ?_
    have hli : i < p.lines.length := (List.getElem?_eq_some_iff.1 h2).1
    have hai : H.av[i]? = some H.av[i] := List.getElem?_eq_getElem (by omega)
    have h3 : us = lC H.av[i] l := by
      have : (lrows H.av p.lines)[i]? = some (lC H.av[i] l) := by simp [lrows, List.getElem?_zipWith, hai, h2]
      rw [this] at h1; exact (Option.some.inj h1).symm
    have hmem : VR H.av[i] 117 2 (l.asks.map aC) ∈ arows H.av p.lines := List.mem_of_getElem? (i := i) (by simp [arows, List.getElem?_zipWith, hai, h2])
    exact ⟨H.av[i], h3, row_vr (E := 117) (rows := l.asks.map aC) ⟨g, HoldsF.get ha hmem⟩ (by simp) (fun a u hu => hrd (Res.star (arows H.av p.lines)) (by simp [prl]) a u (rd_mem hmem a u hu)) fun i us x g1 g2 => by
      simp [List.getElem?_map, g2] at g1; exact g1.symm⟩
  · exact row_vr (E := 79) (rows := p.puts.map kC) ⟨g, hm _ (by simp [prl])⟩ (by simp) (hrd _ (by simp [prl])) fun i us x g1 g2 => by simp [List.getElem?_map, g2] at g1; exact g1.symm
  · exact row_vr (E := 161) (rows := p.holds.map holdC) ⟨g, hm _ (by simp [prl])⟩ (by simp) (hrd _ (by simp [prl])) fun i us x g1 g2 => by simp [List.getElem?_map, g2] at g1; exact g1.symm
  · exact row_vr (E := 81) (rows := p.did.map dC) ⟨g, hm _ (by simp [prl])⟩ (by simp) (hrd _ (by simp [prl])) fun i us x g1 g2 => by simp [List.getElem?_map, g2] at g1; exact g1.symm
theorem YO_row {pv : Value} {n : Nat} {H : Nat → PH} {f : Nat → Proc} {S : Res} (hok : ∃ g, HoldsF g (YO pv n H f)) (hr : ∀ r ∈ YO pv n H f, ∀ a u, Rd r a u → Rd S a u) : Row S 9 (procR S) pv ((List.range n).map f) := by
  obtain ⟨g, hg⟩ := hok
  have h2 : HoldsF g ((List.range n).map fun k => PR (H k) (f k)) := HoldsF.get hg (r := RS n fun k => PR (H k) (f k)) (by simp [YO])
  refine row_vr (E := 77) (rows := (List.range n).map fun k => hpC (H k) (f k)) ⟨g, HoldsF.get hg (by simp [YO])⟩ (by simp) (hr _ (by simp [YO])) fun i us p h3 h4 => ?_
  have hi : i < n := by have := (List.getElem?_eq_some_iff.1 h4).1; simpa using this
  simp [List.getElem?_map, List.getElem?_range, hi] at h3 h4
  subst h3 h4
  exact prl_procR ⟨g, HoldsF.get h2 (List.mem_map.2 ⟨i, by simpa using hi, rfl⟩)⟩ fun a u hu => hr (RS n fun k => PR (H k) (f k)) (by simp [YO]) a u (RS_in (R := fun k => PR (H k) (f k)) hi a u hu)

/-! ## One processor looked at -/
def FP (pv : Value) (n i : Nat) (H : Nat → PH) (f : Nat → Proc) (cells : List Value) : Res := VR pv 77 9 (foc n i cells fun k => hpC (H k) (f k))
def FX (n i : Nat) (H : Nat → PH) (f : Nat → Proc) : Res := RSx n i fun k => PR (H k) (f k)
theorem vw_focus {pv : Value} {n i : Nat} {H : Nat → PH} {f : Nat → Proc} {h : SH} (hi : i < n) : Vw (YO pv n H f ++ h) (FP pv n i H f (hpC (H i) (f i)) :: prl (H i) (f i) ++ (FX n i H f :: h)) := fun w hh => by
  have h1 : Holds w (VR pv 77 9 ((List.range n).map fun k => hpC (H k) (f k)) :: RS n (fun k => PR (H k) (f k)) :: h) := hh
  have h2 : Holds w (RS n (fun k => PR (H k) (f k)) :: VR pv 77 9 ((List.range n).map fun k => hpC (H k) (f k)) :: h) := h1.perm (.swap _ _ _)
  have h3 := vw_foc hi w h2
  have h4 := vw_star w h3
  rw [foc_self n i] at h4
  exact h4.perm (by
    refine (List.perm_append_comm_assoc _ [FX n i H f] _).trans ?_
    show (FX n i H f :: (prl (H i) (f i) ++ FP pv n i H f (hpC (H i) (f i)) :: h)).Perm _
    refine ((List.perm_middle).cons _).trans ((List.Perm.swap _ _ _).trans ?_)
    exact (List.perm_middle.symm).cons _)
theorem vw_unfocus {pv : Value} {n i : Nat} {H : Nat → PH} {f : Nat → Proc} {h : SH} {G : PH} {p : Proc} (hi : i < n) : Vw (FP pv n i H f (hpC G p) :: prl G p ++ (FX n i H f :: h)) (YO pv n (upd H i G) (upd f i p) ++ h) := fun w hh => by
  have h1 : Holds w (prl G p ++ (FX n i H f :: FP pv n i H f (hpC G p) :: h)) := hh.perm (by
    refine (List.perm_middle (l₁ := prl G p) (a := FP pv n i H f (hpC G p))).symm.trans ?_
    exact (List.Perm.swap _ _ _).append_left _)
  have h2 : Holds w (PR G p :: FX n i H f :: FP pv n i H f (hpC G p) :: h) := vw_unstar w h1
  have h3 := vw_unfoc' (R := fun k => PR (H k) (f k)) (R' := fun k => PR (upd H i G k) (upd f i p k)) (h := FP pv n i H f (hpC G p) :: h) hi (fun k hk => by simp only [upd_ne _ _ hk]) w (by
    simp only [upd_same]; exact h2)
  have h4 := h3.perm (.swap _ _ _)
  have h5 : FP pv n i H f (hpC G p) = VR pv 77 9 ((List.range n).map fun k => hpC (upd H i G k) (upd f i p k)) := by
    unfold FP
    rw [foc_upd]
    congr 2
    funext k
    by_cases hk : k = i
    · subst hk; simp only [upd_same]
    · simp only [upd_ne _ _ hk]
  rw [h5] at h4
  exact h4
end Go.Wt
namespace Go.Wt
open Go Go.Ck Go.Proofs Go.Proofs.YtboepbencndobaaGreat Fx
attribute [local irreducible] St Cd Xt Nx DrL LsW
def ixF {α : Type} (g : α → Bool) (l : List α) : Int := match l.findIdx? g with | some i => (i : Int) | none => -1
theorem ixF_has {α : Type} (g : α → Bool) (l : List α) : decide (0 ≤ ixF g l) = l.any g := by
  unfold ixF
  cases h : l.findIdx? g with
  | none =>
    rw [List.findIdx?_eq_none_iff] at h
    symm; simp only [List.any_eq_false, Int.reduceNeg, Int.reduceLE, decide_false]
    intro x hx; simp [h x hx]
  | some i =>
    have h1 := List.findIdx?_eq_some_iff_getElem.1 h
    obtain ⟨h1, h2, _⟩ := h1
    simp only [Int.natCast_nonneg, decide_true]
    exact (List.any_eq_true.2 ⟨l[i], List.getElem_mem h1, h2⟩).symm
theorem ixF_some {α : Type} {g : α → Bool} {l : List α} {i : Nat} (hi : i < l.length) (h : g l[i] = true) (hne : ∀ (j : Nat) (y : α), j < i → l[j]? = some y → g y = false) : ixF g l = i := by
  have hf : l.findIdx? g = some i := by
    rw [List.findIdx?_eq_some_iff_getElem]
    exact ⟨hi, h, fun j hj => by have := hne j l[j] hj (List.getElem?_eq_getElem (by omega)); simp [this]⟩
  unfold ixF; rw [hf]
theorem ixF_none {α : Type} {g : α → Bool} {l : List α} (hne : ∀ (j : Nat) (y : α), j < l.length → l[j]? = some y → g y = false) : ixF g l = -1 := by
  have hf : l.findIdx? g = none := by
    rw [List.findIdx?_eq_none_iff]
    intro x hx
    obtain ⟨j, hj, rfl⟩ := List.mem_iff_getElem.1 hx
    exact hne j _ hj (List.getElem?_eq_getElem hj)
  unfold ixF; rw [hf]
theorem all_any {α : Type} (g : α → Bool) (l : List α) : (!l.any fun x => !g x) = l.all g := by
  induction l with
  | nil => rfl
  | cons a t ih => simp only [List.any_cons, List.all_cons, Bool.not_or, Bool.not_not, ← ih]
section
variable {α : Type} {S : Res} {X : List Value → α → Prop} {v : Value} {l : List α} {g : α → Bool} {kf : FuncId} {cp : Array Value}
set_option maxRecDepth 100000 in
theorem ix132_ct (hv : Row S 3 X v l) (hl : l.length ≤ 1000000) (hE : Enters Tryz.prog kf) (hf : ∀ x ∈ l, ∀ us, us.length = 3 → X us x → Reads Tryz.prog kf (#[] ++ [Value.agg us.toArray].toArray ++ cp) [S] (.bool (g x))) :
    Reads Tryz.prog 132 #[v, .func (.func kf) #[] cp] [S] (.int .i64 (ixF g l)) := by
  obtain ⟨a, cap, hv1, _⟩ := id hv
  refine ct_of (n := 19) Tryz.func132 rfl rfl (len rfl) fun hr w0 => ?_
  refine cS (cR (sV (vA rfl) (sN (nT (cS (cS (cR (sV (vM rfl) (sV (v_len (congrArg some hv1) Tryz.underlying108) (sV (vM rfl) (sN (nK [0, 1, 4, 7, 8] rfl (nT (cd_block (cd_lp (σ := Nat) (fun i => [(0, v), (1, .func (.func kf) #[] cp), (7, .int .i64 l.length), (8, .int .i64 (i : Nat))]) (fun _ => S :: hr) (fun i => i ≤ l.length ∧ ∀ (j : Nat) (y : α), j < i → l[j]? = some y → g y = false) (fun i => l.length - i) 0 ⟨Nat.zero_le _, fun j y hj => by omega⟩ ?_)))))))))))))))
  rintro i ⟨hi, hne⟩
  refine cS (cR (sV (v_lss rfl rfl) (sN (nT (cS (cC rfl (fun hd => ?_) (fun hd => ?_)))))))
  · skip
    have hlt : i < l.length := by simpa using hd
    obtain ⟨b, o, cp2, us, hv2, hus, hrd, hx⟩ := hv.at (List.getElem?_eq_getElem hlt)
    refine cK (xT (cS (cd_block (cS (cR (sV (vM rfl) (sV (vA rfl) (sN (nK [0, 1, 5, 7, 8] rfl (nT (cS (cR (sV (vM rfl) (sV (vM rfl) (sV (vM rfl) ?_)))))))))))))))
    refine sV (v_indexAddr (k := i) (congrArg some hv2) rfl sl108 rfl hlt rfl) (sV (v_ldn rfl ld110 hus hrd) ?_)
    refine st_clr rfl rfl hE rfl ((hf l[i] (List.getElem_mem hlt) us hus hx)) ?_
    refine sN (nK [0, 1, 5, 7, 8, 16] rfl (nT (cC rfl (fun he => ?_) (fun he => ?_))))
    · skip
      refine cS (cR (sV (vM rfl) (sV (vA rfl) (sN (nK [0, 1, 4, 7, 8] rfl (nT (cT (xt_ret_block (xR (xR (xt_ret_block (xR ?_))))))))))))
      rw [ixF_some hlt he hne]
      exact xt_rt rfl ⟨rfl, rfl⟩
    · skip
      refine cK (xB (xT (cR (sV (v_add rfl rfl (by unfold I64 at *; omega)) (sV (vM rfl) (sN (nK [0, 1, 7, 8] rfl (nx_xt (xt_ag (i + 1) ⟨hlt, fun j y hj hy => ?_⟩ (by show _ - _ < _ - _; omega))))))))))
      by_cases hji : j = i
      · subst hji; rw [List.getElem?_eq_getElem hlt] at hy; cases hy; exact he
      · exact hne j y (by omega) hy
  · skip
    refine cd_exit (xE (xE (xt_exit_block (xT (cS (cR (sV (vA rfl) (sN (nK [4] rfl (nT (cT ?_)))))))))))
    have hil : i = l.length := by have : ¬ i < l.length := by simpa using hd
                                  omega
    rw [ixF_none (fun j y hj => hne j y (by omega))]
    exact xt_rt rfl ⟨rfl, rfl⟩
set_option maxRecDepth 100000 in
theorem cf106_ct (hv : Row S 3 X v l) (hl : l.length ≤ 1000000) (hE : Enters Tryz.prog kf) (hf : ∀ x ∈ l, ∀ us, us.length = 3 → X us x → Reads Tryz.prog kf (#[] ++ [Value.agg us.toArray].toArray ++ cp) [S] (.bool (g x))) :
    Reads Tryz.prog 106 #[v, .func (.func kf) #[] cp] [S] (.bool (l.any g)) := by
  refine ct_of (n := 9) Tryz.func106 rfl rfl (len rfl) fun hr w0 => ?_
  refine cS (cR (sV (vA rfl) (sN (nT (cS (cR (sV (vM rfl) (sV (vM rfl) (st_clr rfl rfl en132 rfl (ix132_ct (g := g) hv hl hE hf) ?_)))))))))
  refine sV (v_geq rfl rfl) (sV (vA rfl) (sN (nK [4] rfl (nT (cT ?_)))))
  rw [ixF_has]
  exact xt_rt rfl ⟨rfl, rfl⟩
set_option maxRecDepth 100000 in
theorem an107_ct {us : List Value} {x : α} {bb : Nat} (hus : us.length = 3) (hE : Enters Tryz.prog kf) (hf : Reads Tryz.prog kf (#[] ++ [Value.agg us.toArray].toArray ++ cp) [S] (.bool (g x))) :
    Reads Tryz.prog 107 #[.agg us.toArray, .pointer (some ⟨bb, 0, none⟩)] [pt bb (cl [.func (.func kf) #[] cp] 126), S] (.bool (!g x)) := by
  refine ct_of (n := 8) Tryz.func107 rfl rfl (len rfl) fun hr w0 => ?_
  refine cS (cR (st_bx rfl rfl fun b2 => ?_))
  refine sV (vA rfl) (sN (nK [1, 2, 3] rfl (nT (cS (cR (sV (v_ldy rfl ld126) ?_))))))
  refine sV (v_ldn rfl ld110 hus rds_pt) ?_
  refine st_clr rfl rfl hE rfl (hf) ?_
  refine sV (v_not rfl) (sV (vA rfl) (sN (nK [3] rfl (nT (cT ?_)))))
  exact xt_rt rfl ⟨rfl, rfl⟩
set_option maxRecDepth 100000 in
theorem al59_ct (hv : Row S 3 X v l) (hl : l.length ≤ 1000000) (hE : Enters Tryz.prog kf) (hf : ∀ x ∈ l, ∀ us, us.length = 3 → X us x → Reads Tryz.prog kf (#[] ++ [Value.agg us.toArray].toArray ++ cp) [S] (.bool (g x))) :
    Reads Tryz.prog 59 #[v, .func (.func kf) #[] cp] [S] (.bool (l.all g)) := by
  refine ct_of (n := 9) Tryz.func59 rfl rfl (len rfl) fun hr w0 => ?_
  refine cS (cR (st_bx rfl rfl fun b3 => ?_))
  refine sV (vA rfl) (sN (nK [0, 3, 4] rfl (nT (cS (cR (sV (vM rfl) (sV (v_makeFunc rfl rfl) (st_clr rfl rfl en106 rfl (reads_star (cf106_ct (g := fun x => !g x) (S := Res.star [pt b3 (cl [.func (.func kf) #[] cp] 126), S]) (hv.mono (rd_in (.there .here)) fun _ _ _ h => h) hl en107 fun x hx us hus hX => reads_one (an107_ct hus hE (hf x hx us hus hX)))) ?_))))))))
  refine sV (v_not rfl) (sV (vA rfl) (sN (nK [4] rfl (nT (cT ?_)))))
  rw [all_any]
  exact xt_rt rfl ⟨rfl, rfl⟩
set_option maxRecDepth 100000 in
theorem ix183_ct (hv : Row S 2 X v l) (hl : l.length ≤ 1000000) (hE : Enters Tryz.prog kf) (hf : ∀ x ∈ l, ∀ us, us.length = 2 → X us x → Reads Tryz.prog kf (#[] ++ [Value.agg us.toArray].toArray ++ cp) [S] (.bool (g x))) :
    Reads Tryz.prog 183 #[v, .func (.func kf) #[] cp] [S] (.int .i64 (ixF g l)) := by
  obtain ⟨a, cap, hv1, _⟩ := id hv
  refine ct_of (n := 19) Tryz.func183 rfl rfl (len rfl) fun hr w0 => ?_
  refine cS (cR (sV (vA rfl) (sN (nT (cS (cS (cR (sV (vM rfl) (sV (v_len (congrArg some hv1) Tryz.underlying118) (sV (vM rfl) (sN (nK [0, 1, 4, 7, 8] rfl (nT (cd_block (cd_lp (σ := Nat) (fun i => [(0, v), (1, .func (.func kf) #[] cp), (7, .int .i64 l.length), (8, .int .i64 (i : Nat))]) (fun _ => S :: hr) (fun i => i ≤ l.length ∧ ∀ (j : Nat) (y : α), j < i → l[j]? = some y → g y = false) (fun i => l.length - i) 0 ⟨Nat.zero_le _, fun j y hj => by omega⟩ ?_)))))))))))))))
  rintro i ⟨hi, hne⟩
  refine cS (cR (sV (v_lss rfl rfl) (sN (nT (cS (cC rfl (fun hd => ?_) (fun hd => ?_)))))))
  · skip
    have hlt : i < l.length := by simpa using hd
    obtain ⟨b, o, cp2, us, hv2, hus, hrd, hx⟩ := hv.at (List.getElem?_eq_getElem hlt)
    refine cK (xT (cS (cd_block (cS (cR (sV (vM rfl) (sV (vA rfl) (sN (nK [0, 1, 5, 7, 8] rfl (nT (cS (cR (sV (vM rfl) (sV (vM rfl) (sV (vM rfl) ?_)))))))))))))))
    refine sV (v_indexAddr (k := i) (congrArg some hv2) rfl sl118 rfl hlt rfl) (sV (v_ldn rfl ld117 hus hrd) ?_)
    refine st_clr rfl rfl hE rfl ((hf l[i] (List.getElem_mem hlt) us hus hx)) ?_
    refine sN (nK [0, 1, 5, 7, 8, 16] rfl (nT (cC rfl (fun he => ?_) (fun he => ?_))))
    · skip
      refine cS (cR (sV (vM rfl) (sV (vA rfl) (sN (nK [0, 1, 4, 7, 8] rfl (nT (cT (xt_ret_block (xR (xR (xt_ret_block (xR ?_))))))))))))
      rw [ixF_some hlt he hne]
      exact xt_rt rfl ⟨rfl, rfl⟩
    · skip
      refine cK (xB (xT (cR (sV (v_add rfl rfl (by unfold I64 at *; omega)) (sV (vM rfl) (sN (nK [0, 1, 7, 8] rfl (nx_xt (xt_ag (i + 1) ⟨hlt, fun j y hj hy => ?_⟩ (by show _ - _ < _ - _; omega))))))))))
      by_cases hji : j = i
      · subst hji; rw [List.getElem?_eq_getElem hlt] at hy; cases hy; exact he
      · exact hne j y (by omega) hy
  · skip
    refine cd_exit (xE (xE (xt_exit_block (xT (cS (cR (sV (vA rfl) (sN (nK [4] rfl (nT (cT ?_)))))))))))
    have hil : i = l.length := by have : ¬ i < l.length := by simpa using hd
                                  omega
    rw [ixF_none (fun j y hj => hne j y (by omega))]
    exact xt_rt rfl ⟨rfl, rfl⟩
set_option maxRecDepth 100000 in
theorem cf162_ct (hv : Row S 2 X v l) (hl : l.length ≤ 1000000) (hE : Enters Tryz.prog kf) (hf : ∀ x ∈ l, ∀ us, us.length = 2 → X us x → Reads Tryz.prog kf (#[] ++ [Value.agg us.toArray].toArray ++ cp) [S] (.bool (g x))) :
    Reads Tryz.prog 162 #[v, .func (.func kf) #[] cp] [S] (.bool (l.any g)) := by
  refine ct_of (n := 9) Tryz.func162 rfl rfl (len rfl) fun hr w0 => ?_
  refine cS (cR (sV (vA rfl) (sN (nT (cS (cR (sV (vM rfl) (sV (vM rfl) (st_clr rfl rfl en183 rfl (ix183_ct (g := g) hv hl hE hf) ?_)))))))))
  refine sV (v_geq rfl rfl) (sV (vA rfl) (sN (nK [4] rfl (nT (cT ?_)))))
  rw [ixF_has]
  exact xt_rt rfl ⟨rfl, rfl⟩
set_option maxRecDepth 100000 in
theorem an163_ct {us : List Value} {x : α} {bb : Nat} (hus : us.length = 2) (hE : Enters Tryz.prog kf) (hf : Reads Tryz.prog kf (#[] ++ [Value.agg us.toArray].toArray ++ cp) [S] (.bool (g x))) :
    Reads Tryz.prog 163 #[.agg us.toArray, .pointer (some ⟨bb, 0, none⟩)] [pt bb (cl [.func (.func kf) #[] cp] 188), S] (.bool (!g x)) := by
  refine ct_of (n := 8) Tryz.func163 rfl rfl (len rfl) fun hr w0 => ?_
  refine cS (cR (st_bx rfl rfl fun b2 => ?_))
  refine sV (vA rfl) (sN (nK [1, 2, 3] rfl (nT (cS (cR (sV (v_ldy rfl ld188) ?_))))))
  refine sV (v_ldn rfl ld117 hus rds_pt) ?_
  refine st_clr rfl rfl hE rfl (hf) ?_
  refine sV (v_not rfl) (sV (vA rfl) (sN (nK [3] rfl (nT (cT ?_)))))
  exact xt_rt rfl ⟨rfl, rfl⟩
set_option maxRecDepth 100000 in
theorem al136_ct (hv : Row S 2 X v l) (hl : l.length ≤ 1000000) (hE : Enters Tryz.prog kf) (hf : ∀ x ∈ l, ∀ us, us.length = 2 → X us x → Reads Tryz.prog kf (#[] ++ [Value.agg us.toArray].toArray ++ cp) [S] (.bool (g x))) :
    Reads Tryz.prog 136 #[v, .func (.func kf) #[] cp] [S] (.bool (l.all g)) := by
  refine ct_of (n := 9) Tryz.func136 rfl rfl (len rfl) fun hr w0 => ?_
  refine cS (cR (st_bx rfl rfl fun b3 => ?_))
  refine sV (vA rfl) (sN (nK [0, 3, 4] rfl (nT (cS (cR (sV (vM rfl) (sV (v_makeFunc rfl rfl) (st_clr rfl rfl en162 rfl (reads_star (cf162_ct (g := fun x => !g x) (S := Res.star [pt b3 (cl [.func (.func kf) #[] cp] 188), S]) (hv.mono (rd_in (.there .here)) fun _ _ _ h => h) hl en163 fun x hx us hus hX => reads_one (an163_ct hus hE (hf x hx us hus hX)))) ?_))))))))
  refine sV (v_not rfl) (sV (vA rfl) (sN (nK [4] rfl (nT (cT ?_)))))
  rw [all_any]
  exact xt_rt rfl ⟨rfl, rfl⟩
set_option maxRecDepth 100000 in
theorem ix184_ct (hv : Row S 5 X v l) (hl : l.length ≤ 1000000) (hE : Enters Tryz.prog kf) (hf : ∀ x ∈ l, ∀ us, us.length = 5 → X us x → Reads Tryz.prog kf (#[] ++ [Value.agg us.toArray].toArray ++ cp) [S] (.bool (g x))) :
    Reads Tryz.prog 184 #[v, .func (.func kf) #[] cp] [S] (.int .i64 (ixF g l)) := by
  obtain ⟨a, cap, hv1, _⟩ := id hv
  refine ct_of (n := 19) Tryz.func184 rfl rfl (len rfl) fun hr w0 => ?_
  refine cS (cR (sV (vA rfl) (sN (nT (cS (cS (cR (sV (vM rfl) (sV (v_len (congrArg some hv1) Tryz.underlying73) (sV (vM rfl) (sN (nK [0, 1, 4, 7, 8] rfl (nT (cd_block (cd_lp (σ := Nat) (fun i => [(0, v), (1, .func (.func kf) #[] cp), (7, .int .i64 l.length), (8, .int .i64 (i : Nat))]) (fun _ => S :: hr) (fun i => i ≤ l.length ∧ ∀ (j : Nat) (y : α), j < i → l[j]? = some y → g y = false) (fun i => l.length - i) 0 ⟨Nat.zero_le _, fun j y hj => by omega⟩ ?_)))))))))))))))
  rintro i ⟨hi, hne⟩
  refine cS (cR (sV (v_lss rfl rfl) (sN (nT (cS (cC rfl (fun hd => ?_) (fun hd => ?_)))))))
  · skip
    have hlt : i < l.length := by simpa using hd
    obtain ⟨b, o, cp2, us, hv2, hus, hrd, hx⟩ := hv.at (List.getElem?_eq_getElem hlt)
    refine cK (xT (cS (cd_block (cS (cR (sV (vM rfl) (sV (vA rfl) (sN (nK [0, 1, 5, 7, 8] rfl (nT (cS (cR (sV (vM rfl) (sV (vM rfl) (sV (vM rfl) ?_)))))))))))))))
    refine sV (v_indexAddr (k := i) (congrArg some hv2) rfl sl73 rfl hlt rfl) (sV (v_ldn rfl ld120 hus hrd) ?_)
    refine st_clr rfl rfl hE rfl ((hf l[i] (List.getElem_mem hlt) us hus hx)) ?_
    refine sN (nK [0, 1, 5, 7, 8, 16] rfl (nT (cC rfl (fun he => ?_) (fun he => ?_))))
    · skip
      refine cS (cR (sV (vM rfl) (sV (vA rfl) (sN (nK [0, 1, 4, 7, 8] rfl (nT (cT (xt_ret_block (xR (xR (xt_ret_block (xR ?_))))))))))))
      rw [ixF_some hlt he hne]
      exact xt_rt rfl ⟨rfl, rfl⟩
    · skip
      refine cK (xB (xT (cR (sV (v_add rfl rfl (by unfold I64 at *; omega)) (sV (vM rfl) (sN (nK [0, 1, 7, 8] rfl (nx_xt (xt_ag (i + 1) ⟨hlt, fun j y hj hy => ?_⟩ (by show _ - _ < _ - _; omega))))))))))
      by_cases hji : j = i
      · subst hji; rw [List.getElem?_eq_getElem hlt] at hy; cases hy; exact he
      · exact hne j y (by omega) hy
  · skip
    refine cd_exit (xE (xE (xt_exit_block (xT (cS (cR (sV (vA rfl) (sN (nK [4] rfl (nT (cT ?_)))))))))))
    have hil : i = l.length := by have : ¬ i < l.length := by simpa using hd
                                  omega
    rw [ixF_none (fun j y hj => hne j y (by omega))]
    exact xt_rt rfl ⟨rfl, rfl⟩
set_option maxRecDepth 100000 in
theorem cf164_ct (hv : Row S 5 X v l) (hl : l.length ≤ 1000000) (hE : Enters Tryz.prog kf) (hf : ∀ x ∈ l, ∀ us, us.length = 5 → X us x → Reads Tryz.prog kf (#[] ++ [Value.agg us.toArray].toArray ++ cp) [S] (.bool (g x))) :
    Reads Tryz.prog 164 #[v, .func (.func kf) #[] cp] [S] (.bool (l.any g)) := by
  refine ct_of (n := 9) Tryz.func164 rfl rfl (len rfl) fun hr w0 => ?_
  refine cS (cR (sV (vA rfl) (sN (nT (cS (cR (sV (vM rfl) (sV (vM rfl) (st_clr rfl rfl en184 rfl (ix184_ct (g := g) hv hl hE hf) ?_)))))))))
  refine sV (v_geq rfl rfl) (sV (vA rfl) (sN (nK [4] rfl (nT (cT ?_)))))
  rw [ixF_has]
  exact xt_rt rfl ⟨rfl, rfl⟩
set_option maxRecDepth 100000 in
theorem an165_ct {us : List Value} {x : α} {bb : Nat} (hus : us.length = 5) (hE : Enters Tryz.prog kf) (hf : Reads Tryz.prog kf (#[] ++ [Value.agg us.toArray].toArray ++ cp) [S] (.bool (g x))) :
    Reads Tryz.prog 165 #[.agg us.toArray, .pointer (some ⟨bb, 0, none⟩)] [pt bb (cl [.func (.func kf) #[] cp] 190), S] (.bool (!g x)) := by
  refine ct_of (n := 8) Tryz.func165 rfl rfl (len rfl) fun hr w0 => ?_
  refine cS (cR (st_bx rfl rfl fun b2 => ?_))
  refine sV (vA rfl) (sN (nK [1, 2, 3] rfl (nT (cS (cR (sV (v_ldy rfl ld190) ?_))))))
  refine sV (v_ldn rfl ld120 hus rds_pt) ?_
  refine st_clr rfl rfl hE rfl (hf) ?_
  refine sV (v_not rfl) (sV (vA rfl) (sN (nK [3] rfl (nT (cT ?_)))))
  exact xt_rt rfl ⟨rfl, rfl⟩
set_option maxRecDepth 100000 in
theorem al139_ct (hv : Row S 5 X v l) (hl : l.length ≤ 1000000) (hE : Enters Tryz.prog kf) (hf : ∀ x ∈ l, ∀ us, us.length = 5 → X us x → Reads Tryz.prog kf (#[] ++ [Value.agg us.toArray].toArray ++ cp) [S] (.bool (g x))) :
    Reads Tryz.prog 139 #[v, .func (.func kf) #[] cp] [S] (.bool (l.all g)) := by
  refine ct_of (n := 9) Tryz.func139 rfl rfl (len rfl) fun hr w0 => ?_
  refine cS (cR (st_bx rfl rfl fun b3 => ?_))
  refine sV (vA rfl) (sN (nK [0, 3, 4] rfl (nT (cS (cR (sV (vM rfl) (sV (v_makeFunc rfl rfl) (st_clr rfl rfl en164 rfl (reads_star (cf164_ct (g := fun x => !g x) (S := Res.star [pt b3 (cl [.func (.func kf) #[] cp] 190), S]) (hv.mono (rd_in (.there .here)) fun _ _ _ h => h) hl en165 fun x hx us hus hX => reads_one (an165_ct hus hE (hf x hx us hus hX)))) ?_))))))))
  refine sV (v_not rfl) (sV (vA rfl) (sN (nK [4] rfl (nT (cT ?_)))))
  rw [all_any]
  exact xt_rt rfl ⟨rfl, rfl⟩
set_option maxRecDepth 100000 in
theorem ix185_ct (hv : Row S 2 X v l) (hl : l.length ≤ 1000000) (hE : Enters Tryz.prog kf) (hf : ∀ x ∈ l, ∀ us, us.length = 2 → X us x → Reads Tryz.prog kf (#[] ++ [Value.agg us.toArray].toArray ++ cp) [S] (.bool (g x))) :
    Reads Tryz.prog 185 #[v, .func (.func kf) #[] cp] [S] (.int .i64 (ixF g l)) := by
  obtain ⟨a, cap, hv1, _⟩ := id hv
  refine ct_of (n := 19) Tryz.func185 rfl rfl (len rfl) fun hr w0 => ?_
  refine cS (cR (sV (vA rfl) (sN (nT (cS (cS (cR (sV (vM rfl) (sV (v_len (congrArg some hv1) Tryz.underlying74) (sV (vM rfl) (sN (nK [0, 1, 4, 7, 8] rfl (nT (cd_block (cd_lp (σ := Nat) (fun i => [(0, v), (1, .func (.func kf) #[] cp), (7, .int .i64 l.length), (8, .int .i64 (i : Nat))]) (fun _ => S :: hr) (fun i => i ≤ l.length ∧ ∀ (j : Nat) (y : α), j < i → l[j]? = some y → g y = false) (fun i => l.length - i) 0 ⟨Nat.zero_le _, fun j y hj => by omega⟩ ?_)))))))))))))))
  rintro i ⟨hi, hne⟩
  refine cS (cR (sV (v_lss rfl rfl) (sN (nT (cS (cC rfl (fun hd => ?_) (fun hd => ?_)))))))
  · skip
    have hlt : i < l.length := by simpa using hd
    obtain ⟨b, o, cp2, us, hv2, hus, hrd, hx⟩ := hv.at (List.getElem?_eq_getElem hlt)
    refine cK (xT (cS (cd_block (cS (cR (sV (vM rfl) (sV (vA rfl) (sN (nK [0, 1, 5, 7, 8] rfl (nT (cS (cR (sV (vM rfl) (sV (vM rfl) (sV (vM rfl) ?_)))))))))))))))
    refine sV (v_indexAddr (k := i) (congrArg some hv2) rfl sl74 rfl hlt rfl) (sV (v_ldn rfl ld79 hus hrd) ?_)
    refine st_clr rfl rfl hE rfl ((hf l[i] (List.getElem_mem hlt) us hus hx)) ?_
    refine sN (nK [0, 1, 5, 7, 8, 16] rfl (nT (cC rfl (fun he => ?_) (fun he => ?_))))
    · skip
      refine cS (cR (sV (vM rfl) (sV (vA rfl) (sN (nK [0, 1, 4, 7, 8] rfl (nT (cT (xt_ret_block (xR (xR (xt_ret_block (xR ?_))))))))))))
      rw [ixF_some hlt he hne]
      exact xt_rt rfl ⟨rfl, rfl⟩
    · skip
      refine cK (xB (xT (cR (sV (v_add rfl rfl (by unfold I64 at *; omega)) (sV (vM rfl) (sN (nK [0, 1, 7, 8] rfl (nx_xt (xt_ag (i + 1) ⟨hlt, fun j y hj hy => ?_⟩ (by show _ - _ < _ - _; omega))))))))))
      by_cases hji : j = i
      · subst hji; rw [List.getElem?_eq_getElem hlt] at hy; cases hy; exact he
      · exact hne j y (by omega) hy
  · skip
    refine cd_exit (xE (xE (xt_exit_block (xT (cS (cR (sV (vA rfl) (sN (nK [4] rfl (nT (cT ?_)))))))))))
    have hil : i = l.length := by have : ¬ i < l.length := by simpa using hd
                                  omega
    rw [ixF_none (fun j y hj => hne j y (by omega))]
    exact xt_rt rfl ⟨rfl, rfl⟩
set_option maxRecDepth 100000 in
theorem cf166_ct (hv : Row S 2 X v l) (hl : l.length ≤ 1000000) (hE : Enters Tryz.prog kf) (hf : ∀ x ∈ l, ∀ us, us.length = 2 → X us x → Reads Tryz.prog kf (#[] ++ [Value.agg us.toArray].toArray ++ cp) [S] (.bool (g x))) :
    Reads Tryz.prog 166 #[v, .func (.func kf) #[] cp] [S] (.bool (l.any g)) := by
  refine ct_of (n := 9) Tryz.func166 rfl rfl (len rfl) fun hr w0 => ?_
  refine cS (cR (sV (vA rfl) (sN (nT (cS (cR (sV (vM rfl) (sV (vM rfl) (st_clr rfl rfl en185 rfl (ix185_ct (g := g) hv hl hE hf) ?_)))))))))
  refine sV (v_geq rfl rfl) (sV (vA rfl) (sN (nK [4] rfl (nT (cT ?_)))))
  rw [ixF_has]
  exact xt_rt rfl ⟨rfl, rfl⟩
set_option maxRecDepth 100000 in
theorem an167_ct {us : List Value} {x : α} {bb : Nat} (hus : us.length = 2) (hE : Enters Tryz.prog kf) (hf : Reads Tryz.prog kf (#[] ++ [Value.agg us.toArray].toArray ++ cp) [S] (.bool (g x))) :
    Reads Tryz.prog 167 #[.agg us.toArray, .pointer (some ⟨bb, 0, none⟩)] [pt bb (cl [.func (.func kf) #[] cp] 187), S] (.bool (!g x)) := by
  refine ct_of (n := 8) Tryz.func167 rfl rfl (len rfl) fun hr w0 => ?_
  refine cS (cR (st_bx rfl rfl fun b2 => ?_))
  refine sV (vA rfl) (sN (nK [1, 2, 3] rfl (nT (cS (cR (sV (v_ldy rfl ld187) ?_))))))
  refine sV (v_ldn rfl ld79 hus rds_pt) ?_
  refine st_clr rfl rfl hE rfl (hf) ?_
  refine sV (v_not rfl) (sV (vA rfl) (sN (nK [3] rfl (nT (cT ?_)))))
  exact xt_rt rfl ⟨rfl, rfl⟩
set_option maxRecDepth 100000 in
theorem al140_ct (hv : Row S 2 X v l) (hl : l.length ≤ 1000000) (hE : Enters Tryz.prog kf) (hf : ∀ x ∈ l, ∀ us, us.length = 2 → X us x → Reads Tryz.prog kf (#[] ++ [Value.agg us.toArray].toArray ++ cp) [S] (.bool (g x))) :
    Reads Tryz.prog 140 #[v, .func (.func kf) #[] cp] [S] (.bool (l.all g)) := by
  refine ct_of (n := 9) Tryz.func140 rfl rfl (len rfl) fun hr w0 => ?_
  refine cS (cR (st_bx rfl rfl fun b3 => ?_))
  refine sV (vA rfl) (sN (nK [0, 3, 4] rfl (nT (cS (cR (sV (vM rfl) (sV (v_makeFunc rfl rfl) (st_clr rfl rfl en166 rfl (reads_star (cf166_ct (g := fun x => !g x) (S := Res.star [pt b3 (cl [.func (.func kf) #[] cp] 187), S]) (hv.mono (rd_in (.there .here)) fun _ _ _ h => h) hl en167 fun x hx us hus hX => reads_one (an167_ct hus hE (hf x hx us hus hX)))) ?_))))))))
  refine sV (v_not rfl) (sV (vA rfl) (sN (nK [4] rfl (nT (cT ?_)))))
  rw [all_any]
  exact xt_rt rfl ⟨rfl, rfl⟩
set_option maxRecDepth 100000 in
theorem ix186_ct (hv : Row S 4 X v l) (hl : l.length ≤ 1000000) (hE : Enters Tryz.prog kf) (hf : ∀ x ∈ l, ∀ us, us.length = 4 → X us x → Reads Tryz.prog kf (#[] ++ [Value.agg us.toArray].toArray ++ cp) [S] (.bool (g x))) :
    Reads Tryz.prog 186 #[v, .func (.func kf) #[] cp] [S] (.int .i64 (ixF g l)) := by
  obtain ⟨a, cap, hv1, _⟩ := id hv
  refine ct_of (n := 19) Tryz.func186 rfl rfl (len rfl) fun hr w0 => ?_
  refine cS (cR (sV (vA rfl) (sN (nT (cS (cS (cR (sV (vM rfl) (sV (v_len (congrArg some hv1) Tryz.underlying75) (sV (vM rfl) (sN (nK [0, 1, 4, 7, 8] rfl (nT (cd_block (cd_lp (σ := Nat) (fun i => [(0, v), (1, .func (.func kf) #[] cp), (7, .int .i64 l.length), (8, .int .i64 (i : Nat))]) (fun _ => S :: hr) (fun i => i ≤ l.length ∧ ∀ (j : Nat) (y : α), j < i → l[j]? = some y → g y = false) (fun i => l.length - i) 0 ⟨Nat.zero_le _, fun j y hj => by omega⟩ ?_)))))))))))))))
  rintro i ⟨hi, hne⟩
  refine cS (cR (sV (v_lss rfl rfl) (sN (nT (cS (cC rfl (fun hd => ?_) (fun hd => ?_)))))))
  · skip
    have hlt : i < l.length := by simpa using hd
    obtain ⟨b, o, cp2, us, hv2, hus, hrd, hx⟩ := hv.at (List.getElem?_eq_getElem hlt)
    refine cK (xT (cS (cd_block (cS (cR (sV (vM rfl) (sV (vA rfl) (sN (nK [0, 1, 5, 7, 8] rfl (nT (cS (cR (sV (vM rfl) (sV (vM rfl) (sV (vM rfl) ?_)))))))))))))))
    refine sV (v_indexAddr (k := i) (congrArg some hv2) rfl sl75 rfl hlt rfl) (sV (v_ldn rfl ld161 hus hrd) ?_)
    refine st_clr rfl rfl hE rfl ((hf l[i] (List.getElem_mem hlt) us hus hx)) ?_
    refine sN (nK [0, 1, 5, 7, 8, 16] rfl (nT (cC rfl (fun he => ?_) (fun he => ?_))))
    · skip
      refine cS (cR (sV (vM rfl) (sV (vA rfl) (sN (nK [0, 1, 4, 7, 8] rfl (nT (cT (xt_ret_block (xR (xR (xt_ret_block (xR ?_))))))))))))
      rw [ixF_some hlt he hne]
      exact xt_rt rfl ⟨rfl, rfl⟩
    · skip
      refine cK (xB (xT (cR (sV (v_add rfl rfl (by unfold I64 at *; omega)) (sV (vM rfl) (sN (nK [0, 1, 7, 8] rfl (nx_xt (xt_ag (i + 1) ⟨hlt, fun j y hj hy => ?_⟩ (by show _ - _ < _ - _; omega))))))))))
      by_cases hji : j = i
      · subst hji; rw [List.getElem?_eq_getElem hlt] at hy; cases hy; exact he
      · exact hne j y (by omega) hy
  · skip
    refine cd_exit (xE (xE (xt_exit_block (xT (cS (cR (sV (vA rfl) (sN (nK [4] rfl (nT (cT ?_)))))))))))
    have hil : i = l.length := by have : ¬ i < l.length := by simpa using hd
                                  omega
    rw [ixF_none (fun j y hj => hne j y (by omega))]
    exact xt_rt rfl ⟨rfl, rfl⟩
set_option maxRecDepth 100000 in
theorem cf168_ct (hv : Row S 4 X v l) (hl : l.length ≤ 1000000) (hE : Enters Tryz.prog kf) (hf : ∀ x ∈ l, ∀ us, us.length = 4 → X us x → Reads Tryz.prog kf (#[] ++ [Value.agg us.toArray].toArray ++ cp) [S] (.bool (g x))) :
    Reads Tryz.prog 168 #[v, .func (.func kf) #[] cp] [S] (.bool (l.any g)) := by
  refine ct_of (n := 9) Tryz.func168 rfl rfl (len rfl) fun hr w0 => ?_
  refine cS (cR (sV (vA rfl) (sN (nT (cS (cR (sV (vM rfl) (sV (vM rfl) (st_clr rfl rfl en186 rfl (ix186_ct (g := g) hv hl hE hf) ?_)))))))))
  refine sV (v_geq rfl rfl) (sV (vA rfl) (sN (nK [4] rfl (nT (cT ?_)))))
  rw [ixF_has]
  exact xt_rt rfl ⟨rfl, rfl⟩
set_option maxRecDepth 100000 in
theorem an169_ct {us : List Value} {x : α} {bb : Nat} (hus : us.length = 4) (hE : Enters Tryz.prog kf) (hf : Reads Tryz.prog kf (#[] ++ [Value.agg us.toArray].toArray ++ cp) [S] (.bool (g x))) :
    Reads Tryz.prog 169 #[.agg us.toArray, .pointer (some ⟨bb, 0, none⟩)] [pt bb (cl [.func (.func kf) #[] cp] 191), S] (.bool (!g x)) := by
  refine ct_of (n := 8) Tryz.func169 rfl rfl (len rfl) fun hr w0 => ?_
  refine cS (cR (st_bx rfl rfl fun b2 => ?_))
  refine sV (vA rfl) (sN (nK [1, 2, 3] rfl (nT (cS (cR (sV (v_ldy rfl ld191) ?_))))))
  refine sV (v_ldn rfl ld161 hus rds_pt) ?_
  refine st_clr rfl rfl hE rfl (hf) ?_
  refine sV (v_not rfl) (sV (vA rfl) (sN (nK [3] rfl (nT (cT ?_)))))
  exact xt_rt rfl ⟨rfl, rfl⟩
set_option maxRecDepth 100000 in
theorem al141_ct (hv : Row S 4 X v l) (hl : l.length ≤ 1000000) (hE : Enters Tryz.prog kf) (hf : ∀ x ∈ l, ∀ us, us.length = 4 → X us x → Reads Tryz.prog kf (#[] ++ [Value.agg us.toArray].toArray ++ cp) [S] (.bool (g x))) :
    Reads Tryz.prog 141 #[v, .func (.func kf) #[] cp] [S] (.bool (l.all g)) := by
  refine ct_of (n := 9) Tryz.func141 rfl rfl (len rfl) fun hr w0 => ?_
  refine cS (cR (st_bx rfl rfl fun b3 => ?_))
  refine sV (vA rfl) (sN (nK [0, 3, 4] rfl (nT (cS (cR (sV (vM rfl) (sV (v_makeFunc rfl rfl) (st_clr rfl rfl en168 rfl (reads_star (cf168_ct (g := fun x => !g x) (S := Res.star [pt b3 (cl [.func (.func kf) #[] cp] 191), S]) (hv.mono (rd_in (.there .here)) fun _ _ _ h => h) hl en169 fun x hx us hus hX => reads_one (an169_ct hus hE (hf x hx us hus hX)))) ?_))))))))
  refine sV (v_not rfl) (sV (vA rfl) (sN (nK [4] rfl (nT (cT ?_)))))
  rw [all_any]
  exact xt_rt rfl ⟨rfl, rfl⟩
set_option maxRecDepth 100000 in
theorem ix187_ct (hv : Row S 5 X v l) (hl : l.length ≤ 1000000) (hE : Enters Tryz.prog kf) (hf : ∀ x ∈ l, ∀ us, us.length = 5 → X us x → Reads Tryz.prog kf (#[] ++ [Value.agg us.toArray].toArray ++ cp) [S] (.bool (g x))) :
    Reads Tryz.prog 187 #[v, .func (.func kf) #[] cp] [S] (.int .i64 (ixF g l)) := by
  obtain ⟨a, cap, hv1, _⟩ := id hv
  refine ct_of (n := 19) Tryz.func187 rfl rfl (len rfl) fun hr w0 => ?_
  refine cS (cR (sV (vA rfl) (sN (nT (cS (cS (cR (sV (vM rfl) (sV (v_len (congrArg some hv1) Tryz.underlying62) (sV (vM rfl) (sN (nK [0, 1, 4, 7, 8] rfl (nT (cd_block (cd_lp (σ := Nat) (fun i => [(0, v), (1, .func (.func kf) #[] cp), (7, .int .i64 l.length), (8, .int .i64 (i : Nat))]) (fun _ => S :: hr) (fun i => i ≤ l.length ∧ ∀ (j : Nat) (y : α), j < i → l[j]? = some y → g y = false) (fun i => l.length - i) 0 ⟨Nat.zero_le _, fun j y hj => by omega⟩ ?_)))))))))))))))
  rintro i ⟨hi, hne⟩
  refine cS (cR (sV (v_lss rfl rfl) (sN (nT (cS (cC rfl (fun hd => ?_) (fun hd => ?_)))))))
  · skip
    have hlt : i < l.length := by simpa using hd
    obtain ⟨b, o, cp2, us, hv2, hus, hrd, hx⟩ := hv.at (List.getElem?_eq_getElem hlt)
    refine cK (xT (cS (cd_block (cS (cR (sV (vM rfl) (sV (vA rfl) (sN (nK [0, 1, 5, 7, 8] rfl (nT (cS (cR (sV (vM rfl) (sV (vM rfl) (sV (vM rfl) ?_)))))))))))))))
    refine sV (v_indexAddr (k := i) (congrArg some hv2) rfl sl62 rfl hlt rfl) (sV (v_ldn rfl ld81 hus hrd) ?_)
    refine st_clr rfl rfl hE rfl ((hf l[i] (List.getElem_mem hlt) us hus hx)) ?_
    refine sN (nK [0, 1, 5, 7, 8, 16] rfl (nT (cC rfl (fun he => ?_) (fun he => ?_))))
    · skip
      refine cS (cR (sV (vM rfl) (sV (vA rfl) (sN (nK [0, 1, 4, 7, 8] rfl (nT (cT (xt_ret_block (xR (xR (xt_ret_block (xR ?_))))))))))))
      rw [ixF_some hlt he hne]
      exact xt_rt rfl ⟨rfl, rfl⟩
    · skip
      refine cK (xB (xT (cR (sV (v_add rfl rfl (by unfold I64 at *; omega)) (sV (vM rfl) (sN (nK [0, 1, 7, 8] rfl (nx_xt (xt_ag (i + 1) ⟨hlt, fun j y hj hy => ?_⟩ (by show _ - _ < _ - _; omega))))))))))
      by_cases hji : j = i
      · subst hji; rw [List.getElem?_eq_getElem hlt] at hy; cases hy; exact he
      · exact hne j y (by omega) hy
  · skip
    refine cd_exit (xE (xE (xt_exit_block (xT (cS (cR (sV (vA rfl) (sN (nK [4] rfl (nT (cT ?_)))))))))))
    have hil : i = l.length := by have : ¬ i < l.length := by simpa using hd
                                  omega
    rw [ixF_none (fun j y hj => hne j y (by omega))]
    exact xt_rt rfl ⟨rfl, rfl⟩
set_option maxRecDepth 100000 in
theorem cf170_ct (hv : Row S 5 X v l) (hl : l.length ≤ 1000000) (hE : Enters Tryz.prog kf) (hf : ∀ x ∈ l, ∀ us, us.length = 5 → X us x → Reads Tryz.prog kf (#[] ++ [Value.agg us.toArray].toArray ++ cp) [S] (.bool (g x))) :
    Reads Tryz.prog 170 #[v, .func (.func kf) #[] cp] [S] (.bool (l.any g)) := by
  refine ct_of (n := 9) Tryz.func170 rfl rfl (len rfl) fun hr w0 => ?_
  refine cS (cR (sV (vA rfl) (sN (nT (cS (cR (sV (vM rfl) (sV (vM rfl) (st_clr rfl rfl en187 rfl (ix187_ct (g := g) hv hl hE hf) ?_)))))))))
  refine sV (v_geq rfl rfl) (sV (vA rfl) (sN (nK [4] rfl (nT (cT ?_)))))
  rw [ixF_has]
  exact xt_rt rfl ⟨rfl, rfl⟩
set_option maxRecDepth 100000 in
theorem an171_ct {us : List Value} {x : α} {bb : Nat} (hus : us.length = 5) (hE : Enters Tryz.prog kf) (hf : Reads Tryz.prog kf (#[] ++ [Value.agg us.toArray].toArray ++ cp) [S] (.bool (g x))) :
    Reads Tryz.prog 171 #[.agg us.toArray, .pointer (some ⟨bb, 0, none⟩)] [pt bb (cl [.func (.func kf) #[] cp] 192), S] (.bool (!g x)) := by
  refine ct_of (n := 8) Tryz.func171 rfl rfl (len rfl) fun hr w0 => ?_
  refine cS (cR (st_bx rfl rfl fun b2 => ?_))
  refine sV (vA rfl) (sN (nK [1, 2, 3] rfl (nT (cS (cR (sV (v_ldy rfl ld192) ?_))))))
  refine sV (v_ldn rfl ld81 hus rds_pt) ?_
  refine st_clr rfl rfl hE rfl (hf) ?_
  refine sV (v_not rfl) (sV (vA rfl) (sN (nK [3] rfl (nT (cT ?_)))))
  exact xt_rt rfl ⟨rfl, rfl⟩
set_option maxRecDepth 100000 in
theorem al142_ct (hv : Row S 5 X v l) (hl : l.length ≤ 1000000) (hE : Enters Tryz.prog kf) (hf : ∀ x ∈ l, ∀ us, us.length = 5 → X us x → Reads Tryz.prog kf (#[] ++ [Value.agg us.toArray].toArray ++ cp) [S] (.bool (g x))) :
    Reads Tryz.prog 142 #[v, .func (.func kf) #[] cp] [S] (.bool (l.all g)) := by
  refine ct_of (n := 9) Tryz.func142 rfl rfl (len rfl) fun hr w0 => ?_
  refine cS (cR (st_bx rfl rfl fun b3 => ?_))
  refine sV (vA rfl) (sN (nK [0, 3, 4] rfl (nT (cS (cR (sV (vM rfl) (sV (v_makeFunc rfl rfl) (st_clr rfl rfl en170 rfl (reads_star (cf170_ct (g := fun x => !g x) (S := Res.star [pt b3 (cl [.func (.func kf) #[] cp] 192), S]) (hv.mono (rd_in (.there .here)) fun _ _ _ h => h) hl en171 fun x hx us hus hX => reads_one (an171_ct hus hE (hf x hx us hus hX)))) ?_))))))))
  refine sV (v_not rfl) (sV (vA rfl) (sN (nK [4] rfl (nT (cT ?_)))))
  rw [all_any]
  exact xt_rt rfl ⟨rfl, rfl⟩
set_option maxRecDepth 100000 in
theorem ix190_ct (hv : Row S 9 X v l) (hl : l.length ≤ 1000000) (hE : Enters Tryz.prog kf) (hf : ∀ x ∈ l, ∀ us, us.length = 9 → X us x → Reads Tryz.prog kf (#[] ++ [Value.agg us.toArray].toArray ++ cp) [S] (.bool (g x))) :
    Reads Tryz.prog 190 #[v, .func (.func kf) #[] cp] [S] (.int .i64 (ixF g l)) := by
  obtain ⟨a, cap, hv1, _⟩ := id hv
  refine ct_of (n := 19) Tryz.func190 rfl rfl (len rfl) fun hr w0 => ?_
  refine cS (cR (sV (vA rfl) (sN (nT (cS (cS (cR (sV (vM rfl) (sV (v_len (congrArg some hv1) Tryz.underlying25) (sV (vM rfl) (sN (nK [0, 1, 4, 7, 8] rfl (nT (cd_block (cd_lp (σ := Nat) (fun i => [(0, v), (1, .func (.func kf) #[] cp), (7, .int .i64 l.length), (8, .int .i64 (i : Nat))]) (fun _ => S :: hr) (fun i => i ≤ l.length ∧ ∀ (j : Nat) (y : α), j < i → l[j]? = some y → g y = false) (fun i => l.length - i) 0 ⟨Nat.zero_le _, fun j y hj => by omega⟩ ?_)))))))))))))))
  rintro i ⟨hi, hne⟩
  refine cS (cR (sV (v_lss rfl rfl) (sN (nT (cS (cC rfl (fun hd => ?_) (fun hd => ?_)))))))
  · skip
    have hlt : i < l.length := by simpa using hd
    obtain ⟨b, o, cp2, us, hv2, hus, hrd, hx⟩ := hv.at (List.getElem?_eq_getElem hlt)
    refine cK (xT (cS (cd_block (cS (cR (sV (vM rfl) (sV (vA rfl) (sN (nK [0, 1, 5, 7, 8] rfl (nT (cS (cR (sV (vM rfl) (sV (vM rfl) (sV (vM rfl) ?_)))))))))))))))
    refine sV (v_indexAddr (k := i) (congrArg some hv2) rfl sl25 rfl hlt rfl) (sV (v_ldn rfl ld77 hus hrd) ?_)
    refine st_clr rfl rfl hE rfl ((hf l[i] (List.getElem_mem hlt) us hus hx)) ?_
    refine sN (nK [0, 1, 5, 7, 8, 16] rfl (nT (cC rfl (fun he => ?_) (fun he => ?_))))
    · skip
      refine cS (cR (sV (vM rfl) (sV (vA rfl) (sN (nK [0, 1, 4, 7, 8] rfl (nT (cT (xt_ret_block (xR (xR (xt_ret_block (xR ?_))))))))))))
      rw [ixF_some hlt he hne]
      exact xt_rt rfl ⟨rfl, rfl⟩
    · skip
      refine cK (xB (xT (cR (sV (v_add rfl rfl (by unfold I64 at *; omega)) (sV (vM rfl) (sN (nK [0, 1, 7, 8] rfl (nx_xt (xt_ag (i + 1) ⟨hlt, fun j y hj hy => ?_⟩ (by show _ - _ < _ - _; omega))))))))))
      by_cases hji : j = i
      · subst hji; rw [List.getElem?_eq_getElem hlt] at hy; cases hy; exact he
      · exact hne j y (by omega) hy
  · skip
    refine cd_exit (xE (xE (xt_exit_block (xT (cS (cR (sV (vA rfl) (sN (nK [4] rfl (nT (cT ?_)))))))))))
    have hil : i = l.length := by have : ¬ i < l.length := by simpa using hd
                                  omega
    rw [ixF_none (fun j y hj => hne j y (by omega))]
    exact xt_rt rfl ⟨rfl, rfl⟩
set_option maxRecDepth 100000 in
theorem cf179_ct (hv : Row S 9 X v l) (hl : l.length ≤ 1000000) (hE : Enters Tryz.prog kf) (hf : ∀ x ∈ l, ∀ us, us.length = 9 → X us x → Reads Tryz.prog kf (#[] ++ [Value.agg us.toArray].toArray ++ cp) [S] (.bool (g x))) :
    Reads Tryz.prog 179 #[v, .func (.func kf) #[] cp] [S] (.bool (l.any g)) := by
  refine ct_of (n := 9) Tryz.func179 rfl rfl (len rfl) fun hr w0 => ?_
  refine cS (cR (sV (vA rfl) (sN (nT (cS (cR (sV (vM rfl) (sV (vM rfl) (st_clr rfl rfl en190 rfl (ix190_ct (g := g) hv hl hE hf) ?_)))))))))
  refine sV (v_geq rfl rfl) (sV (vA rfl) (sN (nK [4] rfl (nT (cT ?_)))))
  rw [ixF_has]
  exact xt_rt rfl ⟨rfl, rfl⟩
set_option maxRecDepth 100000 in
theorem an180_ct {us : List Value} {x : α} {bb : Nat} (hus : us.length = 9) (hE : Enters Tryz.prog kf) (hf : Reads Tryz.prog kf (#[] ++ [Value.agg us.toArray].toArray ++ cp) [S] (.bool (g x))) :
    Reads Tryz.prog 180 #[.agg us.toArray, .pointer (some ⟨bb, 0, none⟩)] [pt bb (cl [.func (.func kf) #[] cp] 205), S] (.bool (!g x)) := by
  refine ct_of (n := 8) Tryz.func180 rfl rfl (len rfl) fun hr w0 => ?_
  refine cS (cR (st_bx rfl rfl fun b2 => ?_))
  refine sV (vA rfl) (sN (nK [1, 2, 3] rfl (nT (cS (cR (sV (v_ldy rfl ld205) ?_))))))
  refine sV (v_ldn rfl ld77 hus rds_pt) ?_
  refine st_clr rfl rfl hE rfl (hf) ?_
  refine sV (v_not rfl) (sV (vA rfl) (sN (nK [3] rfl (nT (cT ?_)))))
  exact xt_rt rfl ⟨rfl, rfl⟩
set_option maxRecDepth 100000 in
theorem al149_ct (hv : Row S 9 X v l) (hl : l.length ≤ 1000000) (hE : Enters Tryz.prog kf) (hf : ∀ x ∈ l, ∀ us, us.length = 9 → X us x → Reads Tryz.prog kf (#[] ++ [Value.agg us.toArray].toArray ++ cp) [S] (.bool (g x))) :
    Reads Tryz.prog 149 #[v, .func (.func kf) #[] cp] [S] (.bool (l.all g)) := by
  refine ct_of (n := 9) Tryz.func149 rfl rfl (len rfl) fun hr w0 => ?_
  refine cS (cR (st_bx rfl rfl fun b3 => ?_))
  refine sV (vA rfl) (sN (nK [0, 3, 4] rfl (nT (cS (cR (sV (vM rfl) (sV (v_makeFunc rfl rfl) (st_clr rfl rfl en179 rfl (reads_star (cf179_ct (g := fun x => !g x) (S := Res.star [pt b3 (cl [.func (.func kf) #[] cp] 205), S]) (hv.mono (rd_in (.there .here)) fun _ _ _ h => h) hl en180 fun x hx us hus hX => reads_one (an180_ct hus hE (hf x hx us hus hX)))) ?_))))))))
  refine sV (v_not rfl) (sV (vA rfl) (sN (nK [4] rfl (nT (cT ?_)))))
  rw [all_any]
  exact xt_rt rfl ⟨rfl, rfl⟩
set_option maxRecDepth 100000 in
theorem ix131_ct (hv : Row S 1 X v l) (hl : l.length ≤ 1000000) (hE : Enters Tryz.prog kf) (hf : ∀ x ∈ l, ∀ u, X [u] x → Reads Tryz.prog kf (#[] ++ [u].toArray ++ cp) [S] (.bool (g x))) :
    Reads Tryz.prog 131 #[v, .func (.func kf) #[] cp] [S] (.int .i64 (ixF g l)) := by
  obtain ⟨a, cap, hv1, _⟩ := id hv
  refine ct_of (n := 19) Tryz.func131 rfl rfl (len rfl) fun hr w0 => ?_
  refine cS (cR (sV (vA rfl) (sN (nT (cS (cS (cR (sV (vM rfl) (sV (v_len (congrArg some hv1) Tryz.underlying22) (sV (vM rfl) (sN (nK [0, 1, 4, 7, 8] rfl (nT (cd_block (cd_lp (σ := Nat) (fun i => [(0, v), (1, .func (.func kf) #[] cp), (7, .int .i64 l.length), (8, .int .i64 (i : Nat))]) (fun _ => S :: hr) (fun i => i ≤ l.length ∧ ∀ (j : Nat) (y : α), j < i → l[j]? = some y → g y = false) (fun i => l.length - i) 0 ⟨Nat.zero_le _, fun j y hj => by omega⟩ ?_)))))))))))))))
  rintro i ⟨hi, hne⟩
  refine cS (cR (sV (v_lss rfl rfl) (sN (nT (cS (cC rfl (fun hd => ?_) (fun hd => ?_)))))))
  · skip
    have hlt : i < l.length := by simpa using hd
    obtain ⟨b, o, cp2, u, hv2, hrd, hx⟩ := hv.at1 (List.getElem?_eq_getElem hlt)
    refine cK (xT (cS (cd_block (cS (cR (sV (vM rfl) (sV (vA rfl) (sN (nK [0, 1, 5, 7, 8] rfl (nT (cS (cR (sV (vM rfl) (sV (vM rfl) (sV (vM rfl) ?_)))))))))))))))
    refine sV (v_indexAddr (k := i) (congrArg some hv2) rfl sl22 rfl hlt rfl) (sV (v_ldy rfl ld108) ?_)
    refine st_clr rfl rfl hE rfl ((hf l[i] (List.getElem_mem hlt) u hx)) ?_
    refine sN (nK [0, 1, 5, 7, 8, 16] rfl (nT (cC rfl (fun he => ?_) (fun he => ?_))))
    · skip
      refine cS (cR (sV (vM rfl) (sV (vA rfl) (sN (nK [0, 1, 4, 7, 8] rfl (nT (cT (xt_ret_block (xR (xR (xt_ret_block (xR ?_))))))))))))
      rw [ixF_some hlt he hne]
      exact xt_rt rfl ⟨rfl, rfl⟩
    · skip
      refine cK (xB (xT (cR (sV (v_add rfl rfl (by unfold I64 at *; omega)) (sV (vM rfl) (sN (nK [0, 1, 7, 8] rfl (nx_xt (xt_ag (i + 1) ⟨hlt, fun j y hj hy => ?_⟩ (by show _ - _ < _ - _; omega))))))))))
      by_cases hji : j = i
      · subst hji; rw [List.getElem?_eq_getElem hlt] at hy; cases hy; exact he
      · exact hne j y (by omega) hy
  · skip
    refine cd_exit (xE (xE (xt_exit_block (xT (cS (cR (sV (vA rfl) (sN (nK [4] rfl (nT (cT ?_)))))))))))
    have hil : i = l.length := by have : ¬ i < l.length := by simpa using hd
                                  omega
    rw [ixF_none (fun j y hj => hne j y (by omega))]
    exact xt_rt rfl ⟨rfl, rfl⟩
set_option maxRecDepth 100000 in
theorem cf104_ct (hv : Row S 1 X v l) (hl : l.length ≤ 1000000) (hE : Enters Tryz.prog kf) (hf : ∀ x ∈ l, ∀ u, X [u] x → Reads Tryz.prog kf (#[] ++ [u].toArray ++ cp) [S] (.bool (g x))) :
    Reads Tryz.prog 104 #[v, .func (.func kf) #[] cp] [S] (.bool (l.any g)) := by
  refine ct_of (n := 9) Tryz.func104 rfl rfl (len rfl) fun hr w0 => ?_
  refine cS (cR (sV (vA rfl) (sN (nT (cS (cR (sV (vM rfl) (sV (vM rfl) (st_clr rfl rfl en131 rfl (ix131_ct (g := g) hv hl hE hf) ?_)))))))))
  refine sV (v_geq rfl rfl) (sV (vA rfl) (sN (nK [4] rfl (nT (cT ?_)))))
  rw [ixF_has]
  exact xt_rt rfl ⟨rfl, rfl⟩
set_option maxRecDepth 100000 in
theorem an105_ct {u : Value} {x : α} {bb : Nat} (hE : Enters Tryz.prog kf) (hf : Reads Tryz.prog kf (#[] ++ [u].toArray ++ cp) [S] (.bool (g x))) :
    Reads Tryz.prog 105 #[u, .pointer (some ⟨bb, 0, none⟩)] [pt bb (cl [.func (.func kf) #[] cp] 123), S] (.bool (!g x)) := by
  refine ct_of (n := 8) Tryz.func105 rfl rfl (len rfl) fun hr w0 => ?_
  refine cS (cR (sV (vA rfl) (sN (nT (cS (cR (sV (v_ldy rfl ld123) ?_)))))))
  refine sV (vM rfl) (st_clr rfl rfl hE rfl (hf) ?_)
  refine sV (v_not rfl) (sV (vA rfl) (sN (nK [3] rfl (nT (cT ?_)))))
  exact xt_rt rfl ⟨rfl, rfl⟩
set_option maxRecDepth 100000 in
theorem al56_ct (hv : Row S 1 X v l) (hl : l.length ≤ 1000000) (hE : Enters Tryz.prog kf) (hf : ∀ x ∈ l, ∀ u, X [u] x → Reads Tryz.prog kf (#[] ++ [u].toArray ++ cp) [S] (.bool (g x))) :
    Reads Tryz.prog 56 #[v, .func (.func kf) #[] cp] [S] (.bool (l.all g)) := by
  refine ct_of (n := 9) Tryz.func56 rfl rfl (len rfl) fun hr w0 => ?_
  refine cS (cR (st_bx rfl rfl fun b3 => ?_))
  refine sV (vA rfl) (sN (nK [0, 3, 4] rfl (nT (cS (cR (sV (vM rfl) (sV (v_makeFunc rfl rfl) (st_clr rfl rfl en104 rfl (reads_star (cf104_ct (g := fun x => !g x) (S := Res.star [pt b3 (cl [.func (.func kf) #[] cp] 123), S]) (hv.mono (rd_in (.there .here)) fun _ _ _ h => h) hl en105 fun x hx u hX => reads_one (an105_ct hE (hf x hx u hX)))) ?_))))))))
  refine sV (v_not rfl) (sV (vA rfl) (sN (nK [4] rfl (nT (cT ?_)))))
  rw [all_any]
  exact xt_rt rfl ⟨rfl, rfl⟩
set_option maxRecDepth 100000 in
theorem ix152_ct (hv : Row S 1 X v l) (hl : l.length ≤ 1000000) (hE : Enters Tryz.prog kf) (hf : ∀ x ∈ l, ∀ u, X [u] x → Reads Tryz.prog kf (#[] ++ [u].toArray ++ cp) [S] (.bool (g x))) :
    Reads Tryz.prog 152 #[v, .func (.func kf) #[] cp] [S] (.int .i64 (ixF g l)) := by
  obtain ⟨a, cap, hv1, _⟩ := id hv
  refine ct_of (n := 19) Tryz.func152 rfl rfl (len rfl) fun hr w0 => ?_
  refine cS (cR (sV (vA rfl) (sN (nT (cS (cS (cR (sV (vM rfl) (sV (v_len (congrArg some hv1) Tryz.underlying92) (sV (vM rfl) (sN (nK [0, 1, 4, 7, 8] rfl (nT (cd_block (cd_lp (σ := Nat) (fun i => [(0, v), (1, .func (.func kf) #[] cp), (7, .int .i64 l.length), (8, .int .i64 (i : Nat))]) (fun _ => S :: hr) (fun i => i ≤ l.length ∧ ∀ (j : Nat) (y : α), j < i → l[j]? = some y → g y = false) (fun i => l.length - i) 0 ⟨Nat.zero_le _, fun j y hj => by omega⟩ ?_)))))))))))))))
  rintro i ⟨hi, hne⟩
  refine cS (cR (sV (v_lss rfl rfl) (sN (nT (cS (cC rfl (fun hd => ?_) (fun hd => ?_)))))))
  · skip
    have hlt : i < l.length := by simpa using hd
    obtain ⟨b, o, cp2, u, hv2, hrd, hx⟩ := hv.at1 (List.getElem?_eq_getElem hlt)
    refine cK (xT (cS (cd_block (cS (cR (sV (vM rfl) (sV (vA rfl) (sN (nK [0, 1, 5, 7, 8] rfl (nT (cS (cR (sV (vM rfl) (sV (vM rfl) (sV (vM rfl) ?_)))))))))))))))
    refine sV (v_indexAddr (k := i) (congrArg some hv2) rfl sl92 rfl hlt rfl) (sV (v_ldy rfl ld74) ?_)
    refine st_clr rfl rfl hE rfl ((hf l[i] (List.getElem_mem hlt) u hx)) ?_
    refine sN (nK [0, 1, 5, 7, 8, 16] rfl (nT (cC rfl (fun he => ?_) (fun he => ?_))))
    · skip
      refine cS (cR (sV (vM rfl) (sV (vA rfl) (sN (nK [0, 1, 4, 7, 8] rfl (nT (cT (xt_ret_block (xR (xR (xt_ret_block (xR ?_))))))))))))
      rw [ixF_some hlt he hne]
      exact xt_rt rfl ⟨rfl, rfl⟩
    · skip
      refine cK (xB (xT (cR (sV (v_add rfl rfl (by unfold I64 at *; omega)) (sV (vM rfl) (sN (nK [0, 1, 7, 8] rfl (nx_xt (xt_ag (i + 1) ⟨hlt, fun j y hj hy => ?_⟩ (by show _ - _ < _ - _; omega))))))))))
      by_cases hji : j = i
      · subst hji; rw [List.getElem?_eq_getElem hlt] at hy; cases hy; exact he
      · exact hne j y (by omega) hy
  · skip
    refine cd_exit (xE (xE (xt_exit_block (xT (cS (cR (sV (vA rfl) (sN (nK [4] rfl (nT (cT ?_)))))))))))
    have hil : i = l.length := by have : ¬ i < l.length := by simpa using hd
                                  omega
    rw [ixF_none (fun j y hj => hne j y (by omega))]
    exact xt_rt rfl ⟨rfl, rfl⟩
set_option maxRecDepth 100000 in
theorem cf123_ct (hv : Row S 1 X v l) (hl : l.length ≤ 1000000) (hE : Enters Tryz.prog kf) (hf : ∀ x ∈ l, ∀ u, X [u] x → Reads Tryz.prog kf (#[] ++ [u].toArray ++ cp) [S] (.bool (g x))) :
    Reads Tryz.prog 123 #[v, .func (.func kf) #[] cp] [S] (.bool (l.any g)) := by
  refine ct_of (n := 9) Tryz.func123 rfl rfl (len rfl) fun hr w0 => ?_
  refine cS (cR (sV (vA rfl) (sN (nT (cS (cR (sV (vM rfl) (sV (vM rfl) (st_clr rfl rfl en152 rfl (ix152_ct (g := g) hv hl hE hf) ?_)))))))))
  refine sV (v_geq rfl rfl) (sV (vA rfl) (sN (nK [4] rfl (nT (cT ?_)))))
  rw [ixF_has]
  exact xt_rt rfl ⟨rfl, rfl⟩
set_option maxRecDepth 100000 in
theorem an124_ct {u : Value} {x : α} {bb : Nat} (hE : Enters Tryz.prog kf) (hf : Reads Tryz.prog kf (#[] ++ [u].toArray ++ cp) [S] (.bool (g x))) :
    Reads Tryz.prog 124 #[u, .pointer (some ⟨bb, 0, none⟩)] [pt bb (cl [.func (.func kf) #[] cp] 149), S] (.bool (!g x)) := by
  refine ct_of (n := 8) Tryz.func124 rfl rfl (len rfl) fun hr w0 => ?_
  refine cS (cR (sV (vA rfl) (sN (nT (cS (cR (sV (v_ldy rfl ld149) ?_)))))))
  refine sV (vM rfl) (st_clr rfl rfl hE rfl (hf) ?_)
  refine sV (v_not rfl) (sV (vA rfl) (sN (nK [3] rfl (nT (cT ?_)))))
  exact xt_rt rfl ⟨rfl, rfl⟩
set_option maxRecDepth 100000 in
theorem al83_ct (hv : Row S 1 X v l) (hl : l.length ≤ 1000000) (hE : Enters Tryz.prog kf) (hf : ∀ x ∈ l, ∀ u, X [u] x → Reads Tryz.prog kf (#[] ++ [u].toArray ++ cp) [S] (.bool (g x))) :
    Reads Tryz.prog 83 #[v, .func (.func kf) #[] cp] [S] (.bool (l.all g)) := by
  refine ct_of (n := 9) Tryz.func83 rfl rfl (len rfl) fun hr w0 => ?_
  refine cS (cR (st_bx rfl rfl fun b3 => ?_))
  refine sV (vA rfl) (sN (nK [0, 3, 4] rfl (nT (cS (cR (sV (vM rfl) (sV (v_makeFunc rfl rfl) (st_clr rfl rfl en123 rfl (reads_star (cf123_ct (g := fun x => !g x) (S := Res.star [pt b3 (cl [.func (.func kf) #[] cp] 149), S]) (hv.mono (rd_in (.there .here)) fun _ _ _ h => h) hl en124 fun x hx u hX => reads_one (an124_ct hE (hf x hx u hX)))) ?_))))))))
  refine sV (v_not rfl) (sV (vA rfl) (sN (nK [4] rfl (nT (cT ?_)))))
  rw [all_any]
  exact xt_rt rfl ⟨rfl, rfl⟩
set_option maxRecDepth 100000 in
theorem ix172_ct (hv : Row S 1 X v l) (hl : l.length ≤ 1000000) (hE : Enters Tryz.prog kf) (hf : ∀ x ∈ l, ∀ u, X [u] x → Reads Tryz.prog kf (#[] ++ [u].toArray ++ cp) [S] (.bool (g x))) :
    Reads Tryz.prog 172 #[v, .func (.func kf) #[] cp] [S] (.int .i64 (ixF g l)) := by
  obtain ⟨a, cap, hv1, _⟩ := id hv
  refine ct_of (n := 19) Tryz.func172 rfl rfl (len rfl) fun hr w0 => ?_
  refine cS (cR (sV (vA rfl) (sN (nT (cS (cS (cR (sV (vM rfl) (sV (v_len (congrArg some hv1) Tryz.underlying43) (sV (vM rfl) (sN (nK [0, 1, 4, 7, 8] rfl (nT (cd_block (cd_lp (σ := Nat) (fun i => [(0, v), (1, .func (.func kf) #[] cp), (7, .int .i64 l.length), (8, .int .i64 (i : Nat))]) (fun _ => S :: hr) (fun i => i ≤ l.length ∧ ∀ (j : Nat) (y : α), j < i → l[j]? = some y → g y = false) (fun i => l.length - i) 0 ⟨Nat.zero_le _, fun j y hj => by omega⟩ ?_)))))))))))))))
  rintro i ⟨hi, hne⟩
  refine cS (cR (sV (v_lss rfl rfl) (sN (nT (cS (cC rfl (fun hd => ?_) (fun hd => ?_)))))))
  · skip
    have hlt : i < l.length := by simpa using hd
    obtain ⟨b, o, cp2, u, hv2, hrd, hx⟩ := hv.at1 (List.getElem?_eq_getElem hlt)
    refine cK (xT (cS (cd_block (cS (cR (sV (vM rfl) (sV (vA rfl) (sN (nK [0, 1, 5, 7, 8] rfl (nT (cS (cR (sV (vM rfl) (sV (vM rfl) (sV (vM rfl) ?_)))))))))))))))
    refine sV (v_indexAddr (k := i) (congrArg some hv2) rfl sl43 rfl hlt rfl) (sV (v_ldy rfl ld3) ?_)
    refine st_clr rfl rfl hE rfl ((hf l[i] (List.getElem_mem hlt) u hx)) ?_
    refine sN (nK [0, 1, 5, 7, 8, 16] rfl (nT (cC rfl (fun he => ?_) (fun he => ?_))))
    · skip
      refine cS (cR (sV (vM rfl) (sV (vA rfl) (sN (nK [0, 1, 4, 7, 8] rfl (nT (cT (xt_ret_block (xR (xR (xt_ret_block (xR ?_))))))))))))
      rw [ixF_some hlt he hne]
      exact xt_rt rfl ⟨rfl, rfl⟩
    · skip
      refine cK (xB (xT (cR (sV (v_add rfl rfl (by unfold I64 at *; omega)) (sV (vM rfl) (sN (nK [0, 1, 7, 8] rfl (nx_xt (xt_ag (i + 1) ⟨hlt, fun j y hj hy => ?_⟩ (by show _ - _ < _ - _; omega))))))))))
      by_cases hji : j = i
      · subst hji; rw [List.getElem?_eq_getElem hlt] at hy; cases hy; exact he
      · exact hne j y (by omega) hy
  · skip
    refine cd_exit (xE (xE (xt_exit_block (xT (cS (cR (sV (vA rfl) (sN (nK [4] rfl (nT (cT ?_)))))))))))
    have hil : i = l.length := by have : ¬ i < l.length := by simpa using hd
                                  omega
    rw [ixF_none (fun j y hj => hne j y (by omega))]
    exact xt_rt rfl ⟨rfl, rfl⟩
set_option maxRecDepth 100000 in
theorem cf143_ct (hv : Row S 1 X v l) (hl : l.length ≤ 1000000) (hE : Enters Tryz.prog kf) (hf : ∀ x ∈ l, ∀ u, X [u] x → Reads Tryz.prog kf (#[] ++ [u].toArray ++ cp) [S] (.bool (g x))) :
    Reads Tryz.prog 143 #[v, .func (.func kf) #[] cp] [S] (.bool (l.any g)) := by
  refine ct_of (n := 9) Tryz.func143 rfl rfl (len rfl) fun hr w0 => ?_
  refine cS (cR (sV (vA rfl) (sN (nT (cS (cR (sV (vM rfl) (sV (vM rfl) (st_clr rfl rfl en172 rfl (ix172_ct (g := g) hv hl hE hf) ?_)))))))))
  refine sV (v_geq rfl rfl) (sV (vA rfl) (sN (nK [4] rfl (nT (cT ?_)))))
  rw [ixF_has]
  exact xt_rt rfl ⟨rfl, rfl⟩
set_option maxRecDepth 100000 in
theorem an144_ct {u : Value} {x : α} {bb : Nat} (hE : Enters Tryz.prog kf) (hf : Reads Tryz.prog kf (#[] ++ [u].toArray ++ cp) [S] (.bool (g x))) :
    Reads Tryz.prog 144 #[u, .pointer (some ⟨bb, 0, none⟩)] [pt bb (cl [.func (.func kf) #[] cp] 168), S] (.bool (!g x)) := by
  refine ct_of (n := 8) Tryz.func144 rfl rfl (len rfl) fun hr w0 => ?_
  refine cS (cR (sV (vA rfl) (sN (nT (cS (cR (sV (v_ldy rfl ld168) ?_)))))))
  refine sV (vM rfl) (st_clr rfl rfl hE rfl (hf) ?_)
  refine sV (v_not rfl) (sV (vA rfl) (sN (nK [3] rfl (nT (cT ?_)))))
  exact xt_rt rfl ⟨rfl, rfl⟩
set_option maxRecDepth 100000 in
theorem al109_ct (hv : Row S 1 X v l) (hl : l.length ≤ 1000000) (hE : Enters Tryz.prog kf) (hf : ∀ x ∈ l, ∀ u, X [u] x → Reads Tryz.prog kf (#[] ++ [u].toArray ++ cp) [S] (.bool (g x))) :
    Reads Tryz.prog 109 #[v, .func (.func kf) #[] cp] [S] (.bool (l.all g)) := by
  refine ct_of (n := 9) Tryz.func109 rfl rfl (len rfl) fun hr w0 => ?_
  refine cS (cR (st_bx rfl rfl fun b3 => ?_))
  refine sV (vA rfl) (sN (nK [0, 3, 4] rfl (nT (cS (cR (sV (vM rfl) (sV (v_makeFunc rfl rfl) (st_clr rfl rfl en143 rfl (reads_star (cf143_ct (g := fun x => !g x) (S := Res.star [pt b3 (cl [.func (.func kf) #[] cp] 168), S]) (hv.mono (rd_in (.there .here)) fun _ _ _ h => h) hl en144 fun x hx u hX => reads_one (an144_ct hE (hf x hx u hX)))) ?_))))))))
  refine sV (v_not rfl) (sV (vA rfl) (sN (nK [4] rfl (nT (cT ?_)))))
  rw [all_any]
  exact xt_rt rfl ⟨rfl, rfl⟩
end
end Go.Wt
namespace Go.Wt
open Go Go.Ck Go.Proofs Go.Proofs.YtboepbencndobaaGreat Fx
section
variable {P : Program} {d : Nat} {w : World}
theorem run_isAgg0 {T : TypeId} {td : TypeDesc} (h : P.underlying T = some td) (hd : plainB td = true) : (isAgg T).run P w = .ok false w := by
  unfold isAgg
  simp only [Sem.run_bind, run_underlying h, Result.andThen_ok]
  cases td <;> first | rfl | (simp [plainB] at hd)
theorem run_part1 {T : TypeId} {td : TypeDesc} (h : P.underlying T = some td) (hd : plainB td = true) {cs : Array Value} {i : Nat} {v : Value} (hv : cs[i]? = some v) : (part T cs i).run P w = .ok v w := by
  unfold part
  simp only [Sem.run_bind, run_isAgg0 h hd, Result.andThen_ok, Bool.false_eq_true, if_false, hv, Sem.run_pure]
theorem run_partN {T : TypeId} {fs : Array Field} (h : P.underlying T = some (.struct fs)) {n : Nat} (hs : Sz P T n) {cs : Array Value} {i : Nat} : (part T cs i).run P w = .ok (.agg (cs.extract i (i + n))) w := by
  have hi : (isAgg T).run P w = .ok true w := by unfold isAgg; simp only [Sem.run_bind, run_underlying h, Result.andThen_ok]; rfl
  unfold part
  simp only [Sem.run_bind, hi, Result.andThen_ok, if_true, hs w, Sem.run_pure]
theorem eqF_cons {f : Field} {t : List Field} {xs ys : Array Value} {x y : Value} {e r : Bool} (hn : (f.name != "_") = true) (hx : (part f.type xs f.offset).run P w = .ok x w) (hy : (part f.type ys f.offset).run P w = .ok y w) (he : (Op.equalIn d f.type x y).run P w = .ok e w)
    (ht : (Op.eqFields d xs ys t).run P w = .ok r w) : (Op.eqFields d xs ys (f :: t)).run P w = .ok (e && r) w := by
  unfold Op.eqFields
  rw [if_pos (by simpa using hn)]
  simp only [Sem.run_bind, hx, hy, he, Result.andThen_ok]
  cases e
  · rw [if_pos (by simp)]; rfl
  · rw [if_neg (by simp), ht]; rfl
theorem eqF_nil {xs ys : Array Value} : (Op.eqFields d xs ys []).run P w = .ok true w := by simp [Op.eqFields]
end
def EqT {α : Type} [BEq α] (P : Program) (T : TypeId) (C : α → List Value) : Prop := P.eqGuardType P.depth T = false ∧ ∀ (x y : α) (w : World), (Op.equalIn 10000 T (.agg (C x).toArray) (.agg (C y).toArray)).run P w = .ok (x == y) w
section
variable {P : Program} {e : Env} {h h' : SH} {ty : TypeId} {α : Type} [BEq α] {C : α → List Value}
theorem v_eql_T {T t' : TypeId} {x y : Operand} {a b : α} (hE : EqT P T C) (hx : e.ev? x = some (.agg (C a).toArray)) (hy : e.ev? y = some (.agg (C b).toArray)) : Vop P e h (.binOp .eql T x y t') ty (.bool (a == b)) :=
  ⟨by simp, by simp, fun ρ w d pos after g hρ _ => by
    simp only [execOp, hρ x _ hx, hρ y _ hy, Sem.run_bind, run_eqGuard_agg w .eql T x y _ _ hE.1, Result.andThen_ok, run_eql_struct, hE.2 a b w, Sem.run_pure]⟩
theorem v_neq_T {T t' : TypeId} {x y : Operand} {a b : α} (hE : EqT P T C) (hx : e.ev? x = some (.agg (C a).toArray)) (hy : e.ev? y = some (.agg (C b).toArray)) : Vop P e h (.binOp .neq T x y t') ty (.bool (!(a == b))) :=
  ⟨by simp, by simp, fun ρ w d pos after g hρ _ => by
    simp only [execOp, hρ x _ hx, hρ y _ hy, Sem.run_bind, run_eqGuard_agg w .neq T x y _ _ hE.1, Result.andThen_ok, run_neq_struct, hE.2 a b w, Sem.run_pure]⟩
end
theorem fs_of {T : TypeId} {fs : Array Field} (h : Tryz.prog.underlying T = some (.struct fs)) : Tryz.prog.fieldsOf T = fs := by simp [Program.fieldsOf, h]
theorem st_of {T : TypeId} {fs : Array Field} (h : Tryz.prog.underlying T = some (.struct fs)) : Tryz.prog.underlying T = some (.struct (Tryz.prog.fieldsOf T)) := by simp [Program.fieldsOf, h]
section
variable {w : World} {d : Nat}
theorem pi {cs : Array Value} {i : Nat} {v : Value} (hv : cs[i]? = some v) : (part 3 cs i).run Tryz.prog w = .ok v w := run_part1 Tryz.underlying3 rfl hv
theorem pb {cs : Array Value} {i : Nat} {v : Value} (hv : cs[i]? = some v) : (part 4 cs i).run Tryz.prog w = .ok v w := run_part1 Tryz.underlying4 rfl hv
theorem ei {a b : Int} : (Op.equalIn (d + 1) 3 (.int .i64 a) (.int .i64 b)).run Tryz.prog w = .ok (a == b) w := run_equalIn_int w d 3 .i64 .i64 a b Tryz.underlying3
theorem eb {a b : Bool} : (Op.equalIn (d + 1) 4 (.bool a) (.bool b)).run Tryz.prog w = .ok (a == b) w := run_equalIn_bool' w d 4 a b Tryz.underlying4
theorem eqk (x y : Key) : (Op.equalIn (d + 2) 79 (.agg (kC x).toArray) (.agg (kC y).toArray)).run Tryz.prog w = .ok (x == y) w := by
  rw [run_equalIn_struct w (d + 1) 79 _ _ (st_of Tryz.underlying79) (by kernel_rfl), fs_of Tryz.underlying79]
  have h : (x == y) = (x.1 == y.1 && (x.2 == y.2 && true)) := by rw [Bool.and_true]; rfl
  rw [h]
  exact eqF_cons rfl (pi rfl) (pi rfl) ei (eqF_cons rfl (pi rfl) (pi rfl) ei eqF_nil)
end
theorem eq79 : EqT Tryz.prog 79 kC := ⟨by kernel_rfl, fun x y w => eqk (d := 9998) x y⟩
theorem eq110 : EqT Tryz.prog 110 mC := ⟨by kernel_rfl, fun x y w => by
  rw [run_equalIn_struct w 9999 110 _ _ (st_of Tryz.underlying110) (by kernel_rfl), fs_of Tryz.underlying110]
  have h : (x == y) = (x.1 == y.1 && (x.2.1 == y.2.1 && (x.2.2 == y.2.2 && true))) := by rw [Bool.and_true]; rfl
  rw [h]
  exact eqF_cons rfl (pi rfl) (pi rfl) ei (eqF_cons rfl (pi rfl) (pi rfl) ei (eqF_cons rfl (pi rfl) (pi rfl) ei eqF_nil))⟩
theorem eq117 : EqT Tryz.prog 117 aC := ⟨by kernel_rfl, fun x y w => by
  rw [run_equalIn_struct w 9999 117 _ _ (st_of Tryz.underlying117) (by kernel_rfl), fs_of Tryz.underlying117]
  have h : (x == y) = (x.1 == y.1 && (x.2 == y.2 && true)) := by rw [Bool.and_true]; rfl
  rw [h]
  exact eqF_cons rfl (pi rfl) (pi rfl) ei (eqF_cons rfl (pb rfl) (pb rfl) eb eqF_nil)⟩
theorem eq161 : EqT Tryz.prog 161 holdC := ⟨by kernel_rfl, fun x y w => by
  rw [run_equalIn_struct w 9999 161 _ _ (st_of Tryz.underlying161) (by kernel_rfl), fs_of Tryz.underlying161]
  have h : (x == y) = (x.1 == y.1 && (x.2.1 == y.2.1 && (x.2.2 == y.2.2 && true))) := by rw [Bool.and_true]; rfl
  rw [h]
  exact eqF_cons rfl (pi rfl) (pi rfl) ei (eqF_cons rfl (run_partN Tryz.underlying79 sz79) (run_partN Tryz.underlying79 sz79) (eqk (d := 9997) x.2.1 y.2.1) (eqF_cons rfl (pb rfl) (pb rfl) eb eqF_nil))⟩
theorem eq81 : EqT Tryz.prog 81 dC := ⟨by kernel_rfl, fun x y w => by
  rw [run_equalIn_struct w 9999 81 _ _ (st_of Tryz.underlying81) (by kernel_rfl), fs_of Tryz.underlying81]
  have h : (x == y) = (x.1 == y.1 && (x.2.1 == y.2.1 && (x.2.2.1 == y.2.2.1 && (x.2.2.2 == y.2.2.2 && true)))) := by rw [Bool.and_true]; rfl
  rw [h]
  exact eqF_cons rfl (run_partN Tryz.underlying79 sz79) (run_partN Tryz.underlying79 sz79) (eqk (d := 9997) x.1 y.1) (eqF_cons rfl (pi rfl) (pi rfl) ei (eqF_cons rfl (pb rfl) (pb rfl) eb (eqF_cons rfl (pb rfl) (pb rfl) eb eqF_nil)))⟩
end Go.Wt
namespace Go.Wt
open Go Go.Ck Go.Proofs Go.Proofs.YtboepbencndobaaGreat Fx
attribute [local irreducible] St Cd Xt Nx DrL LsW
def Cln {α : Type} (E : TypeId) (sz : Nat) (X : List Value → α → Prop) (l : List α) (u : Value) (T : Res) : Prop := u.oneCell' = true ∧ ∃ rows, T = VR u E sz rows ∧ rows.length = l.length ∧ ∀ (i : Nat) us x, rows[i]? = some us → l[i]? = some x → X us x
theorem Cln.eqC {α : Type} {E : TypeId} {sz : Nat} {C : α → List Value} {l : List α} {u : Value} {T : Res} (h : Cln E sz (eqC C) l u T) : T = VR u E sz (l.map C) ∧ u.oneCell' = true := by
  obtain ⟨h0, rows, h1, h2, h3⟩ := h
  refine ⟨?_, h0⟩
  rw [h1]
  congr 1
  apply List.ext_getElem
  · simp [h2]
  · intro i hi hj
    have := h3 i rows[i] l[i] (List.getElem?_eq_getElem hi) (List.getElem?_eq_getElem (by omega))
    rw [List.getElem_map]; exact this
section
variable {α : Type} {S : Res} {X : List Value → α → Prop} {v : Value} {l : List α}
set_option maxRecDepth 100000 in
theorem clone54_ct (hv : Row S 3 X v l) (hl : l.length ≤ 1000000) (h1 : ∀ us x, x ∈ l → X us x → ∀ u ∈ us, u.oneCell' = true) : CtN Tryz.prog 54 #[v] [S] (Cln 110 3 X l) := by
  obtain ⟨a, cap, rfl, hlc, hcm, hnone, hel⟩ := id hv
  refine ct_of (n := 8) Tryz.func54 rfl rfl (len rfl) fun hr w0 => ?_
  refine cS (cR (sV (vA rfl) (sN (nT (cS (cS (cR (sV (vM rfl) (sV (v_eql_slice_nil rfl rfl Tryz.underlying108) (sN (nK [0, 2, 4] rfl (nT (cC rfl (fun ha => ?_) (fun ha => ?_))))))))))))))
  · skip
    refine cS (cR (sV (vA rfl) (sN (nK [0, 2] rfl (nT (cT (xR ?_)))))))
    have ha0 : a = none := by simpa using ha
    have hl0 : l = [] := List.eq_nil_of_length_eq_zero (by have := hnone ha0; omega)
    subst hl0
    refine xt_vw (vw_nil 110 3) ?_
    exact xt_rt rfl ⟨VR (.slice none 0 0) 110 3 [], rfl, rfl, [], rfl, rfl, fun i us x h => by simp at h⟩
  · skip
    refine cK (xT (cS (cR ?_)))
    have ha1 : ∃ a', a = some a' := by cases a with | none => simp at ha | some a' => exact ⟨a', rfl⟩
    obtain ⟨a', rfl⟩ := ha1
    obtain ⟨rows, r1, r2, r3, r4⟩ := hv.cells
    refine st_bs0 Tryz.underlying108 inf110 fun b5 => ?_
    refine sV (vM rfl) (st_appA rows rfl rfl Tryz.underlying108 inf110 rfl (by decide) .here r2 r1 (fun j u hu => by obtain ⟨b, o, hb, hr⟩ := r4 j u hu; cases hb; rw [Addr.add_lit]; exact at_there (at_here hr)) (fun u hu => by obtain ⟨us, h2, h3⟩ := List.mem_flatten.1 hu; obtain ⟨i, hi, rfl⟩ := List.mem_iff_getElem.1 h2; exact h1 _ l[i] (List.getElem_mem _) (r3 i _ _ (List.getElem?_eq_getElem hi) (List.getElem?_eq_getElem (by omega))) u h3) (by simp; omega) (by simp; omega) (ltn rfl) fun v' hv' _ => ?_)
    refine sV (vA rfl) (sN (nK [2] rfl (nT (cT ?_))))
    exact xt_rt rfl ⟨VR v' 110 3 rows, rfl, hv', rows, rfl, r1, r3⟩
set_option maxRecDepth 100000 in
theorem clone82_ct (hv : Row S 2 X v l) (hl : l.length ≤ 1000000) (h1 : ∀ us x, x ∈ l → X us x → ∀ u ∈ us, u.oneCell' = true) : CtN Tryz.prog 82 #[v] [S] (Cln 79 2 X l) := by
  obtain ⟨a, cap, rfl, hlc, hcm, hnone, hel⟩ := id hv
  refine ct_of (n := 8) Tryz.func82 rfl rfl (len rfl) fun hr w0 => ?_
  refine cS (cR (sV (vA rfl) (sN (nT (cS (cS (cR (sV (vM rfl) (sV (v_eql_slice_nil rfl rfl Tryz.underlying74) (sN (nK [0, 2, 4] rfl (nT (cC rfl (fun ha => ?_) (fun ha => ?_))))))))))))))
  · skip
    refine cS (cR (sV (vA rfl) (sN (nK [0, 2] rfl (nT (cT (xR ?_)))))))
    have ha0 : a = none := by simpa using ha
    have hl0 : l = [] := List.eq_nil_of_length_eq_zero (by have := hnone ha0; omega)
    subst hl0
    refine xt_vw (vw_nil 79 2) ?_
    exact xt_rt rfl ⟨VR (.slice none 0 0) 79 2 [], rfl, rfl, [], rfl, rfl, fun i us x h => by simp at h⟩
  · skip
    refine cK (xT (cS (cR ?_)))
    have ha1 : ∃ a', a = some a' := by cases a with | none => simp at ha | some a' => exact ⟨a', rfl⟩
    obtain ⟨a', rfl⟩ := ha1
    obtain ⟨rows, r1, r2, r3, r4⟩ := hv.cells
    refine st_bs0 Tryz.underlying74 inf79 fun b5 => ?_
    refine sV (vM rfl) (st_appA rows rfl rfl Tryz.underlying74 inf79 rfl (by decide) .here r2 r1 (fun j u hu => by obtain ⟨b, o, hb, hr⟩ := r4 j u hu; cases hb; rw [Addr.add_lit]; exact at_there (at_here hr)) (fun u hu => by obtain ⟨us, h2, h3⟩ := List.mem_flatten.1 hu; obtain ⟨i, hi, rfl⟩ := List.mem_iff_getElem.1 h2; exact h1 _ l[i] (List.getElem_mem _) (r3 i _ _ (List.getElem?_eq_getElem hi) (List.getElem?_eq_getElem (by omega))) u h3) (by simp; omega) (by simp; omega) (ltn rfl) fun v' hv' _ => ?_)
    refine sV (vA rfl) (sN (nK [2] rfl (nT (cT ?_))))
    exact xt_rt rfl ⟨VR v' 79 2 rows, rfl, hv', rows, rfl, r1, r3⟩
set_option maxRecDepth 100000 in
theorem clone114_ct (hv : Row S 1 X v l) (hl : l.length ≤ 1000000) (h1 : ∀ us x, x ∈ l → X us x → ∀ u ∈ us, u.oneCell' = true) : CtN Tryz.prog 114 #[v] [S] (Cln 108 1 X l) := by
  obtain ⟨a, cap, rfl, hlc, hcm, hnone, hel⟩ := id hv
  refine ct_of (n := 8) Tryz.func114 rfl rfl (len rfl) fun hr w0 => ?_
  refine cS (cR (sV (vA rfl) (sN (nT (cS (cS (cR (sV (vM rfl) (sV (v_eql_slice_nil rfl rfl Tryz.underlying22) (sN (nK [0, 2, 4] rfl (nT (cC rfl (fun ha => ?_) (fun ha => ?_))))))))))))))
  · skip
    refine cS (cR (sV (vA rfl) (sN (nK [0, 2] rfl (nT (cT (xR ?_)))))))
    have ha0 : a = none := by simpa using ha
    have hl0 : l = [] := List.eq_nil_of_length_eq_zero (by have := hnone ha0; omega)
    subst hl0
    refine xt_vw (vw_nil 108 1) ?_
    exact xt_rt rfl ⟨VR (.slice none 0 0) 108 1 [], rfl, rfl, [], rfl, rfl, fun i us x h => by simp at h⟩
  · skip
    refine cK (xT (cS (cR ?_)))
    have ha1 : ∃ a', a = some a' := by cases a with | none => simp at ha | some a' => exact ⟨a', rfl⟩
    obtain ⟨a', rfl⟩ := ha1
    obtain ⟨rows, r1, r2, r3, r4⟩ := hv.cells
    refine st_bs0 Tryz.underlying22 inf108 fun b5 => ?_
    refine sV (vM rfl) (st_appA rows rfl rfl Tryz.underlying22 inf108 rfl (by decide) .here r2 r1 (fun j u hu => by obtain ⟨b, o, hb, hr⟩ := r4 j u hu; cases hb; rw [Addr.add_lit]; exact at_there (at_here hr)) (fun u hu => by obtain ⟨us, h2, h3⟩ := List.mem_flatten.1 hu; obtain ⟨i, hi, rfl⟩ := List.mem_iff_getElem.1 h2; exact h1 _ l[i] (List.getElem_mem _) (r3 i _ _ (List.getElem?_eq_getElem hi) (List.getElem?_eq_getElem (by omega))) u h3) (by simp; omega) (by simp; omega) (ltn rfl) fun v' hv' _ => ?_)
    refine sV (vA rfl) (sN (nK [2] rfl (nT (cT ?_))))
    exact xt_rt rfl ⟨VR v' 108 1 rows, rfl, hv', rows, rfl, r1, r3⟩
set_option maxRecDepth 100000 in
theorem clone115_ct (hv : Row S 9 X v l) (hl : l.length ≤ 1000000) (h1 : ∀ us x, x ∈ l → X us x → ∀ u ∈ us, u.oneCell' = true) : CtN Tryz.prog 115 #[v] [S] (Cln 77 9 X l) := by
  obtain ⟨a, cap, rfl, hlc, hcm, hnone, hel⟩ := id hv
  refine ct_of (n := 8) Tryz.func115 rfl rfl (len rfl) fun hr w0 => ?_
  refine cS (cR (sV (vA rfl) (sN (nT (cS (cS (cR (sV (vM rfl) (sV (v_eql_slice_nil rfl rfl Tryz.underlying25) (sN (nK [0, 2, 4] rfl (nT (cC rfl (fun ha => ?_) (fun ha => ?_))))))))))))))
  · skip
    refine cS (cR (sV (vA rfl) (sN (nK [0, 2] rfl (nT (cT (xR ?_)))))))
    have ha0 : a = none := by simpa using ha
    have hl0 : l = [] := List.eq_nil_of_length_eq_zero (by have := hnone ha0; omega)
    subst hl0
    refine xt_vw (vw_nil 77 9) ?_
    exact xt_rt rfl ⟨VR (.slice none 0 0) 77 9 [], rfl, rfl, [], rfl, rfl, fun i us x h => by simp at h⟩
  · skip
    refine cK (xT (cS (cR ?_)))
    have ha1 : ∃ a', a = some a' := by cases a with | none => simp at ha | some a' => exact ⟨a', rfl⟩
    obtain ⟨a', rfl⟩ := ha1
    obtain ⟨rows, r1, r2, r3, r4⟩ := hv.cells
    refine st_bs0 Tryz.underlying25 inf77 fun b5 => ?_
    refine sV (vM rfl) (st_appA rows rfl rfl Tryz.underlying25 inf77 rfl (by decide) .here r2 r1 (fun j u hu => by obtain ⟨b, o, hb, hr⟩ := r4 j u hu; cases hb; rw [Addr.add_lit]; exact at_there (at_here hr)) (fun u hu => by obtain ⟨us, h2, h3⟩ := List.mem_flatten.1 hu; obtain ⟨i, hi, rfl⟩ := List.mem_iff_getElem.1 h2; exact h1 _ l[i] (List.getElem_mem _) (r3 i _ _ (List.getElem?_eq_getElem hi) (List.getElem?_eq_getElem (by omega))) u h3) (by simp; omega) (by simp; omega) (ltn rfl) fun v' hv' _ => ?_)
    refine sV (vA rfl) (sN (nK [2] rfl (nT (cT ?_))))
    exact xt_rt rfl ⟨VR v' 77 9 rows, rfl, hv', rows, rfl, r1, r3⟩
set_option maxRecDepth 100000 in
theorem clone116_ct (hv : Row S 5 X v l) (hl : l.length ≤ 1000000) (h1 : ∀ us x, x ∈ l → X us x → ∀ u ∈ us, u.oneCell' = true) : CtN Tryz.prog 116 #[v] [S] (Cln 120 5 X l) := by
  obtain ⟨a, cap, rfl, hlc, hcm, hnone, hel⟩ := id hv
  refine ct_of (n := 8) Tryz.func116 rfl rfl (len rfl) fun hr w0 => ?_
  refine cS (cR (sV (vA rfl) (sN (nT (cS (cS (cR (sV (vM rfl) (sV (v_eql_slice_nil rfl rfl Tryz.underlying73) (sN (nK [0, 2, 4] rfl (nT (cC rfl (fun ha => ?_) (fun ha => ?_))))))))))))))
  · skip
    refine cS (cR (sV (vA rfl) (sN (nK [0, 2] rfl (nT (cT (xR ?_)))))))
    have ha0 : a = none := by simpa using ha
    have hl0 : l = [] := List.eq_nil_of_length_eq_zero (by have := hnone ha0; omega)
    subst hl0
    refine xt_vw (vw_nil 120 5) ?_
    exact xt_rt rfl ⟨VR (.slice none 0 0) 120 5 [], rfl, rfl, [], rfl, rfl, fun i us x h => by simp at h⟩
  · skip
    refine cK (xT (cS (cR ?_)))
    have ha1 : ∃ a', a = some a' := by cases a with | none => simp at ha | some a' => exact ⟨a', rfl⟩
    obtain ⟨a', rfl⟩ := ha1
    obtain ⟨rows, r1, r2, r3, r4⟩ := hv.cells
    refine st_bs0 Tryz.underlying73 inf120 fun b5 => ?_
    refine sV (vM rfl) (st_appA rows rfl rfl Tryz.underlying73 inf120 rfl (by decide) .here r2 r1 (fun j u hu => by obtain ⟨b, o, hb, hr⟩ := r4 j u hu; cases hb; rw [Addr.add_lit]; exact at_there (at_here hr)) (fun u hu => by obtain ⟨us, h2, h3⟩ := List.mem_flatten.1 hu; obtain ⟨i, hi, rfl⟩ := List.mem_iff_getElem.1 h2; exact h1 _ l[i] (List.getElem_mem _) (r3 i _ _ (List.getElem?_eq_getElem hi) (List.getElem?_eq_getElem (by omega))) u h3) (by simp; omega) (by simp; omega) (ltn rfl) fun v' hv' _ => ?_)
    refine sV (vA rfl) (sN (nK [2] rfl (nT (cT ?_))))
    exact xt_rt rfl ⟨VR v' 120 5 rows, rfl, hv', rows, rfl, r1, r3⟩
set_option maxRecDepth 100000 in
theorem clone117_ct (hv : Row S 4 X v l) (hl : l.length ≤ 1000000) (h1 : ∀ us x, x ∈ l → X us x → ∀ u ∈ us, u.oneCell' = true) : CtN Tryz.prog 117 #[v] [S] (Cln 161 4 X l) := by
  obtain ⟨a, cap, rfl, hlc, hcm, hnone, hel⟩ := id hv
  refine ct_of (n := 8) Tryz.func117 rfl rfl (len rfl) fun hr w0 => ?_
  refine cS (cR (sV (vA rfl) (sN (nT (cS (cS (cR (sV (vM rfl) (sV (v_eql_slice_nil rfl rfl Tryz.underlying75) (sN (nK [0, 2, 4] rfl (nT (cC rfl (fun ha => ?_) (fun ha => ?_))))))))))))))
  · skip
    refine cS (cR (sV (vA rfl) (sN (nK [0, 2] rfl (nT (cT (xR ?_)))))))
    have ha0 : a = none := by simpa using ha
    have hl0 : l = [] := List.eq_nil_of_length_eq_zero (by have := hnone ha0; omega)
    subst hl0
    refine xt_vw (vw_nil 161 4) ?_
    exact xt_rt rfl ⟨VR (.slice none 0 0) 161 4 [], rfl, rfl, [], rfl, rfl, fun i us x h => by simp at h⟩
  · skip
    refine cK (xT (cS (cR ?_)))
    have ha1 : ∃ a', a = some a' := by cases a with | none => simp at ha | some a' => exact ⟨a', rfl⟩
    obtain ⟨a', rfl⟩ := ha1
    obtain ⟨rows, r1, r2, r3, r4⟩ := hv.cells
    refine st_bs0 Tryz.underlying75 inf161 fun b5 => ?_
    refine sV (vM rfl) (st_appA rows rfl rfl Tryz.underlying75 inf161 rfl (by decide) .here r2 r1 (fun j u hu => by obtain ⟨b, o, hb, hr⟩ := r4 j u hu; cases hb; rw [Addr.add_lit]; exact at_there (at_here hr)) (fun u hu => by obtain ⟨us, h2, h3⟩ := List.mem_flatten.1 hu; obtain ⟨i, hi, rfl⟩ := List.mem_iff_getElem.1 h2; exact h1 _ l[i] (List.getElem_mem _) (r3 i _ _ (List.getElem?_eq_getElem hi) (List.getElem?_eq_getElem (by omega))) u h3) (by simp; omega) (by simp; omega) (ltn rfl) fun v' hv' _ => ?_)
    refine sV (vA rfl) (sN (nK [2] rfl (nT (cT ?_))))
    exact xt_rt rfl ⟨VR v' 161 4 rows, rfl, hv', rows, rfl, r1, r3⟩
set_option maxRecDepth 100000 in
theorem clone118_ct (hv : Row S 5 X v l) (hl : l.length ≤ 1000000) (h1 : ∀ us x, x ∈ l → X us x → ∀ u ∈ us, u.oneCell' = true) : CtN Tryz.prog 118 #[v] [S] (Cln 81 5 X l) := by
  obtain ⟨a, cap, rfl, hlc, hcm, hnone, hel⟩ := id hv
  refine ct_of (n := 8) Tryz.func118 rfl rfl (len rfl) fun hr w0 => ?_
  refine cS (cR (sV (vA rfl) (sN (nT (cS (cS (cR (sV (vM rfl) (sV (v_eql_slice_nil rfl rfl Tryz.underlying62) (sN (nK [0, 2, 4] rfl (nT (cC rfl (fun ha => ?_) (fun ha => ?_))))))))))))))
  · skip
    refine cS (cR (sV (vA rfl) (sN (nK [0, 2] rfl (nT (cT (xR ?_)))))))
    have ha0 : a = none := by simpa using ha
    have hl0 : l = [] := List.eq_nil_of_length_eq_zero (by have := hnone ha0; omega)
    subst hl0
    refine xt_vw (vw_nil 81 5) ?_
    exact xt_rt rfl ⟨VR (.slice none 0 0) 81 5 [], rfl, rfl, [], rfl, rfl, fun i us x h => by simp at h⟩
  · skip
    refine cK (xT (cS (cR ?_)))
    have ha1 : ∃ a', a = some a' := by cases a with | none => simp at ha | some a' => exact ⟨a', rfl⟩
    obtain ⟨a', rfl⟩ := ha1
    obtain ⟨rows, r1, r2, r3, r4⟩ := hv.cells
    refine st_bs0 Tryz.underlying62 inf81 fun b5 => ?_
    refine sV (vM rfl) (st_appA rows rfl rfl Tryz.underlying62 inf81 rfl (by decide) .here r2 r1 (fun j u hu => by obtain ⟨b, o, hb, hr⟩ := r4 j u hu; cases hb; rw [Addr.add_lit]; exact at_there (at_here hr)) (fun u hu => by obtain ⟨us, h2, h3⟩ := List.mem_flatten.1 hu; obtain ⟨i, hi, rfl⟩ := List.mem_iff_getElem.1 h2; exact h1 _ l[i] (List.getElem_mem _) (r3 i _ _ (List.getElem?_eq_getElem hi) (List.getElem?_eq_getElem (by omega))) u h3) (by simp; omega) (by simp; omega) (ltn rfl) fun v' hv' _ => ?_)
    refine sV (vA rfl) (sN (nK [2] rfl (nT (cT ?_))))
    exact xt_rt rfl ⟨VR v' 81 5 rows, rfl, hv', rows, rfl, r1, r3⟩
set_option maxRecDepth 100000 in
theorem clone119_ct (hv : Row S 2 X v l) (hl : l.length ≤ 1000000) (h1 : ∀ us x, x ∈ l → X us x → ∀ u ∈ us, u.oneCell' = true) : CtN Tryz.prog 119 #[v] [S] (Cln 117 2 X l) := by
  obtain ⟨a, cap, rfl, hlc, hcm, hnone, hel⟩ := id hv
  refine ct_of (n := 8) Tryz.func119 rfl rfl (len rfl) fun hr w0 => ?_
  refine cS (cR (sV (vA rfl) (sN (nT (cS (cS (cR (sV (vM rfl) (sV (v_eql_slice_nil rfl rfl Tryz.underlying118) (sN (nK [0, 2, 4] rfl (nT (cC rfl (fun ha => ?_) (fun ha => ?_))))))))))))))
  · skip
    refine cS (cR (sV (vA rfl) (sN (nK [0, 2] rfl (nT (cT (xR ?_)))))))
    have ha0 : a = none := by simpa using ha
    have hl0 : l = [] := List.eq_nil_of_length_eq_zero (by have := hnone ha0; omega)
    subst hl0
    refine xt_vw (vw_nil 117 2) ?_
    exact xt_rt rfl ⟨VR (.slice none 0 0) 117 2 [], rfl, rfl, [], rfl, rfl, fun i us x h => by simp at h⟩
  · skip
    refine cK (xT (cS (cR ?_)))
    have ha1 : ∃ a', a = some a' := by cases a with | none => simp at ha | some a' => exact ⟨a', rfl⟩
    obtain ⟨a', rfl⟩ := ha1
    obtain ⟨rows, r1, r2, r3, r4⟩ := hv.cells
    refine st_bs0 Tryz.underlying118 inf117 fun b5 => ?_
    refine sV (vM rfl) (st_appA rows rfl rfl Tryz.underlying118 inf117 rfl (by decide) .here r2 r1 (fun j u hu => by obtain ⟨b, o, hb, hr⟩ := r4 j u hu; cases hb; rw [Addr.add_lit]; exact at_there (at_here hr)) (fun u hu => by obtain ⟨us, h2, h3⟩ := List.mem_flatten.1 hu; obtain ⟨i, hi, rfl⟩ := List.mem_iff_getElem.1 h2; exact h1 _ l[i] (List.getElem_mem _) (r3 i _ _ (List.getElem?_eq_getElem hi) (List.getElem?_eq_getElem (by omega))) u h3) (by simp; omega) (by simp; omega) (ltn rfl) fun v' hv' _ => ?_)
    refine sV (vA rfl) (sN (nK [2] rfl (nT (cT ?_))))
    exact xt_rt rfl ⟨VR v' 117 2 rows, rfl, hv', rows, rfl, r1, r3⟩
end
end Go.Wt
namespace Go.Wt
open Go Go.Ck Go.Proofs Go.Proofs.YtboepbencndobaaGreat Fx
attribute [local irreducible] St Cd Xt Nx DrL LsW
def eqBy {α β : Type} (g : α → β → Bool) : List α → List β → Bool
  | [], [] => true
  | a :: t, b :: u => g a b && eqBy g t u
  | _, _ => false
theorem eqBy_len {α β : Type} {g : α → β → Bool} : ∀ {l : List α} {m : List β}, l.length ≠ m.length → eqBy g l m = false
  | [], [], h => absurd rfl h
  | [], _ :: _, _ => rfl
  | _ :: _, [], _ => rfl
  | a :: t, b :: u, h => by simp only [eqBy, eqBy_len (l := t) (m := u) (fun e => h (by simp [e])), Bool.and_false]
theorem eqBy_false {α β : Type} {g : α → β → Bool} : ∀ {l : List α} {m : List β} {i : Nat} {a : α} {b : β}, l[i]? = some a → m[i]? = some b → g a b = false → eqBy g l m = false
  | [], _, i, a, b, h, _, _ => by simp at h
  | _ :: _, [], i, a, b, _, h, _ => by simp at h
  | x :: t, y :: u, 0, a, b, h1, h2, h3 => by simp at h1 h2; subst h1 h2; simp [eqBy, h3]
  | x :: t, y :: u, i + 1, a, b, h1, h2, h3 => by
    rw [List.getElem?_cons_succ] at h1 h2
    simp [eqBy, eqBy_false h1 h2 h3]
theorem eqBy_true {α β : Type} {g : α → β → Bool} : ∀ {l : List α} {m : List β}, l.length = m.length → (∀ (i : Nat) a b, l[i]? = some a → m[i]? = some b → g a b = true) → eqBy g l m = true
  | [], [], _, _ => rfl
  | [], _ :: _, h, _ => by simp at h
  | _ :: _, [], h, _ => by simp at h
  | a :: t, b :: u, h, hg => by
    simp only [eqBy, hg 0 a b rfl rfl, Bool.true_and]
    exact eqBy_true (by simpa using h) fun i x y h1 h2 => hg (i + 1) x y (by simpa using h1) (by simpa using h2)
theorem eqBy_eq {α : Type} [BEq α] [LawfulBEq α] : ∀ (l m : List α), eqBy (· == ·) l m = (l == m)
  | [], [] => rfl
  | [], _ :: _ => rfl
  | _ :: _, [] => rfl
  | a :: t, b :: u => by rw [eqBy, eqBy_eq t u]; rfl
section
variable {S : Res} {v v' : Value}
set_option maxRecDepth 100000 in
theorem equal43_ct {l l' : List Key} (hv : Row S 2 (eqC kC) v l) (hv' : Row S 2 (eqC kC) v' l') (hl : l.length ≤ 1000000) : Reads Tryz.prog 43 #[v, v'] [S] (.bool (l == l')) := by
  obtain ⟨a, cap, hv1, _⟩ := id hv
  obtain ⟨a', cap', hv1', _⟩ := id hv'
  rw [← eqBy_eq]
  refine ct_of (n := 26) Tryz.func43 rfl rfl (len rfl) fun hr w0 => ?_
  refine cS (cR (sV (vA rfl) (sN (nT (cS (cS (cR (sV (vM rfl) (sV (v_len (congrArg some hv1) Tryz.underlying74) (sV (vM rfl) (sV (v_len (congrArg some hv1') Tryz.underlying74) (sV (v_neq rfl rfl) (sN (nK [0, 1, 4, 10] rfl (nT (cC rfl (fun h0 => ?_) (fun h0 => ?_)))))))))))))))))
  · skip
    refine cS (cR (sV (vA rfl) (sN (nK [0, 1, 4] rfl (nT (cT (xR ?_)))))))
    rw [eqBy_len (fun e => by simp [e] at h0)]
    exact xt_rt rfl ⟨rfl, rfl⟩
  · skip
    refine cK (xT (cS (cS (cR (sV (vM rfl) (sV (v_len (congrArg some hv1) Tryz.underlying74) (sV (vM rfl) (sN (nK [0, 1, 4, 12, 13] rfl (nT (cd_block ?_)))))))))))
    have hlen : l.length = l'.length := Int.ofNat.inj (show (l.length : Int) = (l'.length : Int) by simpa using h0)
    refine cd_lp (σ := Nat) (fun i => [(0, v), (1, v'), (12, .int .i64 l.length), (13, .int .i64 (i : Nat))]) (fun _ => S :: hr) (fun i => i ≤ l.length ∧ ∀ (j : Nat) a b, j < i → l[j]? = some a → l'[j]? = some b → (a == b) = true) (fun i => l.length - i) 0 ⟨Nat.zero_le _, fun j a b hj => by omega⟩ ?_
    rintro i ⟨hi, hne⟩
    refine cS (cR (sV (v_lss rfl rfl) (sN (nT (cS (cC rfl (fun hd => ?_) (fun hd => ?_)))))))
    · skip
      have hlt : i < l.length := by simpa using hd
      obtain ⟨b, o, cp2, us, hv2, hus, hrd, rfl⟩ := hv.at (List.getElem?_eq_getElem hlt)
      obtain ⟨b', o', cp2', us', hv2', hus', hrd', rfl⟩ := hv'.at (List.getElem?_eq_getElem (show i < l'.length by omega))
      refine cK (xT (cS (cd_block (cS (cR (sV (vM rfl) (sV (vA rfl) (sN (nK [0, 1, 5, 12, 13] rfl (nT (cS (cd_drawh (ork [(0, 2), (1, 2), (2, 2), (3, 1), (4, 2), (5, 2), (6, 2), (7, 1), (8, 1)] .nil) (fun _ => true) mixed (by kernel_rfl) ?_))))))))))))
      refine dV rfl (vM rfl) (dV rfl (vM rfl) (dV rfl (v_indexAddr (k := i) (congrArg some hv2) rfl sl74 rfl hlt rfl) (dr_v rfl (v_ldn rfl ld79 hus hrd) ?_)))
      refine dV rfl (vM rfl) (dV rfl (vM rfl) (dV rfl (v_indexAddr (k := i) (congrArg some hv2') rfl sl74 rfl (by omega) rfl) (dr_v rfl (v_ldn rfl ld79 hus' hrd') ?_)))
      refine dr_v rfl (v_neq_T eq79 rfl rfl) (dr_nil (nK [0, 1, 12, 13, 24] rfl (nT (cC rfl (fun he => ?_) (fun he => ?_)))))
      · skip
        refine cS (cR (sV (vA rfl) (sN (nK [0, 1, 4, 12, 13] rfl (nT (cT (xt_ret_block (xR (xR (xt_ret_block (xR ?_)))))))))))
        rw [eqBy_false (List.getElem?_eq_getElem hlt) (List.getElem?_eq_getElem (show i < l'.length by omega)) (by simpa using he)]
        exact xt_rt rfl ⟨rfl, rfl⟩
      · skip
        refine cK (xB (xT (cR (sV (v_add rfl rfl (by unfold I64 at *; omega)) (sV (vM rfl) (sN (nK [0, 1, 12, 13] rfl (nx_xt (xt_ag (i + 1) ⟨hlt, fun j x y hj hx hy => ?_⟩ (by show _ - _ < _ - _; omega))))))))))
        by_cases hji : j = i
        · subst hji; rw [List.getElem?_eq_getElem hlt] at hx; rw [List.getElem?_eq_getElem (show j < l'.length by omega)] at hy; cases hx; cases hy; simpa using he
        · exact hne j x y (by omega) hx hy
    · skip
      refine cd_exit (xE (xE (xt_exit_block (xT (cS (cR (sV (vA rfl) (sN (nK [4] rfl (nT (cT ?_)))))))))))
      have hil : i = l.length := by have : ¬ i < l.length := by simpa using hd
                                    omega
      rw [eqBy_true hlen fun j x y hx hy => hne j x y (by have := (List.getElem?_eq_some_iff.1 hx).1; omega) hx hy]
      exact xt_rt rfl ⟨rfl, rfl⟩
set_option maxRecDepth 100000 in
theorem ixk_ct {l : List Key} {k : Key} (hv : Row S 2 (eqC kC) v l) (hl : l.length ≤ 1000000) : Reads Tryz.prog 79 #[v, .agg (kC k).toArray] [S] (.int .i64 (ixF (k == ·) l)) := by
  obtain ⟨a, cap, hv1, _⟩ := id hv
  refine ct_of (n := 19) Tryz.func79 rfl rfl (len rfl) fun hr w0 => ?_
  refine cS (cR (st_bx rfl rfl fun b3 => ?_))
  refine sV (vA rfl) (sN (nK [0, 3, 4] rfl (nT (cS (cS (cR (sV (vM rfl) (sV (v_len (congrArg some hv1) Tryz.underlying74) (sV (vM rfl) (sN (nK [0, 3, 4, 7, 8] rfl (nT (cd_block (cd_lp (σ := Nat) (fun i => [(0, v), (3, .pointer (some ⟨b3, 0, none⟩)), (7, .int .i64 l.length), (8, .int .i64 (i : Nat))]) (fun _ => pt b3 (cl (kC k) 79) :: S :: hr) (fun i => i ≤ l.length ∧ ∀ (j : Nat) (y : Key), j < i → l[j]? = some y → (k == y) = false) (fun i => l.length - i) 0 ⟨Nat.zero_le _, fun j y hj => by omega⟩ ?_))))))))))))))
  rintro i ⟨hi, hne⟩
  refine cS (cR (sV (v_lss rfl rfl) (sN (nT (cS (cC rfl (fun hd => ?_) (fun hd => ?_)))))))
  · skip
    have hlt : i < l.length := by simpa using hd
    obtain ⟨b, o, cp2, us, hv2, hus, hrd, rfl⟩ := hv.at (List.getElem?_eq_getElem hlt)
    refine cK (xT (cS (cd_block (cS (cR (sV (vM rfl) (sV (vA rfl) (sN (nK [0, 3, 5, 7, 8] rfl (nT (cS (cd_drawh (ork [(0, 1), (1, 2), (2, 2), (3, 2), (4, 1), (5, 1)] .nil) (fun _ => true) mixed (by kernel_rfl) ?_))))))))))))
    refine dr_v rfl (v_ldn rfl ld79 rfl rds_pt) ?_
    refine dV rfl (vM rfl) (dV rfl (vM rfl) (dV rfl (v_indexAddr (k := i) (congrArg some hv2) rfl sl74 rfl hlt rfl) (dr_v rfl (v_ldn rfl ld79 hus hrd) ?_)))
    refine dr_v rfl (v_eql_T eq79 rfl rfl) (dr_nil (nK [0, 3, 5, 7, 8, 16] rfl (nT (cC rfl (fun he => ?_) (fun he => ?_)))))
    · skip
      refine cS (cR (sV (vM rfl) (sV (vA rfl) (sN (nK [0, 3, 4, 7, 8] rfl (nT (cT (xt_ret_block (xR (xR (xt_ret_block (xR ?_))))))))))))
      rw [ixF_some hlt he hne]
      exact xt_rt rfl ⟨rfl, rfl⟩
    · skip
      refine cK (xB (xT (cR (sV (v_add rfl rfl (by unfold I64 at *; omega)) (sV (vM rfl) (sN (nK [0, 3, 7, 8] rfl (nx_xt (xt_ag (i + 1) ⟨hlt, fun j y hj hy => ?_⟩ (by show _ - _ < _ - _; omega))))))))))
      by_cases hji : j = i
      · subst hji; rw [List.getElem?_eq_getElem hlt] at hy; cases hy; exact he
      · exact hne j y (by omega) hy
  · skip
    refine cd_exit (xE (xE (xt_exit_block (xT (cS (cR (sV (vA rfl) (sN (nK [4] rfl (nT (cT ?_)))))))))))
    have hil : i = l.length := by have : ¬ i < l.length := by simpa using hd
                                  omega
    rw [ixF_none (fun j y hj => hne j y (by omega))]
    exact xt_rt rfl ⟨rfl, rfl⟩
set_option maxRecDepth 100000 in
theorem contk_ct {l : List Key} {k : Key} (hv : Row S 2 (eqC kC) v l) (hl : l.length ≤ 1000000) : Reads Tryz.prog 35 #[v, .agg (kC k).toArray] [S] (.bool (l.contains k)) := by
  have hc : l.contains k = decide (0 ≤ ixF (k == ·) l) := by
    rw [ixF_has]; rw [List.contains_eq_any_beq]
  rw [hc]
  refine ct_of (n := 9) Tryz.func35 rfl rfl (len rfl) fun hr w0 => ?_
  refine cS (cR (st_bx rfl rfl fun b3 => ?_))
  refine sV (vA rfl) (sN (nK [0, 3, 4] rfl (nT (cS (cR (sV (vM rfl) (sV (v_ldn rfl ld79 rfl rds_pt) ?_)))))))
  refine st_clr rfl rfl en79 rfl (ixk_ct hv hl) ?_
  refine sV (v_geq rfl rfl) (sV (vA rfl) (sN (nK [4] rfl (nT (cT ?_)))))
  exact xt_rt rfl ⟨rfl, rfl⟩
end
end Go.Wt
