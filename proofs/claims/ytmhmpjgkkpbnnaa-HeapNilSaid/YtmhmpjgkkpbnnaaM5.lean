/-
  The plain machine: lists of words are forwarded, new objects looked through; the young objects that are reached. Nothing of the program is named here. No condition.
  The plain machine: what is in order between the methods; Minor keeps it. Nothing of the program is named here. No condition.
  The plain machine: Flip, Step, Get, Set and Alloc keep what is in order. Nothing of the program is named here. No condition.
  The plain machine: Alloc, Set, Get and New keep what is in order. Nothing of the program is named here. No condition.
-/
import Derived.Test.YtmhmpjgkkpbnnaaM4
namespace Go.Hm
namespace AM
section
variable {m : AM} {ly ln lf N rl rs : List Int} {sp a : Int} {φ : Int → Option Nat} {A : Store}
theorem Grow.scan_base {m m' : AM} {l l' : List Int} (h : Grow m m' l l' φ φ) : m'.base = m.base := h.base
/-- Places of the present half, one behind the other. -/
theorem J.fwdP : ∀ (ps : List Int) {m : AM} {ln : List Int} {φ : Int → Option Nat}, J m ly ln lf N ps sp N φ A → sp ≤ m.old → (∀ p ∈ ps, ∃ t ∈ ln, p ∈ m.pl t) →
    ∃ ln' φ', J (AM.fwdP true ps m) ly ln' lf N [] sp N φ' A ∧ Grow m (AM.fwdP true ps m) ln ln' φ φ' ∧ (AM.fwdP true ps m).scan = m.scan ∧ (∀ x, x < m.old ∨ (AM.fwdP true ps m).old ≤ x → x ∉ ps → (AM.fwdP true ps m).word x = m.word x)
  | [], m, ln, φ, h, _, _ => ⟨ln, φ, h, Grow.refl .., rfl, fun _ _ _ => rfl⟩
  | p :: ps, m, ln, φ, h, hsp, hps => by
    obtain ⟨t, ht, hp⟩ := hps p (List.mem_cons_self ..)
    obtain ⟨ln1, φ1, h1, g1, s1, w1, _⟩ := h.fwdAt true (rl' := ps) (sp' := sp) (.inl ht) hp (fun _ => ⟨rfl, hsp⟩) (fun hq => by cases hq) (fun q hq hqq => by
      rcases hqq with g | g
      · rcases List.mem_cons.1 g with g | g
        · exact absurd g (hq rfl)
        · exact .inl g
      · exact .inr g)
    have ho := g1.old
    obtain ⟨ln2, φ2, h2, g2, s2, w2⟩ := J.fwdP ps h1 (by omega) (fun q hq => by
      obtain ⟨t', ht', hq'⟩ := hps q (List.mem_cons_of_mem _ hq)
      refine ⟨t', g1.sub ht', ?_⟩
      rw [g1.pl (.inl (by have := h.g.obd ht'; omega))]; exact hq')
    have ho2 := g2.old
    refine ⟨ln2, φ2, h2, g1.trans g2, s2.trans s1, fun x hx hxp => ?_⟩
    have hx' : x < m.old ∨ (AM.fwdP true ps (m.fwdAt true p)).old ≤ x := hx
    exact (w2 x (by omega) fun hq => hxp (List.mem_cons_of_mem _ hq)).trans (w1 x (by omega) fun hq => hxp (by rw [hq]; exact List.mem_cons_self ..))
/-- A list of words. -/
theorem J.fwdL (y : Bool) : ∀ (vs : List Int) {m : AM} {ln : List Int} {φ : Int → Option Nat}, J m ly ln lf N rl sp rs φ A → (y = true → rs = N ∧ sp ≤ m.old) → (y = false → rs = []) →
    (∀ v ∈ vs, m.ours y v = true → if y then v ∈ N else v ∈ lf) →
    ∃ ln' φ', J (AM.fwdL y vs m).2 ly ln' lf N rl sp rs φ' A ∧ Grow m (AM.fwdL y vs m).2 ln ln' φ φ' ∧ (AM.fwdL y vs m).2.scan = m.scan ∧ (∀ x, x < m.old ∨ (AM.fwdL y vs m).2.old ≤ x → (AM.fwdL y vs m).2.word x = m.word x) ∧
      (AM.fwdL y vs m).1.length = vs.length ∧ (∀ i (h : i < vs.length) (h' : i < (AM.fwdL y vs m).1.length), (if m.ours y vs[i] then (AM.fwdL y vs m).1[i] ∈ ln' else (AM.fwdL y vs m).1[i] = vs[i]) ∧ ∀ x, V φ vs[i] x → V φ' (AM.fwdL y vs m).1[i] x)
  | [], m, ln, φ, h, _, _, _ => ⟨ln, φ, h, Grow.refl .., rfl, fun _ _ => rfl, rfl, fun i hi => by simp at hi⟩
  | v :: vs, m, ln, φ, h, hy, hf, hv => by
    have hrs : rs = [] ∨ rs = N := by
      cases y with
      | true => exact .inr (hy rfl).1
      | false => exact .inl (hf rfl)
    obtain ⟨ln1, φ1, h1, g1, e1, i1, s1, p1⟩ := h.fwd y (fun ho => by
      have := hv v (List.mem_cons_self ..) ho
      cases y with
      | true => rw [(hy rfl).1]; simpa using this
      | false => simpa using this) (fun hq => (hy hq).2) hrs
    have ho := g1.old
    have hours : ∀ q, (m.fwd y v).2.ours y q = m.ours y q := fun q => by unfold AM.ours; rw [e1.isY, e1.isF]
    obtain ⟨ln2, φ2, h2, g2, s2, w2, len2, r2⟩ := J.fwdL y vs h1 (fun hq => ⟨(hy hq).1, by have := (hy hq).2; omega⟩) hf (fun q hq ho => hv q (List.mem_cons_of_mem _ hq) (by rw [← hours]; exact ho))
    have ho2 := g2.old
    have hlen : (AM.fwdL y (v :: vs) m).1 = (m.fwd y v).1 :: (AM.fwdL y vs (m.fwd y v).2).1 := rfl
    refine ⟨ln2, φ2, h2, g1.trans g2, s2.trans e1.scan, fun x hx => ?_, by rw [hlen]; simp [len2], fun i hi hi' => ?_⟩
    · have hx' : x < m.old ∨ (AM.fwdL y vs (m.fwd y v).2).2.old ≤ x := hx
      exact (w2 x (by omega)).trans (e1.word x (by omega))
    · cases i with
      | zero =>
        show (if m.ours y v then (m.fwd y v).1 ∈ ln2 else (m.fwd y v).1 = v) ∧ ∀ x, V φ v x → V φ2 (m.fwd y v).1 x
        refine ⟨?_, fun x hx => ?_⟩
        · split
          · rename_i hou
            exact g2.sub (i1 (by have := hv v (List.mem_cons_self ..) hou; exact this)).1
          · rename_i hou
            rw [s1 hou]
        · rcases hx with ⟨h3, h4⟩ | ⟨j, h3, h4⟩
          · left
            refine ⟨?_, h4⟩
            have hn0 : ¬ m.ours y v = true := fun hou => by
              have := hv v (List.mem_cons_self ..) hou
              have hn := h.g.notY0
              rw [h3] at this
              cases y with
              | true => exact hn.1 (h.g.NY _ (by simpa using this))
              | false => exact hn.2.2 (by simpa using this)
            rw [s1 hn0]; exact h3
          · exact .inr ⟨j, g2.le _ _ (p1 j h3), h4⟩
      | succ i =>
        have hi2 : i < vs.length := by simpa using hi
        obtain ⟨r3, r4⟩ := r2 i hi2 (by omega)
        rw [hours] at r3
        exact ⟨r3, fun x hx => r4 x (hx.mono g1.le)⟩
theorem Tl.next {sz : Int → Int} {hi : Int} : ∀ {l : List Int} {lo : Int}, Tl sz lo hi l → ∀ a ∈ l, a + sz a ∈ l ∨ a + sz a = hi
  | [], _, _, a, ha => by simp at ha
  | b :: l, lo, h, a, ha => by
    obtain ⟨h1, h2, h3⟩ := h
    rcases List.mem_cons.1 ha with h4 | h4
    · subst h4
      cases l with
      | nil => simp only [Tl] at h3; right; omega
      | cons c l => left; have := h3.1; rw [this, ← h1]; simp
    · rcases Tl.next h3 a h4 with h5 | h5
      · exact .inl (List.mem_cons_of_mem _ h5)
      · exact .inr h5
/-- New objects are looked through, from one of them on. -/
theorem J.look : ∀ (f : Nat) {m : AM} {ln : List Int} {φ : Int → Option Nat} {a : Int}, J m ly ln lf N [] a N φ A → (a ∈ ln ∨ a = m.old) → m.base + m.H ≤ a + f →
    ∃ ln' φ', J (AM.look true f a m) ly ln' lf N [] (AM.look true f a m).old N φ' A ∧ Grow m (AM.look true f a m) ln ln' φ φ' ∧ (AM.look true f a m).scan = m.scan ∧ (∀ x, x < a → (AM.look true f a m).word x = m.word x)
  | 0, m, ln, φ, a, h, ha, hf => by
    have h0 := h.g.oldle
    have he : a = m.old := by
      rcases ha with h1 | h1
      · have := h.g.obd h1; omega
      · exact h1
    subst he
    exact ⟨ln, φ, h, Grow.refl .., rfl, fun _ _ => rfl⟩
  | f + 1, m, ln, φ, a, h, ha, hf => by
    by_cases hlt : a < m.old
    · have ha' : a ∈ ln := ha.resolve_right (by omega)
      have hab := h.g.obd ha'
      have h' : J m ly ln lf N (m.pl a) (a + m.size a) N φ A := ⟨h.g.weak fun t ht p hp hq => by
        rcases hq with hq | hq
        · simp at hq
        · by_cases hpa : p < a + m.size a
          · left
            have hpb := pl_bd hp
            have := h.g.same (.inr (.inl ht)) (.inr (.inl ha')) (p := p) (by omega) (by omega) hq hpa
            subst this; exact hp
          · right; omega, h.s⟩
      obtain ⟨ln1, φ1, h1, g1, s1, w1⟩ := J.fwdP (m.pl a) h' (by omega) (fun p hp => ⟨a, ha', hp⟩)
      have ho := g1.old
      have hsz : (AM.fwdP true (m.pl a) m).size a = m.size a := g1.size (.inl hlt)
      have hnext : a + m.size a ∈ ln1 ∨ a + m.size a = (AM.fwdP true (m.pl a) m).old := by
        have := Tl.next h1.g.o.tl a (g1.sub ha')
        rw [hsz] at this; exact this
      have hb1 := g1.base
      obtain ⟨ln2, φ2, h2, g2, s2, w2⟩ := J.look f h1 hnext (by rw [hb1, g1.H]; omega)
      have he : AM.look true (f + 1) a m = AM.look true f (a + m.size a) (AM.fwdP true (m.pl a) m) := by
        show (if a < m.old then _ else _) = _
        rw [if_pos hlt]
      rw [he]
      refine ⟨ln2, φ2, h2, g1.trans g2, s2.trans s1, fun x hx => (w2 x (by omega)).trans (w1 x (by omega) fun hq => ?_)⟩
      have := pl_bd hq; omega
    · have he : AM.look true (f + 1) a m = m := by
        show (if a < m.old then _ else _) = _
        rw [if_neg hlt]
      have hae : a = m.old := by
        rcases ha with h1 | h1
        · have := h.g.obd h1; omega
        · exact h1
      rw [he, ← hae]
      exact ⟨ln, φ, h, Grow.refl .., rfl, fun _ _ => rfl⟩

/-! ### What is reached -/
theorem meet_sub {m : AM} {l : List Int} {t x : Int} (h : x ∈ l) : x ∈ m.meet l t := by unfold meet; split; exact List.mem_append_left _ h; exact h
theorem meet_has {m : AM} {l : List Int} {t : Int} (h : m.isY t = true) : t ∈ m.meet l t := by
  unfold meet; split
  · simp
  · rename_i hc; rw [h] at hc; simpa using hc
theorem meet_mem {m : AM} {l : List Int} {t x : Int} (h : x ∈ m.meet l t) : x ∈ l ∨ (x = t ∧ m.isY t = true) := by
  unfold meet at h
  split at h
  · rename_i hc
    rcases List.mem_append.1 h with h | h
    · exact .inl h
    · rw [Bool.and_eq_true] at hc
      exact .inr ⟨by simpa using h, hc.1⟩
  · exact .inl h
theorem meet_nodup {m : AM} {l : List Int} {t : Int} (h : l.Nodup) : (m.meet l t).Nodup := by
  unfold meet
  split
  · rename_i hc
    rw [Bool.and_eq_true] at hc
    have hn : t ∉ l := by simpa using hc.2
    exact List.nodup_append.2 ⟨h, by simp, fun x hx y hy e => by simp at hy; subst hy; exact hn (e ▸ hx)⟩
  · exact h
theorem meet_pre (m : AM) (l : List Int) (t : Int) : ∃ k, m.meet l t = l ++ k := by unfold meet; split; exact ⟨_, rfl⟩; exact ⟨[], by simp⟩
theorem meets_pre (m : AM) : ∀ (ts l : List Int), ∃ k, ts.foldl m.meet l = l ++ k
  | [], l => ⟨[], by simp⟩
  | t :: ts, l => by
    obtain ⟨k, hk⟩ := m.meet_pre l t
    obtain ⟨k', hk'⟩ := meets_pre m ts (m.meet l t)
    exact ⟨k ++ k', by rw [List.foldl_cons, hk', hk, List.append_assoc]⟩
theorem meets_nodup (m : AM) : ∀ (ts l : List Int), l.Nodup → (ts.foldl m.meet l).Nodup
  | [], _, h => h
  | t :: ts, l, h => meets_nodup m ts _ (meet_nodup h)
theorem meets_has (m : AM) {x : Int} (hx : m.isY x = true) : ∀ (ts l : List Int), x ∈ ts → x ∈ ts.foldl m.meet l
  | [], _, h => by simp at h
  | t :: ts, l, h => by
    rcases List.mem_cons.1 h with h | h
    · subst h
      obtain ⟨k, hk⟩ := meets_pre m ts (m.meet l x)
      rw [List.foldl_cons, hk]; exact List.mem_append_left _ (meet_has hx)
    · exact meets_has m hx ts _ h
theorem meets_mem (m : AM) {x : Int} : ∀ (ts l : List Int), x ∈ ts.foldl m.meet l → x ∈ l ∨ (x ∈ ts ∧ m.isY x = true)
  | [], _, h => .inl h
  | t :: ts, l, h => by
    rcases meets_mem m ts _ h with h | ⟨h1, h2⟩
    · rcases meet_mem h with h | ⟨h1, h2⟩
      · exact .inl h
      · exact .inr ⟨by rw [h1]; exact List.mem_cons_self .., by rw [h1]; exact h2⟩
    · exact .inr ⟨List.mem_cons_of_mem _ h1, h2⟩
theorem nodup_len {l k : List Int} (hl : l.Nodup) (hs : ∀ x ∈ l, x ∈ k) : l.length ≤ k.length := by
  induction l generalizing k with
  | nil => simp
  | cons a l ih =>
    rw [List.nodup_cons] at hl
    have ha := hs a (List.mem_cons_self ..)
    have h1 := ih hl.2 (k := k.erase a) fun x hx => (List.mem_erase_of_ne (fun e => hl.1 (by rw [← e]; exact hx))).2 (hs x (List.mem_cons_of_mem _ hx))
    rw [List.length_erase_of_mem ha] at h1
    have : 0 < k.length := List.length_pos_of_mem ha
    simp only [List.length_cons]; omega
/-- The closure: all that the met objects refer to is met. -/
theorem close_spec {ly : List Int} (hy : ∀ t ∈ ly, ∀ p ∈ m.pl t, m.isY (m.word p) = true → m.word p ∈ ly) : ∀ (f i : Nat) (l : List Int), ly.length < f + i → l.Nodup → (∀ t ∈ l, t ∈ ly) → i ≤ l.length → (∀ (j : Nat) (hj : j < l.length), j < i → ∀ p ∈ m.pl l[j], m.isY (m.word p) = true → m.word p ∈ l) →
    (∃ k, m.close f i l = l ++ k) ∧ (m.close f i l).Nodup ∧ (∀ t ∈ m.close f i l, t ∈ ly) ∧ ∀ t ∈ m.close f i l, ∀ p ∈ m.pl t, m.isY (m.word p) = true → m.word p ∈ m.close f i l
  | 0, i, l, hf, hn, hs, hi, _ => by have := nodup_len hn hs; omega
  | f + 1, i, l, hf, hn, hs, hi, hc => by
    unfold close
    by_cases h : i < l.length
    · rw [dif_pos h]
      obtain ⟨k, hk⟩ := m.meets_pre ((m.pl l[i]).map m.word) l
      have hget : ∀ (j : Nat) (hj : j < l.length) (hj' : j < (((m.pl l[i]).map m.word).foldl m.meet l).length), (((m.pl l[i]).map m.word).foldl m.meet l)[j] = l[j] := fun j hj hj' => by
        have : (((m.pl l[i]).map m.word).foldl m.meet l)[j]? = l[j]? := by rw [hk, List.getElem?_append_left hj]
        rw [List.getElem?_eq_getElem hj', List.getElem?_eq_getElem hj] at this
        injection this
      have := close_spec hy f (i + 1) (((m.pl l[i]).map m.word).foldl m.meet l) (by omega) (meets_nodup m _ _ hn) (fun t ht => by
          rcases meets_mem m _ _ ht with h1 | ⟨h1, h2⟩
          · exact hs t h1
          · obtain ⟨p, hp, rfl⟩ := List.mem_map.1 h1
            exact hy _ (hs _ (List.getElem_mem h)) p hp h2) (by rw [hk, List.length_append]; omega) (fun j hj hji p hp hY => by
          rcases Nat.lt_or_ge j i with h1 | h1
          · have hjl : j < l.length := by omega
            rw [hget j hjl] at hp
            have := hc j hjl h1 p hp hY
            rw [hk]; exact List.mem_append_left _ this
          · have hji' : j = i := by omega
            subst hji'
            rw [hget j h] at hp
            exact meets_has m hY _ _ (List.mem_map.2 ⟨p, hp, rfl⟩))
      obtain ⟨⟨k2, hk2⟩, h2, h3, h4⟩ := this
      exact ⟨⟨k ++ k2, by rw [hk2, hk, List.append_assoc]⟩, h2, h3, h4⟩
    · rw [dif_neg h]
      refine ⟨⟨[], by simp⟩, hn, hs, fun t ht p hp hY => ?_⟩
      obtain ⟨j, hj, rfl⟩ := List.getElem_of_mem ht
      exact hc j hj (by omega) p hp hY
end
end AM
end Go.Hm
namespace Go.Hm
namespace AM
/-- All is in order. -/
structure Good (m : AM) (ly ln lf : List Int) (φ : Int → Option Nat) (A : Store) : Prop where
  g : Gd m ly ln lf ly m.remP (m.base + m.H) []
  s : Sim m ly ln lf φ A
  ym : ∀ t, m.moved t ≠ 0 → t ∈ lf
  rm : ∀ k ∈ m.rem, k.1 ∈ ln ∧ ∃ j : Nat, k.2 = j ∧ (m.row k.1)[j]? = some true
  rn : m.rem.Nodup
section
variable {m : AM} {ly ln lf N rl rs : List Int} {sp a : Int} {φ : Int → Option Nat} {A : Store}
theorem Tl.split {sz : Int → Int} {hi : Int} : ∀ {l : List Int} {lo : Int} {k : List Int}, Tl sz lo hi (l ++ k) → ∃ mid, Tl sz lo mid l ∧ Tl sz mid hi k
  | [], lo, k, h => ⟨lo, rfl, h⟩
  | a :: l, lo, k, h => by
    obtain ⟨h1, h2, h3⟩ := h
    obtain ⟨mid, h4, h5⟩ := Tl.split h3
    exact ⟨mid, ⟨h1, h2, h4⟩, h5⟩
theorem Grow.at_old {m m' : AM} {ly ln ln' lf N rl rs rl' rs' N' : List Int} {sp sp' : Int} {φ φ' : Int → Option Nat} (h : Gd m ly ln lf N rl sp rs) (h' : Gd m' ly ln' lf N' rl' sp' rs') (g : Grow m m' ln ln' φ φ') : m.old ∈ ln' ∨ m.old = m'.old := by
  obtain ⟨k, hk⟩ := g.ln
  have h1 := h'.o.tl
  rw [hk] at h1
  obtain ⟨mid, h2, h3⟩ := Tl.split h1
  have h4 : Tl m.size m.base mid ln := by
    rw [g.base] at h2
    exact h2.congr fun t ht => (g.size (.inl (by have := h.obd ht; omega))).symm
  have h5 := h4.sum
  have h6 := h.o.tl.sum
  have : mid = m.old := by omega
  subst this
  cases k with
  | nil => simp only [Tl] at h3; exact .inr h3
  | cons b k => left; rw [hk, h3.1]; simp
theorem Good.word_y (h : Good m ly ln lf φ A) {t p : Int} (ht : t ∈ ly) (hp : p ∈ m.pl t) (hY : m.isY (m.word p) = true) : m.word p ∈ ly := by
  rcases h.g.wy t ht p hp with g | g | g
  · rw [h.g.isYn (.inl g)] at hY; cases hY
  · exact g
  · rw [h.g.isYn (.inr (.inl g))] at hY; cases hY
theorem Good.root_y (h : Good m ly ln lf φ A) {r : Int} (hr : r = 0 ∨ r ∈ ly ∨ r ∈ ln) (hY : m.isY r = true) : r ∈ ly := by
  rcases hr with g | g | g
  · rw [h.g.isYn (.inl g)] at hY; cases hY
  · exact g
  · rw [h.g.isYn (.inr (.inl g))] at hY; cases hY
theorem Good.remP_mem (h : Good m ly ln lf φ A) {p : Int} (hp : p ∈ m.remP) : ∃ t ∈ ln, p ∈ m.pl t := by
  obtain ⟨k, hk, rfl⟩ := List.mem_map.1 hp
  obtain ⟨h1, j, h2, h3⟩ := h.rm k hk
  exact ⟨k.1, h1, mem_pl.2 ⟨j, h3, by rw [h2]⟩⟩
theorem Good.rem_y (h : Good m ly ln lf φ A) {p : Int} (hp : p ∈ m.remP) (hY : m.isY (m.word p) = true) : m.word p ∈ ly := by
  obtain ⟨t, ht, hp'⟩ := h.remP_mem hp
  rcases h.g.wo t ht p hp' with g | g | g | g
  · rw [h.g.isYn (.inl g)] at hY; cases hY
  · rw [h.g.isYn (.inr (.inl g))] at hY; cases hY
  · exact g.1
  · rw [h.g.isYn (.inr (.inr g.1))] at hY; cases hY
theorem Good.ylen (h : Good m ly ln lf φ A) : ly.length ≤ m.Y.toNat := by
  have h1 : (ly.length : Int) ≤ AM.sum m.size ly := by
    have : ∀ l : List Int, (l.length : Int) ≤ AM.sum m.size l := by
      intro l
      induction l with
      | nil => simp [AM.sum]
      | cons a l ih => rw [sum_cons]; have := m.size_pos a; simp only [List.length_cons]; omega
    exact this ly
  have h2 := h.g.y.tl.sum
  have := h.g.yl
  omega
structure Reach (m : AM) (ly : List Int) (roots N : List Int) : Prop where
  nd : N.Nodup
  sub : ∀ t ∈ N, t ∈ ly
  cl : ∀ t ∈ N, ∀ p ∈ m.pl t, m.isY (m.word p) = true → m.word p ∈ N
  ro : ∀ r ∈ roots, m.isY r = true → r ∈ N
  re : ∀ p ∈ m.remP, m.isY (m.word p) = true → m.word p ∈ N
theorem Good.reach (h : Good m ly ln lf φ A) {roots : List Int} (hr : ∀ r ∈ roots, r = 0 ∨ r ∈ ly ∨ r ∈ ln) : Reach m ly roots (m.reach roots) := by
  have hl := h.ylen
  have hn1 := meets_nodup m roots [] List.nodup_nil
  have hn2 := meets_nodup m (m.remP.map m.word) _ hn1
  obtain ⟨⟨k, hk⟩, h2, h3, h4⟩ := close_spec (m := m) (ly := ly) (fun t ht p hp hY => h.word_y ht hp hY) (m.Y.toNat + 1) 0 ((m.remP.map m.word).foldl m.meet (roots.foldl m.meet [])) (by omega) hn2 (fun t ht => by
    rcases meets_mem m _ _ ht with g | ⟨g, g2⟩
    · rcases meets_mem m _ _ g with g | ⟨g, g2⟩
      · simp at g
      · exact h.root_y (hr t g) g2
    · obtain ⟨p, hp, rfl⟩ := List.mem_map.1 g
      exact h.rem_y hp g2) (by omega) (fun j hj hj0 => by omega)
  refine ⟨h2, h3, h4, fun r hr' hY => ?_, fun p hp hY => ?_⟩
  · unfold AM.reach; rw [hk]
    obtain ⟨k2, hk2⟩ := m.meets_pre (m.remP.map m.word) (roots.foldl m.meet [])
    rw [hk2]
    exact List.mem_append_left _ (List.mem_append_left _ (meets_has m hY _ _ hr'))
  · unfold AM.reach; rw [hk]
    exact List.mem_append_left _ (meets_has m hY _ _ (List.mem_map.2 ⟨p, hp, rfl⟩))
theorem Good.usum_reach (h : Good m ly ln lf φ A) {roots N : List Int} (hN : Reach m ly roots N) : m.usum N = AM.sum m.size N :=
  sum_congr fun a ha => by
    unfold us
    rw [if_pos]
    by_cases hm : m.moved a = 0
    · exact hm
    · exact absurd (hN.sub a ha) (h.g.fy (h.ym a hm))
/-- Before Minor. -/
theorem Good.start (h : Good m ly ln lf φ A) {roots N : List Int} (hN : Reach m ly roots N) (hroom : AM.sum m.size N ≤ m.base + m.H - m.old - m.left) : J m ly ln lf N m.remP m.old N φ A := by
  have h0 := h.g.oldle
  refine ⟨⟨h.g.sz, h.g.y, h.g.yl, h.g.o, h.g.f, h.g.hn, h.g.nb, h.g.left, ?_, h.g.sc, fun t ht => ?_, h.g.mi, h.g.wy, fun t ht p hp hw => ?_, hN.sub, hN.nd, fun t ht p hp => ?_, h.g.wf, h.g.fz⟩, h.s⟩
  · rw [h.usum_reach hN]; omega
  · obtain ⟨h1, h2, h3⟩ := h.g.mv t ht
    exact ⟨.inr (h.ym t ht), h2, h3⟩
  · exact hN.cl t ht p hp (by rw [isY_iff']; have := h.g.ybd hw; have := h.g.yl; omega)
  · rcases h.g.wo t ht p hp with g | g | ⟨g, g2⟩ | g
    · exact .inl g
    · exact .inr (.inl g)
    · have hpb := pl_bd hp
      have := h.g.obd ht
      have hpr : p ∈ m.remP := g2.resolve_right (by omega)
      exact .inr (.inr (.inl ⟨hN.re p hpr (by rw [isY_iff']; have := h.g.ybd g; have := h.g.yl; omega), .inl hpr⟩))
    · exact .inr (.inr (.inr g))
/-- The young space is emptied. -/
def young0 (m : AM) : AM := { m.clear 1 m.Y with new := 1, rem := [] }
theorem clear_other {m : AM} {lo n x : Int} (h : x < lo ∨ lo + n ≤ x) : (m.clear lo n).word x = m.word x ∧ (m.clear lo n).head x = m.head x ∧ (m.clear lo n).moved x = m.moved x := by
  have : ¬ ((decide (lo ≤ x) && decide (x < lo + n)) = true) := by simp; omega
  refine ⟨if_neg this, if_neg this, if_neg this⟩
theorem clear_in {m : AM} {lo n x : Int} (h : lo ≤ x) (h' : x < lo + n) : (m.clear lo n).word x = 0 ∧ (m.clear lo n).head x = 0 ∧ (m.clear lo n).moved x = 0 := by
  have : ((decide (lo ≤ x) && decide (x < lo + n)) = true) := by simp; omega
  refine ⟨if_pos this, if_pos this, if_pos this⟩
theorem J.young0 (h : J m ly ln lf N [] m.old N φ A) (hb : ∀ t, m.moved t ≠ 0 → t ∈ ly ∨ t ∈ lf) : Good m.young0 [] ln lf (fun t => if t ∈ ly then none else φ t) A := by
  have h0 := h.g.oldle; have hb' := m.base_former; have hY := h.g.sz.Y0; have hH := h.g.sz.H0
  have hout : ∀ {t p : Int}, t ∈ ln ∨ t ∈ lf → t ≤ p → p < t + m.size t → p < 1 ∨ 1 + m.Y ≤ p := fun {t p} ht h1 h2 => by
    rcases ht with ht | ht
    · have := h.g.obd ht; omega
    · have := h.g.fbd ht; omega
  have hrow : ∀ {t : Int}, t ∈ ln ∨ t ∈ lf → m.young0.row t = m.row t := fun {t} ht => by
    show m.sh.getD ((m.clear 1 m.Y).head t - 1).toNat [] = _
    rw [(clear_other (hout ht (Int.le_refl _) (by have := m.size_pos t; omega))).2.1]; rfl
  have hsz : ∀ {t : Int}, t ∈ ln ∨ t ∈ lf → m.young0.size t = m.size t := fun {t} ht => by unfold size; rw [hrow ht]
  have hpl : ∀ {t : Int}, t ∈ ln ∨ t ∈ lf → m.young0.pl t = m.pl t := fun {t} ht => by unfold pl; rw [hrow ht]
  have hhd : ∀ {t : Int}, t ∈ ln ∨ t ∈ lf → m.young0.head t = m.head t := fun {t} ht => (clear_other (hout ht (Int.le_refl _) (by have := m.size_pos t; omega))).2.1
  have hmv : ∀ {t : Int}, t ∈ ln ∨ t ∈ lf → m.young0.moved t = m.moved t := fun {t} ht => (clear_other (hout ht (Int.le_refl _) (by have := m.size_pos t; omega))).2.2
  have hwd : ∀ {t p : Int}, t ∈ ln ∨ t ∈ lf → p ∈ m.pl t → m.young0.word p = m.word p := fun {t p} ht hp => (clear_other (hout ht (by have := pl_bd hp; omega) (pl_bd hp).2)).1
  have hgt : ∀ x, x < 1 ∨ 1 + m.Y ≤ x → m.young0.head x = m.head x ∧ m.young0.moved x = m.moved x := fun x hx => ⟨(clear_other hx).2.1, (clear_other hx).2.2⟩
  have hmz : ∀ t, m.young0.moved t ≠ 0 → t ∈ lf ∧ m.young0.moved t = m.moved t := fun t ht => by
    by_cases hin : 1 ≤ t ∧ t < 1 + m.Y
    · exact absurd (clear_in hin.1 hin.2).2.2 ht
    · have he := (hgt t (by omega)).2
      rw [he] at ht
      refine ⟨?_, he⟩
      rcases hb t ht with h1 | h1
      · have := h.g.ybd h1; have := h.g.yl; omega
      · exact h1
  have hwo : ∀ t ∈ ln, ∀ p ∈ m.pl t, m.word p = 0 ∨ m.word p ∈ ln ∨ (m.word p ∈ lf ∧ m.scan ≤ p) := fun t ht p hp => by
    rcases h.g.wo t ht p hp with g | g | ⟨g, g2⟩ | g
    · exact .inl g
    · exact .inr (.inl g)
    · have := pl_bd hp; have := h.g.obd ht
      rcases g2 with g2 | g2
      · simp at g2
      · omega
    · exact .inr (.inr g)
  obtain ⟨fe, hf1, hf2⟩ := h.g.f
  have hny : ∀ {w : Int}, w = 0 ∨ w ∈ ln ∨ w ∈ lf → w ∉ ly := fun {w} hw hy => by
    rcases hw with g | g | g
    · rw [g] at hy; exact h.g.notY0.1 hy
    · exact h.g.oy g hy
    · exact h.g.fy g hy
  have hVr : ∀ {w x : Int}, V φ w x → w ∉ ly → V (fun t => if t ∈ ly then none else φ t) w x := fun {w x} hv hw => by
    rcases hv with hv | ⟨j, h1, h2⟩
    · exact .inl hv
    · exact .inr ⟨j, by show (if w ∈ ly then none else φ w) = some j; rw [if_neg hw]; exact h1, h2⟩
  refine ⟨⟨⟨h.g.sz.Y0, h.g.sz.Y1, h.g.sz.H0, h.g.sz.H1, h.g.sz.n, h.g.sz.w⟩, ⟨rfl, fun t h1 h2 => ?_, fun t ht => by simp at ht⟩, by show (1 : Int) ≤ m.Y + 1; omega, ⟨?_, fun t h1 h2 => ?_, fun t ht => ?_⟩, ⟨fe, hf1, ?_, fun t h1 h2 => ?_, fun t ht => ?_⟩, fun t => ?_, h.g.nb, ?_, ?_, h.g.sc, fun t ht => ?_, fun t t' he ht => ?_, fun t ht => by simp at ht, fun t ht => by simp at ht, fun t ht => by simp at ht, List.nodup_nil, fun t ht p hp => ?_, fun t ht p hp => ?_, fun t h1 h2 => ?_⟩, ⟨fun t i hi => ?_, fun t i hi => ?_, fun t i hi hm => ?_, fun t t' i hi hi' hm hm' => ?_⟩, fun t ht => (hmz t ht).1, fun k hk => by simp [AM.young0] at hk, List.nodup_nil⟩
  · have h2' : t ≤ m.Y := h2
    have : m.young0.head t = 0 := (clear_in (m := m) (lo := 1) (n := m.Y) h1 (by omega)).2.1
    rw [this]; simp
  · exact h.g.o.tl.congr fun t ht => hsz (.inl ht)
  · have h1' : m.base ≤ t := h1
    rw [(hgt t (by omega)).1]; exact h.g.o.hd t h1 h2
  · rw [hhd (.inl ht)]; exact h.g.o.ok t ht
  · exact hf2.tl.congr fun t ht => hsz (.inr ht)
  · have h1' : m.former ≤ t := h1
    rw [(hgt t (by omega)).1]; exact hf2.hd t h1 h2
  · rw [hhd (.inr ht)]; exact hf2.ok t ht
  · by_cases hin : 1 ≤ t ∧ t < 1 + m.Y
    · rw [show m.young0.head t = 0 from (clear_in hin.1 hin.2).2.1]; omega
    · rw [(hgt t (by omega)).1]; exact h.g.hn t
  · show m.left = _
    rw [h.g.left]
    exact (sum_congr fun a ha => by unfold us; rw [hmv (.inr ha), hsz (.inr ha)]).symm
  · show m.old + m.left + AM.usum _ [] ≤ m.base + m.H
    have : m.young0.usum [] = 0 := rfl
    rw [this]; omega
  · obtain ⟨h1, h2⟩ := hmz t ht
    rw [h2] at ht ⊢
    obtain ⟨_, h4, h5⟩ := h.g.mv t ht
    exact ⟨.inr h1, h4, by rw [hhd (.inl h4), hhd (.inr h1)]; exact h5⟩
  · obtain ⟨h1, h2⟩ := hmz t ht
    have ht2 := ht
    rw [he] at ht2
    obtain ⟨h3, h4⟩ := hmz t' ht2
    rw [h2] at he ht
    rw [h4] at he
    exact h.g.mi t t' he ht
  · rw [hpl (.inl ht)] at hp
    rw [hwd (.inl ht) hp]
    rcases hwo t ht p hp with g | g | g
    · exact .inl g
    · exact .inr (.inl g)
    · exact .inr (.inr (.inr g))
  · rw [hpl (.inr ht)] at hp
    rw [hwd (.inr ht) hp]
    exact h.g.wf t ht p hp
  · have h1' : (1 : Int) ≤ t := h1
    have h2' : t ≤ m.Y := h2
    exact (clear_in (m := m) (lo := 1) (n := m.Y) h1 (by omega)).1
  · by_cases hty : t ∈ ly
    · rw [if_pos hty] at hi; cases hi
    · rw [if_neg hty] at hi
      rcases h.s.dom t i hi with g | g
      · exact absurd g hty
      · exact .inr g
  · by_cases hty : t ∈ ly
    · rw [if_pos hty] at hi; cases hi
    · rw [if_neg hty] at hi
      have hd := (h.s.dom t i hi).resolve_left hty
      obtain ⟨fs, h1, h2, h3⟩ := h.s.shp t i hi
      refine ⟨fs, by rw [hhd hd]; exact h1, by rw [hrow hd]; exact h2, fun hm k hk => ?_⟩
      rw [hmv hd] at hm
      have h4 := h3 hm k hk
      have hkw : m.young0.word (t + 1 + k) = m.word (t + 1 + k) := (clear_other (hout hd (by omega) (by unfold size; omega))).1
      rw [hrow hd, hkw]
      split
      · rename_i hr
        rw [if_pos hr] at h4
        refine hVr h4 ?_
        have hkl : k < (m.row t).length := by omega
        have hp : t + 1 + (k : Int) ∈ m.pl t := mem_pl.2 ⟨k, by rw [List.getElem?_eq_getElem hkl]; simpa [List.getD_eq_getElem?_getD, hkl] using hr, rfl⟩
        rcases hd with hd | hd
        · exact hny (by rcases hwo t hd _ hp with g | g | g; exact .inl g; exact .inr (.inl g); exact .inr (.inr g.1))
        · exact hny (by rcases h.g.wf t hd _ hp with g | g; exact .inl g; exact .inr (.inr g))
      · rename_i hr; rw [if_neg hr] at h4; exact h4
  · by_cases hty : t ∈ ly
    · rw [if_pos hty] at hi; cases hi
    · rw [if_neg hty] at hi
      obtain ⟨h1, h2⟩ := hmz t hm
      rw [h2] at hm ⊢
      rw [if_neg (h.g.oy (h.g.mv t hm).2.1)]
      exact h.s.mvd t i hi hm
  · by_cases hty : t ∈ ly
    · rw [if_pos hty] at hi; cases hi
    · by_cases hty' : t' ∈ ly
      · rw [if_pos hty'] at hi'; cases hi'
      · rw [if_neg hty] at hi
        rw [if_neg hty'] at hi'
        have hd := (h.s.dom t i hi).resolve_left hty
        have hd' := (h.s.dom t' i hi').resolve_left hty'
        rw [hmv hd] at hm
        rw [hmv hd'] at hm'
        exact h.s.inj t t' i hi hi' hm hm'
/-- What holds of roots behind something. -/
def Roots (ln : List Int) (φ φ' : Int → Option Nat) (a b : List Int) : Prop := b.length = a.length ∧ ∀ i (h : i < a.length) (h' : i < b.length), (b[i] = 0 ∨ b[i] ∈ ln) ∧ ∀ x, V φ a[i] x → V φ' b[i] x
theorem Good.minorRun (h : Good m ly ln lf φ A) {roots : List Int} (hr : ∀ r ∈ roots, r = 0 ∨ r ∈ ly ∨ r ∈ ln) (hroom : m.needed roots ≤ m.base + m.H - m.old - m.left) :
    ∃ ln' φ', Good (m.minorRun roots).2 [] ln' lf φ' A ∧ Roots ln' φ φ' roots (m.minorRun roots).1 ∧ (m.minorRun roots).2.sh = m.sh ∧ (m.minorRun roots).2.Y = m.Y ∧ (m.minorRun roots).2.H = m.H ∧ (m.minorRun roots).2.up = m.up ∧ (m.minorRun roots).2.busy = m.busy ∧
      (m.minorRun roots).2.new = 1 ∧ m.old ≤ (m.minorRun roots).2.old ∧ (m.minorRun roots).2.scan = m.scan := by
  have hN := h.reach hr
  have hJ := h.start hN hroom
  have h0 := h.g.oldle
  obtain ⟨ln1, φ1, h1, g1, s1, w1, len1, r1⟩ := hJ.fwdL true roots (fun _ => ⟨rfl, Int.le_refl _⟩) (fun hq => by cases hq) (fun v hv ho => hN.ro v hv ho)
  have ho1 := g1.old
  obtain ⟨ln2, φ2, h2, g2, s2, w2⟩ := J.fwdP m.remP h1 ho1 (fun p hp => by
    obtain ⟨t, ht, hp'⟩ := h.remP_mem hp
    exact ⟨t, g1.sub ht, by rw [g1.pl (.inl (by have := h.g.obd ht; omega))]; exact hp'⟩)
  have g12 := g1.trans g2
  obtain ⟨ln3, φ3, h3, g3, s3, w3⟩ := J.look m.H.toNat h2 (Grow.at_old h.g h2.g g12) (by rw [g12.base, g12.H]; have := h.g.sz.H0; omega)
  have g13 := g12.trans g3
  have hG := h3.young0 (fun t ht => ((h3.g.mv t ht).1).imp (h3.g.NY t) id)
  have he : (m.minorRun roots).2 = (AM.look true m.H.toNat m.old (AM.fwdP true m.remP (AM.fwdL true roots m).2)).young0 := rfl
  refine ⟨ln3, fun t => if t ∈ ly then none else φ3 t, by rw [he]; exact hG, ⟨len1, fun i hi hi' => ?_⟩, g13.sh, g13.Y, g13.H, g13.up, g13.busy, rfl, g13.old, s3.trans (s2.trans s1)⟩
  obtain ⟨r2, r3⟩ := r1 i hi hi'
  have hri := hr _ (List.getElem_mem hi)
  have hb : (AM.fwdL true roots m).1[i] = 0 ∨ (AM.fwdL true roots m).1[i] ∈ ln3 := by
    by_cases ho : m.ours true roots[i] = true
    · rw [if_pos ho] at r2; exact .inr (g3.sub (g2.sub r2))
    · rw [if_neg ho] at r2
      rw [r2]
      rcases hri with g | g | g
      · exact .inl g
      · exfalso; apply ho; show m.isY _ = true; rw [isY_iff']; have := h.g.ybd g; have := h.g.yl; omega
      · exact .inr (g13.sub g)
  refine ⟨hb, fun x hx => ?_⟩
  have hv := (r3 x hx).mono (g2.le.trans g3.le)
  have hny : (AM.fwdL true roots m).1[i] ∉ ly := fun hy => by
    rcases hb with g | g
    · rw [g] at hy; exact h.g.notY0.1 hy
    · exact h3.g.oy g hy
  rcases hv with hv | ⟨j, e1, e2⟩
  · exact .inl hv
  · exact .inr ⟨j, by show (if (AM.fwdL true roots m).1[i] ∈ ly then none else φ3 (AM.fwdL true roots m).1[i]) = some j; rw [if_neg hny]; exact e1, e2⟩
end
end AM
end Go.Hm
namespace Go.Hm
namespace AM
section
variable {m : AM} {ly ln lf N rl rs : List Int} {sp a : Int} {φ : Int → Option Nat} {A : Store}
theorem turn_base (m : AM) : m.turn.base = m.former := by unfold turn base former; cases m.up <;> rfl
theorem turn_former (m : AM) : m.turn.former = m.base := by unfold turn base former; cases m.up <;> rfl
theorem turn_old (m : AM) : m.turn.old = m.former := by unfold turn base former; cases m.up <;> rfl
theorem turn_scan (m : AM) : m.turn.scan = m.former := by unfold turn base former; cases m.up <;> rfl
theorem Good.turn (h : Good m [] ln [] φ A) (hr : m.rem = []) : Good m.turn [] [] ln φ A := by
  have h0 := h.g.oldle
  obtain ⟨fe, hf1, hf2⟩ := h.g.f
  have hm0 : ∀ t, m.moved t = 0 := fun t => by
    by_cases hm : m.moved t = 0
    · exact hm
    · have := h.ym t hm; simp at this
  have hleft : m.left = 0 := h.g.left
  have hb := m.turn_base; have hf := m.turn_former; have ho := m.turn_old; have hs := m.turn_scan
  have hwf : ∀ t ∈ ln, ∀ p ∈ m.pl t, m.word p = 0 ∨ m.word p ∈ ln := fun t ht p hp => by
    rcases h.g.wo t ht p hp with g | g | g | g
    · exact .inl g
    · exact .inr g
    · have := g.1; simp at this
    · have := g.1; simp at this
  refine ⟨⟨⟨h.g.sz.Y0, h.g.sz.Y1, h.g.sz.H0, h.g.sz.H1, h.g.sz.n, h.g.sz.w⟩, ⟨h.g.y.tl, h.g.y.hd, fun t ht => by simp at ht⟩, h.g.yl, ⟨?_, fun t h1 h2 => ?_, fun t ht => by simp at ht⟩, ⟨m.old, ?_, ?_, ?_, h.g.o.ok⟩, h.g.hn, fun hq => ?_, ?_, ?_, fun _ => ?_, fun t ht => absurd (hm0 t) ht, fun t t' _ ht => absurd (hm0 t) ht, fun t ht => by simp at ht, fun t ht => by simp at ht, fun t ht => by simp at ht, List.nodup_nil, fun t ht => by simp at ht, hwf, h.g.fz⟩, ⟨fun t i hi => ?_, h.s.shp, h.s.mvd, h.s.inj⟩, fun t ht => absurd (hm0 t) ht, fun k hk => ?_, ?_⟩
  · rw [hb, ho]; rfl
  · rw [hb] at h1 h2
    have h2' : t ≤ m.former + m.H - 1 := h2
    by_cases hlt : fe ≤ t
    · exact hf2.hd t h1 h2'
    · exact hf2.hd t h1 h2'
  · rw [hf]; show m.old ≤ m.base + m.H; omega
  · rw [hf]; exact h.g.o.tl
  · rw [hf]; exact h.g.o.hd
  · have hq' : (true : Bool) = false := hq
    cases hq'
  · show m.old - m.base = _
    have h1 := h.g.o.tl.sum
    have h2 : m.turn.usum ln = AM.sum m.size ln := sum_congr fun a _ => by unfold us; exact if_pos (hm0 a)
    rw [h2, h1]
  · rw [ho, hb]
    show m.former + (m.old - m.base) + 0 ≤ m.former + m.H
    omega
  · rw [hb, hs, ho]; omega
  · rcases h.s.dom t i hi with g | g | g
    · simp at g
    · exact .inr (.inr g)
    · simp at g
  · have hk' : k ∈ m.rem := hk
    rw [hr] at hk'; simp at hk'
  · show m.rem.Nodup
    rw [hr]; exact List.nodup_nil
theorem rooted_ok {roots : List Int} (hr : m.rooted roots = 0) : roots.length ≤ 200 ∧ ∀ r ∈ roots, r = 0 ∨ m.cur r = true := by
  unfold rooted at hr
  split at hr
  · cases hr
  · rename_i h1
    split at hr
    · cases hr
    · rename_i h2
      refine ⟨by simp at h1; omega, fun r hr' => ?_⟩
      simp only [List.any_eq_true, not_exists, not_and] at h2
      have := h2 r hr'
      unfold bad at this
      by_cases h0 : r = 0
      · exact .inl h0
      · right
        simp [h0] at this; exact this
theorem Good.rooted (h : Good m ly ln lf φ A) {roots : List Int} (hr : m.rooted roots = 0) : ∀ r ∈ roots, r = 0 ∨ r ∈ ly ∨ r ∈ ln := fun r hr' => ((rooted_ok hr).2 r hr').imp id fun hc => h.g.cur_iff.1 hc
theorem minorErr_ok {roots : List Int} (he : m.minorErr roots = 0) : m.rooted roots = 0 ∧ m.needed roots ≤ m.base + m.H - m.old - m.left := by
  unfold minorErr at he
  split at he
  · rename_i h1; exact absurd he h1
  · rename_i h1
    split at he
    · cases he
    · rename_i h2; exact ⟨by simpa using h1, by omega⟩
/-- Behind a Minor that is done. -/
theorem Good.minor (h : Good m ly ln lf φ A) {roots : List Int} (he : m.minorErr roots = 0) :
    ∃ ln' φ', Good (m.minor roots).2.2 [] ln' lf φ' A ∧ Roots ln' φ φ' roots (m.minor roots).1 ∧ (m.minor roots).2.2.sh = m.sh ∧ (m.minor roots).2.2.Y = m.Y ∧ (m.minor roots).2.2.H = m.H ∧ (m.minor roots).2.2.up = m.up ∧ (m.minor roots).2.2.busy = m.busy ∧
      (m.minor roots).2.2.new = 1 ∧ m.old ≤ (m.minor roots).2.2.old ∧ (m.minor roots).2.2.scan = m.scan := by
  obtain ⟨h1, h2⟩ := minorErr_ok he
  have := h.minorRun (h.rooted h1) h2
  unfold AM.minor
  rw [if_neg (by rw [he]; simp)]
  exact this
theorem minor_rem {roots : List Int} (he : m.minorErr roots = 0) : (m.minor roots).2.2.rem = [] := by
  unfold AM.minor; rw [if_neg (by rw [he]; simp)]; rfl
theorem minor_err {roots : List Int} (he : m.minorErr roots = 0) : (m.minor roots).2.1 = 0 := by
  unfold AM.minor; rw [if_neg (by rw [he]; simp)]
theorem minor_no {roots : List Int} (he : m.minorErr roots ≠ 0) : m.minor roots = ([], m.minorErr roots, m) := by
  unfold AM.minor; rw [if_pos he]
theorem Good.flip (h : Good m ly ln lf φ A) (hb : m.busy = false) {roots : List Int} (he : m.minorErr roots = 0) :
    ∃ ln' lf' φ', Good (m.flip roots).2.2 [] ln' lf' φ' A ∧ Roots ln' φ φ' roots (m.flip roots).1 ∧ (m.flip roots).2.1 = 0 ∧ (m.flip roots).2.2.sh = m.sh ∧ (m.flip roots).2.2.Y = m.Y ∧ (m.flip roots).2.2.H = m.H ∧ (m.flip roots).2.2.busy = true ∧ (m.flip roots).2.2.new = 1 := by
  obtain ⟨ln1, φ1, g1, ⟨r1, r2⟩, s1, s2, s3, s4, s5, s6, s7, s8⟩ := h.minor he
  have hlf : lf = [] := h.g.nb hb
  subst hlf
  have hrem := minor_rem he
  have hT := g1.turn hrem
  have hrl : (m.minor roots).2.2.turn.remP = [] := by unfold remP; show List.map _ (m.minor roots).2.2.rem = []; rw [hrem]; rfl
  have hg := hT.g
  obtain ⟨ln2, φ2, j2, q2, e2, w2, l2, p2⟩ := J.fwdL (A := A) (φ := φ1) false (m.minor roots).1 ⟨hg, hT.s⟩ (fun hq => by cases hq) (fun _ => rfl) (fun v hv ho => by
    obtain ⟨i, hi, rfl⟩ := List.getElem_of_mem hv
    have hF : (m.minor roots).2.2.turn.isF (m.minor roots).1[i] = true := ho
    rcases (r2 i (by omega) hi).1 with g | g
    · rw [hg.isFn (.inl g)] at hF; cases hF
    · simpa using g)
  have hfe : m.flip roots = ((AM.fwdL false (m.minor roots).1 (m.minor roots).2.2.turn).1, 0, (AM.fwdL false (m.minor roots).1 (m.minor roots).2.2.turn).2) := by
    unfold AM.flip
    rw [if_neg (by rw [hb]; simp)]
    simp only
    rw [if_neg (by rw [minor_err he]; simp)]
  rw [hfe]
  have hrem2 : (AM.fwdL false (m.minor roots).1 (m.minor roots).2.2.turn).2.rem = [] := q2.rem.trans hrem
  refine ⟨ln2, ln1, φ2, ⟨?_, j2.s, fun t ht => ?_, fun k hk => ?_, ?_⟩, ⟨l2.trans r1, fun i hi hi' => ?_⟩, rfl, q2.sh.trans s1, q2.Y.trans s2, q2.H.trans s3, q2.busy, q2.new.trans s6⟩
  · have : (AM.fwdL false (m.minor roots).1 (m.minor roots).2.2.turn).2.remP = [] := by unfold remP; rw [hrem2]; rfl
    rw [this, q2.base, q2.H]
    rw [hrl] at j2
    exact j2.g
  · exact ((j2.g.mv t ht).1).resolve_left (by simp)
  · simp only [hrem2] at hk; simp at hk
  · simp only [hrem2]; exact List.nodup_nil
  · obtain ⟨a1, a2⟩ := r2 i hi (by omega)
    obtain ⟨a3, a4⟩ := p2 i (by omega) hi'
    refine ⟨?_, fun x hx => a4 x (a2 x hx)⟩
    by_cases ho : (m.minor roots).2.2.turn.ours false (m.minor roots).1[i] = true
    · rw [if_pos ho] at a3; exact .inr a3
    · rw [if_neg ho] at a3
      rcases a1 with g | g
      · left; rw [a3]; exact g
      · exact absurd (ours_of (y := false) (N := []) hg (by simpa using g)) ho

/-! ### Step -/
theorem obj_at : ∀ (k : Nat) {t : Int}, (∀ x, t < x → x ≤ t + k → m.head x = 0) → m.head t ≠ 0 → ∀ f, k ≤ f → m.obj f (t + k) = t
  | 0, t, _, h, f, _ => by
    cases f with
    | zero => simp [obj]
    | succ f => unfold obj; rw [if_neg (by simpa using h)]; simp
  | k + 1, t, hz, h, f, hf => by
    obtain ⟨f, rfl⟩ : ∃ g, f = g + 1 := ⟨f - 1, by omega⟩
    unfold obj
    rw [if_pos (hz _ (by omega) (by omega)), show t + ((k + 1 : Nat) : Int) - 1 = t + (k : Nat) by omega]
    exact obj_at k (fun x h1 h2 => hz x h1 (by omega)) h f (by omega)
theorem Gd.inner (h : Gd m ly ln lf N rl sp rs) {t x : Int} (ht : t ∈ ln) (h1 : t < x) (h2 : x < t + m.size t) : m.head x = 0 := by
  have hn := h.hn x
  have := h.obd ht; have := h.oldle
  by_cases hp : 0 < m.head x
  · have hx := (h.o.hd x (by omega) (by omega)).1 hp
    have := h.o.tl.inside ht hx (by omega) h2
    omega
  · omega
/-- The object in which the scanned word lies. -/
theorem Gd.scanned (h : Gd m ly ln lf N rl sp rs) (h1 : m.base ≤ m.scan) (h2 : m.scan < m.old) : ∃ a ∈ ln, a ≤ m.scan ∧ m.scan < a + m.size a ∧ m.obj m.H.toNat m.scan = a ∧ (m.isRef m.scan = true ↔ m.scan ∈ m.pl a) := by
  obtain ⟨a, ha, h3, h4⟩ := h.o.tl.cover m.scan h1 h2
  have hab := h.obd ha; have h0 := h.oldle; have hH := h.sz.H0
  have ho : m.obj m.H.toNat m.scan = a := by
    have := obj_at (m := m) (m.scan - a).toNat (t := a) (fun x g1 g2 => h.inner ha g1 (by omega)) (by have := h.ohead ha; omega) m.H.toNat (by omega)
    rw [show a + ((m.scan - a).toNat : Int) = m.scan by omega] at this; exact this
  refine ⟨a, ha, h3, h4, ho, ?_⟩
  unfold isRef
  rw [ho]
  simp only [Bool.and_eq_true, decide_eq_true_eq]
  rw [mem_pl]
  constructor
  · rintro ⟨g1, g2⟩
    have hl : (m.scan - a - 1).toNat < (m.row a).length := by unfold AM.size at h4; omega
    unfold ref at g2
    obtain ⟨k, hk⟩ : ∃ k, (m.scan - a - 1).toNat = k := ⟨_, rfl⟩
    rw [hk] at g2 hl
    refine ⟨k, ?_, by omega⟩
    rw [List.getElem?_eq_getElem hl]
    simpa [List.getD_eq_getElem?_getD, hl] using g2
  · rintro ⟨k, g1, g2⟩
    refine ⟨by omega, ?_⟩
    unfold ref
    rw [show (m.scan - a - 1).toNat = k by omega]
    simp [List.getD_eq_getElem?_getD, g1]
theorem Gd.scan1 (h : Gd m ly ln lf N rl sp rs) (h2 : m.scan < m.old) (hw : ∀ t ∈ ln, m.scan ∈ m.pl t → m.word m.scan ∉ lf) : Gd { m with scan := m.scan + 1 } ly ln lf N rl sp rs := by
  refine ⟨⟨h.sz.Y0, h.sz.Y1, h.sz.H0, h.sz.H1, h.sz.n, h.sz.w⟩, ⟨h.y.tl, h.y.hd, h.y.ok⟩, h.yl, ⟨h.o.tl, h.o.hd, h.o.ok⟩, ?_, h.hn, h.nb, h.left, h.room, fun hb => ?_, h.mv, h.mi, h.wy, h.wN, h.NY, h.Nn, fun t ht p hp => ?_, h.wf, h.fz⟩
  · obtain ⟨fe, g1, g2⟩ := h.f; exact ⟨fe, g1, g2.tl, g2.hd, g2.ok⟩
  · obtain ⟨g1, g2⟩ := h.sc hb
    exact ⟨by show m.base ≤ m.scan + 1; omega, by show m.scan + 1 ≤ m.old; omega⟩
  · rcases h.wo t ht p hp with g | g | g | g
    · exact .inl g
    · exact .inr (.inl g)
    · exact .inr (.inr (.inl g))
    · refine .inr (.inr (.inr ⟨g.1, ?_⟩))
      have hne : p ≠ m.scan := fun e => hw t ht (by rw [← e]; exact hp) (by rw [← e]; exact g.1)
      have := g.2
      show m.scan + 1 ≤ p
      omega
theorem Good.step1 (h : Good m ly ln lf φ A) (hb : m.busy = true) (hs : m.scan < m.old) :
    ∃ ln' φ', Good m.step1 ly ln' lf φ' A ∧ (∀ t ∈ ln, t ∈ ln') ∧ Le φ φ' ∧ m.step1.sh = m.sh ∧ m.step1.Y = m.Y ∧ m.step1.H = m.H ∧ m.step1.up = m.up ∧ m.step1.busy = true ∧ m.step1.new = m.new ∧ m.step1.scan = m.scan + 1 ∧ m.old ≤ m.step1.old := by
  obtain ⟨h1, _⟩ := h.g.sc hb
  obtain ⟨a, ha, h3, h4, ho, hr⟩ := h.g.scanned h1 hs
  by_cases hc : m.isRef m.scan = true
  · have hp := hr.1 hc
    obtain ⟨ln', φ', j, g, sc, w, wp⟩ := J.fwdAt (A := A) (φ := φ) ⟨h.g, h.s⟩ false (rl' := m.remP) (sp' := m.base + m.H) (.inl ha) hp (fun hq => by cases hq) (fun _ => rfl) (fun q _ hq => hq)
    have hst : m.step1 = { m.fwdAt false m.scan with scan := (m.fwdAt false m.scan).scan + 1 } := by unfold AM.step1; simp only; rw [if_pos hc]
    have hG : Gd m.step1 ly ln' lf ly m.remP (m.base + m.H) [] := by
      rw [hst]
      refine j.g.scan1 (by rw [sc]; have := g.old; omega) fun t ht hpt => ?_
      rw [sc]
      rcases wp with wp | wp | wp | wp
      · rw [wp]; exact j.g.notY0.2.2
      · exact fun hh => j.g.fy hh wp
      · exact fun hh => j.g.of wp hh
      · cases wp.1
    have hrem : m.step1.rem = m.rem := by rw [hst]; exact g.rem
    have hbase : m.step1.base = m.base := by rw [hst]; exact g.base
    have hH : m.step1.H = m.H := by rw [hst]; exact g.H
    refine ⟨ln', φ', ⟨?_, ?_, fun t ht => ?_, fun k hk => ?_, by rw [hrem]; exact h.rn⟩, fun t ht => g.sub ht, g.le, by rw [hst]; exact g.sh, by rw [hst]; exact g.Y, hH, by rw [hst]; exact g.up, by rw [hst]; exact g.busy.trans hb, by rw [hst]; exact g.new, by rw [hst]; show (m.fwdAt false m.scan).scan + 1 = _; rw [sc], by rw [hst]; exact g.old⟩
    · have : m.step1.remP = m.remP := by unfold remP; rw [hrem]
      rw [this, hbase, hH]; exact hG
    · rw [hst]; exact ⟨j.s.dom, j.s.shp, j.s.mvd, j.s.inj⟩
    · rw [hst] at ht
      rcases (j.g.mv t ht).1 with g1 | g1
      · -- a young object is moved by nothing here
        have hyf : m.moved t ≠ 0 → False := fun hm => h.g.fy (h.ym t hm) g1
        have he : (m.fwdAt false m.scan).moved t = m.moved t := by
          show (m.fwd false (m.word m.scan)).2.moved t = m.moved t
          unfold AM.fwd
          split
          · rename_i hou
            split
            · rfl
            · have hne : t ≠ m.word m.scan := fun e => by
                have : m.isF t = true := by rw [e]; exact hou
                rw [h.g.isFn (.inr (.inl g1))] at this; cases this
              exact move_moved_ne m hne
          · rfl
        exact absurd (he ▸ ht) (fun hm => hyf hm)
      · exact g1
    · rw [hrem] at hk
      obtain ⟨k1, jj, k2, k3⟩ := h.rm k hk
      refine ⟨g.sub k1, jj, k2, ?_⟩
      have : m.step1.row k.1 = m.row k.1 := by rw [hst]; exact g.row (.inl (by have := h.g.obd k1; omega))
      rw [this]; exact k3
  · have hst : m.step1 = { m with scan := m.scan + 1 } := by unfold AM.step1; simp only; rw [if_neg hc]
    rw [hst]
    refine ⟨ln, φ, ⟨h.g.scan1 hs fun t ht hpt => ?_, ⟨h.s.dom, h.s.shp, h.s.mvd, h.s.inj⟩, h.ym, h.rm, h.rn⟩, fun t ht => ht, Le.refl _, rfl, rfl, rfl, rfl, hb, rfl, rfl, Int.le_refl _⟩
    have hpb := pl_bd hpt
    have := h.g.same (.inr (.inl ht)) (.inr (.inl ha)) (p := m.scan) (by omega) (by omega) h3 h4
    subst this
    exact absurd (hr.2 hpt) hc
theorem Good.steps : ∀ (k : Nat) {m : AM} {ln : List Int} {φ : Int → Option Nat}, Good m ly ln lf φ A → m.busy = true →
    ∃ ln' φ', Good (AM.steps k m) ly ln' lf φ' A ∧ (∀ t ∈ ln, t ∈ ln') ∧ Le φ φ' ∧ (AM.steps k m).sh = m.sh ∧ (AM.steps k m).Y = m.Y ∧ (AM.steps k m).H = m.H ∧ (AM.steps k m).up = m.up ∧ (AM.steps k m).busy = true ∧ (AM.steps k m).new = m.new ∧ m.old ≤ (AM.steps k m).old ∧ (AM.steps k m).scan ≤ (AM.steps k m).old ∧ (m.scan + k ≤ (AM.steps k m).scan ∨ (AM.steps k m).scan = (AM.steps k m).old)
  | 0, m, ln, φ, h, hb => ⟨ln, φ, h, fun _ ht => ht, Le.refl _, rfl, rfl, rfl, rfl, hb, rfl, Int.le_refl _, (h.g.sc hb).2, .inl (by show m.scan + ((0 : Nat) : Int) ≤ m.scan; omega)⟩
  | k + 1, m, ln, φ, h, hb => by
    by_cases hs : m.scan < m.old
    · obtain ⟨ln1, φ1, g1, a1, a2, a3, a4, a5, a6, a7, a8, a9, a10⟩ := h.step1 hb hs
      obtain ⟨ln2, φ2, g2, b1, b2, b3, b4, b5, b6, b7, b8, b9, b10, b11⟩ := Good.steps k g1 a7
      have he : AM.steps (k + 1) m = AM.steps k m.step1 := by show (if _ then _ else _) = _; rw [if_pos hs]
      rw [he]
      exact ⟨ln2, φ2, g2, fun t ht => b1 t (a1 t ht), a2.trans b2, b3.trans a3, b4.trans a4, b5.trans a5, b6.trans a6, b7, b8.trans a8, by omega, b10, by rcases b11 with b | b; left; omega; exact .inr b⟩
    · have he : AM.steps (k + 1) m = m := by show (if _ then _ else _) = _; rw [if_neg hs]
      rw [he]
      have := (h.g.sc hb).2
      exact ⟨ln, φ, h, fun _ ht => ht, Le.refl _, rfl, rfl, rfl, rfl, hb, rfl, Int.le_refl _, this, .inr (by omega)⟩
/-- All is moved. -/
theorem Good.fin (h : Good m ly ln lf φ A) (hb : m.busy = true) (hs : m.scan = m.old) : Good m.fin ly ln [] (fun t => if t ∈ lf then none else φ t) A := by
  have h0 := h.g.oldle; have hb' := m.base_former; have hY := h.g.sz.Y0; have hH := h.g.sz.H0; have hyl := h.g.yl
  have hout : ∀ {t p : Int}, t ∈ ly ∨ t ∈ ln → t ≤ p → p < t + m.size t → p < m.former ∨ m.former + m.H ≤ p := fun {t p} ht h1 h2 => by
    rcases ht with ht | ht
    · have := h.g.ybd ht; omega
    · have := h.g.obd ht; omega
  have hrow : ∀ {t : Int}, t ∈ ly ∨ t ∈ ln → m.fin.row t = m.row t := fun {t} ht => by
    show m.sh.getD ((m.clear m.former m.H).head t - 1).toNat [] = _
    rw [(clear_other (hout ht (Int.le_refl _) (by have := m.size_pos t; omega))).2.1]; rfl
  have hsz : ∀ {t : Int}, t ∈ ly ∨ t ∈ ln → m.fin.size t = m.size t := fun {t} ht => by unfold size; rw [hrow ht]
  have hpl : ∀ {t : Int}, t ∈ ly ∨ t ∈ ln → m.fin.pl t = m.pl t := fun {t} ht => by unfold pl; rw [hrow ht]
  have hhd : ∀ {t : Int}, t ∈ ly ∨ t ∈ ln → m.fin.head t = m.head t := fun {t} ht => (clear_other (hout ht (Int.le_refl _) (by have := m.size_pos t; omega))).2.1
  have hwd : ∀ {t p : Int}, t ∈ ly ∨ t ∈ ln → t < p → p < t + m.size t → m.fin.word p = m.word p := fun {t p} ht h1 h2 => (clear_other (hout ht (by omega) h2)).1
  have hgt : ∀ x, x < m.former ∨ m.former + m.H ≤ x → m.fin.head x = m.head x ∧ m.fin.moved x = m.moved x := fun x hx => ⟨(clear_other hx).2.1, (clear_other hx).2.2⟩
  have hin : ∀ x, m.former ≤ x → x < m.former + m.H → m.fin.word x = 0 ∧ m.fin.head x = 0 ∧ m.fin.moved x = 0 := fun x h1 h2 => clear_in h1 h2
  have hmz : ∀ t, m.fin.moved t = 0 := fun t => by
    by_cases hi : m.former ≤ t ∧ t < m.former + m.H
    · exact (hin t hi.1 hi.2).2.2
    · rw [(hgt t (by omega)).2]
      by_cases hm : m.moved t = 0
      · exact hm
      · have := h.g.fbd (h.ym t hm); omega
  have hwo : ∀ t ∈ ln, ∀ p ∈ m.pl t, m.word p = 0 ∨ m.word p ∈ ln ∨ (m.word p ∈ ly ∧ (p ∈ m.remP ∨ m.base + m.H ≤ p)) := fun t ht p hp => by
    rcases h.g.wo t ht p hp with g | g | g | g
    · exact .inl g
    · exact .inr (.inl g)
    · exact .inr (.inr g)
    · have := pl_bd hp; have := h.g.obd ht; omega
  have hVr : ∀ {w x : Int}, V φ w x → w ∉ lf → V (fun t => if t ∈ lf then none else φ t) w x := fun {w x} hv hw => by
    rcases hv with hv | ⟨j, h1, h2⟩
    · exact .inl hv
    · exact .inr ⟨j, by show (if w ∈ lf then none else φ w) = some j; rw [if_neg hw]; exact h1, h2⟩
  have hnf : ∀ {w : Int}, w = 0 ∨ w ∈ ln ∨ w ∈ ly → w ∉ lf := fun {w} hw hf => by
    rcases hw with g | g | g
    · rw [g] at hf; exact h.g.notY0.2.2 hf
    · exact h.g.of g hf
    · exact h.g.fy hf g
  have hrp : m.fin.remP = m.remP := rfl
  have hfb : m.fin.base = m.base := rfl
  refine ⟨⟨⟨h.g.sz.Y0, h.g.sz.Y1, h.g.sz.H0, h.g.sz.H1, h.g.sz.n, h.g.sz.w⟩, ⟨?_, fun t h1 h2 => ?_, fun t ht => ?_⟩, h.g.yl, ⟨?_, fun t h1 h2 => ?_, fun t ht => ?_⟩, ⟨m.former, ?_, rfl, fun t h1 h2 => ?_, fun t ht => by simp at ht⟩, fun t => ?_, fun _ => rfl, rfl, ?_, fun hq => ?_, fun t ht => absurd (hmz t) ht, fun t t' _ ht => absurd (hmz t) ht, fun t ht p hp => ?_, fun t ht p hp hw => hw, fun t ht => ht, h.g.Nn, fun t ht p hp => ?_, fun t ht => by simp at ht, fun t h1 h2 => ?_⟩, ⟨fun t i hi => ?_, fun t i hi => ?_, fun t i hi hm => absurd (hmz t) hm, fun t t' i hi hi' hm hm' => ?_⟩, fun t ht => absurd (hmz t) ht, fun k hk => ?_, h.rn⟩
  · exact h.g.y.tl.congr fun t ht => hsz (.inl ht)
  · have h2' : t ≤ m.Y := h2
    rw [(hgt t (by omega)).1]; exact h.g.y.hd t h1 h2
  · rw [hhd (.inl ht)]; exact h.g.y.ok t ht
  · exact h.g.o.tl.congr fun t ht => hsz (.inr ht)
  · have h1' : m.base ≤ t := h1
    have h2' : t ≤ m.base + m.H - 1 := h2
    rw [(hgt t (by omega)).1]; exact h.g.o.hd t h1 h2
  · rw [hhd (.inr ht)]; exact h.g.o.ok t ht
  · show m.former ≤ m.former + m.H; omega
  · have h1' : m.former ≤ t := h1
    have h2' : t ≤ m.former + m.H - 1 := h2
    rw [(hin t h1' (by omega)).2.1]; simp
  · by_cases hi : m.former ≤ t ∧ t < m.former + m.H
    · rw [(hin t hi.1 hi.2).2.1]; omega
    · rw [(hgt t (by omega)).1]; exact h.g.hn t
  · show m.old + 0 + 0 ≤ m.base + m.H; omega
  · have hq' : (false : Bool) = true := hq
    cases hq'
  · rw [hpl (.inl ht)] at hp
    have := pl_bd hp
    rw [hwd (.inl ht) this.1 this.2]; exact h.g.wy t ht p hp
  · rw [hpl (.inr ht)] at hp
    have := pl_bd hp
    rw [hwd (.inr ht) this.1 this.2]
    rcases hwo t ht p hp with g | g | g
    · exact .inl g
    · exact .inr (.inl g)
    · exact .inr (.inr (.inl g))
  · have h1' : m.new ≤ t := h1
    have h2' : t ≤ m.Y := h2
    have h3' := h.g.newle
    rw [show m.fin.word t = m.word t from (clear_other (by omega)).1]; exact h.g.fz t h1 h2
  · by_cases hty : t ∈ lf
    · rw [if_pos hty] at hi; cases hi
    · rw [if_neg hty] at hi
      rcases h.s.dom t i hi with g | g | g
      · exact .inl g
      · exact .inr (.inl g)
      · exact absurd g hty
  · by_cases hty : t ∈ lf
    · rw [if_pos hty] at hi; cases hi
    · rw [if_neg hty] at hi
      have hd : t ∈ ly ∨ t ∈ ln := by
        rcases h.s.dom t i hi with g | g | g
        · exact .inl g
        · exact .inr g
        · exact absurd g hty
      obtain ⟨fs, h1, h2, h3⟩ := h.s.shp t i hi
      refine ⟨fs, by rw [hhd hd]; exact h1, by rw [hrow hd]; exact h2, fun _ k hk => ?_⟩
      have hm0 : m.moved t = 0 := by
        by_cases hm : m.moved t = 0
        · exact hm
        · exact absurd (h.ym t hm) hty
      have h4 := h3 hm0 k hk
      rw [hrow hd, hwd hd (by omega) (by unfold size; omega)]
      split
      · rename_i hr
        rw [if_pos hr] at h4
        refine hVr h4 ?_
        have hkl : k < (m.row t).length := by omega
        have hp : t + 1 + (k : Int) ∈ m.pl t := mem_pl.2 ⟨k, by rw [List.getElem?_eq_getElem hkl]; simpa [List.getD_eq_getElem?_getD, hkl] using hr, rfl⟩
        rcases hd with hd | hd
        · exact hnf (by rcases h.g.wy t hd _ hp with g | g | g; exact .inl g; exact .inr (.inr g); exact .inr (.inl g))
        · exact hnf (by rcases hwo t hd _ hp with g | g | g; exact .inl g; exact .inr (.inl g); exact .inr (.inr g.1))
      · rename_i hr; rw [if_neg hr] at h4; exact h4
  · by_cases hty : t ∈ lf
    · rw [if_pos hty] at hi; cases hi
    · by_cases hty' : t' ∈ lf
      · rw [if_pos hty'] at hi'; cases hi'
      · rw [if_neg hty] at hi
        rw [if_neg hty'] at hi'
        have hz : ∀ x, x ∉ lf → m.moved x = 0 := fun x hx => by
          by_cases hm : m.moved x = 0
          · exact hm
          · exact absurd (h.ym x hm) hx
        exact h.s.inj t t' i hi hi' (hz t hty) (hz t' hty')
  · obtain ⟨k1, j, k2, k3⟩ := h.rm k hk
    exact ⟨k1, j, k2, by rw [hrow (.inr k1)]; exact k3⟩
end
end AM
end Go.Hm
namespace Go.Hm
namespace AM
/-- A field of an object without an address is put. -/
def setf (A : Store) (i k : Nat) (x : Int) : Store := A.modify i fun q => (q.1, q.2.set k x)
section
variable {m : AM} {ly ln lf N rl rs : List Int} {sp a : Int} {φ : Int → Option Nat} {A : Store}
theorem Good.new {sh : List (List Bool)} {half young : Int} (h1 : 1 ≤ half) (h2 : half ≤ 4096) (h3 : 1 ≤ young) (h4 : young ≤ 1024) (h5 : sh.length ≤ 60) (h6 : ∀ l ∈ sh, l.length ≤ 60) : Good (new' sh half young) [] [] [] (fun _ => none) [] := by
  have hb : (new' sh half young).base = young + 1 := rfl
  have hf : (new' sh half young).former = young + half + 1 := rfl
  refine ⟨⟨⟨h3, by show young ≤ 400000; omega, h1, by show half ≤ 100000; omega, by show sh.length ≤ 100; omega, fun l hl => by have := h6 l hl; omega⟩, ⟨rfl, fun t _ _ => by simp [new'], fun t ht => by simp at ht⟩, by show (1 : Int) ≤ young + 1; omega, ⟨rfl, fun t _ _ => by simp [new'], fun t ht => by simp at ht⟩, ⟨(new' sh half young).former, by rw [hf]; show _ ≤ young + half + 1 + half; omega, rfl, fun t _ _ => by simp [new'], fun t ht => by simp at ht⟩, fun t => Int.le_refl _, fun _ => rfl, rfl, ?_, (fun hq => by cases hq), fun t ht => absurd rfl ht, fun t t' _ ht => absurd rfl ht, fun t ht => by simp at ht, fun t ht => by simp at ht, fun t ht => by simp at ht, List.nodup_nil, fun t ht => by simp at ht, fun t ht => by simp at ht, fun t _ _ => rfl⟩, Sim.none .., fun t ht => absurd rfl ht, fun k hk => by simp [new'] at hk, List.nodup_nil⟩
  rw [hb]; show young + 1 + 0 + 0 ≤ young + 1 + half; omega

theorem Good.moved0 (h : Good m ly ln lf φ A) {t : Int} (ht : t ∈ ly ∨ t ∈ ln) : m.moved t = 0 := by
  by_cases hm : m.moved t = 0
  · exact hm
  · have := h.ym t hm
    rcases ht with ht | ht
    · exact absurd ht (h.g.fy this)
    · exact absurd this (h.g.of ht)
/-- An object is made. -/
theorem Good.alloc (h : Good m ly ln lf φ A) {s : Int} (he : (m.alloc s).2.1 = 0) :
    Good (m.alloc s).2.2 (ly ++ [m.new]) ln lf (fun t => if t = m.new then some A.length else φ t) (A ++ [(s, List.replicate (m.sh.getD s.toNat []).length 0)]) ∧ Le φ (fun t => if t = m.new then some A.length else φ t) ∧ (m.alloc s).1 = m.new ∧
      0 ≤ s ∧ s < m.sh.length ∧ (m.alloc s).2.2 = { m with head := fup m.head m.new (s + 1), new := m.new + (1 + (m.sh.getD s.toNat []).length) } := by
  unfold AM.alloc at he ⊢
  split at he
  · cases he
  · rename_i h1
    rw [if_neg h1]
    simp only [Bool.or_eq_true, decide_eq_true_eq, not_or] at h1
    simp only at he ⊢
    split at he
    · cases he
    · rename_i h2
      rw [if_neg h2]
      simp only [decide_eq_true_eq] at h2
      have hb := m.base_former; have h0 := h.g.oldle; have hyl := h.g.yl; have hn1 := h.g.newle; have hH := h.g.sz.H0
      obtain ⟨m', hm'⟩ : ∃ m', m' = ({ m with head := fup m.head m.new (s + 1), new := m.new + (1 + ((m.sh.getD s.toNat []).length : Int)) } : AM) := ⟨_, rfl⟩
      rw [← hm']
      have hny : m.new ∉ ly := fun hq => by have := h.g.ybd hq; omega
      have hno : m.new ∉ ln := fun hq => by have := h.g.obd hq; omega
      have hnf : m.new ∉ lf := fun hq => by have := h.g.fbd hq; omega
      have hnφ : φ m.new = none := by
        cases hq : φ m.new with
        | none => rfl
        | some i => exact absurd (h.s.dom _ _ hq) (by simp [hny, hno, hnf])
      have hle : Le φ (fun t => if t = m.new then some A.length else φ t) := fun t i ht => by
        show (if t = m.new then some A.length else φ t) = some i
        rw [if_neg (fun e => by rw [e, hnφ] at ht; cases ht)]; exact ht
      have hhd : ∀ t, t ≠ m.new → m'.head t = m.head t := fun t ht => by rw [hm']; exact fup_other ht
      have hhn : m'.head m.new = s + 1 := by rw [hm']; exact fup_same ..
      have hwd : m'.word = m.word := by rw [hm']
      have hmv : m'.moved = m.moved := by rw [hm']
      have hrow : ∀ t, t ≠ m.new → m'.row t = m.row t := fun t ht => by unfold row; rw [hhd t ht, hm']
      have hrn : m'.row m.new = m.sh.getD s.toNat [] := by unfold row; rw [hhn, hm']; simp
      have hsz : ∀ t, t ≠ m.new → m'.size t = m.size t := fun t ht => by unfold size; rw [hrow t ht]
      have hsn : m'.size m.new = 1 + ((m.sh.getD s.toNat []).length : Int) := by unfold size; rw [hrn]
      have hpl : ∀ t, t ≠ m.new → m'.pl t = m.pl t := fun t ht => by unfold pl; rw [hrow t ht]
      have hney : ∀ {t : Int}, t ∈ ly → t ≠ m.new := fun ht e => hny (e ▸ ht)
      have hneo : ∀ {t : Int}, t ∈ ln → t ≠ m.new := fun ht e => hno (e ▸ ht)
      have hnef : ∀ {t : Int}, t ∈ lf → t ≠ m.new := fun ht e => hnf (e ▸ ht)
      have hnb : m'.base = m.base := by rw [hm']; rfl
      have hnfm : m'.former = m.former := by rw [hm']; rfl
      have hnH : m'.H = m.H := by rw [hm']
      have hnY : m'.Y = m.Y := by rw [hm']
      have hno' : m'.old = m.old := by rw [hm']
      have hnn : m'.new = m.new + (1 + ((m.sh.getD s.toNat []).length : Int)) := by rw [hm']
      have hnl : m'.left = m.left := by rw [hm']
      have hnsc : m'.scan = m.scan := by rw [hm']
      have hnbz : m'.busy = m.busy := by rw [hm']
      have hnsh : m'.sh = m.sh := by rw [hm']
      have hnr : m'.rem = m.rem := by rw [hm']
      have hus : m'.usum lf = m.usum lf := sum_congr fun a ha => by unfold us; rw [hmv, hsz a (hnef ha)]
      have hrp : m'.remP = m.remP := by unfold remP; rw [hnr]
      refine ⟨⟨⟨⟨by rw [hnY]; exact h.g.sz.Y0, by rw [hnY]; exact h.g.sz.Y1, by rw [hnH]; exact h.g.sz.H0, by rw [hnH]; exact h.g.sz.H1, by rw [hnsh]; exact h.g.sz.n, by rw [hnsh]; exact h.g.sz.w⟩, ⟨?_, fun t g1 g2 => ?_, fun t ht => ?_⟩, by rw [hnn, hnY]; omega, ⟨?_, fun t g1 g2 => ?_, fun t ht => ?_⟩, ?_, fun t => ?_, by rw [hnbz]; exact h.g.nb, by rw [hnl, hus]; exact h.g.left, by rw [hno', hnl, hnb, hnH]; exact h.g.room, by rw [hnbz, hnb, hnsc, hno']; exact h.g.sc, fun t ht => ?_, by rw [hmv]; exact h.g.mi, fun t ht p hp => ?_, fun t _ p _ hw => hw, fun t ht => ht, ?_, fun t ht p hp => ?_, fun t ht p hp => ?_, fun t g1 g2 => ?_⟩, ⟨fun t i hi => ?_, fun t i hi => ?_, fun t i hi hm => ?_, fun t t' i hi hi' hm hmm => ?_⟩, by rw [hmv]; exact h.ym, fun k hk => ?_, by rw [hnr]; exact h.rn⟩, hle, rfl, by omega, by omega, rfl⟩
      · have g1 : Tl m'.size 1 m.new ly := h.g.y.tl.congr fun t ht => hsz t (hney ht)
        have := Tl.snoc (by rw [hsn]; omega) g1
        rw [hsn] at this
        rw [hnn]; exact this
      · rw [hnY] at g2
        rw [List.mem_append, List.mem_singleton]
        by_cases hq : t = m.new
        · rw [hq, hhn]; exact ⟨fun _ => .inr rfl, fun _ => by omega⟩
        · rw [hhd t hq, h.g.y.hd t g1 g2]; simp [hq]
      · rw [hnsh]
        rcases List.mem_append.1 ht with ht | ht
        · rw [hhd t (hney ht)]; exact h.g.y.ok t ht
        · rw [List.mem_singleton.1 ht, hhn]; omega
      · rw [hnb, hno']; exact h.g.o.tl.congr fun t ht => hsz t (hneo ht)
      · rw [hnb] at g1
        rw [hnb, hnH] at g2
        rw [hhd t (by omega)]; exact h.g.o.hd t g1 g2
      · rw [hnsh, hhd t (hneo ht)]; exact h.g.o.ok t ht
      · obtain ⟨fe, f1, f2⟩ := h.g.f
        refine ⟨fe, by rw [hnfm, hnH]; exact f1, ?_, fun t g1 g2 => ?_, fun t ht => ?_⟩
        · rw [hnfm]; exact f2.tl.congr fun t ht => hsz t (hnef ht)
        · rw [hnfm] at g1
          rw [hnfm, hnH] at g2
          rw [hhd t (by omega)]; exact f2.hd t g1 g2
        · rw [hnsh, hhd t (hnef ht)]; exact f2.ok t ht
      · by_cases hq : t = m.new
        · rw [hq, hhn]; omega
        · rw [hhd t hq]; exact h.g.hn t
      · rw [hmv] at ht ⊢
        obtain ⟨g1, g2, g3⟩ := h.g.mv t ht
        have htf := h.ym t ht
        exact ⟨.inr htf, g2, by rw [hhd _ (hneo g2), hhd t (hnef htf)]; exact g3⟩
      · rw [hwd]
        rcases List.mem_append.1 ht with ht | ht
        · rw [hpl t (hney ht)] at hp
          rcases h.g.wy t ht p hp with g | g | g
          · exact .inl g
          · exact .inr (.inl (List.mem_append_left _ g))
          · exact .inr (.inr g)
        · have ht := List.mem_singleton.1 ht
          have hpb := pl_bd hp
          rw [ht, hsn] at hpb
          exact .inl (h.g.fz p (by omega) (by omega))
      · exact List.nodup_append.2 ⟨h.g.Nn, by simp, fun x hx y hy e => by simp at hy; subst hy; exact hny (e ▸ hx)⟩
      · rw [hwd, hrp, hnb, hnH]
        rw [hpl t (hneo ht)] at hp
        rcases h.g.wo t ht p hp with g | g | g | g
        · exact .inl g
        · exact .inr (.inl g)
        · exact .inr (.inr (.inl ⟨List.mem_append_left _ g.1, g.2⟩))
        · exact .inr (.inr (.inr (by rw [hnsc]; exact g)))
      · rw [hwd]
        rw [hpl t (hnef ht)] at hp
        exact h.g.wf t ht p hp
      · rw [hwd]
        rw [hnn] at g1
        rw [hnY] at g2
        exact h.g.fz t (by omega) g2
      · by_cases hq : t = m.new
        · exact .inl (by simp [hq])
        · rw [if_neg hq] at hi
          rcases h.s.dom t i hi with g | g
          · exact .inl (List.mem_append_left _ g)
          · exact .inr g
      · by_cases hq : t = m.new
        · subst hq
          rw [if_pos rfl] at hi
          injection hi with hi
          subst hi
          refine ⟨List.replicate (m.sh.getD s.toNat []).length 0, by rw [hhn]; simp, by rw [hrn]; simp, fun _ k hk => ?_⟩
          have hk' : k < (m.sh.getD s.toNat []).length := by simpa using hk
          have hz : m'.word (m.new + 1 + k) = 0 := by rw [hwd]; exact h.g.fz _ (by omega) (by omega)
          have hz' : (List.replicate (m.sh.getD s.toNat []).length (0 : Int)).getD k 0 = 0 := by rw [List.getD_eq_getElem?_getD, List.getElem?_replicate]; split <;> rfl
          rw [hz, hz']
          split
          · exact .inl ⟨rfl, rfl⟩
          · rfl
        · rw [if_neg hq] at hi
          obtain ⟨fs, g1, g2, g3⟩ := h.s.shp t i hi
          refine ⟨fs, ?_, by rw [hrow t hq]; exact g2, fun hm k hk => ?_⟩
          · rw [hhd t hq, List.getElem?_append_left (List.getElem?_eq_some_iff.1 g1).1]; exact g1
          · rw [hmv] at hm
            have g4 := g3 hm k hk
            rw [hrow t hq, hwd]
            split
            · rename_i hr; rw [if_pos hr] at g4; exact g4.mono hle
            · rename_i hr; rw [if_neg hr] at g4; exact g4
      · rw [hmv] at hm ⊢
        have htf := h.ym t hm
        rw [if_neg (hnef htf)] at hi
        exact hle _ _ (h.s.mvd t i hi hm)
      · rw [hmv] at hm hmm
        have key : ∀ {t i}, φ t = some i → i < A.length := fun {t i} hq => by obtain ⟨fs, g1, _⟩ := h.s.shp t i hq; exact (List.getElem?_eq_some_iff.1 g1).1
        by_cases hq : t = m.new
        · by_cases hq' : t' = m.new
          · rw [hq, hq']
          · rw [if_pos hq] at hi
            rw [if_neg hq'] at hi'
            injection hi with hi
            have := key hi'
            omega
        · by_cases hq' : t' = m.new
          · rw [if_neg hq] at hi
            rw [if_pos hq'] at hi'
            injection hi' with hi'
            have := key hi
            omega
          · rw [if_neg hq] at hi
            rw [if_neg hq'] at hi'
            exact h.s.inj t t' i hi hi' hm hmm
      · rw [hnr] at hk
        obtain ⟨k1, j, k2, k3⟩ := h.rm k hk
        exact ⟨k1, j, k2, by rw [hrow _ (hneo k1)]; exact k3⟩
theorem alloc_err {s : Int} (he : (m.alloc s).2.1 ≠ 0) : (m.alloc s).2.2 = m ∧ (m.alloc s).1 = 0 := by
  unfold AM.alloc at he ⊢
  split
  · exact ⟨rfl, rfl⟩
  · rename_i h1
    rw [if_neg h1] at he
    simp only at he ⊢
    split
    · exact ⟨rfl, rfl⟩
    · rename_i h2
      rw [if_neg h2] at he
      exact absurd rfl he
/-- A field that there is. -/
theorem Gd.field (h : Gd m ly ln lf N rl sp rs) {t k : Int} (he : m.fe t k = 0) : (t ∈ ly ∨ t ∈ ln) ∧ ∃ j : Nat, k = j ∧ j < (m.row t).length := by
  unfold fe at he
  split at he
  · cases he
  · rename_i h1
    split at he
    · cases he
    · rename_i h2
      simp only [Bool.or_eq_true, decide_eq_true_eq, not_or] at h2
      exact ⟨h.cur_iff.1 (by simpa using h1), k.toNat, by omega, by omega⟩
theorem ref_iff {t : Int} {j : Nat} (hj : j < (m.row t).length) : m.ref t j = true ↔ (m.row t)[j]? = some true := by
  unfold ref
  rw [List.getElem?_eq_getElem hj]
  simp [List.getD_eq_getElem?_getD, hj]
theorem Good.set (h : Good m ly ln lf φ A) {t k v : Int} {A' : Store} (he : (m.set t k v).1 = 0) (hA : (φ t = none ∧ A' = A) ∨ ∃ i x, φ t = some i ∧ A' = setf A i k.toNat x ∧ if m.ref t k then V φ v x else v = x) :
    Good (m.set t k v).2 ly ln lf φ A' ∧ m.fe t k = 0 ∧ (m.ref t k = true → v = 0 ∨ m.cur v = true) ∧ (m.set t k v).2.sh = m.sh ∧ (m.set t k v).2.Y = m.Y ∧ (m.set t k v).2.H = m.H ∧ (m.set t k v).2.busy = m.busy := by
  unfold AM.set at he ⊢
  split at he
  · rename_i h1; exact absurd he h1
  · rename_i h1
    have h1 : m.fe t k = 0 := by simpa using h1
    split at he
    · cases he
    · rename_i h2
      rw [if_neg (by rw [h1]; simp), if_neg h2]
      simp only
      obtain ⟨ht, j, hkj, hj⟩ := h.g.field h1
      subst hkj
      have hmt := h.moved0 ht
      have hcv : m.ref t j = true → v = 0 ∨ v ∈ ly ∨ v ∈ ln := fun hr => by
        by_cases h0 : v = 0
        · exact .inl h0
        · right
          rw [hr] at h2
          simp [h0] at h2
          exact h.g.cur_iff.1 h2
      refine ⟨?_, h1, fun hr => (hcv hr).imp id fun hq => h.g.cur_iff.2 hq, ?_⟩
      · have hsim : ∀ m' : AM, m'.head = (m.put (t + 1 + j) v).head → m'.word = (m.put (t + 1 + j) v).word → m'.moved = (m.put (t + 1 + j) v).moved → m'.sh = m.sh → Sim m' ly ln lf φ A' := fun m' e1 e2 e3 e4 => by
          have hs : Sim (m.put (t + 1 + j) v) ly ln lf φ A' := by
            rcases hA with ⟨hn, rfl⟩ | ⟨i, x, hi, rfl, hx⟩
            · refine Sim.put h.g h.s ht hj hmt (fun _ _ _ _ => ⟨fun _ => rfl, rfl⟩) (fun i fs hi _ => by rw [hn] at hi; cases hi)
            · refine Sim.put h.g h.s ht hj hmt (fun t' i' hi' hne => ⟨fun hm' => ?_, ?_⟩) (fun i' fs hi' hA' => ?_)
              · have hii : i' ≠ i := fun e => hne (h.s.inj t' t i (e ▸ hi') hi hm' hmt)
                unfold setf
                rw [List.getElem?_modify]; simp [Ne.symm hii]
              · unfold setf
                rw [List.getElem?_modify]
                cases A[i']? with
                | none => rfl
                | some q => simp; split <;> simp
              · rw [hi] at hi'
                injection hi' with hi'
                subst hi'
                refine ⟨x, ?_, ?_⟩
                · unfold setf
                  rw [List.getElem?_modify, hA']; simp
                · unfold ref at hx; simpa using hx
          refine ⟨hs.dom, fun t' i hi => ?_, fun t' i hi hm => ?_, fun t' t'' i a b c d => ?_⟩
          · obtain ⟨fs, g1, g2, g3⟩ := hs.shp t' i hi
            have hr : m'.row t' = (m.put (t + 1 + j) v).row t' := by unfold row; rw [e1, e4]; rfl
            exact ⟨fs, by rw [e1]; exact g1, by rw [hr]; exact g2, by rw [e3, hr, e2]; exact g3⟩
          · rw [e3] at hm ⊢; exact hs.mvd t' i hi hm
          · rw [e3] at c d; exact hs.inj t' t'' i a b c d
        have hgd : ∀ rl', (∀ q ∈ m.remP, q ∈ rl') → (t ∈ ln → m.ref t j = true → v ∈ ly → t + 1 + (j : Int) ∈ rl') → Gd (m.put (t + 1 + j) v) ly ln lf ly rl' (m.base + m.H) [] := fun rl' g1 g2 => by
          refine h.g.put ht hj (fun _ hr => ?_) (fun _ _ hw => hw) (fun hto hr => ?_) (fun q _ hq => hq.imp (g1 q) id)
          · rcases hcv ((ref_iff hj).2 hr) with g | g | g
            · exact .inl g
            · exact .inr (.inl g)
            · exact .inr (.inr g)
          · have hr' := (ref_iff hj).2 hr
            rcases hcv hr' with g | g | g
            · exact .inl g
            · exact .inr (.inr (.inl ⟨g, .inl (g2 hto hr' g)⟩))
            · exact .inr (.inl g)
        split
        · rename_i hc
          simp only [Bool.and_eq_true, Bool.not_eq_true', List.contains_eq_mem, decide_eq_false_iff_not] at hc
          obtain ⟨⟨⟨c1, c2⟩, c3⟩, c4⟩ := hc
          have hto : t ∈ ln := by
            rcases ht with ht | ht
            · rw [isO_iff] at c2
              have := h.g.ybd ht; have := h.g.yl; have := m.base_former; have := h.g.sz.H0; omega
            · exact ht
          have hg := hgd (m.remP ++ [t + 1 + (j : Int)]) (fun q hq => List.mem_append_left _ hq) (fun _ _ _ => by simp)
          refine ⟨?_, hsim _ rfl rfl rfl rfl, h.ym, fun q hq => ?_, ?_⟩
          · have hrp : ({ m.put (t + 1 + j) v with rem := m.rem ++ [(t, (j : Int))] } : AM).remP = m.remP ++ [t + 1 + (j : Int)] := by unfold remP; simp
            rw [hrp]
            exact ⟨⟨hg.sz.Y0, hg.sz.Y1, hg.sz.H0, hg.sz.H1, hg.sz.n, hg.sz.w⟩, ⟨hg.y.tl, hg.y.hd, hg.y.ok⟩, hg.yl, ⟨hg.o.tl, hg.o.hd, hg.o.ok⟩, (let ⟨fe, a1, a2⟩ := hg.f; ⟨fe, a1, a2.tl, a2.hd, a2.ok⟩), hg.hn, hg.nb, hg.left, hg.room, hg.sc, hg.mv, hg.mi, hg.wy, hg.wN, hg.NY, hg.Nn, hg.wo, hg.wf, hg.fz⟩
          · have hq' : q ∈ m.rem ++ [(t, (j : Int))] := hq
            rcases List.mem_append.1 hq' with hq' | hq'
            · exact h.rm q hq'
            · rw [List.mem_singleton.1 hq']
              exact ⟨hto, j, rfl, (ref_iff hj).1 c1⟩
          · show (m.rem ++ [(t, (j : Int))]).Nodup
            exact List.nodup_append.2 ⟨h.rn, by simp, fun x hx y hy e => by simp at hy; subst hy; exact c4 (e ▸ hx)⟩
        · rename_i hc
          have hg := hgd m.remP (fun q hq => hq) (fun hto hr hv => by
            simp only [Bool.and_eq_true, Bool.not_eq_true', List.contains_eq_mem, decide_eq_false_iff_not, not_and, Decidable.not_not] at hc
            have c2 : m.isO t = true := by rw [isO_iff]; have := h.g.obd hto; have := h.g.oldle; omega
            have c3 : m.isY v = true := by rw [isY_iff']; have := h.g.ybd hv; have := h.g.yl; omega
            exact List.mem_map.2 ⟨(t, (j : Int)), hc ⟨⟨hr, c2⟩, c3⟩, rfl⟩)
          exact ⟨hg, hsim _ rfl rfl rfl rfl, h.ym, h.rm, h.rn⟩
      · split <;> exact ⟨rfl, rfl, rfl, rfl⟩
theorem set_err {t k v : Int} (he : (m.set t k v).1 ≠ 0) : (m.set t k v).2 = m := by
  unfold AM.set at he ⊢
  split
  · rfl
  · rename_i h1
    rw [if_neg h1] at he
    split
    · rfl
    · rename_i h2
      rw [if_neg h2] at he
      exact absurd rfl he
theorem get_err {t k : Int} (he : (m.get t k).2.1 ≠ 0) : (m.get t k).2.2 = m ∧ (m.get t k).1 = 0 ∧ m.fe t k = (m.get t k).2.1 := by
  unfold AM.get at he ⊢
  split
  · exact ⟨rfl, rfl, rfl⟩
  · rename_i h1
    rw [if_neg h1] at he
    exact absurd rfl he
theorem Good.get (h : Good m ly ln lf φ A) {t k : Int} (he : (m.get t k).2.1 = 0) :
    ∃ ln' φ', Good (m.get t k).2.2 ly ln' lf φ' A ∧ (∀ x ∈ ln, x ∈ ln') ∧ Le φ φ' ∧ m.fe t k = 0 ∧ (m.ref t k = true → (m.get t k).1 = 0 ∨ (m.get t k).1 ∈ ly ∨ (m.get t k).1 ∈ ln') ∧
      (∀ i s fs, φ t = some i → A[i]? = some (s, fs) → if m.ref t k then V φ' (m.get t k).1 (fs.getD k.toNat 0) else (m.get t k).1 = fs.getD k.toNat 0) ∧
      (m.get t k).2.2.sh = m.sh ∧ (m.get t k).2.2.Y = m.Y ∧ (m.get t k).2.2.H = m.H ∧ (m.get t k).2.2.busy = m.busy ∧ (m.get t k).2.2.new = m.new := by
  have h1 : m.fe t k = 0 := by
    by_cases h1 : m.fe t k = 0
    · exact h1
    · unfold AM.get at he; rw [if_pos h1] at he; exact he
  have hge : m.get t k = ((if m.ref t k && m.busy then m.fwdAt false (t + 1 + k) else m).word (t + 1 + k), 0, if m.ref t k && m.busy then m.fwdAt false (t + 1 + k) else m) := by
    unfold AM.get; rw [if_neg (by rw [h1]; simp)]
  rw [hge]
  obtain ⟨ht, j, hkj, hj⟩ := h.g.field h1
  subst hkj
  simp only
  have hmt := h.moved0 ht
  have hold : ∀ i s fs, φ t = some i → A[i]? = some (s, fs) → if m.ref t j then V φ (m.word (t + 1 + j)) (fs.getD j 0) else m.word (t + 1 + j) = fs.getD j 0 := fun i s fs hi hA => by
    obtain ⟨fs', g1, g2, g3⟩ := h.s.shp t i hi
    rw [hA] at g1
    injection g1 with g1
    have : fs = fs' := (Prod.mk.injEq .. ▸ g1).2
    subst this
    have := g3 hmt j (by omega)
    unfold ref; simpa using this
  by_cases hc : (m.ref t j && m.busy) = true
  · rw [if_pos hc]
    rw [Bool.and_eq_true] at hc
    have hp : t + 1 + (j : Int) ∈ m.pl t := mem_pl.2 ⟨j, (ref_iff hj).1 hc.1, rfl⟩
    obtain ⟨ln', φ', jj, g, sc, w, wp⟩ := J.fwdAt (A := A) (φ := φ) ⟨h.g, h.s⟩ false (rl' := m.remP) (sp' := m.base + m.H) (t := t) (ht.elim (fun h => .inr ⟨rfl, h⟩) .inl) hp (fun hq => by cases hq) (fun _ => rfl) (fun q _ hq => hq)
    refine ⟨ln', φ', ⟨?_, jj.s, fun x hx => ?_, fun q hq => ?_, by rw [g.rem]; exact h.rn⟩, fun x hx => g.sub hx, g.le, h1, fun _ => ?_, fun i s fs hi hA => ?_, g.sh, g.Y, g.H, g.busy, g.new⟩
    · have : (m.fwdAt false (t + 1 + j)).remP = m.remP := by unfold remP; rw [g.rem]
      rw [this, g.base, g.H]; exact jj.g
    · rcases (jj.g.mv x hx).1 with g1 | g1
      · exfalso
        have he2 : (m.fwdAt false (t + 1 + j)).moved x = m.moved x := by
          show (m.fwd false (m.word (t + 1 + j))).2.moved x = m.moved x
          unfold AM.fwd
          split
          · rename_i hou
            split
            · rfl
            · have hne : x ≠ m.word (t + 1 + j) := fun e => by
                have : m.isF x = true := by rw [e]; exact hou
                rw [h.g.isFn (.inr (.inl g1))] at this; cases this
              exact move_moved_ne m hne
          · rfl
        rw [he2] at hx
        exact h.g.fy (h.ym x hx) g1
      · exact g1
    · rw [g.rem] at hq
      obtain ⟨k1, i, k2, k3⟩ := h.rm q hq
      exact ⟨g.sub k1, i, k2, by rw [g.row (.inl (by have := h.g.obd k1; omega))]; exact k3⟩
    · rcases wp with wp | wp | wp | wp
      · exact .inl wp
      · exact .inr (.inl wp)
      · exact .inr (.inr wp)
      · cases wp.1
    · rw [if_pos hc.1]
      have htlt : t < m.old ∨ (m.fwdAt false (t + 1 + j)).old ≤ t := by
        have := m.base_former; have := h.g.oldle; have := h.g.yl; have := h.g.sz.H0
        rcases ht with h1 | h1
        · have := h.g.ybd h1; omega
        · have := h.g.obd h1; omega
      have hi' : φ' t = some i := g.le _ _ hi
      obtain ⟨fs', g1, g2, g3⟩ := jj.s.shp t i hi'
      rw [hA] at g1
      injection g1 with g1
      have : fs = fs' := (Prod.mk.injEq .. ▸ g1).2
      subst this
      have hm' : (m.fwdAt false (t + 1 + j)).moved t = 0 := by
        by_cases hm : (m.fwdAt false (t + 1 + j)).moved t = 0
        · exact hm
        · exfalso
          rcases ht with h1 | h1
          · rcases (jj.g.mv t hm).1 with g4 | g4
            · -- young: not moved here
              have he2 : (m.fwdAt false (t + 1 + j)).moved t = m.moved t := by
                show (m.fwd false (m.word (t + 1 + j))).2.moved t = m.moved t
                unfold AM.fwd
                split
                · rename_i hou
                  split
                  · rfl
                  · have hne : t ≠ m.word (t + 1 + j) := fun e => by
                      have : m.isF t = true := by rw [e]; exact hou
                      rw [h.g.isFn (.inr (.inl h1))] at this; cases this
                    exact move_moved_ne m hne
                · rfl
              rw [he2] at hm; exact hm hmt
            · exact h.g.fy g4 h1
          · exact hm (jj.g.omoved (g.sub h1))
      have hrow := g.row htlt
      have := g3 hm' j (by rw [g2, hrow]; exact hj)
      rw [hrow, if_pos (by have := (ref_iff hj).1 hc.1; simp [List.getD_eq_getElem?_getD, this])] at this
      exact this
  · rw [if_neg hc]
    refine ⟨ln, φ, h, fun x hx => hx, Le.refl _, h1, fun hr => ?_, hold, rfl, rfl, rfl, rfl, rfl⟩
    have hbz : m.busy = false := by
      rw [hr] at hc; simpa using hc
    have hp : t + 1 + (j : Int) ∈ m.pl t := mem_pl.2 ⟨j, (ref_iff hj).1 hr, rfl⟩
    rcases ht with ht | ht
    · exact h.g.wy t ht _ hp
    · rcases h.g.wo t ht _ hp with g | g | g | g
      · exact .inl g
      · exact .inr (.inr g)
      · exact .inr (.inl g.1)
      · rw [h.g.nb hbz] at g; simp at g
end
end AM
end Go.Hm
