/-
  The plain machine: Flip, Step, Get, Set and Alloc keep what is in order. Nothing of the program is named here. No condition.
  The plain machine: Alloc, Set, Get and New keep what is in order. Nothing of the program is named here. No condition.
  Pictures of graphs: what roots reach, in the order in which it is met. Nothing of the program is named here. No condition.
  Pictures of graphs: lists that are ahead of others. Nothing of the program is named here. No condition.
  Acts: what each does to the plain machine and the roots. Nothing of the program is named here. No condition.
  Steps, and a whole collection: what they leave in the plain machine. Nothing of the program is named here. No condition.
  A whole collection in steps: the plain function, and what it leaves. Nothing of the program is named here. No condition.
  What acts keep of the plain machine: its shapes and its sizes. Nothing of the program is named here. No condition.
  The law of HeapRoom on the plain machine. Nothing of the program is named here. No condition.
  What the functions of package heap on one space return and do: has, word, room, begins, take, lay, empty, spaceOf. Conditions: what the heap holds, and that sizes are small.
  What spaceOf and the functions of package heap that read a memory return: made, size, find, current, in, Busy, Room, seen. Conditions: what the heap holds, and that sizes are small.
  What the functions of package heap that read a memory return: made, size, in, Busy, Shape, field, seen; what Alloc does. Conditions: what the heap holds, and that sizes are small.
  The fields of an object that refer, one by one: refs, and the function that it returns, called with a loop's yield. Conditions: what the heap holds, what the loop's rounds keep.
-/
import Derived.Test.YtmhmpjgkkpbnnaaGreatM3
import Derived.Test.YtmhmpjgkkpbnnaaGreatM2
namespace Go.Hm
namespace AM
section
variable {m : AM} {ly ln lf N rl rs : List Int} {sp a : Int} {φ : Int → Option Nat} {A : Store}
theorem turn_base (m : AM) : m.turn.base = m.former := by unfold turn base former; cases m.up <;> rfl
theorem turn_former (m : AM) : m.turn.former = m.base := by unfold turn base former; cases m.up <;> rfl
theorem turn_old (m : AM) : m.turn.old = m.former := by unfold turn base former; cases m.up <;> rfl
theorem turn_scan (m : AM) : m.turn.scan = m.former := by unfold turn base former; cases m.up <;> rfl
theorem Good.turn (h : Good m [] ln [] φ A) (hr : m.rem = []) : Good m.turn [] [] ln φ A := by
  have h0 := h.g.oldle
  obtain ⟨fe, hf1, hf2⟩ := h.g.f
  have hm0 : ∀ t, m.moved t = 0 := fun t => by
    by_cases hm : m.moved t = 0
    · exact hm
    · have := h.ym t hm; simp at this
  have hleft : m.left = 0 := h.g.left
  have hb := m.turn_base; have hf := m.turn_former; have ho := m.turn_old; have hs := m.turn_scan
  have hwf : ∀ t ∈ ln, ∀ p ∈ m.pl t, m.word p = 0 ∨ m.word p ∈ ln := fun t ht p hp => by
    rcases h.g.wo t ht p hp with g | g | g | g
    · exact .inl g
    · exact .inr g
    · have := g.1; simp at this
    · have := g.1; simp at this
  refine ⟨⟨⟨h.g.sz.Y0, h.g.sz.Y1, h.g.sz.H0, h.g.sz.H1, h.g.sz.n, h.g.sz.w⟩, ⟨h.g.y.tl, h.g.y.hd, fun t ht => by simp at ht⟩, h.g.yl, ⟨?_, fun t h1 h2 => ?_, fun t ht => by simp at ht⟩, ⟨m.old, ?_, ?_, ?_, h.g.o.ok⟩, h.g.hn, fun hq => ?_, ?_, ?_, fun _ => ?_, fun t ht => absurd (hm0 t) ht, fun t t' _ ht => absurd (hm0 t) ht, fun t ht => by simp at ht, fun t ht => by simp at ht, fun t ht => by simp at ht, List.nodup_nil, fun t ht => by simp at ht, hwf, h.g.fz⟩, ⟨fun t i hi => ?_, h.s.shp, h.s.mvd, h.s.inj⟩, fun t ht => absurd (hm0 t) ht, fun k hk => ?_, ?_⟩
  · rw [hb, ho]; rfl
  · rw [hb] at h1 h2
    have h2' : t ≤ m.former + m.H - 1 := h2
    by_cases hlt : fe ≤ t
    · exact hf2.hd t h1 h2'
    · exact hf2.hd t h1 h2'
  · rw [hf]; show m.old ≤ m.base + m.H; omega
  · rw [hf]; exact h.g.o.tl
  · rw [hf]; exact h.g.o.hd
  · have hq' : (true : Bool) = false := hq
    cases hq'
  · show m.old - m.base = _
    have h1 := h.g.o.tl.sum
    have h2 : m.turn.usum ln = AM.sum m.size ln := sum_congr fun a _ => by unfold us; exact if_pos (hm0 a)
    rw [h2, h1]
  · rw [ho, hb]
    show m.former + (m.old - m.base) + 0 ≤ m.former + m.H
    omega
  · rw [hb, hs, ho]; omega
  · rcases h.s.dom t i hi with g | g | g
    · simp at g
    · exact .inr (.inr g)
    · simp at g
  · have hk' : k ∈ m.rem := hk
    rw [hr] at hk'; simp at hk'
  · show m.rem.Nodup
    rw [hr]; exact List.nodup_nil
theorem rooted_ok {roots : List Int} (hr : m.rooted roots = 0) : roots.length ≤ 200 ∧ ∀ r ∈ roots, r = 0 ∨ m.cur r = true := by
  unfold rooted at hr
  split at hr
  · cases hr
  · rename_i h1
    split at hr
    · cases hr
    · rename_i h2
      refine ⟨by simp at h1; omega, fun r hr' => ?_⟩
      simp only [List.any_eq_true, not_exists, not_and] at h2
      have := h2 r hr'
      unfold bad at this
      by_cases h0 : r = 0
      · exact .inl h0
      · right
        simp [h0] at this; exact this
theorem Good.rooted (h : Good m ly ln lf φ A) {roots : List Int} (hr : m.rooted roots = 0) : ∀ r ∈ roots, r = 0 ∨ r ∈ ly ∨ r ∈ ln := fun r hr' => ((rooted_ok hr).2 r hr').imp id fun hc => h.g.cur_iff.1 hc
theorem minorErr_ok {roots : List Int} (he : m.minorErr roots = 0) : m.rooted roots = 0 ∧ m.needed roots ≤ m.base + m.H - m.old - m.left := by
  unfold minorErr at he
  split at he
  · rename_i h1; exact absurd he h1
  · rename_i h1
    split at he
    · cases he
    · rename_i h2; exact ⟨by simpa using h1, by omega⟩
theorem Good.minor (h : Good m ly ln lf φ A) {roots : List Int} (he : m.minorErr roots = 0) :
    ∃ ln' φ', Good (m.minor roots).2.2 [] ln' lf φ' A ∧ Roots ln' φ φ' roots (m.minor roots).1 ∧ (m.minor roots).2.2.sh = m.sh ∧ (m.minor roots).2.2.Y = m.Y ∧ (m.minor roots).2.2.H = m.H ∧ (m.minor roots).2.2.up = m.up ∧ (m.minor roots).2.2.busy = m.busy ∧
      (m.minor roots).2.2.new = 1 ∧ m.old ≤ (m.minor roots).2.2.old ∧ (m.minor roots).2.2.scan = m.scan := by
  obtain ⟨h1, h2⟩ := minorErr_ok he
  have := h.minorRun (h.rooted h1) h2
  unfold AM.minor
  rw [if_neg (by rw [he]; simp)]
  exact this
theorem minor_rem {roots : List Int} (he : m.minorErr roots = 0) : (m.minor roots).2.2.rem = [] := by
  unfold AM.minor; rw [if_neg (by rw [he]; simp)]; rfl
theorem minor_err {roots : List Int} (he : m.minorErr roots = 0) : (m.minor roots).2.1 = 0 := by
  unfold AM.minor; rw [if_neg (by rw [he]; simp)]
theorem minor_no {roots : List Int} (he : m.minorErr roots ≠ 0) : m.minor roots = ([], m.minorErr roots, m) := by
  unfold AM.minor; rw [if_pos he]
theorem Good.flip (h : Good m ly ln lf φ A) (hb : m.busy = false) {roots : List Int} (he : m.minorErr roots = 0) :
    ∃ ln' lf' φ', Good (m.flip roots).2.2 [] ln' lf' φ' A ∧ Roots ln' φ φ' roots (m.flip roots).1 ∧ (m.flip roots).2.1 = 0 ∧ (m.flip roots).2.2.sh = m.sh ∧ (m.flip roots).2.2.Y = m.Y ∧ (m.flip roots).2.2.H = m.H ∧ (m.flip roots).2.2.busy = true ∧ (m.flip roots).2.2.new = 1 := by
  obtain ⟨ln1, φ1, g1, ⟨r1, r2⟩, s1, s2, s3, s4, s5, s6, s7, s8⟩ := h.minor he
  have hlf : lf = [] := h.g.nb hb
  subst hlf
  have hrem := minor_rem he
  have hT := g1.turn hrem
  have hrl : (m.minor roots).2.2.turn.remP = [] := by unfold remP; show List.map _ (m.minor roots).2.2.rem = []; rw [hrem]; rfl
  have hg := hT.g
  obtain ⟨ln2, φ2, j2, q2, e2, w2, l2, p2⟩ := J.fwdL (A := A) (φ := φ1) false (m.minor roots).1 ⟨hg, hT.s⟩ (fun hq => by cases hq) (fun _ => rfl) (fun v hv ho => by
    obtain ⟨i, hi, rfl⟩ := List.getElem_of_mem hv
    have hF : (m.minor roots).2.2.turn.isF (m.minor roots).1[i] = true := ho
    rcases (r2 i (by omega) hi).1 with g | g
    · rw [hg.isFn (.inl g)] at hF; cases hF
    · simpa using g)
  have hfe : m.flip roots = ((AM.fwdL false (m.minor roots).1 (m.minor roots).2.2.turn).1, 0, (AM.fwdL false (m.minor roots).1 (m.minor roots).2.2.turn).2) := by
    unfold AM.flip
    rw [if_neg (by rw [hb]; simp)]
    simp only
    rw [if_neg (by rw [minor_err he]; simp)]
  rw [hfe]
  have hrem2 : (AM.fwdL false (m.minor roots).1 (m.minor roots).2.2.turn).2.rem = [] := q2.rem.trans hrem
  refine ⟨ln2, ln1, φ2, ⟨?_, j2.s, fun t ht => ?_, fun k hk => ?_, ?_⟩, ⟨l2.trans r1, fun i hi hi' => ?_⟩, rfl, q2.sh.trans s1, q2.Y.trans s2, q2.H.trans s3, q2.busy, q2.new.trans s6⟩
  · have : (AM.fwdL false (m.minor roots).1 (m.minor roots).2.2.turn).2.remP = [] := by unfold remP; rw [hrem2]; rfl
    rw [this, q2.base, q2.H]
    rw [hrl] at j2
    exact j2.g
  · exact ((j2.g.mv t ht).1).resolve_left (by simp)
  · simp only [hrem2] at hk; simp at hk
  · simp only [hrem2]; exact List.nodup_nil
  · obtain ⟨a1, a2⟩ := r2 i hi (by omega)
    obtain ⟨a3, a4⟩ := p2 i (by omega) hi'
    refine ⟨?_, fun x hx => a4 x (a2 x hx)⟩
    by_cases ho : (m.minor roots).2.2.turn.ours false (m.minor roots).1[i] = true
    · rw [if_pos ho] at a3; exact .inr a3
    · rw [if_neg ho] at a3
      rcases a1 with g | g
      · left; rw [a3]; exact g
      · exact absurd (ours_of (y := false) (N := []) hg (by simpa using g)) ho

/-! ### Step -/
theorem obj_at : ∀ (k : Nat) {t : Int}, (∀ x, t < x → x ≤ t + k → m.head x = 0) → m.head t ≠ 0 → ∀ f, k ≤ f → m.obj f (t + k) = t
  | 0, t, _, h, f, _ => by
    cases f with
    | zero => simp [obj]
    | succ f => unfold obj; rw [if_neg (by simpa using h)]; simp
  | k + 1, t, hz, h, f, hf => by
    obtain ⟨f, rfl⟩ : ∃ g, f = g + 1 := ⟨f - 1, by omega⟩
    unfold obj
    rw [if_pos (hz _ (by omega) (by omega)), show t + ((k + 1 : Nat) : Int) - 1 = t + (k : Nat) by omega]
    exact obj_at k (fun x h1 h2 => hz x h1 (by omega)) h f (by omega)
theorem Gd.inner (h : Gd m ly ln lf N rl sp rs) {t x : Int} (ht : t ∈ ln) (h1 : t < x) (h2 : x < t + m.size t) : m.head x = 0 := by
  have hn := h.hn x
  have := h.obd ht; have := h.oldle
  by_cases hp : 0 < m.head x
  · have hx := (h.o.hd x (by omega) (by omega)).1 hp
    have := h.o.tl.inside ht hx (by omega) h2
    omega
  · omega
theorem Gd.scanned (h : Gd m ly ln lf N rl sp rs) (h1 : m.base ≤ m.scan) (h2 : m.scan < m.old) : ∃ a ∈ ln, a ≤ m.scan ∧ m.scan < a + m.size a ∧ m.obj m.H.toNat m.scan = a ∧ (m.isRef m.scan = true ↔ m.scan ∈ m.pl a) := by
  obtain ⟨a, ha, h3, h4⟩ := h.o.tl.cover m.scan h1 h2
  have hab := h.obd ha; have h0 := h.oldle; have hH := h.sz.H0
  have ho : m.obj m.H.toNat m.scan = a := by
    have := obj_at (m := m) (m.scan - a).toNat (t := a) (fun x g1 g2 => h.inner ha g1 (by omega)) (by have := h.ohead ha; omega) m.H.toNat (by omega)
    rw [show a + ((m.scan - a).toNat : Int) = m.scan by omega] at this; exact this
  refine ⟨a, ha, h3, h4, ho, ?_⟩
  unfold isRef
  rw [ho]
  simp only [Bool.and_eq_true, decide_eq_true_eq]
  rw [mem_pl]
  constructor
  · rintro ⟨g1, g2⟩
    have hl : (m.scan - a - 1).toNat < (m.row a).length := by unfold AM.size at h4; omega
    unfold ref at g2
    obtain ⟨k, hk⟩ : ∃ k, (m.scan - a - 1).toNat = k := ⟨_, rfl⟩
    rw [hk] at g2 hl
    refine ⟨k, ?_, by omega⟩
    rw [List.getElem?_eq_getElem hl]
    simpa [List.getD_eq_getElem?_getD, hl] using g2
  · rintro ⟨k, g1, g2⟩
    refine ⟨by omega, ?_⟩
    unfold ref
    rw [show (m.scan - a - 1).toNat = k by omega]
    simp [List.getD_eq_getElem?_getD, g1]
theorem Gd.scan1 (h : Gd m ly ln lf N rl sp rs) (h2 : m.scan < m.old) (hw : ∀ t ∈ ln, m.scan ∈ m.pl t → m.word m.scan ∉ lf) : Gd { m with scan := m.scan + 1 } ly ln lf N rl sp rs := by
  refine ⟨⟨h.sz.Y0, h.sz.Y1, h.sz.H0, h.sz.H1, h.sz.n, h.sz.w⟩, ⟨h.y.tl, h.y.hd, h.y.ok⟩, h.yl, ⟨h.o.tl, h.o.hd, h.o.ok⟩, ?_, h.hn, h.nb, h.left, h.room, fun hb => ?_, h.mv, h.mi, h.wy, h.wN, h.NY, h.Nn, fun t ht p hp => ?_, h.wf, h.fz⟩
  · obtain ⟨fe, g1, g2⟩ := h.f; exact ⟨fe, g1, g2.tl, g2.hd, g2.ok⟩
  · obtain ⟨g1, g2⟩ := h.sc hb
    exact ⟨by show m.base ≤ m.scan + 1; omega, by show m.scan + 1 ≤ m.old; omega⟩
  · rcases h.wo t ht p hp with g | g | g | g
    · exact .inl g
    · exact .inr (.inl g)
    · exact .inr (.inr (.inl g))
    · refine .inr (.inr (.inr ⟨g.1, ?_⟩))
      have hne : p ≠ m.scan := fun e => hw t ht (by rw [← e]; exact hp) (by rw [← e]; exact g.1)
      have := g.2
      show m.scan + 1 ≤ p
      omega
theorem Good.step1 (h : Good m ly ln lf φ A) (hb : m.busy = true) (hs : m.scan < m.old) :
    ∃ ln' φ', Good m.step1 ly ln' lf φ' A ∧ (∀ t ∈ ln, t ∈ ln') ∧ Le φ φ' ∧ m.step1.sh = m.sh ∧ m.step1.Y = m.Y ∧ m.step1.H = m.H ∧ m.step1.up = m.up ∧ m.step1.busy = true ∧ m.step1.new = m.new ∧ m.step1.scan = m.scan + 1 ∧ m.old ≤ m.step1.old := by
  obtain ⟨h1, _⟩ := h.g.sc hb
  obtain ⟨a, ha, h3, h4, ho, hr⟩ := h.g.scanned h1 hs
  by_cases hc : m.isRef m.scan = true
  · have hp := hr.1 hc
    obtain ⟨ln', φ', j, g, sc, w, wp⟩ := J.fwdAt (A := A) (φ := φ) ⟨h.g, h.s⟩ false (rl' := m.remP) (sp' := m.base + m.H) (.inl ha) hp (fun hq => by cases hq) (fun _ => rfl) (fun q _ hq => hq)
    have hst : m.step1 = { m.fwdAt false m.scan with scan := (m.fwdAt false m.scan).scan + 1 } := by unfold AM.step1; simp only; rw [if_pos hc]
    have hG : Gd m.step1 ly ln' lf ly m.remP (m.base + m.H) [] := by
      rw [hst]
      refine j.g.scan1 (by rw [sc]; have := g.old; omega) fun t ht hpt => ?_
      rw [sc]
      rcases wp with wp | wp | wp | wp
      · rw [wp]; exact j.g.notY0.2.2
      · exact fun hh => j.g.fy hh wp
      · exact fun hh => j.g.of wp hh
      · cases wp.1
    have hrem : m.step1.rem = m.rem := by rw [hst]; exact g.rem
    have hbase : m.step1.base = m.base := by rw [hst]; exact g.base
    have hH : m.step1.H = m.H := by rw [hst]; exact g.H
    refine ⟨ln', φ', ⟨?_, ?_, fun t ht => ?_, fun k hk => ?_, by rw [hrem]; exact h.rn⟩, fun t ht => g.sub ht, g.le, by rw [hst]; exact g.sh, by rw [hst]; exact g.Y, hH, by rw [hst]; exact g.up, by rw [hst]; exact g.busy.trans hb, by rw [hst]; exact g.new, by rw [hst]; show (m.fwdAt false m.scan).scan + 1 = _; rw [sc], by rw [hst]; exact g.old⟩
    · have : m.step1.remP = m.remP := by unfold remP; rw [hrem]
      rw [this, hbase, hH]; exact hG
    · rw [hst]; exact ⟨j.s.dom, j.s.shp, j.s.mvd, j.s.inj⟩
    · rw [hst] at ht
      rcases (j.g.mv t ht).1 with g1 | g1
      · -- a young object is moved by nothing here
        have hyf : m.moved t ≠ 0 → False := fun hm => h.g.fy (h.ym t hm) g1
        have he : (m.fwdAt false m.scan).moved t = m.moved t := by
          show (m.fwd false (m.word m.scan)).2.moved t = m.moved t
          unfold AM.fwd
          split
          · rename_i hou
            split
            · rfl
            · have hne : t ≠ m.word m.scan := fun e => by
                have : m.isF t = true := by rw [e]; exact hou
                rw [h.g.isFn (.inr (.inl g1))] at this; cases this
              exact move_moved_ne m hne
          · rfl
        exact absurd (he ▸ ht) (fun hm => hyf hm)
      · exact g1
    · rw [hrem] at hk
      obtain ⟨k1, jj, k2, k3⟩ := h.rm k hk
      refine ⟨g.sub k1, jj, k2, ?_⟩
      have : m.step1.row k.1 = m.row k.1 := by rw [hst]; exact g.row (.inl (by have := h.g.obd k1; omega))
      rw [this]; exact k3
  · have hst : m.step1 = { m with scan := m.scan + 1 } := by unfold AM.step1; simp only; rw [if_neg hc]
    rw [hst]
    refine ⟨ln, φ, ⟨h.g.scan1 hs fun t ht hpt => ?_, ⟨h.s.dom, h.s.shp, h.s.mvd, h.s.inj⟩, h.ym, h.rm, h.rn⟩, fun t ht => ht, Le.refl _, rfl, rfl, rfl, rfl, hb, rfl, rfl, Int.le_refl _⟩
    have hpb := pl_bd hpt
    have := h.g.same (.inr (.inl ht)) (.inr (.inl ha)) (p := m.scan) (by omega) (by omega) h3 h4
    subst this
    exact absurd (hr.2 hpt) hc
theorem Good.steps : ∀ (k : Nat) {m : AM} {ln : List Int} {φ : Int → Option Nat}, Good m ly ln lf φ A → m.busy = true →
    ∃ ln' φ', Good (AM.steps k m) ly ln' lf φ' A ∧ (∀ t ∈ ln, t ∈ ln') ∧ Le φ φ' ∧ (AM.steps k m).sh = m.sh ∧ (AM.steps k m).Y = m.Y ∧ (AM.steps k m).H = m.H ∧ (AM.steps k m).up = m.up ∧ (AM.steps k m).busy = true ∧ (AM.steps k m).new = m.new ∧ m.old ≤ (AM.steps k m).old ∧ (AM.steps k m).scan ≤ (AM.steps k m).old ∧ (m.scan + k ≤ (AM.steps k m).scan ∨ (AM.steps k m).scan = (AM.steps k m).old)
  | 0, m, ln, φ, h, hb => ⟨ln, φ, h, fun _ ht => ht, Le.refl _, rfl, rfl, rfl, rfl, hb, rfl, Int.le_refl _, (h.g.sc hb).2, .inl (by show m.scan + ((0 : Nat) : Int) ≤ m.scan; omega)⟩
  | k + 1, m, ln, φ, h, hb => by
    by_cases hs : m.scan < m.old
    · obtain ⟨ln1, φ1, g1, a1, a2, a3, a4, a5, a6, a7, a8, a9, a10⟩ := h.step1 hb hs
      obtain ⟨ln2, φ2, g2, b1, b2, b3, b4, b5, b6, b7, b8, b9, b10, b11⟩ := Good.steps k g1 a7
      have he : AM.steps (k + 1) m = AM.steps k m.step1 := by show (if _ then _ else _) = _; rw [if_pos hs]
      rw [he]
      exact ⟨ln2, φ2, g2, fun t ht => b1 t (a1 t ht), a2.trans b2, b3.trans a3, b4.trans a4, b5.trans a5, b6.trans a6, b7, b8.trans a8, by omega, b10, by rcases b11 with b | b; left; omega; exact .inr b⟩
    · have he : AM.steps (k + 1) m = m := by show (if _ then _ else _) = _; rw [if_neg hs]
      rw [he]
      have := (h.g.sc hb).2
      exact ⟨ln, φ, h, fun _ ht => ht, Le.refl _, rfl, rfl, rfl, rfl, hb, rfl, Int.le_refl _, this, .inr (by omega)⟩
theorem Good.fin (h : Good m ly ln lf φ A) (hb : m.busy = true) (hs : m.scan = m.old) : Good m.fin ly ln [] (fun t => if t ∈ lf then none else φ t) A := by
  have h0 := h.g.oldle; have hb' := m.base_former; have hY := h.g.sz.Y0; have hH := h.g.sz.H0; have hyl := h.g.yl
  have hout : ∀ {t p : Int}, t ∈ ly ∨ t ∈ ln → t ≤ p → p < t + m.size t → p < m.former ∨ m.former + m.H ≤ p := fun {t p} ht h1 h2 => by
    rcases ht with ht | ht
    · have := h.g.ybd ht; omega
    · have := h.g.obd ht; omega
  have hrow : ∀ {t : Int}, t ∈ ly ∨ t ∈ ln → m.fin.row t = m.row t := fun {t} ht => by
    show m.sh.getD ((m.clear m.former m.H).head t - 1).toNat [] = _
    rw [(clear_other (hout ht (Int.le_refl _) (by have := m.size_pos t; omega))).2.1]; rfl
  have hsz : ∀ {t : Int}, t ∈ ly ∨ t ∈ ln → m.fin.size t = m.size t := fun {t} ht => by unfold size; rw [hrow ht]
  have hpl : ∀ {t : Int}, t ∈ ly ∨ t ∈ ln → m.fin.pl t = m.pl t := fun {t} ht => by unfold pl; rw [hrow ht]
  have hhd : ∀ {t : Int}, t ∈ ly ∨ t ∈ ln → m.fin.head t = m.head t := fun {t} ht => (clear_other (hout ht (Int.le_refl _) (by have := m.size_pos t; omega))).2.1
  have hwd : ∀ {t p : Int}, t ∈ ly ∨ t ∈ ln → t < p → p < t + m.size t → m.fin.word p = m.word p := fun {t p} ht h1 h2 => (clear_other (hout ht (by omega) h2)).1
  have hgt : ∀ x, x < m.former ∨ m.former + m.H ≤ x → m.fin.head x = m.head x ∧ m.fin.moved x = m.moved x := fun x hx => ⟨(clear_other hx).2.1, (clear_other hx).2.2⟩
  have hin : ∀ x, m.former ≤ x → x < m.former + m.H → m.fin.word x = 0 ∧ m.fin.head x = 0 ∧ m.fin.moved x = 0 := fun x h1 h2 => clear_in h1 h2
  have hmz : ∀ t, m.fin.moved t = 0 := fun t => by
    by_cases hi : m.former ≤ t ∧ t < m.former + m.H
    · exact (hin t hi.1 hi.2).2.2
    · rw [(hgt t (by omega)).2]
      by_cases hm : m.moved t = 0
      · exact hm
      · have := h.g.fbd (h.ym t hm); omega
  have hwo : ∀ t ∈ ln, ∀ p ∈ m.pl t, m.word p = 0 ∨ m.word p ∈ ln ∨ (m.word p ∈ ly ∧ (p ∈ m.remP ∨ m.base + m.H ≤ p)) := fun t ht p hp => by
    rcases h.g.wo t ht p hp with g | g | g | g
    · exact .inl g
    · exact .inr (.inl g)
    · exact .inr (.inr g)
    · have := pl_bd hp; have := h.g.obd ht; omega
  have hVr : ∀ {w x : Int}, V φ w x → w ∉ lf → V (fun t => if t ∈ lf then none else φ t) w x := fun {w x} hv hw => by
    rcases hv with hv | ⟨j, h1, h2⟩
    · exact .inl hv
    · exact .inr ⟨j, by show (if w ∈ lf then none else φ w) = some j; rw [if_neg hw]; exact h1, h2⟩
  have hnf : ∀ {w : Int}, w = 0 ∨ w ∈ ln ∨ w ∈ ly → w ∉ lf := fun {w} hw hf => by
    rcases hw with g | g | g
    · rw [g] at hf; exact h.g.notY0.2.2 hf
    · exact h.g.of g hf
    · exact h.g.fy hf g
  have hrp : m.fin.remP = m.remP := rfl
  have hfb : m.fin.base = m.base := rfl
  refine ⟨⟨⟨h.g.sz.Y0, h.g.sz.Y1, h.g.sz.H0, h.g.sz.H1, h.g.sz.n, h.g.sz.w⟩, ⟨?_, fun t h1 h2 => ?_, fun t ht => ?_⟩, h.g.yl, ⟨?_, fun t h1 h2 => ?_, fun t ht => ?_⟩, ⟨m.former, ?_, rfl, fun t h1 h2 => ?_, fun t ht => by simp at ht⟩, fun t => ?_, fun _ => rfl, rfl, ?_, fun hq => ?_, fun t ht => absurd (hmz t) ht, fun t t' _ ht => absurd (hmz t) ht, fun t ht p hp => ?_, fun t ht p hp hw => hw, fun t ht => ht, h.g.Nn, fun t ht p hp => ?_, fun t ht => by simp at ht, fun t h1 h2 => ?_⟩, ⟨fun t i hi => ?_, fun t i hi => ?_, fun t i hi hm => absurd (hmz t) hm, fun t t' i hi hi' hm hm' => ?_⟩, fun t ht => absurd (hmz t) ht, fun k hk => ?_, h.rn⟩
  · exact h.g.y.tl.congr fun t ht => hsz (.inl ht)
  · have h2' : t ≤ m.Y := h2
    rw [(hgt t (by omega)).1]; exact h.g.y.hd t h1 h2
  · rw [hhd (.inl ht)]; exact h.g.y.ok t ht
  · exact h.g.o.tl.congr fun t ht => hsz (.inr ht)
  · have h1' : m.base ≤ t := h1
    have h2' : t ≤ m.base + m.H - 1 := h2
    rw [(hgt t (by omega)).1]; exact h.g.o.hd t h1 h2
  · rw [hhd (.inr ht)]; exact h.g.o.ok t ht
  · show m.former ≤ m.former + m.H; omega
  · have h1' : m.former ≤ t := h1
    have h2' : t ≤ m.former + m.H - 1 := h2
    rw [(hin t h1' (by omega)).2.1]; simp
  · by_cases hi : m.former ≤ t ∧ t < m.former + m.H
    · rw [(hin t hi.1 hi.2).2.1]; omega
    · rw [(hgt t (by omega)).1]; exact h.g.hn t
  · show m.old + 0 + 0 ≤ m.base + m.H; omega
  · have hq' : (false : Bool) = true := hq
    cases hq'
  · rw [hpl (.inl ht)] at hp
    have := pl_bd hp
    rw [hwd (.inl ht) this.1 this.2]; exact h.g.wy t ht p hp
  · rw [hpl (.inr ht)] at hp
    have := pl_bd hp
    rw [hwd (.inr ht) this.1 this.2]
    rcases hwo t ht p hp with g | g | g
    · exact .inl g
    · exact .inr (.inl g)
    · exact .inr (.inr (.inl g))
  · have h1' : m.new ≤ t := h1
    have h2' : t ≤ m.Y := h2
    have h3' := h.g.newle
    rw [show m.fin.word t = m.word t from (clear_other (by omega)).1]; exact h.g.fz t h1 h2
  · by_cases hty : t ∈ lf
    · rw [if_pos hty] at hi; cases hi
    · rw [if_neg hty] at hi
      rcases h.s.dom t i hi with g | g | g
      · exact .inl g
      · exact .inr (.inl g)
      · exact absurd g hty
  · by_cases hty : t ∈ lf
    · rw [if_pos hty] at hi; cases hi
    · rw [if_neg hty] at hi
      have hd : t ∈ ly ∨ t ∈ ln := by
        rcases h.s.dom t i hi with g | g | g
        · exact .inl g
        · exact .inr g
        · exact absurd g hty
      obtain ⟨fs, h1, h2, h3⟩ := h.s.shp t i hi
      refine ⟨fs, by rw [hhd hd]; exact h1, by rw [hrow hd]; exact h2, fun _ k hk => ?_⟩
      have hm0 : m.moved t = 0 := by
        by_cases hm : m.moved t = 0
        · exact hm
        · exact absurd (h.ym t hm) hty
      have h4 := h3 hm0 k hk
      rw [hrow hd, hwd hd (by omega) (by unfold size; omega)]
      split
      · rename_i hr
        rw [if_pos hr] at h4
        refine hVr h4 ?_
        have hkl : k < (m.row t).length := by omega
        have hp : t + 1 + (k : Int) ∈ m.pl t := mem_pl.2 ⟨k, by rw [List.getElem?_eq_getElem hkl]; simpa [List.getD_eq_getElem?_getD, hkl] using hr, rfl⟩
        rcases hd with hd | hd
        · exact hnf (by rcases h.g.wy t hd _ hp with g | g | g; exact .inl g; exact .inr (.inr g); exact .inr (.inl g))
        · exact hnf (by rcases hwo t hd _ hp with g | g | g; exact .inl g; exact .inr (.inl g); exact .inr (.inr g.1))
      · rename_i hr; rw [if_neg hr] at h4; exact h4
  · by_cases hty : t ∈ lf
    · rw [if_pos hty] at hi; cases hi
    · by_cases hty' : t' ∈ lf
      · rw [if_pos hty'] at hi'; cases hi'
      · rw [if_neg hty] at hi
        rw [if_neg hty'] at hi'
        have hz : ∀ x, x ∉ lf → m.moved x = 0 := fun x hx => by
          by_cases hm : m.moved x = 0
          · exact hm
          · exact absurd (h.ym x hm) hx
        exact h.s.inj t t' i hi hi' (hz t hty) (hz t' hty')
  · obtain ⟨k1, j, k2, k3⟩ := h.rm k hk
    exact ⟨k1, j, k2, by rw [hrow (.inr k1)]; exact k3⟩
end
end AM
end Go.Hm
namespace Go.Hm
namespace AM
def setf (A : Store) (i k : Nat) (x : Int) : Store := A.modify i fun q => (q.1, q.2.set k x)
section
variable {m : AM} {ly ln lf N rl rs : List Int} {sp a : Int} {φ : Int → Option Nat} {A : Store}
theorem Good.new {sh : List (List Bool)} {half young : Int} (h1 : 1 ≤ half) (h2 : half ≤ 4096) (h3 : 1 ≤ young) (h4 : young ≤ 1024) (h5 : sh.length ≤ 60) (h6 : ∀ l ∈ sh, l.length ≤ 60) : Good (new' sh half young) [] [] [] (fun _ => none) [] := by
  have hb : (new' sh half young).base = young + 1 := rfl
  have hf : (new' sh half young).former = young + half + 1 := rfl
  refine ⟨⟨⟨h3, by show young ≤ 400000; omega, h1, by show half ≤ 100000; omega, by show sh.length ≤ 100; omega, fun l hl => by have := h6 l hl; omega⟩, ⟨rfl, fun t _ _ => by simp [new'], fun t ht => by simp at ht⟩, by show (1 : Int) ≤ young + 1; omega, ⟨rfl, fun t _ _ => by simp [new'], fun t ht => by simp at ht⟩, ⟨(new' sh half young).former, by rw [hf]; show _ ≤ young + half + 1 + half; omega, rfl, fun t _ _ => by simp [new'], fun t ht => by simp at ht⟩, fun t => Int.le_refl _, fun _ => rfl, rfl, ?_, (fun hq => by cases hq), fun t ht => absurd rfl ht, fun t t' _ ht => absurd rfl ht, fun t ht => by simp at ht, fun t ht => by simp at ht, fun t ht => by simp at ht, List.nodup_nil, fun t ht => by simp at ht, fun t ht => by simp at ht, fun t _ _ => rfl⟩, Sim.none .., fun t ht => absurd rfl ht, fun k hk => by simp [new'] at hk, List.nodup_nil⟩
  rw [hb]; show young + 1 + 0 + 0 ≤ young + 1 + half; omega

theorem Good.moved0 (h : Good m ly ln lf φ A) {t : Int} (ht : t ∈ ly ∨ t ∈ ln) : m.moved t = 0 := by
  by_cases hm : m.moved t = 0
  · exact hm
  · have := h.ym t hm
    rcases ht with ht | ht
    · exact absurd ht (h.g.fy this)
    · exact absurd this (h.g.of ht)
theorem Good.alloc (h : Good m ly ln lf φ A) {s : Int} (he : (m.alloc s).2.1 = 0) :
    Good (m.alloc s).2.2 (ly ++ [m.new]) ln lf (fun t => if t = m.new then some A.length else φ t) (A ++ [(s, List.replicate (m.sh.getD s.toNat []).length 0)]) ∧ Le φ (fun t => if t = m.new then some A.length else φ t) ∧ (m.alloc s).1 = m.new ∧
      0 ≤ s ∧ s < m.sh.length ∧ (m.alloc s).2.2 = { m with head := fup m.head m.new (s + 1), new := m.new + (1 + (m.sh.getD s.toNat []).length) } := by
  unfold AM.alloc at he ⊢
  split at he
  · cases he
  · rename_i h1
    rw [if_neg h1]
    simp only [Bool.or_eq_true, decide_eq_true_eq, not_or] at h1
    simp only at he ⊢
    split at he
    · cases he
    · rename_i h2
      rw [if_neg h2]
      simp only [decide_eq_true_eq] at h2
      have hb := m.base_former; have h0 := h.g.oldle; have hyl := h.g.yl; have hn1 := h.g.newle; have hH := h.g.sz.H0
      obtain ⟨m', hm'⟩ : ∃ m', m' = ({ m with head := fup m.head m.new (s + 1), new := m.new + (1 + ((m.sh.getD s.toNat []).length : Int)) } : AM) := ⟨_, rfl⟩
      rw [← hm']
      have hny : m.new ∉ ly := fun hq => by have := h.g.ybd hq; omega
      have hno : m.new ∉ ln := fun hq => by have := h.g.obd hq; omega
      have hnf : m.new ∉ lf := fun hq => by have := h.g.fbd hq; omega
      have hnφ : φ m.new = none := by
        cases hq : φ m.new with
        | none => rfl
        | some i => exact absurd (h.s.dom _ _ hq) (by simp [hny, hno, hnf])
      have hle : Le φ (fun t => if t = m.new then some A.length else φ t) := fun t i ht => by
        show (if t = m.new then some A.length else φ t) = some i
        rw [if_neg (fun e => by rw [e, hnφ] at ht; cases ht)]; exact ht
      have hhd : ∀ t, t ≠ m.new → m'.head t = m.head t := fun t ht => by rw [hm']; exact fup_other ht
      have hhn : m'.head m.new = s + 1 := by rw [hm']; exact fup_same ..
      have hwd : m'.word = m.word := by rw [hm']
      have hmv : m'.moved = m.moved := by rw [hm']
      have hrow : ∀ t, t ≠ m.new → m'.row t = m.row t := fun t ht => by unfold row; rw [hhd t ht, hm']
      have hrn : m'.row m.new = m.sh.getD s.toNat [] := by unfold row; rw [hhn, hm']; simp
      have hsz : ∀ t, t ≠ m.new → m'.size t = m.size t := fun t ht => by unfold size; rw [hrow t ht]
      have hsn : m'.size m.new = 1 + ((m.sh.getD s.toNat []).length : Int) := by unfold size; rw [hrn]
      have hpl : ∀ t, t ≠ m.new → m'.pl t = m.pl t := fun t ht => by unfold pl; rw [hrow t ht]
      have hney : ∀ {t : Int}, t ∈ ly → t ≠ m.new := fun ht e => hny (e ▸ ht)
      have hneo : ∀ {t : Int}, t ∈ ln → t ≠ m.new := fun ht e => hno (e ▸ ht)
      have hnef : ∀ {t : Int}, t ∈ lf → t ≠ m.new := fun ht e => hnf (e ▸ ht)
      have hnb : m'.base = m.base := by rw [hm']; rfl
      have hnfm : m'.former = m.former := by rw [hm']; rfl
      have hnH : m'.H = m.H := by rw [hm']
      have hnY : m'.Y = m.Y := by rw [hm']
      have hno' : m'.old = m.old := by rw [hm']
      have hnn : m'.new = m.new + (1 + ((m.sh.getD s.toNat []).length : Int)) := by rw [hm']
      have hnl : m'.left = m.left := by rw [hm']
      have hnsc : m'.scan = m.scan := by rw [hm']
      have hnbz : m'.busy = m.busy := by rw [hm']
      have hnsh : m'.sh = m.sh := by rw [hm']
      have hnr : m'.rem = m.rem := by rw [hm']
      have hus : m'.usum lf = m.usum lf := sum_congr fun a ha => by unfold us; rw [hmv, hsz a (hnef ha)]
      have hrp : m'.remP = m.remP := by unfold remP; rw [hnr]
      refine ⟨⟨⟨⟨by rw [hnY]; exact h.g.sz.Y0, by rw [hnY]; exact h.g.sz.Y1, by rw [hnH]; exact h.g.sz.H0, by rw [hnH]; exact h.g.sz.H1, by rw [hnsh]; exact h.g.sz.n, by rw [hnsh]; exact h.g.sz.w⟩, ⟨?_, fun t g1 g2 => ?_, fun t ht => ?_⟩, by rw [hnn, hnY]; omega, ⟨?_, fun t g1 g2 => ?_, fun t ht => ?_⟩, ?_, fun t => ?_, by rw [hnbz]; exact h.g.nb, by rw [hnl, hus]; exact h.g.left, by rw [hno', hnl, hnb, hnH]; exact h.g.room, by rw [hnbz, hnb, hnsc, hno']; exact h.g.sc, fun t ht => ?_, by rw [hmv]; exact h.g.mi, fun t ht p hp => ?_, fun t _ p _ hw => hw, fun t ht => ht, ?_, fun t ht p hp => ?_, fun t ht p hp => ?_, fun t g1 g2 => ?_⟩, ⟨fun t i hi => ?_, fun t i hi => ?_, fun t i hi hm => ?_, fun t t' i hi hi' hm hmm => ?_⟩, by rw [hmv]; exact h.ym, fun k hk => ?_, by rw [hnr]; exact h.rn⟩, hle, rfl, by omega, by omega, rfl⟩
      · have g1 : Tl m'.size 1 m.new ly := h.g.y.tl.congr fun t ht => hsz t (hney ht)
        have := Tl.snoc (by rw [hsn]; omega) g1
        rw [hsn] at this
        rw [hnn]; exact this
      · rw [hnY] at g2
        rw [List.mem_append, List.mem_singleton]
        by_cases hq : t = m.new
        · rw [hq, hhn]; exact ⟨fun _ => .inr rfl, fun _ => by omega⟩
        · rw [hhd t hq, h.g.y.hd t g1 g2]; simp [hq]
      · rw [hnsh]
        rcases List.mem_append.1 ht with ht | ht
        · rw [hhd t (hney ht)]; exact h.g.y.ok t ht
        · rw [List.mem_singleton.1 ht, hhn]; omega
      · rw [hnb, hno']; exact h.g.o.tl.congr fun t ht => hsz t (hneo ht)
      · rw [hnb] at g1
        rw [hnb, hnH] at g2
        rw [hhd t (by omega)]; exact h.g.o.hd t g1 g2
      · rw [hnsh, hhd t (hneo ht)]; exact h.g.o.ok t ht
      · obtain ⟨fe, f1, f2⟩ := h.g.f
        refine ⟨fe, by rw [hnfm, hnH]; exact f1, ?_, fun t g1 g2 => ?_, fun t ht => ?_⟩
        · rw [hnfm]; exact f2.tl.congr fun t ht => hsz t (hnef ht)
        · rw [hnfm] at g1
          rw [hnfm, hnH] at g2
          rw [hhd t (by omega)]; exact f2.hd t g1 g2
        · rw [hnsh, hhd t (hnef ht)]; exact f2.ok t ht
      · by_cases hq : t = m.new
        · rw [hq, hhn]; omega
        · rw [hhd t hq]; exact h.g.hn t
      · rw [hmv] at ht ⊢
        obtain ⟨g1, g2, g3⟩ := h.g.mv t ht
        have htf := h.ym t ht
        exact ⟨.inr htf, g2, by rw [hhd _ (hneo g2), hhd t (hnef htf)]; exact g3⟩
      · rw [hwd]
        rcases List.mem_append.1 ht with ht | ht
        · rw [hpl t (hney ht)] at hp
          rcases h.g.wy t ht p hp with g | g | g
          · exact .inl g
          · exact .inr (.inl (List.mem_append_left _ g))
          · exact .inr (.inr g)
        · have ht := List.mem_singleton.1 ht
          have hpb := pl_bd hp
          rw [ht, hsn] at hpb
          exact .inl (h.g.fz p (by omega) (by omega))
      · exact List.nodup_append.2 ⟨h.g.Nn, by simp, fun x hx y hy e => by simp at hy; subst hy; exact hny (e ▸ hx)⟩
      · rw [hwd, hrp, hnb, hnH]
        rw [hpl t (hneo ht)] at hp
        rcases h.g.wo t ht p hp with g | g | g | g
        · exact .inl g
        · exact .inr (.inl g)
        · exact .inr (.inr (.inl ⟨List.mem_append_left _ g.1, g.2⟩))
        · exact .inr (.inr (.inr (by rw [hnsc]; exact g)))
      · rw [hwd]
        rw [hpl t (hnef ht)] at hp
        exact h.g.wf t ht p hp
      · rw [hwd]
        rw [hnn] at g1
        rw [hnY] at g2
        exact h.g.fz t (by omega) g2
      · by_cases hq : t = m.new
        · exact .inl (by simp [hq])
        · rw [if_neg hq] at hi
          rcases h.s.dom t i hi with g | g
          · exact .inl (List.mem_append_left _ g)
          · exact .inr g
      · by_cases hq : t = m.new
        · subst hq
          rw [if_pos rfl] at hi
          injection hi with hi
          subst hi
          refine ⟨List.replicate (m.sh.getD s.toNat []).length 0, by rw [hhn]; simp, by rw [hrn]; simp, fun _ k hk => ?_⟩
          have hk' : k < (m.sh.getD s.toNat []).length := by simpa using hk
          have hz : m'.word (m.new + 1 + k) = 0 := by rw [hwd]; exact h.g.fz _ (by omega) (by omega)
          have hz' : (List.replicate (m.sh.getD s.toNat []).length (0 : Int)).getD k 0 = 0 := by rw [List.getD_eq_getElem?_getD, List.getElem?_replicate]; split <;> rfl
          rw [hz, hz']
          split
          · exact .inl ⟨rfl, rfl⟩
          · rfl
        · rw [if_neg hq] at hi
          obtain ⟨fs, g1, g2, g3⟩ := h.s.shp t i hi
          refine ⟨fs, ?_, by rw [hrow t hq]; exact g2, fun hm k hk => ?_⟩
          · rw [hhd t hq, List.getElem?_append_left (List.getElem?_eq_some_iff.1 g1).1]; exact g1
          · rw [hmv] at hm
            have g4 := g3 hm k hk
            rw [hrow t hq, hwd]
            split
            · rename_i hr; rw [if_pos hr] at g4; exact g4.mono hle
            · rename_i hr; rw [if_neg hr] at g4; exact g4
      · rw [hmv] at hm ⊢
        have htf := h.ym t hm
        rw [if_neg (hnef htf)] at hi
        exact hle _ _ (h.s.mvd t i hi hm)
      · rw [hmv] at hm hmm
        have key : ∀ {t i}, φ t = some i → i < A.length := fun {t i} hq => by obtain ⟨fs, g1, _⟩ := h.s.shp t i hq; exact (List.getElem?_eq_some_iff.1 g1).1
        by_cases hq : t = m.new
        · by_cases hq' : t' = m.new
          · rw [hq, hq']
          · rw [if_pos hq] at hi
            rw [if_neg hq'] at hi'
            injection hi with hi
            have := key hi'
            omega
        · by_cases hq' : t' = m.new
          · rw [if_neg hq] at hi
            rw [if_pos hq'] at hi'
            injection hi' with hi'
            have := key hi
            omega
          · rw [if_neg hq] at hi
            rw [if_neg hq'] at hi'
            exact h.s.inj t t' i hi hi' hm hmm
      · rw [hnr] at hk
        obtain ⟨k1, j, k2, k3⟩ := h.rm k hk
        exact ⟨k1, j, k2, by rw [hrow _ (hneo k1)]; exact k3⟩
theorem alloc_err {s : Int} (he : (m.alloc s).2.1 ≠ 0) : (m.alloc s).2.2 = m ∧ (m.alloc s).1 = 0 := by
  unfold AM.alloc at he ⊢
  split
  · exact ⟨rfl, rfl⟩
  · rename_i h1
    rw [if_neg h1] at he
    simp only at he ⊢
    split
    · exact ⟨rfl, rfl⟩
    · rename_i h2
      rw [if_neg h2] at he
      exact absurd rfl he
theorem Gd.field (h : Gd m ly ln lf N rl sp rs) {t k : Int} (he : m.fe t k = 0) : (t ∈ ly ∨ t ∈ ln) ∧ ∃ j : Nat, k = j ∧ j < (m.row t).length := by
  unfold fe at he
  split at he
  · cases he
  · rename_i h1
    split at he
    · cases he
    · rename_i h2
      simp only [Bool.or_eq_true, decide_eq_true_eq, not_or] at h2
      exact ⟨h.cur_iff.1 (by simpa using h1), k.toNat, by omega, by omega⟩
theorem ref_iff {t : Int} {j : Nat} (hj : j < (m.row t).length) : m.ref t j = true ↔ (m.row t)[j]? = some true := by
  unfold ref
  rw [List.getElem?_eq_getElem hj]
  simp [List.getD_eq_getElem?_getD, hj]
theorem Good.set (h : Good m ly ln lf φ A) {t k v : Int} {A' : Store} (he : (m.set t k v).1 = 0) (hA : (φ t = none ∧ A' = A) ∨ ∃ i x, φ t = some i ∧ A' = setf A i k.toNat x ∧ if m.ref t k then V φ v x else v = x) :
    Good (m.set t k v).2 ly ln lf φ A' ∧ m.fe t k = 0 ∧ (m.ref t k = true → v = 0 ∨ m.cur v = true) ∧ (m.set t k v).2.sh = m.sh ∧ (m.set t k v).2.Y = m.Y ∧ (m.set t k v).2.H = m.H ∧ (m.set t k v).2.busy = m.busy := by
  unfold AM.set at he ⊢
  split at he
  · rename_i h1; exact absurd he h1
  · rename_i h1
    have h1 : m.fe t k = 0 := by simpa using h1
    split at he
    · cases he
    · rename_i h2
      rw [if_neg (by rw [h1]; simp), if_neg h2]
      simp only
      obtain ⟨ht, j, hkj, hj⟩ := h.g.field h1
      subst hkj
      have hmt := h.moved0 ht
      have hcv : m.ref t j = true → v = 0 ∨ v ∈ ly ∨ v ∈ ln := fun hr => by
        by_cases h0 : v = 0
        · exact .inl h0
        · right
          rw [hr] at h2
          simp [h0] at h2
          exact h.g.cur_iff.1 h2
      refine ⟨?_, h1, fun hr => (hcv hr).imp id fun hq => h.g.cur_iff.2 hq, ?_⟩
      · have hsim : ∀ m' : AM, m'.head = (m.put (t + 1 + j) v).head → m'.word = (m.put (t + 1 + j) v).word → m'.moved = (m.put (t + 1 + j) v).moved → m'.sh = m.sh → Sim m' ly ln lf φ A' := fun m' e1 e2 e3 e4 => by
          have hs : Sim (m.put (t + 1 + j) v) ly ln lf φ A' := by
            rcases hA with ⟨hn, rfl⟩ | ⟨i, x, hi, rfl, hx⟩
            · refine Sim.put h.g h.s ht hj hmt (fun _ _ _ _ => ⟨fun _ => rfl, rfl⟩) (fun i fs hi _ => by rw [hn] at hi; cases hi)
            · refine Sim.put h.g h.s ht hj hmt (fun t' i' hi' hne => ⟨fun hm' => ?_, ?_⟩) (fun i' fs hi' hA' => ?_)
              · have hii : i' ≠ i := fun e => hne (h.s.inj t' t i (e ▸ hi') hi hm' hmt)
                unfold setf
                rw [List.getElem?_modify]; simp [Ne.symm hii]
              · unfold setf
                rw [List.getElem?_modify]
                cases A[i']? with
                | none => rfl
                | some q => simp; split <;> simp
              · rw [hi] at hi'
                injection hi' with hi'
                subst hi'
                refine ⟨x, ?_, ?_⟩
                · unfold setf
                  rw [List.getElem?_modify, hA']; simp
                · unfold ref at hx; simpa using hx
          refine ⟨hs.dom, fun t' i hi => ?_, fun t' i hi hm => ?_, fun t' t'' i a b c d => ?_⟩
          · obtain ⟨fs, g1, g2, g3⟩ := hs.shp t' i hi
            have hr : m'.row t' = (m.put (t + 1 + j) v).row t' := by unfold row; rw [e1, e4]; rfl
            exact ⟨fs, by rw [e1]; exact g1, by rw [hr]; exact g2, by rw [e3, hr, e2]; exact g3⟩
          · rw [e3] at hm ⊢; exact hs.mvd t' i hi hm
          · rw [e3] at c d; exact hs.inj t' t'' i a b c d
        have hgd : ∀ rl', (∀ q ∈ m.remP, q ∈ rl') → (t ∈ ln → m.ref t j = true → v ∈ ly → t + 1 + (j : Int) ∈ rl') → Gd (m.put (t + 1 + j) v) ly ln lf ly rl' (m.base + m.H) [] := fun rl' g1 g2 => by
          refine h.g.put ht hj (fun _ hr => ?_) (fun _ _ hw => hw) (fun hto hr => ?_) (fun q _ hq => hq.imp (g1 q) id)
          · rcases hcv ((ref_iff hj).2 hr) with g | g | g
            · exact .inl g
            · exact .inr (.inl g)
            · exact .inr (.inr g)
          · have hr' := (ref_iff hj).2 hr
            rcases hcv hr' with g | g | g
            · exact .inl g
            · exact .inr (.inr (.inl ⟨g, .inl (g2 hto hr' g)⟩))
            · exact .inr (.inl g)
        split
        · rename_i hc
          simp only [Bool.and_eq_true, Bool.not_eq_true', List.contains_eq_mem, decide_eq_false_iff_not] at hc
          obtain ⟨⟨⟨c1, c2⟩, c3⟩, c4⟩ := hc
          have hto : t ∈ ln := by
            rcases ht with ht | ht
            · rw [isO_iff] at c2
              have := h.g.ybd ht; have := h.g.yl; have := m.base_former; have := h.g.sz.H0; omega
            · exact ht
          have hg := hgd (m.remP ++ [t + 1 + (j : Int)]) (fun q hq => List.mem_append_left _ hq) (fun _ _ _ => by simp)
          refine ⟨?_, hsim _ rfl rfl rfl rfl, h.ym, fun q hq => ?_, ?_⟩
          · have hrp : ({ m.put (t + 1 + j) v with rem := m.rem ++ [(t, (j : Int))] } : AM).remP = m.remP ++ [t + 1 + (j : Int)] := by unfold remP; simp
            rw [hrp]
            exact ⟨⟨hg.sz.Y0, hg.sz.Y1, hg.sz.H0, hg.sz.H1, hg.sz.n, hg.sz.w⟩, ⟨hg.y.tl, hg.y.hd, hg.y.ok⟩, hg.yl, ⟨hg.o.tl, hg.o.hd, hg.o.ok⟩, (let ⟨fe, a1, a2⟩ := hg.f; ⟨fe, a1, a2.tl, a2.hd, a2.ok⟩), hg.hn, hg.nb, hg.left, hg.room, hg.sc, hg.mv, hg.mi, hg.wy, hg.wN, hg.NY, hg.Nn, hg.wo, hg.wf, hg.fz⟩
          · have hq' : q ∈ m.rem ++ [(t, (j : Int))] := hq
            rcases List.mem_append.1 hq' with hq' | hq'
            · exact h.rm q hq'
            · rw [List.mem_singleton.1 hq']
              exact ⟨hto, j, rfl, (ref_iff hj).1 c1⟩
          · show (m.rem ++ [(t, (j : Int))]).Nodup
            exact List.nodup_append.2 ⟨h.rn, by simp, fun x hx y hy e => by simp at hy; subst hy; exact c4 (e ▸ hx)⟩
        · rename_i hc
          have hg := hgd m.remP (fun q hq => hq) (fun hto hr hv => by
            simp only [Bool.and_eq_true, Bool.not_eq_true', List.contains_eq_mem, decide_eq_false_iff_not, not_and, Decidable.not_not] at hc
            have c2 : m.isO t = true := by rw [isO_iff]; have := h.g.obd hto; have := h.g.oldle; omega
            have c3 : m.isY v = true := by rw [isY_iff']; have := h.g.ybd hv; have := h.g.yl; omega
            exact List.mem_map.2 ⟨(t, (j : Int)), hc ⟨⟨hr, c2⟩, c3⟩, rfl⟩)
          exact ⟨hg, hsim _ rfl rfl rfl rfl, h.ym, h.rm, h.rn⟩
      · split <;> exact ⟨rfl, rfl, rfl, rfl⟩
theorem set_err {t k v : Int} (he : (m.set t k v).1 ≠ 0) : (m.set t k v).2 = m := by
  unfold AM.set at he ⊢
  split
  · rfl
  · rename_i h1
    rw [if_neg h1] at he
    split
    · rfl
    · rename_i h2
      rw [if_neg h2] at he
      exact absurd rfl he
theorem get_err {t k : Int} (he : (m.get t k).2.1 ≠ 0) : (m.get t k).2.2 = m ∧ (m.get t k).1 = 0 ∧ m.fe t k = (m.get t k).2.1 := by
  unfold AM.get at he ⊢
  split
  · exact ⟨rfl, rfl, rfl⟩
  · rename_i h1
    rw [if_neg h1] at he
    exact absurd rfl he
theorem Good.get (h : Good m ly ln lf φ A) {t k : Int} (he : (m.get t k).2.1 = 0) :
    ∃ ln' φ', Good (m.get t k).2.2 ly ln' lf φ' A ∧ (∀ x ∈ ln, x ∈ ln') ∧ Le φ φ' ∧ m.fe t k = 0 ∧ (m.ref t k = true → (m.get t k).1 = 0 ∨ (m.get t k).1 ∈ ly ∨ (m.get t k).1 ∈ ln') ∧
      (∀ i s fs, φ t = some i → A[i]? = some (s, fs) → if m.ref t k then V φ' (m.get t k).1 (fs.getD k.toNat 0) else (m.get t k).1 = fs.getD k.toNat 0) ∧
      (m.get t k).2.2.sh = m.sh ∧ (m.get t k).2.2.Y = m.Y ∧ (m.get t k).2.2.H = m.H ∧ (m.get t k).2.2.busy = m.busy ∧ (m.get t k).2.2.new = m.new := by
  have h1 : m.fe t k = 0 := by
    by_cases h1 : m.fe t k = 0
    · exact h1
    · unfold AM.get at he; rw [if_pos h1] at he; exact he
  have hge : m.get t k = ((if m.ref t k && m.busy then m.fwdAt false (t + 1 + k) else m).word (t + 1 + k), 0, if m.ref t k && m.busy then m.fwdAt false (t + 1 + k) else m) := by
    unfold AM.get; rw [if_neg (by rw [h1]; simp)]
  rw [hge]
  obtain ⟨ht, j, hkj, hj⟩ := h.g.field h1
  subst hkj
  simp only
  have hmt := h.moved0 ht
  have hold : ∀ i s fs, φ t = some i → A[i]? = some (s, fs) → if m.ref t j then V φ (m.word (t + 1 + j)) (fs.getD j 0) else m.word (t + 1 + j) = fs.getD j 0 := fun i s fs hi hA => by
    obtain ⟨fs', g1, g2, g3⟩ := h.s.shp t i hi
    rw [hA] at g1
    injection g1 with g1
    have : fs = fs' := (Prod.mk.injEq .. ▸ g1).2
    subst this
    have := g3 hmt j (by omega)
    unfold ref; simpa using this
  by_cases hc : (m.ref t j && m.busy) = true
  · rw [if_pos hc]
    rw [Bool.and_eq_true] at hc
    have hp : t + 1 + (j : Int) ∈ m.pl t := mem_pl.2 ⟨j, (ref_iff hj).1 hc.1, rfl⟩
    obtain ⟨ln', φ', jj, g, sc, w, wp⟩ := J.fwdAt (A := A) (φ := φ) ⟨h.g, h.s⟩ false (rl' := m.remP) (sp' := m.base + m.H) (t := t) (ht.elim (fun h => .inr ⟨rfl, h⟩) .inl) hp (fun hq => by cases hq) (fun _ => rfl) (fun q _ hq => hq)
    refine ⟨ln', φ', ⟨?_, jj.s, fun x hx => ?_, fun q hq => ?_, by rw [g.rem]; exact h.rn⟩, fun x hx => g.sub hx, g.le, h1, fun _ => ?_, fun i s fs hi hA => ?_, g.sh, g.Y, g.H, g.busy, g.new⟩
    · have : (m.fwdAt false (t + 1 + j)).remP = m.remP := by unfold remP; rw [g.rem]
      rw [this, g.base, g.H]; exact jj.g
    · rcases (jj.g.mv x hx).1 with g1 | g1
      · exfalso
        have he2 : (m.fwdAt false (t + 1 + j)).moved x = m.moved x := by
          show (m.fwd false (m.word (t + 1 + j))).2.moved x = m.moved x
          unfold AM.fwd
          split
          · rename_i hou
            split
            · rfl
            · have hne : x ≠ m.word (t + 1 + j) := fun e => by
                have : m.isF x = true := by rw [e]; exact hou
                rw [h.g.isFn (.inr (.inl g1))] at this; cases this
              exact move_moved_ne m hne
          · rfl
        rw [he2] at hx
        exact h.g.fy (h.ym x hx) g1
      · exact g1
    · rw [g.rem] at hq
      obtain ⟨k1, i, k2, k3⟩ := h.rm q hq
      exact ⟨g.sub k1, i, k2, by rw [g.row (.inl (by have := h.g.obd k1; omega))]; exact k3⟩
    · rcases wp with wp | wp | wp | wp
      · exact .inl wp
      · exact .inr (.inl wp)
      · exact .inr (.inr wp)
      · cases wp.1
    · rw [if_pos hc.1]
      have htlt : t < m.old ∨ (m.fwdAt false (t + 1 + j)).old ≤ t := by
        have := m.base_former; have := h.g.oldle; have := h.g.yl; have := h.g.sz.H0
        rcases ht with h1 | h1
        · have := h.g.ybd h1; omega
        · have := h.g.obd h1; omega
      have hi' : φ' t = some i := g.le _ _ hi
      obtain ⟨fs', g1, g2, g3⟩ := jj.s.shp t i hi'
      rw [hA] at g1
      injection g1 with g1
      have : fs = fs' := (Prod.mk.injEq .. ▸ g1).2
      subst this
      have hm' : (m.fwdAt false (t + 1 + j)).moved t = 0 := by
        by_cases hm : (m.fwdAt false (t + 1 + j)).moved t = 0
        · exact hm
        · exfalso
          rcases ht with h1 | h1
          · rcases (jj.g.mv t hm).1 with g4 | g4
            · -- young: not moved here
              have he2 : (m.fwdAt false (t + 1 + j)).moved t = m.moved t := by
                show (m.fwd false (m.word (t + 1 + j))).2.moved t = m.moved t
                unfold AM.fwd
                split
                · rename_i hou
                  split
                  · rfl
                  · have hne : t ≠ m.word (t + 1 + j) := fun e => by
                      have : m.isF t = true := by rw [e]; exact hou
                      rw [h.g.isFn (.inr (.inl h1))] at this; cases this
                    exact move_moved_ne m hne
                · rfl
              rw [he2] at hm; exact hm hmt
            · exact h.g.fy g4 h1
          · exact hm (jj.g.omoved (g.sub h1))
      have hrow := g.row htlt
      have := g3 hm' j (by rw [g2, hrow]; exact hj)
      rw [hrow, if_pos (by have := (ref_iff hj).1 hc.1; simp [List.getD_eq_getElem?_getD, this])] at this
      exact this
  · rw [if_neg hc]
    refine ⟨ln, φ, h, fun x hx => hx, Le.refl _, h1, fun hr => ?_, hold, rfl, rfl, rfl, rfl, rfl⟩
    have hbz : m.busy = false := by
      rw [hr] at hc; simpa using hc
    have hp : t + 1 + (j : Int) ∈ m.pl t := mem_pl.2 ⟨j, (ref_iff hj).1 hr, rfl⟩
    rcases ht with ht | ht
    · exact h.g.wy t ht _ hp
    · rcases h.g.wo t ht _ hp with g | g | g | g
      · exact .inl g
      · exact .inr (.inr g)
      · exact .inr (.inl g.1)
      · rw [h.g.nb hbz] at g; simp at g
end
end AM
end Go.Hm
namespace Go.Hm

def idx (l : List Int) (t : Int) : Int := if t ∈ l then (l.idxOf t : Int) else -1
theorem idx_no {l : List Int} {t : Int} (h : t ∉ l) : idx l t = -1 := if_neg h
theorem idx_has {l : List Int} {t : Int} (h : t ∈ l) : idx l t = (l.idxOf t : Int) := if_pos h
theorem idx_append {l k : List Int} {t : Int} (h : t ∈ l) : idx (l ++ k) t = idx l t := by
  rw [idx_has h, idx_has (List.mem_append_left _ h), List.idxOf_append, if_pos h]
theorem idx_new {l : List Int} {t : Int} (h : t ∉ l) : idx (l ++ [t]) t = (l.length : Int) := by
  rw [idx_has (by simp), List.idxOf_append, if_neg h]; simp
theorem idx_at : ∀ {l : List Int} {i : Nat} {t : Int} (hi : i < l.length), l[i] = t → t ∉ l.take i → idx l t = (i : Int)
  | a :: l, 0, t, _, h, _ => by
    have h : a = t := h
    subst h; rw [idx_has (by simp)]; simp
  | a :: l, i + 1, t, hi, h, hn => by
    have hi' : i < l.length := by simpa using hi
    have h' : l[i] = t := by simpa using h
    have hn' : t ≠ a ∧ t ∉ l.take i := by simpa using hn
    have ih := idx_at hi' h' hn'.2
    have hm : t ∈ l := by rw [← h']; exact List.getElem_mem hi'
    rw [idx_has hm] at ih
    rw [idx_has (List.mem_cons_of_mem _ hm), List.idxOf_cons]
    have hb : (a == t) = false := by simpa using Ne.symm hn'.1
    rw [hb]; simp only [cond_false]; omega
theorem idx_lt {l : List Int} {t : Int} : -1 ≤ idx l t ∧ idx l t < l.length := by
  unfold idx
  split
  · rename_i h; have := List.idxOf_lt_length_of_mem h; omega
  · omega
theorem idx_get {l : List Int} {t : Int} (h : t ∈ l) : ∃ i : Nat, idx l t = i ∧ ∃ hi : i < l.length, l[i] = t :=
  ⟨l.idxOf t, idx_has h, List.idxOf_lt_length_of_mem h, List.getElem_idxOf _⟩
def pmeet (l : List Int) (t : Int) : List Int := if t == 0 || l.contains t then l else l ++ [t]
theorem pmeet_zero (l : List Int) : pmeet l 0 = l := rfl
theorem pmeet_old {l : List Int} {t : Int} (h : t ∈ l) : pmeet l t = l := by
  unfold pmeet; rw [if_pos (by rw [List.contains_iff_mem.2 h]; simp)]
theorem pmeet_new {l : List Int} {t : Int} (h0 : t ≠ 0) (h : t ∉ l) : pmeet l t = l ++ [t] := by
  unfold pmeet; rw [if_neg (by simp [h0, h])]
theorem pmeet_pre (l : List Int) (t : Int) : ∃ k, pmeet l t = l ++ k := by
  unfold pmeet; split
  · exact ⟨[], by simp⟩
  · exact ⟨_, rfl⟩
theorem pmeet_has {l : List Int} {t : Int} : t = 0 ∨ t ∈ pmeet l t := by
  by_cases h0 : t = 0
  · exact .inl h0
  · by_cases h : t ∈ l
    · rw [pmeet_old h]; exact .inr h
    · rw [pmeet_new h0 h]; simp
theorem pmeets_pre : ∀ (ts l : List Int), ∃ k, ts.foldl pmeet l = l ++ k
  | [], l => ⟨[], by simp⟩
  | t :: ts, l => by
    obtain ⟨k, hk⟩ := pmeet_pre l t
    obtain ⟨k', hk'⟩ := pmeets_pre ts (pmeet l t)
    exact ⟨k ++ k', by rw [List.foldl_cons, hk', hk, List.append_assoc]⟩
theorem pmeets_snoc {ts l : List Int} {t : Int} : (ts ++ [t]).foldl pmeet l = pmeet (ts.foldl pmeet l) t := by simp [List.foldl_append]
theorem pmeets_has {x : Int} : ∀ (ts l : List Int), x ∈ ts → x = 0 ∨ x ∈ ts.foldl pmeet l
  | [], _, h => by simp at h
  | t :: ts, l, h => by
    rcases List.mem_cons.1 h with h | h
    · subst h
      obtain ⟨k, hk⟩ := pmeets_pre ts (pmeet l x)
      rw [List.foldl_cons, hk]
      exact pmeet_has.imp id (List.mem_append_left _)
    · exact pmeets_has ts _ h
structure PM (S : Int → Prop) (l : List Int) : Prop where
  nd : l.Nodup
  s : ∀ x ∈ l, S x
theorem PM.nil {S : Int → Prop} : PM S [] := ⟨List.nodup_nil, fun _ h => by cases h⟩
theorem PM.meet {S : Int → Prop} {l : List Int} (h : PM S l) {t : Int} (ht : t = 0 ∨ S t) : PM S (pmeet l t) := by
  unfold pmeet
  split
  · exact h
  · rename_i hc
    simp only [Bool.or_eq_true, beq_iff_eq, List.contains_iff_mem, not_or] at hc
    refine ⟨List.nodup_append.2 ⟨h.nd, by simp, fun x hx y hy e => ?_⟩, fun x hx => ?_⟩
    · simp at hy; subst hy; subst e; exact hc.2 hx
    · rcases List.mem_append.1 hx with g | g
      · exact h.s x g
      · have : x = t := by simpa using g
        subst this; exact ht.resolve_left hc.1
theorem PM.meets {S : Int → Prop} : ∀ (ts : List Int) {l : List Int}, PM S l → (∀ t ∈ ts, t = 0 ∨ S t) → PM S (ts.foldl pmeet l)
  | [], _, h, _ => h
  | t :: ts, _, h, ht => PM.meets ts (h.meet (ht t (List.mem_cons_self ..))) fun x hx => ht x (List.mem_cons_of_mem _ hx)

structure Gr where
  sh : Int → Int
  fs : Int → List (Bool × Int)
namespace Gr
def succ (g : Gr) (t : Int) : List Int := (g.fs t).filterMap fun q => if q.1 then some q.2 else none
def succTo (g : Gr) (t : Int) (k : Nat) : List Int := ((g.fs t).take k).filterMap fun q => if q.1 then some q.2 else none
theorem succTo_all (g : Gr) (t : Int) : g.succTo t (g.fs t).length = g.succ t := by unfold succTo; rw [List.take_length]; rfl
theorem succTo_succ {g : Gr} {t : Int} {k : Nat} (h : k < (g.fs t).length) : g.succTo t (k + 1) = g.succTo t k ++ if ((g.fs t)[k]).1 then [((g.fs t)[k]).2] else [] := by
  unfold succTo
  rw [List.take_succ_eq_append_getElem h, List.filterMap_append]
  congr 1
  simp only [List.filterMap_cons, List.filterMap_nil]
  split <;> simp_all
def close (g : Gr) : Nat → Nat → List Int → List Int
  | 0, _, l => l
  | f + 1, i, l => if h : i < l.length then close g f (i + 1) ((g.succ l[i]).foldl pmeet l) else l
theorem close_pre (g : Gr) : ∀ (f i : Nat) (l : List Int), ∃ k, g.close f i l = l ++ k
  | 0, _, l => ⟨[], by simp [close]⟩
  | f + 1, i, l => by
    unfold close
    split
    · rename_i h
      obtain ⟨k, hk⟩ := pmeets_pre (g.succ l[i]) l
      obtain ⟨k', hk'⟩ := close_pre g f (i + 1) ((g.succ l[i]).foldl pmeet l)
      exact ⟨k ++ k', by rw [hk', hk, List.append_assoc]⟩
    · exact ⟨[], by simp⟩
theorem close_end (g : Gr) {f i : Nat} {l : List Int} (h : l.length ≤ i) : g.close f i l = l := by
  cases f with
  | zero => rfl
  | succ f => unfold close; rw [dif_neg (by omega)]
def met (g : Gr) (T : Nat) (roots : List Int) : List Int := g.close T 0 (roots.foldl pmeet [])
def prow (g : Gr) (L : List Int) (t : Int) : List Int := (g.fs t).map fun q => if q.1 then 1 + idx L q.2 else q.2
end Gr
structure Pic where
  shapes : List Int
  fields : List (List Int)
  roots : List Int
def Gr.pic (g : Gr) (T : Nat) (roots : List Int) : Pic := ⟨(g.met T roots).map g.sh, (g.met T roots).map (g.prow (g.met T roots)), roots.map fun r => 1 + idx (g.met T roots) r⟩
theorem Gr.close_spec (g : Gr) {S : Int → Prop} {T : Nat} (hT : ∀ l, PM S l → l.length < T) (hS : ∀ x, S x → ∀ y ∈ g.succ x, y = 0 ∨ S y) : ∀ (f i : Nat) (l : List Int), T ≤ f + i → PM S l → i ≤ l.length → (∀ (j : Nat) (hj : j < l.length), j < i → ∀ y ∈ g.succ l[j], y = 0 ∨ y ∈ l) →
    PM S (g.close f i l) ∧ ∀ t ∈ g.close f i l, ∀ y ∈ g.succ t, y = 0 ∨ y ∈ g.close f i l
  | 0, i, l, hf, hl, hi, _ => by have := hT l hl; omega
  | f + 1, i, l, hf, hl, hi, hc => by
    unfold Gr.close
    by_cases h : i < l.length
    · rw [dif_pos h]
      obtain ⟨k, hk⟩ := pmeets_pre (g.succ l[i]) l
      have hget : ∀ (j : Nat) (hj : j < l.length) (hj' : j < ((g.succ l[i]).foldl pmeet l).length), ((g.succ l[i]).foldl pmeet l)[j] = l[j] := fun j hj hj' => by
        have : ((g.succ l[i]).foldl pmeet l)[j]? = l[j]? := by rw [hk, List.getElem?_append_left hj]
        rw [List.getElem?_eq_getElem hj', List.getElem?_eq_getElem hj] at this
        injection this
      refine Gr.close_spec g hT hS f (i + 1) _ (by omega) (PM.meets _ hl fun t ht => hS _ (hl.s _ (List.getElem_mem h)) t ht) (by rw [hk, List.length_append]; omega) fun j hj hji y hy => ?_
      by_cases hje : j = i
      · subst hje
        rw [hget j h hj] at hy
        exact pmeets_has _ _ hy
      · have hjl : j < l.length := by omega
        rw [hget j hjl hj] at hy
        exact (hc j hjl (by omega) y hy).imp id fun hm => by rw [hk]; exact List.mem_append_left _ hm
    · rw [dif_neg h]
      refine ⟨hl, fun t ht y hy => ?_⟩
      obtain ⟨j, hj, rfl⟩ := List.getElem_of_mem ht
      exact hc j hj (by omega) y hy

namespace AM
def gr (m : AM) : Gr := ⟨fun t => m.head t - 1, fun t => (List.range (m.row t).length).map fun k : Nat => ((m.row t).getD k false, if (m.row t).getD k false then m.seen (m.word (t + 1 + k)) else m.word (t + 1 + k))⟩
theorem gr_len (m : AM) (t : Int) : (m.gr.fs t).length = (m.row t).length := by simp [gr]
theorem gr_get {m : AM} {t : Int} {k : Nat} (h : k < (m.gr.fs t).length) : (m.gr.fs t)[k] = ((m.row t).getD k false, if (m.row t).getD k false then m.seen (m.word (t + 1 + k)) else m.word (t + 1 + k)) := by simp [gr]
theorem gr_succ {m : AM} {t y : Int} : y ∈ m.gr.succ t ↔ ∃ p ∈ m.pl t, y = m.seen (m.word p) := by
  unfold Gr.succ
  constructor
  · intro h
    obtain ⟨q, h1, h2⟩ := List.mem_filterMap.1 h
    obtain ⟨k, hk, rfl⟩ := List.getElem_of_mem h1
    have hk' : k < (m.row t).length := by rw [← gr_len]; exact hk
    rw [gr_get hk] at h2
    cases hb : (m.row t).getD k false with
    | true =>
      rw [hb] at h2
      simp only [if_true, Option.some.injEq] at h2
      refine ⟨t + 1 + k, mem_pl.2 ⟨k, ?_, rfl⟩, h2.symm⟩
      rw [List.getElem?_eq_getElem hk']
      rw [List.getD_eq_getElem?_getD, List.getElem?_eq_getElem hk'] at hb
      simpa using hb
    | false =>
      rw [hb] at h2
      simp at h2
  · rintro ⟨p, hp, rfl⟩
    obtain ⟨k, h1, rfl⟩ := mem_pl.1 hp
    have hk := (List.getElem?_eq_some_iff.1 h1).1
    have hb : (m.row t).getD k false = true := by rw [List.getD_eq_getElem?_getD, h1]; rfl
    refine List.mem_filterMap.2 ⟨((m.row t).getD k false, if (m.row t).getD k false then m.seen (m.word (t + 1 + k)) else m.word (t + 1 + k)), ?_, by rw [hb]; rfl⟩
    have := gr_get (m := m) (t := t) (k := k) (by rw [gr_len]; exact hk)
    rw [← this]; exact List.getElem_mem _
def T (m : AM) : Nat := (m.Y + 2 * m.H + 1).toNat
def pic (m : AM) (roots : List Int) : Pic := m.gr.pic m.T roots
def pictured (m : AM) (roots : List Int) : Pic × Int := if m.rooted roots ≠ 0 then (⟨[], [], []⟩, m.rooted roots) else (m.pic roots, 0)
section
variable {m : AM} {ly ln lf N rl rs : List Int} {sp a : Int} {φ : Int → Option Nat} {A : Store}
def Obj (ly ln lf : List Int) (t : Int) : Prop := t ∈ ly ∨ t ∈ ln ∨ t ∈ lf
theorem Gd.obj_bd (h : Gd m ly ln lf N rl sp rs) {t : Int} (ht : Obj ly ln lf t) : 1 ≤ t ∧ t + m.size t ≤ m.Y + 2 * m.H + 1 ∧ 1 ≤ m.size t := by
  have hb := m.base_former; have hY := h.sz.Y0; have hH := h.sz.H0; have ho := h.oldle; have hy := h.yl
  rcases ht with ht | ht | ht
  · have := h.ybd ht; omega
  · have := h.obd ht; omega
  · have := h.fbd ht; omega
theorem nodup_bd : ∀ (n : Nat) (lo : Int) (l : List Int), l.Nodup → (∀ x ∈ l, lo ≤ x ∧ x < lo + n) → l.length ≤ n
  | 0, lo, l, _, hb => by
    cases l with
    | nil => simp
    | cons a l => have := hb a (List.mem_cons_self ..); omega
  | n + 1, lo, l, hn, hb => by
    by_cases hm : lo ∈ l
    · have h1 := nodup_bd n (lo + 1) (l.erase lo) (hn.erase lo) fun x hx => by
        have h2 := (hn.mem_erase_iff).1 hx
        have := hb x h2.2
        have := h2.1
        omega
      rw [List.length_erase_of_mem hm] at h1; omega
    · have := nodup_bd n (lo + 1) l hn fun x hx => by
        have := hb x hx
        have hne : x ≠ lo := fun e => hm (e ▸ hx)
        omega
      omega
theorem Gd.pm_len (h : Gd m ly ln lf N rl sp rs) {l : List Int} (hl : PM (Obj ly ln lf) l) : l.length < m.T := by
  have := nodup_bd (m.Y + 2 * m.H).toNat 1 l hl.nd fun x hx => by
    have := h.obj_bd (hl.s x hx); have := h.sz.Y0; have := h.sz.H0; omega
  have := h.sz.Y0; have := h.sz.H0
  unfold T; omega
theorem Gd.T_le (h : Gd m ly ln lf N rl sp rs) : m.T ≤ 600001 := by have := h.sz.Y1; have := h.sz.H1; unfold T; omega
theorem Gd.seen_obj (h : Gd m ly ln lf N rl sp rs) {w : Int} (hw : w = 0 ∨ Obj ly ln lf w) : m.seen w = 0 ∨ Obj ly ln lf (m.seen w) := by
  unfold seen
  split
  · rename_i hc
    simp only [Bool.and_eq_true, decide_eq_true_eq] at hc
    exact .inr (.inr (.inl (h.mv w (by omega)).2.1))
  · exact hw
theorem Gd.word_obj (h : Gd m ly ln lf N rl sp rs) {t p : Int} (ht : Obj ly ln lf t) (hp : p ∈ m.pl t) : m.word p = 0 ∨ Obj ly ln lf (m.word p) := by
  rcases ht with ht | ht | ht
  · rcases h.wy t ht p hp with g | g | g
    · exact .inl g
    · exact .inr (.inl g)
    · exact .inr (.inr (.inl g))
  · rcases h.wo t ht p hp with g | g | g | g
    · exact .inl g
    · exact .inr (.inr (.inl g))
    · exact .inr (.inl (h.NY _ g.1))
    · exact .inr (.inr (.inr g.1))
  · rcases h.wf t ht p hp with g | g
    · exact .inl g
    · exact .inr (.inr (.inr g))
theorem Gd.succ_obj (h : Gd m ly ln lf N rl sp rs) {t : Int} (ht : Obj ly ln lf t) : ∀ y ∈ m.gr.succ t, y = 0 ∨ Obj ly ln lf y := fun y hy => by
  obtain ⟨p, hp, rfl⟩ := gr_succ.1 hy
  exact h.seen_obj (h.word_obj ht hp)
theorem Good.root_obj (h : Good m ly ln lf φ A) {roots : List Int} (hr : m.rooted roots = 0) : ∀ r ∈ roots, r = 0 ∨ Obj ly ln lf r := fun r hr' => (h.rooted hr r hr').imp id fun g => g.imp id .inl
end
end AM
end Go.Hm
namespace Go.Hm
theorem idx_pre {l M : List Int} {x : Int} (hp : ∃ k, M = l ++ k) (h : x = 0 ∨ x ∈ l) (hM : (0 : Int) ∉ M) : idx l x = idx M x := by
  obtain ⟨k, rfl⟩ := hp
  rcases h with rfl | h
  · rw [idx_no hM, idx_no (fun g => hM (List.mem_append_left _ g))]
  · rw [idx_append h]
theorem pre_trans {a b c : List Int} (h1 : ∃ k, b = a ++ k) (h2 : ∃ k, c = b ++ k) : ∃ k, c = a ++ k := by
  obtain ⟨k, rfl⟩ := h1
  obtain ⟨k', rfl⟩ := h2
  exact ⟨k ++ k', by rw [List.append_assoc]⟩
theorem Gr.succTo_pre (g : Gr) (t : Int) (k : Nat) : ∃ r, g.succ t = g.succTo t k ++ r := by
  refine ⟨((g.fs t).drop k).filterMap fun q => if q.1 then some q.2 else none, ?_⟩
  unfold Gr.succ Gr.succTo
  rw [← List.filterMap_append, List.take_append_drop]
theorem Gr.meets_to (g : Gr) (t : Int) (k : Nat) (l : List Int) : ∃ r, (g.succ t).foldl pmeet l = (g.succTo t k).foldl pmeet l ++ r := by
  obtain ⟨r, hr⟩ := g.succTo_pre t k
  rw [hr, List.foldl_append]
  exact pmeets_pre _ _
theorem PM.zero {S : Int → Prop} {l : List Int} (h : PM S l) (h0 : ¬ S 0) : (0 : Int) ∉ l := fun hm => h0 (h.s 0 hm)
end Go.Hm
namespace Go.Hm
structure Act where
  k : Int
  a : Int
  b : Int
  c : Int
namespace AM
def kinded (m : AM) (t k : Int) (want : Bool) : Int := if m.fe t k = 0 then (if m.ref t k != want then 1 else 0) else m.fe t k
def rdx (r : List Int) (i : Int) : Int := r.getD i.toNat 0
def oob (x : Int) (r : List Int) : Bool := decide (x < 0) || decide ((r.length : Int) ≤ x)
def rootA (k : Int) : Bool := decide (k ≤ 6)
def rootB (k : Int) : Bool := decide (k = 2) || decide (k = 3) || decide (k = 6)
def newAt (m : AM) (r : List Int) (x : Act) : Int × AM × List Int := ((m.alloc x.b).2.1, (m.alloc x.b).2.2, if (m.alloc x.b).2.1 = 0 then r.set x.a.toNat (m.alloc x.b).1 else r)
def clr (en : Bool) (m : AM) (r : List Int) : Int × AM × List Int := if en then (0, m, r) else ((m.minor r).2.1, (m.minor r).2.2, if (m.minor r).2.1 = 0 then (m.minor r).1 else r)
def flp (en : Bool) (m : AM) (r : List Int) : Int × AM × List Int := if en then (0, m, r) else ((m.flip r).2.1, (m.flip r).2.2, if (m.flip r).2.1 = 0 then (m.flip r).1 else r)
def lok (en : Bool) (m : AM) (r : List Int) (x : Act) : Int × AM × List Int := if en then (0, m, r) else ((m.step x.a).2.1, (m.step x.a).2.2, r)
def tight (en : Bool) (m : AM) (x : Act) : Bool := (!en && decide (m.Y - (m.new - 1) < 1 + ((m.sh.getD x.b.toNat []).length : Int))) && decide (1 + ((m.sh.getD x.b.toNat []).length : Int) ≤ m.Y)
def fresh (en : Bool) (m : AM) (r : List Int) (x : Act) : Int × AM × List Int :=
  if decide (x.b < 0) || decide ((m.sh.length : Int) ≤ x.b) then (1, m, r) else
  if tight en m x then (if (clr en m r).1 ≠ 0 then clr en m r else newAt (clr en m r).2.1 (clr en m r).2.2 x) else newAt m r x
def getA (m : AM) (r : List Int) (x : Act) : Int × AM × List Int :=
  if m.kinded (rdx r x.b) x.c true ≠ 0 then (m.kinded (rdx r x.b) x.c true, m, r) else
  ((m.get (rdx r x.b) x.c).2.1, (m.get (rdx r x.b) x.c).2.2, if (m.get (rdx r x.b) x.c).2.1 = 0 then r.set x.a.toNat (m.get (rdx r x.b) x.c).1 else r)
def setA (m : AM) (r : List Int) (x : Act) : Int × AM × List Int :=
  if m.kinded (rdx r x.a) x.c true ≠ 0 then (m.kinded (rdx r x.a) x.c true, m, r) else
  ((m.set (rdx r x.a) x.c (rdx r x.b)).1, (m.set (rdx r x.a) x.c (rdx r x.b)).2, r)
def putA (m : AM) (r : List Int) (x : Act) : Int × AM × List Int :=
  if m.kinded (rdx r x.a) x.c false ≠ 0 then (m.kinded (rdx r x.a) x.c false, m, r) else
  ((m.set (rdx r x.a) x.c x.b).1, (m.set (rdx r x.a) x.c x.b).2, r)
def act (en : Bool) (m : AM) (r : List Int) (x : Act) : Int × AM × List Int :=
  if decide (x.k < 1) || decide (9 < x.k) then (1, m, r) else
  if (rootA x.k && oob x.a r) || (rootB x.k && oob x.b r) then (1, m, r) else
  if x.k = 1 then fresh en m r x else
  if x.k = 2 then getA m r x else
  if x.k = 3 then setA m r x else
  if x.k = 4 then putA m r x else
  if x.k = 5 then (0, m, r.set x.a.toNat 0) else
  if x.k = 6 then (0, m, r.set x.a.toNat (rdx r x.b)) else
  if x.k = 7 then clr en m r else
  if x.k = 8 then flp en m r else lok en m r x
def acts (en : Bool) : List Act → AM → List Int → List Int × AM × List Int
  | [], m, r => ([], m, r)
  | x :: t, m, r => ((act en m r x).1 :: (acts en t (act en m r x).2.1 (act en m r x).2.2).1, (acts en t (act en m r x).2.1 (act en m r x).2.2).2)
theorem acts_snoc (en : Bool) : ∀ (l : List Act) (x : Act) (m : AM) (r : List Int), acts en (l ++ [x]) m r = ((acts en l m r).1 ++ [(act en (acts en l m r).2.1 (acts en l m r).2.2 x).1], (act en (acts en l m r).2.1 (acts en l m r).2.2 x).2)
  | [], x, m, r => rfl
  | y :: t, x, m, r => by simp only [List.cons_append, acts, acts_snoc en t x]
def FineR (m : AM) (r : List Int) : Prop := ∃ ly ln lf φ A, Good m ly ln lf φ A ∧ ∀ x ∈ r, x = 0 ∨ x ∈ ly ∨ x ∈ ln
end AM
end Go.Hm
namespace Go.Hm.AM
section
variable {m : AM} {ly ln lf : List Int} {φ : Int → Option Nat} {A : Store}
theorem Good.stepr (h : Good m ly ln lf φ A) (w : Int) :
    ∃ ln' lf' φ', Good (m.step w).2.2 ly ln' lf' φ' A ∧ (∀ t ∈ ln, t ∈ ln') ∧ (∀ v x, (v = 0 ∨ v ∈ ly ∨ v ∈ ln) → V φ v x → V φ' v x) ∧
      (m.step w).2.2.sh = m.sh ∧ (m.step w).2.2.Y = m.Y ∧ (m.step w).2.2.H = m.H ∧ (m.step w).2.2.new = m.new ∧ m.old - m.base ≤ (m.step w).2.2.old - (m.step w).2.2.base := by
  unfold AM.step
  split
  · exact ⟨ln, lf, φ, h, fun _ ht => ht, fun _ _ _ hv => hv, rfl, rfl, rfl, rfl, Int.le_refl _⟩
  · split
    · exact ⟨ln, lf, φ, h, fun _ ht => ht, fun _ _ _ hv => hv, rfl, rfl, rfl, rfl, Int.le_refl _⟩
    · rename_i hb
      have hb : m.busy = true := by simpa using hb
      simp only
      obtain ⟨ln', φ', g, g1, g2, g3, g4, g5, g6, g7, g8, g9, g10, _⟩ := h.steps w.toNat hb
      have hle : ∀ {v x : Int}, V φ v x → V φ' v x := fun {v x} hv => hv.imp id fun ⟨j, h1, h2⟩ => ⟨j, g2 _ _ h1, h2⟩
      have hbs : (AM.steps w.toNat m).base = m.base := by unfold AM.base; rw [g4, g5, g6]
      split
      · exact ⟨_, _, _, g, g1, fun v x _ hv => hle hv, g3, g4, g5, g8, by simp only; omega⟩
      · have hf := g.fin g7 (by omega)
        refine ⟨_, _, _, hf, g1, fun v x hm hv => ?_, g3, g4, g5, g8, ?_⟩
        · rcases hle hv with hv | ⟨j, h1, h2⟩
          · exact .inl hv
          · refine .inr ⟨j, ?_, h2⟩
            show (if v ∈ lf then none else φ' v) = some j
            rw [if_neg]
            · exact h1
            · intro hf'
              rcases hm with e | e | e
              · rw [e] at hf'; exact g.g.notY0.2.2 hf'
              · exact g.g.fy hf' e
              · exact g.g.of (g1 _ e) hf'
        · show m.old - m.base ≤ (AM.steps w.toNat m).old - (AM.steps w.toNat m).base
          omega
end
end Go.Hm.AM
namespace Go.Hm.AM
def badStep (w : Int) (m : AM) : Bool := (((m.step w).2.1 != 0 || decide ((m.step w).1 < 0)) || decide ((m.step w).2.2.room.2.1 < (m.step w).1)) || decide ((m.step w).2.2.room.2.1 < m.room.2.1)
def wloop (w : Int) : Nat → AM → Int → Bool × AM × Int
  | 0, m, l => (true, m, l)
  | f + 1, m, l => if m.busy then (if badStep w m then (false, (m.step w).2.2, l) else wloop w f (m.step w).2.2 ((m.step w).2.2.room.2.1 - (m.step w).1)) else (true, m, l)
def whole (m : AM) (roots : List Int) (w : Int) : List Int × Int × Bool × AM :=
  if (m.flip roots).2.1 ≠ 0 then ([], 0, false, (m.flip roots).2.2) else
  if (wloop w 10000 (m.flip roots).2.2 0).1 then ((m.flip roots).1, (wloop w 10000 (m.flip roots).2.2 0).2.2, !(wloop w 10000 (m.flip roots).2.2 0).2.1.busy, (wloop w 10000 (m.flip roots).2.2 0).2.1) else
  ([], 0, false, (wloop w 10000 (m.flip roots).2.2 0).2.1)
section
variable {ly : List Int} {A : Store}
end
end Go.Hm.AM
namespace Go.Hm.AM
section
variable {m m' : AM} {ly ln lf : List Int} {φ : Int → Option Nat} {A : Store}
structure Kept (m m' : AM) : Prop where
  sh : m'.sh = m.sh
  Y : m'.Y = m.Y
  H : m'.H = m.H
theorem Kept.refl (m : AM) : Kept m m := ⟨rfl, rfl, rfl⟩
theorem Kept.trans {m m' m'' : AM} (h : Kept m m') (k : Kept m' m'') : Kept m m'' := ⟨k.sh.trans h.sh, k.Y.trans h.Y, k.H.trans h.H⟩
theorem Good.kminor (h : Good m ly ln lf φ A) (r : List Int) : Kept m (m.minor r).2.2 := by
  by_cases he : m.minorErr r = 0
  · obtain ⟨_, _, _, _, h1, h2, h3, _⟩ := h.minor he; exact ⟨h1, h2, h3⟩
  · rw [minor_no he]; exact Kept.refl m
theorem Good.kstep (h : Good m ly ln lf φ A) (w : Int) : Kept m (m.step w).2.2 := by
  obtain ⟨_, _, _, _, _, _, h1, h2, h3, _⟩ := h.stepr w; exact ⟨h1, h2, h3⟩
theorem kalloc (m : AM) (s : Int) : Kept m (m.alloc s).2.2 := by
  unfold AM.alloc
  split
  · exact Kept.refl m
  · simp only; split
    · exact Kept.refl m
    · exact ⟨rfl, rfl, rfl⟩
theorem kset (m : AM) (t k v : Int) : Kept m (m.set t k v).2 := by
  unfold AM.set
  split
  · exact Kept.refl m
  · split
    · exact Kept.refl m
    · simp only; split <;> exact ⟨rfl, rfl, rfl⟩
theorem Good.kget (h : Good m ly ln lf φ A) (t k : Int) : Kept m (m.get t k).2.2 := by
  by_cases he : (m.get t k).2.1 = 0
  · obtain ⟨_, _, _, _, _, _, _, _, h1, h2, h3, _⟩ := h.get he; exact ⟨h1, h2, h3⟩
  · rw [(get_err he).1]; exact Kept.refl m
theorem Good.kflip (h : Good m ly ln lf φ A) (r : List Int) : Kept m (m.flip r).2.2 := by
  cases hb : m.busy with
  | true =>
    have : m.flip r = ([], 12, m) := by unfold AM.flip; rw [if_pos hb]
    rw [this]; exact Kept.refl m
  | false =>
    by_cases he : m.minorErr r = 0
    · obtain ⟨_, _, _, _, _, _, h1, h2, h3, _⟩ := h.flip hb he; exact ⟨h1, h2, h3⟩
    · have hno := minor_no he
      have : m.flip r = ([], m.minorErr r, m) := by
        unfold AM.flip
        rw [if_neg (by rw [hb]; simp)]
        simp only
        rw [hno, if_pos he]
      rw [this]; exact Kept.refl m
theorem Good.kclr (h : Good m ly ln lf φ A) (en : Bool) (r : List Int) : Kept m (clr en m r).2.1 := by
  unfold clr; split
  · exact Kept.refl m
  · exact h.kminor r
theorem Good.kact (h : Good m ly ln lf φ A) (en : Bool) (r : List Int) (x : Act) : Kept m (act en m r x).2.1 := by
  unfold act
  split; exact Kept.refl m
  split; exact Kept.refl m
  split
  · unfold fresh
    split; exact Kept.refl m
    split
    · split
      · exact h.kclr en r
      · exact (h.kclr en r).trans (kalloc _ _)
    · exact kalloc _ _
  split
  · unfold getA; split
    · exact Kept.refl m
    · exact h.kget _ _
  split
  · unfold setA; split
    · exact Kept.refl m
    · exact kset _ _ _ _
  split
  · unfold putA; split
    · exact Kept.refl m
    · exact kset _ _ _ _
  split; exact Kept.refl m
  split; exact Kept.refl m
  split; exact h.kclr en r
  split
  · unfold flp; split
    · exact Kept.refl m
    · exact h.kflip r
  unfold lok; split
  · exact Kept.refl m
  · exact h.kstep x.a
end
end Go.Hm.AM
namespace Go.Hm.AM
section
variable {m : AM} {ly ln lf : List Int} {φ : Int → Option Nat} {A : Store}
theorem alloc_first (hn : m.new = 1) {s : Int} (h0 : 0 ≤ s) (h1 : s < m.sh.length) : (m.alloc s).2.1 = if m.Y < 1 + ((m.sh.getD s.toNat []).length : Int) then 14 else 0 := by
  unfold AM.alloc
  rw [if_neg (by simp; omega)]
  simp only
  by_cases hc : m.Y < 1 + ((m.sh.getD s.toNat []).length : Int)
  · rw [if_pos hc, if_pos (by simp only [decide_eq_true_eq]; omega)]
  · rw [if_neg hc, if_neg (by simp only [decide_eq_true_eq]; omega)]
end
end Go.Hm.AM
namespace Go.Proofs.YtmhmpjgkkpbnnaaGreat
open Go.Ck Fx Go.Hm
attribute [local irreducible] St Cd Xt Nx DrL LsW

structure SpL where
  sb : Nat
  wb : Nat
  tb : Nat
  wj : List Value
  tj : List Value
abbrev sb (l : SpL) (s : Sp) : Res := pt l.sb (cl [.slice (some ⟨l.wb, 0, none⟩) s.ws.length (s.ws.length + l.wj.length), .int .i64 s.fr, .int .i64 s.us, .slice (some ⟨l.tb, 0, none⟩) s.st.length (s.st.length + l.tj.length)] 87)
abbrev wb (l : SpL) (s : Sp) : Res := pt l.wb (cl (ints s.ws ++ l.wj) 3)
abbrev tb (l : SpL) (s : Sp) : Res := pt l.tb (cl (bools s.st ++ l.tj) 4)
def spSH (l : SpL) (s : Sp) : SH := [sb l s, wb l s, tb l s]

theorem splice_ints (l : List Int) (j : List Value) (o n : Nat) (h : o + n ≤ l.length) : splice (ints l ++ j) o (List.replicate n (.int .i64 0)) = ints (spl l o (List.replicate n 0)) ++ j := by
  simp only [splice, spl, ints, List.map_append, List.map_take, List.map_drop, List.map_replicate, List.length_replicate]
  rw [List.take_append_of_le_length (by simp; omega), List.drop_append_of_le_length (by simp; omega)]
  simp [List.append_assoc]
theorem set_ints {l : List Int} {j : List Value} {k : Nat} {v : Int} (h : k < l.length) : (ints l ++ j).set k (.int .i64 v) = ints (l.set k v) ++ j := by
  rw [List.set_append_left _ _ (by simpa [ints] using h), ints_set]
theorem set_bools {l : List Bool} {j : List Value} {k : Nat} {v : Bool} (h : k < l.length) : (bools l ++ j).set k (.bool v) = bools (l.set k v) ++ j := by
  rw [List.set_append_left _ _ (by simpa [bools] using h), bools_set]
theorem splice_bools (l : List Bool) (j : List Value) : splice (bools l ++ j) 0 (List.replicate l.length (.bool false)) = bools (List.replicate l.length false) ++ j := by
  simp only [splice, bools, List.map_replicate, List.length_replicate, Nat.zero_add, List.take_zero, List.nil_append]
  rw [List.drop_append_of_le_length (by simp), List.drop_of_length_le (by simp)]
  simp
set_option maxRecDepth 100000 in
theorem has_ct {l : SpL} {s : Sp} {t : Int} (ok : s.Ok) : Reads Tryz.prog 79 #[.pointer (some ⟨l.sb, 0, none⟩), .int .i64 t] [sb l s] (.bool (s.has t)) := by
  have h1 := ok.us; have h2 := ok.fr; have h3 := ok.ws
  unfold Sp.has
  refine ct_of (n := 24) Tryz.func79 rfl rfl (len rfl) fun hr w0 => ?_
  refine cS (cR (sV (vA rfl) (sN (nT (cS (cd_drawh (ork [(0, 2), (1, 2), (2, 2), (3, 2), (4, 1), (5, 2), (6, 2), (7, 2), (8, 2), (9, 2), (10, 2), (11, 1), (12, 2), (13, 2), (14, 2), (15, 1), (16, 2), (17, 2), (18, 2), (19, 2)] .nil) (fun _ => true) mixed (by kernel_rfl) ?_))))))
  refine dV rfl (vM rfl) (dV rfl (vM rfl) (dV rfl (vN rfl) (dV rfl (vF rfl fa85_1 rfl) (dr_v rfl (vL rfl ld3) ?_))))
  refine dV rfl (v_geq rfl rfl) (dV rfl (vM rfl) ?_)
  cases hc : decide ((s.fr : Int) ≤ t)
  · skip
    refine dp_sk rfl rfl rfl rfl ?_
    refine dp_sk rfl rfl rfl rfl ?_
    refine dp_sk rfl rfl rfl rfl ?_
    refine dp_sk rfl rfl rfl rfl ?_
    refine dr_sk rfl rfl rfl rfl ?_
    refine dp_sk rfl rfl rfl rfl ?_
    refine dp_sk rfl rfl rfl rfl ?_
    refine dp_sk rfl rfl rfl rfl ?_
    refine dr_sk rfl rfl rfl rfl ?_
    refine dp_sk rfl rfl rfl rfl ?_
    refine dp_sk rfl rfl rfl rfl ?_
    refine dV rfl (vP rfl rfl) (dV rfl (vA rfl) (dr_nil (nK [4] rfl (nT (cT ?_)))))
    exact xt_ret rfl ⟨rfl, rfl⟩ (.refl _)
  · skip
    refine dp_vg rfl rfl rfl (vM rfl) (dp_vg rfl rfl rfl (vM rfl) (dp_vg rfl rfl rfl (vN rfl) (dp_vg rfl rfl rfl (vF rfl fa85_1 rfl) (dr_vg rfl rfl rfl (vL rfl ld3) ?_))))
    refine dp_vg rfl rfl rfl (vM rfl) (dp_vg rfl rfl rfl (vN rfl) (dp_vg rfl rfl rfl (vF rfl fa85_2 rfl) (dr_vg rfl rfl rfl (vL rfl ld3) ?_)))
    refine dp_vg rfl rfl rfl (v_add rfl rfl (by unfold I64 at *; omega)) (dp_vg rfl rfl rfl (v_lss rfl rfl) (dV rfl (v_pick_true rfl rfl) (dV rfl (vA rfl) (dr_nil (nK [4] rfl (nT (cT ?_)))))))
    exact xt_ret rfl ⟨rfl, rfl⟩ (.refl _)

set_option maxRecDepth 100000 in
theorem word_ct {l : SpL} {s : Sp} {t : Int} (ok : s.Ok) (h : (s.fr : Int) ≤ t) (h' : t < (s.fr : Int) + (s.ws.length : Int)) :
    Reads Tryz.prog 35 #[.pointer (some ⟨l.sb, 0, none⟩), .int .i64 t] [sb l s] (.pointer (some ⟨l.wb, (t - s.fr).toNat, none⟩)) := by
  have h1 := ok.us; have h2 := ok.fr; have h3 := ok.ws
  refine ct_of (n := 16) Tryz.func35 rfl rfl (len rfl) fun hr w0 => ?_
  refine cS (cR (sV (vA rfl) (sN (nT (cS (cd_drawh (ork [(0, 2), (1, 2), (2, 2), (3, 1), (4, 2), (5, 2), (6, 2), (7, 2), (8, 1), (9, 2), (10, 2), (11, 2)] .nil) (fun _ => true) mixed (by kernel_rfl) ?_))))))
  refine dV rfl (vM rfl) (dV rfl (vN rfl) (dV rfl (vF rfl fa85_0 rfl) (dr_v rfl (vL rfl ld27) ?_)))
  refine dV rfl (vM rfl) (dV rfl (vM rfl) (dV rfl (vN rfl) (dV rfl (vF rfl fa85_1 rfl) (dr_v rfl (vL rfl ld3) ?_))))
  refine dV rfl (v_sub rfl rfl (by unfold I64 at *; omega)) (dV rfl (v_idx (t - s.fr).toNat rfl rfl sl27 (by omega) (by omega)) (dV rfl (vA rfl) (dr_nil (nK [4] rfl (nT (cT ?_))))))
  exact xt_ret rfl ⟨rfl, rfl⟩ (.refl _)

set_option maxRecDepth 100000 in
theorem room_ct {l : SpL} {s : Sp} (ok : s.Ok) : Reads Tryz.prog 46 #[.pointer (some ⟨l.sb, 0, none⟩)] [sb l s] (.int .i64 ((s.ws.length : Int) - (s.us : Int))) := by
  have h1 := ok.us; have h2 := ok.fr; have h3 := ok.ws
  refine ct_of (n := 13) Tryz.func46 rfl rfl (len rfl) fun hr w0 => ?_
  refine cS (cR (sV (vA rfl) (sN (nT (cS (cd_drawh (ork [(0, 2), (1, 2), (2, 2), (3, 1), (4, 2), (5, 2), (6, 2), (7, 2), (8, 1), (9, 2), (10, 2)] .nil) (fun _ => true) mixed (by kernel_rfl) ?_))))))
  refine dV rfl (vM rfl) (dV rfl (vN rfl) (dV rfl (vF rfl fa85_0 rfl) (dr_v rfl (vL rfl ld27) ?_)))
  refine dV rfl (v_len rfl Tryz.underlying27) (dV rfl (vM rfl) (dV rfl (vN rfl) (dV rfl (vF rfl fa85_2 rfl) (dr_v rfl (vL rfl ld3) ?_))))
  refine dV rfl (v_sub rfl rfl (by unfold I64 at *; omega)) (dV rfl (vA rfl) (dr_nil (nK [2] rfl (nT (cT ?_)))))
  exact xt_ret rfl ⟨rfl, rfl⟩ (.refl _)

set_option maxRecDepth 100000 in
theorem begins_ct {l : SpL} {s : Sp} {t : Int} (ok : s.Ok) : Reads Tryz.prog 50 #[.pointer (some ⟨l.sb, 0, none⟩), .int .i64 t] [sb l s, tb l s] (.bool (s.begins t)) := by
  have h1 := ok.us; have h2 := ok.fr; have h3 := ok.ws; have h4 := ok.st
  unfold Sp.begins
  refine ct_of (n := 25) Tryz.func50 rfl rfl (len rfl) fun hr w0 => ?_
  refine cS (cR (sV (vA rfl) (sN (nT (cS (cd_drawh (ork [(0, 2), (1, 2), (2, 2), (3, 2), (4, 1), (5, 2), (6, 2), (7, 2), (8, 2), (9, 1), (10, 2), (11, 2), (12, 2), (13, 2), (14, 2), (15, 1), (16, 2), (17, 2), (18, 1), (19, 2), (20, 2)] .nil) (fun _ => true) mixed (by kernel_rfl) ?_))))))
  refine dV rfl (vM rfl) (dV rfl (vN rfl) (dV rfl (vF rfl fa87_0 rfl) (dV rfl (vM rfl) (dr_clr rfl rfl rfl en79 rfl (has_ct (l := l) (s := s) ok) ?_))))
  refine dV rfl (vM rfl) ?_
  cases hc : s.has t
  · skip
    refine dp_sk rfl rfl rfl rfl ?_
    refine dp_sk rfl rfl rfl rfl ?_
    refine dp_sk rfl rfl rfl rfl ?_
    refine dr_sk rfl rfl rfl rfl ?_
    refine dp_sk rfl rfl rfl rfl ?_
    refine dp_sk rfl rfl rfl rfl ?_
    refine dp_sk rfl rfl rfl rfl ?_
    refine dp_sk rfl rfl rfl rfl ?_
    refine dp_sk rfl rfl rfl rfl ?_
    refine dr_sk rfl rfl rfl rfl ?_
    refine dp_sk rfl rfl rfl rfl ?_
    refine dp_sk rfl rfl rfl rfl ?_
    refine dr_sk rfl rfl rfl rfl ?_
    refine dV rfl (vP rfl rfl) (dV rfl (vA rfl) (dr_nil (nK [4] rfl (nT (cT ?_)))))
    exact xt_ret rfl ⟨rfl, rfl⟩ (.refl _)
  · skip
    have hb := Sp.has_iff.1 hc
    have hr : Rd (tb l s) ⟨l.tb, (t - s.fr).toNat, none⟩ (.bool (s.st.getD (t - s.fr).toNat false)) := rd_bools (by omega)
    refine dp_vg rfl rfl rfl (vM rfl) (dp_vg rfl rfl rfl (vN rfl) (dp_vg rfl rfl rfl (vF rfl fa87_1 rfl) (dr_vg rfl rfl rfl (vL rfl ld55) ?_)))
    refine dp_vg rfl rfl rfl (vM rfl) (dp_vg rfl rfl rfl (vM rfl) (dp_vg rfl rfl rfl (vN rfl) (dp_vg rfl rfl rfl (vF rfl fa87_0 rfl) (dp_vg rfl rfl rfl (vF rfl fa85_1 rfl) (dr_vg rfl rfl rfl (vL rfl ld3) ?_)))))
    refine dp_vg rfl rfl rfl (v_sub rfl rfl (by unfold I64 at *; omega)) (dp_vg rfl rfl rfl (v_idx (t - s.fr).toNat rfl rfl sl55 (by omega) (by omega)) (dr_vg rfl rfl rfl (vL rfl ld4) ?_))
    refine dV rfl (v_pick_true rfl rfl) (dV rfl (vA rfl) (dr_nil (nK [4] rfl (nT (cT ?_)))))
    exact xt_ret rfl ⟨rfl, rfl⟩ (.refl _)

set_option maxRecDepth 100000 in
theorem take_ct {l : SpL} {s : Sp} {n : Nat} (ok : s.Ok) (hn : s.us + n ≤ s.ws.length) (hn0 : 0 < n) :
    Ct Tryz.prog 77 #[.pointer (some ⟨l.sb, 0, none⟩), .int .i64 n] [sb l s, wb l s] fun v h' => v = .int .i64 s.next ∧ h' = [sb l (s.take n), wb l (s.take n)] := by
  have h1 := ok.us; have h2 := ok.fr; have h3 := ok.ws
  refine ct_of (n := 39) Tryz.func77 rfl rfl (len rfl) fun hr w0 => ?_
  refine cS (cR (sV (vA rfl) (sN (nT (cS (cd_drawh (ork [(0, 2), (1, 2), (2, 2), (3, 1), (4, 2), (5, 2), (6, 2), (7, 1), (8, 2), (9, 2)] .nil) (fun _ => true) mixed (by kernel_rfl) ?_))))))
  refine dV rfl (vM rfl) (dV rfl (vN rfl) (dV rfl (vF rfl fa85_1 rfl) (dr_v rfl (vL rfl ld3) ?_)))
  refine dV rfl (vM rfl) (dV rfl (vN rfl) (dV rfl (vF rfl fa85_2 rfl) (dr_v rfl (vL rfl ld3) ?_)))
  refine dV rfl (v_add rfl rfl (by unfold I64 at *; omega)) (dV rfl (vA rfl) (dr_nil (nK [0, 1, 4, 5] rfl (nT (cS (cd_drawh (ork [(0, 2), (1, 2), (2, 2), (3, 1), (4, 2), (5, 2), (6, 2), (7, 1), (8, 2), (9, 2), (10, 2), (11, 1), (12, 2), (13, 2), (14, 1), (15, 0)] .nil) (fun i => !(Nat.beq i 15)) mixed (by kernel_rfl) ?_))))))
  refine dV rfl (vM rfl) (dV rfl (vN rfl) (dV rfl (vF rfl fa85_0 rfl) (dr_v rfl (vL rfl ld27) ?_)))
  refine dV rfl (vM rfl) (dV rfl (vN rfl) (dV rfl (vF rfl fa85_2 rfl) (dr_v rfl (vL rfl ld3) ?_)))
  refine dV rfl (vM rfl) (dV rfl (vN rfl) (dV rfl (vF rfl fa85_2 rfl) (dr_v rfl (vL rfl ld3) ?_)))
  refine dV rfl (vM rfl) (dV rfl (v_add rfl rfl (by unfold I64 at *; omega)) (dr_v rfl (v_slice (lo := s.us) (hi := s.us + n) rfl rfl rfl sl27 rfl (by omega) (by omega) (by omega) (by omega)) (dr_eff rfl (st_clear rfl Tryz.underlying27 inf3 rfl rfl (by repeat (first | exact Sel.here | apply Sel.there)) (by simp [ints]; omega) (.inl rfl) (dr_nx ?_)))))
  refine dr_nil (nK [0, 1, 4, 5] rfl (nT (cS (cR (sV (vM rfl) (sV (vN rfl) (sV (vF rfl fa85_2 rfl) (sV (vL rfl ld3) ?_))))))))
  refine sV (vM rfl) (sV (v_add rfl rfl (by unfold I64 at *; omega)) (sV (vN rfl) (sV (vF rfl fa85_2 rfl) (st_sto rfl rfl sz3 ?_))))
  refine sN (nK [4, 5] rfl (nT (cS (cR (sV (vM rfl) (sV (vA rfl) (sN (nK [4] rfl (nT (cT ?_))))))))))
  have e1 : wb l (s.take n) = pt l.wb (cl (splice (ints s.ws ++ l.wj) s.us (List.replicate (s.us + n - s.us) (.int .i64 0))) 3) := by
    rw [show s.us + n - s.us = n by omega, splice_ints _ _ _ _ (by omega)]; rfl
  have e2 : sb l (s.take n) = pt l.sb (cl [.slice (some ⟨l.wb, 0, none⟩) s.ws.length (s.ws.length + l.wj.length), .int .i64 s.fr, .int .i64 ((s.us : Int) + (n : Int)), .slice (some ⟨l.tb, 0, none⟩) s.st.length (s.st.length + l.tj.length)] 87) := by
    unfold sb; simp only [Sp.take, spl_length s.ws s.us (List.replicate n 0) (by simp; omega), Int.natCast_add]
  refine xt_ret rfl ⟨rfl, rfl⟩ ?_
  rw [e1, e2]
  exact (by repeat (first | exact Sub.refl _ | refine Sub.sel (by repeat (first | exact Sel.here | apply Sel.there)) ?_ | apply Sub.cons))

set_option maxRecDepth 100000 in
theorem lay_ct {l : SpL} {s : Sp} {n : Nat} {sh : Int} (ok : s.Ok) (hn : s.us + n ≤ s.ws.length) (hn0 : 0 < n) :
    Ct Tryz.prog 47 #[.pointer (some ⟨l.sb, 0, none⟩), .int .i64 n, .int .i64 sh] [sb l s, wb l s, tb l s] fun v h' => v = .int .i64 s.next ∧ h' = [sb l (s.lay n sh), wb l (s.lay n sh), tb l (s.lay n sh)] := by
  have h1 := ok.us; have h2 := ok.fr; have h3 := ok.ws; have h4 := ok.st
  have okt : (s.take n).Ok := ⟨by simp [Sp.take, spl_length s.ws s.us (List.replicate n 0) (by simp; omega), h4], by simp [Sp.take, spl_length s.ws s.us (List.replicate n 0) (by simp; omega)]; omega, h2, by simp [Sp.take, spl_length s.ws s.us (List.replicate n 0) (by simp; omega)]; omega⟩
  have hlen : (s.take n).ws.length = s.ws.length := spl_length s.ws s.us (List.replicate n 0) (by simp; omega)
  have hnx : s.next = (s.fr : Int) + (s.us : Int) := rfl
  have hfr : (s.take n).fr = s.fr := rfl
  have hst : (s.take n).st.length = s.st.length := rfl
  refine ct_of (n := 33) Tryz.func47 rfl rfl (len rfl) fun hr w0 => ?_
  refine cS (cR (sV (vA rfl) (sN (nT (cS (cR (sV (vM rfl) (sV (vN rfl) (sV (vF rfl fa87_0 rfl) (sV (vM rfl) (st_cl rfl rfl en77 rfl (take_ct (l := l) (s := s) ok hn hn0) ?_)))))))))))
  rintro v h' ⟨rfl, rfl⟩
  simp only [List.cons_append, List.nil_append]
  refine sV (vA rfl) (sN (nK [0, 2, 6, 7] rfl (nT (cS (cd_drawh (ork [(0, 2), (1, 2), (2, 2), (3, 1), (4, 2), (5, 2), (6, 2), (7, 2), (8, 2), (9, 1), (10, 2), (11, 2), (12, 0)] .nil) (fun i => !(Nat.beq i 12)) mixed (by kernel_rfl) ?_)))))
  refine dV rfl (vM rfl) (dV rfl (vN rfl) (dV rfl (vF rfl fa87_1 rfl) (dr_v rfl (vL rfl ld55) ?_)))
  refine dV rfl (vM rfl) (dV rfl (vM rfl) (dV rfl (vN rfl) (dV rfl (vF rfl fa87_0 rfl) (dV rfl (vF rfl fa85_1 rfl) (dr_v rfl (vL rfl ld3) ?_)))))
  refine dV rfl (v_sub rfl rfl (by unfold I64 at *; omega)) (dV rfl (v_idx s.us rfl rfl sl55 (by omega) (by omega)) (dr_eff rfl (st_sto rfl rfl sz4 (dr_nx ?_))))
  refine dr_nil (nK [0, 2, 6, 7] rfl (nT (cS (cR (sV (vM rfl) (sV (vN rfl) (sV (vF rfl fa87_0 rfl) (sV (vM rfl) (st_clr rfl rfl en35 rfl (word_ct (l := l) (s := s.take n) okt (by omega) (by omega)) ?_)))))))))
  refine sV (vM rfl) (sV (vN rfl) (st_sto rfl rfl sz3 ?_))
  refine sN (nK [6, 7] rfl (nT (cS (cR (sV (vM rfl) (sV (vA rfl) (sN (nK [6] rfl (nT (cT ?_))))))))))
  have e1 : wb l (s.lay n sh) = pt l.wb (cl ((ints (s.take n).ws ++ l.wj).set (s.next - (s.take n).fr).toNat (.int .i64 sh)) 3) := by
    rw [show (s.next - (s.take n).fr).toNat = s.us by omega, set_ints (by omega)]; rfl
  have e2 : tb l (s.lay n sh) = pt l.tb (cl ((bools s.st ++ l.tj).set s.us (.bool true)) 4) := by
    rw [set_bools (by omega)]; rfl
  have e3 : sb l (s.lay n sh) = sb l (s.take n) := by
    unfold sb; simp only [Sp.take, Sp.lay, List.length_set]
  refine xt_ret rfl ⟨rfl, rfl⟩ ?_
  rw [e1, e2, e3]
  exact (by repeat (first | exact Sub.refl _ | refine Sub.sel (by repeat (first | exact Sel.here | apply Sel.there)) ?_ | apply Sub.cons))

set_option maxRecDepth 100000 in
theorem empty_ct {l : SpL} {s : Sp} (ok : s.Ok) (hpos : 0 < s.st.length) :
    Ct Tryz.prog 56 #[.pointer (some ⟨l.sb, 0, none⟩)] [sb l s, tb l s] fun v h' => v = .tuple #[] ∧ h' = [sb l s.empty, tb l s.empty] := by
  have h1 := ok.us; have h2 := ok.fr; have h3 := ok.ws; have h4 := ok.st
  refine ct_of (n := 10) Tryz.func56 rfl rfl (len rfl) fun hr w0 => ?_
  refine cS (cR (sV (vM rfl) (sV (vN rfl) (sV (vF rfl fa87_0 rfl) (sV (vF rfl fa85_2 rfl) (st_sto rfl rfl sz3 ?_))))))
  refine sN (nK [0] rfl (nT (cR (sV (vM rfl) (sV (vN rfl) (sV (vF rfl fa87_1 rfl) (sV (vL rfl ld55) ?_)))))))
  refine st_clear rfl Tryz.underlying55 inf4 rfl rfl (by repeat (first | exact Sel.here | apply Sel.there)) (by simp [bools]) (.inl rfl) ?_
  refine sN (nK [] rfl (nx_xt ?_))
  have e1 : tb l s.empty = pt l.tb (cl (splice (bools s.st ++ l.tj) 0 (List.replicate s.st.length (.bool false))) 4) := by
    rw [splice_bools]; rfl
  have e2 : sb l s.empty = pt l.sb (cl [.slice (some ⟨l.wb, 0, none⟩) s.ws.length (s.ws.length + l.wj.length), .int .i64 s.fr, .int .i64 0, .slice (some ⟨l.tb, 0, none⟩) s.st.length (s.st.length + l.tj.length)] 87) := by
    unfold sb; simp only [Sp.empty, List.length_replicate]; rfl
  refine xt_end rfl ⟨rfl, rfl⟩ ?_
  rw [e1, e2]
  exact (by repeat (first | exact Sub.refl _ | refine Sub.sel (by repeat (first | exact Sel.here | apply Sel.there)) ?_ | apply Sub.cons))
end Go.Proofs.YtmhmpjgkkpbnnaaGreat
namespace Go.Proofs.YtmhmpjgkkpbnnaaGreat
open Go.Ck Fx Go.Hm
attribute [local irreducible] St Cd Xt Nx DrL LsW

theorem spNew_eq {b1 b2 b3 fr n : Nat} : [pt b3 (cl [.slice (some ⟨b1, 0, none⟩) n n, .int .i64 fr, .int .i64 0, .slice (some ⟨b2, 0, none⟩) n n] 87), pt b1 (cl (List.replicate n (.int .i64 0)) 3), pt b2 (cl (List.replicate n (.bool false)) 4)] =
    spSH ⟨b3, b1, b2, [], []⟩ (Sp.new fr n) := by
  simp [spSH, sb, wb, tb, Sp.new, ints, bools]

set_option maxRecDepth 100000 in
theorem spaceOf_ct {fr n : Nat} (hf : fr ≤ 1000000) (hn : n ≤ 1000000) :
    Ct Tryz.prog 44 #[.int .i64 fr, .int .i64 n] [] fun v h' => ∃ l : SpL, l.wj = [] ∧ l.tj = [] ∧ v = .pointer (some ⟨l.sb, 0, none⟩) ∧ h' = spSH l (Sp.new fr n) := by
  refine ct_of (n := 13) Tryz.func44 rfl rfl (len rfl) fun hr w0 => ?_
  refine cS (cR (sV (vA rfl) (sN (nT (cS (cd_drawh (ork [(0, 2), (2, 2), (4, 2)] (.two 1 (ork [(3, 2), (5, 0), (6, 2), (7, 0), (8, 2)] .nil) 5 (ork [(1, 0), (3, 2), (6, 2), (7, 0), (8, 2)] .nil))) (fun i => !(Nat.beq i 1 || Nat.beq i 5 || Nat.beq i 7)) mixed (by kernel_rfl) ?_))))))
  refine dV rfl (vM rfl) (dV rfl (vM rfl) (dV rfl (vM rfl) (dr_two rfl rfl ?_ ?_)))
  · skip
    refine st_make (n := n) rfl rfl rfl Tryz.underlying27 inf3 rfl (by omega) (by omega) (ltn rfl) fun b1 => dr_nx ?_
    refine dV rfl (v_build (cells := [.slice (some ⟨b1, 0, none⟩) n n, .int .i64 fr, .int .i64 0]) rfl (fun _ => by kernel_rfl)) ?_
    refine dr_eff rfl (st_make (n := n) rfl rfl rfl Tryz.underlying55 inf4 rfl (by omega) (by omega) (ltn rfl) fun b2 => dr_nx ?_)
    refine dV rfl (v_build (cells := [.slice (some ⟨b1, 0, none⟩) n n, .int .i64 fr, .int .i64 0, .slice (some ⟨b2, 0, none⟩) n n]) rfl (fun _ => by kernel_rfl)) ?_
    refine dr_eff rfl (st_bx rfl rfl fun b12 => dr_nx ?_)
    refine dV rfl (vA rfl) (dr_nil (nK [4] rfl (nT (cT (xt_ret rfl ⟨⟨b12, b1, b2, [], []⟩, rfl, rfl, rfl, spNew_eq⟩ ?_)))))
    exact (by repeat (first | exact Sub.refl _ | refine Sub.sel (by repeat (first | exact Sel.here | apply Sel.there)) ?_ | apply Sub.cons))
  · skip
    refine st_make (n := n) rfl rfl rfl Tryz.underlying55 inf4 rfl (by omega) (by omega) (ltn rfl) fun b2 => dr_nx ?_
    refine dr_eff rfl (st_make (n := n) rfl rfl rfl Tryz.underlying27 inf3 rfl (by omega) (by omega) (ltn rfl) fun b1 => dr_nx ?_)
    refine dV rfl (v_build (cells := [.slice (some ⟨b1, 0, none⟩) n n, .int .i64 fr, .int .i64 0]) rfl (fun _ => by kernel_rfl)) ?_
    refine dV rfl (v_build (cells := [.slice (some ⟨b1, 0, none⟩) n n, .int .i64 fr, .int .i64 0, .slice (some ⟨b2, 0, none⟩) n n]) rfl (fun _ => by kernel_rfl)) ?_
    refine dr_eff rfl (st_bx rfl rfl fun b12 => dr_nx ?_)
    refine dV rfl (vA rfl) (dr_nil (nK [4] rfl (nT (cT (xt_ret rfl ⟨⟨b12, b1, b2, [], []⟩, rfl, rfl, rfl, spNew_eq⟩ ?_)))))
    exact (by repeat (first | exact Sub.refl _ | refine Sub.sel (by repeat (first | exact Sel.here | apply Sel.there)) ?_ | apply Sub.cons))

set_option maxRecDepth 100000 in
theorem find_ct {bs k : Nat} {cp : Array Value} {ps : List Nat} {hf : SH} {is : Nat → Bool} (hl : ps.length ≤ 1000000) (hE : Enters Tryz.prog k) (his : ∀ p ∈ ps, Reads Tryz.prog k (#[.pointer (some ⟨p, 0, none⟩)] ++ cp) hf (.bool (is p))) :
    Reads Tryz.prog 71 #[.func (.func k) #[] cp, .slice (some ⟨bs, 0, none⟩) ps.length ps.length] (pt bs (cl (ps.map fun p => .pointer (some ⟨p, 0, none⟩)) 80) :: hf)
      (.tuple #[.pointer ((ps.find? is).map (⟨·, 0, none⟩)), .bool (ps.find? is).isSome]) := by
  refine ct_of (n := 21) Tryz.func71 rfl rfl (len rfl) fun hr w0 => ?_
  refine cS (cR (sV (vA rfl) (sV (vA rfl) (sN (nT (cS (cS (cR (sV (vM rfl) (sV (v_len rfl Tryz.underlying148) (sV (vM rfl) (sN (nK [0, 4, 5, 9, 10, 11] rfl (nT (cd_block (cd_loop (σ := Nat) (fun i => [(0, .func (.func k) #[] cp), (9, .slice (some ⟨bs, 0, none⟩) ps.length ps.length), (10, .int .i64 ps.length), (11, .int .i64 i)]) (fun _ => pt bs (cl (ps.map fun p => .pointer (some ⟨p, 0, none⟩)) 80) :: hf ++ hr) (fun i => i ≤ ps.length ∧ ∀ j p, j < i → ps[j]? = some p → is p = false) (fun i => ps.length - i) 0 ⟨Nat.zero_le _, fun _ _ h => absurd h (Nat.not_lt_zero _)⟩ ⟨rfl, rfl, rfl, rfl, trivial⟩ (.refl _) ?_))))))))))))))))
  rintro i ⟨hi, hne⟩
  refine cS (cR (sV (v_lss rfl rfl) (sN (nT (cS (cC rfl (fun hc => ?_) (fun hc => ?_)))))))
  · skip
    refine cK (xT (cS (cd_block (cS (cR ?_)))))
    have hlt : i < ps.length := by simpa using hc
    have hrd : Rd (pt bs (cl (ps.map fun p => .pointer (some ⟨p, 0, none⟩)) 80)) ⟨bs, i, none⟩ (.pointer (some ⟨ps[i], 0, none⟩)) := rd_cl (by simp [hlt])
    refine sV (v_idx i rfl rfl sl148 rfl hlt) (sV (vL rfl ld80) ?_)
    refine sV (vA rfl) (sN (nK [0, 7, 9, 10, 11] rfl (nT (cS (cR (sV (vM rfl) (sV (vM rfl) (st_callr rfl rfl hE rfl (his ps[i] (List.getElem_mem hlt)) (Pk.of List.perm_middle.symm) (ltn rfl) (sN (nK [0, 7, 9, 10, 11, 17] rfl (nT (cC rfl (fun hb => ?_) (fun hb => ?_)))))))))))))
    · skip
      refine cS (cR (sV (vM rfl) (sV (vA rfl) (sV (vA rfl) (sN (nK [0, 4, 5, 9, 10, 11] rfl (nT (cT (xt_ret_block (xR (xR (xt_ret_block (xR ?_)))))))))))))
      have hfd : ps.find? is = some ps[i] := by
        rw [List.find?_eq_some_iff_getElem]
        exact ⟨hb, i, hlt, rfl, fun j hj => by simpa using hne j ps[j] hj (List.getElem?_eq_getElem (by omega))⟩
      rw [hfd]
      exact xt_ret rfl ⟨rfl, rfl⟩ (.refl _)
    · skip
      refine cK (xB (xT (cR (sV (v_add rfl rfl (by unfold I64 at *; omega)) (sV (vM rfl) (sN (nK [0, 9, 10, 11] rfl (nx_xt (xt_again (i + 1) ⟨by omega, fun j p hj hp => ?_⟩ (by omega) ⟨rfl, rfl, rfl, rfl, trivial⟩ (.refl _))))))))))
      by_cases hji : j = i
      · subst hji; rw [List.getElem?_eq_getElem hlt] at hp; cases hp; exact hb
      · exact hne j p (by omega) hp
  · skip
    refine cd_exit (xE (xE (xt_exit_block (xT (cS (cR (sV (vA rfl) (sN (nK [8] rfl (nT (cS (cR (sV (vM rfl) (sV (vA rfl) (sV (vA rfl) ?_)))))))))))))))
    refine sN (nK [4, 5] rfl (nT (cT ?_)))
    have hge : ps.length ≤ i := by simpa using hc
    have hfd : ps.find? is = none := by
      rw [List.find?_eq_none]
      intro p hp
      obtain ⟨j, hj, rfl⟩ := List.getElem_of_mem hp
      simp [hne j ps[j] (by omega) (List.getElem?_eq_getElem hj)]
    rw [hfd]
    exact xt_ret rfl ⟨rfl, rfl⟩ (.refl _)

set_option maxRecDepth 100000 in
theorem cur1_ct {l : SpL} {s : Sp} {t : Int} {bx : Nat} (ok : s.Ok) : Reads Tryz.prog 78 #[.pointer (some ⟨l.sb, 0, none⟩), .pointer (some ⟨bx, 0, none⟩)] [pt bx (cl [.int .i64 t] 3), sb l s, tb l s] (.bool (s.begins t)) := by
  refine ct_of (n := 7) Tryz.func78 rfl rfl (len rfl) fun hr w0 => ?_
  refine cS (cR (sV (vA rfl) (sN (nT (cS (cR (sV (vM rfl) (sV (vL rfl ld3) ?_))))))))
  refine st_clr rfl rfl en50 rfl (begins_ct (l := l) (s := s) ok) ?_
  refine sV (vA rfl) (sN (nK [3] rfl (nT (cT ?_))))
  exact xt_ret rfl ⟨rfl, rfl⟩ (.refl _)

structure Mem where
  sh : List (List Bool)
  y : Sp
  n : Sp
  o : Sp
  kn : List (Int × Int)
  bu : Bool
  sc : Int
  mv : List (Int × Int)
  le : Int
structure MemL where
  mb : Nat
  vs : Value
  vk : Value
  mvb : Nat
  y : SpL
  n : SpL
  o : SpL
abbrev mb (L : MemL) (μ : Mem) : Res := pt L.mb (cl [L.vs, .pointer (some ⟨L.y.sb, 0, none⟩), .pointer (some ⟨L.n.sb, 0, none⟩), .pointer (some ⟨L.o.sb, 0, none⟩), L.vk, .bool μ.bu, .int .i64 μ.sc, .map (some L.mvb), .int .i64 μ.le] 90)
def curP (L : MemL) (μ : Mem) (t : Int) : Option Addr := if μ.y.begins t then some ⟨L.y.sb, 0, none⟩ else if μ.n.begins t then some ⟨L.n.sb, 0, none⟩ else none
def Mem.cur (μ : Mem) (t : Int) : Bool := μ.y.begins t || μ.n.begins t
def curSH (L : MemL) (μ : Mem) : SH := [mb L μ, sb L.y μ.y, tb L.y μ.y, sb L.n μ.n, tb L.n μ.n]
theorem cur1_all {L : MemL} {μ : Mem} {t : Int} {b : Nat} (oy : μ.y.Ok) (on : μ.n.Ok) (hne : L.y.sb ≠ L.n.sb) : ∀ p ∈ [L.y.sb, L.n.sb], Reads Tryz.prog 78 (#[.pointer (some ⟨p, 0, none⟩)] ++ #[.pointer (some ⟨b, 0, none⟩)])
    [pt b (cl [.int .i64 t] 3), sb L.y μ.y, tb L.y μ.y, sb L.n μ.n, tb L.n μ.n] (.bool (if p = L.y.sb then μ.y.begins t else μ.n.begins t)) := by
  intro p hp
  simp only [List.mem_cons, List.not_mem_nil, or_false] at hp
  rcases hp with rfl | rfl
  · rw [if_pos rfl]; exact Reads.more (cur1_ct (l := L.y) oy) (Pk.cons .here (Pk.cons .here (Pk.cons .here Pk.nil)))
  · rw [if_neg (Ne.symm hne)]; exact Reads.more (cur1_ct (l := L.n) on) (Pk.cons .here (Pk.cons (.there (.there .here)) (Pk.cons (.there (.there .here)) Pk.nil)))
set_option maxRecDepth 100000 in
theorem current_ct {L : MemL} {μ : Mem} {t : Int} (oy : μ.y.Ok) (on : μ.n.Ok) (hne : L.y.sb ≠ L.n.sb) : Reads Tryz.prog 49 #[.pointer (some ⟨L.mb, 0, none⟩), .int .i64 t] (curSH L μ) (.tuple #[.pointer (curP L μ t), .bool (μ.cur t)]) := by
  unfold curSH
  refine ct_of (n := 19) Tryz.func49 rfl rfl (len rfl) fun hr w0 => ?_
  refine cS (cR (st_bx rfl rfl fun b3 => ?_))
  refine sV (vA rfl) (sV (vA rfl) (sN (nK [0, 3, 4, 5] rfl (nT (cS (cd_drawh (ork [(0, 2), (1, 2), (2, 2), (3, 2), (4, 1), (5, 2), (6, 2), (7, 2), (8, 1), (9, 0), (10, 0), (11, 2), (12, 2), (13, 2), (14, 2)] .nil) (fun i => !(Nat.beq i 9 || Nat.beq i 10)) mixed (by kernel_rfl) ?_))))))
  refine dV rfl (v_makeFunc rfl rfl) (dV rfl (vM rfl) (dV rfl (vN rfl) (dV rfl (vF rfl fa90_1 rfl) (dr_v rfl (vL rfl ld80) ?_))))
  refine dV rfl (vM rfl) (dV rfl (vN rfl) (dV rfl (vF rfl fa90_2 rfl) (dr_v rfl (vL rfl ld80) ?_)))
  refine dr_eff rfl (st_buildSlice (cells := [.pointer (some ⟨L.y.sb, 0, none⟩), .pointer (some ⟨L.n.sb, 0, none⟩)]) rfl Tryz.underlying148 inf80 rfl rfl (by kernel_rfl) (ltn rfl) fun b15 => dr_nx ?_)
  refine dr_eff rfl (st_cl rfl rfl en71 rfl (find_ct (bs := b15) (k := 78) (cp := #[.pointer (some ⟨b3, 0, none⟩)]) (ps := [L.y.sb, L.n.sb]) (hf := [pt b3 (cl [.int .i64 t] 3), sb L.y μ.y, tb L.y μ.y, sb L.n μ.n, tb L.n μ.n]) (is := fun p => if p = L.y.sb then μ.y.begins t else μ.n.begins t) (by simp) en78 (cur1_all oy on hne)) ?_)
  rintro v h' ⟨rfl, rfl⟩
  have hc : ((List.find? (fun p => if p = L.y.sb then μ.y.begins t else μ.n.begins t) [L.y.sb, L.n.sb]).map (fun b => (⟨b, 0, none⟩ : Addr))) = curP L μ t ∧ (List.find? (fun p => if p = L.y.sb then μ.y.begins t else μ.n.begins t) [L.y.sb, L.n.sb]).isSome = μ.cur t := by
    unfold curP Mem.cur
    cases h1 : μ.y.begins t <;> cases h2 : μ.n.begins t <;> simp [h1, h2, List.find?_cons, Ne.symm hne]
  rw [hc.1, hc.2]
  refine dr_nx ?_
  refine dV rfl (v_extract rfl rfl) (dV rfl (v_extract rfl rfl) (dV rfl (vA rfl) (dV rfl (vA rfl) (dr_nil (nK [4, 5] rfl (nT (cT ?_)))))))
  exact xt_rt rfl ⟨rfl, rfl⟩
end Go.Proofs.YtmhmpjgkkpbnnaaGreat
namespace Go.Proofs.YtmhmpjgkkpbnnaaGreat
open Go.Ck Fx Go.Hm
attribute [local irreducible] St Cd Xt Nx DrL LsW

def RowB (r : Res) (u : Value) (l : List Bool) : Prop := ∃ a cp, u = .slice a l.length cp ∧ (l = [] ∨ ∃ b o, a = some ⟨b, o, none⟩ ∧ ∀ j (h : j < l.length), Rd r ⟨b, o + j, none⟩ (.bool l[j]))
def Shp (r : Res) (v : Value) (sh : List (List Bool)) : Prop := ∃ a cp, v = .slice a sh.length cp ∧ (sh = [] ∨ ∃ b o, a = some ⟨b, o, none⟩ ∧ ∀ i (h : i < sh.length), ∃ u, Rd r ⟨b, o + i, none⟩ u ∧ RowB r u sh[i])
theorem Shp.row {r : Res} {v : Value} {sh : List (List Bool)} (h : Shp r v sh) {i : Nat} (hi : i < sh.length) : ∃ b o cp u, v = .slice (some ⟨b, o, none⟩) sh.length cp ∧ Rd r ⟨b, o + i, none⟩ u ∧ RowB r u sh[i] := by
  obtain ⟨a, cp, hv, hn⟩ := h
  rcases hn with e | ⟨b, o, ha, hr⟩
  · rw [e] at hi; simp at hi
  obtain ⟨u, h1, h2⟩ := hr i hi
  exact ⟨b, o, cp, u, by rw [hv, ha], h1, h2⟩
theorem RowB.at {r : Res} {u : Value} {l : List Bool} (h : RowB r u l) {j : Nat} (hj : j < l.length) : ∃ b o cp, u = .slice (some ⟨b, o, none⟩) l.length cp ∧ Rd r ⟨b, o + j, none⟩ (.bool l[j]) := by
  obtain ⟨a, cp, hv, hn⟩ := h
  rcases hn with e | ⟨b, o, ha, hr⟩
  · rw [e] at hj; simp at hj
  exact ⟨b, o, cp, by rw [hv, ha], hr j hj⟩

theorem getD_lt {α : Type} {l : List α} {d : α} {k : Nat} (h : k < l.length) : l.getD k d = l[k] := by simp [List.getD, h]
theorem getD_ge {α : Type} {l : List α} {d : α} {k : Nat} (h : l.length ≤ k) : l.getD k d = d := by simp [List.getD, h]
def shAt (sh : List (List Bool)) (k : Int) : List Bool := sh.getD k.toNat []
structure ShOk (sh : List (List Bool)) : Prop where
  n : sh.length ≤ 100
  w : ∀ l ∈ sh, l.length ≤ 100
theorem ShOk.at {sh : List (List Bool)} (h : ShOk sh) (k : Int) : (shAt sh k).length ≤ 100 := by
  unfold shAt
  by_cases hk : k.toNat < sh.length
  · rw [getD_lt hk]; exact h.w _ (List.getElem_mem hk)
  · rw [getD_ge (by omega)]; simp
structure MOk (L : MemL) (μ : Mem) (S : Res) : Prop where
  y : μ.y.Ok
  n : μ.n.Ok
  o : μ.o.Ok
  yn : L.y.sb ≠ L.n.sb
  yo : L.y.sb ≠ L.o.sb
  no : L.n.sb ≠ L.o.sb
  sh : Shp S L.vs μ.sh
  shl : ShOk μ.sh

set_option maxRecDepth 100000 in
theorem made_ct {L : MemL} {μ : Mem} : Reads Tryz.prog 41 #[.pointer (some ⟨L.mb, 0, none⟩)] [mb L μ] (.bool true) := by
  refine ct_of (n := 12) Tryz.func41 rfl rfl (len rfl) fun hr w0 => ?_
  refine cS (cR (sV (vA rfl) (sN (nT (cS (cR (sV (vM rfl) (sV (v_neq_ptr_nil rfl rfl pt26) (sV (vM rfl) (st_vg rfl rfl (vM rfl) (st_vg rfl rfl (vN rfl) (st_vg rfl rfl (vF rfl fa90_1 rfl) (st_vg rfl rfl (vL rfl ld80) ?_)))))))))))))
  refine st_vg rfl rfl (v_neq_ptr_nil rfl rfl pt80) (sV (v_pick_true rfl rfl) (sV (vA rfl) (sN (nK [2] rfl (nT (cT ?_))))))
  exact xt_rt rfl ⟨rfl, rfl⟩
set_option maxRecDepth 100000 in
theorem size_ct {L : MemL} {μ : Mem} {S : Res} {l : SpL} {s : Sp} {t : Int} (ok : s.Ok) (h : (s.fr : Int) ≤ t) (h' : t < (s.fr : Int) + (s.ws.length : Int)) (hS : Shp S L.vs μ.sh) (hl : ShOk μ.sh) (h0 : 0 ≤ s.wd t) (h1 : s.wd t < μ.sh.length) :
    Reads Tryz.prog 82 #[.pointer (some ⟨L.mb, 0, none⟩), .pointer (some ⟨l.sb, 0, none⟩), .int .i64 t] [mb L μ, sb l s, wb l s, S] (.int .i64 (1 + (shAt μ.sh (s.wd t)).length)) := by
  have hk : (s.wd t).toNat < μ.sh.length := by omega
  obtain ⟨b, o, cp, u, hv, hu, a2, cp2, hu2, _⟩ := hS.row hk
  have hsz := hl.at (s.wd t)
  have hrd : Rd (wb l s) ⟨l.wb, (t - s.fr).toNat, none⟩ (.int .i64 (s.wd t)) := rd_ints (by omega)
  have hsh : shAt μ.sh (s.wd t) = μ.sh[(s.wd t).toNat] := by unfold shAt; exact getD_lt hk
  rw [hsh] at hsz ⊢
  refine ct_of (n := 22) Tryz.func82 rfl rfl (len rfl) fun hr w0 => ?_
  refine cS (cR (sV (vA rfl) (sN (nT (cS (cd_drawh (ork [(0, 2), (1, 2), (2, 2), (3, 1), (4, 2), (5, 2), (6, 2), (7, 2), (8, 1), (9, 2), (10, 1), (11, 2), (12, 1), (13, 2), (14, 2), (15, 2)] .nil) (fun _ => true) mixed (by kernel_rfl) ?_))))))
  refine dV rfl (vM rfl) (dV rfl (vN rfl) (dV rfl (vF rfl fa90_0 rfl) (dr_v rfl (vL rfl ld22) ?_)))
  refine dV rfl (vM rfl) (dV rfl (vN rfl) (dV rfl (vF rfl fa87_0 rfl) (dV rfl (vM rfl) (dr_clr rfl rfl rfl en35 rfl (word_ct (l := l) (s := s) ok h h') ?_))))
  refine dV rfl (vN rfl) (dr_v rfl (vL rfl ld3) ?_)
  refine dV rfl (v_ixo _ (congrArg some hv) rfl sl22 (Int.toNat_of_nonneg h0).symm hk) (dr_v rfl (vL rfl ld55) ?_)
  refine dV rfl (v_len (congrArg some hu2) Tryz.underlying55) (dV rfl (v_add rfl rfl (by unfold I64 at *; omega)) (dV rfl (vA rfl) (dr_nil (nK [6] rfl (nT (cT ?_))))))
  exact xt_rt rfl ⟨rfl, rfl⟩
end Go.Proofs.YtmhmpjgkkpbnnaaGreat
namespace Go.Proofs.YtmhmpjgkkpbnnaaGreat
open Go.Ck Fx Go.Hm
attribute [local irreducible] St Cd Xt Nx DrL LsW

set_option maxRecDepth 100000 in
theorem refs_ct {mp sp : Value} {t : Int} (hm : mp.cells = #[mp]) (hs : sp.cells = #[sp]) : Ct Tryz.prog 59 #[mp, sp, .int .i64 t] [] fun v h' => ∃ b1 b2 b3, v = .func (.func 84) #[] #[.pointer (some ⟨b1, 0, none⟩), .pointer (some ⟨b2, 0, none⟩), .pointer (some ⟨b3, 0, none⟩)] ∧
    h' = [pt b1 (cl [mp] 26), pt b2 (cl [sp] 80), pt b3 (cl [.int .i64 t] 3)] := by
  refine ct_of (n := 8) Tryz.func59 rfl rfl (len rfl) fun hr w0 => ?_
  refine cS (cR (st_box rfl hm (ltn rfl) fun b3 => ?_))
  refine st_box rfl hs (ltn rfl) fun b4 => ?_
  refine st_box rfl rfl (ltn rfl) fun b5 => ?_
  refine st_val (vA rfl) (ltn rfl) (sN (nT (cS (cR (st_val (v_makeFunc rfl rfl) (ltn rfl) (st_val (vA rfl) (ltn rfl) (sN (nT (cT ?_)))))))))
  exact xt_rt rfl ⟨b3, b4, b5, rfl, rfl⟩

def refH (L : MemL) (S : Res) (l : SpL) (b1 b2 b3 : Nat) (t : Int) (μ : Mem) (s : Sp) (rest : SH) : SH :=
  pt b1 (cl [.pointer (some ⟨L.mb, 0, none⟩)] 26) :: pt b2 (cl [.pointer (some ⟨l.sb, 0, none⟩)] 80) :: pt b3 (cl [.int .i64 t] 3) :: mb L μ :: sb l s :: wb l s :: S :: rest
set_option maxRecDepth 100000 in
theorem refs1_ct {σ : Type} {L : MemL} {S : Res} {sh : List (List Bool)} {l : SpL} {b1 b2 b3 yl fr ln : Nat} {t : Int} {row : List Bool} (μf : σ → Mem) (sp : σ → Sp) (rest : σ → SH) (Φ : Nat → σ → Prop) (Ψ : σ → Prop) (s0 : σ) (h0 : Φ 0 s0)
    (hS : Shp S L.vs sh) (hl : ShOk sh) (hk : 0 ≤ (sp s0).wd t) (hk1 : (sp s0).wd t < sh.length) (hrow : row = shAt sh ((sp s0).wd t))
    (hsp : ∀ i s, Φ i s → (sp s).Ok ∧ (sp s).fr = fr ∧ (sp s).ws.length = ln) (hb : (fr : Int) ≤ t) (hb' : t + 1 + row.length ≤ (fr : Int) + ln)
    (hy : ∀ i s, (hi : i < row.length) → row[i] = true → Φ i s → Yc Tryz.prog yl #[.int .i64 i, .pointer (some ⟨l.wb, (t + 1 + i - (sp s).fr).toNat, none⟩)] (refH L S l b1 b2 b3 t (μf s) (sp s) (rest s))
      fun v h' => ∃ s', h' = refH L S l b1 b2 b3 t (μf s') (sp s') (rest s') ∧ (v = .bool true ∧ Φ (i + 1) s' ∨ v = .bool false ∧ Ψ s'))
    (hn : ∀ i s, (hi : i < row.length) → row[i] = false → Φ i s → Φ (i + 1) s) :
    Ct Tryz.prog 84 #[.func (.yield yl) #[] #[], .pointer (some ⟨b1, 0, none⟩), .pointer (some ⟨b2, 0, none⟩), .pointer (some ⟨b3, 0, none⟩)] (refH L S l b1 b2 b3 t (μf s0) (sp s0) (rest s0))
      fun v h' => v = .tuple #[] ∧ ∃ s, h' = refH L S l b1 b2 b3 t (μf s) (sp s) (rest s) ∧ (Φ row.length s ∨ Ψ s) := by
  have hkn : ((sp s0).wd t).toNat < sh.length := by omega
  obtain ⟨ok0, hfr0, hln0⟩ := hsp 0 s0 h0
  obtain ⟨b, o, cp, u, hv, hu, a2, cp2, hu2, hrd2⟩ := hS.row hkn
  have hsz := hl.at ((sp s0).wd t)
  have hrd : Rd (wb l (sp s0)) ⟨l.wb, (t - (sp s0).fr).toNat, none⟩ (.int .i64 ((sp s0).wd t)) := rd_ints (by omega)
  have hsh : row = sh[((sp s0).wd t).toNat] := by rw [hrow]; unfold shAt; exact getD_lt hkn
  rw [← hrow] at hsz
  rw [← hsh] at hu2 hrd2
  have hws := ok0.ws
  have hfr1 := ok0.fr
  unfold refH
  refine ct_of (n := 42) Tryz.func84 rfl rfl (len rfl) fun hr w0 => ?_
  refine cS (cd_drawh (ork [(0, 1), (1, 2), (2, 2), (3, 1), (4, 1), (5, 2), (6, 2), (7, 1), (8, 1), (9, 2), (10, 1), (11, 2), (12, 1), (13, 2), (14, 2)] .nil) (fun _ => true) mixed (by kernel_rfl) ?_)
  refine dr_v rfl (vL rfl ld26) ?_
  refine dV rfl (vN rfl) (dV rfl (vF rfl fa90_0 rfl) (dr_v rfl (vL rfl ld22) ?_))
  refine dr_v rfl (vL rfl ld80) ?_
  refine dV rfl (vN rfl) (dV rfl (vF rfl fa87_0 rfl) (dr_v rfl (vL rfl ld3) ?_))
  refine dr_clr rfl rfl rfl en35 rfl (word_ct (l := l) (s := sp s0) ok0 (by omega) (by omega)) ?_
  refine dV rfl (vN rfl) (dr_v rfl (vL rfl ld3) ?_)
  refine dV rfl (v_ixo _ (congrArg some hv) rfl sl22 (Int.toNat_of_nonneg hk).symm hkn) (dr_v rfl (vL rfl ld55) ?_)
  refine dV rfl (v_len (congrArg some hu2) Tryz.underlying55) (dV rfl (vM rfl) (dr_nil (nK [0, 2, 3, 19, 20, 21] rfl (nT (cd_block (cd_loop (σ := Nat × σ) (fun q => [(0, .func (.yield yl) #[] #[]), (2, .pointer (some ⟨b2, 0, none⟩)), (3, .pointer (some ⟨b3, 0, none⟩)), (19, u), (20, .int .i64 row.length), (21, .int .i64 q.1)]) (fun q => refH L S l b1 b2 b3 t (μf q.2) (sp q.2) (rest q.2) ++ hr) (fun q => q.1 ≤ row.length ∧ Φ q.1 q.2) (fun q => row.length - q.1) (0, s0) ⟨Nat.zero_le _, h0⟩ ⟨rfl, rfl, rfl, rfl, rfl, rfl, trivial⟩ (Sub.refl _) ?_))))))
  rintro ⟨i, s⟩ ⟨hi, hΦ⟩
  obtain ⟨ok, hfr, hln⟩ := hsp i s hΦ
  unfold refH
  dsimp only
  refine cS (cR (sV (v_lss rfl rfl) (sN (nT (cS (cC rfl (fun hc => ?_) (fun hc => ?_)))))))
  · skip
    refine cK (xT (cS (cd_block (cS (cR (sV (vM rfl) ?_))))))
    have hlt : i < row.length := by simpa using hc
    obtain ⟨b', o', cp', hu', hrd'⟩ := RowB.at ⟨a2, cp2, hu2, hrd2⟩ hlt
    refine sV (v_ixo i (congrArg some hu') rfl sl55 rfl hlt) (sV (vL rfl ld4) ?_)
    refine sV (vA rfl) (sV (vA rfl) (sN (nK [0, 2, 3, 5, 6, 19, 20, 21] rfl (nT (cS ?_)))))
    cases hb1 : row[i]
    · skip
      refine cd_drawh (ork [(0, 2), (1, 2), (2, 2), (3, 2), (4, 1), (5, 2), (6, 2), (7, 1), (8, 2), (9, 2), (10, 2), (11, 1), (12, 1), (13, 2), (14, 2)] .nil) (fun _ => true) mixed (by kernel_rfl) ?_
      refine dV rfl (vM rfl) (dV rfl (vM rfl) (dp_sk rfl rfl rfl rfl ?_))
      refine dp_sk rfl rfl rfl rfl ?_
      refine dr_sk rfl rfl rfl rfl ?_
      refine dp_sk rfl rfl rfl rfl ?_
      refine dp_sk rfl rfl rfl rfl ?_
      refine dr_sk rfl rfl rfl rfl ?_
      refine dp_sk rfl rfl rfl rfl ?_
      refine dp_sk rfl rfl rfl rfl ?_
      refine dp_sk rfl rfl rfl rfl ?_
      refine dr_sk rfl rfl rfl rfl ?_
      refine dr_sk rfl rfl rfl rfl ?_
      refine dp_sk rfl rfl rfl rfl ?_
      refine dV rfl (vP rfl rfl) (dr_nil (nK [0, 2, 3, 19, 20, 21, 40] rfl (nT (cd_false rfl ?_))))
      refine cK (xB (xT (cR (sV (v_add rfl rfl (by unfold I64 at *; omega)) (sV (vM rfl) (sN (nK [0, 2, 3, 19, 20, 21] rfl (nx_xt ?_))))))))
      refine xt_ag (i + 1, s) ⟨hlt, hn i s hlt hb1 hΦ⟩ (by show _ - _ < _ - _; omega)
    · skip
      refine cd_drawh (ork [(0, 2), (1, 2), (2, 2), (3, 2), (4, 1), (5, 2), (6, 2), (7, 1), (8, 2), (9, 2), (10, 2), (11, 1), (12, 0), (13, 0), (14, 0)] .nil) (fun i => !(Nat.beq i 12 || Nat.beq i 13 || Nat.beq i 14)) mixed (by kernel_rfl) ?_
      refine dV rfl (vM rfl) (dV rfl (vM rfl) (dp_vg rfl rfl rfl (vM rfl) (dp_vg rfl rfl rfl (vM rfl) (dr_vg rfl rfl rfl (vL rfl ld80) ?_))))
      refine dp_vg rfl rfl rfl (vN rfl) (dp_vg rfl rfl rfl (vF rfl fa87_0 rfl) (dr_vg rfl rfl rfl (vL rfl ld3) ?_))
      refine dp_vg rfl rfl rfl (v_add rfl rfl (by unfold I64 at *; omega)) (dp_vg rfl rfl rfl (vM rfl) (dp_vg rfl rfl rfl (v_add rfl rfl (by unfold I64 at *; omega)) (dr_clrg rfl rfl rfl rfl rfl en35 rfl (word_ct (l := l) (s := sp s) ok (by omega) (by omega)) ?_)))
      refine dr_effg rfl rfl rfl (st_yield (gd := 27) (.inr ⟨_, _, rfl, rfl, rfl⟩) rfl rfl (hy i s hlt hb1 hΦ) (Pk.of (hr := hr) (List.Perm.refl _)) (ltn rfl) ?_)
      rintro v h' ⟨s', rfl, hv⟩
      unfold refH
      rcases hv with ⟨rfl, h1⟩ | ⟨rfl, h1⟩
      · skip
        refine dr_nx ?_
        refine dr_effg rfl rfl rfl (st_valg rfl rfl (v_not rfl) (ltn rfl) (dr_nx ?_))
        refine dr_eff rfl (sV (v_pick_true rfl rfl) (dr_nx ?_))
        refine dr_nil (nK [0, 2, 3, 19, 20, 21, 40] rfl (nT (cd_false rfl ?_)))
        refine cK (xB (xT (cR (sV (v_add rfl rfl (by unfold I64 at *; omega)) (sV (vM rfl) (sN (nK [0, 2, 3, 19, 20, 21] rfl (nx_xt ?_))))))))
        refine xt_ag (i + 1, s') ⟨hlt, h1⟩ (by show _ - _ < _ - _; omega)
      · skip
        refine dr_nx ?_
        refine dr_effg rfl rfl rfl (st_valg rfl rfl (v_not rfl) (ltn rfl) (dr_nx ?_))
        refine dr_eff rfl (sV (v_pick_true rfl rfl) (dr_nx ?_))
        refine dr_nil (nK [0, 2, 3, 19, 20, 21, 40] rfl (nT (cd_true rfl ?_)))
        refine cT (xt_ret_block (xR (xR (xt_ret_block ?_))))
        exact xt_rt rfl ⟨rfl, s', rfl, .inr h1⟩
  · skip
    refine cd_exit (xE (xE (xt_exit_block ?_)))
    have hge : i = row.length := by have : row.length ≤ i := by simpa using hc
                                    omega
    subst hge
    exact xt_en rfl ⟨rfl, s, rfl, .inl hΦ⟩
end Go.Proofs.YtmhmpjgkkpbnnaaGreat
