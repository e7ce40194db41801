/-
  The plain machine: Flip, Step, Get, Set and Alloc keep what is in order. Nothing of the program is named here. No condition.
  The plain machine: Alloc, Set, Get and New keep what is in order. Nothing of the program is named here. No condition.
  Pictures of graphs: what roots reach, in the order in which it is met. Nothing of the program is named here. No condition.
  Pictures of graphs: lists that are ahead of others. Nothing of the program is named here. No condition.
  Acts: what each does to the plain machine and the roots. Nothing of the program is named here. No condition.
  Steps, and a whole collection: what they leave in the plain machine. Nothing of the program is named here. No condition.
  A whole collection in steps: the plain function, and what it leaves. Nothing of the program is named here. No condition.
  What acts keep of the plain machine: its shapes and its sizes. Nothing of the program is named here. No condition.
  The law of HeapRoom on the plain machine. Nothing of the program is named here. No condition.
  Acts on objects without addresses, and that the plain machine does just these. Nothing of the program is named here. No condition.
  Pictures of graphs that are alike are equal; so are those of plain machines that stand for the same objects. Nothing of the program is named here. No condition.
-/
import Derived.Test.YtmhmpjgkkpbnnaaM3
namespace Go.Hm
namespace AM
section
variable {m : AM} {ly ln lf N rl rs : List Int} {sp a : Int} {φ : Int → Option Nat} {A : Store}
theorem turn_base (m : AM) : m.turn.base = m.former := by unfold turn base former; cases m.up <;> rfl
theorem turn_former (m : AM) : m.turn.former = m.base := by unfold turn base former; cases m.up <;> rfl
theorem turn_old (m : AM) : m.turn.old = m.former := by unfold turn base former; cases m.up <;> rfl
theorem turn_scan (m : AM) : m.turn.scan = m.former := by unfold turn base former; cases m.up <;> rfl
theorem Good.turn (h : Good m [] ln [] φ A) (hr : m.rem = []) : Good m.turn [] [] ln φ A := by
  have h0 := h.g.oldle
  obtain ⟨fe, hf1, hf2⟩ := h.g.f
  have hm0 : ∀ t, m.moved t = 0 := fun t => by
    by_cases hm : m.moved t = 0
    · exact hm
    · have := h.ym t hm; simp at this
  have hleft : m.left = 0 := h.g.left
  have hb := m.turn_base; have hf := m.turn_former; have ho := m.turn_old; have hs := m.turn_scan
  have hwf : ∀ t ∈ ln, ∀ p ∈ m.pl t, m.word p = 0 ∨ m.word p ∈ ln := fun t ht p hp => by
    rcases h.g.wo t ht p hp with g | g | g | g
    · exact .inl g
    · exact .inr g
    · have := g.1; simp at this
    · have := g.1; simp at this
  refine ⟨⟨⟨h.g.sz.Y0, h.g.sz.Y1, h.g.sz.H0, h.g.sz.H1, h.g.sz.n, h.g.sz.w⟩, ⟨h.g.y.tl, h.g.y.hd, fun t ht => by simp at ht⟩, h.g.yl, ⟨?_, fun t h1 h2 => ?_, fun t ht => by simp at ht⟩, ⟨m.old, ?_, ?_, ?_, h.g.o.ok⟩, h.g.hn, fun hq => ?_, ?_, ?_, fun _ => ?_, fun t ht => absurd (hm0 t) ht, fun t t' _ ht => absurd (hm0 t) ht, fun t ht => by simp at ht, fun t ht => by simp at ht, fun t ht => by simp at ht, List.nodup_nil, fun t ht => by simp at ht, hwf, h.g.fz⟩, ⟨fun t i hi => ?_, h.s.shp, h.s.mvd, h.s.inj⟩, fun t ht => absurd (hm0 t) ht, fun k hk => ?_, ?_⟩
  · rw [hb, ho]; rfl
  · rw [hb] at h1 h2
    have h2' : t ≤ m.former + m.H - 1 := h2
    by_cases hlt : fe ≤ t
    · exact hf2.hd t h1 h2'
    · exact hf2.hd t h1 h2'
  · rw [hf]; show m.old ≤ m.base + m.H; omega
  · rw [hf]; exact h.g.o.tl
  · rw [hf]; exact h.g.o.hd
  · have hq' : (true : Bool) = false := hq
    cases hq'
  · show m.old - m.base = _
    have h1 := h.g.o.tl.sum
    have h2 : m.turn.usum ln = AM.sum m.size ln := sum_congr fun a _ => by unfold us; exact if_pos (hm0 a)
    rw [h2, h1]
  · rw [ho, hb]
    show m.former + (m.old - m.base) + 0 ≤ m.former + m.H
    omega
  · rw [hb, hs, ho]; omega
  · rcases h.s.dom t i hi with g | g | g
    · simp at g
    · exact .inr (.inr g)
    · simp at g
  · have hk' : k ∈ m.rem := hk
    rw [hr] at hk'; simp at hk'
  · show m.rem.Nodup
    rw [hr]; exact List.nodup_nil
theorem rooted_ok {roots : List Int} (hr : m.rooted roots = 0) : roots.length ≤ 200 ∧ ∀ r ∈ roots, r = 0 ∨ m.cur r = true := by
  unfold rooted at hr
  split at hr
  · cases hr
  · rename_i h1
    split at hr
    · cases hr
    · rename_i h2
      refine ⟨by simp at h1; omega, fun r hr' => ?_⟩
      simp only [List.any_eq_true, not_exists, not_and] at h2
      have := h2 r hr'
      unfold bad at this
      by_cases h0 : r = 0
      · exact .inl h0
      · right
        simp [h0] at this; exact this
theorem Good.rooted (h : Good m ly ln lf φ A) {roots : List Int} (hr : m.rooted roots = 0) : ∀ r ∈ roots, r = 0 ∨ r ∈ ly ∨ r ∈ ln := fun r hr' => ((rooted_ok hr).2 r hr').imp id fun hc => h.g.cur_iff.1 hc
theorem minorErr_ok {roots : List Int} (he : m.minorErr roots = 0) : m.rooted roots = 0 ∧ m.needed roots ≤ m.base + m.H - m.old - m.left := by
  unfold minorErr at he
  split at he
  · rename_i h1; exact absurd he h1
  · rename_i h1
    split at he
    · cases he
    · rename_i h2; exact ⟨by simpa using h1, by omega⟩
/-- Behind a Minor that is done. -/
theorem Good.minor (h : Good m ly ln lf φ A) {roots : List Int} (he : m.minorErr roots = 0) :
    ∃ ln' φ', Good (m.minor roots).2.2 [] ln' lf φ' A ∧ Roots ln' φ φ' roots (m.minor roots).1 ∧ (m.minor roots).2.2.sh = m.sh ∧ (m.minor roots).2.2.Y = m.Y ∧ (m.minor roots).2.2.H = m.H ∧ (m.minor roots).2.2.up = m.up ∧ (m.minor roots).2.2.busy = m.busy ∧
      (m.minor roots).2.2.new = 1 ∧ m.old ≤ (m.minor roots).2.2.old ∧ (m.minor roots).2.2.scan = m.scan := by
  obtain ⟨h1, h2⟩ := minorErr_ok he
  have := h.minorRun (h.rooted h1) h2
  unfold AM.minor
  rw [if_neg (by rw [he]; simp)]
  exact this
theorem minor_rem {roots : List Int} (he : m.minorErr roots = 0) : (m.minor roots).2.2.rem = [] := by
  unfold AM.minor; rw [if_neg (by rw [he]; simp)]; rfl
theorem minor_err {roots : List Int} (he : m.minorErr roots = 0) : (m.minor roots).2.1 = 0 := by
  unfold AM.minor; rw [if_neg (by rw [he]; simp)]
theorem minor_no {roots : List Int} (he : m.minorErr roots ≠ 0) : m.minor roots = ([], m.minorErr roots, m) := by
  unfold AM.minor; rw [if_pos he]
theorem Good.flip (h : Good m ly ln lf φ A) (hb : m.busy = false) {roots : List Int} (he : m.minorErr roots = 0) :
    ∃ ln' lf' φ', Good (m.flip roots).2.2 [] ln' lf' φ' A ∧ Roots ln' φ φ' roots (m.flip roots).1 ∧ (m.flip roots).2.1 = 0 ∧ (m.flip roots).2.2.sh = m.sh ∧ (m.flip roots).2.2.Y = m.Y ∧ (m.flip roots).2.2.H = m.H ∧ (m.flip roots).2.2.busy = true ∧ (m.flip roots).2.2.new = 1 := by
  obtain ⟨ln1, φ1, g1, ⟨r1, r2⟩, s1, s2, s3, s4, s5, s6, s7, s8⟩ := h.minor he
  have hlf : lf = [] := h.g.nb hb
  subst hlf
  have hrem := minor_rem he
  have hT := g1.turn hrem
  have hrl : (m.minor roots).2.2.turn.remP = [] := by unfold remP; show List.map _ (m.minor roots).2.2.rem = []; rw [hrem]; rfl
  have hg := hT.g
  obtain ⟨ln2, φ2, j2, q2, e2, w2, l2, p2⟩ := J.fwdL (A := A) (φ := φ1) false (m.minor roots).1 ⟨hg, hT.s⟩ (fun hq => by cases hq) (fun _ => rfl) (fun v hv ho => by
    obtain ⟨i, hi, rfl⟩ := List.getElem_of_mem hv
    have hF : (m.minor roots).2.2.turn.isF (m.minor roots).1[i] = true := ho
    rcases (r2 i (by omega) hi).1 with g | g
    · rw [hg.isFn (.inl g)] at hF; cases hF
    · simpa using g)
  have hfe : m.flip roots = ((AM.fwdL false (m.minor roots).1 (m.minor roots).2.2.turn).1, 0, (AM.fwdL false (m.minor roots).1 (m.minor roots).2.2.turn).2) := by
    unfold AM.flip
    rw [if_neg (by rw [hb]; simp)]
    simp only
    rw [if_neg (by rw [minor_err he]; simp)]
  rw [hfe]
  have hrem2 : (AM.fwdL false (m.minor roots).1 (m.minor roots).2.2.turn).2.rem = [] := q2.rem.trans hrem
  refine ⟨ln2, ln1, φ2, ⟨?_, j2.s, fun t ht => ?_, fun k hk => ?_, ?_⟩, ⟨l2.trans r1, fun i hi hi' => ?_⟩, rfl, q2.sh.trans s1, q2.Y.trans s2, q2.H.trans s3, q2.busy, q2.new.trans s6⟩
  · have : (AM.fwdL false (m.minor roots).1 (m.minor roots).2.2.turn).2.remP = [] := by unfold remP; rw [hrem2]; rfl
    rw [this, q2.base, q2.H]
    rw [hrl] at j2
    exact j2.g
  · exact ((j2.g.mv t ht).1).resolve_left (by simp)
  · simp only [hrem2] at hk; simp at hk
  · simp only [hrem2]; exact List.nodup_nil
  · obtain ⟨a1, a2⟩ := r2 i hi (by omega)
    obtain ⟨a3, a4⟩ := p2 i (by omega) hi'
    refine ⟨?_, fun x hx => a4 x (a2 x hx)⟩
    by_cases ho : (m.minor roots).2.2.turn.ours false (m.minor roots).1[i] = true
    · rw [if_pos ho] at a3; exact .inr a3
    · rw [if_neg ho] at a3
      rcases a1 with g | g
      · left; rw [a3]; exact g
      · exact absurd (ours_of (y := false) (N := []) hg (by simpa using g)) ho

/-! ### Step -/
theorem obj_at : ∀ (k : Nat) {t : Int}, (∀ x, t < x → x ≤ t + k → m.head x = 0) → m.head t ≠ 0 → ∀ f, k ≤ f → m.obj f (t + k) = t
  | 0, t, _, h, f, _ => by
    cases f with
    | zero => simp [obj]
    | succ f => unfold obj; rw [if_neg (by simpa using h)]; simp
  | k + 1, t, hz, h, f, hf => by
    obtain ⟨f, rfl⟩ : ∃ g, f = g + 1 := ⟨f - 1, by omega⟩
    unfold obj
    rw [if_pos (hz _ (by omega) (by omega)), show t + ((k + 1 : Nat) : Int) - 1 = t + (k : Nat) by omega]
    exact obj_at k (fun x h1 h2 => hz x h1 (by omega)) h f (by omega)
theorem Gd.inner (h : Gd m ly ln lf N rl sp rs) {t x : Int} (ht : t ∈ ln) (h1 : t < x) (h2 : x < t + m.size t) : m.head x = 0 := by
  have hn := h.hn x
  have := h.obd ht; have := h.oldle
  by_cases hp : 0 < m.head x
  · have hx := (h.o.hd x (by omega) (by omega)).1 hp
    have := h.o.tl.inside ht hx (by omega) h2
    omega
  · omega
/-- The object in which the scanned word lies. -/
theorem Gd.scanned (h : Gd m ly ln lf N rl sp rs) (h1 : m.base ≤ m.scan) (h2 : m.scan < m.old) : ∃ a ∈ ln, a ≤ m.scan ∧ m.scan < a + m.size a ∧ m.obj m.H.toNat m.scan = a ∧ (m.isRef m.scan = true ↔ m.scan ∈ m.pl a) := by
  obtain ⟨a, ha, h3, h4⟩ := h.o.tl.cover m.scan h1 h2
  have hab := h.obd ha; have h0 := h.oldle; have hH := h.sz.H0
  have ho : m.obj m.H.toNat m.scan = a := by
    have := obj_at (m := m) (m.scan - a).toNat (t := a) (fun x g1 g2 => h.inner ha g1 (by omega)) (by have := h.ohead ha; omega) m.H.toNat (by omega)
    rw [show a + ((m.scan - a).toNat : Int) = m.scan by omega] at this; exact this
  refine ⟨a, ha, h3, h4, ho, ?_⟩
  unfold isRef
  rw [ho]
  simp only [Bool.and_eq_true, decide_eq_true_eq]
  rw [mem_pl]
  constructor
  · rintro ⟨g1, g2⟩
    have hl : (m.scan - a - 1).toNat < (m.row a).length := by unfold AM.size at h4; omega
    unfold ref at g2
    obtain ⟨k, hk⟩ : ∃ k, (m.scan - a - 1).toNat = k := ⟨_, rfl⟩
    rw [hk] at g2 hl
    refine ⟨k, ?_, by omega⟩
    rw [List.getElem?_eq_getElem hl]
    simpa [List.getD_eq_getElem?_getD, hl] using g2
  · rintro ⟨k, g1, g2⟩
    refine ⟨by omega, ?_⟩
    unfold ref
    rw [show (m.scan - a - 1).toNat = k by omega]
    simp [List.getD_eq_getElem?_getD, g1]
theorem Gd.scan1 (h : Gd m ly ln lf N rl sp rs) (h2 : m.scan < m.old) (hw : ∀ t ∈ ln, m.scan ∈ m.pl t → m.word m.scan ∉ lf) : Gd { m with scan := m.scan + 1 } ly ln lf N rl sp rs := by
  refine ⟨⟨h.sz.Y0, h.sz.Y1, h.sz.H0, h.sz.H1, h.sz.n, h.sz.w⟩, ⟨h.y.tl, h.y.hd, h.y.ok⟩, h.yl, ⟨h.o.tl, h.o.hd, h.o.ok⟩, ?_, h.hn, h.nb, h.left, h.room, fun hb => ?_, h.mv, h.mi, h.wy, h.wN, h.NY, h.Nn, fun t ht p hp => ?_, h.wf, h.fz⟩
  · obtain ⟨fe, g1, g2⟩ := h.f; exact ⟨fe, g1, g2.tl, g2.hd, g2.ok⟩
  · obtain ⟨g1, g2⟩ := h.sc hb
    exact ⟨by show m.base ≤ m.scan + 1; omega, by show m.scan + 1 ≤ m.old; omega⟩
  · rcases h.wo t ht p hp with g | g | g | g
    · exact .inl g
    · exact .inr (.inl g)
    · exact .inr (.inr (.inl g))
    · refine .inr (.inr (.inr ⟨g.1, ?_⟩))
      have hne : p ≠ m.scan := fun e => hw t ht (by rw [← e]; exact hp) (by rw [← e]; exact g.1)
      have := g.2
      show m.scan + 1 ≤ p
      omega
theorem Good.step1 (h : Good m ly ln lf φ A) (hb : m.busy = true) (hs : m.scan < m.old) :
    ∃ ln' φ', Good m.step1 ly ln' lf φ' A ∧ (∀ t ∈ ln, t ∈ ln') ∧ Le φ φ' ∧ m.step1.sh = m.sh ∧ m.step1.Y = m.Y ∧ m.step1.H = m.H ∧ m.step1.up = m.up ∧ m.step1.busy = true ∧ m.step1.new = m.new ∧ m.step1.scan = m.scan + 1 ∧ m.old ≤ m.step1.old := by
  obtain ⟨h1, _⟩ := h.g.sc hb
  obtain ⟨a, ha, h3, h4, ho, hr⟩ := h.g.scanned h1 hs
  by_cases hc : m.isRef m.scan = true
  · have hp := hr.1 hc
    obtain ⟨ln', φ', j, g, sc, w, wp⟩ := J.fwdAt (A := A) (φ := φ) ⟨h.g, h.s⟩ false (rl' := m.remP) (sp' := m.base + m.H) (.inl ha) hp (fun hq => by cases hq) (fun _ => rfl) (fun q _ hq => hq)
    have hst : m.step1 = { m.fwdAt false m.scan with scan := (m.fwdAt false m.scan).scan + 1 } := by unfold AM.step1; simp only; rw [if_pos hc]
    have hG : Gd m.step1 ly ln' lf ly m.remP (m.base + m.H) [] := by
      rw [hst]
      refine j.g.scan1 (by rw [sc]; have := g.old; omega) fun t ht hpt => ?_
      rw [sc]
      rcases wp with wp | wp | wp | wp
      · rw [wp]; exact j.g.notY0.2.2
      · exact fun hh => j.g.fy hh wp
      · exact fun hh => j.g.of wp hh
      · cases wp.1
    have hrem : m.step1.rem = m.rem := by rw [hst]; exact g.rem
    have hbase : m.step1.base = m.base := by rw [hst]; exact g.base
    have hH : m.step1.H = m.H := by rw [hst]; exact g.H
    refine ⟨ln', φ', ⟨?_, ?_, fun t ht => ?_, fun k hk => ?_, by rw [hrem]; exact h.rn⟩, fun t ht => g.sub ht, g.le, by rw [hst]; exact g.sh, by rw [hst]; exact g.Y, hH, by rw [hst]; exact g.up, by rw [hst]; exact g.busy.trans hb, by rw [hst]; exact g.new, by rw [hst]; show (m.fwdAt false m.scan).scan + 1 = _; rw [sc], by rw [hst]; exact g.old⟩
    · have : m.step1.remP = m.remP := by unfold remP; rw [hrem]
      rw [this, hbase, hH]; exact hG
    · rw [hst]; exact ⟨j.s.dom, j.s.shp, j.s.mvd, j.s.inj⟩
    · rw [hst] at ht
      rcases (j.g.mv t ht).1 with g1 | g1
      · -- a young object is moved by nothing here
        have hyf : m.moved t ≠ 0 → False := fun hm => h.g.fy (h.ym t hm) g1
        have he : (m.fwdAt false m.scan).moved t = m.moved t := by
          show (m.fwd false (m.word m.scan)).2.moved t = m.moved t
          unfold AM.fwd
          split
          · rename_i hou
            split
            · rfl
            · have hne : t ≠ m.word m.scan := fun e => by
                have : m.isF t = true := by rw [e]; exact hou
                rw [h.g.isFn (.inr (.inl g1))] at this; cases this
              exact move_moved_ne m hne
          · rfl
        exact absurd (he ▸ ht) (fun hm => hyf hm)
      · exact g1
    · rw [hrem] at hk
      obtain ⟨k1, jj, k2, k3⟩ := h.rm k hk
      refine ⟨g.sub k1, jj, k2, ?_⟩
      have : m.step1.row k.1 = m.row k.1 := by rw [hst]; exact g.row (.inl (by have := h.g.obd k1; omega))
      rw [this]; exact k3
  · have hst : m.step1 = { m with scan := m.scan + 1 } := by unfold AM.step1; simp only; rw [if_neg hc]
    rw [hst]
    refine ⟨ln, φ, ⟨h.g.scan1 hs fun t ht hpt => ?_, ⟨h.s.dom, h.s.shp, h.s.mvd, h.s.inj⟩, h.ym, h.rm, h.rn⟩, fun t ht => ht, Le.refl _, rfl, rfl, rfl, rfl, hb, rfl, rfl, Int.le_refl _⟩
    have hpb := pl_bd hpt
    have := h.g.same (.inr (.inl ht)) (.inr (.inl ha)) (p := m.scan) (by omega) (by omega) h3 h4
    subst this
    exact absurd (hr.2 hpt) hc
theorem Good.steps : ∀ (k : Nat) {m : AM} {ln : List Int} {φ : Int → Option Nat}, Good m ly ln lf φ A → m.busy = true →
    ∃ ln' φ', Good (AM.steps k m) ly ln' lf φ' A ∧ (∀ t ∈ ln, t ∈ ln') ∧ Le φ φ' ∧ (AM.steps k m).sh = m.sh ∧ (AM.steps k m).Y = m.Y ∧ (AM.steps k m).H = m.H ∧ (AM.steps k m).up = m.up ∧ (AM.steps k m).busy = true ∧ (AM.steps k m).new = m.new ∧ m.old ≤ (AM.steps k m).old ∧ (AM.steps k m).scan ≤ (AM.steps k m).old ∧ (m.scan + k ≤ (AM.steps k m).scan ∨ (AM.steps k m).scan = (AM.steps k m).old)
  | 0, m, ln, φ, h, hb => ⟨ln, φ, h, fun _ ht => ht, Le.refl _, rfl, rfl, rfl, rfl, hb, rfl, Int.le_refl _, (h.g.sc hb).2, .inl (by show m.scan + ((0 : Nat) : Int) ≤ m.scan; omega)⟩
  | k + 1, m, ln, φ, h, hb => by
    by_cases hs : m.scan < m.old
    · obtain ⟨ln1, φ1, g1, a1, a2, a3, a4, a5, a6, a7, a8, a9, a10⟩ := h.step1 hb hs
      obtain ⟨ln2, φ2, g2, b1, b2, b3, b4, b5, b6, b7, b8, b9, b10, b11⟩ := Good.steps k g1 a7
      have he : AM.steps (k + 1) m = AM.steps k m.step1 := by show (if _ then _ else _) = _; rw [if_pos hs]
      rw [he]
      exact ⟨ln2, φ2, g2, fun t ht => b1 t (a1 t ht), a2.trans b2, b3.trans a3, b4.trans a4, b5.trans a5, b6.trans a6, b7, b8.trans a8, by omega, b10, by rcases b11 with b | b; left; omega; exact .inr b⟩
    · have he : AM.steps (k + 1) m = m := by show (if _ then _ else _) = _; rw [if_neg hs]
      rw [he]
      have := (h.g.sc hb).2
      exact ⟨ln, φ, h, fun _ ht => ht, Le.refl _, rfl, rfl, rfl, rfl, hb, rfl, Int.le_refl _, this, .inr (by omega)⟩
/-- All is moved. -/
theorem Good.fin (h : Good m ly ln lf φ A) (hb : m.busy = true) (hs : m.scan = m.old) : Good m.fin ly ln [] (fun t => if t ∈ lf then none else φ t) A := by
  have h0 := h.g.oldle; have hb' := m.base_former; have hY := h.g.sz.Y0; have hH := h.g.sz.H0; have hyl := h.g.yl
  have hout : ∀ {t p : Int}, t ∈ ly ∨ t ∈ ln → t ≤ p → p < t + m.size t → p < m.former ∨ m.former + m.H ≤ p := fun {t p} ht h1 h2 => by
    rcases ht with ht | ht
    · have := h.g.ybd ht; omega
    · have := h.g.obd ht; omega
  have hrow : ∀ {t : Int}, t ∈ ly ∨ t ∈ ln → m.fin.row t = m.row t := fun {t} ht => by
    show m.sh.getD ((m.clear m.former m.H).head t - 1).toNat [] = _
    rw [(clear_other (hout ht (Int.le_refl _) (by have := m.size_pos t; omega))).2.1]; rfl
  have hsz : ∀ {t : Int}, t ∈ ly ∨ t ∈ ln → m.fin.size t = m.size t := fun {t} ht => by unfold size; rw [hrow ht]
  have hpl : ∀ {t : Int}, t ∈ ly ∨ t ∈ ln → m.fin.pl t = m.pl t := fun {t} ht => by unfold pl; rw [hrow ht]
  have hhd : ∀ {t : Int}, t ∈ ly ∨ t ∈ ln → m.fin.head t = m.head t := fun {t} ht => (clear_other (hout ht (Int.le_refl _) (by have := m.size_pos t; omega))).2.1
  have hwd : ∀ {t p : Int}, t ∈ ly ∨ t ∈ ln → t < p → p < t + m.size t → m.fin.word p = m.word p := fun {t p} ht h1 h2 => (clear_other (hout ht (by omega) h2)).1
  have hgt : ∀ x, x < m.former ∨ m.former + m.H ≤ x → m.fin.head x = m.head x ∧ m.fin.moved x = m.moved x := fun x hx => ⟨(clear_other hx).2.1, (clear_other hx).2.2⟩
  have hin : ∀ x, m.former ≤ x → x < m.former + m.H → m.fin.word x = 0 ∧ m.fin.head x = 0 ∧ m.fin.moved x = 0 := fun x h1 h2 => clear_in h1 h2
  have hmz : ∀ t, m.fin.moved t = 0 := fun t => by
    by_cases hi : m.former ≤ t ∧ t < m.former + m.H
    · exact (hin t hi.1 hi.2).2.2
    · rw [(hgt t (by omega)).2]
      by_cases hm : m.moved t = 0
      · exact hm
      · have := h.g.fbd (h.ym t hm); omega
  have hwo : ∀ t ∈ ln, ∀ p ∈ m.pl t, m.word p = 0 ∨ m.word p ∈ ln ∨ (m.word p ∈ ly ∧ (p ∈ m.remP ∨ m.base + m.H ≤ p)) := fun t ht p hp => by
    rcases h.g.wo t ht p hp with g | g | g | g
    · exact .inl g
    · exact .inr (.inl g)
    · exact .inr (.inr g)
    · have := pl_bd hp; have := h.g.obd ht; omega
  have hVr : ∀ {w x : Int}, V φ w x → w ∉ lf → V (fun t => if t ∈ lf then none else φ t) w x := fun {w x} hv hw => by
    rcases hv with hv | ⟨j, h1, h2⟩
    · exact .inl hv
    · exact .inr ⟨j, by show (if w ∈ lf then none else φ w) = some j; rw [if_neg hw]; exact h1, h2⟩
  have hnf : ∀ {w : Int}, w = 0 ∨ w ∈ ln ∨ w ∈ ly → w ∉ lf := fun {w} hw hf => by
    rcases hw with g | g | g
    · rw [g] at hf; exact h.g.notY0.2.2 hf
    · exact h.g.of g hf
    · exact h.g.fy hf g
  have hrp : m.fin.remP = m.remP := rfl
  have hfb : m.fin.base = m.base := rfl
  refine ⟨⟨⟨h.g.sz.Y0, h.g.sz.Y1, h.g.sz.H0, h.g.sz.H1, h.g.sz.n, h.g.sz.w⟩, ⟨?_, fun t h1 h2 => ?_, fun t ht => ?_⟩, h.g.yl, ⟨?_, fun t h1 h2 => ?_, fun t ht => ?_⟩, ⟨m.former, ?_, rfl, fun t h1 h2 => ?_, fun t ht => by simp at ht⟩, fun t => ?_, fun _ => rfl, rfl, ?_, fun hq => ?_, fun t ht => absurd (hmz t) ht, fun t t' _ ht => absurd (hmz t) ht, fun t ht p hp => ?_, fun t ht p hp hw => hw, fun t ht => ht, h.g.Nn, fun t ht p hp => ?_, fun t ht => by simp at ht, fun t h1 h2 => ?_⟩, ⟨fun t i hi => ?_, fun t i hi => ?_, fun t i hi hm => absurd (hmz t) hm, fun t t' i hi hi' hm hm' => ?_⟩, fun t ht => absurd (hmz t) ht, fun k hk => ?_, h.rn⟩
  · exact h.g.y.tl.congr fun t ht => hsz (.inl ht)
  · have h2' : t ≤ m.Y := h2
    rw [(hgt t (by omega)).1]; exact h.g.y.hd t h1 h2
  · rw [hhd (.inl ht)]; exact h.g.y.ok t ht
  · exact h.g.o.tl.congr fun t ht => hsz (.inr ht)
  · have h1' : m.base ≤ t := h1
    have h2' : t ≤ m.base + m.H - 1 := h2
    rw [(hgt t (by omega)).1]; exact h.g.o.hd t h1 h2
  · rw [hhd (.inr ht)]; exact h.g.o.ok t ht
  · show m.former ≤ m.former + m.H; omega
  · have h1' : m.former ≤ t := h1
    have h2' : t ≤ m.former + m.H - 1 := h2
    rw [(hin t h1' (by omega)).2.1]; simp
  · by_cases hi : m.former ≤ t ∧ t < m.former + m.H
    · rw [(hin t hi.1 hi.2).2.1]; omega
    · rw [(hgt t (by omega)).1]; exact h.g.hn t
  · show m.old + 0 + 0 ≤ m.base + m.H; omega
  · have hq' : (false : Bool) = true := hq
    cases hq'
  · rw [hpl (.inl ht)] at hp
    have := pl_bd hp
    rw [hwd (.inl ht) this.1 this.2]; exact h.g.wy t ht p hp
  · rw [hpl (.inr ht)] at hp
    have := pl_bd hp
    rw [hwd (.inr ht) this.1 this.2]
    rcases hwo t ht p hp with g | g | g
    · exact .inl g
    · exact .inr (.inl g)
    · exact .inr (.inr (.inl g))
  · have h1' : m.new ≤ t := h1
    have h2' : t ≤ m.Y := h2
    have h3' := h.g.newle
    rw [show m.fin.word t = m.word t from (clear_other (by omega)).1]; exact h.g.fz t h1 h2
  · by_cases hty : t ∈ lf
    · rw [if_pos hty] at hi; cases hi
    · rw [if_neg hty] at hi
      rcases h.s.dom t i hi with g | g | g
      · exact .inl g
      · exact .inr (.inl g)
      · exact absurd g hty
  · by_cases hty : t ∈ lf
    · rw [if_pos hty] at hi; cases hi
    · rw [if_neg hty] at hi
      have hd : t ∈ ly ∨ t ∈ ln := by
        rcases h.s.dom t i hi with g | g | g
        · exact .inl g
        · exact .inr g
        · exact absurd g hty
      obtain ⟨fs, h1, h2, h3⟩ := h.s.shp t i hi
      refine ⟨fs, by rw [hhd hd]; exact h1, by rw [hrow hd]; exact h2, fun _ k hk => ?_⟩
      have hm0 : m.moved t = 0 := by
        by_cases hm : m.moved t = 0
        · exact hm
        · exact absurd (h.ym t hm) hty
      have h4 := h3 hm0 k hk
      rw [hrow hd, hwd hd (by omega) (by unfold size; omega)]
      split
      · rename_i hr
        rw [if_pos hr] at h4
        refine hVr h4 ?_
        have hkl : k < (m.row t).length := by omega
        have hp : t + 1 + (k : Int) ∈ m.pl t := mem_pl.2 ⟨k, by rw [List.getElem?_eq_getElem hkl]; simpa [List.getD_eq_getElem?_getD, hkl] using hr, rfl⟩
        rcases hd with hd | hd
        · exact hnf (by rcases h.g.wy t hd _ hp with g | g | g; exact .inl g; exact .inr (.inr g); exact .inr (.inl g))
        · exact hnf (by rcases hwo t hd _ hp with g | g | g; exact .inl g; exact .inr (.inl g); exact .inr (.inr g.1))
      · rename_i hr; rw [if_neg hr] at h4; exact h4
  · by_cases hty : t ∈ lf
    · rw [if_pos hty] at hi; cases hi
    · by_cases hty' : t' ∈ lf
      · rw [if_pos hty'] at hi'; cases hi'
      · rw [if_neg hty] at hi
        rw [if_neg hty'] at hi'
        have hz : ∀ x, x ∉ lf → m.moved x = 0 := fun x hx => by
          by_cases hm : m.moved x = 0
          · exact hm
          · exact absurd (h.ym x hm) hx
        exact h.s.inj t t' i hi hi' (hz t hty) (hz t' hty')
  · obtain ⟨k1, j, k2, k3⟩ := h.rm k hk
    exact ⟨k1, j, k2, by rw [hrow (.inr k1)]; exact k3⟩
end
end AM
end Go.Hm
namespace Go.Hm
namespace AM
/-- A field of an object without an address is put. -/
def setf (A : Store) (i k : Nat) (x : Int) : Store := A.modify i fun q => (q.1, q.2.set k x)
section
variable {m : AM} {ly ln lf N rl rs : List Int} {sp a : Int} {φ : Int → Option Nat} {A : Store}
theorem Good.new {sh : List (List Bool)} {half young : Int} (h1 : 1 ≤ half) (h2 : half ≤ 4096) (h3 : 1 ≤ young) (h4 : young ≤ 1024) (h5 : sh.length ≤ 60) (h6 : ∀ l ∈ sh, l.length ≤ 60) : Good (new' sh half young) [] [] [] (fun _ => none) [] := by
  have hb : (new' sh half young).base = young + 1 := rfl
  have hf : (new' sh half young).former = young + half + 1 := rfl
  refine ⟨⟨⟨h3, by show young ≤ 400000; omega, h1, by show half ≤ 100000; omega, by show sh.length ≤ 100; omega, fun l hl => by have := h6 l hl; omega⟩, ⟨rfl, fun t _ _ => by simp [new'], fun t ht => by simp at ht⟩, by show (1 : Int) ≤ young + 1; omega, ⟨rfl, fun t _ _ => by simp [new'], fun t ht => by simp at ht⟩, ⟨(new' sh half young).former, by rw [hf]; show _ ≤ young + half + 1 + half; omega, rfl, fun t _ _ => by simp [new'], fun t ht => by simp at ht⟩, fun t => Int.le_refl _, fun _ => rfl, rfl, ?_, (fun hq => by cases hq), fun t ht => absurd rfl ht, fun t t' _ ht => absurd rfl ht, fun t ht => by simp at ht, fun t ht => by simp at ht, fun t ht => by simp at ht, List.nodup_nil, fun t ht => by simp at ht, fun t ht => by simp at ht, fun t _ _ => rfl⟩, Sim.none .., fun t ht => absurd rfl ht, fun k hk => by simp [new'] at hk, List.nodup_nil⟩
  rw [hb]; show young + 1 + 0 + 0 ≤ young + 1 + half; omega

theorem Good.moved0 (h : Good m ly ln lf φ A) {t : Int} (ht : t ∈ ly ∨ t ∈ ln) : m.moved t = 0 := by
  by_cases hm : m.moved t = 0
  · exact hm
  · have := h.ym t hm
    rcases ht with ht | ht
    · exact absurd ht (h.g.fy this)
    · exact absurd this (h.g.of ht)
/-- An object is made. -/
theorem Good.alloc (h : Good m ly ln lf φ A) {s : Int} (he : (m.alloc s).2.1 = 0) :
    Good (m.alloc s).2.2 (ly ++ [m.new]) ln lf (fun t => if t = m.new then some A.length else φ t) (A ++ [(s, List.replicate (m.sh.getD s.toNat []).length 0)]) ∧ Le φ (fun t => if t = m.new then some A.length else φ t) ∧ (m.alloc s).1 = m.new ∧
      0 ≤ s ∧ s < m.sh.length ∧ (m.alloc s).2.2 = { m with head := fup m.head m.new (s + 1), new := m.new + (1 + (m.sh.getD s.toNat []).length) } := by
  unfold AM.alloc at he ⊢
  split at he
  · cases he
  · rename_i h1
    rw [if_neg h1]
    simp only [Bool.or_eq_true, decide_eq_true_eq, not_or] at h1
    simp only at he ⊢
    split at he
    · cases he
    · rename_i h2
      rw [if_neg h2]
      simp only [decide_eq_true_eq] at h2
      have hb := m.base_former; have h0 := h.g.oldle; have hyl := h.g.yl; have hn1 := h.g.newle; have hH := h.g.sz.H0
      obtain ⟨m', hm'⟩ : ∃ m', m' = ({ m with head := fup m.head m.new (s + 1), new := m.new + (1 + ((m.sh.getD s.toNat []).length : Int)) } : AM) := ⟨_, rfl⟩
      rw [← hm']
      have hny : m.new ∉ ly := fun hq => by have := h.g.ybd hq; omega
      have hno : m.new ∉ ln := fun hq => by have := h.g.obd hq; omega
      have hnf : m.new ∉ lf := fun hq => by have := h.g.fbd hq; omega
      have hnφ : φ m.new = none := by
        cases hq : φ m.new with
        | none => rfl
        | some i => exact absurd (h.s.dom _ _ hq) (by simp [hny, hno, hnf])
      have hle : Le φ (fun t => if t = m.new then some A.length else φ t) := fun t i ht => by
        show (if t = m.new then some A.length else φ t) = some i
        rw [if_neg (fun e => by rw [e, hnφ] at ht; cases ht)]; exact ht
      have hhd : ∀ t, t ≠ m.new → m'.head t = m.head t := fun t ht => by rw [hm']; exact fup_other ht
      have hhn : m'.head m.new = s + 1 := by rw [hm']; exact fup_same ..
      have hwd : m'.word = m.word := by rw [hm']
      have hmv : m'.moved = m.moved := by rw [hm']
      have hrow : ∀ t, t ≠ m.new → m'.row t = m.row t := fun t ht => by unfold row; rw [hhd t ht, hm']
      have hrn : m'.row m.new = m.sh.getD s.toNat [] := by unfold row; rw [hhn, hm']; simp
      have hsz : ∀ t, t ≠ m.new → m'.size t = m.size t := fun t ht => by unfold size; rw [hrow t ht]
      have hsn : m'.size m.new = 1 + ((m.sh.getD s.toNat []).length : Int) := by unfold size; rw [hrn]
      have hpl : ∀ t, t ≠ m.new → m'.pl t = m.pl t := fun t ht => by unfold pl; rw [hrow t ht]
      have hney : ∀ {t : Int}, t ∈ ly → t ≠ m.new := fun ht e => hny (e ▸ ht)
      have hneo : ∀ {t : Int}, t ∈ ln → t ≠ m.new := fun ht e => hno (e ▸ ht)
      have hnef : ∀ {t : Int}, t ∈ lf → t ≠ m.new := fun ht e => hnf (e ▸ ht)
      have hnb : m'.base = m.base := by rw [hm']; rfl
      have hnfm : m'.former = m.former := by rw [hm']; rfl
      have hnH : m'.H = m.H := by rw [hm']
      have hnY : m'.Y = m.Y := by rw [hm']
      have hno' : m'.old = m.old := by rw [hm']
      have hnn : m'.new = m.new + (1 + ((m.sh.getD s.toNat []).length : Int)) := by rw [hm']
      have hnl : m'.left = m.left := by rw [hm']
      have hnsc : m'.scan = m.scan := by rw [hm']
      have hnbz : m'.busy = m.busy := by rw [hm']
      have hnsh : m'.sh = m.sh := by rw [hm']
      have hnr : m'.rem = m.rem := by rw [hm']
      have hus : m'.usum lf = m.usum lf := sum_congr fun a ha => by unfold us; rw [hmv, hsz a (hnef ha)]
      have hrp : m'.remP = m.remP := by unfold remP; rw [hnr]
      refine ⟨⟨⟨⟨by rw [hnY]; exact h.g.sz.Y0, by rw [hnY]; exact h.g.sz.Y1, by rw [hnH]; exact h.g.sz.H0, by rw [hnH]; exact h.g.sz.H1, by rw [hnsh]; exact h.g.sz.n, by rw [hnsh]; exact h.g.sz.w⟩, ⟨?_, fun t g1 g2 => ?_, fun t ht => ?_⟩, by rw [hnn, hnY]; omega, ⟨?_, fun t g1 g2 => ?_, fun t ht => ?_⟩, ?_, fun t => ?_, by rw [hnbz]; exact h.g.nb, by rw [hnl, hus]; exact h.g.left, by rw [hno', hnl, hnb, hnH]; exact h.g.room, by rw [hnbz, hnb, hnsc, hno']; exact h.g.sc, fun t ht => ?_, by rw [hmv]; exact h.g.mi, fun t ht p hp => ?_, fun t _ p _ hw => hw, fun t ht => ht, ?_, fun t ht p hp => ?_, fun t ht p hp => ?_, fun t g1 g2 => ?_⟩, ⟨fun t i hi => ?_, fun t i hi => ?_, fun t i hi hm => ?_, fun t t' i hi hi' hm hmm => ?_⟩, by rw [hmv]; exact h.ym, fun k hk => ?_, by rw [hnr]; exact h.rn⟩, hle, rfl, by omega, by omega, rfl⟩
      · have g1 : Tl m'.size 1 m.new ly := h.g.y.tl.congr fun t ht => hsz t (hney ht)
        have := Tl.snoc (by rw [hsn]; omega) g1
        rw [hsn] at this
        rw [hnn]; exact this
      · rw [hnY] at g2
        rw [List.mem_append, List.mem_singleton]
        by_cases hq : t = m.new
        · rw [hq, hhn]; exact ⟨fun _ => .inr rfl, fun _ => by omega⟩
        · rw [hhd t hq, h.g.y.hd t g1 g2]; simp [hq]
      · rw [hnsh]
        rcases List.mem_append.1 ht with ht | ht
        · rw [hhd t (hney ht)]; exact h.g.y.ok t ht
        · rw [List.mem_singleton.1 ht, hhn]; omega
      · rw [hnb, hno']; exact h.g.o.tl.congr fun t ht => hsz t (hneo ht)
      · rw [hnb] at g1
        rw [hnb, hnH] at g2
        rw [hhd t (by omega)]; exact h.g.o.hd t g1 g2
      · rw [hnsh, hhd t (hneo ht)]; exact h.g.o.ok t ht
      · obtain ⟨fe, f1, f2⟩ := h.g.f
        refine ⟨fe, by rw [hnfm, hnH]; exact f1, ?_, fun t g1 g2 => ?_, fun t ht => ?_⟩
        · rw [hnfm]; exact f2.tl.congr fun t ht => hsz t (hnef ht)
        · rw [hnfm] at g1
          rw [hnfm, hnH] at g2
          rw [hhd t (by omega)]; exact f2.hd t g1 g2
        · rw [hnsh, hhd t (hnef ht)]; exact f2.ok t ht
      · by_cases hq : t = m.new
        · rw [hq, hhn]; omega
        · rw [hhd t hq]; exact h.g.hn t
      · rw [hmv] at ht ⊢
        obtain ⟨g1, g2, g3⟩ := h.g.mv t ht
        have htf := h.ym t ht
        exact ⟨.inr htf, g2, by rw [hhd _ (hneo g2), hhd t (hnef htf)]; exact g3⟩
      · rw [hwd]
        rcases List.mem_append.1 ht with ht | ht
        · rw [hpl t (hney ht)] at hp
          rcases h.g.wy t ht p hp with g | g | g
          · exact .inl g
          · exact .inr (.inl (List.mem_append_left _ g))
          · exact .inr (.inr g)
        · have ht := List.mem_singleton.1 ht
          have hpb := pl_bd hp
          rw [ht, hsn] at hpb
          exact .inl (h.g.fz p (by omega) (by omega))
      · exact List.nodup_append.2 ⟨h.g.Nn, by simp, fun x hx y hy e => by simp at hy; subst hy; exact hny (e ▸ hx)⟩
      · rw [hwd, hrp, hnb, hnH]
        rw [hpl t (hneo ht)] at hp
        rcases h.g.wo t ht p hp with g | g | g | g
        · exact .inl g
        · exact .inr (.inl g)
        · exact .inr (.inr (.inl ⟨List.mem_append_left _ g.1, g.2⟩))
        · exact .inr (.inr (.inr (by rw [hnsc]; exact g)))
      · rw [hwd]
        rw [hpl t (hnef ht)] at hp
        exact h.g.wf t ht p hp
      · rw [hwd]
        rw [hnn] at g1
        rw [hnY] at g2
        exact h.g.fz t (by omega) g2
      · by_cases hq : t = m.new
        · exact .inl (by simp [hq])
        · rw [if_neg hq] at hi
          rcases h.s.dom t i hi with g | g
          · exact .inl (List.mem_append_left _ g)
          · exact .inr g
      · by_cases hq : t = m.new
        · subst hq
          rw [if_pos rfl] at hi
          injection hi with hi
          subst hi
          refine ⟨List.replicate (m.sh.getD s.toNat []).length 0, by rw [hhn]; simp, by rw [hrn]; simp, fun _ k hk => ?_⟩
          have hk' : k < (m.sh.getD s.toNat []).length := by simpa using hk
          have hz : m'.word (m.new + 1 + k) = 0 := by rw [hwd]; exact h.g.fz _ (by omega) (by omega)
          have hz' : (List.replicate (m.sh.getD s.toNat []).length (0 : Int)).getD k 0 = 0 := by rw [List.getD_eq_getElem?_getD, List.getElem?_replicate]; split <;> rfl
          rw [hz, hz']
          split
          · exact .inl ⟨rfl, rfl⟩
          · rfl
        · rw [if_neg hq] at hi
          obtain ⟨fs, g1, g2, g3⟩ := h.s.shp t i hi
          refine ⟨fs, ?_, by rw [hrow t hq]; exact g2, fun hm k hk => ?_⟩
          · rw [hhd t hq, List.getElem?_append_left (List.getElem?_eq_some_iff.1 g1).1]; exact g1
          · rw [hmv] at hm
            have g4 := g3 hm k hk
            rw [hrow t hq, hwd]
            split
            · rename_i hr; rw [if_pos hr] at g4; exact g4.mono hle
            · rename_i hr; rw [if_neg hr] at g4; exact g4
      · rw [hmv] at hm ⊢
        have htf := h.ym t hm
        rw [if_neg (hnef htf)] at hi
        exact hle _ _ (h.s.mvd t i hi hm)
      · rw [hmv] at hm hmm
        have key : ∀ {t i}, φ t = some i → i < A.length := fun {t i} hq => by obtain ⟨fs, g1, _⟩ := h.s.shp t i hq; exact (List.getElem?_eq_some_iff.1 g1).1
        by_cases hq : t = m.new
        · by_cases hq' : t' = m.new
          · rw [hq, hq']
          · rw [if_pos hq] at hi
            rw [if_neg hq'] at hi'
            injection hi with hi
            have := key hi'
            omega
        · by_cases hq' : t' = m.new
          · rw [if_neg hq] at hi
            rw [if_pos hq'] at hi'
            injection hi' with hi'
            have := key hi
            omega
          · rw [if_neg hq] at hi
            rw [if_neg hq'] at hi'
            exact h.s.inj t t' i hi hi' hm hmm
      · rw [hnr] at hk
        obtain ⟨k1, j, k2, k3⟩ := h.rm k hk
        exact ⟨k1, j, k2, by rw [hrow _ (hneo k1)]; exact k3⟩
theorem alloc_err {s : Int} (he : (m.alloc s).2.1 ≠ 0) : (m.alloc s).2.2 = m ∧ (m.alloc s).1 = 0 := by
  unfold AM.alloc at he ⊢
  split
  · exact ⟨rfl, rfl⟩
  · rename_i h1
    rw [if_neg h1] at he
    simp only at he ⊢
    split
    · exact ⟨rfl, rfl⟩
    · rename_i h2
      rw [if_neg h2] at he
      exact absurd rfl he
/-- A field that there is. -/
theorem Gd.field (h : Gd m ly ln lf N rl sp rs) {t k : Int} (he : m.fe t k = 0) : (t ∈ ly ∨ t ∈ ln) ∧ ∃ j : Nat, k = j ∧ j < (m.row t).length := by
  unfold fe at he
  split at he
  · cases he
  · rename_i h1
    split at he
    · cases he
    · rename_i h2
      simp only [Bool.or_eq_true, decide_eq_true_eq, not_or] at h2
      exact ⟨h.cur_iff.1 (by simpa using h1), k.toNat, by omega, by omega⟩
theorem ref_iff {t : Int} {j : Nat} (hj : j < (m.row t).length) : m.ref t j = true ↔ (m.row t)[j]? = some true := by
  unfold ref
  rw [List.getElem?_eq_getElem hj]
  simp [List.getD_eq_getElem?_getD, hj]
theorem Good.set (h : Good m ly ln lf φ A) {t k v : Int} {A' : Store} (he : (m.set t k v).1 = 0) (hA : (φ t = none ∧ A' = A) ∨ ∃ i x, φ t = some i ∧ A' = setf A i k.toNat x ∧ if m.ref t k then V φ v x else v = x) :
    Good (m.set t k v).2 ly ln lf φ A' ∧ m.fe t k = 0 ∧ (m.ref t k = true → v = 0 ∨ m.cur v = true) ∧ (m.set t k v).2.sh = m.sh ∧ (m.set t k v).2.Y = m.Y ∧ (m.set t k v).2.H = m.H ∧ (m.set t k v).2.busy = m.busy := by
  unfold AM.set at he ⊢
  split at he
  · rename_i h1; exact absurd he h1
  · rename_i h1
    have h1 : m.fe t k = 0 := by simpa using h1
    split at he
    · cases he
    · rename_i h2
      rw [if_neg (by rw [h1]; simp), if_neg h2]
      simp only
      obtain ⟨ht, j, hkj, hj⟩ := h.g.field h1
      subst hkj
      have hmt := h.moved0 ht
      have hcv : m.ref t j = true → v = 0 ∨ v ∈ ly ∨ v ∈ ln := fun hr => by
        by_cases h0 : v = 0
        · exact .inl h0
        · right
          rw [hr] at h2
          simp [h0] at h2
          exact h.g.cur_iff.1 h2
      refine ⟨?_, h1, fun hr => (hcv hr).imp id fun hq => h.g.cur_iff.2 hq, ?_⟩
      · have hsim : ∀ m' : AM, m'.head = (m.put (t + 1 + j) v).head → m'.word = (m.put (t + 1 + j) v).word → m'.moved = (m.put (t + 1 + j) v).moved → m'.sh = m.sh → Sim m' ly ln lf φ A' := fun m' e1 e2 e3 e4 => by
          have hs : Sim (m.put (t + 1 + j) v) ly ln lf φ A' := by
            rcases hA with ⟨hn, rfl⟩ | ⟨i, x, hi, rfl, hx⟩
            · refine Sim.put h.g h.s ht hj hmt (fun _ _ _ _ => ⟨fun _ => rfl, rfl⟩) (fun i fs hi _ => by rw [hn] at hi; cases hi)
            · refine Sim.put h.g h.s ht hj hmt (fun t' i' hi' hne => ⟨fun hm' => ?_, ?_⟩) (fun i' fs hi' hA' => ?_)
              · have hii : i' ≠ i := fun e => hne (h.s.inj t' t i (e ▸ hi') hi hm' hmt)
                unfold setf
                rw [List.getElem?_modify]; simp [Ne.symm hii]
              · unfold setf
                rw [List.getElem?_modify]
                cases A[i']? with
                | none => rfl
                | some q => simp; split <;> simp
              · rw [hi] at hi'
                injection hi' with hi'
                subst hi'
                refine ⟨x, ?_, ?_⟩
                · unfold setf
                  rw [List.getElem?_modify, hA']; simp
                · unfold ref at hx; simpa using hx
          refine ⟨hs.dom, fun t' i hi => ?_, fun t' i hi hm => ?_, fun t' t'' i a b c d => ?_⟩
          · obtain ⟨fs, g1, g2, g3⟩ := hs.shp t' i hi
            have hr : m'.row t' = (m.put (t + 1 + j) v).row t' := by unfold row; rw [e1, e4]; rfl
            exact ⟨fs, by rw [e1]; exact g1, by rw [hr]; exact g2, by rw [e3, hr, e2]; exact g3⟩
          · rw [e3] at hm ⊢; exact hs.mvd t' i hi hm
          · rw [e3] at c d; exact hs.inj t' t'' i a b c d
        have hgd : ∀ rl', (∀ q ∈ m.remP, q ∈ rl') → (t ∈ ln → m.ref t j = true → v ∈ ly → t + 1 + (j : Int) ∈ rl') → Gd (m.put (t + 1 + j) v) ly ln lf ly rl' (m.base + m.H) [] := fun rl' g1 g2 => by
          refine h.g.put ht hj (fun _ hr => ?_) (fun _ _ hw => hw) (fun hto hr => ?_) (fun q _ hq => hq.imp (g1 q) id)
          · rcases hcv ((ref_iff hj).2 hr) with g | g | g
            · exact .inl g
            · exact .inr (.inl g)
            · exact .inr (.inr g)
          · have hr' := (ref_iff hj).2 hr
            rcases hcv hr' with g | g | g
            · exact .inl g
            · exact .inr (.inr (.inl ⟨g, .inl (g2 hto hr' g)⟩))
            · exact .inr (.inl g)
        split
        · rename_i hc
          simp only [Bool.and_eq_true, Bool.not_eq_true', List.contains_eq_mem, decide_eq_false_iff_not] at hc
          obtain ⟨⟨⟨c1, c2⟩, c3⟩, c4⟩ := hc
          have hto : t ∈ ln := by
            rcases ht with ht | ht
            · rw [isO_iff] at c2
              have := h.g.ybd ht; have := h.g.yl; have := m.base_former; have := h.g.sz.H0; omega
            · exact ht
          have hg := hgd (m.remP ++ [t + 1 + (j : Int)]) (fun q hq => List.mem_append_left _ hq) (fun _ _ _ => by simp)
          refine ⟨?_, hsim _ rfl rfl rfl rfl, h.ym, fun q hq => ?_, ?_⟩
          · have hrp : ({ m.put (t + 1 + j) v with rem := m.rem ++ [(t, (j : Int))] } : AM).remP = m.remP ++ [t + 1 + (j : Int)] := by unfold remP; simp
            rw [hrp]
            exact ⟨⟨hg.sz.Y0, hg.sz.Y1, hg.sz.H0, hg.sz.H1, hg.sz.n, hg.sz.w⟩, ⟨hg.y.tl, hg.y.hd, hg.y.ok⟩, hg.yl, ⟨hg.o.tl, hg.o.hd, hg.o.ok⟩, (let ⟨fe, a1, a2⟩ := hg.f; ⟨fe, a1, a2.tl, a2.hd, a2.ok⟩), hg.hn, hg.nb, hg.left, hg.room, hg.sc, hg.mv, hg.mi, hg.wy, hg.wN, hg.NY, hg.Nn, hg.wo, hg.wf, hg.fz⟩
          · have hq' : q ∈ m.rem ++ [(t, (j : Int))] := hq
            rcases List.mem_append.1 hq' with hq' | hq'
            · exact h.rm q hq'
            · rw [List.mem_singleton.1 hq']
              exact ⟨hto, j, rfl, (ref_iff hj).1 c1⟩
          · show (m.rem ++ [(t, (j : Int))]).Nodup
            exact List.nodup_append.2 ⟨h.rn, by simp, fun x hx y hy e => by simp at hy; subst hy; exact c4 (e ▸ hx)⟩
        · rename_i hc
          have hg := hgd m.remP (fun q hq => hq) (fun hto hr hv => by
            simp only [Bool.and_eq_true, Bool.not_eq_true', List.contains_eq_mem, decide_eq_false_iff_not, not_and, Decidable.not_not] at hc
            have c2 : m.isO t = true := by rw [isO_iff]; have := h.g.obd hto; have := h.g.oldle; omega
            have c3 : m.isY v = true := by rw [isY_iff']; have := h.g.ybd hv; have := h.g.yl; omega
            exact List.mem_map.2 ⟨(t, (j : Int)), hc ⟨⟨hr, c2⟩, c3⟩, rfl⟩)
          exact ⟨hg, hsim _ rfl rfl rfl rfl, h.ym, h.rm, h.rn⟩
      · split <;> exact ⟨rfl, rfl, rfl, rfl⟩
theorem set_err {t k v : Int} (he : (m.set t k v).1 ≠ 0) : (m.set t k v).2 = m := by
  unfold AM.set at he ⊢
  split
  · rfl
  · rename_i h1
    rw [if_neg h1] at he
    split
    · rfl
    · rename_i h2
      rw [if_neg h2] at he
      exact absurd rfl he
theorem get_err {t k : Int} (he : (m.get t k).2.1 ≠ 0) : (m.get t k).2.2 = m ∧ (m.get t k).1 = 0 ∧ m.fe t k = (m.get t k).2.1 := by
  unfold AM.get at he ⊢
  split
  · exact ⟨rfl, rfl, rfl⟩
  · rename_i h1
    rw [if_neg h1] at he
    exact absurd rfl he
theorem Good.get (h : Good m ly ln lf φ A) {t k : Int} (he : (m.get t k).2.1 = 0) :
    ∃ ln' φ', Good (m.get t k).2.2 ly ln' lf φ' A ∧ (∀ x ∈ ln, x ∈ ln') ∧ Le φ φ' ∧ m.fe t k = 0 ∧ (m.ref t k = true → (m.get t k).1 = 0 ∨ (m.get t k).1 ∈ ly ∨ (m.get t k).1 ∈ ln') ∧
      (∀ i s fs, φ t = some i → A[i]? = some (s, fs) → if m.ref t k then V φ' (m.get t k).1 (fs.getD k.toNat 0) else (m.get t k).1 = fs.getD k.toNat 0) ∧
      (m.get t k).2.2.sh = m.sh ∧ (m.get t k).2.2.Y = m.Y ∧ (m.get t k).2.2.H = m.H ∧ (m.get t k).2.2.busy = m.busy ∧ (m.get t k).2.2.new = m.new := by
  have h1 : m.fe t k = 0 := by
    by_cases h1 : m.fe t k = 0
    · exact h1
    · unfold AM.get at he; rw [if_pos h1] at he; exact he
  have hge : m.get t k = ((if m.ref t k && m.busy then m.fwdAt false (t + 1 + k) else m).word (t + 1 + k), 0, if m.ref t k && m.busy then m.fwdAt false (t + 1 + k) else m) := by
    unfold AM.get; rw [if_neg (by rw [h1]; simp)]
  rw [hge]
  obtain ⟨ht, j, hkj, hj⟩ := h.g.field h1
  subst hkj
  simp only
  have hmt := h.moved0 ht
  have hold : ∀ i s fs, φ t = some i → A[i]? = some (s, fs) → if m.ref t j then V φ (m.word (t + 1 + j)) (fs.getD j 0) else m.word (t + 1 + j) = fs.getD j 0 := fun i s fs hi hA => by
    obtain ⟨fs', g1, g2, g3⟩ := h.s.shp t i hi
    rw [hA] at g1
    injection g1 with g1
    have : fs = fs' := (Prod.mk.injEq .. ▸ g1).2
    subst this
    have := g3 hmt j (by omega)
    unfold ref; simpa using this
  by_cases hc : (m.ref t j && m.busy) = true
  · rw [if_pos hc]
    rw [Bool.and_eq_true] at hc
    have hp : t + 1 + (j : Int) ∈ m.pl t := mem_pl.2 ⟨j, (ref_iff hj).1 hc.1, rfl⟩
    obtain ⟨ln', φ', jj, g, sc, w, wp⟩ := J.fwdAt (A := A) (φ := φ) ⟨h.g, h.s⟩ false (rl' := m.remP) (sp' := m.base + m.H) (t := t) (ht.elim (fun h => .inr ⟨rfl, h⟩) .inl) hp (fun hq => by cases hq) (fun _ => rfl) (fun q _ hq => hq)
    refine ⟨ln', φ', ⟨?_, jj.s, fun x hx => ?_, fun q hq => ?_, by rw [g.rem]; exact h.rn⟩, fun x hx => g.sub hx, g.le, h1, fun _ => ?_, fun i s fs hi hA => ?_, g.sh, g.Y, g.H, g.busy, g.new⟩
    · have : (m.fwdAt false (t + 1 + j)).remP = m.remP := by unfold remP; rw [g.rem]
      rw [this, g.base, g.H]; exact jj.g
    · rcases (jj.g.mv x hx).1 with g1 | g1
      · exfalso
        have he2 : (m.fwdAt false (t + 1 + j)).moved x = m.moved x := by
          show (m.fwd false (m.word (t + 1 + j))).2.moved x = m.moved x
          unfold AM.fwd
          split
          · rename_i hou
            split
            · rfl
            · have hne : x ≠ m.word (t + 1 + j) := fun e => by
                have : m.isF x = true := by rw [e]; exact hou
                rw [h.g.isFn (.inr (.inl g1))] at this; cases this
              exact move_moved_ne m hne
          · rfl
        rw [he2] at hx
        exact h.g.fy (h.ym x hx) g1
      · exact g1
    · rw [g.rem] at hq
      obtain ⟨k1, i, k2, k3⟩ := h.rm q hq
      exact ⟨g.sub k1, i, k2, by rw [g.row (.inl (by have := h.g.obd k1; omega))]; exact k3⟩
    · rcases wp with wp | wp | wp | wp
      · exact .inl wp
      · exact .inr (.inl wp)
      · exact .inr (.inr wp)
      · cases wp.1
    · rw [if_pos hc.1]
      have htlt : t < m.old ∨ (m.fwdAt false (t + 1 + j)).old ≤ t := by
        have := m.base_former; have := h.g.oldle; have := h.g.yl; have := h.g.sz.H0
        rcases ht with h1 | h1
        · have := h.g.ybd h1; omega
        · have := h.g.obd h1; omega
      have hi' : φ' t = some i := g.le _ _ hi
      obtain ⟨fs', g1, g2, g3⟩ := jj.s.shp t i hi'
      rw [hA] at g1
      injection g1 with g1
      have : fs = fs' := (Prod.mk.injEq .. ▸ g1).2
      subst this
      have hm' : (m.fwdAt false (t + 1 + j)).moved t = 0 := by
        by_cases hm : (m.fwdAt false (t + 1 + j)).moved t = 0
        · exact hm
        · exfalso
          rcases ht with h1 | h1
          · rcases (jj.g.mv t hm).1 with g4 | g4
            · -- young: not moved here
              have he2 : (m.fwdAt false (t + 1 + j)).moved t = m.moved t := by
                show (m.fwd false (m.word (t + 1 + j))).2.moved t = m.moved t
                unfold AM.fwd
                split
                · rename_i hou
                  split
                  · rfl
                  · have hne : t ≠ m.word (t + 1 + j) := fun e => by
                      have : m.isF t = true := by rw [e]; exact hou
                      rw [h.g.isFn (.inr (.inl h1))] at this; cases this
                    exact move_moved_ne m hne
                · rfl
              rw [he2] at hm; exact hm hmt
            · exact h.g.fy g4 h1
          · exact hm (jj.g.omoved (g.sub h1))
      have hrow := g.row htlt
      have := g3 hm' j (by rw [g2, hrow]; exact hj)
      rw [hrow, if_pos (by have := (ref_iff hj).1 hc.1; simp [List.getD_eq_getElem?_getD, this])] at this
      exact this
  · rw [if_neg hc]
    refine ⟨ln, φ, h, fun x hx => hx, Le.refl _, h1, fun hr => ?_, hold, rfl, rfl, rfl, rfl, rfl⟩
    have hbz : m.busy = false := by
      rw [hr] at hc; simpa using hc
    have hp : t + 1 + (j : Int) ∈ m.pl t := mem_pl.2 ⟨j, (ref_iff hj).1 hr, rfl⟩
    rcases ht with ht | ht
    · exact h.g.wy t ht _ hp
    · rcases h.g.wo t ht _ hp with g | g | g | g
      · exact .inl g
      · exact .inr (.inr g)
      · exact .inr (.inl g.1)
      · rw [h.g.nb hbz] at g; simp at g
end
end AM
end Go.Hm
namespace Go.Hm

/-- The place of a number in a list; -1 if it is not there. -/
def idx (l : List Int) (t : Int) : Int := if t ∈ l then (l.idxOf t : Int) else -1
theorem idx_no {l : List Int} {t : Int} (h : t ∉ l) : idx l t = -1 := if_neg h
theorem idx_has {l : List Int} {t : Int} (h : t ∈ l) : idx l t = (l.idxOf t : Int) := if_pos h
theorem idx_append {l k : List Int} {t : Int} (h : t ∈ l) : idx (l ++ k) t = idx l t := by
  rw [idx_has h, idx_has (List.mem_append_left _ h), List.idxOf_append, if_pos h]
theorem idx_new {l : List Int} {t : Int} (h : t ∉ l) : idx (l ++ [t]) t = (l.length : Int) := by
  rw [idx_has (by simp), List.idxOf_append, if_neg h]; simp
theorem idx_at : ∀ {l : List Int} {i : Nat} {t : Int} (hi : i < l.length), l[i] = t → t ∉ l.take i → idx l t = (i : Int)
  | a :: l, 0, t, _, h, _ => by
    have h : a = t := h
    subst h; rw [idx_has (by simp)]; simp
  | a :: l, i + 1, t, hi, h, hn => by
    have hi' : i < l.length := by simpa using hi
    have h' : l[i] = t := by simpa using h
    have hn' : t ≠ a ∧ t ∉ l.take i := by simpa using hn
    have ih := idx_at hi' h' hn'.2
    have hm : t ∈ l := by rw [← h']; exact List.getElem_mem hi'
    rw [idx_has hm] at ih
    rw [idx_has (List.mem_cons_of_mem _ hm), List.idxOf_cons]
    have hb : (a == t) = false := by simpa using Ne.symm hn'.1
    rw [hb]; simp only [cond_false]; omega
theorem idx_lt {l : List Int} {t : Int} : -1 ≤ idx l t ∧ idx l t < l.length := by
  unfold idx
  split
  · rename_i h; have := List.idxOf_lt_length_of_mem h; omega
  · omega
theorem idx_get {l : List Int} {t : Int} (h : t ∈ l) : ∃ i : Nat, idx l t = i ∧ ∃ hi : i < l.length, l[i] = t :=
  ⟨l.idxOf t, idx_has h, List.idxOf_lt_length_of_mem h, List.getElem_idxOf _⟩
theorem idx_inj {l : List Int} {a b : Int} (ha : a ∈ l) (h : idx l a = idx l b) : a = b := by
  obtain ⟨i, h1, h2, h3⟩ := idx_get ha
  by_cases hb : b ∈ l
  · obtain ⟨j, h4, h5, h6⟩ := idx_get hb
    have : i = j := by omega
    subst this; rw [← h3, h6]
  · rw [idx_no hb] at h; omega
theorem idx_take_at {l : List Int} (hn : l.Nodup) {i : Nat} (hi : i < l.length) : idx l l[i] = (i : Int) :=
  idx_at hi rfl fun hm => by
    obtain ⟨j, hj, he⟩ := List.getElem_of_mem hm
    have hj' : j < i := by rw [List.length_take] at hj; omega
    rw [List.getElem_take] at he
    have := (List.getElem_inj hn).1 he
    omega

/-- A list that grows: what is met, each once; 0 is nothing. -/
def pmeet (l : List Int) (t : Int) : List Int := if t == 0 || l.contains t then l else l ++ [t]
theorem pmeet_zero (l : List Int) : pmeet l 0 = l := rfl
theorem pmeet_old {l : List Int} {t : Int} (h : t ∈ l) : pmeet l t = l := by
  unfold pmeet; rw [if_pos (by rw [List.contains_iff_mem.2 h]; simp)]
theorem pmeet_new {l : List Int} {t : Int} (h0 : t ≠ 0) (h : t ∉ l) : pmeet l t = l ++ [t] := by
  unfold pmeet; rw [if_neg (by simp [h0, h])]
theorem pmeet_pre (l : List Int) (t : Int) : ∃ k, pmeet l t = l ++ k := by
  unfold pmeet; split
  · exact ⟨[], by simp⟩
  · exact ⟨_, rfl⟩
theorem pmeet_has {l : List Int} {t : Int} : t = 0 ∨ t ∈ pmeet l t := by
  by_cases h0 : t = 0
  · exact .inl h0
  · by_cases h : t ∈ l
    · rw [pmeet_old h]; exact .inr h
    · rw [pmeet_new h0 h]; simp
theorem pmeets_pre : ∀ (ts l : List Int), ∃ k, ts.foldl pmeet l = l ++ k
  | [], l => ⟨[], by simp⟩
  | t :: ts, l => by
    obtain ⟨k, hk⟩ := pmeet_pre l t
    obtain ⟨k', hk'⟩ := pmeets_pre ts (pmeet l t)
    exact ⟨k ++ k', by rw [List.foldl_cons, hk', hk, List.append_assoc]⟩
theorem pmeets_snoc {ts l : List Int} {t : Int} : (ts ++ [t]).foldl pmeet l = pmeet (ts.foldl pmeet l) t := by simp [List.foldl_append]
theorem pmeets_has {x : Int} : ∀ (ts l : List Int), x ∈ ts → x = 0 ∨ x ∈ ts.foldl pmeet l
  | [], _, h => by simp at h
  | t :: ts, l, h => by
    rcases List.mem_cons.1 h with h | h
    · subst h
      obtain ⟨k, hk⟩ := pmeets_pre ts (pmeet l x)
      rw [List.foldl_cons, hk]
      exact pmeet_has.imp id (List.mem_append_left _)
    · exact pmeets_has ts _ h
/-- All that is met is of some kind, and each once. -/
structure PM (S : Int → Prop) (l : List Int) : Prop where
  nd : l.Nodup
  s : ∀ x ∈ l, S x
theorem PM.nil {S : Int → Prop} : PM S [] := ⟨List.nodup_nil, fun _ h => by cases h⟩
theorem PM.meet {S : Int → Prop} {l : List Int} (h : PM S l) {t : Int} (ht : t = 0 ∨ S t) : PM S (pmeet l t) := by
  unfold pmeet
  split
  · exact h
  · rename_i hc
    simp only [Bool.or_eq_true, beq_iff_eq, List.contains_iff_mem, not_or] at hc
    refine ⟨List.nodup_append.2 ⟨h.nd, by simp, fun x hx y hy e => ?_⟩, fun x hx => ?_⟩
    · simp at hy; subst hy; subst e; exact hc.2 hx
    · rcases List.mem_append.1 hx with g | g
      · exact h.s x g
      · have : x = t := by simpa using g
        subst this; exact ht.resolve_left hc.1
theorem PM.meets {S : Int → Prop} : ∀ (ts : List Int) {l : List Int}, PM S l → (∀ t ∈ ts, t = 0 ∨ S t) → PM S (ts.foldl pmeet l)
  | [], _, h, _ => h
  | t :: ts, _, h, ht => PM.meets ts (h.meet (ht t (List.mem_cons_self ..))) fun x hx => ht x (List.mem_cons_of_mem _ hx)

/-- A graph: the shape of a node, and its fields: whether each refers, and to what. -/
structure Gr where
  sh : Int → Int
  fs : Int → List (Bool × Int)
namespace Gr
def succ (g : Gr) (t : Int) : List Int := (g.fs t).filterMap fun q => if q.1 then some q.2 else none
/-- The same for the first fields alone. -/
def succTo (g : Gr) (t : Int) (k : Nat) : List Int := ((g.fs t).take k).filterMap fun q => if q.1 then some q.2 else none
theorem succTo_all (g : Gr) (t : Int) : g.succTo t (g.fs t).length = g.succ t := by unfold succTo; rw [List.take_length]; rfl
theorem succTo_succ {g : Gr} {t : Int} {k : Nat} (h : k < (g.fs t).length) : g.succTo t (k + 1) = g.succTo t k ++ if ((g.fs t)[k]).1 then [((g.fs t)[k]).2] else [] := by
  unfold succTo
  rw [List.take_succ_eq_append_getElem h, List.filterMap_append]
  congr 1
  simp only [List.filterMap_cons, List.filterMap_nil]
  split <;> simp_all
theorem succTo_sub {g : Gr} {t y : Int} {k : Nat} (h : y ∈ g.succTo t k) : y ∈ g.succ t := by
  unfold succTo at h; unfold succ
  obtain ⟨q, h1, h2⟩ := List.mem_filterMap.1 h
  exact List.mem_filterMap.2 ⟨q, List.mem_of_mem_take h1, h2⟩
def close (g : Gr) : Nat → Nat → List Int → List Int
  | 0, _, l => l
  | f + 1, i, l => if h : i < l.length then close g f (i + 1) ((g.succ l[i]).foldl pmeet l) else l
theorem close_pre (g : Gr) : ∀ (f i : Nat) (l : List Int), ∃ k, g.close f i l = l ++ k
  | 0, _, l => ⟨[], by simp [close]⟩
  | f + 1, i, l => by
    unfold close
    split
    · rename_i h
      obtain ⟨k, hk⟩ := pmeets_pre (g.succ l[i]) l
      obtain ⟨k', hk'⟩ := close_pre g f (i + 1) ((g.succ l[i]).foldl pmeet l)
      exact ⟨k ++ k', by rw [hk', hk, List.append_assoc]⟩
    · exact ⟨[], by simp⟩
theorem close_end (g : Gr) {f i : Nat} {l : List Int} (h : l.length ≤ i) : g.close f i l = l := by
  cases f with
  | zero => rfl
  | succ f => unfold close; rw [dif_neg (by omega)]
def met (g : Gr) (T : Nat) (roots : List Int) : List Int := g.close T 0 (roots.foldl pmeet [])
/-- A row of a picture. -/
def prow (g : Gr) (L : List Int) (t : Int) : List Int := (g.fs t).map fun q => if q.1 then 1 + idx L q.2 else q.2
end Gr
structure Pic where
  shapes : List Int
  fields : List (List Int)
  roots : List Int
def Gr.pic (g : Gr) (T : Nat) (roots : List Int) : Pic := ⟨(g.met T roots).map g.sh, (g.met T roots).map (g.prow (g.met T roots)), roots.map fun r => 1 + idx (g.met T roots) r⟩
/-- The closure is closed. -/
theorem Gr.close_spec (g : Gr) {S : Int → Prop} {T : Nat} (hT : ∀ l, PM S l → l.length < T) (hS : ∀ x, S x → ∀ y ∈ g.succ x, y = 0 ∨ S y) : ∀ (f i : Nat) (l : List Int), T ≤ f + i → PM S l → i ≤ l.length → (∀ (j : Nat) (hj : j < l.length), j < i → ∀ y ∈ g.succ l[j], y = 0 ∨ y ∈ l) →
    PM S (g.close f i l) ∧ ∀ t ∈ g.close f i l, ∀ y ∈ g.succ t, y = 0 ∨ y ∈ g.close f i l
  | 0, i, l, hf, hl, hi, _ => by have := hT l hl; omega
  | f + 1, i, l, hf, hl, hi, hc => by
    unfold Gr.close
    by_cases h : i < l.length
    · rw [dif_pos h]
      obtain ⟨k, hk⟩ := pmeets_pre (g.succ l[i]) l
      have hget : ∀ (j : Nat) (hj : j < l.length) (hj' : j < ((g.succ l[i]).foldl pmeet l).length), ((g.succ l[i]).foldl pmeet l)[j] = l[j] := fun j hj hj' => by
        have : ((g.succ l[i]).foldl pmeet l)[j]? = l[j]? := by rw [hk, List.getElem?_append_left hj]
        rw [List.getElem?_eq_getElem hj', List.getElem?_eq_getElem hj] at this
        injection this
      refine Gr.close_spec g hT hS f (i + 1) _ (by omega) (PM.meets _ hl fun t ht => hS _ (hl.s _ (List.getElem_mem h)) t ht) (by rw [hk, List.length_append]; omega) fun j hj hji y hy => ?_
      by_cases hje : j = i
      · subst hje
        rw [hget j h hj] at hy
        exact pmeets_has _ _ hy
      · have hjl : j < l.length := by omega
        rw [hget j hjl hj] at hy
        exact (hc j hjl (by omega) y hy).imp id fun hm => by rw [hk]; exact List.mem_append_left _ hm
    · rw [dif_neg h]
      refine ⟨hl, fun t ht y hy => ?_⟩
      obtain ⟨j, hj, rfl⟩ := List.getElem_of_mem ht
      exact hc j hj (by omega) y hy

namespace AM
/-- The machine as a graph. -/
def gr (m : AM) : Gr := ⟨fun t => m.head t - 1, fun t => (List.range (m.row t).length).map fun k : Nat => ((m.row t).getD k false, if (m.row t).getD k false then m.seen (m.word (t + 1 + k)) else m.word (t + 1 + k))⟩
theorem gr_len (m : AM) (t : Int) : (m.gr.fs t).length = (m.row t).length := by simp [gr]
theorem gr_get {m : AM} {t : Int} {k : Nat} (h : k < (m.gr.fs t).length) : (m.gr.fs t)[k] = ((m.row t).getD k false, if (m.row t).getD k false then m.seen (m.word (t + 1 + k)) else m.word (t + 1 + k)) := by simp [gr]
theorem gr_succ {m : AM} {t y : Int} : y ∈ m.gr.succ t ↔ ∃ p ∈ m.pl t, y = m.seen (m.word p) := by
  unfold Gr.succ
  constructor
  · intro h
    obtain ⟨q, h1, h2⟩ := List.mem_filterMap.1 h
    obtain ⟨k, hk, rfl⟩ := List.getElem_of_mem h1
    have hk' : k < (m.row t).length := by rw [← gr_len]; exact hk
    rw [gr_get hk] at h2
    cases hb : (m.row t).getD k false with
    | true =>
      rw [hb] at h2
      simp only [if_true, Option.some.injEq] at h2
      refine ⟨t + 1 + k, mem_pl.2 ⟨k, ?_, rfl⟩, h2.symm⟩
      rw [List.getElem?_eq_getElem hk']
      rw [List.getD_eq_getElem?_getD, List.getElem?_eq_getElem hk'] at hb
      simpa using hb
    | false =>
      rw [hb] at h2
      simp at h2
  · rintro ⟨p, hp, rfl⟩
    obtain ⟨k, h1, rfl⟩ := mem_pl.1 hp
    have hk := (List.getElem?_eq_some_iff.1 h1).1
    have hb : (m.row t).getD k false = true := by rw [List.getD_eq_getElem?_getD, h1]; rfl
    refine List.mem_filterMap.2 ⟨((m.row t).getD k false, if (m.row t).getD k false then m.seen (m.word (t + 1 + k)) else m.word (t + 1 + k)), ?_, by rw [hb]; rfl⟩
    have := gr_get (m := m) (t := t) (k := k) (by rw [gr_len]; exact hk)
    rw [← this]; exact List.getElem_mem _
def T (m : AM) : Nat := (m.Y + 2 * m.H + 1).toNat
def pic (m : AM) (roots : List Int) : Pic := m.gr.pic m.T roots
/-- A picture, and its error. -/
def pictured (m : AM) (roots : List Int) : Pic × Int := if m.rooted roots ≠ 0 then (⟨[], [], []⟩, m.rooted roots) else (m.pic roots, 0)
section
variable {m : AM} {ly ln lf N rl rs : List Int} {sp a : Int} {φ : Int → Option Nat} {A : Store}
/-- The objects. -/
def Obj (ly ln lf : List Int) (t : Int) : Prop := t ∈ ly ∨ t ∈ ln ∨ t ∈ lf
theorem Gd.obj_bd (h : Gd m ly ln lf N rl sp rs) {t : Int} (ht : Obj ly ln lf t) : 1 ≤ t ∧ t + m.size t ≤ m.Y + 2 * m.H + 1 ∧ 1 ≤ m.size t := by
  have hb := m.base_former; have hY := h.sz.Y0; have hH := h.sz.H0; have ho := h.oldle; have hy := h.yl
  rcases ht with ht | ht | ht
  · have := h.ybd ht; omega
  · have := h.obd ht; omega
  · have := h.fbd ht; omega
theorem nodup_bd : ∀ (n : Nat) (lo : Int) (l : List Int), l.Nodup → (∀ x ∈ l, lo ≤ x ∧ x < lo + n) → l.length ≤ n
  | 0, lo, l, _, hb => by
    cases l with
    | nil => simp
    | cons a l => have := hb a (List.mem_cons_self ..); omega
  | n + 1, lo, l, hn, hb => by
    by_cases hm : lo ∈ l
    · have h1 := nodup_bd n (lo + 1) (l.erase lo) (hn.erase lo) fun x hx => by
        have h2 := (hn.mem_erase_iff).1 hx
        have := hb x h2.2
        have := h2.1
        omega
      rw [List.length_erase_of_mem hm] at h1; omega
    · have := nodup_bd n (lo + 1) l hn fun x hx => by
        have := hb x hx
        have hne : x ≠ lo := fun e => hm (e ▸ hx)
        omega
      omega
theorem Gd.pm_len (h : Gd m ly ln lf N rl sp rs) {l : List Int} (hl : PM (Obj ly ln lf) l) : l.length < m.T := by
  have := nodup_bd (m.Y + 2 * m.H).toNat 1 l hl.nd fun x hx => by
    have := h.obj_bd (hl.s x hx); have := h.sz.Y0; have := h.sz.H0; omega
  have := h.sz.Y0; have := h.sz.H0
  unfold T; omega
theorem Gd.T_le (h : Gd m ly ln lf N rl sp rs) : m.T ≤ 600001 := by have := h.sz.Y1; have := h.sz.H1; unfold T; omega
theorem Gd.seen_obj (h : Gd m ly ln lf N rl sp rs) {w : Int} (hw : w = 0 ∨ Obj ly ln lf w) : m.seen w = 0 ∨ Obj ly ln lf (m.seen w) := by
  unfold seen
  split
  · rename_i hc
    simp only [Bool.and_eq_true, decide_eq_true_eq] at hc
    exact .inr (.inr (.inl (h.mv w (by omega)).2.1))
  · exact hw
theorem Gd.word_obj (h : Gd m ly ln lf N rl sp rs) {t p : Int} (ht : Obj ly ln lf t) (hp : p ∈ m.pl t) : m.word p = 0 ∨ Obj ly ln lf (m.word p) := by
  rcases ht with ht | ht | ht
  · rcases h.wy t ht p hp with g | g | g
    · exact .inl g
    · exact .inr (.inl g)
    · exact .inr (.inr (.inl g))
  · rcases h.wo t ht p hp with g | g | g | g
    · exact .inl g
    · exact .inr (.inr (.inl g))
    · exact .inr (.inl (h.NY _ g.1))
    · exact .inr (.inr (.inr g.1))
  · rcases h.wf t ht p hp with g | g
    · exact .inl g
    · exact .inr (.inr (.inr g))
theorem Gd.succ_obj (h : Gd m ly ln lf N rl sp rs) {t : Int} (ht : Obj ly ln lf t) : ∀ y ∈ m.gr.succ t, y = 0 ∨ Obj ly ln lf y := fun y hy => by
  obtain ⟨p, hp, rfl⟩ := gr_succ.1 hy
  exact h.seen_obj (h.word_obj ht hp)
theorem Good.root_obj (h : Good m ly ln lf φ A) {roots : List Int} (hr : m.rooted roots = 0) : ∀ r ∈ roots, r = 0 ∨ Obj ly ln lf r := fun r hr' => (h.rooted hr r hr').imp id fun g => g.imp id .inl
end
end AM
end Go.Hm
namespace Go.Hm
theorem idx_pre {l M : List Int} {x : Int} (hp : ∃ k, M = l ++ k) (h : x = 0 ∨ x ∈ l) (hM : (0 : Int) ∉ M) : idx l x = idx M x := by
  obtain ⟨k, rfl⟩ := hp
  rcases h with rfl | h
  · rw [idx_no hM, idx_no (fun g => hM (List.mem_append_left _ g))]
  · rw [idx_append h]
theorem pre_trans {a b c : List Int} (h1 : ∃ k, b = a ++ k) (h2 : ∃ k, c = b ++ k) : ∃ k, c = a ++ k := by
  obtain ⟨k, rfl⟩ := h1
  obtain ⟨k', rfl⟩ := h2
  exact ⟨k ++ k', by rw [List.append_assoc]⟩
theorem Gr.succTo_pre (g : Gr) (t : Int) (k : Nat) : ∃ r, g.succ t = g.succTo t k ++ r := by
  refine ⟨((g.fs t).drop k).filterMap fun q => if q.1 then some q.2 else none, ?_⟩
  unfold Gr.succ Gr.succTo
  rw [← List.filterMap_append, List.take_append_drop]
theorem Gr.meets_to (g : Gr) (t : Int) (k : Nat) (l : List Int) : ∃ r, (g.succ t).foldl pmeet l = (g.succTo t k).foldl pmeet l ++ r := by
  obtain ⟨r, hr⟩ := g.succTo_pre t k
  rw [hr, List.foldl_append]
  exact pmeets_pre _ _
theorem PM.zero {S : Int → Prop} {l : List Int} (h : PM S l) (h0 : ¬ S 0) : (0 : Int) ∉ l := fun hm => h0 (h.s 0 hm)
end Go.Hm
namespace Go.Hm
/-- An act: its kind, and numbers. -/
structure Act where
  k : Int
  a : Int
  b : Int
  c : Int
namespace AM
/-- The error of a field: whether there is one, and whether it refers, or does not. -/
def kinded (m : AM) (t k : Int) (want : Bool) : Int := if m.fe t k = 0 then (if m.ref t k != want then 1 else 0) else m.fe t k
def rdx (r : List Int) (i : Int) : Int := r.getD i.toNat 0
def oob (x : Int) (r : List Int) : Bool := decide (x < 0) || decide ((r.length : Int) ≤ x)
def rootA (k : Int) : Bool := decide (k ≤ 6)
def rootB (k : Int) : Bool := decide (k = 2) || decide (k = 3) || decide (k = 6)
def newAt (m : AM) (r : List Int) (x : Act) : Int × AM × List Int := ((m.alloc x.b).2.1, (m.alloc x.b).2.2, if (m.alloc x.b).2.1 = 0 then r.set x.a.toNat (m.alloc x.b).1 else r)
def clr (en : Bool) (m : AM) (r : List Int) : Int × AM × List Int := if en then (0, m, r) else ((m.minor r).2.1, (m.minor r).2.2, if (m.minor r).2.1 = 0 then (m.minor r).1 else r)
def flp (en : Bool) (m : AM) (r : List Int) : Int × AM × List Int := if en then (0, m, r) else ((m.flip r).2.1, (m.flip r).2.2, if (m.flip r).2.1 = 0 then (m.flip r).1 else r)
def lok (en : Bool) (m : AM) (r : List Int) (x : Act) : Int × AM × List Int := if en then (0, m, r) else ((m.step x.a).2.1, (m.step x.a).2.2, r)
/-- Whether there is too little room, and there would be enough. -/
def tight (en : Bool) (m : AM) (x : Act) : Bool := (!en && decide (m.Y - (m.new - 1) < 1 + ((m.sh.getD x.b.toNat []).length : Int))) && decide (1 + ((m.sh.getD x.b.toNat []).length : Int) ≤ m.Y)
def fresh (en : Bool) (m : AM) (r : List Int) (x : Act) : Int × AM × List Int :=
  if decide (x.b < 0) || decide ((m.sh.length : Int) ≤ x.b) then (1, m, r) else
  if tight en m x then (if (clr en m r).1 ≠ 0 then clr en m r else newAt (clr en m r).2.1 (clr en m r).2.2 x) else newAt m r x
def getA (m : AM) (r : List Int) (x : Act) : Int × AM × List Int :=
  if m.kinded (rdx r x.b) x.c true ≠ 0 then (m.kinded (rdx r x.b) x.c true, m, r) else
  ((m.get (rdx r x.b) x.c).2.1, (m.get (rdx r x.b) x.c).2.2, if (m.get (rdx r x.b) x.c).2.1 = 0 then r.set x.a.toNat (m.get (rdx r x.b) x.c).1 else r)
def setA (m : AM) (r : List Int) (x : Act) : Int × AM × List Int :=
  if m.kinded (rdx r x.a) x.c true ≠ 0 then (m.kinded (rdx r x.a) x.c true, m, r) else
  ((m.set (rdx r x.a) x.c (rdx r x.b)).1, (m.set (rdx r x.a) x.c (rdx r x.b)).2, r)
def putA (m : AM) (r : List Int) (x : Act) : Int × AM × List Int :=
  if m.kinded (rdx r x.a) x.c false ≠ 0 then (m.kinded (rdx r x.a) x.c false, m, r) else
  ((m.set (rdx r x.a) x.c x.b).1, (m.set (rdx r x.a) x.c x.b).2, r)
def act (en : Bool) (m : AM) (r : List Int) (x : Act) : Int × AM × List Int :=
  if decide (x.k < 1) || decide (9 < x.k) then (1, m, r) else
  if (rootA x.k && oob x.a r) || (rootB x.k && oob x.b r) then (1, m, r) else
  if x.k = 1 then fresh en m r x else
  if x.k = 2 then getA m r x else
  if x.k = 3 then setA m r x else
  if x.k = 4 then putA m r x else
  if x.k = 5 then (0, m, r.set x.a.toNat 0) else
  if x.k = 6 then (0, m, r.set x.a.toNat (rdx r x.b)) else
  if x.k = 7 then clr en m r else
  if x.k = 8 then flp en m r else lok en m r x
/-- Acts, one behind the other: the errors, and what is behind them. -/
def acts (en : Bool) : List Act → AM → List Int → List Int × AM × List Int
  | [], m, r => ([], m, r)
  | x :: t, m, r => ((act en m r x).1 :: (acts en t (act en m r x).2.1 (act en m r x).2.2).1, (acts en t (act en m r x).2.1 (act en m r x).2.2).2)
theorem acts_snoc (en : Bool) : ∀ (l : List Act) (x : Act) (m : AM) (r : List Int), acts en (l ++ [x]) m r = ((acts en l m r).1 ++ [(act en (acts en l m r).2.1 (acts en l m r).2.2 x).1], (act en (acts en l m r).2.1 (acts en l m r).2.2 x).2)
  | [], x, m, r => rfl
  | y :: t, x, m, r => by simp only [List.cons_append, acts, acts_snoc en t x]
/-- The machine is in order, and roots are current, or nothing. -/
def FineR (m : AM) (r : List Int) : Prop := ∃ ly ln lf φ A, Good m ly ln lf φ A ∧ ∀ x ∈ r, x = 0 ∨ x ∈ ly ∨ x ∈ ln
end AM
end Go.Hm
namespace Go.Hm.AM
section
variable {m : AM} {ly ln lf : List Int} {φ : Int → Option Nat} {A : Store}
/-- Behind a Step. -/
theorem Good.stepr (h : Good m ly ln lf φ A) (w : Int) :
    ∃ ln' lf' φ', Good (m.step w).2.2 ly ln' lf' φ' A ∧ (∀ t ∈ ln, t ∈ ln') ∧ (∀ v x, (v = 0 ∨ v ∈ ly ∨ v ∈ ln) → V φ v x → V φ' v x) ∧
      (m.step w).2.2.sh = m.sh ∧ (m.step w).2.2.Y = m.Y ∧ (m.step w).2.2.H = m.H ∧ (m.step w).2.2.new = m.new ∧ m.old - m.base ≤ (m.step w).2.2.old - (m.step w).2.2.base := by
  unfold AM.step
  split
  · exact ⟨ln, lf, φ, h, fun _ ht => ht, fun _ _ _ hv => hv, rfl, rfl, rfl, rfl, Int.le_refl _⟩
  · split
    · exact ⟨ln, lf, φ, h, fun _ ht => ht, fun _ _ _ hv => hv, rfl, rfl, rfl, rfl, Int.le_refl _⟩
    · rename_i hb
      have hb : m.busy = true := by simpa using hb
      simp only
      obtain ⟨ln', φ', g, g1, g2, g3, g4, g5, g6, g7, g8, g9, g10, _⟩ := h.steps w.toNat hb
      have hle : ∀ {v x : Int}, V φ v x → V φ' v x := fun {v x} hv => hv.imp id fun ⟨j, h1, h2⟩ => ⟨j, g2 _ _ h1, h2⟩
      have hbs : (AM.steps w.toNat m).base = m.base := by unfold AM.base; rw [g4, g5, g6]
      split
      · exact ⟨_, _, _, g, g1, fun v x _ hv => hle hv, g3, g4, g5, g8, by simp only; omega⟩
      · have hf := g.fin g7 (by omega)
        refine ⟨_, _, _, hf, g1, fun v x hm hv => ?_, g3, g4, g5, g8, ?_⟩
        · rcases hle hv with hv | ⟨j, h1, h2⟩
          · exact .inl hv
          · refine .inr ⟨j, ?_, h2⟩
            show (if v ∈ lf then none else φ' v) = some j
            rw [if_neg]
            · exact h1
            · intro hf'
              rcases hm with e | e | e
              · rw [e] at hf'; exact g.g.notY0.2.2 hf'
              · exact g.g.fy hf' e
              · exact g.g.of (g1 _ e) hf'
        · show m.old - m.base ≤ (AM.steps w.toNat m).old - (AM.steps w.toNat m).base
          omega
theorem step_err {w : Int} (hw : 0 ≤ w) : (m.step w).2.1 = 0 := by
  unfold AM.step
  rw [if_neg (by simpa using hw)]
  split
  · rfl
  · simp only; split <;> rfl
end
end Go.Hm.AM
namespace Go.Hm.AM
/-- Whether a step of w words goes wrong. -/
def badStep (w : Int) (m : AM) : Bool := (((m.step w).2.1 != 0 || decide ((m.step w).1 < 0)) || decide ((m.step w).2.2.room.2.1 < (m.step w).1)) || decide ((m.step w).2.2.room.2.1 < m.room.2.1)
def wloop (w : Int) : Nat → AM → Int → Bool × AM × Int
  | 0, m, l => (true, m, l)
  | f + 1, m, l => if m.busy then (if badStep w m then (false, (m.step w).2.2, l) else wloop w f (m.step w).2.2 ((m.step w).2.2.room.2.1 - (m.step w).1)) else (true, m, l)
/-- The law's whole: roots, the words that are left, whether it is done; and the machine. -/
def whole (m : AM) (roots : List Int) (w : Int) : List Int × Int × Bool × AM :=
  if (m.flip roots).2.1 ≠ 0 then ([], 0, false, (m.flip roots).2.2) else
  if (wloop w 10000 (m.flip roots).2.2 0).1 then ((m.flip roots).1, (wloop w 10000 (m.flip roots).2.2 0).2.2, !(wloop w 10000 (m.flip roots).2.2 0).2.1.busy, (wloop w 10000 (m.flip roots).2.2 0).2.1) else
  ([], 0, false, (wloop w 10000 (m.flip roots).2.2 0).2.1)
section
variable {ly : List Int} {A : Store}
theorem wloop_spec (w : Int) : ∀ (f : Nat) (l : Int) {m : AM} {ln lf : List Int} {φ : Int → Option Nat}, Good m ly ln lf φ A →
    ∃ ln' lf' φ', Good (wloop w f m l).2.1 ly ln' lf' φ' A ∧ (∀ t ∈ ln, t ∈ ln') ∧ (∀ v x, (v = 0 ∨ v ∈ ly ∨ v ∈ ln) → V φ v x → V φ' v x) ∧
      (wloop w f m l).2.1.sh = m.sh ∧ (wloop w f m l).2.1.Y = m.Y ∧ (wloop w f m l).2.1.H = m.H ∧ (wloop w f m l).2.1.new = m.new
  | 0, l, m, ln, lf, φ, h => ⟨ln, lf, φ, h, fun _ ht => ht, fun _ _ _ hv => hv, rfl, rfl, rfl, rfl⟩
  | f + 1, l, m, ln, lf, φ, h => by
    unfold wloop
    split
    · obtain ⟨ln1, lf1, φ1, g, a1, a2, a3, a4, a5, a6, _⟩ := h.stepr w
      split
      · exact ⟨_, _, _, g, a1, a2, a3, a4, a5, a6⟩
      · obtain ⟨ln2, lf2, φ2, g2, b1, b2, b3, b4, b5, b6⟩ := wloop_spec w f ((m.step w).2.2.room.2.1 - (m.step w).1) g
        exact ⟨_, _, _, g2, fun t ht => b1 t (a1 t ht), fun v x hm hv => b2 v x (hm.imp id (Or.imp id (a1 v))) (a2 v x hm hv), b3.trans a3, b4.trans a4, b5.trans a5, b6.trans a6⟩
    · exact ⟨ln, lf, φ, h, fun _ ht => ht, fun _ _ _ hv => hv, rfl, rfl, rfl, rfl⟩
theorem flip_err {m : AM} {roots : List Int} (he : (m.flip roots).2.1 = 0) : m.busy = false ∧ m.minorErr roots = 0 := by
  unfold AM.flip at he
  split at he
  · cases he
  · rename_i hb
    refine ⟨by simpa using hb, ?_⟩
    by_cases hm : m.minorErr roots = 0
    · exact hm
    · simp only at he
      rw [minor_no hm, if_pos hm] at he
      exact absurd he hm
/-- A whole collection that is done. -/
theorem whole_spec {m : AM} {ly ln lf : List Int} {φ : Int → Option Nat} (h : Good m ly ln lf φ A) {roots : List Int} {w : Int} (hd : (m.whole roots w).2.2.1 = true) :
    ∃ ln' φ', Good (m.whole roots w).2.2.2 [] ln' [] φ' A ∧ Roots ln' φ φ' roots (m.whole roots w).1 ∧
      (m.whole roots w).2.2.2.sh = m.sh ∧ (m.whole roots w).2.2.2.Y = m.Y ∧ (m.whole roots w).2.2.2.H = m.H ∧ (m.whole roots w).2.2.2.new = 1 ∧ (m.whole roots w).2.2.2.busy = false := by
  unfold AM.whole at hd ⊢
  split at hd
  · cases hd
  · rename_i he
    rw [if_neg he]
    split at hd
    · rename_i ho
      rw [if_pos ho]
      obtain ⟨hb, hm⟩ := flip_err (by simpa using he)
      obtain ⟨ln1, lf1, φ1, g, ⟨r1, r2⟩, _, s1, s2, s3, _, s5⟩ := h.flip hb hm
      obtain ⟨ln2, lf2, φ2, g2, b1, b2, b3, b4, b5, b6⟩ := wloop_spec w 10000 0 g
      have hbu : (wloop w 10000 (m.flip roots).2.2 0).2.1.busy = false := by simpa using hd
      have hlf : lf2 = [] := g2.g.nb hbu
      subst hlf
      exact ⟨ln2, φ2, g2, ⟨r1, fun i hi hi' => ⟨(r2 i hi hi').1.imp id (b1 _), fun x hx => b2 _ x ((r2 i hi hi').1.imp id .inr) ((r2 i hi hi').2 x hx)⟩⟩, b3.trans s1, b4.trans s2, b5.trans s3, b6.trans s5, hbu⟩
    · cases hd
end
end Go.Hm.AM
namespace Go.Hm.AM
section
variable {m m' : AM} {ly ln lf : List Int} {φ : Int → Option Nat} {A : Store}
structure Kept (m m' : AM) : Prop where
  sh : m'.sh = m.sh
  Y : m'.Y = m.Y
  H : m'.H = m.H
theorem Kept.refl (m : AM) : Kept m m := ⟨rfl, rfl, rfl⟩
theorem Kept.trans {m m' m'' : AM} (h : Kept m m') (k : Kept m' m'') : Kept m m'' := ⟨k.sh.trans h.sh, k.Y.trans h.Y, k.H.trans h.H⟩
theorem Good.kminor (h : Good m ly ln lf φ A) (r : List Int) : Kept m (m.minor r).2.2 := by
  by_cases he : m.minorErr r = 0
  · obtain ⟨_, _, _, _, h1, h2, h3, _⟩ := h.minor he; exact ⟨h1, h2, h3⟩
  · rw [minor_no he]; exact Kept.refl m
theorem Good.kstep (h : Good m ly ln lf φ A) (w : Int) : Kept m (m.step w).2.2 := by
  obtain ⟨_, _, _, _, _, _, h1, h2, h3, _⟩ := h.stepr w; exact ⟨h1, h2, h3⟩
theorem kalloc (m : AM) (s : Int) : Kept m (m.alloc s).2.2 := by
  unfold AM.alloc
  split
  · exact Kept.refl m
  · simp only; split
    · exact Kept.refl m
    · exact ⟨rfl, rfl, rfl⟩
theorem kset (m : AM) (t k v : Int) : Kept m (m.set t k v).2 := by
  unfold AM.set
  split
  · exact Kept.refl m
  · split
    · exact Kept.refl m
    · simp only; split <;> exact ⟨rfl, rfl, rfl⟩
theorem Good.kget (h : Good m ly ln lf φ A) (t k : Int) : Kept m (m.get t k).2.2 := by
  by_cases he : (m.get t k).2.1 = 0
  · obtain ⟨_, _, _, _, _, _, _, _, h1, h2, h3, _⟩ := h.get he; exact ⟨h1, h2, h3⟩
  · rw [(get_err he).1]; exact Kept.refl m
theorem Good.kflip (h : Good m ly ln lf φ A) (r : List Int) : Kept m (m.flip r).2.2 := by
  cases hb : m.busy with
  | true =>
    have : m.flip r = ([], 12, m) := by unfold AM.flip; rw [if_pos hb]
    rw [this]; exact Kept.refl m
  | false =>
    by_cases he : m.minorErr r = 0
    · obtain ⟨_, _, _, _, _, _, h1, h2, h3, _⟩ := h.flip hb he; exact ⟨h1, h2, h3⟩
    · have hno := minor_no he
      have : m.flip r = ([], m.minorErr r, m) := by
        unfold AM.flip
        rw [if_neg (by rw [hb]; simp)]
        simp only
        rw [hno, if_pos he]
      rw [this]; exact Kept.refl m
theorem Good.kclr (h : Good m ly ln lf φ A) (en : Bool) (r : List Int) : Kept m (clr en m r).2.1 := by
  unfold clr; split
  · exact Kept.refl m
  · exact h.kminor r
theorem Good.kact (h : Good m ly ln lf φ A) (en : Bool) (r : List Int) (x : Act) : Kept m (act en m r x).2.1 := by
  unfold act
  split; exact Kept.refl m
  split; exact Kept.refl m
  split
  · unfold fresh
    split; exact Kept.refl m
    split
    · split
      · exact h.kclr en r
      · exact (h.kclr en r).trans (kalloc _ _)
    · exact kalloc _ _
  split
  · unfold getA; split
    · exact Kept.refl m
    · exact h.kget _ _
  split
  · unfold setA; split
    · exact Kept.refl m
    · exact kset _ _ _ _
  split
  · unfold putA; split
    · exact Kept.refl m
    · exact kset _ _ _ _
  split; exact Kept.refl m
  split; exact Kept.refl m
  split; exact h.kclr en r
  split
  · unfold flp; split
    · exact Kept.refl m
    · exact h.kflip r
  unfold lok; split
  · exact Kept.refl m
  · exact h.kstep x.a
end
end Go.Hm.AM
namespace Go.Hm.AM
section
variable {m : AM} {ly ln lf : List Int} {φ : Int → Option Nat} {A : Store}
theorem Good.room_bd (h : Good m ly ln lf φ A) : 0 ≤ m.room.1 ∧ m.room.1 ≤ m.Y ∧ 0 ≤ m.room.2.1 ∧ 0 ≤ m.room.2.2 ∧ m.room.2.1 ≤ m.H - m.room.2.2 := by
  have h1 := h.g.newle; have h2 := h.g.yl; have h3 := h.g.oldle
  unfold room
  refine ⟨?_, ?_, ?_, ?_, ?_⟩ <;> dsimp only <;> omega
theorem alloc_first (hn : m.new = 1) {s : Int} (h0 : 0 ≤ s) (h1 : s < m.sh.length) : (m.alloc s).2.1 = if m.Y < 1 + ((m.sh.getD s.toNat []).length : Int) then 14 else 0 := by
  unfold AM.alloc
  rw [if_neg (by simp; omega)]
  simp only
  by_cases hc : m.Y < 1 + ((m.sh.getD s.toNat []).length : Int)
  · rw [if_pos hc, if_pos (by simp only [decide_eq_true_eq]; omega)]
  · rw [if_neg hc, if_neg (by simp only [decide_eq_true_eq]; omega)]
theorem Good.first_minor (h : Good m [] ln [] φ A) (hn : m.new = 1) {s : Int} (he : (m.alloc s).2.1 = 0) {r : List Int} (hr : ∀ x ∈ r, x = 0 ∨ x ∈ ln) (hl : r.length ≤ 200) :
    ((m.alloc s).2.2.minor (r.set 0 (m.alloc s).1)).2.1 = 0 ∨ (((m.alloc s).2.2.minor (r.set 0 (m.alloc s).1)).2.1 = 14 ∧ m.H < (m.old - m.base) + (1 + ((m.sh.getD s.toNat []).length : Int))) := by
  obtain ⟨g, _, ht, hs0, hs1, hm'⟩ := h.alloc he
  have hro : (m.alloc s).2.2.rooted (r.set 0 (m.alloc s).1) = 0 := by
    unfold AM.rooted
    rw [if_neg (by rw [List.length_set]; simp; omega), if_neg]
    rw [List.any_eq_true]
    rintro ⟨x, hx, hb⟩
    unfold AM.bad at hb
    rw [Bool.and_eq_true] at hb
    have hcur : x = 0 ∨ (m.alloc s).2.2.cur x = true := by
      rcases List.mem_or_eq_of_mem_set hx with hx | hx
      · exact (hr x hx).imp id fun q => g.g.cur_iff.2 (.inr q)
      · exact .inr (g.g.cur_iff.2 (.inl (by rw [hx, ht]; simp)))
    rcases hcur with e | e
    · rw [e] at hb; simp at hb
    · rw [e] at hb; simp at hb
  have hroots := g.rooted hro
  have hN := g.reach hroots
  have hsz : (m.alloc s).2.2.size m.new = 1 + ((m.sh.getD s.toNat []).length : Int) := by
    rw [hm']
    unfold size row
    simp only [fup, if_true]
    rw [show s + 1 - 1 = s by omega]
  have hnd : (m.alloc s).2.2.needed (r.set 0 (m.alloc s).1) ≤ 1 + ((m.sh.getD s.toNat []).length : Int) := by
    unfold needed
    have hnd := hN.nd
    have hsub := hN.sub
    generalize (m.alloc s).2.2.reach (r.set 0 (m.alloc s).1) = N at hnd hsub
    match N, hnd, hsub with
    | [], _, _ => simp [AM.sum]; omega
    | [a], _, q =>
      have := q a (by simp)
      simp only [List.nil_append, List.mem_singleton] at this
      rw [this]
      simp only [AM.sum, List.map_cons, List.map_nil, List.sum_cons, List.sum_nil]
      omega
    | a :: b :: l, nd, q =>
      have h1 := q a (by simp)
      have h2 := q b (by simp)
      simp only [List.nil_append, List.mem_singleton] at h1 h2
      rw [h1, h2] at nd
      simp at nd
  have hleft : m.left = 0 := by rw [h.g.left]; rfl
  by_cases hme : (m.alloc s).2.2.minorErr (r.set 0 (m.alloc s).1) = 0
  · exact .inl (minor_err hme)
  · refine .inr ?_
    rw [minor_no hme]
    unfold AM.minorErr at hme ⊢
    rw [hro] at hme ⊢
    simp only [ne_eq, not_true, if_false] at hme ⊢
    by_cases hc : (m.alloc s).2.2.base + (m.alloc s).2.2.H - (m.alloc s).2.2.old - (m.alloc s).2.2.left < (m.alloc s).2.2.needed (r.set 0 (m.alloc s).1)
    · rw [if_pos hc]
      refine ⟨rfl, ?_⟩
      have e1 : (m.alloc s).2.2.base = m.base := by rw [hm']; rfl
      have e2 : (m.alloc s).2.2.H = m.H := by rw [hm']
      have e3 : (m.alloc s).2.2.old = m.old := by rw [hm']
      have e4 : (m.alloc s).2.2.left = m.left := by rw [hm']
      omega
    · rw [if_neg hc] at hme; exact absurd rfl hme
end
end Go.Hm.AM
namespace Go.Hm.AM
/-- An object by what stands for it. -/
def obj0 (A : Store) (x : Int) : Int × List Int := A.getD (x - 1).toNat (0, [])
def srow (sh : List (List Bool)) (A : Store) (x : Int) : List Bool := sh.getD (obj0 A x).1.toNat []
def sfe (sh : List (List Bool)) (A : Store) (x k : Int) : Int := if x = 0 then 5 else if decide (k < 0) || decide (((srow sh A x).length : Int) ≤ k) then 1 else 0
def skind (sh : List (List Bool)) (A : Store) (x k : Int) (want : Bool) : Int := if sfe sh A x k = 0 then (if (srow sh A x).getD k.toNat false != want then 1 else 0) else sfe sh A x k
def sfresh (sh : List (List Bool)) (A : Store) (xs : List Int) (x : Act) : Store × List Int :=
  if decide (x.b < 0) || decide ((sh.length : Int) ≤ x.b) then (A, xs) else (A ++ [(x.b, List.replicate (sh.getD x.b.toNat []).length 0)], xs.set x.a.toNat ((A.length : Int) + 1))
def sgetA (sh : List (List Bool)) (A : Store) (xs : List Int) (x : Act) : Store × List Int :=
  if skind sh A (rdx xs x.b) x.c true ≠ 0 then (A, xs) else (A, xs.set x.a.toNat ((obj0 A (rdx xs x.b)).2.getD x.c.toNat 0))
def ssetA (sh : List (List Bool)) (A : Store) (xs : List Int) (x : Act) : Store × List Int :=
  if skind sh A (rdx xs x.a) x.c true ≠ 0 then (A, xs) else (setf A (rdx xs x.a - 1).toNat x.c.toNat (rdx xs x.b), xs)
def sputA (sh : List (List Bool)) (A : Store) (xs : List Int) (x : Act) : Store × List Int :=
  if skind sh A (rdx xs x.a) x.c false ≠ 0 then (A, xs) else (setf A (rdx xs x.a - 1).toNat x.c.toNat x.b, xs)
def sact (sh : List (List Bool)) (A : Store) (xs : List Int) (x : Act) : Store × List Int :=
  if decide (x.k < 1) || decide (9 < x.k) then (A, xs) else
  if (rootA x.k && oob x.a xs) || (rootB x.k && oob x.b xs) then (A, xs) else
  if x.k = 1 then sfresh sh A xs x else
  if x.k = 2 then sgetA sh A xs x else
  if x.k = 3 then ssetA sh A xs x else
  if x.k = 4 then sputA sh A xs x else
  if x.k = 5 then (A, xs.set x.a.toNat 0) else
  if x.k = 6 then (A, xs.set x.a.toNat (rdx xs x.b)) else (A, xs)
def sacts (sh : List (List Bool)) : List Act → Store → List Int → Store × List Int
  | [], A, xs => (A, xs)
  | x :: t, A, xs => sacts sh t (sact sh A xs x).1 (sact sh A xs x).2
/-- Roots, and what they stand for. -/
structure Rt (ly ln : List Int) (φ : Int → Option Nat) (r xs : List Int) : Prop where
  len : xs.length = r.length
  at' : ∀ i : Nat, (r.getD i 0 = 0 ∨ r.getD i 0 ∈ ly ∨ r.getD i 0 ∈ ln) ∧ V φ (r.getD i 0) (xs.getD i 0)
def Wst (m : AM) (r : List Int) (A : Store) (xs : List Int) : Prop := r.length ≤ 200 ∧ ∃ ly ln lf φ, Good m ly ln lf φ A ∧ Rt ly ln φ r xs
section
variable {m : AM} {ly ln lf r xs : List Int} {φ : Int → Option Nat} {A : Store}
theorem getD_set' (l : List Int) (n i : Nat) (v : Int) : (l.set n v).getD i 0 = if n = i ∧ n < l.length then v else l.getD i 0 := by
  rw [List.getD_eq_getElem?_getD, List.getElem?_set, List.getD_eq_getElem?_getD]
  by_cases h : n = i
  · subst h
    by_cases h2 : n < l.length
    · simp [h2]
    · simp [h2, List.getElem?_eq_none (by omega : l.length ≤ n)]
  · simp [h]
theorem V.zero (φ : Int → Option Nat) : V φ 0 0 := .inl ⟨rfl, rfl⟩
theorem Rt.set (h : Rt ly ln φ r xs) (n : Nat) {v x : Int} (hv : v = 0 ∨ v ∈ ly ∨ v ∈ ln) (hV : V φ v x) : Rt ly ln φ (r.set n v) (xs.set n x) := by
  refine ⟨by rw [List.length_set, List.length_set, h.len], fun i => ?_⟩
  rw [getD_set', getD_set', h.len]
  by_cases hc : n = i ∧ n < r.length
  · rw [if_pos hc, if_pos hc]; exact ⟨hv, hV⟩
  · rw [if_neg hc, if_neg hc]; exact h.at' i
theorem Rt.mono (h : Rt ly ln φ r xs) {ly' ln' : List Int} {φ' : Int → Option Nat} (hm : ∀ v x, (v = 0 ∨ v ∈ ly ∨ v ∈ ln) → V φ v x → (v = 0 ∨ v ∈ ly' ∨ v ∈ ln') ∧ V φ' v x) : Rt ly' ln' φ' r xs :=
  ⟨h.len, fun i => hm _ _ (h.at' i).1 (h.at' i).2⟩
theorem getD_get (l : List Int) {i : Nat} (h : i < l.length) : l.getD i 0 = l[i] := by simp [List.getD_eq_getElem?_getD, h]
theorem getD_out (l : List Int) {i : Nat} (h : l.length ≤ i) : l.getD i 0 = 0 := by simp [List.getD_eq_getElem?_getD, List.getElem?_eq_none h]
theorem Rt.roots (h : Rt ly ln φ r xs) {ln' b : List Int} {φ' : Int → Option Nat} (hR : Roots ln' φ φ' r b) : Rt [] ln' φ' b xs := by
  refine ⟨h.len.trans hR.1.symm, fun i => ?_⟩
  by_cases hi : i < r.length
  · have hi' : i < b.length := by rw [hR.1]; exact hi
    obtain ⟨h1, h2⟩ := hR.2 i hi hi'
    have h3 := (h.at' i).2
    rw [getD_get _ hi] at h3
    rw [getD_get _ hi']
    exact ⟨h1.imp id .inr, h2 _ h3⟩
  · have e1 : b.getD i 0 = 0 := getD_out _ (by have := hR.1; omega)
    have e2 : xs.getD i 0 = 0 := getD_out _ (by have := h.len; omega)
    rw [e1, e2]; exact ⟨.inl rfl, V.zero _⟩
theorem Rt.mem (h : Rt ly ln φ r xs) : ∀ v ∈ r, v = 0 ∨ v ∈ ly ∨ v ∈ ln := fun v hv => by
  obtain ⟨i, hi, rfl⟩ := List.getElem_of_mem hv
  have := (h.at' i).1
  rwa [getD_get _ hi] at this
theorem Good.rooted0 (g : Good m ly ln lf φ A) (hl : r.length ≤ 200) (hr : ∀ v ∈ r, v = 0 ∨ v ∈ ly ∨ v ∈ ln) : m.rooted r = 0 := by
  unfold AM.rooted
  rw [if_neg (by simp only [decide_eq_true_eq]; omega), if_neg]
  rw [List.any_eq_true]
  rintro ⟨x, hx, hb⟩
  unfold AM.bad at hb
  rw [Bool.and_eq_true] at hb
  rcases hr x hx with e | e
  · rw [e] at hb; simp at hb
  · have := g.g.cur_iff.2 e
    rw [this] at hb; simp at hb
theorem Wst.rooted (h : Wst m r A xs) : m.rooted r = 0 := by
  obtain ⟨hl, ly, ln, lf, φ, g, hr⟩ := h
  exact g.rooted0 hl hr.mem
theorem Good.val (g : Good m ly ln lf φ A) {v x : Int} (hv : v = 0 ∨ v ∈ ly ∨ v ∈ ln) (hV : V φ v x) : (v = 0 ∧ x = 0) ∨ ((v ∈ ly ∨ v ∈ ln) ∧ ∃ j : Nat, φ v = some j ∧ x = (j : Int) + 1 ∧ ∃ fs, obj0 A x = (m.head v - 1, fs) ∧ A[j]? = some (m.head v - 1, fs)) := by
  rcases hV with hV | ⟨j, h1, h2⟩
  · exact .inl hV
  · rcases hv with e | hv
    · subst e
      have := g.s.dom _ _ h1
      have h0 := g.g.notY0
      rcases this with q | q | q
      · exact absurd q h0.1
      · exact absurd q h0.2.1
      · exact absurd q h0.2.2
    · obtain ⟨fs, h3, _⟩ := g.s.shp _ _ h1
      refine .inr ⟨hv, j, h1, h2, fs, ?_, h3⟩
      unfold obj0
      have e : (x - 1).toNat = j := by omega
      rw [e, List.getD_eq_getElem?_getD, h3]; rfl
theorem Good.fe_eq (g : Good m ly ln lf φ A) {v x : Int} (hv : v = 0 ∨ v ∈ ly ∨ v ∈ ln) (hV : V φ v x) (k : Int) : m.fe v k = sfe m.sh A x k ∧ (x ≠ 0 → m.row v = srow m.sh A x) := by
  rcases g.val hv hV with ⟨e1, e2⟩ | ⟨hm, j, h1, h2, fs, h3, h4⟩
  · subst e1; subst e2
    have h0 := g.g.notY0
    have : m.cur 0 = false := by
      cases hc : m.cur 0 with
      | false => rfl
      | true => rcases g.g.cur_iff.1 hc with q | q
                · exact absurd q h0.1
                · exact absurd q h0.2.1
    refine ⟨?_, fun hx => absurd rfl hx⟩
    unfold AM.fe sfe
    rw [this]; rfl
  · have hx : x ≠ 0 := by omega
    have hrow : m.row v = srow m.sh A x := by unfold AM.row srow; rw [h3]
    refine ⟨?_, fun _ => hrow⟩
    unfold AM.fe sfe
    rw [if_neg hx, g.g.cur_iff.2 hm, hrow]; rfl
theorem Good.kinded_eq (g : Good m ly ln lf φ A) {v x : Int} (hv : v = 0 ∨ v ∈ ly ∨ v ∈ ln) (hV : V φ v x) (k : Int) (want : Bool) : m.kinded v k want = skind m.sh A x k want := by
  obtain ⟨h1, h2⟩ := g.fe_eq hv hV k
  unfold AM.kinded skind AM.ref
  rw [h1]
  by_cases hc : sfe m.sh A x k = 0
  · rw [if_pos hc, if_pos hc]
    have hx : x ≠ 0 := by intro e; subst e; unfold sfe at hc; rw [if_pos rfl] at hc; cases hc
    rw [h2 hx]
  · rw [if_neg hc, if_neg hc]
theorem Wst.clr (h : Wst m r A xs) (en : Bool) : Wst (clr en m r).2.1 (clr en m r).2.2 A xs ∧ ((clr en m r).1 = 0 ∨ (clr en m r).1 = 14) ∧ (clr en m r).2.1.sh = m.sh := by
  have hro := h.rooted
  obtain ⟨hl, ly, ln, lf, φ, g, hr⟩ := id h
  refine ⟨?_, ?_, (g.kclr en r).sh⟩
  · unfold AM.clr
    split
    · exact h
    · by_cases he : m.minorErr r = 0
      · obtain ⟨ln', φ', g', R, _⟩ := g.minor he
        dsimp only
        rw [if_pos (minor_err he)]
        exact ⟨by rw [R.1]; exact hl, _, _, _, _, g', hr.roots R⟩
      · rw [minor_no he]; dsimp only; rw [if_neg he]; exact h
  · unfold AM.clr
    split
    · exact .inl rfl
    · by_cases he : m.minorErr r = 0
      · exact .inl (minor_err he)
      · rw [minor_no he]; dsimp only
        unfold minorErr at he ⊢
        rw [hro] at he ⊢
        simp only [ne_eq, not_true_eq_false, if_false] at he ⊢
        split at he
        · rename_i hq; rw [if_pos hq]; exact .inr rfl
        · exact absurd rfl he
theorem Wst.flp (h : Wst m r A xs) (en : Bool) : Wst (flp en m r).2.1 (flp en m r).2.2 A xs := by
  obtain ⟨hl, ly, ln, lf, φ, g, hr⟩ := id h
  unfold AM.flp
  split
  · exact h
  · cases hb : m.busy with
    | true =>
      have : m.flip r = ([], 12, m) := by unfold AM.flip; rw [if_pos hb]
      rw [this]; exact h
    | false =>
      by_cases he : m.minorErr r = 0
      · obtain ⟨ln', lf', φ', g', R, e0, _⟩ := g.flip hb he
        dsimp only
        rw [if_pos e0]
        exact ⟨by rw [R.1]; exact hl, _, _, _, _, g', hr.roots R⟩
      · have hno := minor_no he
        have : m.flip r = ([], m.minorErr r, m) := by
          unfold AM.flip
          rw [if_neg (by rw [hb]; simp)]
          simp only
          rw [hno, if_pos he]
        rw [this]; dsimp only; rw [if_neg he]; exact h
theorem Wst.stp (h : Wst m r A xs) (w : Int) : Wst (m.step w).2.2 r A xs := by
  obtain ⟨hl, ly, ln, lf, φ, g, hr⟩ := id h
  obtain ⟨ln', lf', φ', g', a1, a2, _⟩ := g.stepr w
  exact ⟨hl, _, _, _, _, g', hr.mono fun v x hv hV => ⟨hv.imp id (Or.imp id (a1 v)), a2 v x hv hV⟩⟩
theorem Wst.lok (h : Wst m r A xs) (en : Bool) (x : Act) : Wst (lok en m r x).2.1 (lok en m r x).2.2 A xs := by
  unfold AM.lok
  split
  · exact h
  · exact h.stp x.a
theorem alloc_in {s : Int} (hc : ¬ (decide (s < 0) || decide ((m.sh.length : Int) ≤ s)) = true) (he : (m.alloc s).2.1 ≠ 14) : (m.alloc s).2.1 = 0 := by
  unfold AM.alloc at he ⊢
  rw [if_neg hc] at he ⊢
  dsimp only at he ⊢
  split
  · rename_i hq; rw [if_pos hq] at he; exact absurd rfl he
  · rfl
theorem Wst.newAt (h : Wst m r A xs) {x : Act} (hc : ¬ (decide (x.b < 0) || decide ((m.sh.length : Int) ≤ x.b)) = true) (he : (newAt m r x).1 ≠ 14) :
    Wst (newAt m r x).2.1 (newAt m r x).2.2 (A ++ [(x.b, List.replicate (m.sh.getD x.b.toNat []).length 0)]) (xs.set x.a.toNat ((A.length : Int) + 1)) := by
  obtain ⟨hl, ly, ln, lf, φ, g, hr⟩ := id h
  have ha : (m.alloc x.b).2.1 = 0 := alloc_in hc he
  obtain ⟨g', le, e1, _⟩ := g.alloc ha
  unfold AM.newAt
  dsimp only
  rw [if_pos ha, e1]
  exact ⟨by rw [List.length_set]; exact hl, _, _, _, _, g', (hr.mono fun v y hv hV => ⟨hv.imp id (Or.imp (List.mem_append_left _) id), hV.mono le⟩).set x.a.toNat (.inr (.inl (by simp))) (.inr ⟨A.length, by simp, rfl⟩)⟩
theorem Wst.fresh (h : Wst m r A xs) (en : Bool) (x : Act) (he : (fresh en m r x).1 ≠ 14) : Wst (fresh en m r x).2.1 (fresh en m r x).2.2 (sfresh m.sh A xs x).1 (sfresh m.sh A xs x).2 := by
  unfold AM.fresh at he ⊢
  unfold sfresh
  by_cases c : (decide (x.b < 0) || decide ((m.sh.length : Int) ≤ x.b)) = true
  · simp only [if_pos c]; exact h
  simp only [if_neg c] at he ⊢
  by_cases t : tight en m x = true
  · simp only [if_pos t] at he ⊢
    obtain ⟨h1, h2, h3⟩ := h.clr en
    by_cases e : (AM.clr en m r).1 ≠ 0
    · simp only [if_pos e] at he; exact absurd (h2.resolve_left e) he
    · simp only [if_neg e] at he ⊢
      have := h1.newAt (x := x) (by rw [h3]; exact c) he
      rwa [h3] at this
  · simp only [if_neg t] at he ⊢
    exact h.newAt c he
theorem skind0 {sh : List (List Bool)} {x k : Int} {want : Bool} (h : skind sh A x k want = 0) : sfe sh A x k = 0 ∧ (srow sh A x).getD k.toNat false = want := by
  unfold skind at h
  by_cases hc : sfe sh A x k = 0
  · rw [if_pos hc] at h
    refine ⟨hc, ?_⟩
    split at h
    · cases h
    · rename_i hq; simpa using hq
  · rw [if_neg hc] at h; exact absurd h hc
theorem sfe0 {sh : List (List Bool)} {x k : Int} (h : sfe sh A x k = 0) : x ≠ 0 := by
  intro e; subst e; unfold sfe at h; rw [if_pos rfl] at h; cases h
theorem Wst.getA (h : Wst m r A xs) (x : Act) : Wst (getA m r x).2.1 (getA m r x).2.2 (sgetA m.sh A xs x).1 (sgetA m.sh A xs x).2 := by
  obtain ⟨hl, ly, ln, lf, φ, g, hr⟩ := id h
  obtain ⟨hv, hV⟩ := hr.at' x.b.toNat
  have hk := g.kinded_eq hv hV x.c true
  unfold AM.getA sgetA
  change m.kinded (rdx r x.b) x.c true = skind m.sh A (rdx xs x.b) x.c true at hk
  rw [hk]
  by_cases c : skind m.sh A (rdx xs x.b) x.c true ≠ 0
  · simp only [if_pos c]; exact h
  simp only [if_neg c]
  obtain ⟨c1, c2⟩ := skind0 (Decidable.not_not.1 c)
  obtain ⟨f1, f2⟩ := g.fe_eq hv hV x.c
  change m.fe (rdx r x.b) x.c = sfe m.sh A (rdx xs x.b) x.c at f1
  have hx := sfe0 c1
  have hrow : m.row (rdx r x.b) = srow m.sh A (rdx xs x.b) := f2 hx
  have hfe : m.fe (rdx r x.b) x.c = 0 := f1.trans c1
  have href : m.ref (rdx r x.b) x.c = true := by unfold AM.ref; rw [hrow]; exact c2
  have he : (m.get (rdx r x.b) x.c).2.1 = 0 := by unfold AM.get; rw [if_neg (by rw [hfe]; simp)]
  obtain ⟨ln', φ', g', sub, le, _, res, val, _⟩ := g.get he
  rw [if_pos he]
  rcases g.val hv hV with ⟨_, e2⟩ | ⟨hm, j, h1, h2, fs, h3, h4⟩
  · exact absurd e2 hx
  have hval := val j _ fs h1 h4
  rw [if_pos href] at hval
  have hfs : (obj0 A (rdx xs x.b)).2 = fs := by
    change obj0 A (rdx xs x.b) = _ at h3
    rw [h3]
  rw [hfs]
  exact ⟨by rw [List.length_set]; exact hl, _, _, _, _, g', (hr.mono fun v y hv hV => ⟨hv.imp id (Or.imp id (sub v)), hV.mono le⟩).set x.a.toNat (res href) hval⟩
theorem Wst.setA (h : Wst m r A xs) (x : Act) : Wst (setA m r x).2.1 (setA m r x).2.2 (ssetA m.sh A xs x).1 (ssetA m.sh A xs x).2 := by
  obtain ⟨hl, ly, ln, lf, φ, g, hr⟩ := id h
  obtain ⟨hv, hV⟩ := hr.at' x.a.toNat
  obtain ⟨hv2, hV2⟩ := hr.at' x.b.toNat
  have hk := g.kinded_eq hv hV x.c true
  unfold AM.setA ssetA
  change m.kinded (rdx r x.a) x.c true = skind m.sh A (rdx xs x.a) x.c true at hk
  rw [hk]
  by_cases c : skind m.sh A (rdx xs x.a) x.c true ≠ 0
  · simp only [if_pos c]; exact h
  simp only [if_neg c]
  obtain ⟨c1, c2⟩ := skind0 (Decidable.not_not.1 c)
  obtain ⟨f1, f2⟩ := g.fe_eq hv hV x.c
  change m.fe (rdx r x.a) x.c = sfe m.sh A (rdx xs x.a) x.c at f1
  have hx := sfe0 c1
  have hrow : m.row (rdx r x.a) = srow m.sh A (rdx xs x.a) := f2 hx
  have hfe : m.fe (rdx r x.a) x.c = 0 := f1.trans c1
  have href : m.ref (rdx r x.a) x.c = true := by unfold AM.ref; rw [hrow]; exact c2
  have he : (m.set (rdx r x.a) x.c (rdx r x.b)).1 = 0 := by
    unfold AM.set
    rw [if_neg (by rw [hfe]; simp), if_neg]
    rw [href]
    change rdx r x.b = 0 ∨ rdx r x.b ∈ ly ∨ rdx r x.b ∈ ln at hv2
    rcases hv2 with e | e
    · rw [e]; simp
    · rw [g.g.cur_iff.2 e]; simp
  rcases g.val hv hV with ⟨_, e2⟩ | ⟨hm, j, h1, h2, fs, h3, h4⟩
  · exact absurd e2 hx
  have hj : (rdx xs x.a - 1).toNat = j := by change rdx xs x.a = _ at h2; omega
  rw [hj]
  obtain ⟨g', _⟩ := g.set (A' := setf A j x.c.toNat (rdx xs x.b)) he (.inr ⟨j, rdx xs x.b, h1, rfl, by rw [if_pos href]; exact hV2⟩)
  exact ⟨hl, _, _, _, _, g', hr⟩
theorem Wst.putA (h : Wst m r A xs) (x : Act) : Wst (putA m r x).2.1 (putA m r x).2.2 (sputA m.sh A xs x).1 (sputA m.sh A xs x).2 := by
  obtain ⟨hl, ly, ln, lf, φ, g, hr⟩ := id h
  obtain ⟨hv, hV⟩ := hr.at' x.a.toNat
  have hk := g.kinded_eq hv hV x.c false
  unfold AM.putA sputA
  change m.kinded (rdx r x.a) x.c false = skind m.sh A (rdx xs x.a) x.c false at hk
  rw [hk]
  by_cases c : skind m.sh A (rdx xs x.a) x.c false ≠ 0
  · simp only [if_pos c]; exact h
  simp only [if_neg c]
  obtain ⟨c1, c2⟩ := skind0 (Decidable.not_not.1 c)
  obtain ⟨f1, f2⟩ := g.fe_eq hv hV x.c
  change m.fe (rdx r x.a) x.c = sfe m.sh A (rdx xs x.a) x.c at f1
  have hx := sfe0 c1
  have hrow : m.row (rdx r x.a) = srow m.sh A (rdx xs x.a) := f2 hx
  have hfe : m.fe (rdx r x.a) x.c = 0 := f1.trans c1
  have href : m.ref (rdx r x.a) x.c = false := by unfold AM.ref; rw [hrow]; exact c2
  have he : (m.set (rdx r x.a) x.c x.b).1 = 0 := by
    unfold AM.set
    rw [if_neg (by rw [hfe]; simp), if_neg]
    rw [href]; simp
  rcases g.val hv hV with ⟨_, e2⟩ | ⟨hm, j, h1, h2, fs, h3, h4⟩
  · exact absurd e2 hx
  have hj : (rdx xs x.a - 1).toNat = j := by change rdx xs x.a = _ at h2; omega
  rw [hj]
  obtain ⟨g', _⟩ := g.set (A' := setf A j x.c.toNat x.b) he (.inr ⟨j, x.b, h1, rfl, by rw [if_neg (by rw [href]; simp)]⟩)
  exact ⟨hl, _, _, _, _, g', hr⟩
/-- An act does the same to the objects without addresses. -/
theorem Wst.act (h : Wst m r A xs) (en : Bool) (x : Act) (he : (act en m r x).1 ≠ 14) : Wst (act en m r x).2.1 (act en m r x).2.2 (sact m.sh A xs x).1 (sact m.sh A xs x).2 ∧ (act en m r x).2.1.sh = m.sh := by
  obtain ⟨hl, ly, ln, lf, φ, g, hr⟩ := id h
  refine ⟨?_, (g.kact en r x).sh⟩
  have hob : ∀ i, oob i xs = oob i r := fun i => by unfold oob; rw [hr.len]
  unfold AM.act at he ⊢
  unfold sact
  by_cases c0 : (decide (x.k < 1) || decide (9 < x.k)) = true
  · simp only [if_pos c0]; exact h
  by_cases c1 : ((rootA x.k && oob x.a r) || (rootB x.k && oob x.b r)) = true
  · simp only [hob, if_neg c0, if_pos c1]; exact h
  simp only [hob, if_neg c0, if_neg c1] at he ⊢
  by_cases k1 : x.k = 1
  · simp only [if_pos k1] at he ⊢; exact h.fresh en x he
  simp only [if_neg k1] at he ⊢
  by_cases k2 : x.k = 2
  · simp only [if_pos k2] at he ⊢; exact h.getA x
  simp only [if_neg k2] at he ⊢
  by_cases k3 : x.k = 3
  · simp only [if_pos k3] at he ⊢; exact h.setA x
  simp only [if_neg k3] at he ⊢
  by_cases k4 : x.k = 4
  · simp only [if_pos k4] at he ⊢; exact h.putA x
  simp only [if_neg k4] at he ⊢
  by_cases k5 : x.k = 5
  · simp only [if_pos k5] at he ⊢
    exact ⟨by rw [List.length_set]; exact hl, _, _, _, _, g, hr.set x.a.toNat (.inl rfl) (V.zero _)⟩
  simp only [if_neg k5] at he ⊢
  by_cases k6 : x.k = 6
  · simp only [if_pos k6] at he ⊢
    exact ⟨by rw [List.length_set]; exact hl, _, _, _, _, g, hr.set x.a.toNat (hr.at' x.b.toNat).1 (hr.at' x.b.toNat).2⟩
  simp only [if_neg k6] at he ⊢
  by_cases k7 : x.k = 7
  · simp only [if_pos k7] at he ⊢; exact (h.clr en).1
  simp only [if_neg k7] at he ⊢
  by_cases k8 : x.k = 8
  · simp only [if_pos k8] at he ⊢; exact h.flp en
  simp only [if_neg k8] at he ⊢; exact h.lok en x
/-- Roots stay current, whatever error there is. -/
theorem Wst.act_any (h : Wst m r A xs) (en : Bool) (x : Act) : ∃ A' xs', Wst (AM.act en m r x).2.1 (AM.act en m r x).2.2 A' xs' := by
  by_cases he : (AM.act en m r x).1 = 14
  · refine ⟨A, xs, ?_⟩
    unfold AM.act at he ⊢
    by_cases c0 : (decide (x.k < 1) || decide (9 < x.k)) = true
    · simp only [if_pos c0]; exact h
    by_cases c1 : ((rootA x.k && oob x.a r) || (rootB x.k && oob x.b r)) = true
    · simp only [if_neg c0, if_pos c1]; exact h
    simp only [if_neg c0, if_neg c1] at he ⊢
    by_cases k1 : x.k = 1
    · simp only [if_pos k1] at he ⊢
      unfold AM.fresh at he ⊢
      by_cases c : (decide (x.b < 0) || decide ((m.sh.length : Int) ≤ x.b)) = true
      · simp only [if_pos c]; exact h
      simp only [if_neg c] at he ⊢
      have na : ∀ {m : AM} {r : List Int}, Wst m r A xs → (AM.newAt m r x).1 = 14 → Wst (AM.newAt m r x).2.1 (AM.newAt m r x).2.2 A xs := fun {m r} h he => by
        have ha : (m.alloc x.b).2.1 = 14 := he
        have hne : (m.alloc x.b).2.1 ≠ 0 := by rw [ha]; decide
        unfold AM.newAt
        dsimp only
        rw [if_neg hne, (alloc_err hne).1]
        exact h
      by_cases t : tight en m x = true
      · simp only [if_pos t] at he ⊢
        by_cases e : (AM.clr en m r).1 ≠ 0
        · simp only [if_pos e] at he ⊢; exact (h.clr en).1
        · simp only [if_neg e] at he ⊢; exact na (h.clr en).1 he
      · simp only [if_neg t] at he ⊢; exact na h he
    simp only [if_neg k1] at he ⊢
    by_cases k2 : x.k = 2
    · simp only [if_pos k2] at he ⊢
      unfold AM.getA at he ⊢
      split at he
      · rename_i hk; rw [if_pos hk]; exact h
      · rename_i hk
        rw [if_neg hk]
        have hne : (m.get (rdx r x.b) x.c).2.1 ≠ 0 := by
          change (m.get (rdx r x.b) x.c).2.1 = 14 at he
          rw [he]; decide
        dsimp only
        rw [if_neg hne, (get_err hne).1]; exact h
    simp only [if_neg k2] at he ⊢
    by_cases k3 : x.k = 3
    · simp only [if_pos k3] at he ⊢
      unfold AM.setA at he ⊢
      split at he
      · rename_i hk; rw [if_pos hk]; exact h
      · rename_i hk
        rw [if_neg hk]
        have hne : (m.set (rdx r x.a) x.c (rdx r x.b)).1 ≠ 0 := by
          change (m.set (rdx r x.a) x.c (rdx r x.b)).1 = 14 at he
          rw [he]; decide
        dsimp only
        rw [set_err hne]; exact h
    simp only [if_neg k3] at he ⊢
    by_cases k4 : x.k = 4
    · simp only [if_pos k4] at he ⊢
      unfold AM.putA at he ⊢
      split at he
      · rename_i hk; rw [if_pos hk]; exact h
      · rename_i hk
        rw [if_neg hk]
        have hne : (m.set (rdx r x.a) x.c x.b).1 ≠ 0 := by
          change (m.set (rdx r x.a) x.c x.b).1 = 14 at he
          rw [he]; decide
        dsimp only
        rw [set_err hne]; exact h
    simp only [if_neg k4] at he ⊢
    by_cases k5 : x.k = 5
    · simp only [if_pos k5] at he; cases he
    simp only [if_neg k5] at he ⊢
    by_cases k6 : x.k = 6
    · simp only [if_pos k6] at he; cases he
    simp only [if_neg k6] at he ⊢
    by_cases k7 : x.k = 7
    · simp only [if_pos k7] at he ⊢; exact (h.clr en).1
    simp only [if_neg k7] at he ⊢
    by_cases k8 : x.k = 8
    · simp only [if_pos k8] at he ⊢; exact h.flp en
    simp only [if_neg k8] at he ⊢; exact h.lok en x
  · exact ⟨_, _, (h.act en x he).1⟩
theorem Wst.acts_any (en : Bool) : ∀ (l : List Act) {m : AM} {r xs : List Int} {A : Store}, Wst m r A xs → ∃ A' xs', Wst (AM.acts en l m r).2.1 (AM.acts en l m r).2.2 A' xs'
  | [], _, _, _, _, h => ⟨_, _, h⟩
  | x :: t, _, _, _, _, h => by
    obtain ⟨_, _, h1⟩ := h.act_any en x
    exact Wst.acts_any en t h1
theorem Wst.acts (en : Bool) : ∀ (l : List Act) {m : AM} {r xs : List Int} {A : Store}, Wst m r A xs → (∀ e ∈ (acts en l m r).1, e ≠ 14) → Wst (acts en l m r).2.1 (acts en l m r).2.2 (sacts m.sh l A xs).1 (sacts m.sh l A xs).2 ∧ (acts en l m r).2.1.sh = m.sh
  | [], m, r, xs, A, h, _ => ⟨h, rfl⟩
  | x :: t, m, r, xs, A, h, he => by
    obtain ⟨h1, h2⟩ := h.act en x (he _ (List.mem_cons_self ..))
    obtain ⟨h3, h4⟩ := Wst.acts en t h1 fun e hm => he e (List.mem_cons_of_mem _ hm)
    rw [h2] at h3
    exact ⟨h3, h4.trans h2⟩
/-- Acts that do nothing to objects without addresses. -/
theorem sact_idle {sh : List (List Bool)} {x : Act} (hk : x.k = 7 ∨ x.k = 8 ∨ x.k = 9) : sact sh A xs x = (A, xs) := by
  unfold sact
  split
  · rfl
  split
  · rfl
  rw [if_neg (by omega), if_neg (by omega), if_neg (by omega), if_neg (by omega), if_neg (by omega), if_neg (by omega)]
theorem sacts_filter {sh : List (List Bool)} : ∀ (l : List Act) (A : Store) (xs : List Int), sacts sh (l.filter fun x => (x.k != 7 && x.k != 8) && x.k != 9) A xs = sacts sh l A xs
  | [], _, _ => rfl
  | x :: t, A, xs => by
    rw [List.filter_cons]
    by_cases hc : ((x.k != 7 && x.k != 8) && x.k != 9) = true
    · rw [if_pos hc]; exact sacts_filter t _ _
    · rw [if_neg hc, sacts_filter t]
      have : x.k = 7 ∨ x.k = 8 ∨ x.k = 9 := by simp at hc; omega
      show sacts sh t A xs = sacts sh t (sact sh A xs x).1 (sact sh A xs x).2
      rw [sact_idle this]
theorem sacts_slow {sh : List (List Bool)} {y : Act} (hy : y.k = 9) : ∀ (l : List Act) (A : Store) (xs : List Int), sacts sh (l.flatMap fun x => [x, y]) A xs = sacts sh l A xs
  | [], _, _ => rfl
  | x :: t, A, xs => by
    show sacts sh (([x, y] : List Act) ++ t.flatMap fun x => [x, y]) A xs = sacts sh t (sact sh A xs x).1 (sact sh A xs x).2
    show sacts sh (t.flatMap fun x => [x, y]) (sact sh (sact sh A xs x).1 (sact sh A xs x).2 y).1 (sact sh (sact sh A xs x).1 (sact sh A xs x).2 y).2 = _
    rw [sact_idle (.inr (.inr hy)), sacts_slow hy t]
end
end Go.Hm.AM
namespace Go.Hm
/-- Lists that are alike, element by element. -/
def All2 {α β : Type} (P : α → β → Prop) : List α → List β → Prop
  | [], [] => True
  | a :: l, b :: k => P a b ∧ All2 P l k
  | _, _ => False
section
variable {α β : Type} {P : α → β → Prop}
theorem All2.snoc {a : α} {b : β} (h : P a b) : ∀ {l : List α} {k : List β}, All2 P l k → All2 P (l ++ [a]) (k ++ [b])
  | [], [], _ => ⟨h, trivial⟩
  | [], _ :: _, h' => h'.elim
  | _ :: _, [], h' => h'.elim
  | _ :: _, _ :: _, h' => ⟨h'.1, All2.snoc h h'.2⟩
theorem All2.len : ∀ {l : List α} {k : List β}, All2 P l k → l.length = k.length
  | [], [], _ => rfl
  | [], _ :: _, h' => h'.elim
  | _ :: _, [], h' => h'.elim
  | _ :: _, _ :: _, h' => by rw [List.length_cons, List.length_cons, All2.len h'.2]
theorem All2.get : ∀ {l : List α} {k : List β}, All2 P l k → ∀ (i : Nat) (h1 : i < l.length) (h2 : i < k.length), P l[i] k[i]
  | [], [], _, _, h1, _ => by simp at h1
  | [], _ :: _, h', _, _, _ => h'.elim
  | _ :: _, [], h', _, _, _ => h'.elim
  | _ :: _, _ :: _, h', 0, _, _ => h'.1
  | _ :: l, _ :: k, h', i + 1, h1, h2 => All2.get (l := l) (k := k) h'.2 i (by simpa using h1) (by simpa using h2)
theorem All2.map_eq {γ : Type} {f : α → γ} {g : β → γ} : ∀ {l : List α} {k : List β}, All2 P l k → (∀ t x, t ∈ l → P t x → f t = g x) → l.map f = k.map g
  | [], [], _, _ => rfl
  | [], _ :: _, h', _ => h'.elim
  | _ :: _, [], h', _ => h'.elim
  | a :: l, b :: k, h', he => by
    rw [List.map_cons, List.map_cons, he a b (List.mem_cons_self ..) h'.1, All2.map_eq h'.2 fun t x ht => he t x (List.mem_cons_of_mem _ ht)]
theorem All2.maps {γ : Type} {f : γ → α} {g : γ → β} : ∀ {l : List γ}, (∀ t ∈ l, P (f t) (g t)) → All2 P (l.map f) (l.map g)
  | [], _ => trivial
  | a :: l, h => ⟨h a (List.mem_cons_self ..), All2.maps (l := l) fun t ht => h t (List.mem_cons_of_mem _ ht)⟩
theorem All2.of_get : ∀ {l : List α} {k : List β}, l.length = k.length → (∀ (i : Nat) (h1 : i < l.length) (h2 : i < k.length), P l[i] k[i]) → All2 P l k
  | [], [], _, _ => trivial
  | [], _ :: _, h', _ => by simp at h'
  | _ :: _, [], h', _ => by simp at h'
  | a :: l, b :: k, h', he => ⟨he 0 (by simp) (by simp), All2.of_get (by simpa using h') fun i h1 h2 => he (i + 1) (by simpa using h1) (by simpa using h2)⟩
end
/-- Nodes of two graphs stand for each other, one for one. -/
structure Bij (P : Int → Int → Prop) : Prop where
  z : ∀ {t x}, P t x → (t = 0 ↔ x = 0)
  i : ∀ {t x t' x'}, P t x → P t' x' → (t = t' ↔ x = x')
section
variable {P : Int → Int → Prop} {t x : Int}
theorem All2.mem (hB : Bij P) (ht : P t x) : ∀ {l k : List Int}, All2 P l k → (t ∈ l ↔ x ∈ k)
  | [], [], _ => by simp
  | [], _ :: _, h' => h'.elim
  | _ :: _, [], h' => h'.elim
  | a :: l, b :: k, h' => by
    rw [List.mem_cons, List.mem_cons, hB.i ht h'.1, All2.mem hB ht h'.2]
theorem All2.pmeet (hB : Bij P) {l k : List Int} (h : All2 P l k) (ht : P t x) : All2 P (pmeet l t) (pmeet k x) := by
  have : (t == 0 || l.contains t) = (x == 0 || k.contains x) := by
    rw [Bool.eq_iff_iff]
    simp only [Bool.or_eq_true, beq_iff_eq, List.contains_iff_mem]
    rw [hB.z ht, h.mem hB ht]
  unfold Hm.pmeet
  rw [this]
  split
  · exact h
  · exact h.snoc ht
theorem All2.pmeets (hB : Bij P) : ∀ {ts us l k : List Int}, All2 P ts us → All2 P l k → All2 P (ts.foldl Hm.pmeet l) (us.foldl Hm.pmeet k)
  | [], [], _, _, _, h => h
  | [], _ :: _, _, _, h', _ => h'.elim
  | _ :: _, [], _, _, h', _ => h'.elim
  | _ :: ts, _ :: us, l, k, h', h => All2.pmeets (ts := ts) (us := us) hB h'.2 (h.pmeet hB h'.1)
theorem All2.idxOf (hB : Bij P) (ht : P t x) : ∀ {l k : List Int}, All2 P l k → l.idxOf t = k.idxOf x
  | [], [], _ => rfl
  | [], _ :: _, h' => h'.elim
  | _ :: _, [], h' => h'.elim
  | a :: l, b :: k, h' => by
    have e : (a == t) = (b == x) := by rw [Bool.eq_iff_iff]; simp only [beq_iff_eq]; exact hB.i h'.1 ht
    rw [List.idxOf_cons, List.idxOf_cons, e, All2.idxOf hB ht h'.2]
theorem All2.idx (hB : Bij P) (ht : P t x) {l k : List Int} (h : All2 P l k) : idx l t = idx k x := by
  unfold Hm.idx
  have := h.mem hB ht
  by_cases hc : t ∈ l
  · rw [if_pos hc, if_pos (this.1 hc), h.idxOf hB ht]
  · rw [if_neg hc, if_neg fun q => hc (this.2 q)]
end
def Fs (P : Int → Int → Prop) (q q' : Bool × Int) : Prop := q.1 = q'.1 ∧ if q.1 then P q.2 q'.2 else q.2 = q'.2
structure Iso (P : Int → Int → Prop) (g g' : Gr) : Prop where
  b : Bij P
  sh : ∀ {t x}, P t x → t ≠ 0 → g.sh t = g'.sh x
  fs : ∀ {t x}, P t x → t ≠ 0 → All2 (Fs P) (g.fs t) (g'.fs x)
section
variable {P : Int → Int → Prop} {g g' : Gr}
theorem All2.succ : ∀ {l k : List (Bool × Int)}, All2 (Fs P) l k → All2 P (l.filterMap fun q => if q.1 then some q.2 else none) (k.filterMap fun q => if q.1 then some q.2 else none)
  | [], [], _ => trivial
  | [], _ :: _, h' => h'.elim
  | _ :: _, [], h' => h'.elim
  | (a, v) :: l, (b, w) :: k, h' => by
    obtain ⟨⟨h1, h2⟩, h3⟩ := h'
    have ih := All2.succ h3
    dsimp only at h1 h2
    subst h1
    cases a with
    | true => rw [if_pos rfl] at h2; exact ⟨h2, ih⟩
    | false => exact ih
theorem pmeet_nz {l : List Int} {t : Int} (h : ∀ v ∈ l, v ≠ 0) : ∀ v ∈ pmeet l t, v ≠ 0 := by
  unfold pmeet
  split
  · exact h
  · rename_i hc
    simp only [Bool.or_eq_true, beq_iff_eq, not_or] at hc
    intro v hv
    rcases List.mem_append.1 hv with hv | hv
    · exact h v hv
    · have : v = t := by simpa using hv
      rw [this]; exact hc.1
theorem pmeets_nz : ∀ {ts l : List Int}, (∀ v ∈ l, v ≠ 0) → ∀ v ∈ ts.foldl pmeet l, v ≠ 0
  | [], _, h => h
  | t :: ts, l, h => pmeets_nz (ts := ts) (l := pmeet l t) (pmeet_nz h)
theorem Iso.close (hI : Iso P g g') : ∀ (f i : Nat) {l k : List Int}, All2 P l k → (∀ v ∈ l, v ≠ 0) → All2 P (g.close f i l) (g'.close f i k) ∧ ∀ v ∈ g.close f i l, v ≠ 0
  | 0, _, _, _, h, hz => ⟨h, hz⟩
  | f + 1, i, l, k, h, hz => by
    unfold Gr.close
    have hl := h.len
    by_cases hc : i < l.length
    · have hc' : i < k.length := by omega
      rw [dif_pos hc, dif_pos hc']
      have hp := h.get i hc hc'
      have hs : All2 P (g.succ l[i]) (g'.succ k[i]) := (hI.fs hp (hz _ (List.getElem_mem hc))).succ
      exact Iso.close hI f (i + 1) (All2.pmeets hI.b hs h) (pmeets_nz hz)
    · rw [dif_neg hc, dif_neg (by omega)]
      exact ⟨h, hz⟩
theorem Iso.pic (hI : Iso P g g') {r r' : List Int} (hr : All2 P r r') (T : Nat) : g.pic T r = g'.pic T r' := by
  have h0 : All2 P ([] : List Int) ([] : List Int) := trivial
  obtain ⟨h1, h2⟩ : All2 P (g.met T r) (g'.met T r') ∧ ∀ v ∈ g.met T r, v ≠ 0 := hI.close T 0 (All2.pmeets hI.b hr h0) (pmeets_nz (ts := r) (l := []) (fun v hv => by cases hv))
  have e1 : (g.met T r).map g.sh = (g'.met T r').map g'.sh := All2.map_eq h1 fun t x ht hp => hI.sh hp (h2 t ht)
  have e2 : (g.met T r).map (g.prow (g.met T r)) = (g'.met T r').map (g'.prow (g'.met T r')) := All2.map_eq h1 fun t x ht hp => by
    unfold Gr.prow
    refine All2.map_eq (hI.fs hp (h2 t ht)) fun q q' _ hq => ?_
    obtain ⟨q1, q2⟩ := hq
    rw [← q1]
    cases hb : q.1 with
    | true => rw [hb, if_pos rfl] at q2; rw [if_pos rfl, if_pos rfl]; rw [All2.idx hI.b q2 h1]
    | false => rw [hb] at q2; simpa using q2
  have e3 : r.map (fun v => 1 + idx (g.met T r) v) = r'.map (fun v => 1 + idx (g'.met T r') v) := All2.map_eq hr fun t x _ hp => by rw [All2.idx hI.b hp h1]
  unfold Gr.pic
  rw [e1, e2, e3]
theorem Gr.close_fuel (g : Gr) {S : Int → Prop} {T : Nat} (hT : ∀ l, PM S l → l.length < T) (hS : ∀ x, S x → ∀ y ∈ g.succ x, y = 0 ∨ S y) (n : Nat) : ∀ (f i : Nat) (l : List Int), T ≤ f + i → PM S l → g.close (f + n) i l = g.close f i l
  | 0, i, l, hf, hl => by
    have := hT l hl
    rw [g.close_end (by omega), g.close_end (by omega)]
  | f + 1, i, l, hf, hl => by
    have e : f + 1 + n = (f + n) + 1 := by omega
    rw [e]
    unfold Gr.close
    by_cases hc : i < l.length
    · rw [dif_pos hc, dif_pos hc]
      exact Gr.close_fuel g hT hS n f (i + 1) _ (by omega) (PM.meets _ hl fun t ht => hS _ (hl.s _ (List.getElem_mem hc)) t ht)
    · rw [dif_neg hc, dif_neg hc]
end
namespace AM
/-- An address that is not moved, and what it stands for. -/
def Pa' (m : AM) (φ : Int → Option Nat) (t x : Int) : Prop := V φ t x ∧ m.moved t = 0
def sgr (sh : List (List Bool)) (A : Store) : Gr := ⟨fun x => (obj0 A x).1, fun x => (List.range (srow sh A x).length).map fun k : Nat => ((srow sh A x).getD k false, (obj0 A x).2.getD k 0)⟩
section
variable {m m' : AM} {ly ln lf r r' xs : List Int} {φ : Int → Option Nat} {A : Store}
theorem Good.V0 (g : Good m ly ln lf φ A) : φ 0 = none := by
  cases h : φ 0 with
  | none => rfl
  | some j =>
    have h0 := g.g.notY0
    rcases g.s.dom _ _ h with q | q | q
    · exact absurd q h0.1
    · exact absurd q h0.2.1
    · exact absurd q h0.2.2
theorem Good.bij (g : Good m ly ln lf φ A) : Bij (Pa' m φ) := by
  have h0 := g.V0
  refine ⟨fun {t x} h => ?_, fun {t x t' x'} h h' => ?_⟩
  · rcases h.1 with ⟨e1, e2⟩ | ⟨j, e1, e2⟩
    · exact ⟨fun _ => e2, fun _ => e1⟩
    · constructor
      · intro e; rw [e, h0] at e1; cases e1
      · intro e; omega
  · obtain ⟨v, h1⟩ := h
    obtain ⟨v', h1'⟩ := h'
    rcases v with ⟨e1, e2⟩ | ⟨j, e1, e2⟩ <;> rcases v' with ⟨e1', e2'⟩ | ⟨j', e1', e2'⟩
    · exact ⟨fun _ => e2.trans e2'.symm, fun _ => e1.trans e1'.symm⟩
    · constructor
      · intro e; rw [← e, e1, h0] at e1'; cases e1'
      · intro e; omega
    · constructor
      · intro e; rw [e, e1', h0] at e1; cases e1
      · intro e; omega
    · constructor
      · intro e; rw [e, e1'] at e1; injection e1 with e1; omega
      · intro e
        have : j = j' := by omega
        subst this
        exact g.s.inj _ _ _ e1 e1' h1 h1'
theorem Good.seenV (g : Good m ly ln lf φ A) {w x : Int} (h : V φ w x) : Pa' m φ (m.seen w) x := by
  by_cases hm : m.moved w = 0
  · have : m.seen w = w := by unfold AM.seen; rw [hm]; simp
    rw [this]; exact ⟨h, hm⟩
  · have hf := g.ym w hm
    obtain ⟨_, h2, h3⟩ := g.g.mv w hm
    have h4 := g.g.obd h2
    have hb := m.base_former; have hY := g.g.sz.Y0; have hH := g.g.sz.H0
    have h5 := g.g.fbd hf
    have : m.seen w = m.moved w := by
      unfold AM.seen AM.isF
      rw [if_pos]
      simp only [Bool.and_eq_true, decide_eq_true_eq]
      omega
    rw [this]
    refine ⟨?_, g.moved0 (.inr h2)⟩
    rcases h with ⟨e, _⟩ | ⟨j, e1, e2⟩
    · rw [e] at hf; exact absurd hf g.g.notY0.2.2
    · exact .inr ⟨j, g.s.mvd _ _ e1 hm, e2⟩
theorem Good.iso (g : Good m ly ln lf φ A) : Iso (Pa' m φ) m.gr (sgr m.sh A) := by
  have key : ∀ {t x : Int}, Pa' m φ t x → t ≠ 0 → ∃ j fs, φ t = some j ∧ obj0 A x = (m.head t - 1, fs) ∧ m.row t = srow m.sh A x ∧ fs.length = (m.row t).length ∧ ∀ k : Nat, k < fs.length → if (m.row t).getD k false then V φ (m.word (t + 1 + k)) (fs.getD k 0) else m.word (t + 1 + k) = fs.getD k 0 := fun {t x} h ht => by
    obtain ⟨hv, hm⟩ := h
    rcases hv with ⟨e, _⟩ | ⟨j, e1, e2⟩
    · exact absurd e ht
    · obtain ⟨fs, h1, h2, h3⟩ := g.s.shp _ _ e1
      have ho : obj0 A x = (m.head t - 1, fs) := by
        unfold obj0
        have e : (x - 1).toNat = j := by omega
        rw [e, List.getD_eq_getElem?_getD, h1]; rfl
      exact ⟨j, fs, e1, ho, by unfold AM.row srow; rw [ho], h2, h3 hm⟩
  refine ⟨g.bij, fun {t x} h ht => ?_, fun {t x} h ht => ?_⟩
  · obtain ⟨j, fs, _, ho, _⟩ := key h ht
    show m.head t - 1 = (obj0 A x).1
    rw [ho]
  · obtain ⟨j, fs, _, ho, hrow, hl, hw⟩ := key h ht
    show All2 _ ((List.range (m.row t).length).map _) ((List.range (srow m.sh A x).length).map _)
    rw [← hrow]
    refine All2.maps fun k hk => ?_
    have hk : k < fs.length := by rw [hl]; simpa using hk
    have := hw k hk
    refine ⟨rfl, ?_⟩
    dsimp only
    rw [ho]
    by_cases hb : (m.row t).getD k false = true
    · rw [if_pos hb] at this; rw [if_pos hb, if_pos hb]; exact g.seenV this
    · rw [if_neg hb] at this; rw [if_neg hb, if_neg hb]; exact this
theorem Rt.all2 (g : Good m ly ln lf φ A) (h : Rt ly ln φ r xs) : All2 (Pa' m φ) r xs := by
  have h0 : m.moved 0 = 0 := by
    by_cases hm : m.moved 0 = 0
    · exact hm
    · exact absurd (g.ym 0 hm) g.g.notY0.2.2
  refine All2.of_get h.len.symm fun i h1 h2 => ?_
  obtain ⟨a1, a2⟩ := h.at' i
  rw [getD_get _ h1] at a1 a2
  rw [getD_get _ h2] at a2
  refine ⟨a2, ?_⟩
  rcases a1 with e | e
  · rw [e]; exact h0
  · exact g.moved0 e
theorem Good.pic_eq (g : Good m ly ln lf φ A) (h : Rt ly ln φ r xs) (n : Nat) : m.pic r = (sgr m.sh A).pic (m.T + n) xs := by
  rw [← g.iso.pic (h.all2 g)]
  unfold AM.pic Gr.pic Gr.met
  rw [m.gr.close_fuel (S := Obj ly ln lf) (T := m.T) (fun l hl => g.g.pm_len hl) (fun x hx => g.g.succ_obj hx) n m.T 0 _ (by omega) (PM.meets _ PM.nil fun t ht => (h.mem t ht).imp id fun q => q.imp id .inl)]
/-- Machines that stand for the same objects have the same picture. -/
theorem Wst.pic_eq (h : Wst m r A xs) (h' : Wst m' r' A xs) (hs : m'.sh = m.sh) : m.pictured r = m'.pictured r' := by
  have e1 := h.rooted
  have e2 := h'.rooted
  obtain ⟨_, ly, ln, lf, φ, g, hr⟩ := h
  obtain ⟨_, ly', ln', lf', φ', g', hr'⟩ := h'
  unfold AM.pictured
  rw [if_neg (by rw [e1]; simp), if_neg (by rw [e2]; simp), g.pic_eq hr m'.T, g'.pic_eq hr' m.T, hs, Nat.add_comm]
end
end AM
end Go.Hm
