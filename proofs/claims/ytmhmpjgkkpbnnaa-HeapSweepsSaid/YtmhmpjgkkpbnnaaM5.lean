/-
  Acts where there is always room are never full; acts in any steps come to the same picture. Nothing of the program is named here. No condition.
  Steps, one behind the other, are one step of both numbers. Nothing of the program is named here. No condition.
  Objects without addresses: what is in order, what acts keep of it; their picture is that of the machine where there is always room. Nothing of the program is named here. No condition.
  Moving in the order of the roots: what is moved is what is met, in its order. Nothing of the program is named here. No condition.
  A whole moving, step by step: in the order in which the roots reach. Nothing of the program is named here. No condition.
  What a whole moving leaves: the words of what the roots reach; and two more lead to the same addresses. Nothing of the program is named here. No condition.
  What the functions of package heap on one space return and do: has, word, room, begins, take, lay, empty, spaceOf. Conditions: what the heap holds, and that sizes are small.
  What spaceOf and the functions of package heap that read a memory return: made, size, find, current, in, Busy, Room, seen. Conditions: what the heap holds, and that sizes are small.
  What the functions of package heap that read a memory return: made, size, in, Busy, Shape, field, seen; what Alloc does. Conditions: what the heap holds, and that sizes are small.
  The fields of an object that refer, one by one: refs, and the function that it returns, called with a loop's yield. Conditions: what the heap holds, what the loop's rounds keep.
  Alloc, Shape, field, in, seen, Busy: what these functions of package heap return and do. Conditions: what the heap holds, and that sizes are small.
-/
import Derived.Test.YtmhmpjgkkpbnnaaM4
import Derived.Test.YtmhmpjgkkpbnnaaM3
namespace Go.Hm.AM
/-- How many words an act takes. -/
def cost (sh : List (List Bool)) (x : Act) : Int := if x.k = 1 then (if decide (x.b < 0) || decide ((sh.length : Int) ≤ x.b) then 0 else 1 + ((sh.getD x.b.toNat []).length : Int)) else 0
section
variable {m : AM} {ly ln lf r xs : List Int} {φ : Int → Option Nat} {A : Store}
theorem cost_nonneg (sh : List (List Bool)) (x : Act) : 0 ≤ cost sh x := by
  unfold cost
  split
  · split <;> omega
  · omega
theorem fe_ne (m : AM) (t k : Int) : m.fe t k ≠ 14 := by
  unfold fe
  split
  · decide
  · split <;> decide
theorem kinded_ne (m : AM) (t k : Int) (w : Bool) : m.kinded t k w ≠ 14 := by
  unfold kinded
  split
  · split <;> decide
  · exact fe_ne m t k
theorem get_ne (m : AM) (t k : Int) : (m.get t k).2.1 ≠ 14 := by
  unfold AM.get
  split
  · exact fe_ne m t k
  · intro h; cases h
theorem set_ne (m : AM) (t k v : Int) : (m.set t k v).1 ≠ 14 := by
  unfold AM.set
  split
  · exact fe_ne m t k
  · split
    · intro h; cases h
    · intro h; cases h
theorem set_new (m : AM) (t k v : Int) : (m.set t k v).2.new = m.new := by
  unfold AM.set
  split
  · rfl
  · split
    · rfl
    · dsimp only; split <;> rfl
theorem Good.get_new (g : Good m ly ln lf φ A) (t k : Int) : (m.get t k).2.2.new = m.new := by
  by_cases he : (m.get t k).2.1 = 0
  · obtain ⟨_, _, _, _, _, _, _, _, _, _, _, _, h⟩ := g.get he; exact h
  · rw [(get_err he).1]
/-- An act where there is always room. -/
theorem Wst.act_en (h : Wst m r A xs) (x : Act) : (AM.act true m r x).2.1.new ≤ m.new + cost m.sh x ∧ (m.new + cost m.sh x ≤ m.Y + 1 → (AM.act true m r x).1 ≠ 14) := by
  obtain ⟨_, ly, ln, lf, φ, g, _⟩ := id h
  have hc := cost_nonneg m.sh x
  unfold AM.act
  by_cases c0 : (decide (x.k < 1) || decide (9 < x.k)) = true
  · simp only [if_pos c0]; exact ⟨by omega, fun _ => by decide⟩
  by_cases c1 : ((rootA x.k && oob x.a r) || (rootB x.k && oob x.b r)) = true
  · simp only [if_neg c0, if_pos c1]; exact ⟨by omega, fun _ => by decide⟩
  simp only [if_neg c0, if_neg c1]
  by_cases k1 : x.k = 1
  · simp only [if_pos k1]
    unfold AM.fresh
    by_cases c : (decide (x.b < 0) || decide ((m.sh.length : Int) ≤ x.b)) = true
    · simp only [if_pos c]; exact ⟨by omega, fun _ => by decide⟩
    simp only [if_neg c]
    have ht : tight true m x = false := by unfold tight; simp
    rw [ht]
    simp only [Bool.false_eq_true, if_false]
    have hcost : cost m.sh x = 1 + ((m.sh.getD x.b.toNat []).length : Int) := by unfold cost; rw [if_pos k1, if_neg c]
    unfold AM.newAt AM.alloc
    simp only [if_neg c]
    rw [hcost]
    by_cases hq : m.Y < m.new + (1 + ((m.sh.getD x.b.toNat []).length : Int)) - 1
    · simp only [if_pos (decide_eq_true hq)]
      exact ⟨by omega, fun hb => by omega⟩
    · simp only [if_neg (fun e => hq (of_decide_eq_true e))]
      exact ⟨Int.le_refl _, fun _ => by decide⟩
  simp only [if_neg k1]
  by_cases k2 : x.k = 2
  · simp only [if_pos k2]
    unfold AM.getA
    split
    · exact ⟨by dsimp only; omega, fun _ => kinded_ne _ _ _ _⟩
    · exact ⟨by dsimp only; rw [g.get_new]; omega, fun _ => get_ne _ _ _⟩
  simp only [if_neg k2]
  by_cases k3 : x.k = 3
  · simp only [if_pos k3]
    unfold AM.setA
    split
    · exact ⟨by dsimp only; omega, fun _ => kinded_ne _ _ _ _⟩
    · exact ⟨by dsimp only; rw [set_new]; omega, fun _ => set_ne _ _ _ _⟩
  simp only [if_neg k3]
  by_cases k4 : x.k = 4
  · simp only [if_pos k4]
    unfold AM.putA
    split
    · exact ⟨by dsimp only; omega, fun _ => kinded_ne _ _ _ _⟩
    · exact ⟨by dsimp only; rw [set_new]; omega, fun _ => set_ne _ _ _ _⟩
  simp only [if_neg k4]
  by_cases k5 : x.k = 5
  · simp only [if_pos k5]; exact ⟨by omega, fun _ => by decide⟩
  simp only [if_neg k5]
  by_cases k6 : x.k = 6
  · simp only [if_pos k6]; exact ⟨by omega, fun _ => by decide⟩
  simp only [if_neg k6]
  unfold AM.clr AM.flp AM.lok
  simp only [if_true]
  split
  · exact ⟨by dsimp only; omega, fun _ => by dsimp only; decide⟩
  · split
    · exact ⟨by dsimp only; omega, fun _ => by dsimp only; decide⟩
    · exact ⟨by dsimp only; omega, fun _ => by dsimp only; decide⟩
theorem Wst.acts_en : ∀ (l : List Act) {m : AM} {r xs : List Int} {A : Store}, Wst m r A xs → m.new + (l.map (cost m.sh)).sum ≤ m.Y + 1 → ∀ e ∈ (AM.acts true l m r).1, e ≠ 14
  | [], _, _, _, _, _, _, e, he => by cases he
  | x :: t, m, r, xs, A, h, hb, e, he => by
    obtain ⟨_, ly, ln, lf, φ, g, _⟩ := id h
    obtain ⟨h1, h2⟩ := h.act_en x
    have hs : ∀ t : List Act, 0 ≤ (t.map (cost m.sh)).sum := fun t => by
      induction t with
      | nil => simp
      | cons a t ih => have := cost_nonneg m.sh a; simp only [List.map_cons, List.sum_cons]; omega
    have := hs t
    simp only [List.map_cons, List.sum_cons] at hb
    have h3 := h2 (by omega)
    rcases List.mem_cons.1 he with rfl | he
    · exact h3
    · have hk := g.kact true r x
      obtain ⟨h4, _⟩ := h.act true x h3
      exact Wst.acts_en t h4 (by rw [hk.sh, hk.Y]; omega) e he
/-- A new machine, of any sizes. -/
theorem Good.newS {sh : List (List Bool)} {half young : Int} (h1 : 1 ≤ half) (h2 : half ≤ 100000) (h3 : 1 ≤ young) (h4 : young ≤ 400000) (h5 : sh.length ≤ 100) (h6 : ∀ l ∈ sh, l.length ≤ 100) : Good (new' sh half young) [] [] [] (fun _ => none) [] := by
  have hb : (new' sh half young).base = young + 1 := rfl
  have hf : (new' sh half young).former = young + half + 1 := rfl
  refine ⟨⟨⟨h3, by show young ≤ 400000; omega, h1, by show half ≤ 100000; omega, by show sh.length ≤ 100; omega, fun l hl => by have := h6 l hl; omega⟩, ⟨rfl, fun t _ _ => by simp [new'], fun t ht => by simp at ht⟩, by show (1 : Int) ≤ young + 1; omega, ⟨rfl, fun t _ _ => by simp [new'], fun t ht => by simp at ht⟩, ⟨(new' sh half young).former, by rw [hf]; show _ ≤ young + half + 1 + half; omega, rfl, fun t _ _ => by simp [new'], fun t ht => by simp at ht⟩, fun t => Int.le_refl _, fun _ => rfl, rfl, ?_, (fun hq => by cases hq), fun t ht => absurd rfl ht, fun t t' _ ht => absurd rfl ht, fun t ht => by simp at ht, fun t ht => by simp at ht, fun t ht => by simp at ht, List.nodup_nil, fun t ht => by simp at ht, fun t ht => by simp at ht, fun t _ _ => rfl⟩, Sim.none .., fun t ht => absurd rfl ht, fun k hk => by simp [new'] at hk, List.nodup_nil⟩
  rw [hb]; show young + 1 + 0 + 0 ≤ young + 1 + half; omega
theorem Wst.new {sh : List (List Bool)} {half young : Int} (h1 : 1 ≤ half) (h2 : half ≤ 100000) (h3 : 1 ≤ young) (h4 : young ≤ 400000) (h5 : sh.length ≤ 100) (h6 : ∀ l ∈ sh, l.length ≤ 100) {n : Nat} (hn : n ≤ 200) : Wst (new' sh half young) (List.replicate n 0) [] (List.replicate n 0) := by
  refine ⟨by simpa using hn, _, _, _, _, Good.newS h1 h2 h3 h4 h5 h6, rfl, fun i => ?_⟩
  have : (List.replicate n (0 : Int)).getD i 0 = 0 := by
    rw [List.getD_eq_getElem?_getD, List.getElem?_replicate]; split <;> rfl
  rw [this]; exact ⟨.inl rfl, V.zero _⟩
/-- Acts on two new machines that come to the same objects, where nothing is full: the pictures are the same. -/
theorem acts_same {sh : List (List Bool)} {half young half' young' : Int} (h1 : 1 ≤ half) (h2 : half ≤ 100000) (h3 : 1 ≤ young) (h4 : young ≤ 400000) (h1' : 1 ≤ half') (h2' : half' ≤ 100000) (h3' : 1 ≤ young') (h4' : young' ≤ 400000) (h5 : sh.length ≤ 100) (h6 : ∀ l ∈ sh, l.length ≤ 100) {n : Nat} (hn : n ≤ 200)
    {en en' : Bool} {l l' : List Act} (hl : ∀ A xs, sacts sh l A xs = sacts sh l' A xs) (he : ∀ e ∈ (acts en l (new' sh half young) (List.replicate n 0)).1, e ≠ 14) (he' : ∀ e ∈ (acts en' l' (new' sh half' young') (List.replicate n 0)).1, e ≠ 14) :
    (acts en l (new' sh half young) (List.replicate n 0)).2.1.pictured (acts en l (new' sh half young) (List.replicate n 0)).2.2 = (acts en' l' (new' sh half' young') (List.replicate n 0)).2.1.pictured (acts en' l' (new' sh half' young') (List.replicate n 0)).2.2 := by
  obtain ⟨g1, s1⟩ := (Wst.new h1 h2 h3 h4 h5 h6 hn).acts en l he
  obtain ⟨g2, s2⟩ := (Wst.new h1' h2' h3' h4' h5 h6 hn).acts en' l' he'
  have e : sacts (new' sh half young).sh l [] (List.replicate n 0) = sacts (new' sh half' young').sh l' [] (List.replicate n 0) := hl _ _
  rw [e] at g1
  exact g1.pic_eq g2 (s2.trans s1.symm)
/-- Where there is always room nothing is full. -/
theorem new_en {sh : List (List Bool)} {half young : Int} (h1 : 1 ≤ half) (h2 : half ≤ 100000) (h3 : 1 ≤ young) (h4 : young ≤ 400000) (h5 : sh.length ≤ 100) (h6 : ∀ l ∈ sh, l.length ≤ 100) {n : Nat} (hn : n ≤ 200) {l : List Act} (hc : (l.map (cost sh)).sum ≤ young) : ∀ e ∈ (acts true l (new' sh half young) (List.replicate n 0)).1, e ≠ 14 :=
  (Wst.new h1 h2 h3 h4 h5 h6 hn).acts_en l (by show 1 + (l.map (cost sh)).sum ≤ young + 1; omega)
end
end Go.Hm.AM
namespace Go.Hm.AM
theorem steps_end {m : AM} (h : ¬ m.scan < m.old) : ∀ k, AM.steps k m = m
  | 0 => rfl
  | k + 1 => by show (if _ then _ else _) = _; rw [if_neg h]
theorem steps_add (b : Nat) : ∀ (a : Nat) (m : AM), AM.steps (a + b) m = AM.steps b (AM.steps a m)
  | 0, m => by rw [Nat.zero_add]; rfl
  | a + 1, m => by
    have e : a + 1 + b = (a + b) + 1 := by omega
    rw [e]
    show (if m.scan < m.old then AM.steps (a + b) m.step1 else m) = AM.steps b (if m.scan < m.old then AM.steps a m.step1 else m)
    by_cases h : m.scan < m.old
    · rw [if_pos h, if_pos h, steps_add b a]
    · rw [if_neg h, if_neg h, steps_end h]
section
variable {m : AM} {ly ln lf : List Int} {φ : Int → Option Nat} {A : Store}
theorem step_idle {m : AM} {w : Int} (hw : 0 ≤ w) (hb : m.busy = false) : m.step w = (0, 0, m) := by
  unfold AM.step; rw [if_neg (by simpa using hw), if_pos (by rw [hb]; rfl)]
theorem step_busy {m : AM} {w : Int} (hw : 0 ≤ w) (hb : m.busy = true) : m.step w = if (AM.steps w.toNat m).scan < (AM.steps w.toNat m).old then ((AM.steps w.toNat m).old - (AM.steps w.toNat m).scan, 0, AM.steps w.toNat m) else (0, 0, (AM.steps w.toNat m).fin) := by
  unfold AM.step; rw [if_neg (by simpa using hw), if_neg (by rw [hb]; simp)]
theorem Good.step_add (h : Good m ly ln lf φ A) {a b : Int} (ha : 0 ≤ a) (hb : 0 ≤ b) : (m.step a).2.2.step b = m.step (a + b) := by
  have e : (a + b).toNat = a.toNat + b.toNat := by omega
  cases hbu : m.busy with
  | false => rw [step_idle ha hbu, step_idle (w := a + b) (by omega) hbu]; exact step_idle hb hbu
  | true =>
    obtain ⟨_, _, _, _, _, _, _, _, _, hbs, _, _, hle, _⟩ := h.steps a.toNat hbu
    rw [step_busy ha hbu, step_busy (w := a + b) (by omega) hbu, e, steps_add]
    by_cases hs : (AM.steps a.toNat m).scan < (AM.steps a.toNat m).old
    · rw [if_pos hs]
      exact step_busy hb hbs
    · rw [if_neg hs, steps_end hs, if_neg hs]
      exact step_idle hb rfl
end
end Go.Hm.AM
namespace Go.Hm.AM
/-- Objects and roots are in order. -/
structure SOk (sh : List (List Bool)) (A : Store) (xs : List Int) : Prop where
  s : ∀ q ∈ A, 0 ≤ q.1 ∧ q.1 < sh.length ∧ q.2.length = (sh.getD q.1.toNat []).length
  f : ∀ q ∈ A, ∀ k : Nat, k < q.2.length → (sh.getD q.1.toNat []).getD k false = true → 0 ≤ q.2.getD k 0 ∧ q.2.getD k 0 ≤ A.length
  r : ∀ x ∈ xs, 0 ≤ x ∧ x ≤ A.length
section
variable {sh : List (List Bool)} {A : Store} {xs : List Int}
theorem obj0_at {x : Int} (h1 : 1 ≤ x) (h2 : x ≤ A.length) : A[(x - 1).toNat]? = some (obj0 A x) ∧ obj0 A x ∈ A := by
  have hlt : (x - 1).toNat < A.length := by omega
  have : obj0 A x = A[(x - 1).toNat] := by unfold obj0; rw [List.getD_eq_getElem?_getD, List.getElem?_eq_getElem hlt]; rfl
  rw [this, List.getElem?_eq_getElem hlt]
  exact ⟨rfl, List.getElem_mem _⟩
theorem SOk.rdx (h : SOk sh A xs) (i : Int) : 0 ≤ rdx xs i ∧ rdx xs i ≤ A.length := by
  unfold AM.rdx
  rw [List.getD_eq_getElem?_getD]
  by_cases hi : i.toNat < xs.length
  · rw [List.getElem?_eq_getElem hi]; exact h.r _ (List.getElem_mem _)
  · rw [List.getElem?_eq_none (by omega)]; exact ⟨Int.le_refl _, by show (0 : Int) ≤ _; omega⟩
theorem mem_modify {α : Type} {f : α → α} : ∀ {l : List α} {i : Nat} {q : α}, q ∈ l.modify i f → q ∈ l ∨ ∃ p, l[i]? = some p ∧ q = f p
  | [], _, _, h => by simp at h
  | a :: t, 0, q, h => by
    simp [List.modify] at h
    rcases h with h | h
    · exact .inr ⟨a, rfl, h⟩
    · exact .inl (List.mem_cons_of_mem _ h)
  | a :: t, i + 1, q, h => by
    rw [List.modify_succ_cons] at h
    rcases List.mem_cons.1 h with h | h
    · exact .inl (by rw [h]; exact List.mem_cons_self ..)
    · exact (mem_modify h).imp (List.mem_cons_of_mem _) id
theorem mem_set' {l : List Int} {i : Nat} {v x : Int} (h : x ∈ l.set i v) : x ∈ l ∨ x = v := List.mem_or_eq_of_mem_set h
theorem SOk.kind (h : SOk sh A xs) {x k : Int} {w : Bool} (hx : 0 ≤ x ∧ x ≤ A.length) (hk : skind sh A x k w = 0) :
    1 ≤ x ∧ A[(x - 1).toNat]? = some (obj0 A x) ∧ obj0 A x ∈ A ∧ 0 ≤ k ∧ k.toNat < (obj0 A x).2.length ∧ (srow sh A x).getD k.toNat false = w := by
  obtain ⟨h1, h2⟩ := skind0 hk
  have h0 := sfe0 h1
  obtain ⟨o1, o2⟩ := obj0_at (A := A) (x := x) (by omega) hx.2
  have hl := (h.s _ o2).2.2
  unfold sfe at h1
  rw [if_neg h0] at h1
  split at h1
  · cases h1
  · rename_i hq
    simp only [Bool.or_eq_true, decide_eq_true_eq, not_or] at hq
    have : (srow sh A x).length = (obj0 A x).2.length := hl.symm
    exact ⟨by omega, o1, o2, by omega, by omega, h2⟩
theorem SOk.setf (h : SOk sh A xs) {i : Nat} {k : Nat} {v : Int} (hv : ∀ q, A[i]? = some q → (sh.getD q.1.toNat []).getD k false = true → 0 ≤ v ∧ v ≤ A.length) : SOk sh (setf A i k v) xs := by
  have hl : (AM.setf A i k v).length = A.length := by unfold AM.setf; rw [List.length_modify]
  refine ⟨fun q hq => ?_, fun q hq j hj hf => ?_, fun x hx => by rw [hl]; exact h.r x hx⟩
  · rcases mem_modify hq with hq | ⟨p, hp, rfl⟩
    · exact h.s q hq
    · have := h.s p (List.mem_of_getElem? hp)
      dsimp only
      rw [List.length_set]; exact this
  · rw [hl]
    rcases mem_modify hq with hq | ⟨p, hp, rfl⟩
    · exact h.f q hq j hj hf
    · dsimp only at hj hf ⊢
      rw [List.length_set] at hj
      rw [getD_set']
      by_cases hc : k = j ∧ k < p.2.length
      · rw [if_pos hc]
        exact hv p hp (by rw [hc.1]; exact hf)
      · rw [if_neg hc]; exact h.f p (List.mem_of_getElem? hp) j hj hf
/-- Acts keep the order. -/
theorem SOk.act (h : SOk sh A xs) (x : Act) : SOk sh (sact sh A xs x).1 (sact sh A xs x).2 ∧ (sact sh A xs x).1.length ≤ A.length + 1 ∧ (sact sh A xs x).2.length = xs.length := by
  have hid : SOk sh A xs ∧ A.length ≤ A.length + 1 ∧ xs.length = xs.length := ⟨h, by omega, rfl⟩
  have hset : ∀ (v : Int), 0 ≤ v ∧ v ≤ A.length → SOk sh A (xs.set x.a.toNat v) ∧ A.length ≤ A.length + 1 ∧ (xs.set x.a.toNat v).length = xs.length := fun v hv =>
    ⟨⟨h.s, h.f, fun y hy => (mem_set' hy).elim (h.r y) (fun e => e ▸ hv)⟩, by omega, List.length_set ..⟩
  unfold sact
  split; exact hid
  split; exact hid
  split
  · unfold sfresh
    split
    · exact hid
    · rename_i hc
      simp only [Bool.or_eq_true, decide_eq_true_eq, not_or] at hc
      have hl : (A ++ [(x.b, List.replicate (sh.getD x.b.toNat []).length (0 : Int))]).length = A.length + 1 := by simp
      refine ⟨⟨fun q hq => ?_, fun q hq k hk hf => ?_, fun y hy => ?_⟩, by rw [hl]; exact Nat.le_refl _, List.length_set ..⟩
      · rcases List.mem_append.1 hq with hq | hq
        · exact h.s q hq
        · have : q = (x.b, List.replicate (sh.getD x.b.toNat []).length 0) := by simpa using hq
          subst this
          exact ⟨by dsimp only; omega, by dsimp only; omega, by simp⟩
      · dsimp only
        rw [hl]
        rcases List.mem_append.1 hq with hq | hq
        · have := h.f q hq k hk hf; omega
        · have : q = (x.b, List.replicate (sh.getD x.b.toNat []).length 0) := by simpa using hq
          subst this
          have h0 : (List.replicate (sh.getD x.b.toNat []).length (0 : Int)).getD k 0 = 0 := by
            rw [List.getD_eq_getElem?_getD, List.getElem?_replicate]; split <;> rfl
          dsimp only
          rw [h0]; omega
      · dsimp only
        rw [hl]
        rcases mem_set' hy with hy | hy
        · have := h.r y hy; omega
        · omega
  split
  · unfold sgetA
    split
    · exact hid
    · rename_i hk
      obtain ⟨_, _, o2, k0, k1, k2⟩ := h.kind (h.rdx x.b) (Decidable.not_not.1 hk)
      exact hset _ (h.f _ o2 _ k1 k2)
  split
  · unfold ssetA
    split
    · exact hid
    · refine ⟨h.setf fun q _ _ => h.rdx x.b, ?_, rfl⟩
      show (AM.setf A _ _ _).length ≤ _
      unfold AM.setf; rw [List.length_modify]; omega
  split
  · unfold sputA
    split
    · exact hid
    · rename_i hk
      obtain ⟨_, o1, o2, k0, k1, k2⟩ := h.kind (h.rdx x.a) (Decidable.not_not.1 hk)
      refine ⟨h.setf fun q hq hf => ?_, ?_, rfl⟩
      · rw [o1] at hq
        cases hq
        unfold srow at k2
        rw [k2] at hf; cases hf
      · show (AM.setf A _ _ _).length ≤ _
        unfold AM.setf; rw [List.length_modify]; omega
  split; exact hset 0 (by omega)
  split; exact hset _ (h.rdx x.b)
  exact hid
theorem SOk.acts : ∀ (l : List Act) {A : Store} {xs : List Int}, SOk sh A xs → SOk sh (sacts sh l A xs).1 (sacts sh l A xs).2 ∧ (sacts sh l A xs).1.length ≤ A.length + l.length ∧ (sacts sh l A xs).2.length = xs.length
  | [], _, _, h => ⟨h, by simp [sacts], rfl⟩
  | x :: t, A, xs, h => by
    obtain ⟨h1, h2, h3⟩ := h.act x
    obtain ⟨g1, g2, g3⟩ := SOk.acts t h1
    exact ⟨g1, by show (sacts sh t _ _).1.length ≤ _; rw [List.length_cons]; omega, g3.trans h3⟩
theorem sacts_snoc : ∀ (l : List Act) (x : Act) (A : Store) (xs : List Int), sacts sh (l ++ [x]) A xs = sact sh (sacts sh l A xs).1 (sacts sh l A xs).2 x
  | [], _, _, _ => rfl
  | y :: t, x, A, xs => sacts_snoc t x (sact sh A xs y).1 (sact sh A xs y).2
theorem SOk.new (n : Nat) : SOk sh [] (List.replicate n 0) := ⟨fun q hq => (by cases hq), fun q hq => (by cases hq), fun x hx => by
  have : x = 0 := List.eq_of_mem_replicate hx
  subst this; exact ⟨Int.le_refl _, by show (0 : Int) ≤ _; simp⟩⟩
/-- The numbers of objects. -/
def Sn (A : Store) (x : Int) : Prop := 1 ≤ x ∧ x ≤ A.length
theorem sn_len {l : List Int} (h : PM (Sn A) l) : l.length < A.length + 1 := by
  have := nodup_bd A.length 1 l h.nd fun x hx => by have := h.s x hx; unfold Sn at this; omega
  omega
theorem sgr_len (sh : List (List Bool)) (A : Store) (x : Int) : ((sgr sh A).fs x).length = (srow sh A x).length := by simp [sgr]
theorem sgr_get {x : Int} {k : Nat} (h : k < ((sgr sh A).fs x).length) : ((sgr sh A).fs x)[k] = ((srow sh A x).getD k false, (obj0 A x).2.getD k 0) := by simp [sgr]
theorem SOk.succ (h : SOk sh A xs) {x : Int} (hx : Sn A x) : ∀ y ∈ (sgr sh A).succ x, y = 0 ∨ Sn A y := fun y hy => by
  obtain ⟨_, o2⟩ := obj0_at hx.1 hx.2
  have hl := (h.s _ o2).2.2
  obtain ⟨q, h1, h2⟩ := List.mem_filterMap.1 hy
  obtain ⟨k, hk, rfl⟩ := List.getElem_of_mem h1
  rw [sgr_get hk] at h2
  have hk' : k < (obj0 A x).2.length := by rw [sgr_len] at hk; unfold srow at hk; omega
  cases hb : (srow sh A x).getD k false with
  | true =>
    rw [hb] at h2
    simp only [if_true, Option.some.injEq] at h2
    have := h.f _ o2 k hk' hb
    rw [← h2]
    unfold Sn
    omega
  | false => rw [hb] at h2; simp at h2
theorem SOk.roots (h : SOk sh A xs) : ∀ x ∈ xs, x = 0 ∨ Sn A x := fun x hx => by have := h.r x hx; unfold Sn; omega
theorem SOk.pic (h : SOk sh A xs) (n : Nat) : (sgr sh A).pic (A.length + 1 + n) xs = (sgr sh A).pic (A.length + 1) xs := by
  unfold Gr.pic Gr.met
  rw [(sgr sh A).close_fuel (S := Sn A) (T := A.length + 1) (fun l hl => sn_len hl) (fun x hx => h.succ hx) n (A.length + 1) 0 _ (by omega) (PM.meets _ PM.nil h.roots)]
/-- Where there is always room, the machine's picture is that of the objects without addresses. -/
theorem model_pic {half young : Int} (h1 : 1 ≤ half) (h2 : half ≤ 100000) (h3 : 1 ≤ young) (h4 : young ≤ 400000) (h5 : sh.length ≤ 100) (h6 : ∀ l ∈ sh, l.length ≤ 100) {n : Nat} (hn : n ≤ 200) {l : List Act} (hc : (l.map (cost sh)).sum ≤ young) :
    ((AM.acts true l (new' sh half young) (List.replicate n 0)).2.1.pictured (AM.acts true l (new' sh half young) (List.replicate n 0)).2.2).1 = (sgr sh (sacts sh l [] (List.replicate n 0)).1).pic ((sacts sh l [] (List.replicate n 0)).1.length + 1) (sacts sh l [] (List.replicate n 0)).2 := by
  obtain ⟨g1, s1⟩ := (Wst.new h1 h2 h3 h4 h5 h6 hn).acts true l (new_en h1 h2 h3 h4 h5 h6 hn hc)
  have hro := g1.rooted
  have s1 : (AM.acts true l (new' sh half young) (List.replicate n 0)).2.1.sh = sh := s1
  have hs : (new' sh half young).sh = sh := rfl
  rw [hs] at g1
  obtain ⟨_, ly, ln, lf, φ, g, hr⟩ := g1
  obtain ⟨o1, _, _⟩ := (SOk.new (sh := sh) n).acts l
  unfold AM.pictured
  rw [if_neg (by rw [hro]; simp)]
  rw [g.pic_eq hr ((sacts sh l [] (List.replicate n 0)).1.length + 1), s1, Nat.add_comm, o1.pic]
/-- Whether the numbers of an act are those of roots. -/
def rootsP (x : Act) (n : Int) : Bool :=
  if (x.k == 1 || x.k == 4) || x.k == 5 then decide (0 ≤ x.a) && decide (x.a ≤ n - 1)
  else if (x.k == 2 || x.k == 3) || x.k == 6 then (decide (0 ≤ x.a) && decide (x.a ≤ n - 1)) && (decide (0 ≤ x.b) && decide (x.b ≤ n - 1))
  else decide (7 ≤ x.k) && decide (x.k ≤ 9)
def sdo (sh : List (List Bool)) (A : Store) (xs : List Int) (x : Act) : Store × List Int :=
  if x.k = 1 then sfresh sh A xs x else
  if x.k = 2 then sgetA sh A xs x else
  if x.k = 3 then ssetA sh A xs x else
  if x.k = 4 then sputA sh A xs x else
  if x.k = 5 then (A, xs.set x.a.toNat 0) else
  if x.k = 6 then (A, xs.set x.a.toNat (AM.rdx xs x.b)) else (A, xs)
theorem oob_not (i : Int) (xs : List Int) : oob i xs = !(decide (0 ≤ i) && decide (i ≤ (xs.length : Int) - 1)) := by
  unfold oob
  rw [Bool.eq_iff_iff]
  simp only [Bool.or_eq_true, decide_eq_true_eq, Bool.not_eq_true', Bool.and_eq_false_iff, decide_eq_false_iff_not]
  omega
theorem sact_rootsP (x : Act) : sact sh A xs x = if rootsP x xs.length then sdo sh A xs x else (A, xs) := by
  unfold sact rootsP rootA rootB
  rw [oob_not, oob_not]
  generalize (decide (0 ≤ x.a) && decide (x.a ≤ (xs.length : Int) - 1)) = a
  generalize (decide (0 ≤ x.b) && decide (x.b ≤ (xs.length : Int) - 1)) = b
  unfold sdo
  by_cases k1 : x.k = 1
  · rw [k1]; cases a <;> simp
  by_cases k2 : x.k = 2
  · rw [k2]; cases a <;> cases b <;> simp
  by_cases k3 : x.k = 3
  · rw [k3]; cases a <;> cases b <;> simp
  by_cases k4 : x.k = 4
  · rw [k4]; cases a <;> simp
  by_cases k5 : x.k = 5
  · rw [k5]; cases a <;> simp
  by_cases k6 : x.k = 6
  · rw [k6]; cases a <;> cases b <;> simp
  simp only [if_neg k1, if_neg k2, if_neg k3, if_neg k4, if_neg k5, if_neg k6, ite_self]
end
end Go.Hm.AM
namespace Go.Hm
section
variable {α β : Type} {P P' : α → β → Prop}
theorem All2.mono : ∀ {l : List α} {k : List β}, All2 P l k → (∀ t x, t ∈ l → P t x → P' t x) → All2 P' l k
  | [], [], _, _ => trivial
  | [], _ :: _, h, _ => h.elim
  | _ :: _, [], h, _ => h.elim
  | _ :: _, _ :: _, h, hp => ⟨hp _ _ (List.mem_cons_self ..) h.1, All2.mono h.2 fun t x ht => hp t x (List.mem_cons_of_mem _ ht)⟩
theorem All2.mem1 : ∀ {l : List α} {k : List β}, All2 P l k → ∀ t ∈ l, ∃ x ∈ k, P t x
  | [], [], _, _, h => by cases h
  | [], _ :: _, h, _, _ => h.elim
  | _ :: _, [], h, _, _ => h.elim
  | a :: l, b :: k, h, t, ht => by
    rcases List.mem_cons.1 ht with rfl | ht
    · exact ⟨b, List.mem_cons_self .., h.1⟩
    · obtain ⟨x, hx, hp⟩ := All2.mem1 h.2 t ht
      exact ⟨x, List.mem_cons_of_mem _ hx, hp⟩
theorem All2.mem2 : ∀ {l : List α} {k : List β}, All2 P l k → ∀ x ∈ k, ∃ t ∈ l, P t x
  | [], [], _, _, h => by cases h
  | [], _ :: _, h, _, _ => h.elim
  | _ :: _, [], h, _, _ => h.elim
  | a :: l, b :: k, h, x, hx => by
    rcases List.mem_cons.1 hx with rfl | hx
    · exact ⟨a, List.mem_cons_self .., h.1⟩
    · obtain ⟨t, ht, hp⟩ := All2.mem2 h.2 x hx
      exact ⟨t, List.mem_cons_of_mem _ ht, hp⟩
theorem All2.nodup : ∀ {l : List α} {k : List β}, All2 P l k → l.Nodup → (∀ t t' x, t ∈ l → t' ∈ l → P t x → P t' x → t = t') → k.Nodup
  | [], [], _, _, _ => List.nodup_nil
  | [], _ :: _, h, _, _ => h.elim
  | _ :: _, [], h, _, _ => h.elim
  | a :: l, b :: k, h, hn, hi => by
    rw [List.nodup_cons] at hn
    refine List.nodup_cons.2 ⟨fun hb => ?_, All2.nodup h.2 hn.2 fun t t' x ht ht' => hi t t' x (List.mem_cons_of_mem _ ht) (List.mem_cons_of_mem _ ht')⟩
    obtain ⟨t, ht, hp⟩ := All2.mem2 h.2 b hb
    exact hn.1 (hi a t b (List.mem_cons_self ..) (List.mem_cons_of_mem _ ht) h.1 hp ▸ ht)
end
namespace AM
theorem Tl.empty {sz : Int → Int} {lo : Int} : ∀ {k : List Int}, Tl sz lo lo k → k = []
  | [], _ => rfl
  | a :: t, h => by obtain ⟨h1, h2, h3⟩ := h; have := h3.le; omega
theorem Tl.one {sz : Int → Int} {lo hi : Int} (hl : lo < hi) (hs : sz lo = hi - lo) : ∀ {k : List Int}, Tl sz lo hi k → k = [lo]
  | [], h => by simp only [Tl] at h; omega
  | a :: t, h => by
    obtain ⟨h1, h2, h3⟩ := h
    subst h1
    rw [hs, show a + (hi - a) = hi by omega] at h3
    rw [h3.empty]
theorem Tl.pre {sz sz' : Int → Int} {hi hi' : Int} : ∀ {l l' : List Int} {lo : Int}, Tl sz lo hi l → Tl sz' lo hi' l' → (∀ t ∈ l, sz' t = sz t) → hi ≤ hi' → ∃ k, l' = l ++ k ∧ Tl sz' hi hi' k
  | [], l', lo, h, h', _, _ => ⟨l', rfl, by simp only [Tl] at h; subst h; exact h'⟩
  | a :: l, [], lo, h, h', _, hle => by
    simp only [Tl] at h'
    obtain ⟨h1, h2, h3⟩ := h
    have := h3.le
    omega
  | a :: l, b :: l', lo, h, h', hs, hle => by
    obtain ⟨h1, h2, h3⟩ := h
    obtain ⟨g1, g2, g3⟩ := h'
    subst h1
    subst g1
    rw [hs b (List.mem_cons_self ..)] at g3
    obtain ⟨k, hk, tk⟩ := Tl.pre h3 g3 (fun t ht => hs t (List.mem_cons_of_mem _ ht)) hle
    exact ⟨k, by rw [hk]; rfl, tk⟩
theorem Tl.after {sz : Int → Int} {hi : Int} : ∀ {l : List Int} {lo : Int}, Tl sz lo hi l → ∀ i (h : i < l.length), (∃ h' : i + 1 < l.length, l[i + 1] = l[i] + sz l[i]) ∨ (i + 1 = l.length ∧ hi = l[i] + sz l[i])
  | [], _, _, _, h => by simp at h
  | [a], lo, h, 0, _ => by
    obtain ⟨h1, h2, h3⟩ := h
    right
    simp only [Tl] at h3
    exact ⟨rfl, by show hi = a + sz a; omega⟩
  | a :: b :: t, lo, h, 0, _ => by
    obtain ⟨h1, h2, h3⟩ := h
    left
    exact ⟨by simp, by show b = a + sz a; have := h3.1; omega⟩
  | a :: t, lo, h, i + 1, hi' => by
    obtain ⟨h1, h2, h3⟩ := h
    have hlt : i < t.length := by simpa using hi'
    rcases Tl.after h3 i hlt with ⟨g1, g2⟩ | ⟨g1, g2⟩
    · exact .inl ⟨by simp; omega, g2⟩
    · exact .inr ⟨by simp; omega, g2⟩
theorem Tl.eq {sz sz' : Int → Int} {hi hi' : Int} : ∀ {l l' : List Int} {lo : Int}, Tl sz lo hi l → Tl sz' lo hi' l' → l.map sz = l'.map sz' → l = l'
  | [], [], _, _, _, _ => rfl
  | [], _ :: _, _, _, _, h => by simp at h
  | _ :: _, [], _, _, _, h => by simp at h
  | a :: l, b :: l', lo, h, h', he => by
    obtain ⟨h1, h2, h3⟩ := h
    obtain ⟨g1, g2, g3⟩ := h'
    simp only [List.map_cons, List.cons.injEq] at he
    subst h1
    subst g1
    rw [← he.1] at g3
    rw [Tl.eq h3 g3 he.2]
/-- What objects stand for, in their order. -/
def Im (ln : List Int) (φ : Int → Option Nat) (L : List Int) : Prop := All2 (fun t x => ∃ j : Nat, φ t = some j ∧ x = (j : Int) + 1) ln L
section
variable {m m' : AM} {ly ln ln' lf N N' rl rl' rs rs' L : List Int} {sp sp' : Int} {φ φ' : Int → Option Nat} {A : Store} {v x : Int}
theorem Im.le (h : Im ln φ L) (hl : Le φ φ') : Im ln φ' L := h.mono fun _ _ _ ⟨j, h1, h2⟩ => ⟨j, hl _ _ h1, h2⟩
theorem Im.fwd (hg : Gd m [] ln lf N rl sp rs) (hs : Sim m [] ln lf φ A) (hg' : Gd m' [] ln' lf N' rl' sp' rs') (hs' : Sim m' [] ln' lf φ' A) (le : Le φ φ') (hsh : m'.sh = m.sh) (hba : m'.base = m.base) (hold : m'.old = (m.fwd false v).2.old) (hhd : m'.head = (m.fwd false v).2.head) (hmv : m'.moved = (m.fwd false v).2.moved)
    (hI : Im ln φ L) (hV : V φ v x) (hv : v = 0 ∨ v ∈ ln ∨ v ∈ lf) : Im ln' φ' (pmeet L x) ∧ (∃ k, ln' = ln ++ k) ∧ ∀ t ∈ ln, m'.size t = m.size t := by
  have htl' : Tl m'.size m.base m'.old ln' := by have := hg'.o.tl; rw [hba] at this; exact this
  have hob := hg.oldle
  have hbf := m.base_former; have hY := hg.sz.Y0; have hH := hg.sz.H0
  have stay : (m.fwd false v).2 = m → ln' = ln ∧ ∀ t, m'.size t = m.size t := fun he => by
    rw [he] at hold hhd
    have hsz : ∀ t, m'.size t = m.size t := fun t => by unfold AM.size AM.row; rw [hsh, hhd]
    obtain ⟨k, hk, tk⟩ := Tl.pre hg.o.tl htl' (fun t _ => hsz t) (by omega)
    rw [hold] at tk
    exact ⟨by rw [hk, tk.empty, List.append_nil], hsz⟩
  have hin : ∀ {t : Int} {j : Nat}, t ∈ ln → φ t = some j → ((j : Int) + 1) ∈ L := fun {t j} ht hj => by
    obtain ⟨y, hy, j', h1, h2⟩ := hI.mem1 t ht
    rw [hj] at h1
    cases h1
    rw [← h2]; exact hy
  rcases hV with ⟨e1, e2⟩ | ⟨j, e1, e2⟩
  · subst e1; subst e2
    have he : m.fwd false 0 = (0, m) := by unfold AM.fwd; rw [if_neg (by show ¬ m.isF 0 = true; rw [hg.isFn (.inl rfl)]; simp)]
    obtain ⟨s1, s2⟩ := stay (by rw [he])
    rw [pmeet_zero, s1]
    exact ⟨hI.le le, ⟨[], by simp⟩, fun t _ => s2 t⟩
  · have hv0 : v ≠ 0 := fun e => by
      have h0 := hg.notY0
      rw [e] at e1
      rcases hs.dom _ _ e1 with q | q | q
      · cases q
      · exact h0.2.1 q
      · exact h0.2.2 q
    rcases hv with e | hv | hv
    · exact absurd e hv0
    · have he : m.fwd false v = (v, m) := by unfold AM.fwd; rw [if_neg (by show ¬ m.isF v = true; rw [hg.isFn (.inr (.inr hv))]; simp)]
      obtain ⟨s1, s2⟩ := stay (by rw [he])
      have hx : x ∈ L := by rw [e2]; exact hin hv e1
      rw [pmeet_old hx, s1]
      exact ⟨hI.le le, ⟨[], by simp⟩, fun t _ => s2 t⟩
    · have hou : m.ours false v = true := ours_of hg (by simpa using hv)
      by_cases hm : m.moved v = 0
      · have he : m.fwd false v = m.move v := by unfold AM.fwd; rw [if_pos hou, if_neg (by omega)]
        rw [he] at hold hhd hmv
        have hxL : x ∉ L := fun hx => by
          obtain ⟨t, ht, j', h1, h2⟩ := hI.mem2 x hx
          have hj : j' = j := by omega
          subst hj
          have := hs.inj t v j' h1 e1 (hg.omoved ht) hm
          subst this
          exact hg.of ht hv
        have hold' : m'.old = m.old + m.size v := hold
        have hsp := m.size_pos v
        have hsz : ∀ t ∈ ln, m'.size t = m.size t := fun t ht => by
          have := hg.obd ht
          unfold AM.size AM.row
          rw [hsh, hhd]
          have : (m.move v).2.head t = m.head t := fup_other (by omega)
          rw [this]
        obtain ⟨k, hk, tk⟩ := Tl.pre hg.o.tl htl' hsz (by omega)
        have hso : m'.size m.old = m.size v := by
          unfold AM.size AM.row
          rw [hsh, hhd, move_head]
        have h1 := Tl.one (by omega) (by rw [hso]; omega) tk
        have hmo : m'.moved v = m.old := by rw [hmv]; exact move_moved m v
        have hφ := hs'.mvd v j (le v j e1) (by rw [hmo]; omega)
        rw [hmo] at hφ
        rw [pmeet_new (by omega) hxL, hk, h1]
        refine ⟨All2.snoc ⟨j, hφ, e2⟩ (hI.le le), ⟨_, rfl⟩, hsz⟩
      · have hp := hg.mpos v hm
        have he : m.fwd false v = (m.moved v, m) := by unfold AM.fwd; rw [if_pos hou, if_pos hp]
        obtain ⟨s1, s2⟩ := stay (by rw [he])
        have hx : x ∈ L := by rw [e2]; exact hin (hg.mv v hm).2.1 (hs.mvd v j e1 hm)
        rw [pmeet_old hx, s1]
        exact ⟨hI.le le, ⟨[], by simp⟩, fun t _ => s2 t⟩
theorem fwdL_im : ∀ (vs xs : List Int) {m : AM} {ln : List Int} {φ : Int → Option Nat} {L : List Int}, J m [] ln lf N rl sp [] φ A → Im ln φ L → All2 (V φ) vs xs → (∀ v ∈ vs, v = 0 ∨ v ∈ lf) →
    ∃ ln' φ', J (AM.fwdL false vs m).2 [] ln' lf N rl sp [] φ' A ∧ Grow m (AM.fwdL false vs m).2 ln ln' φ φ' ∧ (AM.fwdL false vs m).2.scan = m.scan ∧ Im ln' φ' (xs.foldl pmeet L) ∧ All2 (fun w x => (w = 0 ∨ w ∈ ln') ∧ V φ' w x) (AM.fwdL false vs m).1 xs
  | [], [], m, ln, φ, L, h, hI, _, _ => ⟨ln, φ, h, Grow.refl .., rfl, hI, trivial⟩
  | [], _ :: _, _, _, _, _, _, _, ha, _ => ha.elim
  | _ :: _, [], _, _, _, _, _, _, ha, _ => ha.elim
  | v :: vs, x :: xs, m, ln, φ, L, h, hI, ha, hv => by
    obtain ⟨hV, ha⟩ := ha
    have hv0 := hv v (List.mem_cons_self ..)
    obtain ⟨ln1, φ1, h1, g1, e1, i1, s1, p1⟩ := h.fwd false (v := v) (fun ho => by
      rcases hv0 with e | e
      · rw [e] at ho
        have : m.isF 0 = true := ho
        rw [h.g.isFn (.inl rfl)] at this; cases this
      · simpa using e) (fun hq => by cases hq) (.inl rfl)
    obtain ⟨hI1, _, _⟩ := Im.fwd h.g h.s h1.g h1.s g1.le g1.sh g1.base rfl rfl rfl hI hV (hv0.imp id .inr)
    obtain ⟨ln2, φ2, h2, g2, s2, hI2, a2⟩ := fwdL_im vs xs h1 hI1 (ha.mono fun _ _ _ hq => hq.mono g1.le) (fun w hw => hv w (List.mem_cons_of_mem _ hw))
    refine ⟨ln2, φ2, h2, g1.trans g2, s2.trans e1.scan, hI2, ⟨?_, ?_⟩, a2⟩
    · rcases hv0 with e | e
      · left
        rw [s1 (fun ho => by
          rw [e] at ho
          have : m.isF 0 = true := ho
          rw [h.g.isFn (.inl rfl)] at this; cases this)]
        exact e
      · exact .inr (g2.sub (i1 (by simpa using e)).1)
    · rcases hV with ⟨e2, e3⟩ | ⟨j, e2, e3⟩
      · left
        refine ⟨?_, e3⟩
        rw [s1 (fun ho => by
          rw [e2] at ho
          have : m.isF 0 = true := ho
          rw [h.g.isFn (.inl rfl)] at this; cases this)]
        exact e2
      · exact .inr ⟨j, g2.le _ _ (p1 j e2), e3⟩
theorem Good.flipX (h : Good m ly ln lf φ A) (hb : m.busy = false) {roots xs : List Int} (hr : Rt ly ln φ roots xs) (he : m.minorErr roots = 0) :
    ∃ ln' lf' φ', Good (m.flip roots).2.2 [] ln' lf' φ' A ∧ Im ln' φ' (xs.foldl pmeet []) ∧ Rt [] ln' φ' (m.flip roots).1 xs ∧ (m.flip roots).2.1 = 0 ∧ (m.flip roots).2.2.sh = m.sh ∧ (m.flip roots).2.2.Y = m.Y ∧ (m.flip roots).2.2.H = m.H ∧ (m.flip roots).2.2.busy = true ∧ (m.flip roots).2.2.new = 1 ∧ (m.flip roots).2.2.up = !m.up ∧ (m.flip roots).2.2.scan = (m.flip roots).2.2.base := by
  obtain ⟨ln1, φ1, g1, R1, s1, s2, s3, s4, s5, s6, s7, s8⟩ := h.minor he
  have hr1 := hr.roots R1
  have hlf : lf = [] := h.g.nb hb
  subst hlf
  have hrem := minor_rem he
  have hT := g1.turn hrem
  have hrl : (m.minor roots).2.2.turn.remP = [] := by unfold remP; show List.map _ (m.minor roots).2.2.rem = []; rw [hrem]; rfl
  have hg := hT.g
  obtain ⟨ln2, φ2, j2, q2, e2, i2, a2⟩ := fwdL_im (A := A) (lf := ln1) (m.minor roots).1 xs ⟨hg, hT.s⟩ (show Im [] φ1 [] from trivial) (All2.of_get hr1.len.symm fun i h1 h2 => by
    have := (hr1.at' i).2
    rwa [getD_get _ h1, getD_get _ h2] at this) (fun v hv => (hr1.mem v hv).imp id fun q => q.resolve_left (by simp))
  have hfe : m.flip roots = ((AM.fwdL false (m.minor roots).1 (m.minor roots).2.2.turn).1, 0, (AM.fwdL false (m.minor roots).1 (m.minor roots).2.2.turn).2) := by
    unfold AM.flip
    rw [if_neg (by rw [hb]; simp)]
    simp only
    rw [if_neg (by rw [minor_err he]; simp)]
  rw [hfe]
  have hrem2 : (AM.fwdL false (m.minor roots).1 (m.minor roots).2.2.turn).2.rem = [] := q2.rem.trans hrem
  refine ⟨ln2, ln1, φ2, ⟨?_, j2.s, fun t ht => ?_, fun k hk => ?_, ?_⟩, i2, ⟨a2.len.symm, fun i => ?_⟩, rfl, q2.sh.trans s1, q2.Y.trans s2, q2.H.trans s3, q2.busy, q2.new.trans s6, ?_, ?_⟩
  · have : (AM.fwdL false (m.minor roots).1 (m.minor roots).2.2.turn).2.remP = [] := by unfold remP; rw [hrem2]; rfl
    rw [this, q2.base, q2.H]
    rw [hrl] at j2
    exact j2.g
  · exact ((j2.g.mv t ht).1).resolve_left (by simp)
  · simp only [hrem2] at hk; simp at hk
  · simp only [hrem2]; exact List.nodup_nil
  · by_cases hi : i < (AM.fwdL false (m.minor roots).1 (m.minor roots).2.2.turn).1.length
    · have := a2.get i hi (by rw [← a2.len]; exact hi)
      dsimp only
      rw [getD_get _ hi, getD_get _ (by rw [← a2.len]; exact hi)]
      exact ⟨this.1.imp id .inr, this.2⟩
    · dsimp only
      rw [getD_out _ (by omega), getD_out _ (by rw [← a2.len]; omega)]
      exact ⟨.inl rfl, V.zero _⟩
  · show (AM.fwdL false (m.minor roots).1 (m.minor roots).2.2.turn).2.up = _
    rw [q2.up]
    show (!(m.minor roots).2.2.up) = _
    rw [s4]
  · show (AM.fwdL false (m.minor roots).1 (m.minor roots).2.2.turn).2.scan = (AM.fwdL false (m.minor roots).1 (m.minor roots).2.2.turn).2.base
    rw [e2, q2.base, turn_scan, turn_base]
end
end AM
end Go.Hm
namespace Go.Hm
/-- What will be met, from a field of the i-th object on. -/
def Rem (g : Gr) (T i k : Nat) (L M : List Int) : Prop := ∃ h : i < L.length, g.close (T - (i + 1)) (i + 1) ((((g.fs L[i]).drop k).filterMap fun q => if q.1 then some q.2 else none).foldl pmeet L) = M
theorem close_rem {g : Gr} {T i : Nat} {L M : List Int} (hT : i < T) (hi : i < L.length) (h : g.close (T - i) i L = M) : Rem g T i 0 L M := by
  refine ⟨hi, ?_⟩
  rw [show T - i = (T - (i + 1)) + 1 by omega] at h
  unfold Gr.close at h
  rw [dif_pos hi] at h
  rw [List.drop_zero]
  exact h
namespace AM
def PosE (m : AM) (g : Gr) (T : Nat) (ln L M : List Int) : Prop :=
  (m.scan = m.old ∧ L = M) ∨ ∃ (i : Nat) (hi : i < ln.length), ln[i] ≤ m.scan ∧ m.scan < ln[i] + m.size ln[i] ∧ Rem g T i (m.scan - ln[i] - 1).toNat L M
section
variable {m m' : AM} {ly ln ln' lf N N' rl rl' rs rs' L L' M r xs : List Int} {sp sp' : Int} {φ φ' : Int → Option Nat} {A : Store} {v x : Int} {g : Gr} {T i k : Nat}
theorem PosE.enter (hl : L.length = ln.length) (hT : L.length < T) (hs : ∀ t, 1 ≤ m.size t) (hp : (∃ hi : i < ln.length, m.scan = ln[i]) ∨ (i = ln.length ∧ m.scan = m.old)) (h : g.close (T - i) i L = M) : PosE m g T ln L M := by
  rcases hp with ⟨hi, e⟩ | ⟨hi, e⟩
  · refine .inr ⟨i, hi, by omega, by have := hs ln[i]; omega, ?_⟩
    rw [show (m.scan - ln[i] - 1).toNat = 0 by omega]
    exact close_rem (by omega) (by omega) h
  · rw [g.close_end (by omega)] at h
    exact .inl ⟨e, h⟩
theorem PosE.go (hl : L.length = ln.length) (hT : L.length < T) (htl : Tl m.size m.base m.old ln) (hi : i < ln.length) (h1 : ln[i] < m.scan) (h2 : m.scan ≤ ln[i] + m.size ln[i]) (hr : Rem g T i (m.scan - ln[i] - 1).toNat L M) (hlen : ∀ h : i < L.length, ((g.fs L[i]).length : Int) = m.size ln[i] - 1) : PosE m g T ln L M := by
  by_cases he : m.scan = ln[i] + m.size ln[i]
  · obtain ⟨hi', hr⟩ := hr
    have := hlen hi'
    rw [List.drop_of_length_le (by omega)] at hr
    refine PosE.enter (i := i + 1) hl hT m.size_pos ?_ hr
    rcases htl.after i hi with ⟨g1, g2⟩ | ⟨g1, g2⟩
    · exact .inl ⟨g1, by omega⟩
    · exact .inr ⟨g1, by omega⟩
  · exact .inr ⟨i, hi, by omega, by omega, hr⟩
theorem PosE.start (hl : L.length = ln.length) (hT : L.length < T) (htl : Tl m.size m.base m.old ln) (hs : m.scan = m.base) (h : g.close T 0 L = M) : PosE m g T ln L M := by
  refine PosE.enter (i := 0) hl hT m.size_pos ?_ h
  cases ln with
  | nil => exact .inr ⟨rfl, by simp only [Tl] at htl; omega⟩
  | cons a t => exact .inl ⟨by simp, by have := htl.1; simp only [List.getElem_cons_zero]; omega⟩
theorem Im.at' (h : Im ln φ L) (i : Nat) (hi : i < ln.length) : ∃ (hi' : i < L.length) (j : Nat), φ ln[i] = some j ∧ L[i] = (j : Int) + 1 := by
  have := h.len
  obtain ⟨j, h1, h2⟩ := h.get i hi (by omega)
  exact ⟨by omega, j, h1, h2⟩
theorem Good.imNodup (g : Good m ly ln lf φ A) (h : Im ln φ L) : L.Nodup := h.nodup g.g.o.tl.nodup fun t t' x ht ht' ⟨j, h1, h2⟩ ⟨j', h1', h2'⟩ => by
  have : j' = j := by omega
  subst this
  exact g.s.inj _ _ _ h1 h1' (g.g.omoved ht) (g.g.omoved ht')
theorem Good.imLen (g : Good m ly ln lf φ A) (h : Im ln φ L) : L.length ≤ A.length := nodup_bd A.length 1 L (g.imNodup h) fun x hx => by
  obtain ⟨t, _, j, h1, h2⟩ := h.mem2 x hx
  obtain ⟨fs, h3, _⟩ := g.s.shp _ _ h1
  have := (List.getElem?_eq_some_iff.1 h3).1
  omega
theorem Good.rowOf (g : Good m ly ln lf φ A) {t : Int} {j : Nat} (h1 : φ t = some j) (h2 : x = (j : Int) + 1) : ∃ fs, obj0 A x = (m.head t - 1, fs) ∧ m.row t = srow m.sh A x ∧ fs.length = (m.row t).length ∧ (m.moved t = 0 → ∀ k : Nat, k < fs.length → if (m.row t).getD k false then V φ (m.word (t + 1 + k)) (fs.getD k 0) else m.word (t + 1 + k) = fs.getD k 0) := by
  obtain ⟨fs, g1, g2, g3⟩ := g.s.shp _ _ h1
  have ho : obj0 A x = (m.head t - 1, fs) := by
    unfold obj0
    have e : (x - 1).toNat = j := by omega
    rw [e, List.getD_eq_getElem?_getD, g1]; rfl
  exact ⟨fs, ho, by unfold AM.row srow; rw [ho], g2, g3⟩
structure Mv (m m' : AM) : Prop where
  sh : m'.sh = m.sh
  Y : m'.Y = m.Y
  H : m'.H = m.H
  up : m'.up = m.up
  new : m'.new = m.new
  busy : m'.busy = m.busy
  old : m.old ≤ m'.old
theorem Mv.refl (m : AM) : Mv m m := ⟨rfl, rfl, rfl, rfl, rfl, rfl, Int.le_refl _⟩
theorem Mv.trans {a b c : AM} (h : Mv a b) (k : Mv b c) : Mv a c := ⟨k.sh.trans h.sh, k.Y.trans h.Y, k.H.trans h.H, k.up.trans h.up, k.new.trans h.new, k.busy.trans h.busy, Int.le_trans h.old k.old⟩
theorem Mv.base (h : Mv m m') : m'.base = m.base := by unfold AM.base; rw [h.up, h.Y, h.H]
/-- Moving under way: what is moved is what was met. -/
def Cn (m : AM) (lf : List Int) (A : Store) (r xs : List Int) (T : Nat) (M : List Int) : Prop := ∃ ln φ L, Good m [] ln lf φ A ∧ Rt [] ln φ r xs ∧ Im ln φ L ∧ PosE m (sgr m.sh A) T ln L M
theorem Cn.step1 (h : Cn m lf A r xs T M) (hT : A.length < T) (hb : m.busy = true) (hs : m.scan < m.old) : Cn m.step1 lf A r xs T M ∧ Mv m m.step1 ∧ m.step1.scan = m.scan + 1 := by
  obtain ⟨ln, φ, L, hg, hR, hI, hP⟩ := h
  obtain ⟨ln', φ', hg', sub, le, e1, e2, e3, e4, e5, e6, e7, e8⟩ := hg.step1 hb hs
  have hmv : Mv m m.step1 := ⟨e1, e2, e3, e4, e6, e5.trans hb.symm, e8⟩
  refine ⟨?_, hmv, e7⟩
  obtain ⟨h1, _⟩ := hg.g.sc hb
  obtain ⟨a, ha, h3, h4, ho, hr⟩ := hg.g.scanned h1 hs
  obtain ⟨i, hi, p1, p2, hL, hrem⟩ := hP.resolve_left (by omega)
  have hai : a = ln[i] := hg.g.same (.inr (.inl ha)) (.inr (.inl (List.getElem_mem hi))) h3 h4 p1 p2
  subst hai
  obtain ⟨_, j, hj1, hj2⟩ := hI.at' i hi
  obtain ⟨fs, f1, f2, f3, f4⟩ := hg.rowOf hj1 hj2
  have f4 := f4 (hg.g.omoved ha)
  have hsz : m.size ln[i] = 1 + (srow m.sh A L[i]).length := by unfold AM.size; rw [f2]
  obtain ⟨v, x, L1, hVx, hv, s1, s2, s3, hL1, hrem1⟩ : ∃ v x L1, V φ v x ∧ (v = 0 ∨ v ∈ ln ∨ v ∈ lf) ∧ m.step1.old = (m.fwd false v).2.old ∧ m.step1.head = (m.fwd false v).2.head ∧ m.step1.moved = (m.fwd false v).2.moved ∧ L1 = pmeet L x ∧ (sgr m.sh A).close (T - (i + 1)) (i + 1) (((((sgr m.sh A).fs L[i]).drop (m.scan + 1 - ln[i] - 1).toNat).filterMap fun q => if q.1 then some q.2 else none).foldl pmeet L1) = M := by
    have hidle : m.isRef m.scan ≠ true → m.step1.old = (m.fwd false 0).2.old ∧ m.step1.head = (m.fwd false 0).2.head ∧ m.step1.moved = (m.fwd false 0).2.moved := fun hn => by
      have he : m.fwd false 0 = (0, m) := by unfold AM.fwd; rw [if_neg (by show ¬ m.isF 0 = true; rw [hg.g.isFn (.inl rfl)]; simp)]
      have hst : m.step1 = { m with scan := m.scan + 1 } := by unfold AM.step1; simp only; rw [if_neg hn]
      rw [he, hst]
      exact ⟨rfl, rfl, rfl⟩
    by_cases hh : m.scan = ln[i]
    · have hn : m.isRef m.scan ≠ true := fun hc => by have := pl_bd (hr.1 hc); omega
      obtain ⟨i1, i2, i3⟩ := hidle hn
      refine ⟨0, 0, L, V.zero φ, .inl rfl, i1, i2, i3, rfl, ?_⟩
      rw [show (m.scan + 1 - ln[i] - 1).toNat = 0 by omega]
      rw [show (m.scan - ln[i] - 1).toNat = 0 by omega] at hrem
      exact hrem
    · obtain ⟨k, hk⟩ : ∃ k : Nat, m.scan = ln[i] + 1 + k := ⟨(m.scan - ln[i] - 1).toNat, by omega⟩
      rw [show (m.scan - ln[i] - 1).toNat = k by omega] at hrem
      rw [show (m.scan + 1 - ln[i] - 1).toNat = k + 1 by omega]
      have hkl : k < ((sgr m.sh A).fs L[i]).length := by rw [sgr_len]; omega
      have hkf : k < fs.length := by rw [f3, f2, ← sgr_len m.sh A]; exact hkl
      have hw := f4 k hkf
      rw [List.drop_eq_getElem_cons hkl, List.filterMap_cons, sgr_get hkl] at hrem
      dsimp only at hrem
      rw [f1] at hrem
      rw [f2, ← hk] at hw
      by_cases hbk : (srow m.sh A L[i]).getD k false = true
      · rw [if_pos hbk] at hrem hw
        have hrow : k < (m.row ln[i]).length := by rw [← f3]; exact hkf
        have hpl : m.scan ∈ m.pl ln[i] := mem_pl.2 ⟨k, by
          rw [List.getElem?_eq_getElem hrow]
          rw [← f2] at hbk
          simpa [List.getD_eq_getElem?_getD, hrow] using hbk, hk⟩
        have hc := hr.2 hpl
        have hst : m.step1 = { m.fwdAt false m.scan with scan := (m.fwdAt false m.scan).scan + 1 } := by unfold AM.step1; simp only; rw [if_pos hc]
        refine ⟨m.word m.scan, fs.getD k 0, pmeet L (fs.getD k 0), hw, ?_, by rw [hst]; rfl, by rw [hst]; rfl, by rw [hst]; rfl, rfl, hrem⟩
        rcases hg.g.wo _ ha _ hpl with q | q | q | q
        · exact .inl q
        · exact .inr (.inl q)
        · cases q.1
        · exact .inr (.inr q.1)
      · rw [if_neg hbk] at hrem
        have hn : m.isRef m.scan ≠ true := fun hc => hbk (by
          obtain ⟨k', q1, q2⟩ := mem_pl.1 (hr.1 hc)
          have : k' = k := by omega
          subst this
          rw [← f2, List.getD_eq_getElem?_getD, q1]; rfl)
        obtain ⟨i1, i2, i3⟩ := hidle hn
        exact ⟨0, 0, L, V.zero φ, .inl rfl, i1, i2, i3, rfl, hrem⟩
  obtain ⟨hI', ⟨kl, hkl⟩, hsz'⟩ := Im.fwd hg.g hg.s hg'.g hg'.s le e1 hmv.base s1 s2 s3 hI hVx hv
  obtain ⟨kL, hkL⟩ := pmeet_pre L x
  rw [← hL1] at hI' hkL
  have hget : ln'[i]? = some ln[i] := by rw [hkl, List.getElem?_append_left hi]; exact List.getElem?_eq_getElem hi
  have hgetL : L1[i]? = some L[i] := by rw [hkL, List.getElem?_append_left hL]; exact List.getElem?_eq_getElem hL
  obtain ⟨hi', hge⟩ := List.getElem?_eq_some_iff.1 hget
  obtain ⟨hiL', hgeL⟩ := List.getElem?_eq_some_iff.1 hgetL
  refine ⟨ln', φ', L1, hg', hR.mono fun v x hm hV => ⟨hm.imp id (Or.imp id (sub v)), hV.mono le⟩, hI', ?_⟩
  rw [e1]
  refine PosE.go (i := i) hI'.len.symm (by have := hg'.imLen hI'; omega) hg'.g.o.tl hi' (by rw [hge]; omega) (by rw [hge, hsz' _ ha]; omega) ⟨hiL', ?_⟩ fun _ => ?_
  · rw [hge, hgeL, e7]; exact hrem1
  · rw [hge, hgeL, sgr_len, hsz' _ ha, hsz]; omega
theorem Cn.steps (hT : A.length < T) : ∀ (k : Nat) {m : AM}, Cn m lf A r xs T M → m.busy = true → Cn (AM.steps k m) lf A r xs T M ∧ Mv m (AM.steps k m) ∧ (AM.steps k m).scan ≤ (AM.steps k m).old ∧ m.base ≤ (AM.steps k m).scan ∧ (m.scan + k ≤ (AM.steps k m).scan ∨ (AM.steps k m).scan = (AM.steps k m).old)
  | 0, m, h, hb => by
    have := h
    obtain ⟨ln, φ, L, hg, _⟩ := this
    exact ⟨h, Mv.refl m, (hg.g.sc hb).2, (hg.g.sc hb).1, .inl (by show m.scan + ((0 : Nat) : Int) ≤ m.scan; omega)⟩
  | k + 1, m, h, hb => by
    by_cases hs : m.scan < m.old
    · have he : AM.steps (k + 1) m = AM.steps k m.step1 := by show (if _ then _ else _) = _; rw [if_pos hs]
      obtain ⟨a1, a2, a3⟩ := h.step1 hT hb hs
      obtain ⟨b1, b2, b3, b4, b5⟩ := Cn.steps hT k a1 (a2.busy.trans hb)
      rw [he]
      exact ⟨b1, a2.trans b2, b3, by have := a2.base; omega, by rcases b5 with b | b; left; omega; exact .inr b⟩
    · have he : AM.steps (k + 1) m = m := by show (if _ then _ else _) = _; rw [if_neg hs]
      rw [he]
      have := h
      obtain ⟨ln, φ, L, hg, _⟩ := this
      have := hg.g.sc hb
      exact ⟨h, Mv.refl m, this.2, this.1, .inr (by omega)⟩
/-- Behind a whole moving. -/
def Fz (m : AM) (A : Store) (r xs M : List Int) : Prop := m.busy = false ∧ ∃ ln φ, Good m [] ln [] φ A ∧ Rt [] ln φ r xs ∧ Im ln φ M
theorem Cn.fin (h : Cn m lf A r xs T M) (hb : m.busy = true) (hs : m.scan = m.old) : Fz m.fin A r xs M := by
  obtain ⟨ln, φ, L, hg, hR, hI, hP⟩ := h
  have hLM : L = M := by
    rcases hP with hP | ⟨i, hi, p1, p2, _⟩
    · exact hP.2
    · have := hg.g.obd (List.getElem_mem hi); omega
  subst hLM
  refine ⟨rfl, ln, _, hg.fin hb hs, hR.mono fun v x hm hV => ⟨hm, ?_⟩, hI.mono fun t x ht ⟨j, q1, q2⟩ => ⟨j, ?_, q2⟩⟩
  · rcases hV with hV | ⟨j, q1, q2⟩
    · exact .inl hV
    · refine .inr ⟨j, ?_, q2⟩
      show (if v ∈ lf then none else φ v) = some j
      rw [if_neg]
      · exact q1
      · intro hf
        rcases hm with e | e | e
        · rw [e] at hf; exact hg.g.notY0.2.2 hf
        · cases e
        · exact hg.g.of e hf
  · show (if t ∈ lf then none else φ t) = some j
    rw [if_neg (hg.g.of ht)]; exact q1
theorem badStep_no {w l : Int} (hst : m.step w = (l, 0, m')) (h0 : 0 ≤ l) (h1 : l ≤ m'.old - m'.base) (h2 : m.old - m.base ≤ m'.old - m'.base) : badStep w m = false := by
  unfold badStep
  rw [hst]
  show ((((0 : Int) != 0 || decide (l < 0)) || decide (m'.old - m'.base < l)) || decide (m'.old - m'.base < m.old - m.base)) = false
  rw [decide_eq_false (by omega), decide_eq_false (by omega), decide_eq_false (by omega)]
  rfl
theorem wloop_cn (hT : A.length < T) {w : Int} (hw : 1 ≤ w) : ∀ (f : Nat) (l : Int) {m : AM}, Cn m lf A r xs T M → m.busy = true → m.base + m.H - m.scan < f →
    (wloop w f m l).1 = true ∧ Fz (wloop w f m l).2.1 A r xs M ∧ (wloop w f m l).2.1.sh = m.sh ∧ (wloop w f m l).2.1.Y = m.Y ∧ (wloop w f m l).2.1.H = m.H ∧ (wloop w f m l).2.1.up = m.up ∧ (wloop w f m l).2.1.new = m.new ∧ (wloop w f m l).2.2 = (wloop w f m l).2.1.old - (wloop w f m l).2.1.base
  | 0, l, m, h, hb, hf => by
    obtain ⟨ln, φ, L, hg, _⟩ := h
    have := hg.g.sc hb; have := hg.g.oldle
    omega
  | f + 1, l, m, h, hb, hf => by
    obtain ⟨b1, b2, b3, b4, b5⟩ := h.steps hT w.toNat hb
    have hst := step_busy (m := m) (w := w) (by omega) hb
    have hbase := b2.base
    have hold := b2.old
    have hlo : m.base ≤ m.old := by
      obtain ⟨ln, φ, L, hg, _⟩ := h
      exact hg.g.oldle.1
    by_cases hs : (AM.steps w.toNat m).scan < (AM.steps w.toNat m).old
    · rw [if_pos hs] at hst
      have hbad : badStep w m = false := badStep_no hst (by omega) (by omega) (by omega)
      have he : wloop w (f + 1) m l = wloop w f (AM.steps w.toNat m) ((AM.steps w.toNat m).old - (AM.steps w.toNat m).base - ((AM.steps w.toNat m).old - (AM.steps w.toNat m).scan)) := by
        show (if m.busy then _ else _) = _
        rw [if_pos hb, hbad, hst]
        rfl
      rw [he]
      obtain ⟨c1, c2, c3, c4, c5, c6, c7, c8⟩ := wloop_cn hT hw f ((AM.steps w.toNat m).old - (AM.steps w.toNat m).base - ((AM.steps w.toNat m).old - (AM.steps w.toNat m).scan)) b1 (b2.busy.trans hb) (by have := b2.H; omega)
      exact ⟨c1, c2, c3.trans b2.sh, c4.trans b2.Y, c5.trans b2.H, c6.trans b2.up, c7.trans b2.new, c8⟩
    · rw [if_neg hs] at hst
      have hfz := b1.fin (b2.busy.trans hb) (by omega)
      have hbad : badStep w m = false := badStep_no hst (Int.le_refl _) (show (0 : Int) ≤ (AM.steps w.toNat m).old - (AM.steps w.toNat m).base by omega) (show m.old - m.base ≤ (AM.steps w.toNat m).old - (AM.steps w.toNat m).base by omega)
      have he : wloop w (f + 1) m l = (true, (AM.steps w.toNat m).fin, (AM.steps w.toNat m).old - (AM.steps w.toNat m).base - 0) := by
        show (if m.busy then _ else _) = _
        rw [if_pos hb, hbad, hst]
        show wloop w f (AM.steps w.toNat m).fin _ = _
        cases f <;> rfl
      rw [he]
      exact ⟨rfl, hfz, b2.sh, b2.Y, b2.H, b2.up, b2.new, by show _ - (0 : Int) = (AM.steps w.toNat m).old - (AM.steps w.toNat m).base; omega⟩
theorem whole_cn (h : Good m ly ln lf φ A) (hb : m.busy = false) (hr : Rt ly ln φ r xs) (he : m.minorErr r = 0) (hT : A.length < T) {w : Int} (hw : 1 ≤ w) (hH : m.H ≤ 9000) :
    (m.whole r w).2.2.1 = true ∧ Fz (m.whole r w).2.2.2 A (m.whole r w).1 xs ((sgr m.sh A).met T xs) ∧ (m.whole r w).2.2.2.sh = m.sh ∧ (m.whole r w).2.2.2.Y = m.Y ∧ (m.whole r w).2.2.2.H = m.H ∧ (m.whole r w).2.2.2.up = !m.up ∧ (m.whole r w).2.2.2.new = 1 ∧ (m.whole r w).2.1 = (m.whole r w).2.2.2.old - (m.whole r w).2.2.2.base := by
  obtain ⟨ln', lf', φ', g1, hI, hR, e0, e1, e2, e3, e4, e5, e6, e7⟩ := h.flipX hb hr he
  have hcn : Cn (m.flip r).2.2 lf' A (m.flip r).1 xs T ((sgr m.sh A).met T xs) := by
    refine ⟨ln', φ', _, g1, hR, hI, ?_⟩
    rw [e1]
    exact PosE.start hI.len.symm (by have := g1.imLen hI; omega) g1.g.o.tl e7 rfl
  obtain ⟨c1, c2, c3, c4, c5, c6, c7, c8⟩ := wloop_cn hT hw 10000 0 hcn e4 (by omega)
  unfold AM.whole
  rw [if_neg (by rw [e0]; simp), if_pos c1]
  exact ⟨by rw [c2.1]; rfl, c2, c3.trans e1, c4.trans e2, c5.trans e3, c6.trans e6, c7.trans e5, c8⟩
end
end AM
end Go.Hm
namespace Go.Hm
/-- The words of a picture. -/
def wsum (p : Pic) : Int := (p.fields.map fun f => 1 + (f.length : Int)).sum
namespace AM
section
variable {m m' : AM} {ly ln ln' lf L L' M r r' xs : List Int} {φ φ' : Int → Option Nat} {A : Store} {v x : Int} {T : Nat}
theorem Fz.left (h : Fz m A r xs M) : m.left = 0 := by
  obtain ⟨_, ln, φ, g, _, _⟩ := h
  exact g.g.left
theorem Fz.wst (h : Fz m A r xs M) (hl : xs.length ≤ 200) : Wst m r A xs := by
  obtain ⟨_, ln, φ, g, hR, _⟩ := h
  exact ⟨by rw [← hR.len]; exact hl, [], ln, [], φ, g, hR⟩
theorem Fz.minor0 (h : Fz m A r xs M) (hl : xs.length ≤ 200) : m.minorErr r = 0 := by
  have hr := (h.wst hl).rooted
  obtain ⟨_, ln, φ, g, hR, _⟩ := h
  have hre := (g.reach hR.mem).sub
  have hn : m.needed r = 0 := by
    unfold AM.needed
    have : m.reach r = [] := List.eq_nil_iff_forall_not_mem.2 fun t ht => by have := hre t ht; cases this
    rw [this]; rfl
  have := g.g.oldle
  unfold AM.minorErr
  rw [if_neg (by rw [hr]; simp), hn, if_neg (by omega)]
theorem Fz.words (h : Fz m A r xs M) : m.old - m.base = (M.map fun x => 1 + ((srow m.sh A x).length : Int)).sum ∧ m.old - m.base ≤ m.H := by
  obtain ⟨_, ln, φ, g, _, hI⟩ := h
  have := g.g.oldle
  refine ⟨?_, by omega⟩
  rw [← g.g.o.tl.sum]
  unfold AM.sum
  rw [hI.map_eq fun t x _ ⟨j, h1, h2⟩ => by
    obtain ⟨_, _, f2, _⟩ := g.rowOf h1 h2
    show 1 + ((m.row t).length : Int) = (fun x => 1 + ((srow m.sh A x).length : Int)) x
    rw [f2]]
theorem wsum_pic (sh : List (List Bool)) : wsum ((sgr sh A).pic T xs) = (((sgr sh A).met T xs).map fun x => 1 + ((srow sh A x).length : Int)).sum := by
  unfold wsum Gr.pic
  simp only [List.map_map]
  congr 1
  refine List.map_congr_left fun x _ => ?_
  show 1 + ((((sgr sh A).prow ((sgr sh A).met T xs) x).length : Nat) : Int) = _
  unfold Gr.prow
  rw [List.length_map, sgr_len]
theorem Fz.same (h : Fz m A r xs M) (h' : Fz m' A r' xs M) (hb : m'.base = m.base) (hs : m'.sh = m.sh) : r = r' := by
  obtain ⟨_, ln, φ, g, hR, hI⟩ := h
  obtain ⟨_, ln', φ', g', hR', hI'⟩ := h'
  have hll : ln = ln' := by
    refine Tl.eq g.g.o.tl (by rw [← hb]; exact g'.g.o.tl) ?_
    rw [hI.map_eq (g := fun x => 1 + ((srow m.sh A x).length : Int)) fun t x _ ⟨j, h1, h2⟩ => by
        obtain ⟨_, _, f2, _⟩ := g.rowOf h1 h2
        show 1 + ((m.row t).length : Int) = _
        rw [f2],
      hI'.map_eq (g := fun x => 1 + ((srow m.sh A x).length : Int)) fun t x _ ⟨j, h1, h2⟩ => by
        obtain ⟨_, _, f2, _⟩ := g'.rowOf h1 h2
        show 1 + ((m'.row t).length : Int) = _
        rw [f2, hs]]
  subst hll
  have hnd := g.imNodup hI
  refine List.ext_getElem (by rw [← hR.len, hR'.len]) fun i h1 h2 => ?_
  obtain ⟨a1, a2⟩ := hR.at' i
  obtain ⟨b1, b2⟩ := hR'.at' i
  rw [getD_get _ h1] at a1 a2
  rw [getD_get _ h2] at b1 b2
  rcases a2 with ⟨a2, a3⟩ | ⟨j, a2, a3⟩
  · rcases b2 with ⟨b2, b3⟩ | ⟨j', b2, b3⟩
    · rw [a2, b2]
    · omega
  · rcases b2 with ⟨b2, b3⟩ | ⟨j', b2, b3⟩
    · omega
    · have hj : j' = j := by omega
      subst hj
      have key : ∀ {m : AM} {φ : Int → Option Nat} {v : Int}, Good m [] ln [] φ A → (v = 0 ∨ v ∈ ([] : List Int) ∨ v ∈ ln) → φ v = some j' → Im ln φ M → ∃ (p : Nat) (hp : p < ln.length) (hp' : p < M.length), ln[p] = v ∧ M[p] = (j' : Int) + 1 := fun {m φ v} g hv hφ hI => by
        rcases hv with e | e | e
        · rw [e, g.V0] at hφ; cases hφ
        · cases e
        · obtain ⟨p, hp, rfl⟩ := List.getElem_of_mem e
          obtain ⟨hp', j, q1, q2⟩ := hI.at' p hp
          rw [hφ] at q1
          cases q1
          exact ⟨p, hp, hp', rfl, q2⟩
      obtain ⟨p, hp, hpM, e1, e2⟩ := key g a1 a2 hI
      obtain ⟨q, hq, hqM, e3, e4⟩ := key g' b1 b2 hI'
      have : p = q := (List.getElem_inj hnd).1 (e2.trans e4.symm)
      subst this
      rw [← e1, ← e3]
theorem Good.step_all (g : Good m ly ln lf φ A) {w : Int} (hw : 2 * m.H ≤ w) : (m.step w).2.2.busy = false := by
  have hH := g.g.sz.H0
  cases hb : m.busy with
  | false => rw [step_idle (by omega) hb]; exact hb
  | true =>
    obtain ⟨ln', φ', g', _, _, _, e2, e3, e4, e5, _, e7, e8, e9⟩ := g.steps w.toNat hb
    have h1 := g.g.sc hb
    have h2 := g'.g.oldle
    have hbase : (AM.steps w.toNat m).base = m.base := by unfold AM.base; rw [e4, e2, e3]
    rw [step_busy (by omega) hb, if_neg (by omega)]
    rfl
/-- What the law says of a whole moving. -/
theorem whole_law (h : Wst m r A xs) (hb : m.busy = false) (hH : m.H ≤ 9000) {w : Int} (hw : 1 ≤ w) :
    ((m.whole r w).2.2.1 ≠ true → ((m.whole r w).2.2.2.minor r).2.1 = 14 ∧ Wst (m.whole r w).2.2.2 r A xs) ∧
    ((m.whole r w).2.2.1 = true → Wst (m.whole r w).2.2.2 (m.whole r w).1 A xs ∧ (m.whole r w).2.2.2.sh = m.sh ∧ (m.whole r w).2.2.2.room = (0, wsum (m.pic r), 0) ∧ (m.whole r w).2.1 = wsum (m.pic r) ∧ wsum (m.pic r) ≤ m.H ∧
      ((m.whole r w).2.2.2.whole (m.whole r w).1 1).2.2.1 = true ∧ Wst ((m.whole r w).2.2.2.whole (m.whole r w).1 1).2.2.2 ((m.whole r w).2.2.2.whole (m.whole r w).1 1).1 A xs ∧
      (((m.whole r w).2.2.2.whole (m.whole r w).1 1).2.2.2.whole ((m.whole r w).2.2.2.whole (m.whole r w).1 1).1 m.H).2.2.1 = true ∧ (((m.whole r w).2.2.2.whole (m.whole r w).1 1).2.2.2.whole ((m.whole r w).2.2.2.whole (m.whole r w).1 1).1 m.H).1 = (m.whole r w).1) := by
  have hroot := h.rooted
  have hw0 := h
  obtain ⟨hl, ly, ln, lf, φ, g, hr⟩ := h
  have hl' : xs.length ≤ 200 := by rw [hr.len]; exact hl
  have hH0 := g.g.sz.H0
  by_cases he : m.minorErr r = 0
  · obtain ⟨c1, c2, c3, c4, c5, c6, c7, c8⟩ := whole_cn (T := m.T + (A.length + 1)) g hb hr he (by omega) hw hH
    refine ⟨fun hn => absurd c1 hn, fun _ => ?_⟩
    obtain ⟨w1, w2⟩ := c2.words
    have hp : wsum (m.pic r) = (m.whole r w).2.2.2.old - (m.whole r w).2.2.2.base := by
      rw [w1, g.pic_eq hr (A.length + 1), wsum_pic, c3]
    have g1 := c2
    obtain ⟨b1, ln1, φ1, g1, hr1, _⟩ := g1
    obtain ⟨d1, d2, d3, d4, d5, d6, d7, d8⟩ := whole_cn (T := m.T + (A.length + 1)) (w := 1) g1 b1 hr1 (c2.minor0 hl') (by omega) (Int.le_refl _) (by omega)
    rw [c3] at d2
    have g2 := d2
    obtain ⟨b2, ln2, φ2, g2, hr2, _⟩ := g2
    obtain ⟨f1, f2, f3, f4, f5, f6, f7, f8⟩ := whole_cn (T := m.T + (A.length + 1)) (w := m.H) g2 b2 hr2 (d2.minor0 hl') (by omega) hH0 (by omega)
    rw [d3, c3] at f2
    refine ⟨c2.wst hl', c3, ?_, by rw [hp, c8], by omega, d1, d2.wst hl', f1, ?_⟩
    · unfold AM.room
      rw [c7, hp, c2.left]
      rfl
    · refine (c2.same f2 ?_ (by rw [f3, d3])).symm
      unfold AM.base
      rw [f6, d6, f4, d4, f5, d5, Bool.not_not]
  · have hfl : m.flip r = ([], m.minorErr r, m) := by
      unfold AM.flip
      rw [if_neg (by rw [hb]; simp)]
      simp only
      rw [minor_no he, if_pos he]
    have hwh : m.whole r w = ([], 0, false, m) := by
      unfold AM.whole
      rw [if_pos (by rw [hfl]; exact he), hfl]
    rw [hwh]
    refine ⟨fun _ => ⟨?_, hw0⟩, fun hq => by cases hq⟩
    show (m.minor r).2.1 = 14
    rw [minor_no he]
    show m.minorErr r = 14
    unfold AM.minorErr at he ⊢
    rw [if_neg (by rw [hroot]; simp)] at he ⊢
    split at he
    · rename_i hc; rw [if_pos hc]
    · exact absurd rfl he
end
end AM
end Go.Hm
namespace Go.Proofs.Ytmhmpjgkkpbnnaa
open Go.Ck Fx Go.Hm
attribute [local irreducible] St Cd Xt Nx DrL LsW

/-- Where a space lies: its block, its rows of words and of beginnings, and what lies behind them in their blocks. -/
structure SpL where
  sb : Nat
  wb : Nat
  tb : Nat
  wj : List Value
  tj : List Value
abbrev sb (l : SpL) (s : Sp) : Res := pt l.sb (cl [.slice (some ⟨l.wb, 0, none⟩) s.ws.length (s.ws.length + l.wj.length), .int .i64 s.fr, .int .i64 s.us, .slice (some ⟨l.tb, 0, none⟩) s.st.length (s.st.length + l.tj.length)] 117)
abbrev wb (l : SpL) (s : Sp) : Res := pt l.wb (cl (ints s.ws ++ l.wj) 3)
abbrev tb (l : SpL) (s : Sp) : Res := pt l.tb (cl (bools s.st ++ l.tj) 4)
def spSH (l : SpL) (s : Sp) : SH := [sb l s, wb l s, tb l s]

theorem splice_ints (l : List Int) (j : List Value) (o n : Nat) (h : o + n ≤ l.length) : splice (ints l ++ j) o (List.replicate n (.int .i64 0)) = ints (spl l o (List.replicate n 0)) ++ j := by
  simp only [splice, spl, ints, List.map_append, List.map_take, List.map_drop, List.map_replicate, List.length_replicate]
  rw [List.take_append_of_le_length (by simp; omega), List.drop_append_of_le_length (by simp; omega)]
  simp [List.append_assoc]
theorem set_ints {l : List Int} {j : List Value} {k : Nat} {v : Int} (h : k < l.length) : (ints l ++ j).set k (.int .i64 v) = ints (l.set k v) ++ j := by
  rw [List.set_append_left _ _ (by simpa [ints] using h), ints_set]
theorem set_bools {l : List Bool} {j : List Value} {k : Nat} {v : Bool} (h : k < l.length) : (bools l ++ j).set k (.bool v) = bools (l.set k v) ++ j := by
  rw [List.set_append_left _ _ (by simpa [bools] using h), bools_set]
theorem splice_bools (l : List Bool) (j : List Value) : splice (bools l ++ j) 0 (List.replicate l.length (.bool false)) = bools (List.replicate l.length false) ++ j := by
  simp only [splice, bools, List.map_replicate, List.length_replicate, Nat.zero_add, List.take_zero, List.nil_append]
  rw [List.drop_append_of_le_length (by simp), List.drop_of_length_le (by simp)]
  simp
theorem splice_all {α : Type} (l : List α) (j : List α) (vs : List α) (h : vs.length = l.length) : (l ++ j).take 0 ++ vs ++ (l ++ j).drop (0 + vs.length) = vs ++ j := by
  simp [h]

set_option maxRecDepth 100000 in
theorem has_ct {l : SpL} {s : Sp} {t : Int} (ok : s.Ok) : Reads Try.prog 110 #[.pointer (some ⟨l.sb, 0, none⟩), .int .i64 t] [sb l s] (.bool (s.has t)) := by
  have h1 := ok.us; have h2 := ok.fr; have h3 := ok.ws
  unfold Sp.has
  refine ct_of (n := 24) Try.func110 rfl rfl (len rfl) fun hr w0 => ?_
  refine cd_seq (cd_region (st_v (v_assign rfl) (st_nil (nx_then (cd_seq (cd_drawh (ork [(0, 2), (1, 2), (2, 2), (3, 2), (4, 1), (5, 2), (6, 2), (7, 2), (8, 2), (9, 2), (10, 2), (11, 1), (12, 2), (13, 2), (14, 2), (15, 1), (16, 2), (17, 2), (18, 2), (19, 2)] .nil) (fun _ => true) mixed (by kernel_rfl) ?_))))))
  refine dp_v rfl (v_move rfl) (dp_v rfl (v_move rfl) (dp_v rfl (v_nilCheck rfl) (dp_v rfl (v_fieldAddr rfl fa115_1 rfl) (dr_v rfl (v_ld rfl ld3) ?_))))
  refine dp_v rfl (v_geq rfl rfl) (dp_v rfl (v_move rfl) ?_)
  cases hc : decide ((s.fr : Int) ≤ t)
  · skip
    refine dp_sk rfl rfl rfl rfl ?_
    refine dp_sk rfl rfl rfl rfl ?_
    refine dp_sk rfl rfl rfl rfl ?_
    refine dp_sk rfl rfl rfl rfl ?_
    refine dr_sk rfl rfl rfl rfl ?_
    refine dp_sk rfl rfl rfl rfl ?_
    refine dp_sk rfl rfl rfl rfl ?_
    refine dp_sk rfl rfl rfl rfl ?_
    refine dr_sk rfl rfl rfl rfl ?_
    refine dp_sk rfl rfl rfl rfl ?_
    refine dp_sk rfl rfl rfl rfl ?_
    refine dp_v rfl (v_pick_false rfl rfl) (dp_v rfl (v_assign rfl) (dr_nil (nx_kp [4] rfl (nx_then (cd_ret ?_)))))
    exact xt_ret rfl ⟨rfl, rfl⟩ (.refl _)
  · skip
    refine dp_vg rfl rfl rfl (v_move rfl) (dp_vg rfl rfl rfl (v_move rfl) (dp_vg rfl rfl rfl (v_nilCheck rfl) (dp_vg rfl rfl rfl (v_fieldAddr rfl fa115_1 rfl) (dr_vg rfl rfl rfl (v_ld rfl ld3) ?_))))
    refine dp_vg rfl rfl rfl (v_move rfl) (dp_vg rfl rfl rfl (v_nilCheck rfl) (dp_vg rfl rfl rfl (v_fieldAddr rfl fa115_2 rfl) (dr_vg rfl rfl rfl (v_ld rfl ld3) ?_)))
    refine dp_vg rfl rfl rfl (v_add rfl rfl (by unfold I64 at *; omega)) (dp_vg rfl rfl rfl (v_lss rfl rfl) (dp_v rfl (v_pick_true rfl rfl) (dp_v rfl (v_assign rfl) (dr_nil (nx_kp [4] rfl (nx_then (cd_ret ?_)))))))
    exact xt_ret rfl ⟨rfl, rfl⟩ (.refl _)

set_option maxRecDepth 100000 in
/-- word: the place of a word. -/
theorem word_ct {l : SpL} {s : Sp} {t : Int} (ok : s.Ok) (h : (s.fr : Int) ≤ t) (h' : t < (s.fr : Int) + (s.ws.length : Int)) :
    Reads Try.prog 61 #[.pointer (some ⟨l.sb, 0, none⟩), .int .i64 t] [sb l s] (.pointer (some ⟨l.wb, (t - s.fr).toNat, none⟩)) := by
  have h1 := ok.us; have h2 := ok.fr; have h3 := ok.ws
  refine ct_of (n := 16) Try.func61 rfl rfl (len rfl) fun hr w0 => ?_
  refine cd_seq (cd_region (st_v (v_assign rfl) (st_nil (nx_then (cd_seq (cd_drawh (ork [(0, 2), (1, 2), (2, 2), (3, 1), (4, 2), (5, 2), (6, 2), (7, 2), (8, 1), (9, 2), (10, 2), (11, 2)] .nil) (fun _ => true) mixed (by kernel_rfl) ?_))))))
  refine dp_v rfl (v_move rfl) (dp_v rfl (v_nilCheck rfl) (dp_v rfl (v_fieldAddr rfl fa115_0 rfl) (dr_v rfl (v_ld rfl ld34) ?_)))
  refine dp_v rfl (v_move rfl) (dp_v rfl (v_move rfl) (dp_v rfl (v_nilCheck rfl) (dp_v rfl (v_fieldAddr rfl fa115_1 rfl) (dr_v rfl (v_ld rfl ld3) ?_))))
  refine dp_v rfl (v_sub rfl rfl (by unfold I64 at *; omega)) (dp_v rfl (v_idx (t - s.fr).toNat rfl rfl sl34 (by omega) (by omega)) (dp_v rfl (v_assign rfl) (dr_nil (nx_kp [4] rfl (nx_then (cd_ret ?_))))))
  exact xt_ret rfl ⟨rfl, rfl⟩ (.refl _)

set_option maxRecDepth 100000 in
theorem room_ct {l : SpL} {s : Sp} (ok : s.Ok) : Reads Try.prog 83 #[.pointer (some ⟨l.sb, 0, none⟩)] [sb l s] (.int .i64 ((s.ws.length : Int) - (s.us : Int))) := by
  have h1 := ok.us; have h2 := ok.fr; have h3 := ok.ws
  refine ct_of (n := 13) Try.func83 rfl rfl (len rfl) fun hr w0 => ?_
  refine cd_seq (cd_region (st_v (v_assign rfl) (st_nil (nx_then (cd_seq (cd_drawh (ork [(0, 2), (1, 2), (2, 2), (3, 1), (4, 2), (5, 2), (6, 2), (7, 2), (8, 1), (9, 2), (10, 2)] .nil) (fun _ => true) mixed (by kernel_rfl) ?_))))))
  refine dp_v rfl (v_move rfl) (dp_v rfl (v_nilCheck rfl) (dp_v rfl (v_fieldAddr rfl fa115_0 rfl) (dr_v rfl (v_ld rfl ld34) ?_)))
  refine dp_v rfl (v_len rfl Try.underlying34) (dp_v rfl (v_move rfl) (dp_v rfl (v_nilCheck rfl) (dp_v rfl (v_fieldAddr rfl fa115_2 rfl) (dr_v rfl (v_ld rfl ld3) ?_))))
  refine dp_v rfl (v_sub rfl rfl (by unfold I64 at *; omega)) (dp_v rfl (v_assign rfl) (dr_nil (nx_kp [2] rfl (nx_then (cd_ret ?_)))))
  exact xt_ret rfl ⟨rfl, rfl⟩ (.refl _)

set_option maxRecDepth 100000 in
theorem begins_ct {l : SpL} {s : Sp} {t : Int} (ok : s.Ok) : Reads Try.prog 72 #[.pointer (some ⟨l.sb, 0, none⟩), .int .i64 t] [sb l s, tb l s] (.bool (s.begins t)) := by
  have h1 := ok.us; have h2 := ok.fr; have h3 := ok.ws; have h4 := ok.st
  unfold Sp.begins
  refine ct_of (n := 25) Try.func72 rfl rfl (len rfl) fun hr w0 => ?_
  refine cd_seq (cd_region (st_v (v_assign rfl) (st_nil (nx_then (cd_seq (cd_drawh (ork [(0, 2), (1, 2), (2, 2), (3, 2), (4, 1), (5, 2), (6, 2), (7, 2), (8, 2), (9, 1), (10, 2), (11, 2), (12, 2), (13, 2), (14, 2), (15, 1), (16, 2), (17, 2), (18, 1), (19, 2), (20, 2)] .nil) (fun _ => true) mixed (by kernel_rfl) ?_))))))
  refine dp_v rfl (v_move rfl) (dp_v rfl (v_nilCheck rfl) (dp_v rfl (v_fieldAddr rfl fa117_0 rfl) (dp_v rfl (v_move rfl) (dr_clr rfl rfl rfl en110 rfl (has_ct (l := l) (s := s) ok) ?_))))
  refine dp_v rfl (v_move rfl) ?_
  cases hc : s.has t
  · skip
    refine dp_sk rfl rfl rfl rfl ?_
    refine dp_sk rfl rfl rfl rfl ?_
    refine dp_sk rfl rfl rfl rfl ?_
    refine dr_sk rfl rfl rfl rfl ?_
    refine dp_sk rfl rfl rfl rfl ?_
    refine dp_sk rfl rfl rfl rfl ?_
    refine dp_sk rfl rfl rfl rfl ?_
    refine dp_sk rfl rfl rfl rfl ?_
    refine dp_sk rfl rfl rfl rfl ?_
    refine dr_sk rfl rfl rfl rfl ?_
    refine dp_sk rfl rfl rfl rfl ?_
    refine dp_sk rfl rfl rfl rfl ?_
    refine dr_sk rfl rfl rfl rfl ?_
    refine dp_v rfl (v_pick_false rfl rfl) (dp_v rfl (v_assign rfl) (dr_nil (nx_kp [4] rfl (nx_then (cd_ret ?_)))))
    exact xt_ret rfl ⟨rfl, rfl⟩ (.refl _)
  · skip
    have hb := Sp.has_iff.1 hc
    have hr : Rd (tb l s) ⟨l.tb, (t - s.fr).toNat, none⟩ (.bool (s.st.getD (t - s.fr).toNat false)) := rd_bools (by omega)
    refine dp_vg rfl rfl rfl (v_move rfl) (dp_vg rfl rfl rfl (v_nilCheck rfl) (dp_vg rfl rfl rfl (v_fieldAddr rfl fa117_1 rfl) (dr_vg rfl rfl rfl (v_ld rfl ld73) ?_)))
    refine dp_vg rfl rfl rfl (v_move rfl) (dp_vg rfl rfl rfl (v_move rfl) (dp_vg rfl rfl rfl (v_nilCheck rfl) (dp_vg rfl rfl rfl (v_fieldAddr rfl fa117_0 rfl) (dp_vg rfl rfl rfl (v_fieldAddr rfl fa115_1 rfl) (dr_vg rfl rfl rfl (v_ld rfl ld3) ?_)))))
    refine dp_vg rfl rfl rfl (v_sub rfl rfl (by unfold I64 at *; omega)) (dp_vg rfl rfl rfl (v_idx (t - s.fr).toNat rfl rfl sl73 (by omega) (by omega)) (dr_vg rfl rfl rfl (v_ld rfl ld4) ?_))
    refine dp_v rfl (v_pick_true rfl rfl) (dp_v rfl (v_assign rfl) (dr_nil (nx_kp [4] rfl (nx_then (cd_ret ?_)))))
    exact xt_ret rfl ⟨rfl, rfl⟩ (.refl _)

set_option maxRecDepth 100000 in
/-- take: the next words, as zeros. -/
theorem take_ct {l : SpL} {s : Sp} {n : Nat} (ok : s.Ok) (hn : s.us + n ≤ s.ws.length) (hn0 : 0 < n) :
    Ct Try.prog 115 #[.pointer (some ⟨l.sb, 0, none⟩), .int .i64 n] [sb l s, wb l s] fun v h' => v = .int .i64 s.next ∧ h' = [sb l (s.take n), wb l (s.take n)] := by
  have h1 := ok.us; have h2 := ok.fr; have h3 := ok.ws
  refine ct_of (n := 39) Try.func115 rfl rfl (len rfl) fun hr w0 => ?_
  refine cd_seq (cd_region (st_v (v_assign rfl) (st_nil (nx_then (cd_seq (cd_drawh (ork [(0, 2), (1, 2), (2, 2), (3, 1), (4, 2), (5, 2), (6, 2), (7, 1), (8, 2), (9, 2)] .nil) (fun _ => true) mixed (by kernel_rfl) ?_))))))
  refine dp_v rfl (v_move rfl) (dp_v rfl (v_nilCheck rfl) (dp_v rfl (v_fieldAddr rfl fa115_1 rfl) (dr_v rfl (v_ld rfl ld3) ?_)))
  refine dp_v rfl (v_move rfl) (dp_v rfl (v_nilCheck rfl) (dp_v rfl (v_fieldAddr rfl fa115_2 rfl) (dr_v rfl (v_ld rfl ld3) ?_)))
  refine dp_v rfl (v_add rfl rfl (by unfold I64 at *; omega)) (dp_v rfl (v_assign rfl) (dr_nil (nx_kp [0, 1, 4, 5] rfl (nx_then (cd_seq (cd_drawh (ork [(0, 2), (1, 2), (2, 2), (3, 1), (4, 2), (5, 2), (6, 2), (7, 1), (8, 2), (9, 2), (10, 2), (11, 1), (12, 2), (13, 2), (14, 1), (15, 0)] .nil) (fun i => !(Nat.beq i 15)) mixed (by kernel_rfl) ?_))))))
  refine dp_v rfl (v_move rfl) (dp_v rfl (v_nilCheck rfl) (dp_v rfl (v_fieldAddr rfl fa115_0 rfl) (dr_v rfl (v_ld rfl ld34) ?_)))
  refine dp_v rfl (v_move rfl) (dp_v rfl (v_nilCheck rfl) (dp_v rfl (v_fieldAddr rfl fa115_2 rfl) (dr_v rfl (v_ld rfl ld3) ?_)))
  refine dp_v rfl (v_move rfl) (dp_v rfl (v_nilCheck rfl) (dp_v rfl (v_fieldAddr rfl fa115_2 rfl) (dr_v rfl (v_ld rfl ld3) ?_)))
  refine dp_v rfl (v_move rfl) (dp_v rfl (v_add rfl rfl (by unfold I64 at *; omega)) (dr_v rfl (v_slice (lo := s.us) (hi := s.us + n) rfl rfl rfl sl34 rfl (by omega) (by omega) (by omega) (by omega)) (dr_eff rfl (st_clear rfl Try.underlying34 inf3 rfl rfl (by repeat (first | exact Sel.here | apply Sel.there)) (by simp [ints]; omega) (.inl rfl) (dr_nx ?_)))))
  refine dr_nil (nx_kp [0, 1, 4, 5] rfl (nx_then (cd_seq (cd_region (st_v (v_move rfl) (st_v (v_nilCheck rfl) (st_v (v_fieldAddr rfl fa115_2 rfl) (st_v (v_ld rfl ld3) ?_))))))))
  refine st_v (v_move rfl) (st_v (v_add rfl rfl (by unfold I64 at *; omega)) (st_v (v_nilCheck rfl) (st_v (v_fieldAddr rfl fa115_2 rfl) (st_sto rfl rfl sz3 ?_))))
  refine st_nil (nx_kp [4, 5] rfl (nx_then (cd_seq (cd_region (st_v (v_move rfl) (st_v (v_assign rfl) (st_nil (nx_kp [4] rfl (nx_then (cd_ret ?_))))))))))
  have e1 : wb l (s.take n) = pt l.wb (cl (splice (ints s.ws ++ l.wj) s.us (List.replicate (s.us + n - s.us) (.int .i64 0))) 3) := by
    rw [show s.us + n - s.us = n by omega, splice_ints _ _ _ _ (by omega)]; rfl
  have e2 : sb l (s.take n) = pt l.sb (cl [.slice (some ⟨l.wb, 0, none⟩) s.ws.length (s.ws.length + l.wj.length), .int .i64 s.fr, .int .i64 ((s.us : Int) + (n : Int)), .slice (some ⟨l.tb, 0, none⟩) s.st.length (s.st.length + l.tj.length)] 117) := by
    unfold sb; simp only [Sp.take, spl_length s.ws s.us (List.replicate n 0) (by simp; omega), Int.natCast_add]
  refine xt_ret rfl ⟨rfl, rfl⟩ ?_
  rw [e1, e2]
  exact (by repeat (first | exact Sub.refl _ | refine Sub.sel (by repeat (first | exact Sel.here | apply Sel.there)) ?_ | apply Sub.cons))

set_option maxRecDepth 100000 in
/-- lay: a new object. -/
theorem lay_ct {l : SpL} {s : Sp} {n : Nat} {sh : Int} (ok : s.Ok) (hn : s.us + n ≤ s.ws.length) (hn0 : 0 < n) :
    Ct Try.prog 84 #[.pointer (some ⟨l.sb, 0, none⟩), .int .i64 n, .int .i64 sh] [sb l s, wb l s, tb l s] fun v h' => v = .int .i64 s.next ∧ h' = [sb l (s.lay n sh), wb l (s.lay n sh), tb l (s.lay n sh)] := by
  have h1 := ok.us; have h2 := ok.fr; have h3 := ok.ws; have h4 := ok.st
  have okt : (s.take n).Ok := ⟨by simp [Sp.take, spl_length s.ws s.us (List.replicate n 0) (by simp; omega), h4], by simp [Sp.take, spl_length s.ws s.us (List.replicate n 0) (by simp; omega)]; omega, h2, by simp [Sp.take, spl_length s.ws s.us (List.replicate n 0) (by simp; omega)]; omega⟩
  have hlen : (s.take n).ws.length = s.ws.length := spl_length s.ws s.us (List.replicate n 0) (by simp; omega)
  have hnx : s.next = (s.fr : Int) + (s.us : Int) := rfl
  have hfr : (s.take n).fr = s.fr := rfl
  have hst : (s.take n).st.length = s.st.length := rfl
  refine ct_of (n := 33) Try.func84 rfl rfl (len rfl) fun hr w0 => ?_
  refine cd_seq (cd_region (st_v (v_assign rfl) (st_nil (nx_then (cd_seq (cd_region (st_v (v_move rfl) (st_v (v_nilCheck rfl) (st_v (v_fieldAddr rfl fa117_0 rfl) (st_v (v_move rfl) (st_cl rfl rfl en115 rfl (take_ct (l := l) (s := s) ok hn hn0) ?_)))))))))))
  rintro v h' ⟨rfl, rfl⟩
  simp only [List.cons_append, List.nil_append]
  refine st_v (v_assign rfl) (st_nil (nx_kp [0, 2, 6, 7] rfl (nx_then (cd_seq (cd_drawh (ork [(0, 2), (1, 2), (2, 2), (3, 1), (4, 2), (5, 2), (6, 2), (7, 2), (8, 2), (9, 1), (10, 2), (11, 2), (12, 0)] .nil) (fun i => !(Nat.beq i 12)) mixed (by kernel_rfl) ?_)))))
  refine dp_v rfl (v_move rfl) (dp_v rfl (v_nilCheck rfl) (dp_v rfl (v_fieldAddr rfl fa117_1 rfl) (dr_v rfl (v_ld rfl ld73) ?_)))
  refine dp_v rfl (v_move rfl) (dp_v rfl (v_move rfl) (dp_v rfl (v_nilCheck rfl) (dp_v rfl (v_fieldAddr rfl fa117_0 rfl) (dp_v rfl (v_fieldAddr rfl fa115_1 rfl) (dr_v rfl (v_ld rfl ld3) ?_)))))
  refine dp_v rfl (v_sub rfl rfl (by unfold I64 at *; omega)) (dp_v rfl (v_idx s.us rfl rfl sl73 (by omega) (by omega)) (dr_eff rfl (st_sto rfl rfl sz4 (dr_nx ?_))))
  refine dr_nil (nx_kp [0, 2, 6, 7] rfl (nx_then (cd_seq (cd_region (st_v (v_move rfl) (st_v (v_nilCheck rfl) (st_v (v_fieldAddr rfl fa117_0 rfl) (st_v (v_move rfl) (st_clr rfl rfl en61 rfl (word_ct (l := l) (s := s.take n) okt (by omega) (by omega)) ?_)))))))))
  refine st_v (v_move rfl) (st_v (v_nilCheck rfl) (st_sto rfl rfl sz3 ?_))
  refine st_nil (nx_kp [6, 7] rfl (nx_then (cd_seq (cd_region (st_v (v_move rfl) (st_v (v_assign rfl) (st_nil (nx_kp [6] rfl (nx_then (cd_ret ?_))))))))))
  have e1 : wb l (s.lay n sh) = pt l.wb (cl ((ints (s.take n).ws ++ l.wj).set (s.next - (s.take n).fr).toNat (.int .i64 sh)) 3) := by
    rw [show (s.next - (s.take n).fr).toNat = s.us by omega, set_ints (by omega)]; rfl
  have e2 : tb l (s.lay n sh) = pt l.tb (cl ((bools s.st ++ l.tj).set s.us (.bool true)) 4) := by
    rw [set_bools (by omega)]; rfl
  have e3 : sb l (s.lay n sh) = sb l (s.take n) := by
    unfold sb; simp only [Sp.take, Sp.lay, List.length_set]
  refine xt_ret rfl ⟨rfl, rfl⟩ ?_
  rw [e1, e2, e3]
  exact (by repeat (first | exact Sub.refl _ | refine Sub.sel (by repeat (first | exact Sel.here | apply Sel.there)) ?_ | apply Sub.cons))

set_option maxRecDepth 100000 in
/-- empty. -/
theorem empty_ct {l : SpL} {s : Sp} (ok : s.Ok) (hpos : 0 < s.st.length) :
    Ct Try.prog 82 #[.pointer (some ⟨l.sb, 0, none⟩)] [sb l s, tb l s] fun v h' => v = .tuple #[] ∧ h' = [sb l s.empty, tb l s.empty] := by
  have h1 := ok.us; have h2 := ok.fr; have h3 := ok.ws; have h4 := ok.st
  refine ct_of (n := 10) Try.func82 rfl rfl (len rfl) fun hr w0 => ?_
  refine cd_seq (cd_region (st_v (v_move rfl) (st_v (v_nilCheck rfl) (st_v (v_fieldAddr rfl fa117_0 rfl) (st_v (v_fieldAddr rfl fa115_2 rfl) (st_sto rfl rfl sz3 ?_))))))
  refine st_nil (nx_kp [0] rfl (nx_then (cd_region (st_v (v_move rfl) (st_v (v_nilCheck rfl) (st_v (v_fieldAddr rfl fa117_1 rfl) (st_v (v_ld rfl ld73) ?_)))))))
  refine st_clear rfl Try.underlying73 inf4 rfl rfl (by repeat (first | exact Sel.here | apply Sel.there)) (by simp [bools]) (.inl rfl) ?_
  refine st_nil (nx_kp [] rfl (nx_xt ?_))
  have e1 : tb l s.empty = pt l.tb (cl (splice (bools s.st ++ l.tj) 0 (List.replicate s.st.length (.bool false))) 4) := by
    rw [splice_bools]; rfl
  have e2 : sb l s.empty = pt l.sb (cl [.slice (some ⟨l.wb, 0, none⟩) s.ws.length (s.ws.length + l.wj.length), .int .i64 s.fr, .int .i64 0, .slice (some ⟨l.tb, 0, none⟩) s.st.length (s.st.length + l.tj.length)] 117) := by
    unfold sb; simp only [Sp.empty, List.length_replicate]; rfl
  refine xt_end rfl ⟨rfl, rfl⟩ ?_
  rw [e1, e2]
  exact (by repeat (first | exact Sub.refl _ | refine Sub.sel (by repeat (first | exact Sel.here | apply Sel.there)) ?_ | apply Sub.cons))
end Go.Proofs.Ytmhmpjgkkpbnnaa
namespace Go.Proofs.Ytmhmpjgkkpbnnaa
open Go.Ck Fx Go.Hm
attribute [local irreducible] St Cd Xt Nx DrL LsW

theorem spNew_eq {b1 b2 b3 fr n : Nat} : [pt b3 (cl [.slice (some ⟨b1, 0, none⟩) n n, .int .i64 fr, .int .i64 0, .slice (some ⟨b2, 0, none⟩) n n] 117), pt b1 (cl (List.replicate n (.int .i64 0)) 3), pt b2 (cl (List.replicate n (.bool false)) 4)] =
    spSH ⟨b3, b1, b2, [], []⟩ (Sp.new fr n) := by
  simp [spSH, sb, wb, tb, Sp.new, ints, bools]

set_option maxRecDepth 100000 in
/-- spaceOf: an empty space. -/
theorem spaceOf_ct {fr n : Nat} (hf : fr ≤ 1000000) (hn : n ≤ 1000000) :
    Ct Try.prog 45 #[.int .i64 fr, .int .i64 n] [] fun v h' => ∃ l : SpL, l.wj = [] ∧ l.tj = [] ∧ v = .pointer (some ⟨l.sb, 0, none⟩) ∧ h' = spSH l (Sp.new fr n) := by
  refine ct_of (n := 13) Try.func45 rfl rfl (len rfl) fun hr w0 => ?_
  refine cd_seq (cd_region (st_v (v_assign rfl) (st_nil (nx_then (cd_seq (cd_drawh (ork [(0, 2), (2, 2), (4, 2)] (.two 1 (ork [(3, 2), (5, 0), (6, 2), (7, 0), (8, 2)] .nil) 5 (ork [(1, 0), (3, 2), (6, 2), (7, 0), (8, 2)] .nil))) (fun i => !(Nat.beq i 1 || Nat.beq i 5 || Nat.beq i 7)) mixed (by kernel_rfl) ?_))))))
  refine dp_v rfl (v_move rfl) (dp_v rfl (v_move rfl) (dp_v rfl (v_move rfl) (dr_two rfl rfl ?_ ?_)))
  · skip
    refine st_make (n := n) rfl rfl rfl Try.underlying34 inf3 rfl (by omega) (by omega) (ltn rfl) fun b1 => dr_nx ?_
    refine dp_v rfl (v_build (cells := [.slice (some ⟨b1, 0, none⟩) n n, .int .i64 fr, .int .i64 0]) rfl (fun _ => by kernel_rfl)) ?_
    refine dr_eff rfl (st_make (n := n) rfl rfl rfl Try.underlying73 inf4 rfl (by omega) (by omega) (ltn rfl) fun b2 => dr_nx ?_)
    refine dp_v rfl (v_build (cells := [.slice (some ⟨b1, 0, none⟩) n n, .int .i64 fr, .int .i64 0, .slice (some ⟨b2, 0, none⟩) n n]) rfl (fun _ => by kernel_rfl)) ?_
    refine dr_eff rfl (st_bx rfl rfl fun b12 => dr_nx ?_)
    refine dp_v rfl (v_assign rfl) (dr_nil (nx_kp [4] rfl (nx_then (cd_ret (xt_ret rfl ⟨⟨b12, b1, b2, [], []⟩, rfl, rfl, rfl, spNew_eq⟩ ?_)))))
    exact (by repeat (first | exact Sub.refl _ | refine Sub.sel (by repeat (first | exact Sel.here | apply Sel.there)) ?_ | apply Sub.cons))
  · skip
    refine st_make (n := n) rfl rfl rfl Try.underlying73 inf4 rfl (by omega) (by omega) (ltn rfl) fun b2 => dr_nx ?_
    refine dr_eff rfl (st_make (n := n) rfl rfl rfl Try.underlying34 inf3 rfl (by omega) (by omega) (ltn rfl) fun b1 => dr_nx ?_)
    refine dp_v rfl (v_build (cells := [.slice (some ⟨b1, 0, none⟩) n n, .int .i64 fr, .int .i64 0]) rfl (fun _ => by kernel_rfl)) ?_
    refine dp_v rfl (v_build (cells := [.slice (some ⟨b1, 0, none⟩) n n, .int .i64 fr, .int .i64 0, .slice (some ⟨b2, 0, none⟩) n n]) rfl (fun _ => by kernel_rfl)) ?_
    refine dr_eff rfl (st_bx rfl rfl fun b12 => dr_nx ?_)
    refine dp_v rfl (v_assign rfl) (dr_nil (nx_kp [4] rfl (nx_then (cd_ret (xt_ret rfl ⟨⟨b12, b1, b2, [], []⟩, rfl, rfl, rfl, spNew_eq⟩ ?_)))))
    exact (by repeat (first | exact Sub.refl _ | refine Sub.sel (by repeat (first | exact Sel.here | apply Sel.there)) ?_ | apply Sub.cons))

set_option maxRecDepth 100000 in
/-- find: the first of some spaces of which something is so. -/
theorem find_ct {bs k : Nat} {cp : Array Value} {ps : List Nat} {hf : SH} {is : Nat → Bool} (hl : ps.length ≤ 1000000) (hE : Enters Try.prog k) (his : ∀ p ∈ ps, Reads Try.prog k (#[.pointer (some ⟨p, 0, none⟩)] ++ cp) hf (.bool (is p))) :
    Reads Try.prog 105 #[.func (.func k) #[] cp, .slice (some ⟨bs, 0, none⟩) ps.length ps.length] (pt bs (cl (ps.map fun p => .pointer (some ⟨p, 0, none⟩)) 95) :: hf)
      (.tuple #[.pointer ((ps.find? is).map (⟨·, 0, none⟩)), .bool (ps.find? is).isSome]) := by
  refine ct_of (n := 21) Try.func105 rfl rfl (len rfl) fun hr w0 => ?_
  refine cd_seq (cd_region (st_v (v_assign rfl) (st_v (v_assign rfl) (st_nil (nx_then (cd_seq (cd_seq (cd_region (st_v (v_move rfl) (st_v (v_len rfl Try.underlying178) (st_v (v_move rfl) (st_nil (nx_kp [0, 4, 5, 9, 10, 11] rfl (nx_then (cd_block (cd_loop (σ := Nat) (fun i => [(0, .func (.func k) #[] cp), (9, .slice (some ⟨bs, 0, none⟩) ps.length ps.length), (10, .int .i64 ps.length), (11, .int .i64 i)]) (fun _ => pt bs (cl (ps.map fun p => .pointer (some ⟨p, 0, none⟩)) 95) :: hf ++ hr) (fun i => i ≤ ps.length ∧ ∀ j p, j < i → ps[j]? = some p → is p = false) (fun i => ps.length - i) 0 ⟨Nat.zero_le _, fun _ _ h => absurd h (Nat.not_lt_zero _)⟩ ⟨rfl, rfl, rfl, rfl, trivial⟩ (.refl _) ?_))))))))))))))))
  rintro i ⟨hi, hne⟩
  refine cd_seq (cd_region (st_v (v_lss rfl rfl) (st_nil (nx_then (cd_seq (cd_cond rfl (fun hc => ?_) (fun hc => ?_)))))))
  · skip
    refine cd_skip (xt_then (cd_seq (cd_block (cd_seq (cd_region ?_)))))
    have hlt : i < ps.length := by simpa using hc
    have hrd : Rd (pt bs (cl (ps.map fun p => .pointer (some ⟨p, 0, none⟩)) 95)) ⟨bs, i, none⟩ (.pointer (some ⟨ps[i], 0, none⟩)) := rd_cl (by simp [hlt])
    refine st_v (v_idx i rfl rfl sl178 rfl hlt) (st_v (v_ld rfl ld95) ?_)
    refine st_v (v_assign rfl) (st_nil (nx_kp [0, 7, 9, 10, 11] rfl (nx_then (cd_seq (cd_region (st_v (v_move rfl) (st_v (v_move rfl) (st_callr rfl rfl hE rfl (his ps[i] (List.getElem_mem hlt)) (Pk.of List.perm_middle.symm) (ltn rfl) (st_nil (nx_kp [0, 7, 9, 10, 11, 17] rfl (nx_then (cd_cond rfl (fun hb => ?_) (fun hb => ?_)))))))))))))
    · skip
      refine cd_seq (cd_region (st_v (v_move rfl) (st_v (v_assign rfl) (st_v (v_assign rfl) (st_nil (nx_kp [0, 4, 5, 9, 10, 11] rfl (nx_then (cd_ret (xt_ret_block (xt_ret_then (xt_ret_then (xt_ret_block (xt_ret_then ?_)))))))))))))
      have hfd : ps.find? is = some ps[i] := by
        rw [List.find?_eq_some_iff_getElem]
        exact ⟨hb, i, hlt, rfl, fun j hj => by simpa using hne j ps[j] hj (List.getElem?_eq_getElem (by omega))⟩
      rw [hfd]
      exact xt_ret rfl ⟨rfl, rfl⟩ (.refl _)
    · skip
      refine cd_skip (xt_normal_block (xt_then (cd_region (st_v (v_add rfl rfl (by unfold I64 at *; omega)) (st_v (v_move rfl) (st_nil (nx_kp [0, 9, 10, 11] rfl (nx_xt (xt_again (i + 1) ⟨by omega, fun j p hj hp => ?_⟩ (by omega) ⟨rfl, rfl, rfl, rfl, trivial⟩ (.refl _))))))))))
      by_cases hji : j = i
      · subst hji; rw [List.getElem?_eq_getElem hlt] at hp; cases hp; exact hb
      · exact hne j p (by omega) hp
  · skip
    refine cd_exit (xt_exit_then (xt_exit_then (xt_exit_block (xt_then (cd_seq (cd_region (st_v (v_assign rfl) (st_nil (nx_kp [8] rfl (nx_then (cd_seq (cd_region (st_v (v_move rfl) (st_v (v_assign rfl) (st_v (v_assign rfl) ?_)))))))))))))))
    refine st_nil (nx_kp [4, 5] rfl (nx_then (cd_ret ?_)))
    have hge : ps.length ≤ i := by simpa using hc
    have hfd : ps.find? is = none := by
      rw [List.find?_eq_none]
      intro p hp
      obtain ⟨j, hj, rfl⟩ := List.getElem_of_mem hp
      simp [hne j ps[j] (by omega) (List.getElem?_eq_getElem hj)]
    rw [hfd]
    exact xt_ret rfl ⟨rfl, rfl⟩ (.refl _)

set_option maxRecDepth 100000 in
/-- The test that current gives to find. -/
theorem cur1_ct {l : SpL} {s : Sp} {t : Int} {bx : Nat} (ok : s.Ok) : Reads Try.prog 109 #[.pointer (some ⟨l.sb, 0, none⟩), .pointer (some ⟨bx, 0, none⟩)] [pt bx (cl [.int .i64 t] 3), sb l s, tb l s] (.bool (s.begins t)) := by
  refine ct_of (n := 7) Try.func109 rfl rfl (len rfl) fun hr w0 => ?_
  refine cd_seq (cd_region (st_v (v_assign rfl) (st_nil (nx_then (cd_seq (cd_region (st_v (v_move rfl) (st_v (v_ld rfl ld3) ?_))))))))
  refine st_clr rfl rfl en72 rfl (begins_ct (l := l) (s := s) ok) ?_
  refine st_v (v_assign rfl) (st_nil (nx_kp [3] rfl (nx_then (cd_ret ?_))))
  exact xt_ret rfl ⟨rfl, rfl⟩ (.refl _)

/-- The memory as plain data. -/
structure Mem where
  sh : List (List Bool)
  y : Sp
  n : Sp
  o : Sp
  kn : List (Int × Int)
  bu : Bool
  sc : Int
  mv : List (Int × Int)
  le : Int
/-- Where a memory lies. -/
structure MemL where
  mb : Nat
  vs : Value
  vk : Value
  mvb : Nat
  y : SpL
  n : SpL
  o : SpL
abbrev mb (L : MemL) (μ : Mem) : Res := pt L.mb (cl [L.vs, .pointer (some ⟨L.y.sb, 0, none⟩), .pointer (some ⟨L.n.sb, 0, none⟩), .pointer (some ⟨L.o.sb, 0, none⟩), L.vk, .bool μ.bu, .int .i64 μ.sc, .map (some L.mvb), .int .i64 μ.le] 100)
/-- What current returns. -/
def curP (L : MemL) (μ : Mem) (t : Int) : Option Addr := if μ.y.begins t then some ⟨L.y.sb, 0, none⟩ else if μ.n.begins t then some ⟨L.n.sb, 0, none⟩ else none
def Mem.cur (μ : Mem) (t : Int) : Bool := μ.y.begins t || μ.n.begins t
def curSH (L : MemL) (μ : Mem) : SH := [mb L μ, sb L.y μ.y, tb L.y μ.y, sb L.n μ.n, tb L.n μ.n]
theorem cur1_all {L : MemL} {μ : Mem} {t : Int} {b : Nat} (oy : μ.y.Ok) (on : μ.n.Ok) (hne : L.y.sb ≠ L.n.sb) : ∀ p ∈ [L.y.sb, L.n.sb], Reads Try.prog 109 (#[.pointer (some ⟨p, 0, none⟩)] ++ #[.pointer (some ⟨b, 0, none⟩)])
    [pt b (cl [.int .i64 t] 3), sb L.y μ.y, tb L.y μ.y, sb L.n μ.n, tb L.n μ.n] (.bool (if p = L.y.sb then μ.y.begins t else μ.n.begins t)) := by
  intro p hp
  simp only [List.mem_cons, List.not_mem_nil, or_false] at hp
  rcases hp with rfl | rfl
  · rw [if_pos rfl]; exact Reads.more (cur1_ct (l := L.y) oy) (Pk.cons .here (Pk.cons .here (Pk.cons .here Pk.nil)))
  · rw [if_neg (Ne.symm hne)]; exact Reads.more (cur1_ct (l := L.n) on) (Pk.cons .here (Pk.cons (.there (.there .here)) (Pk.cons (.there (.there .here)) Pk.nil)))
set_option maxRecDepth 100000 in
/-- current: the space in which a current object lies. -/
theorem current_ct {L : MemL} {μ : Mem} {t : Int} (oy : μ.y.Ok) (on : μ.n.Ok) (hne : L.y.sb ≠ L.n.sb) : Reads Try.prog 71 #[.pointer (some ⟨L.mb, 0, none⟩), .int .i64 t] (curSH L μ) (.tuple #[.pointer (curP L μ t), .bool (μ.cur t)]) := by
  unfold curSH
  refine ct_of (n := 19) Try.func71 rfl rfl (len rfl) fun hr w0 => ?_
  refine cd_seq (cd_region (st_bx rfl rfl fun b3 => ?_))
  refine st_v (v_assign rfl) (st_v (v_assign rfl) (st_nil (nx_kp [0, 3, 4, 5] rfl (nx_then (cd_seq (cd_drawh (ork [(0, 2), (1, 2), (2, 2), (3, 2), (4, 1), (5, 2), (6, 2), (7, 2), (8, 1), (9, 0), (10, 0), (11, 2), (12, 2), (13, 2), (14, 2)] .nil) (fun i => !(Nat.beq i 9 || Nat.beq i 10)) mixed (by kernel_rfl) ?_))))))
  refine dp_v rfl (v_makeFunc rfl rfl) (dp_v rfl (v_move rfl) (dp_v rfl (v_nilCheck rfl) (dp_v rfl (v_fieldAddr rfl fa100_1 rfl) (dr_v rfl (v_ld rfl ld95) ?_))))
  refine dp_v rfl (v_move rfl) (dp_v rfl (v_nilCheck rfl) (dp_v rfl (v_fieldAddr rfl fa100_2 rfl) (dr_v rfl (v_ld rfl ld95) ?_)))
  refine dr_eff rfl (st_buildSlice (cells := [.pointer (some ⟨L.y.sb, 0, none⟩), .pointer (some ⟨L.n.sb, 0, none⟩)]) rfl Try.underlying178 inf95 rfl rfl (by kernel_rfl) (ltn rfl) fun b15 => dr_nx ?_)
  refine dr_eff rfl (st_cl rfl rfl en105 rfl (find_ct (bs := b15) (k := 109) (cp := #[.pointer (some ⟨b3, 0, none⟩)]) (ps := [L.y.sb, L.n.sb]) (hf := [pt b3 (cl [.int .i64 t] 3), sb L.y μ.y, tb L.y μ.y, sb L.n μ.n, tb L.n μ.n]) (is := fun p => if p = L.y.sb then μ.y.begins t else μ.n.begins t) (by simp) en109 (cur1_all oy on hne)) ?_)
  rintro v h' ⟨rfl, rfl⟩
  have hc : ((List.find? (fun p => if p = L.y.sb then μ.y.begins t else μ.n.begins t) [L.y.sb, L.n.sb]).map (fun b => (⟨b, 0, none⟩ : Addr))) = curP L μ t ∧ (List.find? (fun p => if p = L.y.sb then μ.y.begins t else μ.n.begins t) [L.y.sb, L.n.sb]).isSome = μ.cur t := by
    unfold curP Mem.cur
    cases h1 : μ.y.begins t <;> cases h2 : μ.n.begins t <;> simp [h1, h2, List.find?_cons, Ne.symm hne]
  rw [hc.1, hc.2]
  refine dr_nx ?_
  refine dp_v rfl (v_extract rfl rfl) (dp_v rfl (v_extract rfl rfl) (dp_v rfl (v_assign rfl) (dp_v rfl (v_assign rfl) (dr_nil (nx_kp [4, 5] rfl (nx_then (cd_ret ?_)))))))
  exact xt_rt rfl ⟨rfl, rfl⟩
end Go.Proofs.Ytmhmpjgkkpbnnaa
namespace Go.Proofs.Ytmhmpjgkkpbnnaa
open Go.Ck Fx Go.Hm
attribute [local irreducible] St Cd Xt Nx DrL LsW

/-- u is a row of truths, which r holds. -/
def RowB (r : Res) (u : Value) (l : List Bool) : Prop := ∃ a cp, u = .slice a l.length cp ∧ (l = [] ∨ ∃ b o, a = some ⟨b, o, none⟩ ∧ ∀ j (h : j < l.length), Rd r ⟨b, o + j, none⟩ (.bool l[j]))
/-- v is a list of rows of truths, which r holds. -/
def Shp (r : Res) (v : Value) (sh : List (List Bool)) : Prop := ∃ a cp, v = .slice a sh.length cp ∧ (sh = [] ∨ ∃ b o, a = some ⟨b, o, none⟩ ∧ ∀ i (h : i < sh.length), ∃ u, Rd r ⟨b, o + i, none⟩ u ∧ RowB r u sh[i])
theorem Shp.row {r : Res} {v : Value} {sh : List (List Bool)} (h : Shp r v sh) {i : Nat} (hi : i < sh.length) : ∃ b o cp u, v = .slice (some ⟨b, o, none⟩) sh.length cp ∧ Rd r ⟨b, o + i, none⟩ u ∧ RowB r u sh[i] := by
  obtain ⟨a, cp, hv, hn⟩ := h
  rcases hn with e | ⟨b, o, ha, hr⟩
  · rw [e] at hi; simp at hi
  obtain ⟨u, h1, h2⟩ := hr i hi
  exact ⟨b, o, cp, u, by rw [hv, ha], h1, h2⟩
theorem RowB.at {r : Res} {u : Value} {l : List Bool} (h : RowB r u l) {j : Nat} (hj : j < l.length) : ∃ b o cp, u = .slice (some ⟨b, o, none⟩) l.length cp ∧ Rd r ⟨b, o + j, none⟩ (.bool l[j]) := by
  obtain ⟨a, cp, hv, hn⟩ := h
  rcases hn with e | ⟨b, o, ha, hr⟩
  · rw [e] at hj; simp at hj
  exact ⟨b, o, cp, by rw [hv, ha], hr j hj⟩

theorem getD_lt {α : Type} {l : List α} {d : α} {k : Nat} (h : k < l.length) : l.getD k d = l[k] := by simp [List.getD, h]
theorem getD_ge {α : Type} {l : List α} {d : α} {k : Nat} (h : l.length ≤ k) : l.getD k d = d := by simp [List.getD, h]
/-- The shape of a number. -/
def shAt (sh : List (List Bool)) (k : Int) : List Bool := sh.getD k.toNat []
structure ShOk (sh : List (List Bool)) : Prop where
  n : sh.length ≤ 100
  w : ∀ l ∈ sh, l.length ≤ 100
theorem ShOk.at {sh : List (List Bool)} (h : ShOk sh) (k : Int) : (shAt sh k).length ≤ 100 := by
  unfold shAt
  by_cases hk : k.toNat < sh.length
  · rw [getD_lt hk]; exact h.w _ (List.getElem_mem hk)
  · rw [getD_ge (by omega)]; simp
structure MOk (L : MemL) (μ : Mem) (S : Res) : Prop where
  y : μ.y.Ok
  n : μ.n.Ok
  o : μ.o.Ok
  yn : L.y.sb ≠ L.n.sb
  yo : L.y.sb ≠ L.o.sb
  no : L.n.sb ≠ L.o.sb
  sh : Shp S L.vs μ.sh
  shl : ShOk μ.sh

set_option maxRecDepth 100000 in
theorem made_ct {L : MemL} {μ : Mem} : Reads Try.prog 67 #[.pointer (some ⟨L.mb, 0, none⟩)] [mb L μ] (.bool true) := by
  refine ct_of (n := 12) Try.func67 rfl rfl (len rfl) fun hr w0 => ?_
  refine cd_seq (cd_region (st_v (v_assign rfl) (st_nil (nx_then (cd_seq (cd_region (st_v (v_move rfl) (st_v (v_neq_ptr_nil rfl rfl pt27) (st_v (v_move rfl) (st_vg rfl rfl (v_move rfl) (st_vg rfl rfl (v_nilCheck rfl) (st_vg rfl rfl (v_fieldAddr rfl fa100_1 rfl) (st_vg rfl rfl (v_ld rfl ld95) ?_)))))))))))))
  refine st_vg rfl rfl (v_neq_ptr_nil rfl rfl pt95) (st_v (v_pick_true rfl rfl) (st_v (v_assign rfl) (st_nil (nx_kp [2] rfl (nx_then (cd_ret ?_))))))
  exact xt_rt rfl ⟨rfl, rfl⟩
set_option maxRecDepth 100000 in
theorem made_nil_ct : Reads Try.prog 67 #[.pointer none] [] (.bool false) := by
  refine ct_of (n := 12) Try.func67 rfl rfl (len rfl) fun hr w0 => ?_
  refine cd_seq (cd_region (st_v (v_assign rfl) (st_nil (nx_then (cd_seq (cd_region (st_v (v_move rfl) (st_v (v_neq_ptr_nil rfl rfl pt27) (st_v (v_move rfl) (st_sk rfl rfl rfl ?_))))))))))
  refine st_sk rfl rfl rfl ?_
  refine st_sk rfl rfl rfl ?_
  refine st_sk rfl rfl rfl ?_
  refine st_sk rfl rfl rfl ?_
  refine st_v (v_pick_false rfl rfl) (st_v (v_assign rfl) (st_nil (nx_kp [2] rfl (nx_then (cd_ret ?_)))))
  exact xt_rt rfl ⟨rfl, rfl⟩

set_option maxRecDepth 100000 in
/-- size: how many words an object takes. -/
theorem size_ct {L : MemL} {μ : Mem} {S : Res} {l : SpL} {s : Sp} {t : Int} (ok : s.Ok) (h : (s.fr : Int) ≤ t) (h' : t < (s.fr : Int) + (s.ws.length : Int)) (hS : Shp S L.vs μ.sh) (hl : ShOk μ.sh) (h0 : 0 ≤ s.wd t) (h1 : s.wd t < μ.sh.length) :
    Reads Try.prog 112 #[.pointer (some ⟨L.mb, 0, none⟩), .pointer (some ⟨l.sb, 0, none⟩), .int .i64 t] [mb L μ, sb l s, wb l s, S] (.int .i64 (1 + (shAt μ.sh (s.wd t)).length)) := by
  have hk : (s.wd t).toNat < μ.sh.length := by omega
  obtain ⟨b, o, cp, u, hv, hu, a2, cp2, hu2, _⟩ := hS.row hk
  have hsz := hl.at (s.wd t)
  have hrd : Rd (wb l s) ⟨l.wb, (t - s.fr).toNat, none⟩ (.int .i64 (s.wd t)) := rd_ints (by omega)
  have hsh : shAt μ.sh (s.wd t) = μ.sh[(s.wd t).toNat] := by unfold shAt; exact getD_lt hk
  rw [hsh] at hsz ⊢
  refine ct_of (n := 22) Try.func112 rfl rfl (len rfl) fun hr w0 => ?_
  refine cd_seq (cd_region (st_v (v_assign rfl) (st_nil (nx_then (cd_seq (cd_drawh (ork [(0, 2), (1, 2), (2, 2), (3, 1), (4, 2), (5, 2), (6, 2), (7, 2), (8, 1), (9, 2), (10, 1), (11, 2), (12, 1), (13, 2), (14, 2), (15, 2)] .nil) (fun _ => true) mixed (by kernel_rfl) ?_))))))
  refine dp_v rfl (v_move rfl) (dp_v rfl (v_nilCheck rfl) (dp_v rfl (v_fieldAddr rfl fa100_0 rfl) (dr_v rfl (v_ld rfl ld22) ?_)))
  refine dp_v rfl (v_move rfl) (dp_v rfl (v_nilCheck rfl) (dp_v rfl (v_fieldAddr rfl fa117_0 rfl) (dp_v rfl (v_move rfl) (dr_clr rfl rfl rfl en61 rfl (word_ct (l := l) (s := s) ok h h') ?_))))
  refine dp_v rfl (v_nilCheck rfl) (dr_v rfl (v_ld rfl ld3) ?_)
  refine dp_v rfl (v_ixo _ (congrArg some hv) rfl sl22 (Int.toNat_of_nonneg h0).symm hk) (dr_v rfl (v_ld rfl ld73) ?_)
  refine dp_v rfl (v_len (congrArg some hu2) Try.underlying73) (dp_v rfl (v_add rfl rfl (by unfold I64 at *; omega)) (dp_v rfl (v_assign rfl) (dr_nil (nx_kp [6] rfl (nx_then (cd_ret ?_))))))
  exact xt_rt rfl ⟨rfl, rfl⟩
end Go.Proofs.Ytmhmpjgkkpbnnaa
namespace Go.Proofs.Ytmhmpjgkkpbnnaa
open Go.Ck Fx Go.Hm
attribute [local irreducible] St Cd Xt Nx DrL LsW

set_option maxRecDepth 100000 in
theorem refs_ct {mp sp : Value} {t : Int} (hm : mp.cells = #[mp]) (hs : sp.cells = #[sp]) : Ct Try.prog 70 #[mp, sp, .int .i64 t] [] fun v h' => ∃ b1 b2 b3, v = .func (.func 108) #[] #[.pointer (some ⟨b1, 0, none⟩), .pointer (some ⟨b2, 0, none⟩), .pointer (some ⟨b3, 0, none⟩)] ∧
    h' = [pt b1 (cl [mp] 27), pt b2 (cl [sp] 95), pt b3 (cl [.int .i64 t] 3)] := by
  refine ct_of (n := 8) Try.func70 rfl rfl (len rfl) fun hr w0 => ?_
  refine cd_seq (cd_region (st_box rfl hm (ltn rfl) fun b3 => ?_))
  refine st_box rfl hs (ltn rfl) fun b4 => ?_
  refine st_box rfl rfl (ltn rfl) fun b5 => ?_
  refine st_val (v_assign rfl) (ltn rfl) (st_nil (nx_then (cd_seq (cd_region (st_val (v_makeFunc rfl rfl) (ltn rfl) (st_val (v_assign rfl) (ltn rfl) (st_nil (nx_then (cd_ret ?_)))))))))
  exact xt_rt rfl ⟨b3, b4, b5, rfl, rfl⟩

/-- What lies there while the fields of an object are gone through. -/
def refH (L : MemL) (S : Res) (l : SpL) (b1 b2 b3 : Nat) (t : Int) (μ : Mem) (s : Sp) (rest : SH) : SH :=
  pt b1 (cl [.pointer (some ⟨L.mb, 0, none⟩)] 27) :: pt b2 (cl [.pointer (some ⟨l.sb, 0, none⟩)] 95) :: pt b3 (cl [.int .i64 t] 3) :: mb L μ :: sb l s :: wb l s :: S :: rest
set_option maxRecDepth 100000 in
theorem refs1_ct {σ : Type} {L : MemL} {S : Res} {sh : List (List Bool)} {l : SpL} {b1 b2 b3 yl fr ln : Nat} {t : Int} {row : List Bool} (μf : σ → Mem) (sp : σ → Sp) (rest : σ → SH) (Φ : Nat → σ → Prop) (Ψ : σ → Prop) (s0 : σ) (h0 : Φ 0 s0)
    (hS : Shp S L.vs sh) (hl : ShOk sh) (hk : 0 ≤ (sp s0).wd t) (hk1 : (sp s0).wd t < sh.length) (hrow : row = shAt sh ((sp s0).wd t))
    (hsp : ∀ i s, Φ i s → (sp s).Ok ∧ (sp s).fr = fr ∧ (sp s).ws.length = ln) (hb : (fr : Int) ≤ t) (hb' : t + 1 + row.length ≤ (fr : Int) + ln)
    (hy : ∀ i s, (hi : i < row.length) → row[i] = true → Φ i s → Yc Try.prog yl #[.int .i64 i, .pointer (some ⟨l.wb, (t + 1 + i - (sp s).fr).toNat, none⟩)] (refH L S l b1 b2 b3 t (μf s) (sp s) (rest s))
      fun v h' => ∃ s', h' = refH L S l b1 b2 b3 t (μf s') (sp s') (rest s') ∧ (v = .bool true ∧ Φ (i + 1) s' ∨ v = .bool false ∧ Ψ s'))
    (hn : ∀ i s, (hi : i < row.length) → row[i] = false → Φ i s → Φ (i + 1) s) :
    Ct Try.prog 108 #[.func (.yield yl) #[] #[], .pointer (some ⟨b1, 0, none⟩), .pointer (some ⟨b2, 0, none⟩), .pointer (some ⟨b3, 0, none⟩)] (refH L S l b1 b2 b3 t (μf s0) (sp s0) (rest s0))
      fun v h' => v = .tuple #[] ∧ ∃ s, h' = refH L S l b1 b2 b3 t (μf s) (sp s) (rest s) ∧ (Φ row.length s ∨ Ψ s) := by
  have hkn : ((sp s0).wd t).toNat < sh.length := by omega
  obtain ⟨ok0, hfr0, hln0⟩ := hsp 0 s0 h0
  obtain ⟨b, o, cp, u, hv, hu, a2, cp2, hu2, hrd2⟩ := hS.row hkn
  have hsz := hl.at ((sp s0).wd t)
  have hrd : Rd (wb l (sp s0)) ⟨l.wb, (t - (sp s0).fr).toNat, none⟩ (.int .i64 ((sp s0).wd t)) := rd_ints (by omega)
  have hsh : row = sh[((sp s0).wd t).toNat] := by rw [hrow]; unfold shAt; exact getD_lt hkn
  rw [← hrow] at hsz
  rw [← hsh] at hu2 hrd2
  have hws := ok0.ws
  have hfr1 := ok0.fr
  unfold refH
  refine ct_of (n := 42) Try.func108 rfl rfl (len rfl) fun hr w0 => ?_
  refine cd_seq (cd_drawh (ork [(0, 1), (1, 2), (2, 2), (3, 1), (4, 1), (5, 2), (6, 2), (7, 1), (8, 1), (9, 2), (10, 1), (11, 2), (12, 1), (13, 2), (14, 2)] .nil) (fun _ => true) mixed (by kernel_rfl) ?_)
  refine dr_v rfl (v_ld rfl ld27) ?_
  refine dp_v rfl (v_nilCheck rfl) (dp_v rfl (v_fieldAddr rfl fa100_0 rfl) (dr_v rfl (v_ld rfl ld22) ?_))
  refine dr_v rfl (v_ld rfl ld95) ?_
  refine dp_v rfl (v_nilCheck rfl) (dp_v rfl (v_fieldAddr rfl fa117_0 rfl) (dr_v rfl (v_ld rfl ld3) ?_))
  refine dr_clr rfl rfl rfl en61 rfl (word_ct (l := l) (s := sp s0) ok0 (by omega) (by omega)) ?_
  refine dp_v rfl (v_nilCheck rfl) (dr_v rfl (v_ld rfl ld3) ?_)
  refine dp_v rfl (v_ixo _ (congrArg some hv) rfl sl22 (Int.toNat_of_nonneg hk).symm hkn) (dr_v rfl (v_ld rfl ld73) ?_)
  refine dp_v rfl (v_len (congrArg some hu2) Try.underlying73) (dp_v rfl (v_move rfl) (dr_nil (nx_kp [0, 2, 3, 19, 20, 21] rfl (nx_then (cd_block (cd_loop (σ := Nat × σ) (fun q => [(0, .func (.yield yl) #[] #[]), (2, .pointer (some ⟨b2, 0, none⟩)), (3, .pointer (some ⟨b3, 0, none⟩)), (19, u), (20, .int .i64 row.length), (21, .int .i64 q.1)]) (fun q => refH L S l b1 b2 b3 t (μf q.2) (sp q.2) (rest q.2) ++ hr) (fun q => q.1 ≤ row.length ∧ Φ q.1 q.2) (fun q => row.length - q.1) (0, s0) ⟨Nat.zero_le _, h0⟩ ⟨rfl, rfl, rfl, rfl, rfl, rfl, trivial⟩ (Sub.refl _) ?_))))))
  rintro ⟨i, s⟩ ⟨hi, hΦ⟩
  obtain ⟨ok, hfr, hln⟩ := hsp i s hΦ
  unfold refH
  dsimp only
  refine cd_seq (cd_region (st_v (v_lss rfl rfl) (st_nil (nx_then (cd_seq (cd_cond rfl (fun hc => ?_) (fun hc => ?_)))))))
  · skip
    refine cd_skip (xt_then (cd_seq (cd_block (cd_seq (cd_region (st_v (v_move rfl) ?_))))))
    have hlt : i < row.length := by simpa using hc
    obtain ⟨b', o', cp', hu', hrd'⟩ := RowB.at ⟨a2, cp2, hu2, hrd2⟩ hlt
    refine st_v (v_ixo i (congrArg some hu') rfl sl73 rfl hlt) (st_v (v_ld rfl ld4) ?_)
    refine st_v (v_assign rfl) (st_v (v_assign rfl) (st_nil (nx_kp [0, 2, 3, 5, 6, 19, 20, 21] rfl (nx_then (cd_seq ?_)))))
    cases hb1 : row[i]
    · skip
      refine cd_drawh (ork [(0, 2), (1, 2), (2, 2), (3, 2), (4, 1), (5, 2), (6, 2), (7, 1), (8, 2), (9, 2), (10, 2), (11, 1), (12, 1), (13, 2), (14, 2)] .nil) (fun _ => true) mixed (by kernel_rfl) ?_
      refine dp_v rfl (v_move rfl) (dp_v rfl (v_move rfl) (dp_sk rfl rfl rfl rfl ?_))
      refine dp_sk rfl rfl rfl rfl ?_
      refine dr_sk rfl rfl rfl rfl ?_
      refine dp_sk rfl rfl rfl rfl ?_
      refine dp_sk rfl rfl rfl rfl ?_
      refine dr_sk rfl rfl rfl rfl ?_
      refine dp_sk rfl rfl rfl rfl ?_
      refine dp_sk rfl rfl rfl rfl ?_
      refine dp_sk rfl rfl rfl rfl ?_
      refine dr_sk rfl rfl rfl rfl ?_
      refine dr_sk rfl rfl rfl rfl ?_
      refine dp_sk rfl rfl rfl rfl ?_
      refine dp_v rfl (v_pick_false rfl rfl) (dr_nil (nx_kp [0, 2, 3, 19, 20, 21, 40] rfl (nx_then (cd_false rfl ?_))))
      refine cd_skip (xt_normal_block (xt_then (cd_region (st_v (v_add rfl rfl (by unfold I64 at *; omega)) (st_v (v_move rfl) (st_nil (nx_kp [0, 2, 3, 19, 20, 21] rfl (nx_xt ?_))))))))
      refine xt_ag (i + 1, s) ⟨hlt, hn i s hlt hb1 hΦ⟩ (by show _ - _ < _ - _; omega)
    · skip
      refine cd_drawh (ork [(0, 2), (1, 2), (2, 2), (3, 2), (4, 1), (5, 2), (6, 2), (7, 1), (8, 2), (9, 2), (10, 2), (11, 1), (12, 0), (13, 0), (14, 0)] .nil) (fun i => !(Nat.beq i 12 || Nat.beq i 13 || Nat.beq i 14)) mixed (by kernel_rfl) ?_
      refine dp_v rfl (v_move rfl) (dp_v rfl (v_move rfl) (dp_vg rfl rfl rfl (v_move rfl) (dp_vg rfl rfl rfl (v_move rfl) (dr_vg rfl rfl rfl (v_ld rfl ld95) ?_))))
      refine dp_vg rfl rfl rfl (v_nilCheck rfl) (dp_vg rfl rfl rfl (v_fieldAddr rfl fa117_0 rfl) (dr_vg rfl rfl rfl (v_ld rfl ld3) ?_))
      refine dp_vg rfl rfl rfl (v_add rfl rfl (by unfold I64 at *; omega)) (dp_vg rfl rfl rfl (v_move rfl) (dp_vg rfl rfl rfl (v_add rfl rfl (by unfold I64 at *; omega)) (dr_clrg rfl rfl rfl rfl rfl en61 rfl (word_ct (l := l) (s := sp s) ok (by omega) (by omega)) ?_)))
      refine dr_effg rfl rfl rfl (st_yield (gd := 27) (.inr ⟨_, _, rfl, rfl, rfl⟩) rfl rfl (hy i s hlt hb1 hΦ) (Pk.of (hr := hr) (List.Perm.refl _)) (ltn rfl) ?_)
      rintro v h' ⟨s', rfl, hv⟩
      unfold refH
      rcases hv with ⟨rfl, h1⟩ | ⟨rfl, h1⟩
      · skip
        refine dr_nx ?_
        refine dr_effg rfl rfl rfl (st_valg rfl rfl (v_not rfl) (ltn rfl) (dr_nx ?_))
        refine dr_eff rfl (st_v (v_pick_true rfl rfl) (dr_nx ?_))
        refine dr_nil (nx_kp [0, 2, 3, 19, 20, 21, 40] rfl (nx_then (cd_false rfl ?_)))
        refine cd_skip (xt_normal_block (xt_then (cd_region (st_v (v_add rfl rfl (by unfold I64 at *; omega)) (st_v (v_move rfl) (st_nil (nx_kp [0, 2, 3, 19, 20, 21] rfl (nx_xt ?_))))))))
        refine xt_ag (i + 1, s') ⟨hlt, h1⟩ (by show _ - _ < _ - _; omega)
      · skip
        refine dr_nx ?_
        refine dr_effg rfl rfl rfl (st_valg rfl rfl (v_not rfl) (ltn rfl) (dr_nx ?_))
        refine dr_eff rfl (st_v (v_pick_true rfl rfl) (dr_nx ?_))
        refine dr_nil (nx_kp [0, 2, 3, 19, 20, 21, 40] rfl (nx_then (cd_true rfl ?_)))
        refine cd_ret (xt_ret_block (xt_ret_then (xt_ret_then (xt_ret_block ?_))))
        exact xt_rt rfl ⟨rfl, s', rfl, .inr h1⟩
  · skip
    refine cd_exit (xt_exit_then (xt_exit_then (xt_exit_block ?_)))
    have hge : i = row.length := by have : row.length ≤ i := by simpa using hc
                                    omega
    subst hge
    exact xt_en rfl ⟨rfl, s, rfl, .inl hΦ⟩
end Go.Proofs.Ytmhmpjgkkpbnnaa
namespace Go.Proofs.Ytmhmpjgkkpbnnaa
open Go.Ck Fx Go.Hm
attribute [local irreducible] St Cd Xt Nx DrL LsW

set_option maxRecDepth 100000 in
theorem lay_ct' {l : SpL} {s : Sp} {n : Nat} {ni sh : Int} (e : ni = (n : Int)) (ok : s.Ok) (hn : s.us + n ≤ s.ws.length) (hn0 : 0 < n) :
    Ct Try.prog 84 #[.pointer (some ⟨l.sb, 0, none⟩), .int .i64 ni, .int .i64 sh] [sb l s, wb l s, tb l s] fun v h' => v = .int .i64 s.next ∧ h' = [sb l (s.lay n sh), wb l (s.lay n sh), tb l (s.lay n sh)] := by
  subst e; exact lay_ct ok hn hn0
def Mem.alloc (μ : Mem) (a : Int) : Int × Int × Mem :=
  if decide (a < 0) || decide ((μ.sh.length : Int) ≤ a) then (0, 1, μ) else
  if decide ((μ.y.ws.length : Int) - (μ.y.us : Int) < 1 + ((shAt μ.sh a).length : Int)) then (0, 14, μ) else
  (μ.y.next, 0, { μ with y := μ.y.lay (1 + (shAt μ.sh a).length) a })
def ySH (L : MemL) (μ : Mem) (S : Res) : SH := [mb L μ, sb L.y μ.y, wb L.y μ.y, tb L.y μ.y, S]
set_option maxRecDepth 100000 in
theorem alloc_ct {L : MemL} {μ : Mem} {S : Res} {a : Int} (oy : μ.y.Ok) (hS : Shp S L.vs μ.sh) (hl : ShOk μ.sh) :
    Ct Try.prog 33 #[.pointer (some ⟨L.mb, 0, none⟩), .int .i64 a] (ySH L μ S) fun v h' => v = .tuple #[.int .i64 (μ.alloc a).1, .int .i64 (μ.alloc a).2.1] ∧ h' = ySH L (μ.alloc a).2.2 S := by
  have h1 := oy.us; have h2 := oy.fr; have h3 := oy.ws
  obtain ⟨a0, cp0, hv, hrow⟩ := hS
  have hS' : Shp S L.vs μ.sh := ⟨a0, cp0, hv, hrow⟩
  have hsz := hl.at a
  unfold ySH Mem.alloc
  refine ct_of (n := 55) Try.func33 rfl rfl (len rfl) fun hr w0 => ?_
  refine cd_seq (cd_region (st_v (v_assign rfl) (st_v (v_assign rfl) (st_nil (nx_then (cd_seq (cd_block (cd_seq (cd_region (st_v (v_move rfl) (st_clr rfl rfl en67 rfl (made_ct (L := L) (μ := μ)) ?_)))))))))))
  refine st_v (v_not rfl) (st_v (v_assign rfl) (st_nil (nx_kp [0, 1, 4, 5, 6] rfl (nx_then (cd_false rfl ?_)))))
  refine cd_seq (cd_region (st_v (v_move rfl) (st_v (v_lss rfl rfl) (st_v (v_move rfl) (st_cut (k := 11) (d := 21) (v := .bool (decide (a < 0) || decide ((μ.sh.length : Int) ≤ a))) (fun hcut => bool_want (b := decide (a < 0)) false (fun hg => ?_) (fun hg => ?_)) ?_)))))
  · refine st_sk rfl rfl hg ?_
    refine st_sk rfl rfl hg ?_
    refine st_sk rfl rfl hg ?_
    refine st_sk rfl rfl hg ?_
    refine st_sk rfl rfl hg ?_
    refine st_sk rfl rfl hg ?_
    refine st_sk rfl rfl hg ?_
    refine st_v (v_pick_true (bool_ev rfl hg) rfl) ?_
    exact hcut _ (ssub_head (by first | rfl | (rw [hg]; rfl) | simp_all) (ssub_skip rfl (ssub_skip rfl (ssub_skip rfl (ssub_skip rfl (ssub_skip rfl (ssub_skip rfl (ssub_skip rfl (ssub_refl)))))))))
  · skip
    refine st_vg rfl (bool_get rfl hg) (v_move rfl) (st_vg rfl (bool_get rfl hg) (v_move rfl) (st_vg rfl (bool_get rfl hg) (v_nilCheck rfl) (st_vg rfl (bool_get rfl hg) (v_fieldAddr rfl fa100_0 rfl) (st_vg rfl (bool_get rfl hg) (v_ld rfl ld22) ?_))))
    refine st_vg rfl (bool_get rfl hg) (v_len (congrArg some hv) Try.underlying22) (st_vg rfl (bool_get rfl hg) (v_geq rfl rfl) (st_v (v_pick_false (bool_ev rfl hg) rfl) ?_))
    exact hcut _ (ssub_head (by first | rfl | (rw [hg]; rfl) | simp_all) (ssub_skip rfl (ssub_skip rfl (ssub_skip rfl (ssub_skip rfl (ssub_skip rfl (ssub_skip rfl (ssub_skip rfl (ssub_refl)))))))))
  refine st_v (v_assign rfl) (st_nil (nx_kp [0, 1, 4, 5, 10] rfl (nx_then (cd_cond rfl (fun hc => ?_) (fun hc => ?_)))))
  · skip
    refine cd_seq (cd_region (st_v (v_assign rfl) (st_v (v_assign rfl) (st_nil (nx_kp [0, 1, 4, 5] rfl (nx_then (cd_ret (xt_ret_block (xt_ret_then ?_)))))))))
    rw [if_pos hc]
    exact xt_rt rfl ⟨rfl, rfl⟩
  · skip
    refine cd_seq (cd_drawh (ork [(0, 2), (1, 2), (2, 2), (3, 1), (4, 2), (5, 2), (6, 1), (7, 2), (8, 2), (9, 2), (10, 1), (11, 2), (12, 2), (13, 1), (14, 2), (15, 2), (16, 2), (17, 2)] .nil) (fun _ => true) mixed (by kernel_rfl) ?_)
    refine dp_v rfl (v_move rfl) (dp_v rfl (v_nilCheck rfl) (dp_v rfl (v_fieldAddr rfl fa100_1 rfl) (dr_v rfl (v_ld rfl ld95) ?_)))
    refine dp_v rfl (v_nilCheck rfl) (dp_v rfl (v_fieldAddr rfl fa117_0 rfl) ?_)
    rw [if_neg (by rw [hc]; simp)]
    simp only [Bool.or_eq_false_iff, decide_eq_false_iff_not, Int.not_lt, Int.not_le] at hc
    have hk : a.toNat < μ.sh.length := by omega
    obtain ⟨b, o, cp, u, hv', hu, a2, cp2, hu2, _⟩ := hS'.row hk
    have hsh : shAt μ.sh a = μ.sh[a.toNat] := by unfold shAt; exact getD_lt hk
    rw [hsh] at hsz ⊢
    refine dr_clr rfl rfl rfl en83 rfl (room_ct (l := L.y) (s := μ.y) oy) ?_
    refine dp_v rfl (v_move rfl) (dp_v rfl (v_nilCheck rfl) (dp_v rfl (v_fieldAddr rfl fa100_0 rfl) (dr_v rfl (v_ld rfl ld22) ?_)))
    refine dp_v rfl (v_move rfl) (dp_v rfl (v_ixo _ (congrArg some hv') rfl sl22 (Int.toNat_of_nonneg hc.1).symm hk) (dr_v rfl (v_ld rfl ld73) ?_))
    refine dp_v rfl (v_len (congrArg some hu2) Try.underlying73) (dp_v rfl (v_add rfl rfl (by unfold I64 at *; omega)) (dp_v rfl (v_lss rfl rfl) (dp_v rfl (v_assign rfl) (dr_nil (nx_kp [0, 1, 4, 5, 22] rfl (nx_then (cd_cond rfl (fun hd => ?_) (fun hd => ?_))))))))
    · skip
      refine cd_seq (cd_region (st_v (v_assign rfl) (st_v (v_assign rfl) (st_nil (nx_kp [0, 1, 4, 5] rfl (nx_then (cd_ret (xt_ret_block (xt_ret_then ?_)))))))))
      rw [if_pos hd]
      exact xt_rt rfl ⟨rfl, rfl⟩
    · skip
      refine cd_skip (xt_normal_block (xt_then (cd_seq (cd_draw (ork [(0, 2), (1, 2), (2, 2), (3, 1), (4, 2), (5, 2), (6, 2), (7, 1), (8, 2), (9, 2), (10, 1), (11, 2), (12, 2), (13, 2), (14, 0), (15, 2), (16, 2)] .nil) (fun i => !(Nat.beq i 14)) [mb L μ, S] mixed (by kernel_rfl) ?_))))
      refine dp_v rfl (v_move rfl) (dp_v rfl (v_nilCheck rfl) (dp_v rfl (v_fieldAddr rfl fa100_1 rfl) (dr_v rfl (v_ld rfl ld95) ?_)))
      refine dp_v rfl (v_move rfl) (dp_v rfl (v_nilCheck rfl) (dp_v rfl (v_fieldAddr rfl fa100_0 rfl) (dr_v rfl (v_ld rfl ld22) ?_)))
      refine dp_v rfl (v_move rfl) ?_
      rw [if_neg (by rw [hd]; simp)]
      simp only [decide_eq_false_iff_not, Int.not_lt] at hd
      refine dp_v rfl (v_ixo _ (congrArg some hv') rfl sl22 (Int.toNat_of_nonneg hc.1).symm hk) (dr_v rfl (v_ld rfl ld73) ?_)
      refine dp_v rfl (v_len (congrArg some hu2) Try.underlying73) (dp_v rfl (v_add rfl rfl (by unfold I64 at *; omega)) (dp_v rfl (v_move rfl) (dr_eff rfl (st_cl rfl rfl en84 rfl (lay_ct' (l := L.y) (s := μ.y) (n := 1 + μ.sh[a.toNat].length) (sh := a) (by omega) oy (by omega) (by omega)) ?_))))
      rintro v h' ⟨rfl, rfl⟩
      simp only [List.cons_append, List.nil_append]
      refine dr_nx ?_
      refine dp_v rfl (v_assign rfl) (dp_v rfl (v_assign rfl) (dr_nil (nx_kp [4, 5] rfl (nx_then (cd_ret ?_)))))
      exact xt_rt rfl ⟨rfl, rfl⟩

/-- Each object of a space has a shape, and lies in it. -/
def SpOk (sh : List (List Bool)) (s : Sp) : Prop := ∀ t, s.begins t = true → 0 ≤ s.wd t ∧ s.wd t < sh.length ∧ t + 1 + (shAt sh (s.wd t)).length ≤ (s.fr : Int) + s.us
theorem begins_bd {s : Sp} {t : Int} (h : s.begins t = true) : (s.fr : Int) ≤ t ∧ t < (s.fr : Int) + s.us := by
  unfold Sp.begins at h
  rw [Bool.and_eq_true] at h
  exact Sp.has_iff.1 h.1

def Mem.shapeOf (μ : Mem) (t : Int) : Int × Int := if μ.y.begins t then (μ.y.wd t, 0) else if μ.n.begins t then (μ.n.wd t, 0) else (0, 5)
set_option maxRecDepth 100000 in
theorem shape_ct {L : MemL} {μ : Mem} {t : Int} (oy : μ.y.Ok) (on : μ.n.Ok) (hne : L.y.sb ≠ L.n.sb) :
    Reads Try.prog 42 #[.pointer (some ⟨L.mb, 0, none⟩), .int .i64 t] [mb L μ, sb L.y μ.y, tb L.y μ.y, sb L.n μ.n, tb L.n μ.n, wb L.y μ.y, wb L.n μ.n] (.tuple #[.int .i64 (μ.shapeOf t).1, .int .i64 (μ.shapeOf t).2]) := by
  have h1 := oy.us; have h2 := on.us
  unfold Mem.shapeOf
  refine ct_of (n := 26) Try.func42 rfl rfl (len rfl) fun hr w0 => ?_
  refine cd_seq (cd_region (st_v (v_assign rfl) (st_v (v_assign rfl) (st_nil (nx_then (cd_seq (cd_seq (cd_region (st_v (v_move rfl) (st_clr rfl rfl en67 rfl (made_ct (L := L) (μ := μ)) ?_))))))))))
  refine st_v (v_not rfl) (st_nil (nx_kp [0, 1, 4, 5, 10] rfl (nx_then (cd_false rfl ?_))))
  refine cd_skip (xt_then (cd_seq (cd_region (st_v (v_move rfl) (st_v (v_move rfl) (st_clr rfl rfl en71 rfl (current_ct (L := L) (μ := μ) oy on hne) ?_))))))
  refine st_v (v_move rfl) (st_v (v_extract rfl rfl) (st_v (v_extract rfl rfl) (st_v (v_assign rfl) (st_v (v_assign rfl) (st_nil (nx_kp [1, 4, 5, 6, 7] rfl (nx_then (cd_seq (cd_seq (cd_region (st_v (v_move rfl) (st_v (v_not rfl) (st_nil (nx_kp [1, 4, 5, 6, 18] rfl (nx_then ?_)))))))))))))))
  unfold curP Mem.cur
  cases hy : μ.y.begins t
  · skip
    cases hn : μ.n.begins t
    · skip
      refine cd_true rfl ?_
      refine cd_seq (cd_region (st_v (v_assign rfl) (st_v (v_assign rfl) (st_nil (nx_kp [1, 4, 5, 6] rfl (nx_then (cd_ret (xt_ret_then ?_))))))))
      exact xt_rt rfl ⟨rfl, rfl⟩
    · skip
      have hb := begins_bd hn
      have hrd : Rd (wb L.n μ.n) ⟨L.n.wb, (t - μ.n.fr).toNat, none⟩ (.int .i64 (μ.n.wd t)) := rd_ints (by omega)
      refine cd_false rfl ?_
      refine cd_skip (xt_then (cd_seq (cd_region (st_v (v_move rfl) (st_v (v_nilCheck rfl) (st_v (v_fieldAddr rfl fa117_0 rfl) (st_v (v_move rfl) (st_clr rfl rfl en61 rfl (word_ct (l := L.n) (s := μ.n) on (by omega) (by omega)) ?_))))))))
      refine st_v (v_nilCheck rfl) (st_v (v_ld rfl ld3) ?_)
      refine st_v (v_assign rfl) (st_v (v_assign rfl) (st_nil (nx_kp [4, 5] rfl (nx_then (cd_ret ?_)))))
      exact xt_rt rfl ⟨rfl, rfl⟩
  · skip
    have hb := begins_bd hy
    have hrd : Rd (wb L.y μ.y) ⟨L.y.wb, (t - μ.y.fr).toNat, none⟩ (.int .i64 (μ.y.wd t)) := rd_ints (by omega)
    refine cd_false rfl ?_
    refine cd_skip (xt_then (cd_seq (cd_region (st_v (v_move rfl) (st_v (v_nilCheck rfl) (st_v (v_fieldAddr rfl fa117_0 rfl) (st_v (v_move rfl) (st_clr rfl rfl en61 rfl (word_ct (l := L.y) (s := μ.y) oy (by omega) (by omega)) ?_))))))))
    refine st_v (v_nilCheck rfl) (st_v (v_ld rfl ld3) ?_)
    refine st_v (v_assign rfl) (st_v (v_assign rfl) (st_nil (nx_kp [4, 5] rfl (nx_then (cd_ret ?_)))))
    exact xt_rt rfl ⟨rfl, rfl⟩

end Go.Proofs.Ytmhmpjgkkpbnnaa
