/-
  What is always so of a yard is kept by the parts of a step: all but the count of what is awaited. Nothing of the program is named here. No condition.
  A queue that is put; what is awaited; all together. Nothing of the program is named here. No condition.
  What is always so of a yard is kept by a step. Nothing of the program is named here. No condition.
  What is always so of a yard is kept by a step: requests, their beginning, and a step as a whole. Nothing of the program is named here. No condition.
  What is always so of a yard is kept by a step: jobs that end, requests that are left out, the step itself. Nothing of the program is named here. No condition.
  What is always so of a yard is kept by a step; it is so at the beginning. Nothing of the program is named here. No condition.
  A step of the yard is that of the yard with all that has been. Nothing of the program is named here. No condition.
  A step of the yard is that of the yard with all that has been: its parts, and as a whole. Nothing of the program is named here. No condition.
  A step of the yard is that of the yard with all that has been: as a whole. Nothing of the program is named here. No condition.
  Steps that may be exchanged: what a step of one processor leaves of another one, and of its step. Nothing of the program is named here. No condition.
-/
import Derived.Test.YtboepbencndobaaGreatM2
set_option linter.unusedVariables false
set_option linter.unusedSimpArgs false
namespace Go.Wt
theorem HYard.pr_put {h : HYard} {i t : Nat} {p : HProc} (hi : i < h.procs.length) : (h.put i p).pr t = if t = i then p else h.pr t := by
 split
 ·rename_i e; subst e; exact HYard.pr_put_same hi
 ·rename_i e; exact HYard.pr_put_ne (Ne.symm e)
theorem HYard.pr_ap {h : HYard} {i t : Nat} {e : Eff} (hi : i < h.procs.length) : (h.ap (i, e)).pr t = if t = i then e.ap (h.pr i) else h.pr t := HYard.pr_put hi
theorem HYard.ap_len {h : HYard} {a : Nat × Eff} : (h.ap a).procs.length = h.procs.length := HYard.put_len
theorem HYard.aps_len : ∀ {A : Effs} {h : HYard}, (h.aps A).procs.length = h.procs.length
 | [], _ => rfl
 | a :: A, h => by show ((h.ap a).aps A).procs.length = _; rw [HYard.aps_len, HYard.ap_len]
theorem HYard.aps_jobs : ∀ {A : Effs} {h : HYard}, (h.aps A).jobs = h.jobs
 | [], _ => rfl
 | a :: A, h => by show ((h.ap a).aps A).jobs = _; rw [HYard.aps_jobs]; rfl
theorem mem_modify {l : List HLine} {j : Nat} {f : HLine → HLine} {x : HLine} (h : x ∈ l.modify j f) : ∃ y ∈ l, x = y ∨ x = f y := by
 obtain ⟨i, hi⟩ := List.getElem?_of_mem h
 rw [modify_get] at hi
 split at hi
 ·rw [Option.map_eq_some_iff] at hi
  obtain ⟨y, hy, rfl⟩ := hi
  exact ⟨y, List.mem_of_getElem? hy, .inr rfl⟩
 ·exact ⟨x, List.mem_of_getElem? hi, .inl rfl⟩
theorem mem_upd {l : List HLine} {k : Key} {f : HLine → HLine} {x : HLine} (h : x ∈ updh k f l) : ∃ y ∈ l, (y.key = k ∧ x = f y) ∨ (y.key ≠ k ∧ x = y) := by
 obtain ⟨y, hy, rfl⟩ := List.mem_map.1 h
 refine ⟨y, hy, ?_⟩
 by_cases h : y.key = k
 ·exact .inl ⟨h, by rw [if_pos h]⟩
 ·exact .inr ⟨h, by rw [if_neg h]⟩
section
variable {h : HYard}
theorem HInv0.put (H : HInv0 h) {i : Nat} {p' : HProc} (hi : i < h.procs.length) (ok : p'.Ok i h.procs.length h.jobs.length h.jlen) (hk : ∀ l ∈ p'.hl, ∃ l0 ∈ (h.pr i).hl, l0.key = l.key) (hm : (h.pr i).made ≤ p'.made)
  (hh : ∀ x ∈ p'.holds, x.2.2 = false → x ∈ (h.pr i).holds) (hh' : ∀ x ∈ (h.pr i).holds, x.2.2 = false → x ∈ p'.holds)
  (hl : ∀ (j : Nat) (l : HLine), (h.pr i).gone ≤ j → (h.pr i).hl[j]? = some l → l.closed = false → ∃ (j' : Nat) (l' : HLine), p'.gone ≤ j' ∧ p'.hl[j']? = some l' ∧ l'.key = l.key ∧ l'.closed = false)
  (ho : ∀ l ∈ p'.hl, l.closed = false → ∃ l0 ∈ (h.pr i).hl, l0.key = l.key ∧ l0.closed = false) : HInv0 (h.put i p') := by
 have hpr : ∀ t, (h.put i p').pr t = if t = i then p' else h.pr t := fun t => HYard.pr_put hi
 have hn : (h.put i p').procs.length = h.procs.length := HYard.put_len
 have hmem : ∀ t, ∀ l ∈ ((h.put i p').pr t).hl, ∃ l0 ∈ (h.pr t).hl, l0.key = l.key := fun t l hml => by
  rw [hpr] at hml
  split at hml
  ·rename_i e; subst e; exact hk l hml
  ·exact ⟨l, hml, rfl⟩
 have hmade : ∀ t, (h.pr t).made ≤ ((h.put i p').pr t).made := fun t => by
  rw [hpr]
  split
  ·rename_i e; subst e; exact hm
  ·exact Int.le_refl _
 refine ⟨by rw [hn]; exact H.pos, by rw [hn]; exact H.chk, fun t ht => ?_, fun s t hs ht hst l hml k hmk => ?_, fun t ht l hml => ?_, fun t ht x hx hx2 => ?_, fun t ht l hml hc => ?_⟩
 ·rw [hn, hpr]
  rw [hn] at ht
  split
  ·rename_i e; subst e; exact ok
  ·exact H.ok t ht
 ·rw [hn] at hs ht
  obtain ⟨l0, h1, h2⟩ := hmem s l hml
  obtain ⟨k0, h3, h4⟩ := hmem t k hmk
  rw [← h2, ← h4]
  exact H.uniq s t hs ht hst l0 h1 k0 h3
 ·rw [hn] at ht
  obtain ⟨l0, h1, h2⟩ := hmem t l hml
  have := H.kmade t ht l0 h1
  rw [h2] at this
  exact Int.lt_of_lt_of_le this (hmade _)
 ·rw [hn] at ht
  have hx' : x ∈ (h.pr t).holds := by
   rw [hpr] at hx
   split at hx
   ·rename_i e; subst e; exact hh x hx hx2
   ·exact hx
  obtain ⟨j, l, h1, h2, h3, h4⟩ := H.held t ht x hx' hx2
  rw [hpr]
  split
  ·rename_i e
   rw [e] at h1 h2
   obtain ⟨j', l', g1, g2, g3, g4⟩ := hl j l h1 h2 h4
   exact ⟨j', l', g1, g2, g3.trans h3, g4⟩
  ·exact ⟨j, l, h1, h2, h3, h4⟩
 ·rw [hn] at ht
  obtain ⟨l0, h1, h2, h3⟩ : ∃ l0 ∈ (h.pr t).hl, l0.key = l.key ∧ l0.closed = false := by
   rw [hpr] at hml
   split at hml
   ·rename_i e; subst e; exact ho l hml hc
   ·exact ⟨l, hml, rfl, hc⟩
  have := H.opened t ht l0 h1 h3
  rw [h2] at this
  rw [hpr]
  split
  ·rename_i e
   rw [e] at this
   exact hh' _ this rfl
  ·exact this
theorem HInv0.put' (H : HInv0 h) {i : Nat} {p' : HProc} (hi : i < h.procs.length) (ok : p'.Ok i h.procs.length h.jobs.length h.jlen) (hk : p'.hl = (h.pr i).hl) (hg : p'.gone = (h.pr i).gone) (hm : (h.pr i).made ≤ p'.made)
  (hh : ∀ x ∈ p'.holds, x.2.2 = false → x ∈ (h.pr i).holds) (hh' : ∀ x ∈ (h.pr i).holds, x.2.2 = false → x ∈ p'.holds) : HInv0 (h.put i p') :=
 H.put hi ok (fun l hl => ⟨l, hk ▸ hl, rfl⟩) hm hh hh' (fun j l h1 h2 h3 => ⟨j, l, hg ▸ h1, hk ▸ h2, rfl, h3⟩) (fun l hl hc => ⟨l, hk ▸ hl, rfl, hc⟩)
theorem HInv0.pc (H : HInv0 h) {i : Nat} (hi : i < h.procs.length) (hj : 0 ≤ (h.pr i).job) {v : Int} (h1 : 0 ≤ v) (h2 : v ≤ h.jlen (h.pr i).job) : HInv0 (h.ap (i, .pc v)) :=
 H.put' hi ((H.ok i hi).pc hj h1 h2) rfl rfl (Int.le_refl _) (fun _ hx _ => hx) (fun _ hx _ => hx)
theorem HInv0.holdOwn (H : HInv0 h) {i : Nat} (hi : i < h.procs.length) (hj : 0 ≤ (h.pr i).job) {to : Int} (h1 : 0 ≤ to ∧ to < h.procs.length) : HInv0 (h.ap (i, .hold (to, (0, 0), true))) :=
 H.put' hi ((H.ok i hi).holdOwn hj h1) rfl rfl (Int.le_refl _) (fun x hx hx2 => by
  rcases List.mem_append.1 hx with hx | hx
  ·exact hx
  ·obtain rfl := List.mem_singleton.1 hx; cases hx2) (fun _ hx _ => List.mem_append_left _ hx)
theorem HInv0.wait (H : HInv0 h) {i : Nat} (hi : i < h.procs.length) (hj : 0 ≤ (h.pr i).job) {v : Int} (hv : v = -1 ∨ 0 ≤ v ∧ v < h.procs.length ∧ v ≠ i) : HInv0 (h.ap (i, .waits v)) :=
 H.put' hi ((H.ok i hi).wait hj hv) rfl rfl (Int.le_refl _) (fun _ hx _ => hx) (fun _ hx _ => hx)
theorem HInv0.ask (H : HInv0 h) {t : Nat} (ht : t < h.procs.length) {k : Key} {a : Ask} (hc : ∀ l ∈ (h.pr t).hl, l.key = k → l.closed = false) (ha : 0 ≤ a.1 ∧ a.1 < h.jobs.length) : HInv0 (h.ap (t, .ask k a)) := by
 refine H.put ht ((H.ok t ht).ask' hc ha) (fun l hl => ?_) (Int.le_refl _) (fun _ hx _ => hx) (fun _ hx _ => hx) (fun j l h1 h2 h3 => ?_) (fun l hl hcl => ?_)
 ·obtain ⟨y, hy, ⟨_, e⟩ | ⟨_, e⟩⟩ := mem_upd hl <;> exact ⟨y, hy, by rw [e]; first | done | rfl⟩
 ·refine ⟨j, if l.key = k then HLine.asked a l else l, h1, ?_, ?_, ?_⟩
  ·show (updh k (HLine.asked a) _)[j]? = _
   rw [updh_get, h2]; rfl
  ·split <;> rfl
  ·split <;> exact h3
 ·obtain ⟨y, hy, ⟨_, e⟩ | ⟨_, e⟩⟩ := mem_upd hl <;> exact ⟨y, hy, by (rw [e]; first | done | rfl), by rw [e] at hcl; exact hcl⟩
theorem HInv0.modify (H : HInv0 h) {i : Nat} (hi : i < h.procs.length) {p' : HProc} (ok : p'.Ok i h.procs.length h.jobs.length h.jlen) {j : Nat} {f : HLine → HLine} (hf : ∀ x, (f x).key = x.key ∧ (f x).closed = x.closed) (hk : p'.hl = (h.pr i).hl.modify j f) (hg : p'.gone = (h.pr i).gone)
  (hm : p'.made = (h.pr i).made) (hh : p'.holds = (h.pr i).holds) : HInv0 (h.put i p') := by
 refine H.put hi ok (fun l hl => ?_) (by rw [hm]; exact Int.le_refl _) (fun x hx _ => hh ▸ hx) (fun x hx _ => hh.symm ▸ hx) (fun q l h1 h2 h3 => ?_) (fun l hl hcl => ?_)
 ·rw [hk] at hl
  obtain ⟨y, hy, e | e⟩ := mem_modify hl
  ·exact ⟨y, hy, by rw [e]⟩
  ·exact ⟨y, hy, by rw [e, (hf y).1]⟩
 ·refine ⟨q, if j = q then f l else l, hg ▸ h1, ?_, ?_, ?_⟩
  ·rw [hk, modify_get, h2]; split <;> rfl
  ·split
   ·exact (hf l).1
   ·rfl
  ·split
   ·rw [(hf l).2]; exact h3
   ·exact h3
 ·rw [hk] at hl
  obtain ⟨y, hy, e | e⟩ := mem_modify hl
  ·exact ⟨y, hy, by rw [e], by rw [← e]; exact hcl⟩
  ·exact ⟨y, hy, by rw [e, (hf y).1], by rw [← (hf y).2, ← e]; exact hcl⟩
theorem modify_modify (l : List HLine) (j : Nat) (f g : HLine → HLine) : (l.modify j f).modify j g = l.modify j (g ∘ f) := by
 apply List.ext_getElem?
 intro i
 rw [modify_get, modify_get, modify_get]
 by_cases h : j = i
 ·simp [h]
 ·simp [h]
theorem HYard.ap_ap {i : Nat} {e f : Eff} (hi : i < h.procs.length) : (h.ap (i, e)).ap (i, f) = h.put i (f.ap (e.ap (h.pr i))) := by
 show (h.ap (i, e)).put i (f.ap ((h.ap (i, e)).pr i)) = _
 rw [HYard.pr_ap hi, if_pos rfl]
 exact HYard.put_put
theorem HInv0.begin (H : HInv0 h) {i : Nat} (hi : i < h.procs.length) (hj : (h.pr i).job < 0) {a : Ask} {r : List Ask} (hg : (h.pr i).gone < (h.pr i).hl.length) (ha : (h.pr i).head.all.drop (h.pr i).head.tk = a :: r) (hb : (h.pr i).head.broken = false) :
  HInv0 (h.aps [(i, .tk (h.pr i).gone), (i, .job a.1 a.2)]) := by
 show HInv0 ((h.ap _).ap _)
 rw [HYard.ap_ap hi]
 exact H.modify hi ((H.ok i hi).begin hj hg ha hb) (f := HLine.take) (fun _ => ⟨rfl, rfl⟩) rfl rfl rfl rfl
theorem HInv0.left (H : HInv0 h) {i : Nat} (hi : i < h.procs.length) (hj : (h.pr i).job < 0) {a : Ask} {r : List Ask} (hg : (h.pr i).gone < (h.pr i).hl.length) (ha : (h.pr i).head.all.drop (h.pr i).head.tk = a :: r) :
  HInv0 (h.aps [(i, .tk (h.pr i).gone), (i, .res (h.pr i).gone true false)]) := by
 show HInv0 ((h.ap _).ap _)
 rw [HYard.ap_ap hi]
 exact H.modify hi ((H.ok i hi).left hj hg ha) (f := HLine.fin true false ∘ HLine.take) (fun _ => ⟨rfl, rfl⟩) (modify_modify _ _ _ _) rfl rfl rfl
theorem HInv0.stop (H : HInv0 h) {i : Nat} (hi : i < h.procs.length) (hj : 0 ≤ (h.pr i).job) (hw : (h.pr i).waits = -1) (hh : (h.pr i).holds = []) (f : Bool) : HInv0 (h.aps [(i, .idle), (i, .res (h.pr i).gone false f)]) := by
 show HInv0 ((h.ap _).ap _)
 rw [HYard.ap_ap hi]
 exact H.modify hi ((H.ok i hi).stop hj hw f) (f := HLine.fin false f) (fun _ => ⟨rfl, rfl⟩) rfl rfl rfl hh.symm
theorem HInv0.go (H : HInv0 h) {i : Nat} (hi : i < h.procs.length) (hj : (h.pr i).job < 0) (hg : (h.pr i).gone < (h.pr i).hl.length) (ha : (h.pr i).head.all.drop (h.pr i).head.tk = []) (hc : (h.pr i).head.closed = true) : HInv0 (h.ap (i, .gone)) := by
 refine H.put hi ((H.ok i hi).go hj hg ha hc) (fun l hl => ⟨l, hl, rfl⟩) (Int.le_refl _) (fun _ hx _ => hx) (fun _ hx _ => hx) (fun j l h1 h2 h3 => ⟨j, l, ?_, h2, rfl, h3⟩) (fun l hl hcl => ⟨l, hl, rfl, hcl⟩)
 show (h.pr i).gone + 1 ≤ j
 have h1 : (h.pr i).gone ≤ j := h1
 rcases Nat.lt_or_ge (h.pr i).gone j with h4 | h4
 ·exact h4
 ·have : j = (h.pr i).gone := by omega
  subst this
  rw [get_head hg] at h2
  obtain rfl := Option.some.inj h2
  rw [hc] at h3; cases h3
theorem dropLast_nodup {α : Type} {l : List α} {x : α} (h : l.getLast? = some x) : l = l.dropLast ++ [x] := by
 obtain ⟨ys, hy⟩ := List.getLast?_eq_some_iff.1 h
 rw [hy]; simp
theorem HInv0.leave (H : HInv0 h) {i : Nat} (hi : i < h.procs.length) (hj : 0 ≤ (h.pr i).job) {x : Hold} (hx : (h.pr i).holds.getLast? = some x) : HInv0 (h.aps ((i, .holds (h.pr i).holds.dropLast) :: clh x)) := by
 have hsplit := dropLast_nodup hx
 have hxm : x ∈ (h.pr i).holds := by rw [hsplit]; simp
 have oki := H.ok i hi
 have hdrop := oki.drop hj
 unfold clh
 split
 ·rename_i hown
  refine H.put' hi hdrop rfl rfl (Int.le_refl _) (fun y hy _ => List.dropLast_subset _ hy) (fun y hy hy2 => ?_)
  rw [hsplit] at hy
  rcases List.mem_append.1 hy with hy | hy
  ·exact hy
  ·obtain rfl := List.mem_singleton.1 hy
   rw [hown] at hy2; cases hy2
 ·rename_i hown
  have hx2 : x.2.2 = false := by simpa using hown
  obtain ⟨g1, g2, g3⟩ := oki.hold x hxm
  rw [if_neg hown] at g3
  have ht : x.1.toNat < h.procs.length := by omega
  have hti : x.1.toNat ≠ i := fun e => g3.1 (by omega)
  have hxt : ((x.1.toNat : Nat) : Int) = x.1 := Int.toNat_of_nonneg g1
  show HInv0 ((h.ap (i, .holds (h.pr i).holds.dropLast)).ap (x.1.toNat, .close x.2.1))
  have hn : ((h.ap (i, .holds (h.pr i).holds.dropLast)).ap (x.1.toNat, .close x.2.1)).procs.length = h.procs.length := by rw [HYard.ap_len, HYard.ap_len]
  have hpr : ∀ t, ((h.ap (i, .holds (h.pr i).holds.dropLast)).ap (x.1.toNat, .close x.2.1)).pr t = if t = x.1.toNat then (Eff.close x.2.1).ap (h.pr t) else if t = i then (Eff.holds (h.pr i).holds.dropLast).ap (h.pr i) else h.pr t := fun t => by
   rw [HYard.pr_ap (by rw [HYard.ap_len]; exact ht), HYard.pr_ap hi, HYard.pr_ap hi, if_neg hti]
   by_cases e : t = x.1.toNat
   ·rw [if_pos e, if_pos e, e]
   ·rw [if_neg e, if_neg e]
  have hmem : ∀ t, ∀ l ∈ (((h.ap (i, .holds (h.pr i).holds.dropLast)).ap (x.1.toNat, .close x.2.1)).pr t).hl, ∃ l0 ∈ (h.pr t).hl, l0.key = l.key ∧ (l.closed = false → l0.closed = false ∧ (t = x.1.toNat → l.key ≠ x.2.1)) := fun t l hl => by
   rw [hpr] at hl
   split at hl
   ·obtain ⟨y, hy, ⟨h1, rfl⟩ | ⟨h1, rfl⟩⟩ := mem_upd hl
    ·exact ⟨y, hy, rfl, fun h => by cases h⟩
    ·exact ⟨l, hy, rfl, fun h => ⟨h, fun _ => h1⟩⟩
   ·rename_i e
    split at hl
    ·rename_i e2; subst e2; exact ⟨l, hl, rfl, fun h => ⟨h, fun h2 => absurd h2 e⟩⟩
    ·exact ⟨l, hl, rfl, fun h => ⟨h, fun h2 => absurd h2 e⟩⟩
  have hmade : ∀ t, (((h.ap (i, .holds (h.pr i).holds.dropLast)).ap (x.1.toNat, .close x.2.1)).pr t).made = (h.pr t).made := fun t => by
   rw [hpr]
   split
   ·rfl
   ·split
    ·rename_i e2; subst e2; rfl
    ·rfl
  have hgone : ∀ t, (((h.ap (i, .holds (h.pr i).holds.dropLast)).ap (x.1.toNat, .close x.2.1)).pr t).gone = (h.pr t).gone := fun t => by
   rw [hpr]
   split
   ·rfl
   ·split
    ·rename_i e2; subst e2; rfl
    ·rfl
  have hholds : ∀ t, (((h.ap (i, .holds (h.pr i).holds.dropLast)).ap (x.1.toNat, .close x.2.1)).pr t).holds = if t = i then (h.pr i).holds.dropLast else (h.pr t).holds := fun t => by
   rw [hpr]
   split
   ·rename_i e; rw [if_neg (by rw [e]; exact hti)]; rfl
   ·split
    ·rfl
    ·rfl
  refine ⟨by rw [hn]; exact H.pos, by rw [hn]; exact H.chk, fun t ht' => ?_, fun s t hs ht' hst l hl k hk => ?_, fun t ht' l hl => ?_, fun t ht' y hy hy2 => ?_, fun t ht' l hl hc => ?_⟩
  ·rw [hn] at ht'
   rw [hn, hpr]
   split
   ·exact (H.ok t ht').close'
   ·split
    ·rename_i e; subst e; exact hdrop
    ·exact H.ok t ht'
  ·rw [hn] at hs ht'
   obtain ⟨l0, h1, h2, _⟩ := hmem s l hl
   obtain ⟨k0, h3, h4, _⟩ := hmem t k hk
   rw [← h2, ← h4]
   exact H.uniq s t hs ht' hst l0 h1 k0 h3
  ·rw [hn] at ht'
   obtain ⟨l0, h1, h2, _⟩ := hmem t l hl
   have := H.kmade t ht' l0 h1
   rw [h2] at this
   rw [hmade]; exact this
  ·rw [hn] at ht'
   have hy' : y ∈ (h.pr t).holds := by
    rw [hholds] at hy
    split at hy
    ·rename_i e; subst e; exact List.dropLast_subset _ hy
    ·exact hy
   obtain ⟨j, l, h1, h2, h3, h4⟩ := H.held t ht' y hy' hy2
   refine ⟨j, l, by rw [hgone]; exact h1, ?_, h3, h4⟩
   rw [hpr]
   split
   ·rename_i e
    show (updh x.2.1 HLine.shut _)[j]? = _
    rw [updh_get, h2]
    have : ¬ l.key = x.2.1 := fun e2 => by
     have h5 := (H.ok t ht').hold y hy'
     have h6 := h5.2.2
     rw [if_neg (by simp [hy2])] at h6
     have h7 : y.2.1.1 = x.2.1.1 := by rw [← h3, e2]
     have h8 : t = i := by have := h6.2.1; have := g3.2.1; omega
     subst h8
     rw [hholds, if_pos rfl] at hy
     have hyx : y.1 = x.1 := by have := h5.1; omega
     have hnd := oki.hu
     rw [hsplit, List.filter_append, List.map_append, List.nodup_append] at hnd
     exact hnd.2.2 y.1 (List.mem_map.2 ⟨y, List.mem_filter.2 ⟨hy, by simp [hy2]⟩, rfl⟩) x.1 (by simp [hx2]) hyx
    rw [Option.map_some, if_neg this]
   ·split
    ·rename_i e2
     rw [e2] at h2; exact h2
    ·exact h2
  ·rw [hn] at ht'
   obtain ⟨l0, h1, h2, h3⟩ := hmem t l hl
   obtain ⟨h4, h5⟩ := h3 hc
   have := H.opened t ht' l0 h1 h4
   rw [h2] at this
   rw [hholds]
   split
   ·rename_i e
    rw [e, hsplit] at this
    rcases List.mem_append.1 this with this | this
    ·exact this
    ·have e1 := List.mem_singleton.1 this
     exfalso
     exact h5 (by rw [← e1]; simp) (by rw [← e1])
   ·exact this
end
end Go.Wt
namespace Go.Wt
section
variable {h h' : HYard}
theorem HInv0.fresh (H : HInv0 h) {i t : Nat} (ht : t < h.procs.length) {l : HLine} (hl : l ∈ (h.pr t).hl) : l.key ≠ (h.pr i).next i := fun e => by
 have := H.kmade t ht l hl
 rw [e] at this
 unfold HProc.next at this
 simp only [Int.toNat_natCast] at this
 omega
theorem HInv0.lay (H : HInv0 h) {i to : Nat} (hi : i < h.procs.length) (hto : to < h.procs.length) {x : HLine} (hx : x.key = (h.pr i).next i) (hn : h'.procs.length = h.procs.length) (hj : h'.jobs = h.jobs)
  (ok : ∀ t, t < h.procs.length → (h'.pr t).Ok t h.procs.length h.jobs.length h.jlen) (hhl : ∀ t, (h'.pr t).hl = if t = to then (h.pr t).hl ++ [x] else (h.pr t).hl) (hg : ∀ t, (h'.pr t).gone = (h.pr t).gone)
  (hm : ∀ t, (h'.pr t).made = if t = i then (h.pr t).made + 1 else (h.pr t).made) (hh : ∀ t, (h'.pr t).holds = if t = i ∧ x.closed = false then (h.pr t).holds ++ [((to : Int), x.key, false)] else (h.pr t).holds) : HInv0 h' := by
 have hjl : h'.jlen = h.jlen := by funext j; simp [HYard.jlen, hj]
 have hmem : ∀ t l, l ∈ (h'.pr t).hl → l ∈ (h.pr t).hl ∨ (t = to ∧ l = x) := fun t l hl => by
  rw [hhl] at hl
  split at hl
  ·rename_i e
   rcases List.mem_append.1 hl with hl | hl
   ·exact .inl hl
   ·exact .inr ⟨e, List.mem_singleton.1 hl⟩
  ·exact .inl hl
 have hget : ∀ t (j : Nat) (l : HLine), (h.pr t).hl[j]? = some l → (h'.pr t).hl[j]? = some l := fun t j l hl => by
  rw [hhl]
  split
  ·rw [List.getElem?_append_left (List.getElem?_eq_some_iff.1 hl).1]; exact hl
  ·exact hl
 refine ⟨by rw [hn]; exact H.pos, by rw [hn, hj]; exact H.chk, fun t ht => by rw [hn, hj, hjl]; exact ok t (hn ▸ ht), fun s t hs ht hst l hl k hk => ?_, fun t ht l hl => ?_, fun t ht y hy hy2 => ?_, fun t ht l hl hc => ?_⟩
 ·rw [hn] at hs ht
  rcases hmem s l hl with h1 | ⟨h1, rfl⟩
  ·rcases hmem t k hk with h2 | ⟨h2, rfl⟩
   ·exact H.uniq s t hs ht hst l h1 k h2
   ·rw [hx]; exact H.fresh hs h1
  ·rcases hmem t k hk with h2 | ⟨h2, rfl⟩
   ·rw [hx]; exact (H.fresh ht h2).symm
   ·exact absurd (h1.trans h2.symm) hst
 ·rw [hn] at ht
  rw [hm]
  rcases hmem t l hl with h1 | ⟨h1, rfl⟩
  ·have := H.kmade t ht l h1
   split <;> omega
  ·rw [hx]
   have e : (h.pr i).next i = ((i : Int), (h.pr i).made) := rfl
   rw [e, if_pos (Int.toNat_natCast i)]
   simp only [Int.toNat_natCast]
   omega
 ·rw [hn] at ht
  rw [hh] at hy
  have hold : y ∈ (h.pr t).holds → ∃ (j : Nat) (l : HLine), (h'.pr y.1.toNat).gone ≤ j ∧ (h'.pr y.1.toNat).hl[j]? = some l ∧ l.key = y.2.1 ∧ l.closed = false := fun hy' => by
   obtain ⟨j, l, h1, h2, h3, h4⟩ := H.held t ht y hy' hy2
   exact ⟨j, l, by rw [hg]; exact h1, hget _ j l h2, h3, h4⟩
  split at hy
  ·rename_i e
   rcases List.mem_append.1 hy with hy | hy
   ·exact hold hy
   ·obtain rfl := List.mem_singleton.1 hy
    refine ⟨(h.pr to).hl.length, x, ?_, ?_, rfl, e.2⟩
    ·simp only [Int.toNat_natCast]
     rw [hg]; exact (H.ok to hto).gl
    ·simp only [Int.toNat_natCast]
     rw [hhl, if_pos rfl, List.getElem?_append_right (Nat.le_refl _)]
     simp
  ·exact hold hy
 ·rw [hn] at ht
  rw [hh]
  rcases hmem t l hl with h1 | ⟨h1, rfl⟩
  ·have := H.opened t ht l h1 hc
   split
   ·exact List.mem_append_left _ this
   ·exact this
  ·have e : l.key.1.toNat = i := by rw [hx]; exact Int.toNat_natCast i
   rw [if_pos ⟨e, hc⟩, h1]
   exact List.mem_append_right _ (by simp)
theorem HInv0.spawn (H : HInv0 h) {i to : Nat} (hi : i < h.procs.length) (hto : to < h.procs.length) {x : HLine} (hx : x.key = (h.pr i).next i) (hxa : ∀ a ∈ x.all, 0 ≤ a.1 ∧ a.1 < h.jobs.length) (h0 : x.tk = 0) (h1 : x.res = []) (h2 : x.broken = false) (hc : x.closed = true) :
  HInv0 (h.aps [(to, .line x), (i, .made)]) := by
 have hn : (h.aps [(to, .line x), (i, .made)]).procs.length = h.procs.length := HYard.aps_len
 have hpr : ∀ t, (h.aps [(to, .line x), (i, .made)]).pr t = if t = i then (Eff.made).ap (if t = to then (Eff.line x).ap (h.pr t) else h.pr t) else if t = to then (Eff.line x).ap (h.pr t) else h.pr t := fun t => by
  show ((h.ap (to, .line x)).ap (i, .made)).pr t = _
  rw [HYard.pr_ap (by rw [HYard.ap_len]; exact hi), HYard.pr_ap hto, HYard.pr_ap hto]
  by_cases e : t = i
  ·subst e
   rw [if_pos rfl, if_pos rfl]
   by_cases e2 : t = to
   ·subst e2; rfl
   ·rw [if_neg e2, if_neg e2]
  ·rw [if_neg e, if_neg e]
   by_cases e2 : t = to
   ·subst e2; rfl
   ·rw [if_neg e2, if_neg e2]
 have hkn : x.key ∉ (h.pr to).hl.map HLine.key := fun hm => by
  obtain ⟨l, hl, he⟩ := List.mem_map.1 hm
  exact H.fresh hto hl (he.trans hx)
 have hm0 := (H.ok i hi).made
 have hline : ((Eff.line x).ap (h.pr to)).Ok to h.procs.length h.jobs.length h.jlen := (H.ok to hto).line' hkn (by rw [hx]; show (0 : Int) ≤ (i : Int) ∧ (i : Int) < _ ∧ 0 ≤ (h.pr i).made; omega) hxa h0 h1 h2
 refine H.lay hi hto hx hn rfl (fun t ht => ?_) (fun t => ?_) (fun t => ?_) (fun t => ?_) (fun t => ?_)
 ·rw [hpr]
  by_cases e2 : t = to
  ·subst e2
   rw [if_pos rfl]
   split
   ·exact hline.made'
   ·exact hline
  ·rw [if_neg e2]
   split
   ·exact (H.ok t ht).made'
   ·exact H.ok t ht
 ·rw [hpr]
  by_cases e : t = i <;> by_cases e2 : t = to <;> (first | simp only [if_neg e, if_neg e2] | simp only [if_neg e, if_pos e2] | simp only [if_pos e, if_neg e2] | simp only [if_pos e, if_pos e2]) <;> rfl
 ·rw [hpr]
  by_cases e : t = i <;> by_cases e2 : t = to <;> (first | simp only [if_neg e, if_neg e2] | simp only [if_neg e, if_pos e2] | simp only [if_pos e, if_neg e2] | simp only [if_pos e, if_pos e2]) <;> rfl
 ·rw [hpr]
  by_cases e : t = i <;> by_cases e2 : t = to <;> (first | simp only [if_neg e, if_neg e2] | simp only [if_neg e, if_pos e2] | simp only [if_pos e, if_neg e2] | simp only [if_pos e, if_pos e2]) <;> rfl
 ·rw [hc]
  have hno : ¬ (t = i ∧ true = false) := fun h => by cases h.2
  rw [if_neg hno, hpr]
  by_cases e : t = i <;> by_cases e2 : t = to <;> (first | simp only [if_neg e, if_neg e2] | simp only [if_neg e, if_pos e2] | simp only [if_pos e, if_neg e2] | simp only [if_pos e, if_pos e2]) <;> rfl
theorem HInv0.reserve (H : HInv0 h) {i to : Nat} (hi : i < h.procs.length) (hto : to < h.procs.length) (hne : to ≠ i) (hj : 0 ≤ (h.pr i).job) (hno : (h.pr i).hold to = none) :
  HInv0 (h.aps [(to, .line ⟨(h.pr i).next i, [], 0, [], false, false⟩), (i, .made), (i, .hold ((to : Int), (h.pr i).next i, false))]) := by
 generalize hx : (⟨(h.pr i).next i, [], 0, [], false, false⟩ : HLine) = x
 have hxk : x.key = (h.pr i).next i := by rw [← hx]
 have hpr : ∀ t, (h.aps [(to, .line x), (i, .made), (i, .hold ((to : Int), (h.pr i).next i, false))]).pr t = if t = i then (Eff.hold ((to : Int), (h.pr i).next i, false)).ap ((Eff.made).ap (h.pr t)) else if t = to then (Eff.line x).ap (h.pr t) else h.pr t := fun t => by
  show (((h.ap (to, .line x)).ap (i, .made)).ap (i, .hold ((to : Int), (h.pr i).next i, false))).pr t = _
  rw [HYard.ap_ap (h := h.ap (to, .line x)) (by rw [HYard.ap_len]; exact hi), HYard.pr_put (by rw [HYard.ap_len]; exact hi), HYard.pr_ap hto, HYard.pr_ap hto]
  by_cases e : t = i
  ·subst e
   rw [if_pos rfl, if_pos rfl, if_neg (Ne.symm hne)]
  ·rw [if_neg e, if_neg e]
   by_cases e2 : t = to
   ·subst e2; rfl
   ·rw [if_neg e2, if_neg e2]
 have hkn : x.key ∉ (h.pr to).hl.map HLine.key := fun hm => by
  obtain ⟨l, hl, he⟩ := List.mem_map.1 hm
  exact H.fresh hto hl (he.trans hxk)
 have hm0 := (H.ok i hi).made
 have hline : ((Eff.line x).ap (h.pr to)).Ok to h.procs.length h.jobs.length h.jlen := (H.ok to hto).line' hkn (by rw [hxk]; show (0 : Int) ≤ (i : Int) ∧ (i : Int) < _ ∧ 0 ≤ (h.pr i).made; omega) (fun a ha => by rw [← hx] at ha; simp at ha) (by rw [← hx]) (by rw [← hx]) (by rw [← hx])
 have hxc : x.closed = false := by rw [← hx]
 refine H.lay hi hto hxk HYard.aps_len rfl (fun t ht => ?_) (fun t => ?_) (fun t => ?_) (fun t => ?_) (fun t => ?_)
 ·rw [hpr]
  by_cases e : t = i
  ·subst e
   rw [if_pos rfl]
   exact (H.ok t ht).hold' hj (by omega) (by omega) hno
  ·rw [if_neg e]
   by_cases e2 : t = to
   ·subst e2; rw [if_pos rfl]; exact hline
   ·rw [if_neg e2]; exact H.ok t ht
 ·rw [hpr]
  by_cases e : t = i
  ·subst e; rw [if_pos rfl, if_neg (Ne.symm hne)]; rfl
  ·rw [if_neg e]
   by_cases e2 : t = to <;> (first | simp only [if_neg e2] | simp only [if_pos e2]) <;> rfl
 ·rw [hpr]
  by_cases e : t = i <;> by_cases e2 : t = to <;> (first | simp only [if_neg e, if_neg e2] | simp only [if_neg e, if_pos e2] | simp only [if_pos e, if_neg e2] | simp only [if_pos e, if_pos e2]) <;> rfl
 ·rw [hpr]
  by_cases e : t = i
  ·subst e; rw [if_pos rfl, if_pos rfl]; rfl
  ·rw [if_neg e, if_neg e]
   by_cases e2 : t = to <;> (first | simp only [if_neg e2] | simp only [if_pos e2]) <;> rfl
 ·rw [hpr, hxc]
  by_cases e : t = i
  ·subst e; rw [if_pos rfl, if_pos ⟨rfl, rfl⟩, hxk]; rfl
  ·have hno : ¬ (t = i ∧ false = false) := fun h => e h.1
   rw [if_neg e, if_neg hno]
   by_cases e2 : t = to <;> (first | simp only [if_neg e2] | simp only [if_pos e2]) <;> rfl

/-! ## What is awaited -/
theorem drop_head {p : HProc} (hg : p.gone < p.hl.length) : p.hl.drop p.gone = p.head :: p.hl.drop (p.gone + 1) := by
 rw [List.drop_eq_getElem_cons hg]
 congr 1
 have := get_head hg
 rw [List.getElem?_eq_getElem hg] at this
 exact Option.some.inj this
theorem aw_head {p : HProc} (hg : p.gone < p.hl.length) (s : Int) : p.aw s = p.head.aw s + ((p.hl.drop (p.gone + 1)).map (HLine.aw s)).sum + (if p.waited = true ∧ p.head.key.1 = s then 1 else 0) := by
 unfold HProc.aw
 rw [drop_head hg]; simp
theorem drop_modify (l : List HLine) (j : Nat) (f : HLine → HLine) : (l.modify j f).drop (j + 1) = l.drop (j + 1) := by
 apply List.ext_getElem?
 intro i
 rw [List.getElem?_drop, List.getElem?_drop, modify_get, if_neg (by omega)]
theorem aw_modify {p q : HProc} {f : HLine → HLine} (hg : p.gone < p.hl.length) (h1 : q.hl = p.hl.modify p.gone f) (h2 : q.gone = p.gone) (s : Int) :
  q.head = f p.head ∧ q.aw s = (f p.head).aw s + ((p.hl.drop (p.gone + 1)).map (HLine.aw s)).sum + (if q.waited = true ∧ (f p.head).key.1 = s then 1 else 0) := by
 have hq : q.head = f p.head := by
  refine head_get ?_
  rw [h1, h2, modify_get, if_pos rfl, get_head hg]; rfl
 refine ⟨hq, ?_⟩
 rw [aw_head (by rw [h1, h2]; simpa using hg), hq, h1, h2, drop_modify]
theorem updh_drop (k : Key) (f : HLine → HLine) (l : List HLine) (n : Nat) : (updh k f l).drop n = updh k f (l.drop n) := by unfold updh; rw [List.map_drop]
theorem sum_upd {k : Key} {f : HLine → HLine} (hf : ∀ x, (f x).key = x.key) (g : HLine → Nat) : ∀ {l : List HLine} {x : HLine}, (l.map HLine.key).Nodup → x ∈ l → x.key = k → ((updh k f l).map g).sum + g x = (l.map g).sum + g (f x)
 | y :: l, x, hnd, hx, hk => by
  rw [List.map_cons, List.nodup_cons] at hnd
  rcases List.mem_cons.1 hx with rfl | hx
  ·have : updh k f l = l := by
    unfold updh
    conv => rhs; rw [← List.map_id l]
    apply List.map_congr_left
    intro z hz
    rw [if_neg (fun e => hnd.1 (by rw [hk, ← e]; exact List.mem_map.2 ⟨z, hz, rfl⟩))]; rfl
   show (((if x.key = k then f x else x) :: updh k f l).map g).sum + g x = _
   rw [this, if_pos hk]
   simp only [List.map_cons, List.sum_cons]
   omega
  ·have hy : y.key ≠ k := fun e => hnd.1 (by rw [e, ← hk]; exact List.mem_map.2 ⟨x, hx, rfl⟩)
   have := sum_upd hf g hnd.2 hx hk
   show (((if y.key = k then f y else y) :: updh k f l).map g).sum + g x = _
   rw [if_neg hy]
   simp only [List.map_cons, List.sum_cons]
   omega
theorem aw_fin (s : Int) (a b : Bool) (l : HLine) : (l.fin a b).aw s = l.aw s := rfl
theorem head_close {p : HProc} {k : Key} : ((Eff.close k).ap p).head.key = p.head.key := by
 show ((updh k HLine.shut p.hl).getD p.gone HLine.none).key = (p.hl.getD p.gone HLine.none).key
 rw [List.getD_eq_getElem?_getD, List.getD_eq_getElem?_getD, updh_get]
 cases p.hl[p.gone]? with
 | none => rfl
 | some x =>
  simp only [Option.map_some, Option.getD_some]
  split <;> rfl
theorem aw_close {p : HProc} {k : Key} (s : Int) : ((Eff.close k).ap p).aw s = p.aw s := by
 unfold HProc.aw
 rw [head_close]
 show ((List.drop p.gone (updh k HLine.shut p.hl)).map _).sum + _ = _
 rw [updh_drop]
 congr 2
 unfold updh
 rw [List.map_map]
 apply List.map_congr_left
 intro x _
 show HLine.aw s (if x.key = k then x.shut else x) = _
 split <;> rfl
theorem head_line {p : HProc} {x : HLine} (hg : p.gone < p.hl.length) : ((Eff.line x).ap p).head = p.head := by
 refine head_get ?_
 show (p.hl ++ [x])[p.gone]? = _
 rw [List.getElem?_append_left hg, get_head hg]
theorem aw_line {p : HProc} {x : HLine} (hgl : p.gone ≤ p.hl.length) (hb : p.waited = true → p.gone < p.hl.length) (s : Int) : ((Eff.line x).ap p).aw s = p.aw s + x.aw s := by
 unfold HProc.aw
 have e1 : ((Eff.line x).ap p).hl.drop ((Eff.line x).ap p).gone = p.hl.drop p.gone ++ [x] := List.drop_append_of_le_length hgl
 have e2 : (if ((Eff.line x).ap p).waited = true ∧ ((Eff.line x).ap p).head.key.1 = s then 1 else 0) = (if p.waited = true ∧ p.head.key.1 = s then 1 else 0) := by
  by_cases hw : p.waited = true
  ·rw [head_line (hb hw)]; rfl
  ·rw [if_neg (fun h => hw h.1), if_neg (fun h => hw h.1)]
 rw [e1, e2, List.map_append, List.sum_append]
 simp only [List.map_cons, List.map_nil, List.sum_cons, List.sum_nil]
 omega
theorem head_ask {p : HProc} {k : Key} {a : Ask} : ((Eff.ask k a).ap p).head.key = p.head.key := by
 show ((updh k (HLine.asked a) p.hl).getD p.gone HLine.none).key = (p.hl.getD p.gone HLine.none).key
 rw [List.getD_eq_getElem?_getD, List.getD_eq_getElem?_getD, updh_get]
 cases p.hl[p.gone]? with
 | none => rfl
 | some x =>
  simp only [Option.map_some, Option.getD_some]
  split <;> rfl
theorem aw_ask {p : HProc} {k : Key} {a : Ask} {j : Nat} {l : HLine} (hnd : (p.hl.map HLine.key).Nodup) (hj : p.gone ≤ j) (hl : p.hl[j]? = some l) (hk : l.key = k) (htk : l.tk ≤ l.all.length) (s : Int) :
  ((Eff.ask k a).ap p).aw s = p.aw s + (if k.1 = s ∧ a.2 = true then 1 else 0) := by
 unfold HProc.aw
 rw [head_ask]
 have hm : l ∈ p.hl.drop p.gone := by
  refine List.mem_of_getElem? (i := j - p.gone) ?_
  rw [List.getElem?_drop, show p.gone + (j - p.gone) = j by omega]; exact hl
 have := sum_upd (k := k) (f := HLine.asked a) (fun _ => rfl) (HLine.aw s) (l := p.hl.drop p.gone) (x := l) (by rw [List.map_drop]; exact hnd.sublist (List.drop_sublist _ _)) hm hk
 have e1 : ((Eff.ask k a).ap p).hl.drop ((Eff.ask k a).ap p).gone = updh k (HLine.asked a) (p.hl.drop p.gone) := updh_drop _ _ _ _
 have e2 : (HLine.asked a l).aw s = l.aw s + (if k.1 = s ∧ a.2 = true then 1 else 0) := by
  unfold HLine.aw
  show (if l.key.1 = s then ((l.all ++ [a]).drop l.tk).countP (·.2) else 0) = _
  rw [hk]
  by_cases e : k.1 = s
  ·rw [if_pos e, if_pos e, List.drop_append_of_le_length htk, List.countP_append]
   cases ha : a.2 <;> simp [e, ha]
  ·rw [if_neg e, if_neg e, if_neg (fun h => e h.1)]
 rw [e1]
 have e3 : (if ((Eff.ask k a).ap p).waited = true ∧ p.head.key.1 = s then 1 else 0) = (if p.waited = true ∧ p.head.key.1 = s then 1 else 0) := rfl
 rw [e3]
 generalize (if p.waited = true ∧ p.head.key.1 = s then 1 else 0) = q
 omega
end
end Go.Wt
namespace Go.Wt
section
variable {h : HYard}
theorem HInv.put (H : HInv h) {i : Nat} {p' : HProc} (hi : i < h.procs.length) (H0 : HInv0 (h.put i p')) (ha : ∀ s, p'.aw s = (h.pr i).aw s) (hw : p'.waits = (h.pr i).waits) : HInv (h.put i p') := by
 refine ⟨H0, fun s t hs ht => ?_⟩
 rw [HYard.put_len] at hs ht
 have h1 : ((h.put i p').pr t).aw s = (h.pr t).aw s := by
  rw [HYard.pr_put hi]
  split
  ·rename_i e; subst e; exact ha _
  ·rfl
 have h2 : ((h.put i p').pr s).waits = (h.pr s).waits := by
  rw [HYard.pr_put hi]
  split
  ·rename_i e; subst e; exact hw
  ·rfl
 rw [h1, h2]
 exact H.aw s t hs ht
theorem HInv.pc (H : HInv h) {i : Nat} (hi : i < h.procs.length) (hj : 0 ≤ (h.pr i).job) {v : Int} (h1 : 0 ≤ v) (h2 : v ≤ h.jlen (h.pr i).job) : HInv (h.ap (i, .pc v)) :=
 H.put hi (H.toHInv0.pc hi hj h1 h2) (fun _ => rfl) rfl
theorem HInv.holdOwn (H : HInv h) {i : Nat} (hi : i < h.procs.length) (hj : 0 ≤ (h.pr i).job) {to : Int} (h1 : 0 ≤ to ∧ to < h.procs.length) : HInv (h.ap (i, .hold (to, (0, 0), true))) :=
 H.put hi (H.toHInv0.holdOwn hi hj h1) (fun _ => rfl) rfl
theorem aw_waited {p : HProc} {i n nj : Nat} {jl : Int → Nat} (ok : p.Ok i n nj jl) : p.waited = true → p.gone < p.hl.length := fun hw => by
 rcases Int.lt_or_le p.job 0 with h | h
 ·rw [(ok.idle h).2.2.2.2] at hw; cases hw
 ·exact (ok.busy h).2.2.2
theorem HInv.spawn (H : HInv h) {i to : Nat} (hi : i < h.procs.length) (hto : to < h.procs.length) {j : Int} (hj : 0 ≤ j ∧ j < h.jobs.length) :
  HInv (h.aps [(to, .line ⟨(h.pr i).next i, [(j, false)], 0, [], true, false⟩), (i, .made)]) := by
 refine ⟨H.toHInv0.spawn hi hto rfl (fun a ha => by obtain rfl := List.mem_singleton.1 ha; exact hj) rfl rfl rfl rfl, fun s t hs ht => ?_⟩
 rw [HYard.aps_len] at hs ht
 have e1 : ∀ t, t < h.procs.length → ((h.aps [(to, .line ⟨(h.pr i).next i, [(j, false)], 0, [], true, false⟩), (i, .made)]).pr t).aw s = (h.pr t).aw s := fun t ht => by
  show (((h.ap (to, _)).ap (i, .made)).pr t).aw s = _
  rw [HYard.pr_ap (by rw [HYard.ap_len]; exact hi)]
  have e2 : ((h.ap (to, Eff.line ⟨(h.pr i).next i, [(j, false)], 0, [], true, false⟩)).pr t).aw s = (h.pr t).aw s := by
   rw [HYard.pr_ap hto]
   split
   ·rename_i e; subst e
    rw [aw_line (H.ok _ hto).gl (aw_waited (H.ok _ hto))]
    unfold HLine.aw
    split <;> simp
   ·rfl
  split
  ·rename_i e; subst e; exact e2
  ·exact e2
 have e3 : ∀ t, ((h.aps [(to, .line ⟨(h.pr i).next i, [(j, false)], 0, [], true, false⟩), (i, .made)]).pr t).waits = (h.pr t).waits := fun t => by
  show (((h.ap (to, _)).ap (i, .made)).pr t).waits = _
  have e2 : ∀ t, ((h.ap (to, Eff.line ⟨(h.pr i).next i, [(j, false)], 0, [], true, false⟩)).pr t).waits = (h.pr t).waits := fun t => by
   rw [HYard.pr_ap hto]
   split
   ·rename_i e; subst e; rfl
   ·rfl
  rw [HYard.pr_ap (by rw [HYard.ap_len]; exact hi)]
  split
  ·rename_i e; subst e; exact e2 _
  ·exact e2 _
 rw [e1 t ht, e3]
 exact H.aw s t hs ht
theorem HInv.reserve (H : HInv h) {i to : Nat} (hi : i < h.procs.length) (hto : to < h.procs.length) (hne : to ≠ i) (hj : 0 ≤ (h.pr i).job) (hno : (h.pr i).hold to = none) :
  HInv (h.aps [(to, .line ⟨(h.pr i).next i, [], 0, [], false, false⟩), (i, .made), (i, .hold ((to : Int), (h.pr i).next i, false))]) := by
 refine ⟨H.toHInv0.reserve hi hto hne hj hno, fun s t hs ht => ?_⟩
 rw [HYard.aps_len] at hs ht
 have hpr : ∀ t, (h.aps [(to, .line ⟨(h.pr i).next i, [], 0, [], false, false⟩), (i, .made), (i, .hold ((to : Int), (h.pr i).next i, false))]).pr t = if t = i then (Eff.hold ((to : Int), (h.pr i).next i, false)).ap ((Eff.made).ap (h.pr t)) else if t = to then (Eff.line ⟨(h.pr i).next i, [], 0, [], false, false⟩).ap (h.pr t) else h.pr t := fun t => by
  show (((h.ap (to, .line ⟨(h.pr i).next i, [], 0, [], false, false⟩)).ap (i, .made)).ap (i, .hold ((to : Int), (h.pr i).next i, false))).pr t = _
  rw [HYard.ap_ap (h := h.ap (to, .line ⟨(h.pr i).next i, [], 0, [], false, false⟩)) (by rw [HYard.ap_len]; exact hi), HYard.pr_put (by rw [HYard.ap_len]; exact hi), HYard.pr_ap hto, HYard.pr_ap hto]
  by_cases e : t = i
  ·subst e
   rw [if_pos rfl, if_pos rfl, if_neg (Ne.symm hne)]
  ·rw [if_neg e, if_neg e]
   by_cases e2 : t = to
   ·subst e2; rfl
   ·rw [if_neg e2, if_neg e2]
 have e1 : ((h.aps [(to, .line ⟨(h.pr i).next i, [], 0, [], false, false⟩), (i, .made), (i, .hold ((to : Int), (h.pr i).next i, false))]).pr t).aw s = (h.pr t).aw s := by
  rw [hpr]
  split
  ·rfl
  ·split
   ·rename_i e; subst e
    rw [aw_line (H.ok _ ht).gl (aw_waited (H.ok _ ht))]
    unfold HLine.aw
    split <;> simp
   ·rfl
 have e3 : ((h.aps [(to, .line ⟨(h.pr i).next i, [], 0, [], false, false⟩), (i, .made), (i, .hold ((to : Int), (h.pr i).next i, false))]).pr s).waits = (h.pr s).waits := by
  rw [hpr]
  split
  ·rfl
  ·split <;> rfl
 rw [e1, e3]
 exact H.aw s t hs ht
theorem HInv0.leave_pr (H : HInv0 h) {i : Nat} (hi : i < h.procs.length) {x : Hold} (hx : x ∈ (h.pr i).holds) (d : List Hold) : (h.aps ((i, .holds d) :: clh x)).pr i = (Eff.holds d).ap (h.pr i) := by
 unfold clh
 split
 ·show (h.ap (i, .holds d)).pr i = _
  rw [HYard.pr_ap hi, if_pos rfl]
 ·rename_i hown
  obtain ⟨g1, g2, g3⟩ := (H.ok i hi).hold x hx
  rw [if_neg hown] at g3
  show ((h.ap (i, .holds d)).ap (x.1.toNat, .close x.2.1)).pr i = _
  rw [HYard.pr_ap (by rw [HYard.ap_len]; omega), if_neg (by omega), HYard.pr_ap hi, if_pos rfl]
theorem HInv.leave (H : HInv h) {i : Nat} (hi : i < h.procs.length) (hj : 0 ≤ (h.pr i).job) {x : Hold} (hx : (h.pr i).holds.getLast? = some x) : HInv (h.aps ((i, .holds (h.pr i).holds.dropLast) :: clh x)) := by
 refine ⟨H.toHInv0.leave hi hj hx, fun s t hs ht => ?_⟩
 rw [HYard.aps_len] at hs ht
 have hs1 := H.aw s t hs ht
 have hxm : x ∈ (h.pr i).holds := List.mem_of_getLast? hx
 unfold clh
 split
 ·rename_i hown
  show ((h.ap (i, .holds _)).pr t).aw s = if ((h.ap (i, .holds _)).pr s).waits = t then 1 else 0
  rw [HYard.pr_ap hi, HYard.pr_ap hi]
  have e1 : (if t = i then (Eff.holds (h.pr i).holds.dropLast).ap (h.pr i) else h.pr t).aw s = (h.pr t).aw s := by split <;> first | (rename_i e; subst e; rfl) | rfl
  have e2 : (if s = i then (Eff.holds (h.pr i).holds.dropLast).ap (h.pr i) else h.pr s).waits = (h.pr s).waits := by split <;> first | (rename_i e; subst e; rfl) | rfl
  rw [e1, e2, hs1]
 ·rename_i hown
  obtain ⟨g1, g2, g3⟩ := (H.ok i hi).hold x hxm
  have hto : x.1.toNat < (h.ap (i, .holds (h.pr i).holds.dropLast)).procs.length := by rw [HYard.ap_len]; omega
  show (((h.ap (i, .holds _)).ap (x.1.toNat, .close x.2.1)).pr t).aw s = if (((h.ap (i, .holds _)).ap (x.1.toNat, .close x.2.1)).pr s).waits = t then 1 else 0
  have e0 : ∀ t, ((h.ap (i, .holds (h.pr i).holds.dropLast)).pr t).aw s = (h.pr t).aw s ∧ ((h.ap (i, .holds (h.pr i).holds.dropLast)).pr t).waits = (h.pr t).waits := fun t => by
   rw [HYard.pr_ap hi]; split <;> first | (rename_i e; subst e; exact ⟨rfl, rfl⟩) | exact ⟨rfl, rfl⟩
  have e1 : (((h.ap (i, .holds (h.pr i).holds.dropLast)).ap (x.1.toNat, .close x.2.1)).pr t).aw s = (h.pr t).aw s := by
   rw [HYard.pr_ap hto]
   split
   ·rename_i e; subst e; rw [aw_close]; exact (e0 _).1
   ·exact (e0 _).1
  have e2 : (((h.ap (i, .holds (h.pr i).holds.dropLast)).ap (x.1.toNat, .close x.2.1)).pr s).waits = (h.pr s).waits := by
   rw [HYard.pr_ap hto]
   split
   ·rename_i e; subst e; exact (e0 _).2
   ·exact (e0 _).2
  rw [e1, e2]
  exact hs1
theorem HInv.leaves {i : Nat} : ∀ {r : List Hold} {h : HYard}, HInv h → i < h.procs.length → 0 ≤ (h.pr i).job → (h.pr i).holds.reverse = r → HInv (h.aps (lvs i r)) ∧ (h.aps (lvs i r)).pr i = { h.pr i with holds := [] }
 | [], h, H, _, _, hr => ⟨H, by
  have : (h.pr i).holds = [] := by simpa using hr
  show h.pr i = _
  rw [← this]⟩
 | x :: r, h, H, hi, hj, hr => by
  have hh : (h.pr i).holds = r.reverse ++ [x] := by
   have := congrArg List.reverse hr
   simpa using this
  have hd : (h.pr i).holds.dropLast = r.reverse := by rw [hh]; simp
  have hl : (h.pr i).holds.getLast? = some x := by rw [hh]; simp
  have H1 := H.leave hi hj hl
  have hp := H.toHInv0.leave_pr hi (List.mem_of_getLast? hl) (h.pr i).holds.dropLast
  rw [hd] at H1 hp
  have e : h.aps (lvs i (x :: r)) = (h.aps ((i, .holds r.reverse) :: clh x)).aps (lvs i r) := by
   show h.aps (((i, .holds r.reverse) :: clh x) ++ lvs i r) = _
   rw [HYard.aps_append]
  obtain ⟨g1, g2⟩ := HInv.leaves (r := r) H1 (by rw [HYard.aps_len]; exact hi) (by rw [hp]; exact hj) (by rw [hp]; show r.reverse.reverse = r; simp)
  rw [e]
  refine ⟨g1, ?_⟩
  rw [g2, hp]; rfl
theorem HInv.stop (H : HInv h) {i : Nat} (hi : i < h.procs.length) (hj : 0 ≤ (h.pr i).job) (hw : (h.pr i).waits = -1) (f : Bool) : HInv (h.aps (h.effStop i f)) := by
 unfold HYard.effStop
 rw [HYard.aps_append, HYard.aps_append]
 obtain ⟨H1, hp⟩ := H.leaves hi hj rfl
 generalize hg1 : h.aps (lvs i (h.pr i).holds.reverse) = h1 at H1 hp
 have hn1 : h1.procs.length = h.procs.length := by rw [← hg1]; exact HYard.aps_len
 have hi1 : i < h1.procs.length := by omega
 have hgone : (h.pr i).gone = (h1.pr i).gone := by rw [hp]
 have hhead : (h.pr i).head = (h1.pr i).head := by rw [hp]; rfl
 have hwtd : (h.pr i).waited = (h1.pr i).waited := by rw [hp]
 rw [hgone, hhead, hwtd]
 have hj1 : 0 ≤ (h1.pr i).job := by rw [hp]; exact hj
 have hw1 : (h1.pr i).waits = -1 := by rw [hp]; exact hw
 have H0 := H1.toHInv0.stop hi1 hj1 hw1 (by rw [hp]) f
 have hgl := ((H1.ok i hi1).busy hj1).2.2.2
 have hap : h1.aps [(i, .idle), (i, .res (h1.pr i).gone false f)] = h1.put i ((Eff.res (h1.pr i).gone false f).ap ((Eff.idle).ap (h1.pr i))) := HYard.ap_ap hi1
 rw [hap] at H0 ⊢
 have hawi : ∀ s, ((Eff.res (h1.pr i).gone false f).ap ((Eff.idle).ap (h1.pr i))).aw s + (if (h1.pr i).waited = true ∧ (h1.pr i).head.key.1 = s then 1 else 0) = (h1.pr i).aw s := fun s => by
  have e1 := (aw_modify (p := h1.pr i) (q := (Eff.res (h1.pr i).gone false f).ap ((Eff.idle).ap (h1.pr i))) (f := HLine.fin false f) hgl rfl rfl s).2
  have e2 := aw_head hgl s
  have e3 : ((Eff.res (h1.pr i).gone false f).ap ((Eff.idle).ap (h1.pr i))).waited = false := rfl
  rw [e3] at e1
  rw [e1, e2, aw_fin]
  simp
 generalize hq : (Eff.res (h1.pr i).gone false f).ap ((Eff.idle).ap (h1.pr i)) = q at H0 hawi ⊢
 have hqw : q.waits = -1 := by rw [← hq]; exact hw1
 split
 ·rename_i hwt
  have hk := (H1.ok i hi1).line _ _ (get_head hgl)
  have hs0 : (h1.pr i).head.key.1.toNat < h1.procs.length := by have := hk.key; omega
  have hs0i : (((h1.pr i).head.key.1.toNat : Nat) : Int) = (h1.pr i).head.key.1 := Int.toNat_of_nonneg hk.key.1
  generalize hs : (h1.pr i).head.key.1.toNat = s0 at hs0 hs0i ⊢
  have haw0 := H1.aw s0 i hs0 hi1
  have hpos := hawi s0
  rw [if_pos ⟨hwt, hs0i.symm⟩] at hpos
  have hws : (h1.pr s0).waits = i := by
   by_cases e : (h1.pr s0).waits = i
   ·exact e
   ·rw [if_neg e] at haw0; omega
  have hs0i' : s0 ≠ i := fun e => by rw [e, hw1] at hws; omega
  have hjs : 0 ≤ (h1.pr s0).job := by
   rcases (H1.ok s0 hs0).waits with h | h
   ·rw [hws] at h; omega
   ·exact h.2.2.2
  have hpr : ∀ t, ((h1.put i q).ap (s0, .waits (-1))).pr t = if t = s0 then (Eff.waits (-1)).ap (h1.pr t) else if t = i then q else h1.pr t := fun t => by
   rw [HYard.pr_ap (by rw [HYard.put_len]; exact hs0), HYard.pr_put hi1, HYard.pr_put hi1]
   by_cases e : t = s0
   ·subst e; rw [if_pos rfl, if_pos rfl, if_neg hs0i']
   ·rw [if_neg e, if_neg e]
  refine ⟨H0.wait (by rw [HYard.put_len]; exact hs0) (by rw [HYard.pr_put hi1, if_neg hs0i']; exact hjs) (.inl rfl), fun s t hs ht => ?_⟩
  show (((h1.put i q).ap (s0, .waits (-1))).pr t).aw s = if (((h1.put i q).ap (s0, .waits (-1))).pr s).waits = t then 1 else 0
  have hs : s < h1.procs.length := by rw [← HYard.put_len (i := i) (p := q), ← HYard.ap_len (a := (s0, .waits (-1)))]; exact hs
  have ht : t < h1.procs.length := by rw [← HYard.put_len (i := i) (p := q), ← HYard.ap_len (a := (s0, .waits (-1)))]; exact ht
  have hold := H1.aw s t hs ht
  have ea : (((h1.put i q).ap (s0, .waits (-1))).pr t).aw s = if t = i then q.aw s else (h1.pr t).aw s := by
   rw [hpr]
   by_cases e : t = s0
   ·subst e; rw [if_pos rfl, if_neg hs0i']; rfl
   ·rw [if_neg e]; split <;> rfl
  have ew : (((h1.put i q).ap (s0, .waits (-1))).pr s).waits = if s = s0 then -1 else (h1.pr s).waits := by
   rw [hpr]
   by_cases e : s = s0
   ·rw [if_pos e, if_pos e]; rfl
   ·rw [if_neg e, if_neg e]
    split
    ·rename_i e2; subst e2; rw [hqw, hw1]
    ·rfl
  rw [ea, ew]
  by_cases es : s = s0
  ·subst es
   have hm1 : ¬ ((-1 : Int) = (t : Int)) := by omega
   rw [if_pos rfl, if_neg hm1]
   rw [hws, if_pos rfl] at haw0
   split
   ·omega
   ·rename_i e
    have hti : ¬ ((i : Int) = (t : Int)) := by omega
    rw [hold, hws, if_neg hti]
  ·rw [if_neg es, ← hold]
   split
   ·rename_i e; subst e
    have := hawi s
    rw [if_neg (fun h => es (by omega))] at this
    omega
   ·rfl
 ·rename_i hwt
  refine ⟨H0, fun s t hs ht => ?_⟩
  show ((h1.put i q).pr t).aw s = if ((h1.put i q).pr s).waits = t then 1 else 0
  have hs : s < h1.procs.length := by rw [← HYard.put_len (i := i) (p := q)]; exact hs
  have ht : t < h1.procs.length := by rw [← HYard.put_len (i := i) (p := q)]; exact ht
  have hold := H1.aw s t hs ht
  have ea : ((h1.put i q).pr t).aw s = (h1.pr t).aw s := by
   rw [HYard.pr_put hi1]
   split
   ·rename_i e; subst e
    have := hawi s
    rw [if_neg (fun h => hwt h.1)] at this
    omega
   ·rfl
  have ew : ((h1.put i q).pr s).waits = (h1.pr s).waits := by
   rw [HYard.pr_put hi1]
   split
   ·rename_i e2; subst e2; rw [hqw, hw1]
   ·rfl
  rw [ea, ew]; exact hold
end
end Go.Wt
namespace Go.Wt
theorem key_at {l : List HLine} (hnd : (l.map HLine.key).Nodup) {q q' : Nat} {x y : HLine} (hx : l[q]? = some x) (hy : l[q']? = some y) (hk : x.key = y.key) : q = q' := by
 refine (List.getElem?_inj (by have := (List.getElem?_eq_some_iff.1 hx).1; simpa using this) hnd).1 ?_
 rw [List.getElem?_map, List.getElem?_map, hx, hy]; simp [hk]
theorem only_open {l : List HLine} (hnd : (l.map HLine.key).Nodup) {q : Nat} {x : HLine} (hx : l[q]? = some x) (hc : x.closed = false) : ∀ y ∈ l, y.key = x.key → y.closed = false := fun y hy hk => by
 obtain ⟨q', hq'⟩ := List.getElem?_of_mem hy
 obtain rfl := key_at hnd hx hq' hk.symm
 rw [hx] at hq'
 obtain rfl := Option.some.inj hq'
 exact hc
section
variable {h : HYard}
theorem HInv0.held' (H : HInv0 h) {i : Nat} (hi : i < h.procs.length) {x : Hold} (hx : x ∈ (h.pr i).holds) (hx2 : x.2.2 = false) : x.1.toNat < h.procs.length ∧ x.1.toNat ≠ i ∧ ((x.1.toNat : Nat) : Int) = x.1 ∧ x.2.1.1 = i ∧
  ∃ (j : Nat) (l : HLine), (h.pr x.1.toNat).gone ≤ j ∧ (h.pr x.1.toNat).hl[j]? = some l ∧ l.key = x.2.1 ∧ l.closed = false ∧ l.tk ≤ l.all.length := by
 obtain ⟨g1, g2, g3⟩ := (H.ok i hi).hold x hx
 rw [if_neg (by simp [hx2])] at g3
 obtain ⟨j, l, h1, h2, h3, h4⟩ := H.held i hi x hx hx2
 have ht : x.1.toNat < h.procs.length := by omega
 refine ⟨ht, by omega, Int.toNat_of_nonneg g1, g3.2.1, j, l, h1, h2, h3, h4, ?_⟩
 have hk := (H.ok _ ht).line j l h2
 rcases Nat.lt_or_ge (h.pr x.1.toNat).gone j with h5 | h5
 ·rw [(hk.later h5).1]; exact Nat.zero_le _
 ·exact (hk.cur (by omega)).1
theorem HInv.ask (H : HInv h) {i : Nat} (hi : i < h.procs.length) {x : Hold} (hx : x ∈ (h.pr i).holds) (hx2 : x.2.2 = false) {j : Int} (hj : 0 ≤ j ∧ j < h.jobs.length) : HInv (h.ap (x.1.toNat, .ask x.2.1 (j, false))) := by
 obtain ⟨ht, hti, _, hk1, q, l, h1, h2, h3, h4, h5⟩ := H.toHInv0.held' hi hx hx2
 have hnd := (H.ok _ ht).nd
 have H0 := H.toHInv0.ask ht (k := x.2.1) (a := (j, false)) (h3 ▸ only_open hnd h2 h4) hj
 exact H.put ht H0 (fun s => by rw [aw_ask hnd h1 h2 h3 h5]; simp) rfl
theorem HInv.askw (H : HInv h) {i : Nat} (hi : i < h.procs.length) (hji : 0 ≤ (h.pr i).job) (hw : (h.pr i).waits = -1) {x : Hold} (hx : x ∈ (h.pr i).holds) (hx2 : x.2.2 = false) {j : Int} (hj : 0 ≤ j ∧ j < h.jobs.length) :
  HInv (h.aps [(x.1.toNat, .ask x.2.1 (j, true)), (i, .waits x.1)]) := by
 obtain ⟨ht, hti, hx1, hk1, q, l, h1, h2, h3, h4, h5⟩ := H.toHInv0.held' hi hx hx2
 have hnd := (H.ok _ ht).nd
 have H0 := H.toHInv0.ask ht (k := x.2.1) (a := (j, true)) (h3 ▸ only_open hnd h2 h4) hj
 have hpi : (h.ap (x.1.toNat, .ask x.2.1 (j, true))).pr i = h.pr i := by rw [HYard.pr_ap ht, if_neg (Ne.symm hti)]
 have hi1 : i < (h.ap (x.1.toNat, .ask x.2.1 (j, true))).procs.length := by rw [HYard.ap_len]; exact hi
 have hpr : ∀ t, (h.aps [(x.1.toNat, .ask x.2.1 (j, true)), (i, .waits x.1)]).pr t = if t = i then (Eff.waits x.1).ap (h.pr t) else if t = x.1.toNat then (Eff.ask x.2.1 (j, true)).ap (h.pr t) else h.pr t := fun t => by
  show ((h.ap (x.1.toNat, .ask x.2.1 (j, true))).ap (i, .waits x.1)).pr t = _
  rw [HYard.pr_ap hi1, hpi, HYard.pr_ap ht]
  by_cases e : t = i
  ·subst e; rw [if_pos rfl, if_pos rfl]
  ·rw [if_neg e, if_neg e]
   by_cases e2 : t = x.1.toNat
   ·subst e2; rfl
   ·rw [if_neg e2, if_neg e2]
 refine ⟨H0.wait hi1 (by rw [hpi]; exact hji) (.inr (by rw [HYard.ap_len]; omega)), fun s t hs ht' => ?_⟩
 rw [HYard.aps_len] at hs ht'
 have hold := H.aw s t hs ht'
 have ea : ((h.aps [(x.1.toNat, .ask x.2.1 (j, true)), (i, .waits x.1)]).pr t).aw s = (h.pr t).aw s + (if t = x.1.toNat ∧ s = i then 1 else 0) := by
  rw [hpr]
  by_cases e : t = i
  ·rw [if_pos e]
   have : ¬ (t = x.1.toNat ∧ s = i) := fun h => hti (by rw [← h.1, e])
   rw [if_neg this]; rfl
  ·rw [if_neg e]
   by_cases e2 : t = x.1.toNat
   ·subst e2
    rw [if_pos rfl, aw_ask hnd h1 h2 h3 h5, hk1]
    congr 1
    by_cases e3 : s = i
    ·subst e3; simp
    ·have h6 : ¬ ((i : Int) = s ∧ (j, true).2 = true) := fun h => e3 (by omega)
     rw [if_neg h6, if_neg (fun h => e3 h.2)]
   ·rw [if_neg e2, if_neg (fun h => e2 h.1)]; rfl
 have ew : ((h.aps [(x.1.toNat, .ask x.2.1 (j, true)), (i, .waits x.1)]).pr s).waits = if s = i then x.1 else (h.pr s).waits := by
  rw [hpr]
  by_cases e : s = i
  ·rw [if_pos e, if_pos e]; rfl
  ·rw [if_neg e, if_neg e]; split <;> rfl
 rw [ea, ew, hold]
 by_cases e : s = i
 ·subst e
  have hm1 : ¬ ((h.pr s).waits = (t : Int)) := by omega
  rw [if_pos rfl, if_neg hm1]
  by_cases e2 : t = x.1.toNat
  ·have h6 : x.1 = (t : Int) := by omega
   rw [if_pos ⟨e2, rfl⟩, if_pos h6]
  ·have h6 : ¬ x.1 = (t : Int) := by omega
   have h7 : ¬ (t = x.1.toNat ∧ s = s) := fun h => e2 h.1
   rw [if_neg h7, if_neg h6]
 ·have h7 : ¬ (t = x.1.toNat ∧ s = i) := fun h => e h.2
  rw [if_neg h7, if_neg e]
  exact Nat.add_zero _
theorem HInv.begin (H : HInv h) {i : Nat} (hi : i < h.procs.length) (hj : (h.pr i).job < 0) {a : Ask} {r : List Ask} (hg : (h.pr i).gone < (h.pr i).hl.length) (ha : (h.pr i).head.all.drop (h.pr i).head.tk = a :: r) (hb : (h.pr i).head.broken = false) :
  HInv (h.aps [(i, .tk (h.pr i).gone), (i, .job a.1 a.2)]) := by
 have H0 := H.toHInv0.begin hi hj hg ha hb
 have e : h.aps [(i, .tk (h.pr i).gone), (i, .job a.1 a.2)] = h.put i ((Eff.job a.1 a.2).ap ((Eff.tk (h.pr i).gone).ap (h.pr i))) := HYard.ap_ap hi
 rw [e] at H0 ⊢
 refine H.put hi H0 (fun s => ?_) rfl
 have h1 := (aw_modify (p := h.pr i) (q := (Eff.job a.1 a.2).ap ((Eff.tk (h.pr i).gone).ap (h.pr i))) (f := HLine.take) hg rfl rfl s).2
 have h2 := aw_head hg s
 have h3 : (h.pr i).waited = false := ((H.ok i hi).idle hj).2.2.2.2
 have h4 : ((Eff.job a.1 a.2).ap ((Eff.tk (h.pr i).gone).ap (h.pr i))).waited = a.2 := rfl
 have h5 : (h.pr i).head.take.aw s + (if a.2 = true ∧ (h.pr i).head.take.key.1 = s then 1 else 0) = (h.pr i).head.aw s := by
  unfold HLine.aw
  show (if (h.pr i).head.key.1 = s then ((h.pr i).head.all.drop ((h.pr i).head.tk + 1)).countP (·.2) else 0) + (if a.2 = true ∧ (h.pr i).head.key.1 = s then 1 else 0) = _
  have : (h.pr i).head.all.drop ((h.pr i).head.tk + 1) = r := by rw [← List.drop_drop, ha]; rfl
  rw [this, ha]
  by_cases e : (h.pr i).head.key.1 = s
  ·cases ha2 : a.2 <;> simp [e, ha2]
  ·rw [if_neg e, if_neg e, if_neg (fun h => e h.2)]
 have h6 : ¬ ((h.pr i).waited = true ∧ (h.pr i).head.key.1 = s) := fun h => by rw [h3] at h; cases h.1
 rw [if_neg h6] at h2
 rw [h4] at h1
 rw [h1, h2, ← h5]
 generalize (if a.2 = true ∧ (h.pr i).head.take.key.1 = s then 1 else 0) = z
 omega
theorem HInv.go (H : HInv h) {i : Nat} (hi : i < h.procs.length) (hj : (h.pr i).job < 0) (hg : (h.pr i).gone < (h.pr i).hl.length) (ha : (h.pr i).head.all.drop (h.pr i).head.tk = []) (hc : (h.pr i).head.closed = true) : HInv (h.ap (i, .gone)) := by
 have H0 := H.toHInv0.go hi hj hg ha hc
 refine H.put hi H0 (fun s => ?_) rfl
 have h3 : (h.pr i).waited = false := ((H.ok i hi).idle hj).2.2.2.2
 have h2 := aw_head hg s
 have h5 : ¬ ((h.pr i).waited = true ∧ (h.pr i).head.key.1 = s) := fun h => by rw [h3] at h; cases h.1
 rw [if_neg h5] at h2
 have h6 : ¬ (((Eff.gone).ap (h.pr i)).waited = true ∧ ((Eff.gone).ap (h.pr i)).head.key.1 = s) := fun hh => by
  have : (h.pr i).waited = true := hh.1
  rw [h3] at this; cases this
 have h7 : (h.pr i).head.aw s = 0 := by unfold HLine.aw; rw [ha]; split <;> simp
 unfold HProc.aw at h2 ⊢
 rw [if_neg h5] at h2 ⊢
 rw [if_neg h6]
 show (((h.pr i).hl.drop ((h.pr i).gone + 1)).map _).sum + 0 = (((h.pr i).hl.drop (h.pr i).gone).map _).sum + 0
 rw [drop_head hg, List.map_cons, List.sum_cons, h7]
 omega
end
end Go.Wt
namespace Go.Wt
structure Own (p q : HProc) : Prop where
 job : q.job = p.job
 pc : q.pc = p.pc
 waited : q.waited = p.waited
 holds : q.holds = p.holds
 waits : q.waits = p.waits
 made : q.made = p.made
 gone : q.gone = p.gone
theorem Own.refl (p : HProc) : Own p p := ⟨rfl, rfl, rfl, rfl, rfl, rfl, rfl⟩
theorem Own.trans {p q r : HProc} (h : Own p q) (k : Own q r) : Own p r := ⟨k.job.trans h.job, k.pc.trans h.pc, k.waited.trans h.waited, k.holds.trans h.holds, k.waits.trans h.waits, k.made.trans h.made, k.gone.trans h.gone⟩
theorem Eff.own {e : Eff} (he : e.out = true) (p : HProc) : Own p (e.ap p) := by cases e <;> first | exact ⟨rfl, rfl, rfl, rfl, rfl, rfl, rfl⟩ | cases he
theorem HYard.pr_ap_ne {h : HYard} {a : Nat × Eff} {t : Nat} (ht : t ≠ a.1) : (h.ap a).pr t = h.pr t := HYard.pr_put_ne (Ne.symm ht)
theorem HYard.pr_ap_same {h : HYard} {a : Nat × Eff} (hi : a.1 < h.procs.length) : (h.ap a).pr a.1 = a.2.ap (h.pr a.1) := HYard.pr_put_same hi
theorem HYard.own_aps {t : Nat} : ∀ {A : Effs} {h : HYard}, t < h.procs.length → (∀ a ∈ A, a.1 = t → a.2.out = true) → Own (h.pr t) ((h.aps A).pr t)
 | [], h, _, _ => Own.refl _
 | a :: A, h, ht, hA => by
  refine Own.trans ?_ (HYard.own_aps (A := A) (h := h.ap a) (by rw [HYard.ap_len]; exact ht) fun x hx => hA x (by simp [hx]))
  by_cases e : t = a.1
  ·subst e
   rw [HYard.pr_ap_same ht]
   exact Eff.own (hA a (by simp) rfl) _
  ·rw [HYard.pr_ap_ne e]; exact Own.refl _
theorem lvs_out {i t : Nat} (hti : t ≠ i) : ∀ {r : List Hold} {a : Nat × Eff}, a ∈ lvs i r → a.1 = t → a.2.out = true
 | x :: r, a, ha, hat => by
  rcases List.mem_cons.1 ha with rfl | ha
  ·exact absurd hat.symm hti
  ·rcases List.mem_append.1 ha with ha | ha
   ·unfold clh at ha
    split at ha
    ·simp at ha
    ·obtain rfl := List.mem_singleton.1 ha; rfl
   ·exact lvs_out hti ha hat
section
variable {h : HYard}
theorem HInv.awaits (H : HInv h) {s t : Nat} (hs : s < h.procs.length) (ht : t < h.procs.length) (hp : 0 < (h.pr t).aw s) : (h.pr s).waits = t ∧ s ≠ t ∧ 0 ≤ (h.pr s).job := by
 have := H.aw s t hs ht
 have hw : (h.pr s).waits = t := by
  by_cases e : (h.pr s).waits = t
  ·exact e
  ·rw [if_neg e] at this; omega
 rcases (H.ok s hs).waits with h1 | h1
 ·rw [hw] at h1; omega
 ·exact ⟨hw, fun e => h1.2.2.1 (by rw [hw, e]), h1.2.2.2⟩
theorem HInv.client (H : HInv h) {i : Nat} (hi : i < h.procs.length) (hw : (h.pr i).waited = true) : (h.pr i).head.key.1.toNat < h.procs.length ∧ (((h.pr i).head.key.1.toNat : Nat) : Int) = (h.pr i).head.key.1 ∧
  (h.pr (h.pr i).head.key.1.toNat).waits = i ∧ (h.pr i).head.key.1.toNat ≠ i ∧ 0 ≤ (h.pr (h.pr i).head.key.1.toNat).job := by
 have hg := aw_waited (H.ok i hi) hw
 have hk := (H.ok i hi).line _ _ (get_head hg)
 have hs0 : (h.pr i).head.key.1.toNat < h.procs.length := by have := hk.key; omega
 have hs0i : (((h.pr i).head.key.1.toNat : Nat) : Int) = (h.pr i).head.key.1 := Int.toNat_of_nonneg hk.key.1
 have hp : 0 < (h.pr i).aw (((h.pr i).head.key.1.toNat : Nat) : Int) := by
  rw [aw_head hg, if_pos ⟨hw, hs0i.symm⟩]; omega
 obtain ⟨h1, h2, h3⟩ := H.awaits hs0 hi hp
 exact ⟨hs0, hs0i, h1, h2, h3⟩
theorem HInv.stop_own (H : HInv h) {i : Nat} (hi : i < h.procs.length) (f : Bool) {t : Nat} (ht : t < h.procs.length) (hti : t ≠ i) :
  Own { h.pr t with waits := if (h.pr i).waited = true ∧ t = (h.pr i).head.key.1.toNat then -1 else (h.pr t).waits } ((h.aps (h.effStop i f)).pr t) := by
 unfold HYard.effStop
 rw [HYard.aps_append]
 have h1 : Own (h.pr t) ((h.aps (lvs i (h.pr i).holds.reverse ++ [(i, .idle), (i, .res (h.pr i).gone false f)])).pr t) := HYard.own_aps ht fun a ha hat => by
  rcases List.mem_append.1 ha with ha | ha
  ·exact lvs_out hti ha hat
  ·simp at ha
   rcases ha with rfl | rfl <;> exact absurd hat.symm hti
 generalize hg : h.aps (lvs i (h.pr i).holds.reverse ++ [(i, .idle), (i, .res (h.pr i).gone false f)]) = h2 at h1
 have hn2 : h2.procs.length = h.procs.length := by rw [← hg]; exact HYard.aps_len
 by_cases hwt : (h.pr i).waited = true
 ·have e0 : (if (h.pr i).waited = true then [((h.pr i).head.key.1.toNat, Eff.waits (-1))] else []) = [((h.pr i).head.key.1.toNat, Eff.waits (-1))] := if_pos hwt
  rw [e0]
  show Own _ ((h2.ap ((h.pr i).head.key.1.toNat, Eff.waits (-1))).pr t)
  by_cases e : t = (h.pr i).head.key.1.toNat
  ·have hlt : (h.pr i).head.key.1.toNat < h2.procs.length := by omega
   rw [HYard.pr_ap hlt, if_pos e, if_pos ⟨hwt, e⟩, ← e]
   exact ⟨h1.job, h1.pc, h1.waited, h1.holds, rfl, h1.made, h1.gone⟩
  ·have hno : ¬ ((h.pr i).waited = true ∧ t = (h.pr i).head.key.1.toNat) := fun h => e h.2
   rw [HYard.pr_ap_ne e, if_neg hno]
   exact h1
 ·have hno : ¬ ((h.pr i).waited = true ∧ t = (h.pr i).head.key.1.toNat) := fun h => hwt h.1
  have e0 : (if (h.pr i).waited = true then [((h.pr i).head.key.1.toNat, Eff.waits (-1))] else []) = [] := if_neg hwt
  rw [e0, if_neg hno]
  exact h1
theorem HInv.effEnd : ∀ {n : Nat} {h : HYard} {i : Nat} {f : Bool}, HInv h → i < h.procs.length → 0 ≤ (h.pr i).job → (h.pr i).waits = -1 → HInv (h.aps (HYard.effEnd n h i f))
 | 0, h, i, f, H, _, _, _ => H
 | n + 1, h, i, f, H, hi, hj, hw => by
  unfold HYard.effEnd
  rw [HYard.aps_append]
  have H1 := H.stop hi hj hw f
  split
  ·rename_i hc
   rw [Bool.and_eq_true] at hc
   obtain ⟨g1, g2, g3, g4, g5⟩ := H.client hi hc.1
   have o := H.stop_own hi f g1 g4
   rw [if_pos ⟨hc.1, rfl⟩] at o
   exact HInv.effEnd (n := n) H1 (by rw [HYard.aps_len]; exact g1) (by rw [o.job]; exact g5) o.waits
  ·exact H1
theorem HInv.left (H : HInv h) {i : Nat} (hi : i < h.procs.length) (hj : (h.pr i).job < 0) {a : Ask} {r : List Ask} (hg : (h.pr i).gone < (h.pr i).hl.length) (ha : (h.pr i).head.all.drop (h.pr i).head.tk = a :: r) :
  let A : Effs := [(i, .tk (h.pr i).gone), (i, .res (h.pr i).gone true false)] ++ (if a.2 then [((h.pr i).head.key.1.toNat, .waits (-1))] else [])
  HInv (h.aps A) ∧ (a.2 = true → (h.pr i).head.key.1.toNat < h.procs.length ∧ 0 ≤ ((h.aps A).pr (h.pr i).head.key.1.toNat).job ∧ ((h.aps A).pr (h.pr i).head.key.1.toNat).waits = -1) := by
 intro A
 have H0 := H.toHInv0.left hi hj hg ha
 have e : h.aps [(i, .tk (h.pr i).gone), (i, .res (h.pr i).gone true false)] = h.put i ((Eff.res (h.pr i).gone true false).ap ((Eff.tk (h.pr i).gone).ap (h.pr i))) := HYard.ap_ap hi
 have hA : h.aps A = (h.put i ((Eff.res (h.pr i).gone true false).ap ((Eff.tk (h.pr i).gone).ap (h.pr i)))).aps (if a.2 then [((h.pr i).head.key.1.toNat, .waits (-1))] else []) := by
  show h.aps (_ ++ _) = _
  rw [HYard.aps_append, e]
 rw [hA]
 rw [e] at H0
 have h3 : (h.pr i).waited = false := ((H.ok i hi).idle hj).2.2.2.2
 have hwi : (h.pr i).waits = -1 := ((H.ok i hi).idle hj).2.2.2.1
 have hawi : ∀ s, ((Eff.res (h.pr i).gone true false).ap ((Eff.tk (h.pr i).gone).ap (h.pr i))).aw s + (if a.2 = true ∧ (h.pr i).head.key.1 = s then 1 else 0) = (h.pr i).aw s := fun s => by
  have h1 := (aw_modify (p := h.pr i) (q := (Eff.res (h.pr i).gone true false).ap ((Eff.tk (h.pr i).gone).ap (h.pr i))) (f := HLine.fin true false ∘ HLine.take) hg (modify_modify _ _ _ _) rfl s).2
  have h2 := aw_head hg s
  have h6 : ¬ ((h.pr i).waited = true ∧ (h.pr i).head.key.1 = s) := fun h => by rw [h3] at h; cases h.1
  have h7 : ¬ (((Eff.res (h.pr i).gone true false).ap ((Eff.tk (h.pr i).gone).ap (h.pr i))).waited = true ∧ ((HLine.fin true false ∘ HLine.take) (h.pr i).head).key.1 = s) := fun h => h6 h
  have h5 : ((HLine.fin true false ∘ HLine.take) (h.pr i).head).aw s + (if a.2 = true ∧ (h.pr i).head.key.1 = s then 1 else 0) = (h.pr i).head.aw s := by
   unfold HLine.aw
   show (if (h.pr i).head.key.1 = s then ((h.pr i).head.all.drop ((h.pr i).head.tk + 1)).countP (·.2) else 0) + (if a.2 = true ∧ (h.pr i).head.key.1 = s then 1 else 0) = _
   have : (h.pr i).head.all.drop ((h.pr i).head.tk + 1) = r := by rw [← List.drop_drop, ha]; rfl
   rw [this, ha]
   by_cases e : (h.pr i).head.key.1 = s
   ·cases ha2 : a.2 <;> simp [e, ha2]
   ·have h8 : ¬ (a.2 = true ∧ (h.pr i).head.key.1 = s) := fun h => e h.2
    rw [if_neg e, if_neg e, if_neg h8]
  rw [if_neg h6] at h2
  rw [if_neg h7] at h1
  rw [h1, h2, ← h5]
  generalize (if a.2 = true ∧ (h.pr i).head.key.1 = s then 1 else 0) = z
  omega
 generalize hq : (Eff.res (h.pr i).gone true false).ap ((Eff.tk (h.pr i).gone).ap (h.pr i)) = q at H0 hawi ⊢
 have hqw : q.waits = -1 := by rw [← hq]; exact hwi
 have hk := (H.ok i hi).line _ _ (get_head hg)
 split
 ·rename_i hwt
  have hs0 : (h.pr i).head.key.1.toNat < h.procs.length := by have := hk.key; omega
  have hs0i : (((h.pr i).head.key.1.toNat : Nat) : Int) = (h.pr i).head.key.1 := Int.toNat_of_nonneg hk.key.1
  generalize hs : (h.pr i).head.key.1.toNat = s0 at hs0 hs0i ⊢
  have hpos := hawi s0
  rw [if_pos ⟨hwt, hs0i.symm⟩] at hpos
  obtain ⟨hws, hs0i', hjs⟩ := H.awaits hs0 hi (by omega)
  have haw0 := H.aw s0 i hs0 hi
  rw [hws, if_pos rfl] at haw0
  have hpr : ∀ t, ((h.put i q).ap (s0, .waits (-1))).pr t = if t = s0 then (Eff.waits (-1)).ap (h.pr t) else if t = i then q else h.pr t := fun t => by
   rw [HYard.pr_ap (by rw [HYard.put_len]; exact hs0), HYard.pr_put hi, HYard.pr_put hi]
   by_cases e : t = s0
   ·subst e; rw [if_pos rfl, if_pos rfl, if_neg hs0i']
   ·rw [if_neg e, if_neg e]
  refine ⟨⟨H0.wait (by rw [HYard.put_len]; exact hs0) (by rw [HYard.pr_put hi, if_neg hs0i']; exact hjs) (.inl rfl), fun s t hs ht => ?_⟩, fun _ => ⟨hs0, ?_, ?_⟩⟩
  ·show (((h.put i q).ap (s0, .waits (-1))).pr t).aw s = if (((h.put i q).ap (s0, .waits (-1))).pr s).waits = t then 1 else 0
   have hs : s < h.procs.length := by rw [← HYard.put_len (i := i) (p := q), ← HYard.ap_len (a := (s0, .waits (-1)))]; exact hs
   have ht : t < h.procs.length := by rw [← HYard.put_len (i := i) (p := q), ← HYard.ap_len (a := (s0, .waits (-1)))]; exact ht
   have hold := H.aw s t hs ht
   have ea : (((h.put i q).ap (s0, .waits (-1))).pr t).aw s = if t = i then q.aw s else (h.pr t).aw s := by
    rw [hpr]
    by_cases e : t = s0
    ·subst e; rw [if_pos rfl, if_neg hs0i']; rfl
    ·rw [if_neg e]; split <;> rfl
   have ew : (((h.put i q).ap (s0, .waits (-1))).pr s).waits = if s = s0 then -1 else (h.pr s).waits := by
    rw [hpr]
    by_cases e : s = s0
    ·rw [if_pos e, if_pos e]; rfl
    ·rw [if_neg e, if_neg e]
     split
     ·rename_i e2; subst e2; rw [hqw, hwi]
     ·rfl
   rw [ea, ew]
   by_cases es : s = s0
   ·subst es
    have hm1 : ¬ ((-1 : Int) = (t : Int)) := by omega
    rw [if_pos rfl, if_neg hm1]
    split
    ·omega
    ·rename_i e
     have hti : ¬ ((i : Int) = (t : Int)) := by omega
     rw [hold, hws, if_neg hti]
   ·rw [if_neg es, ← hold]
    split
    ·rename_i e; subst e
     have := hawi s
     have hno : ¬ (a.2 = true ∧ (h.pr t).head.key.1 = (s : Int)) := fun h => es (by omega)
     rw [if_neg hno] at this
     omega
    ·rfl
  ·show 0 ≤ (((h.put i q).ap (s0, .waits (-1))).pr s0).job
   rw [hpr, if_pos rfl]; exact hjs
  ·show (((h.put i q).ap (s0, .waits (-1))).pr s0).waits = -1
   rw [hpr, if_pos rfl]; rfl
 ·rename_i hwt
  refine ⟨⟨H0, fun s t hs ht => ?_⟩, fun h => absurd h hwt⟩
  show ((h.put i q).pr t).aw s = if ((h.put i q).pr s).waits = t then 1 else 0
  have hs : s < h.procs.length := by rw [← HYard.put_len (i := i) (p := q)]; exact hs
  have ht : t < h.procs.length := by rw [← HYard.put_len (i := i) (p := q)]; exact ht
  have hold := H.aw s t hs ht
  have ea : ((h.put i q).pr t).aw s = (h.pr t).aw s := by
   rw [HYard.pr_put hi]
   split
   ·rename_i e; subst e
    have := hawi s
    have hno : ¬ (a.2 = true ∧ (h.pr t).head.key.1 = (s : Int)) := fun h => hwt h.1
    rw [if_neg hno] at this
    omega
   ·rfl
  have ew : ((h.put i q).pr s).waits = (h.pr s).waits := by
   rw [HYard.pr_put hi]
   split
   ·rename_i e2; subst e2; rw [hqw, hwi]
   ·rfl
  rw [ea, ew]; exact hold
end
end Go.Wt
namespace Go.Wt
theorem check_ok {jobs : List (List Move)} {n : Int} (h : check jobs n = 0) : n ≤ 12 ∧ 0 < n ∧ 0 < jobs.length ∧ jobs.length ≤ 30 ∧ (∀ l ∈ jobs, l.length ≤ 20) ∧ (∀ l ∈ jobs, ∀ m ∈ l, moved m jobs.length n = true) ∧ ∀ l ∈ jobs, bal 0 l = true := by
 unfold check at h
 by_cases h1 : (decide (12 < n) || decide (30 < (jobs.length : Int)) || !jobs.all fun l => decide ((l.length : Int) ≤ 20)) = true
 ·rw [if_pos h1] at h; cases h
 ·rw [if_neg h1] at h
  by_cases h2 : (decide (0 < n) && decide (0 < (jobs.length : Int))) = false
  ·rw [if_pos h2] at h; cases h
  ·rw [if_neg h2] at h
   by_cases h3 : (jobs.all fun l => l.all fun m => moved m jobs.length n) = false
   ·rw [if_pos h3] at h; cases h
   ·rw [if_neg h3] at h
    by_cases h4 : (jobs.all fun l => bal 0 l) = false
    ·rw [if_pos h4] at h; cases h
    ·simp only [Bool.not_eq_false, List.all_eq_true] at h3 h4
     simp only [Bool.not_eq_false, Bool.and_eq_true, decide_eq_true_eq] at h2
     simp only [Bool.or_eq_true, decide_eq_true_eq, Bool.not_eq_true', not_or, Bool.not_eq_false, List.all_eq_true] at h1
     refine ⟨by omega, h2.1, by omega, by omega, fun l hl => by have := h1.2 l hl; omega, h3, h4⟩
theorem mv_ok {h : HYard} (hc : check h.jobs h.procs.length = 0) {j k : Int} (hj : 0 ≤ j) (hj2 : j < h.jobs.length) (hk : 0 ≤ k) (hk2 : k < h.jlen j) : moved (h.mv j k) h.jobs.length h.procs.length = true := by
 have h1 := (check_ok hc).2.2.2.2.2.1
 have hj3 : j.toNat < h.jobs.length := by omega
 unfold HYard.jlen at hk2
 unfold HYard.mv
 have e : h.jobs.getD j.toNat [] = h.jobs[j.toNat] := by rw [List.getD_eq_getElem?_getD, List.getElem?_eq_getElem hj3]; rfl
 rw [e] at hk2 ⊢
 have hk3 : k.toNat < (h.jobs[j.toNat]).length := by omega
 rw [List.getD_eq_getElem?_getD, List.getElem?_eq_getElem hk3, Option.getD_some]
 exact h1 _ (List.getElem_mem hj3) _ (List.getElem_mem hk3)
theorem within_iff {n lo hi : Int} : within n lo hi = true ↔ lo ≤ n ∧ n ≤ hi := by simp [within]
theorem moved_spot {m : Move} {nj n : Int} (h : moved m nj n = true) : (m.1 = 1 → 0 ≤ m.2.1 ∧ m.2.1 < n) ∧ ((m.1 = 3 ∨ m.1 = 4 ∨ m.1 = 5) → (0 ≤ m.2.1 ∧ m.2.1 < n) ∧ 0 ≤ m.2.2 ∧ m.2.2 < nj) := by
 unfold moved at h
 by_cases h1 : m.1 = 1
 ·rw [if_pos h1, Bool.and_eq_true, within_iff] at h
  exact ⟨fun _ => by omega, fun h2 => by omega⟩
 ·rw [if_neg h1] at h
  by_cases h2 : m.1 = 2 ∨ m.1 = 6
  ·exact ⟨fun h3 => absurd h3 h1, fun h3 => by omega⟩
  ·rw [if_neg h2] at h
   by_cases h3 : m.1 = 3 ∨ m.1 = 4 ∨ m.1 = 5
   ·rw [if_pos h3, Bool.and_eq_true, within_iff, within_iff] at h
    exact ⟨fun h4 => absurd h4 h1, fun _ => by omega⟩
   ·rw [if_neg h3] at h; cases h
theorem now_lines {p : HProc} : (p.gone < p.hl.length → p.now.lines = p.head.now :: ((p.hl.drop (p.gone + 1)).map HLine.now)) ∧ (p.hl.length ≤ p.gone → p.now.lines = []) := by
 refine ⟨fun h => ?_, fun h => ?_⟩
 ·show (p.hl.drop p.gone).map HLine.now = _
  rw [drop_head h]; rfl
 ·show (p.hl.drop p.gone).map HLine.now = _
  rw [List.drop_of_length_le h]; rfl
theorem goes_cases {p : HProc} (h : p.goes = true) : (0 ≤ p.job ∧ p.waits < 0) ∨ (p.job < 0 ∧ p.gone < p.hl.length ∧ (p.head.all.drop p.head.tk = [] → p.head.closed = true)) := by
 unfold HProc.goes Proc.goes Proc.state at h
 have e1 : p.now.job = p.job := rfl
 have e2 : p.now.waits = p.waits := rfl
 rw [e1, e2] at h
 by_cases h1 : 0 ≤ p.job ∧ 0 ≤ p.waits
 ·rw [if_pos h1] at h; cases h
 ·rw [if_neg h1] at h
  by_cases h2 : 0 ≤ p.job
  ·exact .inl ⟨h2, by omega⟩
  ·rw [if_neg h2] at h
   right
   refine ⟨by omega, ?_⟩
   rcases Nat.lt_or_ge p.gone p.hl.length with h3 | h3
   ·refine ⟨h3, fun h4 => ?_⟩
    rw [now_lines.1 h3] at h
    simp only at h
    have e3 : p.head.now.asks = [] := h4
    have e4 : p.head.now.closed = p.head.closed := rfl
    rw [e3, e4] at h
    cases hc : p.head.closed with
    | true => rfl
    | false => rw [hc] at h; simp at h
   ·rw [now_lines.2 h3] at h; cases h
section
variable {h : HYard}
theorem HProc.waits_neg {p : HProc} {i n nj : Nat} {jl : Int → Nat} (ok : p.Ok i n nj jl) (h : p.waits < 0) : p.waits = -1 := by
 rcases ok.waits with h1 | h1
 ·exact h1
 ·omega
theorem hold_mem {p : HProc} {of : Int} {x : Hold} (h : p.hold of = some x) : x ∈ p.holds ∧ x.1 = of ∧ x.2.2 = false := by
 unfold HProc.hold at h
 have h1 := List.find?_some h
 have h2 := List.mem_of_find?_eq_some h
 simp at h1 h2
 exact ⟨h2, h1.1, h1.2⟩
theorem HInv.deed (H : HInv h) {i : Nat} (hi : i < h.procs.length) (hj : 0 ≤ (h.pr i).job) (hw : (h.pr i).waits = -1) {m : Move} (hm : moved m h.jobs.length h.procs.length = true) : HInv (h.aps (h.effDeed i m)) := by
 have hsp := moved_spot hm
 have hfin : ∀ f, HInv (h.aps (h.effFin i f)) := fun f => H.effEnd hi hj hw
 unfold HYard.effDeed
 by_cases h1 : m.1 = 1
 ·rw [if_pos h1]
  have hs := hsp.1 h1
  split
  ·exact H.holdOwn hi hj hs
  ·rename_i h2
   rw [not_or] at h2
   have hno : (h.pr i).hold m.2.1 = none := by simpa using h2.1
   have e : ((m.2.1.toNat : Nat) : Int) = m.2.1 := Int.toNat_of_nonneg hs.1
   have := H.reserve hi (to := m.2.1.toNat) (by omega) (by omega) hj (by rw [e]; exact hno)
   rw [e] at this
   exact this
 ·rw [if_neg h1]
  by_cases h2 : m.1 = 2
  ·rw [if_pos h2]
   cases hx : (h.pr i).holds.getLast? with
   | none => exact H
   | some x => exact H.leave hi hj hx
  ·rw [if_neg h2]
   by_cases h3 : m.1 = 3 ∨ m.1 = 4
   ·rw [if_pos h3]
    have hs := hsp.2 (by omega)
    split
    ·exact H
    ·cases hx : (h.pr i).hold m.2.1 with
     | none => exact hfin true
     | some x =>
      obtain ⟨g1, g2, g3⟩ := hold_mem hx
      rw [← g2]
      by_cases h4 : m.1 = 4
      ·have e4 : (m.1 == 4) = true := by simp [h4]
       rw [e4, if_pos h4]
       exact H.askw hi hj hw g1 g3 hs.2
      ·have e4 : (m.1 == 4) = false := by simp [h4]
       rw [e4, if_neg h4]
       exact H.ask hi g1 g3 hs.2
   ·rw [if_neg h3]
    by_cases h4 : m.1 = 5
    ·rw [if_pos h4]
     have hs := hsp.2 (by omega)
     exact H.spawn hi (by omega) hs.2
    ·rw [if_neg h4]
     exact hfin true
theorem HInv.step (H : HInv h) {i : Nat} (hi : i < h.procs.length) (hg : (h.pr i).goes = true) : HInv (h.step i) := by
 unfold HYard.step HYard.effs
 rcases goes_cases hg with ⟨hj, hw⟩ | ⟨hj, hgl, hcl⟩
 ·have hw := HProc.waits_neg (H.ok i hi) hw
  rw [if_pos hj]
  split
  ·exact H.effEnd hi hj hw
  ·rename_i hne
   have hb := (H.ok i hi).busy hj
   have H1 := H.pc hi hj (v := (h.pr i).pc + 1) (by omega) (by omega)
   have hp : (h.ap (i, .pc ((h.pr i).pc + 1))).pr i = (Eff.pc ((h.pr i).pc + 1)).ap (h.pr i) := by rw [HYard.pr_ap hi, if_pos rfl]
   refine HInv.deed H1 (by rw [HYard.ap_len]; exact hi) (by rw [hp]; exact hj) (by rw [hp]; exact hw) ?_
   rw [HYard.ap_len]
   exact mv_ok H.chk hj hb.1 hb.2.1 (by omega)
 ·rw [if_neg (by omega)]
  cases ha : (h.pr i).head.all.drop (h.pr i).head.tk with
  | nil => exact H.go hi hj hgl ha (hcl ha)
  | cons a r =>
   simp only
   split
   ·obtain ⟨H1, h2⟩ := H.left hi hj hgl ha
    rw [HYard.aps_append]
    split
    ·rename_i ha2
     obtain ⟨g1, g2, g3⟩ := h2 ha2
     rw [if_pos ha2] at H1 g2 g3
     exact H1.effEnd (by rw [HYard.aps_len]; exact g1) g2 g3
    ·rename_i ha2
     rw [if_neg ha2] at H1
     exact H1
   ·rename_i hb
    exact H.begin hi hj hgl ha (by simpa using hb)
end
theorem HYard.new_pr {jobs : List (List Move)} {n t : Nat} (ht : t < n) : (HYard.new jobs n).pr t = if t = 0 then { HProc.empty with hl := [⟨(0, 0), [(0, false)], 0, [], true, false⟩], made := 1 } else HProc.empty := by
 unfold HYard.new HYard.pr
 rw [List.getD_eq_getElem?_getD, List.getElem?_set]
 by_cases e : t = 0
 ·subst e
  rw [if_pos rfl, if_pos rfl, if_pos (by simpa using ht)]; rfl
 ·rw [if_neg (Ne.symm e), if_neg e, List.getElem?_replicate, if_pos ht]; rfl
theorem HYard.new_len {jobs : List (List Move)} {n : Nat} : (HYard.new jobs n).procs.length = n := by simp [HYard.new]
theorem HInv.new {jobs : List (List Move)} {n : Nat} (hc : check jobs n = 0) : HInv (HYard.new jobs n) := by
 have hk := check_ok hc
 have hn : 0 < n := by omega
 have h0 : ∀ t, t < n → t ≠ 0 → (HYard.new jobs n).pr t = HProc.empty := fun t ht e => by rw [HYard.new_pr ht, if_neg e]
 have h1 : (HYard.new jobs n).pr 0 = { HProc.empty with hl := [⟨(0, 0), [(0, false)], 0, [], true, false⟩], made := 1 } := by rw [HYard.new_pr hn, if_pos rfl]
 have hone : ∀ t, t < n → ∀ l ∈ ((HYard.new jobs n).pr t).hl, t = 0 ∧ l = ⟨(0, 0), [(0, false)], 0, [], true, false⟩ := fun t ht l hl => by
  by_cases e : t = 0
  ·subst e; rw [h1] at hl; exact ⟨rfl, List.mem_singleton.1 hl⟩
  ·rw [h0 t ht e] at hl; simp [HProc.empty] at hl
 have hholds : ∀ t, t < n → ((HYard.new jobs n).pr t).holds = [] := fun t ht => by
  by_cases e : t = 0
  ·subst e; rw [h1]; rfl
  ·rw [h0 t ht e]; rfl
 refine ⟨⟨by rw [HYard.new_len]; exact hn, by rw [HYard.new_len]; exact hc, fun t ht => ?_, fun s t hs ht hst l hl k hk => ?_, fun t ht l hl => ?_, fun t ht x hx => ?_, fun t ht l hl hcl => ?_⟩, fun s t hs ht => ?_⟩
 ·rw [HYard.new_len] at ht ⊢
  by_cases e : t = 0
  ·subst e
   rw [h1]
   refine ⟨by show (0 : Int) ≤ 1; omega, Nat.zero_le _, by simp, fun j l hl => ?_, fun x hx => by simp [HProc.empty] at hx, by simp [HProc.empty], fun _ => ⟨rfl, rfl, rfl, rfl, rfl⟩, fun (h3 : (0 : Int) ≤ -1) => by omega, .inl rfl, fun (h3 : (0 : Int) ≤ -1) => by omega⟩
   have hj : j = 0 := by
    have := (List.getElem?_eq_some_iff.1 hl).1
    simp at this; omega
   subst hj
   obtain rfl : _ = l := by simpa using hl
   refine ⟨by show (0 : Int) ≤ 0 ∧ (0 : Int) < (n : Int) ∧ (0 : Int) ≤ 0; omega, fun a ha => ?_, fun h => absurd h (Nat.lt_irrefl _), fun _ => ⟨Nat.zero_le _, fun (h3 : (0 : Int) ≤ -1) => by omega, fun _ => rfl⟩, fun h => absurd h (Nat.lt_irrefl _)⟩
   obtain rfl := List.mem_singleton.1 ha
   show (0 : Int) ≤ 0 ∧ (0 : Int) < (jobs.length : Int)
   omega
  ·rw [h0 t ht e]
   exact ⟨Int.le_refl _, Nat.le_refl _, by simp [HProc.empty], fun j l hl => by simp [HProc.empty] at hl, fun x hx => by simp [HProc.empty] at hx, by simp [HProc.empty], fun _ => ⟨rfl, rfl, rfl, rfl, rfl⟩, fun (h3 : (0 : Int) ≤ -1) => by omega, .inl rfl, fun (h3 : (0 : Int) ≤ -1) => by omega⟩
 ·rw [HYard.new_len] at hs ht
  have a1 := (hone s hs l hl).1
  have a2 := (hone t ht k hk).1
  exact absurd (a1.trans a2.symm) hst
 ·rw [HYard.new_len] at ht
  obtain ⟨_, rfl⟩ := hone t ht l hl
  show (0 : Int) < ((HYard.new jobs n).pr 0).made
  rw [h1]; show (0 : Int) < 1; omega
 ·rw [HYard.new_len] at ht
  rw [hholds t ht] at hx; simp at hx
 ·rw [HYard.new_len] at ht
  obtain ⟨_, rfl⟩ := hone t ht l hl
  cases hcl
 ·rw [HYard.new_len] at hs ht
  have hw : ((HYard.new jobs n).pr s).waits = -1 := by
   by_cases e : s = 0
   ·subst e; rw [h1]; rfl
   ·rw [h0 s hs e]; rfl
  have hno : ¬ ((-1 : Int) = (t : Int)) := by omega
  rw [hw, if_neg hno]
  by_cases e : t = 0
  ·subst e; rw [h1]
   unfold HProc.aw HLine.aw
   simp [HProc.empty]
  ·rw [h0 t ht e]; simp [HProc.aw, HProc.empty]
end Go.Wt
namespace Go.Wt
theorem HYard.now_pr (h : HYard) (i : Nat) : h.now.pr i = (h.pr i).now := by
 unfold HYard.now Yard.pr HYard.pr
 rw [List.getD_eq_getElem?_getD, List.getD_eq_getElem?_getD, List.getElem?_map]
 cases h.procs[i]? <;> rfl
theorem HYard.now_put (h : HYard) (i : Nat) (p : HProc) : (h.put i p).now = h.now.put i p.now := by
 unfold HYard.now HYard.put Yard.put
 simp [List.map_set]
theorem HYard.now_ap (h : HYard) (i : Nat) (e : Eff) : (h.ap (i, e)).now = h.now.put i (e.ap (h.pr i)).now := HYard.now_put _ _ _
theorem HYard.now_len (h : HYard) : h.now.procs.length = h.procs.length := by simp [HYard.now]
theorem Yard.pr_put {y : Yard} {i t : Nat} {p : Proc} (hi : i < y.procs.length) : (y.put i p).pr t = if t = i then p else y.pr t := by
 unfold Yard.put Yard.pr
 split
 ·rename_i e; subst e; simp [hi]
 ·rename_i e; simp [List.getElem?_set_ne (Ne.symm e)]
theorem Yard.put_put {y : Yard} {i : Nat} {p q : Proc} : (y.put i p).put i q = y.put i q := by simp [Yard.put]
theorem Yard.put_len {y : Yard} {i : Nat} {p : Proc} : (y.put i p).procs.length = y.procs.length := by simp [Yard.put]
section
variable {p : HProc} {i n nj : Nat} {jl : Int → Nat}
theorem dids_nil {l : HLine} (h : l.res = []) : l.dids = [] := by unfold HLine.dids; rw [h]; simp
theorem dids_later (ok : p.Ok i n nj jl) : (p.hl.drop (p.gone + 1)).flatMap HLine.dids = [] := by
 rw [List.flatMap_eq_nil_iff]
 intro l hl
 obtain ⟨j, hj⟩ := List.getElem?_of_mem hl
 rw [List.getElem?_drop] at hj
 exact dids_nil ((ok.line _ l hj).later (by omega)).2.1
theorem now_line (hgl : p.gone ≤ p.hl.length) {x : HLine} (hr : x.res = []) : ((Eff.line x).ap p).now = { p.now with lines := p.now.lines ++ [x.now], puts := p.now.puts ++ [x.key] } := by
 have e1 : ((p.hl ++ [x]).drop p.gone).map HLine.now = (p.hl.drop p.gone).map HLine.now ++ [x.now] := by rw [List.drop_append_of_le_length hgl, List.map_append]; rfl
 have e2 : (p.hl ++ [x]).map HLine.key = p.hl.map HLine.key ++ [x.key] := by rw [List.map_append]; rfl
 have e3 : (p.hl ++ [x]).flatMap HLine.dids = p.hl.flatMap HLine.dids := by rw [List.flatMap_append]; simp [dids_nil hr]
 unfold HProc.now Eff.ap
 simp only [e1, e2, e3]
theorem updh_at {k : Key} {f : HLine → HLine} : ∀ {l : List HLine} {j : Nat} {x : HLine}, (l.map HLine.key).Nodup → l[j]? = some x → x.key = k → updh k f l = l.set j (f x)
 | y :: l, 0, x, hnd, hx, hk => by
  rw [List.map_cons, List.nodup_cons] at hnd
  obtain rfl : y = x := by simpa using hx
  show (if y.key = k then f y else y) :: updh k f l = f y :: l
  rw [if_pos hk]
  congr 1
  unfold updh
  conv => rhs; rw [← List.map_id l]
  apply List.map_congr_left
  intro z hz
  rw [if_neg (fun e => hnd.1 (by rw [hk, ← e]; exact List.mem_map.2 ⟨z, hz, rfl⟩))]; rfl
 | y :: l, j + 1, x, hnd, hx, hk => by
  rw [List.map_cons, List.nodup_cons] at hnd
  have hx' : l[j]? = some x := by simpa using hx
  have hy : y.key ≠ k := fun e => hnd.1 (by rw [e, ← hk]; exact List.mem_map.2 ⟨x, List.mem_of_getElem? hx', rfl⟩)
  show (if y.key = k then f y else y) :: updh k f l = y :: l.set j (f x)
  rw [if_neg hy, updh_at hnd.2 hx' hk]
theorem line_at (hnd : (p.hl.map HLine.key).Nodup) {j : Nat} {l : HLine} (hj : p.gone ≤ j) (hl : p.hl[j]? = some l) : p.now.line l.key = some (j - p.gone) ∧ p.now.lines[j - p.gone]? = some l.now := by
 have h1 : p.now.lines[j - p.gone]? = some l.now := by
  show ((p.hl.drop p.gone).map HLine.now)[j - p.gone]? = _
  rw [List.getElem?_map, List.getElem?_drop, show p.gone + (j - p.gone) = j by omega, hl]; rfl
 refine ⟨?_, h1⟩
 unfold Proc.line
 rw [List.findIdx?_eq_some_iff_getElem]
 obtain ⟨hlt, hv⟩ := List.getElem?_eq_some_iff.1 h1
 refine ⟨hlt, by rw [hv]; simp [HLine.now], fun q hq => ?_⟩
 have h2 : p.now.lines[q]? = some p.now.lines[q] := List.getElem?_eq_getElem (by omega)
 have h3 : ((p.hl.drop p.gone).map HLine.now)[q]? = some p.now.lines[q] := h2
 rw [List.getElem?_map, List.getElem?_drop, Option.map_eq_some_iff] at h3
 obtain ⟨y, hy, he⟩ := h3
 have hne : y.key ≠ l.key := fun e => by have := key_at hnd hy hl e; omega
 rw [← he]
 simpa [HLine.now] using hne
theorem now_upd (hnd : (p.hl.map HLine.key).Nodup) {f : HLine → HLine} (hk : ∀ x, (f x).key = x.key) {j : Nat} {l : HLine} (hj : p.gone ≤ j) (hl : p.hl[j]? = some l) (hd : (f l).dids = l.dids) :
  { p with hl := updh l.key f p.hl }.now = { p.now with lines := p.now.lines.set (j - p.gone) (f l).now } := by
 have hjl := (List.getElem?_eq_some_iff.1 hl).1
 have e1 : ((updh l.key f p.hl).drop p.gone).map HLine.now = ((p.hl.drop p.gone).map HLine.now).set (j - p.gone) (f l).now := by
  rw [updh_at hnd hl rfl, List.drop_set, if_neg (by omega), List.map_set]
 have e2 : (updh l.key f p.hl).map HLine.key = p.hl.map HLine.key := updh_keys _ _ hk _
 have e3 : (updh l.key f p.hl).flatMap HLine.dids = p.hl.flatMap HLine.dids := by
  rw [updh_at hnd hl rfl]
  apply congrArg List.flatten
  rw [List.map_set, hd]
  apply List.ext_getElem?
  intro q
  rw [List.getElem?_set]
  split
  ·rename_i e; subst e
   rw [if_pos (by simpa using hjl), List.getElem?_map, hl]; rfl
  ·rfl
 unfold HProc.now
 simp only [e1, e2, e3]
theorem now_close (hnd : (p.hl.map HLine.key).Nodup) {j : Nat} {l : HLine} (hj : p.gone ≤ j) (hl : p.hl[j]? = some l) : ((Eff.close l.key).ap p).now = p.now.setl (j - p.gone) { p.now.lines.getD (j - p.gone) Line.none with closed := true } := by
 have h1 := (line_at hnd hj hl).2
 have := now_upd hnd (f := HLine.shut) (fun _ => rfl) hj hl rfl
 show ({ p with hl := updh l.key HLine.shut p.hl } : HProc).now = _
 rw [this, List.getD_eq_getElem?_getD, h1]; rfl
theorem zip_app {α β : Type} (a : α) : ∀ {l : List α} {r : List β}, r.length ≤ l.length → (l ++ [a]).zip r = l.zip r
 | _, [], _ => by simp
 | [], _ :: _, h => by simp at h
 | x :: l, y :: r, h => by
  show (x, y) :: (l ++ [a]).zip r = (x, y) :: l.zip r
  rw [zip_app a (by simpa using h)]
theorem now_ask (hnd : (p.hl.map HLine.key).Nodup) {j : Nat} {l : HLine} (hj : p.gone ≤ j) (hl : p.hl[j]? = some l) (htk : l.tk ≤ l.all.length) (hres : l.res.length ≤ l.all.length) (a : Ask) :
  ((Eff.ask l.key a).ap p).now = p.now.setl (j - p.gone) { p.now.lines.getD (j - p.gone) Line.none with asks := (p.now.lines.getD (j - p.gone) Line.none).asks ++ [a] } := by
 have h1 := (line_at hnd hj hl).2
 have hd : (HLine.asked a l).dids = l.dids := by
  unfold HLine.dids HLine.asked
  simp only [zip_app a hres]
 have := now_upd hnd (f := HLine.asked a) (fun _ => rfl) hj hl hd
 show ({ p with hl := updh l.key (HLine.asked a) p.hl } : HProc).now = _
 rw [this, List.getD_eq_getElem?_getD, h1]
 unfold Proc.setl
 simp only [Option.getD_some]
 have e : (HLine.asked a l).now = { l.now with asks := l.now.asks ++ [a] } := by
  unfold HLine.now HLine.asked
  simp only [List.drop_append_of_le_length htk]
 rw [e]
end
end Go.Wt
namespace Go.Wt
section
variable {h : HYard}
theorem HInv.now_leave (H : HInv h) {i : Nat} (hi : i < h.procs.length) {x : Hold} (hx : (h.pr i).holds.getLast? = some x) : (h.aps ((i, .holds (h.pr i).holds.dropLast) :: clh x)).now = h.now.leave i := by
 have hxm := List.mem_of_getLast? hx
 have hn : (h.now.pr i).holds.getLast? = some x := by rw [HYard.now_pr]; exact hx
 unfold Yard.leave
 rw [hn]
 simp only
 have e1 : (h.ap (i, .holds (h.pr i).holds.dropLast)).now = h.now.put i { h.now.pr i with holds := (h.now.pr i).holds.dropLast } := by
  rw [HYard.now_ap, HYard.now_pr]; rfl
 unfold clh Yard.close
 by_cases hown : x.2.2 = true
 ·rw [if_pos hown, if_pos hown]
  exact e1
 ·rw [if_neg hown, if_neg hown]
  have hx2 : x.2.2 = false := by simpa using hown
  obtain ⟨g1, g2, g3, g4, j, l, g5, g6, g7, g8, g9⟩ := H.toHInv0.held' hi hxm hx2
  show ((h.ap (i, .holds (h.pr i).holds.dropLast)).ap (x.1.toNat, .close x.2.1)).now = _
  rw [HYard.now_ap, e1]
  have hp : (h.ap (i, .holds (h.pr i).holds.dropLast)).pr x.1.toNat = h.pr x.1.toNat := by rw [HYard.pr_ap hi, if_neg g2]
  have hq : (h.now.put i { h.now.pr i with holds := (h.now.pr i).holds.dropLast }).pr x.1.toNat = (h.pr x.1.toNat).now := by
   rw [Yard.pr_put (by rw [HYard.now_len]; exact hi), if_neg g2, HYard.now_pr]
  have hnd := (H.ok _ g1).nd
  rw [hp, hq, ← g7, (line_at hnd g5 g6).1, now_close hnd g5 g6]
theorem HInv.now_leaves {i : Nat} : ∀ {r : List Hold} {h : HYard}, HInv h → i < h.procs.length → 0 ≤ (h.pr i).job → (h.pr i).holds.reverse = r → (h.aps (lvs i r)).now = h.now.leaves i r.length
 | [], h, H, _, _, _ => rfl
 | x :: r, h, H, hi, hj, hr => by
  have hh : (h.pr i).holds = r.reverse ++ [x] := by
   have := congrArg List.reverse hr
   simpa using this
  have hd : (h.pr i).holds.dropLast = r.reverse := by rw [hh]; simp
  have hl : (h.pr i).holds.getLast? = some x := by rw [hh]; simp
  have H1 := H.leave hi hj hl
  have hp := H.toHInv0.leave_pr hi (List.mem_of_getLast? hl) (h.pr i).holds.dropLast
  have hn := H.now_leave hi hl
  rw [hd] at H1 hp hn
  have e : h.aps (lvs i (x :: r)) = (h.aps ((i, .holds r.reverse) :: clh x)).aps (lvs i r) := by
   show h.aps (((i, .holds r.reverse) :: clh x) ++ lvs i r) = _
   rw [HYard.aps_append]
  rw [e, HInv.now_leaves H1 (by rw [HYard.aps_len]; exact hi) (by rw [hp]; exact hj) (by rw [hp]; show r.reverse.reverse = r; simp), hn]
  rfl
theorem take_did {p : HProc} {i n nj : Nat} {jl : Int → Nat} (ok : p.Ok i n nj jl) (hg : p.gone < p.hl.length) {f : HLine → HLine} (hk : ∀ x, (f x).key = x.key) {d : List Did} (hd : (f p.head).dids = p.head.dids ++ d) :
  { p with hl := p.hl.modify p.gone f }.now = { p.now with lines := (f p.head).now :: (p.hl.drop (p.gone + 1)).map HLine.now, did := p.now.did ++ d } := by
 have e1 : ((p.hl.modify p.gone f).drop p.gone).map HLine.now = (f p.head).now :: (p.hl.drop (p.gone + 1)).map HLine.now := by
  have h1 : ({ p with hl := p.hl.modify p.gone f } : HProc).gone < ({ p with hl := p.hl.modify p.gone f } : HProc).hl.length := by simpa using hg
  have h2 := drop_head h1
  have h3 : ({ p with hl := p.hl.modify p.gone f } : HProc).head = f p.head := head_get (by show (p.hl.modify p.gone f)[p.gone]? = _; rw [modify_get, if_pos rfl, get_head hg]; rfl)
  rw [h3] at h2
  have h4 : (p.hl.modify p.gone f).drop p.gone = f p.head :: (p.hl.modify p.gone f).drop (p.gone + 1) := h2
  rw [h4, drop_modify]; rfl
 have e2 : (p.hl.modify p.gone f).map HLine.key = p.hl.map HLine.key := modify_keys _ _ hk _
 have e3 : (p.hl.modify p.gone f).flatMap HLine.dids = p.hl.flatMap HLine.dids ++ d := by
  have h1 : p.hl = p.hl.take p.gone ++ p.head :: p.hl.drop (p.gone + 1) := by rw [← drop_head hg, List.take_append_drop]
  have h2 : p.hl.modify p.gone f = p.hl.take p.gone ++ f p.head :: p.hl.drop (p.gone + 1) := by
   have h3 : (p.hl.modify p.gone f) = (p.hl.modify p.gone f).take p.gone ++ (p.hl.modify p.gone f).drop p.gone := (List.take_append_drop _ _).symm
   have h4 : (p.hl.modify p.gone f).take p.gone = p.hl.take p.gone := by
    apply List.ext_getElem?
    intro q
    rw [List.getElem?_take, List.getElem?_take]
    split
    ·rw [modify_get, if_neg (by omega)]
    ·rfl
   have h5 : (p.hl.modify p.gone f).drop p.gone = f p.head :: p.hl.drop (p.gone + 1) := by
    have h1 : ({ p with hl := p.hl.modify p.gone f } : HProc).gone < ({ p with hl := p.hl.modify p.gone f } : HProc).hl.length := by simpa using hg
    have h2 := drop_head h1
    have h3 : ({ p with hl := p.hl.modify p.gone f } : HProc).head = f p.head := head_get (by show (p.hl.modify p.gone f)[p.gone]? = _; rw [modify_get, if_pos rfl, get_head hg]; rfl)
    rw [h3] at h2
    have h4 : (p.hl.modify p.gone f).drop p.gone = f p.head :: (p.hl.modify p.gone f).drop (p.gone + 1) := h2
    rw [h4, drop_modify]
   rw [h3, h4, h5]
  have hz := dids_later ok
  rw [h2]
  conv => rhs; rw [h1]
  rw [List.flatMap_append, List.flatMap_append, List.flatMap_cons, List.flatMap_cons, hd, hz]
  simp
 unfold HProc.now
 simp only [e1, e2, e3]
theorem zip_push {α β : Type} : ∀ {l : List α} {r : List β} {a : α} {b : β}, l[r.length]? = some a → l.zip (r ++ [b]) = l.zip r ++ [(a, b)]
 | [], r, a, b, h => by simp at h
 | x :: l, [], a, b, h => by
  obtain rfl : x = a := by simpa using h
  simp
 | x :: l, y :: r, a, b, h => by
  show (x, y) :: l.zip (r ++ [b]) = (x, y) :: l.zip r ++ [(a, b)]
  rw [zip_push (by simpa using h)]; rfl
theorem dids_push {l : HLine} {a : Ask} (h : l.all[l.res.length]? = some a) (x y : Bool) : (l.fin x y).dids = l.dids ++ [(l.key, a.1, x, y)] := by
 unfold HLine.dids HLine.fin
 simp only
 rw [zip_push h, List.map_append]; rfl
theorem HInv.now_end : ∀ {n : Nat} {h : HYard} {i : Nat} {f : Bool}, HInv h → i < h.procs.length → 0 ≤ (h.pr i).job → (h.pr i).waits = -1 → (h.aps (HYard.effEnd n h i f)).now = Yard.ends n h.now i f
  | 0, h, i, f, H, _, _, _ => rfl
  | n + 1, h, i, f, H, hi, hj, hw => by
    unfold HYard.effEnd
    rw [HYard.aps_append]
    have HS := H.stop hi hj hw f
    have hown := fun (t : Nat) (ht : t < h.procs.length) (hti : t ≠ i) => H.stop_own hi f ht hti
    have hcl := fun hwt => H.client hi hwt
    obtain ⟨H1, hp⟩ := H.leaves hi hj rfl
    have hnl := HInv.now_leaves H hi hj rfl
    rw [List.length_reverse] at hnl
    have hgl := ((H.ok i hi).busy hj).2.2.2
    have hstop : (h.aps (h.effStop i f)).now =
        (let y := h.now.leaves i (h.now.pr i).holds.length
         let y := y.put i { y.pr i with job := -1, pc := 0, waited := false, did := (y.pr i).did ++ [((h.pr i).head.key, (h.pr i).job, false, f)], lines := { (h.pr i).head.now with broken := (h.pr i).head.now.broken || f } :: ((h.pr i).hl.drop ((h.pr i).gone + 1)).map HLine.now }
         if (h.pr i).waited = true then y.put (h.pr i).head.key.1.toNat { y.pr (h.pr i).head.key.1.toNat with waits := -1 } else y) := by
      have hholds : (h.now.pr i).holds = (h.pr i).holds := by rw [HYard.now_pr]; rfl
      unfold HYard.effStop
      rw [HYard.aps_append, HYard.aps_append, hholds]
      simp only
      rw [← hnl]
      generalize hg1 : h.aps (lvs i (h.pr i).holds.reverse) = h1 at H1 hp
      have hn1 : h1.procs.length = h.procs.length := by rw [← hg1]; exact HYard.aps_len
      have hi1 : i < h1.procs.length := by omega
      have hgone : (h.pr i).gone = (h1.pr i).gone := by rw [hp]
      have hhead : (h.pr i).head = (h1.pr i).head := by rw [hp]; rfl
      have hwtd : (h.pr i).waited = (h1.pr i).waited := by rw [hp]
      have hhl : (h.pr i).hl = (h1.pr i).hl := by rw [hp]
      have hjob : (h.pr i).job = (h1.pr i).job := by rw [hp]
      have hh1 : (h1.pr i).holds = [] := by rw [hp]
      rw [hgone, hhead, hwtd, hhl, hjob]
      have hj1 : 0 ≤ (h1.pr i).job := by rw [hp]; exact hj
      have hg1' : (h1.pr i).gone < (h1.pr i).hl.length := ((H1.ok i hi1).busy hj1).2.2.2
      have hap : h1.aps [(i, .idle), (i, .res (h1.pr i).gone false f)] = h1.put i ((Eff.res (h1.pr i).gone false f).ap ((Eff.idle).ap (h1.pr i))) := HYard.ap_ap hi1
      obtain ⟨l, a, d1, d2, d3, d4⟩ := (H1.ok i hi1).doing hj1
      have hlh : l = (h1.pr i).head := (head_get d1).symm
      subst hlh
      have hq : ((Eff.res (h1.pr i).gone false f).ap ((Eff.idle).ap (h1.pr i))).now = { (h1.pr i).now with job := -1, pc := 0, waited := false, did := (h1.pr i).now.did ++ [((h1.pr i).head.key, (h1.pr i).job, false, f)], lines := { (h1.pr i).head.now with broken := (h1.pr i).head.now.broken || f } :: ((h1.pr i).hl.drop ((h1.pr i).gone + 1)).map HLine.now } := by
        have := take_did (H1.ok i hi1) hg1' (f := HLine.fin false f) (fun _ => rfl) (dids_push d2 false f)
        rw [d3] at this
        have e : ((Eff.res (h1.pr i).gone false f).ap ((Eff.idle).ap (h1.pr i))).now = { ({ h1.pr i with hl := (h1.pr i).hl.modify (h1.pr i).gone (HLine.fin false f) } : HProc).now with job := -1, pc := 0, waited := false, holds := [] } := rfl
        rw [e, this]
        unfold HProc.now
        simp only [hh1]
        rfl
      rw [hap]
      have hput : (h1.put i ((Eff.res (h1.pr i).gone false f).ap ((Eff.idle).ap (h1.pr i)))).now = h1.now.put i { h1.now.pr i with job := -1, pc := 0, waited := false, did := (h1.now.pr i).did ++ [((h1.pr i).head.key, (h1.pr i).job, false, f)], lines := { (h1.pr i).head.now with broken := (h1.pr i).head.now.broken || f } :: ((h1.pr i).hl.drop ((h1.pr i).gone + 1)).map HLine.now } := by
        rw [HYard.now_put, hq, HYard.now_pr]
      split
      · show ((h1.put i _).ap ((h1.pr i).head.key.1.toNat, .waits (-1))).now = _
        rw [HYard.now_ap, hput]
        congr 1
        have : (Eff.waits (-1)).ap ((h1.put i ((Eff.res (h1.pr i).gone false f).ap ((Eff.idle).ap (h1.pr i)))).pr (h1.pr i).head.key.1.toNat) = { (h1.put i ((Eff.res (h1.pr i).gone false f).ap ((Eff.idle).ap (h1.pr i)))).pr (h1.pr i).head.key.1.toNat with waits := -1 } := rfl
        rw [this, ← hput, HYard.now_pr]
        rfl
      · exact hput
    have hyl : ((h.now.leaves i (h.now.pr i).holds.length).pr i).lines = (h.pr i).head.now :: ((h.pr i).hl.drop ((h.pr i).gone + 1)).map HLine.now ∧ ((h.now.leaves i (h.now.pr i).holds.length).pr i).job = (h.pr i).job ∧ ((h.now.leaves i (h.now.pr i).holds.length).pr i).waited = (h.pr i).waited := by
      have hholds : (h.now.pr i).holds = (h.pr i).holds := by rw [HYard.now_pr]; rfl
      rw [hholds, ← hnl, HYard.now_pr, hp]
      refine ⟨?_, rfl, rfl⟩
      exact now_lines.1 hgl
    unfold Yard.ends
    simp only
    rw [hyl.1]
    simp only
    have hlen : (h.now.leaves i (h.now.pr i).holds.length).procs.length = h.procs.length := by
      have hholds : (h.now.pr i).holds = (h.pr i).holds := by rw [HYard.now_pr]; rfl
      rw [hholds, ← hnl, HYard.now_len, HYard.aps_len]
    have hz : i < (h.now.leaves i (h.now.pr i).holds.length).procs.length := by rw [hlen]; exact hi
    have hkey : (h.pr i).head.now.key = (h.pr i).head.key := rfl
    rw [hkey, hyl.2.1, hyl.2.2]
    simp only [Yard.put_put, Yard.pr_put hz, if_true]
    simp only [Yard.pr_put hz] at hstop
    by_cases hwt : (h.pr i).waited = true
    · obtain ⟨g1, g2, g3, g4, g5⟩ := hcl hwt
      rw [if_pos hwt, if_neg g4] at hstop
      rw [if_pos hwt, if_neg g4]
      have hw2 : ((h.now.leaves i (h.now.pr i).holds.length).pr (h.pr i).head.key.1.toNat).waits = i := by
        have hholds : (h.now.pr i).holds = (h.pr i).holds := by rw [HYard.now_pr]; rfl
        rw [hholds, ← hnl, HYard.now_pr]
        have := HYard.own_aps (h := h) (A := lvs i (h.pr i).holds.reverse) g1 (fun a ha hat => lvs_out g4 ha hat)
        show ((h.aps (lvs i (h.pr i).holds.reverse)).pr (h.pr i).head.key.1.toNat).waits = i
        rw [this.waits]; exact g3
      rw [if_pos hw2]
      cases f with
      | true =>
        simp only [hwt, Bool.and_self, if_true]
        have o := hown _ g1 g4
        rw [if_pos ⟨hwt, rfl⟩] at o
        have ih := HInv.now_end (n := n) (f := true) HS (by rw [HYard.aps_len]; exact g1) (by rw [o.job]; exact g5) o.waits
        rw [ih, hstop]; rfl
      | false =>
        simp only [Bool.and_false, Bool.false_eq_true, if_false]
        exact hstop
    · rw [if_neg hwt] at hstop
      rw [if_neg hwt]
      have : (h.pr i).waited = false := by simpa using hwt
      simp only [this, Bool.false_and, Bool.false_eq_true, if_false]
      exact hstop
end
end Go.Wt
namespace Go.Wt
section
variable {h : HYard}
theorem HInv.now_fin (H : HInv h) {i : Nat} (hi : i < h.procs.length) (hj : 0 ≤ (h.pr i).job) (hw : (h.pr i).waits = -1) (f : Bool) : (h.aps (h.effFin i f)).now = h.now.fin i f := by
 unfold HYard.effFin Yard.fin
 rw [HYard.now_len]
 exact H.now_end hi hj hw
theorem res_len {p : HProc} {i n nj : Nat} {jl : Int → Nat} (ok : p.Ok i n nj jl) {j : Nat} {l : HLine} (hj : p.gone ≤ j) (hl : p.hl[j]? = some l) : l.res.length ≤ l.all.length := by
 have hk := ok.line j l hl
 rcases Nat.lt_or_ge p.gone j with h | h
 ·rw [(hk.later h).2.1]; exact Nat.zero_le _
 ·have e : j = p.gone := by omega
  have := hk.cur e
  rcases Int.lt_or_le p.job 0 with h1 | h1
  ·have := this.2.2 h1; omega
  ·have := (this.2.1 h1).2; omega
theorem HInv.now_deed (H : HInv h) {i : Nat} (hi : i < h.procs.length) (hj : 0 ≤ (h.pr i).job) (hw : (h.pr i).waits = -1) {m : Move} (hm : moved m h.jobs.length h.procs.length = true) : (h.aps (h.effDeed i m)).now = h.now.deed i m := by
 have hsp := moved_spot hm
 have hil : i < h.now.procs.length := by rw [HYard.now_len]; exact hi
 have hnp : h.now.pr i = (h.pr i).now := HYard.now_pr h i
 have hhold : ∀ of, (h.now.pr i).hold of = (h.pr i).hold of := fun of => by rw [hnp]; rfl
 unfold HYard.effDeed Yard.deed
 by_cases h1 : m.1 = 1
 ·rw [if_pos h1, if_pos h1]
  have hs := hsp.1 h1
  unfold Yard.enter
  rw [hhold]
  by_cases h2 : ((h.pr i).hold m.2.1).isSome = true ∨ m.2.1 = i
  ·rw [if_pos h2, if_pos h2]
   show (h.ap (i, _)).now = _
   rw [HYard.now_ap, hnp]; rfl
  ·rw [if_neg h2, if_neg h2]
   rw [not_or] at h2
   have hti : m.2.1.toNat ≠ i := fun e => h2.2 (by omega)
   have hto : m.2.1.toNat < h.procs.length := by omega
   have hn : ∀ (x : HLine), x.res = [] → (h.aps [(m.2.1.toNat, .line x), (i, .made), (i, .hold (m.2.1, (h.pr i).next i, false))]).now =
     ((h.now.put m.2.1.toNat { h.now.pr m.2.1.toNat with lines := (h.now.pr m.2.1.toNat).lines ++ [x.now], puts := (h.now.pr m.2.1.toNat).puts ++ [x.key] }).put i { h.now.pr i with made := (h.now.pr i).made + 1, holds := (h.now.pr i).holds ++ [(m.2.1, (h.pr i).next i, false)] }) := fun x hx => by
    show (((h.ap (m.2.1.toNat, .line x)).ap (i, .made)).ap (i, .hold (m.2.1, (h.pr i).next i, false))).now = _
    rw [HYard.ap_ap (h := h.ap (m.2.1.toNat, .line x)) (by rw [HYard.ap_len]; exact hi), HYard.now_put, HYard.now_ap, HYard.pr_ap hto, if_neg (Ne.symm hti), now_line (H.ok _ hto).gl hx, HYard.now_pr, HYard.now_pr]
    rfl
   rw [hn _ rfl]
   unfold Yard.lay
   have hk : (h.pr i).next i = ((i : Int), (h.now.pr i).made) := by rw [hnp]; rfl
   have hcomm : ∀ (a b : Proc), (h.now.put i a).put m.2.1.toNat b = (h.now.put m.2.1.toNat b).put i a := fun a b => by
    unfold Yard.put; simp only [List.set_comm _ _ (Ne.symm hti)]
   have hl2 : ∀ b : Proc, i < (h.now.put m.2.1.toNat b).procs.length := fun b => by rw [Yard.put_len]; exact hil
   simp only [hk, Yard.pr_put hil, if_neg hti, hcomm, Yard.pr_put (hl2 _), if_true, Yard.put_put]
   rfl
 ·rw [if_neg h1, if_neg h1]
  by_cases h2 : m.1 = 2
  ·rw [if_pos h2, if_pos h2]
   cases hx : (h.pr i).holds.getLast? with
   | none =>
    unfold Yard.leave
    have : (h.now.pr i).holds.getLast? = none := by rw [hnp]; exact hx
    rw [this]; rfl
   | some x => exact H.now_leave hi hx
  ·rw [if_neg h2, if_neg h2]
   by_cases h3 : m.1 = 3 ∨ m.1 = 4
   ·rw [if_pos h3, if_pos h3]
    have hs := hsp.2 (by omega)
    unfold Yard.ask
    by_cases h4 : m.2.1 = i
    ·rw [if_pos h4, if_pos h4]; rfl
    ·rw [if_neg h4, if_neg h4, hhold]
     cases hx : (h.pr i).hold m.2.1 with
     | none => exact H.now_fin hi hj hw true
     | some x =>
      obtain ⟨g1, g2, g3⟩ := hold_mem hx
      obtain ⟨k1, k2, k3, k4, q, l, k5, k6, k7, k8, k9⟩ := H.toHInv0.held' hi g1 g3
      rw [g2] at k1 k2 k3 k5 k6
      have hnd := (H.ok _ k1).nd
      have hline : (h.now.pr m.2.1.toNat).line x.2.1 = some (q - (h.pr m.2.1.toNat).gone) := by rw [HYard.now_pr, ← k7]; exact (line_at hnd k5 k6).1
      simp only [hline]
      have hask : ∀ a : Ask, (h.ap (m.2.1.toNat, .ask x.2.1 a)).now = h.now.put m.2.1.toNat ((h.now.pr m.2.1.toNat).setl (q - (h.pr m.2.1.toNat).gone) { (h.now.pr m.2.1.toNat).lines.getD (q - (h.pr m.2.1.toNat).gone) Line.none with asks := ((h.now.pr m.2.1.toNat).lines.getD (q - (h.pr m.2.1.toNat).gone) Line.none).asks ++ [a] }) := fun a => by
       rw [HYard.now_ap, ← k7, now_ask hnd k5 k6 k9 (res_len (H.ok _ k1) k5 k6), HYard.now_pr]
      by_cases h5 : m.1 = 4
      ·rw [if_pos h5, if_pos h5]
       show ((h.ap (m.2.1.toNat, .ask x.2.1 (m.2.2, m.1 == 4))).ap (i, .waits m.2.1)).now = _
       rw [HYard.now_ap, hask, HYard.pr_ap k1, if_neg (Ne.symm k2), Yard.pr_put (by rw [HYard.now_len]; exact k1), if_neg (Ne.symm k2), hnp]
       rfl
      ·rw [if_neg h5, if_neg h5]
       exact hask _
   ·rw [if_neg h3, if_neg h3]
    by_cases h4 : m.1 = 5
    ·rw [if_pos h4, if_pos h4]
     have hs := hsp.2 (by omega)
     have hto : m.2.1.toNat < h.procs.length := by omega
     have hk : (h.pr i).next i = ((i : Int), (h.now.pr i).made) := by rw [hnp]; rfl
     unfold Yard.lay
     simp only [hk]
     show ((h.ap (m.2.1.toNat, .line _)).ap (i, .made)).now = _
     rw [HYard.now_ap, HYard.now_ap, HYard.pr_ap hto]
     have htl : m.2.1.toNat < h.now.procs.length := by rw [HYard.now_len]; exact hto
     by_cases e : i = m.2.1.toNat
     ·rw [if_pos e, ← e]
      have hml : ((Eff.made).ap ((Eff.line ⟨((i : Int), (h.now.pr i).made), [(m.2.2, false)], 0, [], true, false⟩).ap (h.pr i))).now = { ((Eff.line ⟨((i : Int), (h.now.pr i).made), [(m.2.2, false)], 0, [], true, false⟩).ap (h.pr i)).now with made := (h.pr i).made + 1 } := rfl
      rw [hml, now_line (H.ok _ hi).gl rfl]
      simp only [Yard.put_put, Yard.pr_put hil, if_true, hnp]
      rfl
     ·rw [if_neg e, now_line (H.ok _ hto).gl rfl]
      have hcomm : ∀ (a b : Proc), (h.now.put i a).put m.2.1.toNat b = (h.now.put m.2.1.toNat b).put i a := fun a b => by
       unfold Yard.put; simp only [List.set_comm _ _ e]
      simp only [Yard.pr_put hil, if_neg (Ne.symm e), hcomm, hnp, HYard.now_pr h m.2.1.toNat]
      rfl
    ·rw [if_neg h4, if_neg h4]
     exact H.now_fin hi hj hw true
theorem HInv.now_step (H : HInv h) {i : Nat} (hi : i < h.procs.length) (hg : (h.pr i).goes = true) : (h.step i).now = h.now.step i := by
 have hil : i < h.now.procs.length := by rw [HYard.now_len]; exact hi
 have hnp : h.now.pr i = (h.pr i).now := HYard.now_pr h i
 unfold HYard.step HYard.effs Yard.step
 have hjob : (h.now.pr i).job = (h.pr i).job := by rw [hnp]; rfl
 have hpc : (h.now.pr i).pc = (h.pr i).pc := by rw [hnp]; rfl
 rw [hjob]
 rcases goes_cases hg with ⟨hj, hw⟩ | ⟨hj, hgl, hcl⟩
 ·have hw := HProc.waits_neg (H.ok i hi) hw
  rw [if_pos hj, if_pos hj]
  unfold Yard.move
  simp only [hjob, hpc]
  have hjl : h.now.jlen = h.jlen := rfl
  have hmv : h.now.mv = h.mv := rfl
  rw [hjl, hmv]
  by_cases he : (h.pr i).pc = ((h.jlen (h.pr i).job : Nat) : Int)
  ·rw [if_pos he, if_pos he]
   exact H.now_fin hi hj hw false
  ·rw [if_neg he, if_neg he]
   have hb := (H.ok i hi).busy hj
   have H1 := H.pc hi hj (v := (h.pr i).pc + 1) (by omega) (by omega)
   have hp : (h.ap (i, .pc ((h.pr i).pc + 1))).pr i = (Eff.pc ((h.pr i).pc + 1)).ap (h.pr i) := by rw [HYard.pr_ap hi, if_pos rfl]
   have := HInv.now_deed H1 (i := i) (m := h.mv (h.pr i).job (h.pr i).pc) (by rw [HYard.ap_len]; exact hi) (by rw [hp]; exact hj) (by rw [hp]; exact hw) (by rw [HYard.ap_len]; exact mv_ok H.chk hj hb.1 hb.2.1 (by omega))
   show ((h.ap (i, .pc ((h.pr i).pc + 1))).aps _).now = _
   rw [this, HYard.now_ap, hnp]; rfl
 ·have hnj : ¬ 0 ≤ (h.pr i).job := by omega
  rw [if_neg hnj, if_neg hnj]
  unfold Yard.take
  have hl := now_lines.1 hgl
  have e1 : (h.now.pr i).lines = (h.pr i).head.now :: ((h.pr i).hl.drop ((h.pr i).gone + 1)).map HLine.now := by rw [hnp]; exact hl
  simp only [e1]
  have e2 : (h.pr i).head.now.asks = (h.pr i).head.all.drop (h.pr i).head.tk := rfl
  have e3 : (h.pr i).head.now.broken = (h.pr i).head.broken := rfl
  have e4 : (h.pr i).head.now.key = (h.pr i).head.key := rfl
  rw [e2, e3, e4]
  cases ha : (h.pr i).head.all.drop (h.pr i).head.tk with
  | nil =>
   show (h.ap (i, .gone)).now = _
   rw [HYard.now_ap, hnp]
   rfl
  | cons a r =>
   simp only
   have hr : (h.pr i).head.all.drop ((h.pr i).head.tk + 1) = r := by rw [← List.drop_drop, ha]; rfl
   have hat : (h.pr i).head.all[(h.pr i).head.tk]? = some a := by
    have := congrArg List.head? ha
    rw [List.head?_drop] at this
    exact this
   by_cases hb : (h.pr i).head.broken = true
   ·rw [if_pos hb, if_pos hb]
    have hleft := H.left hi hj hgl ha
    simp only at hleft
    have hres : (h.pr i).head.all[(h.pr i).head.res.length]? = some a := by
     rw [← (((H.ok i hi).line _ _ (get_head hgl)).cur rfl).2.2 hj]; exact hat
    have e5 : h.aps [(i, .tk (h.pr i).gone), (i, .res (h.pr i).gone true false)] = h.put i ((Eff.res (h.pr i).gone true false).ap ((Eff.tk (h.pr i).gone).ap (h.pr i))) := HYard.ap_ap hi
    have e6 : ((Eff.res (h.pr i).gone true false).ap ((Eff.tk (h.pr i).gone).ap (h.pr i))).now = { (h.pr i).now with lines := { (h.pr i).head.now with asks := r } :: ((h.pr i).hl.drop ((h.pr i).gone + 1)).map HLine.now, did := (h.pr i).now.did ++ [((h.pr i).head.key, a.1, true, false)] } := by
     have := take_did (H.ok i hi) hgl (f := HLine.fin true false ∘ HLine.take) (fun _ => rfl) (d := [((h.pr i).head.key, a.1, true, false)]) (dids_push (l := (h.pr i).head.take) hres true false)
     have e7 : ((Eff.res (h.pr i).gone true false).ap ((Eff.tk (h.pr i).gone).ap (h.pr i))).now = ({ h.pr i with hl := (h.pr i).hl.modify (h.pr i).gone (HLine.fin true false ∘ HLine.take) } : HProc).now := by
      show ({ h.pr i with hl := ((h.pr i).hl.modify (h.pr i).gone HLine.take).modify (h.pr i).gone (HLine.fin true false) } : HProc).now = _
      rw [modify_modify]
     rw [e7, this]
     have e8 : ((HLine.fin true false ∘ HLine.take) (h.pr i).head).now = { (h.pr i).head.now with asks := r } := by
      show (⟨(h.pr i).head.key, (h.pr i).head.all.drop ((h.pr i).head.tk + 1), (h.pr i).head.closed, (h.pr i).head.broken || false⟩ : Line) = _
      rw [hr, Bool.or_false]; rfl
     rw [e8]
    have e9 : (h.put i ((Eff.res (h.pr i).gone true false).ap ((Eff.tk (h.pr i).gone).ap (h.pr i)))).now = h.now.put i { h.now.pr i with lines := { (h.pr i).head.now with asks := r } :: ((h.pr i).hl.drop ((h.pr i).gone + 1)).map HLine.now, did := (h.now.pr i).did ++ [((h.pr i).head.key, a.1, true, false)] } := by rw [HYard.now_put, e6, hnp]
    rw [HYard.aps_append, HYard.aps_append, e5]
    by_cases ha2 : a.2 = true
    ·obtain ⟨H1, h2⟩ := hleft
     obtain ⟨g1, g2, g3⟩ := h2 ha2
     rw [HYard.aps_append, e5, if_pos ha2] at H1 g2 g3
     rw [if_pos ha2, if_pos ha2, if_pos ha2]
     have hpos : 0 < (h.pr i).aw (((h.pr i).head.key.1.toNat : Nat) : Int) := by
      rw [aw_head hgl]
      have hk := (H.ok i hi).line _ _ (get_head hgl)
      have : (h.pr i).head.aw (((h.pr i).head.key.1.toNat : Nat) : Int) = ((a :: r).countP (·.2)) := by
       unfold HLine.aw; rw [if_pos (Int.toNat_of_nonneg hk.key.1).symm, ha]
      rw [this, List.countP_cons_of_pos (by simpa using ha2)]
      omega
     obtain ⟨hws, hsi, _⟩ := H.awaits g1 hi hpos
     have hnow : ((h.put i ((Eff.res (h.pr i).gone true false).ap ((Eff.tk (h.pr i).gone).ap (h.pr i)))).aps [((h.pr i).head.key.1.toNat, .waits (-1))]).now = (h.now.put i { h.now.pr i with lines := { (h.pr i).head.now with asks := r } :: ((h.pr i).hl.drop ((h.pr i).gone + 1)).map HLine.now, did := (h.now.pr i).did ++ [((h.pr i).head.key, a.1, true, false)] }).put (h.pr i).head.key.1.toNat { (h.now.put i { h.now.pr i with lines := { (h.pr i).head.now with asks := r } :: ((h.pr i).hl.drop ((h.pr i).gone + 1)).map HLine.now, did := (h.now.pr i).did ++ [((h.pr i).head.key, a.1, true, false)] }).pr (h.pr i).head.key.1.toNat with waits := -1 } := by
      show ((h.put i _).ap ((h.pr i).head.key.1.toNat, .waits (-1))).now = _
      rw [HYard.now_ap, ← e9, HYard.now_pr]; rfl
     have hlen2 : ((h.put i ((Eff.res (h.pr i).gone true false).ap ((Eff.tk (h.pr i).gone).ap (h.pr i)))).aps [((h.pr i).head.key.1.toNat, .waits (-1))]).procs.length = h.procs.length := by rw [HYard.aps_len, HYard.put_len]
     unfold HYard.effFin
     rw [H1.now_end (by rw [hlen2]; exact g1) g2 g3, hnow, hlen2, Yard.put_len, HYard.now_len]
     unfold Yard.answer
     have hw2 : ((h.now.put i { h.now.pr i with lines := { (h.pr i).head.now with asks := r } :: ((h.pr i).hl.drop ((h.pr i).gone + 1)).map HLine.now, did := (h.now.pr i).did ++ [((h.pr i).head.key, a.1, true, false)] }).pr (h.pr i).head.key.1.toNat).waits = i := by
      rw [Yard.pr_put hil, if_neg hsi, HYard.now_pr]; exact hws
     exact (if_pos hw2).symm
    ·rw [if_neg ha2, if_neg ha2, if_neg ha2]
     exact e9
   ·rw [if_neg hb, if_neg hb]
    have e5 : h.aps [(i, .tk (h.pr i).gone), (i, .job a.1 a.2)] = h.put i ((Eff.job a.1 a.2).ap ((Eff.tk (h.pr i).gone).ap (h.pr i))) := HYard.ap_ap hi
    rw [e5, HYard.now_put, hnp]
    congr 1
    have := take_did (H.ok i hi) hgl (f := HLine.take) (fun _ => rfl) (d := []) (by rw [List.append_nil]; rfl)
    have e7 : ((Eff.job a.1 a.2).ap ((Eff.tk (h.pr i).gone).ap (h.pr i))).now = { ({ h.pr i with hl := (h.pr i).hl.modify (h.pr i).gone HLine.take } : HProc).now with job := a.1, pc := 0, waited := a.2 } := rfl
    have e8 : (HLine.take (h.pr i).head).now = { (h.pr i).head.now with asks := r } := by
     show (⟨(h.pr i).head.key, (h.pr i).head.all.drop ((h.pr i).head.tk + 1), (h.pr i).head.closed, (h.pr i).head.broken⟩ : Line) = _
     rw [hr]; rfl
    rw [e7, this, e8]
    simp
    exact ⟨rfl, rfl⟩
end
end Go.Wt
namespace Go.Wt
/-! ## Effects that are as they must be -/
theorem Eff.ok_mono {e f : Eff} {p : HProc} (h : e.isLine = false) (he : e.ok p) : e.ok (f.ap p) := by
 cases e with
 | res j a b => exact Nat.lt_of_lt_of_le he (Eff.ap_len f p)
 | tk j => exact Nat.lt_of_lt_of_le he (Eff.ap_len f p)
 | ask k a => exact Eff.ap_keys_sub he
 | close k => exact Eff.ap_keys_sub he
 | line l => cases h
 | _ => trivial
theorem HYard.ok_mono {h : HYard} {a b : Nat × Eff} (hl : a.2.isLine = false) (ha : h.ok a) : (h.ap b).ok a := by
 unfold HYard.ok HYard.ap
 by_cases hi : b.1 < h.procs.length
 ·by_cases hab : a.1 = b.1
  ·rw [hab, HYard.pr_put_same hi]; exact Eff.ok_mono hl (hab ▸ ha)
  ·rw [HYard.pr_put_ne (Ne.symm hab)]; exact ha
 ·rw [HYard.put_big (by omega)]; exact ha
theorem HYard.oks_of : ∀ {A : Effs} {h : HYard}, (∀ a ∈ A, a.2.isLine = false ∧ h.ok a) → h.oks A
 | [], _, _ => trivial
 | a :: A, h, hA => ⟨(hA a (by simp)).2, HYard.oks_of fun b hb => ⟨(hA b (by simp [hb])).1, HYard.ok_mono (hA b (by simp [hb])).1 (hA b (by simp [hb])).2⟩⟩
def Eff.isAsk : Eff → Bool
 | .ask _ _ => true
 | _ => false
def Mute (A : Effs) : Prop := ∀ a ∈ A, a.2.isLine = false ∧ a.2.isAsk = false
theorem cm_mute {a b : Nat × Eff} (ha : a.2.isLine = false ∧ a.2.isAsk = false) (h : a.2.out = true ∨ b.2.out = true ∨ a.1 ≠ b.1) : Cm a b := by
 obtain ⟨i, e⟩ := a
 obtain ⟨j, f⟩ := b
 rcases h with h | h | h
 ·right
  cases e <;> first | (cases h; done) | (cases ha.1; done) | (cases ha.2; done) | exact .inl rfl
 ·right
  cases e <;> first | (cases ha.1; done) | (cases ha.2; done) | (cases f <;> first | (cases h; done) | exact .inr rfl)
 ·exact .inl h

/-! ## The processors whose jobs end with that of one -/
inductive HYard.C (h : HYard) (i : Nat) : Nat → Prop
 | base : HYard.C h i i
 | next {t : Nat} : HYard.C h i t → t < h.procs.length → (h.pr t).waited = true → HYard.C h i (h.pr t).head.key.1.toNat
section
variable {h : HYard}
/-! ## What comes from outside -/
structure Out (p q : HProc) : Prop extends Own p q where
 len : p.hl.length ≤ q.hl.length
 head : p.gone < p.hl.length → q.head.key = p.head.key ∧ q.head.tk = p.head.tk ∧ q.head.broken = p.head.broken ∧ (p.head.closed = true → q.head.closed = true) ∧ p.head.all <+: q.head.all
theorem Out.refl (p : HProc) : Out p p := ⟨Own.refl p, Nat.le_refl _, fun _ => ⟨rfl, rfl, rfl, id, List.prefix_refl _⟩⟩
theorem Out.trans {p q r : HProc} (a : Out p q) (b : Out q r) : Out p r := ⟨a.toOwn.trans b.toOwn, Nat.le_trans a.len b.len, fun hg => by
 have h1 := a.head hg
 have h2 := b.head (by have := a.toOwn.gone; have := a.len; omega)
 exact ⟨h2.1.trans h1.1, h2.2.1.trans h1.2.1, h2.2.2.1.trans h1.2.2.1, fun h => h2.2.2.2.1 (h1.2.2.2.1 h), h1.2.2.2.2.trans h2.2.2.2.2⟩⟩
theorem head_upd {p q : HProc} {k : Key} {f : HLine → HLine} (hg : p.gone < p.hl.length) (h1 : q.hl = updh k f p.hl) (h2 : q.gone = p.gone) : q.head = if p.head.key = k then f p.head else p.head := by
 unfold HProc.head
 rw [h1, h2, List.getD_eq_getElem?_getD, updh_get, List.getElem?_eq_getElem hg, List.getD_eq_getElem?_getD, List.getElem?_eq_getElem hg]
 rfl
theorem Eff.outs {e : Eff} (he : e.out = true) (p : HProc) : Out p (e.ap p) := by
 refine ⟨Eff.own he p, Eff.ap_len e p, fun hg => ?_⟩
 cases e with
 | line l => rw [head_line hg]; exact ⟨rfl, rfl, rfl, id, List.prefix_refl _⟩
 | ask k a =>
  rw [head_upd (q := (Eff.ask k a).ap p) (f := HLine.asked a) hg rfl rfl]
  split
  ·exact ⟨rfl, rfl, rfl, id, List.prefix_append _ _⟩
  ·exact ⟨rfl, rfl, rfl, id, List.prefix_refl _⟩
 | close k =>
  rw [head_upd (q := (Eff.close k).ap p) (f := HLine.shut) hg rfl rfl]
  split
  ·exact ⟨rfl, rfl, rfl, fun _ => rfl, List.prefix_refl _⟩
  ·exact ⟨rfl, rfl, rfl, id, List.prefix_refl _⟩
 | _ => cases he
theorem HYard.outs_aps {t : Nat} : ∀ {A : Effs} {h : HYard}, t < h.procs.length → (∀ a ∈ A, a.1 = t → a.2.out = true) → Out (h.pr t) ((h.aps A).pr t)
 | [], h, _, _ => Out.refl _
 | a :: A, h, ht, hA => by
  refine Out.trans ?_ (HYard.outs_aps (A := A) (h := h.ap a) (by rw [HYard.ap_len]; exact ht) fun x hx => hA x (by simp [hx]))
  by_cases e : t = a.1
  ·subst e
   rw [HYard.pr_ap_same ht]
   exact Eff.outs (hA a (by simp) rfl) _
  ·rw [HYard.pr_ap_ne e]; exact Out.refl _
theorem HYard.all_aps {t : Nat} {k : Key} : ∀ {A : Effs} {h : HYard}, t < h.procs.length → (∀ a ∈ A, a.1 = t → a.2.out = true) → (∀ a ∈ A, a.1 = t → ∀ x, a.2 ≠ .ask k x) → (h.pr t).gone < (h.pr t).hl.length → (h.pr t).head.key = k → ((h.aps A).pr t).head.all = (h.pr t).head.all
 | [], h, _, _, _, _, _ => rfl
 | a :: A, h, ht, hA, hk, hg, hkey => by
  by_cases e : t = a.1
  ·subst e
   have h1 := hA a (by simp) rfl
   have ho := Eff.outs h1 (h.pr a.1)
   have hp := HYard.pr_ap_same (h := h) ht
   have ih := HYard.all_aps (t := a.1) (k := k) (A := A) (h := h.ap a) (by rw [HYard.ap_len]; exact ht) (fun x hx => hA x (by simp [hx])) (fun x hx => hk x (by simp [hx])) (by rw [hp]; have := ho.toOwn.gone; have := ho.len; omega) (by rw [hp, (ho.head hg).1]; exact hkey)
   show (((h.ap a).aps A).pr a.1).head.all = _
   rw [ih, hp]
   obtain ⟨i, f⟩ := a
   cases f with
   | line l => show ((Eff.line l).ap (h.pr i)).head.all = _; rw [head_line hg]
   | ask k' x =>
    have hne : k' ≠ k := fun he => hk (i, .ask k' x) (by simp) rfl x (by rw [he])
    show ((Eff.ask k' x).ap (h.pr i)).head.all = _
    rw [head_upd (q := (Eff.ask k' x).ap (h.pr i)) (f := HLine.asked x) hg rfl rfl, if_neg (fun he => hne (he.symm.trans hkey))]
   | close k' =>
    show ((Eff.close k').ap (h.pr i)).head.all = _
    rw [head_upd (q := (Eff.close k').ap (h.pr i)) (f := HLine.shut) hg rfl rfl]
    split <;> rfl
   | _ => cases h1
  ·have hp := HYard.pr_ap_ne (h := h) e
   have ih := HYard.all_aps (t := t) (k := k) (A := A) (h := h.ap a) (by rw [HYard.ap_len]; exact ht) (fun x hx => hA x (by simp [hx])) (fun x hx => hk x (by simp [hx])) (by rw [hp]; exact hg) (by rw [hp]; exact hkey)
   show (((h.ap a).aps A).pr t).head.all = _
   rw [ih, hp]
end
end Go.Wt
