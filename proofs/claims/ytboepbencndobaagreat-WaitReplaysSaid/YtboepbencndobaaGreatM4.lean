/-
  What effects a step has, and that another one leaves them as they are. Nothing of the program is named here. No condition.
  Two steps of two processors: each leaves the other one's effects as they are; they may be exchanged. Nothing of the program is named here. No condition.
  Two steps of two processors: the effects of a step, that another step leaves them as they are, that the two may be exchanged. Nothing of the program is named here. No condition.
  Where a step puts a queue; runs that are bound to orders end all alike. Nothing of the program is named here. No condition.
  What a step adds to queues: at most one request; what a step takes of them. Nothing of the program is named here. No condition.
  What was done is in order: what each queue's results are, and what was put into it. Nothing of the program is named here. No condition.
  What bounds a yard that leads to another one; replays. Nothing of the program is named here. No condition.
  Jobs that have one reservation at a time, all of them at greater processors: there is no ring, nothing fails. Nothing of the program is named here. No condition.
-/
import Derived.Test.YtboepbencndobaaGreatM3
set_option linter.unusedVariables false
set_option linter.unusedSimpArgs false
namespace Go.Wt
theorem HYard.mute_keys {t : Nat} : ∀ {A : Effs} {h : HYard}, Mute A → ((h.aps A).pr t).hl.map HLine.key = (h.pr t).hl.map HLine.key
 | [], _, _ => rfl
 | a :: A, h, hm => by
  have ih := HYard.mute_keys (t := t) (A := A) (h := h.ap a) fun x hx => hm x (by simp [hx])
  show (((h.ap a).aps A).pr t).hl.map HLine.key = _
  rw [ih]
  by_cases e : t = a.1
  ·by_cases ht : t < h.procs.length
   ·subst e; rw [HYard.pr_ap_same ht, Eff.ap_keys (hm a (by simp)).1]
   ·unfold HYard.ap; rw [HYard.put_big (by omega)]
  ·rw [HYard.pr_ap_ne e]
theorem HYard.mute_ok {A : Effs} {h : HYard} (hm : Mute A) {a : Nat × Eff} (ha : (h.aps A).ok a) : h.ok a := by
 have hk := HYard.mute_keys (t := a.1) (h := h) hm
 have hl : ((h.aps A).pr a.1).hl.length = (h.pr a.1).hl.length := by have := congrArg List.length hk; simpa using this
 obtain ⟨i, e⟩ := a
 unfold HYard.ok at ha ⊢
 simp only at hk hl ha ⊢
 cases e with
 | res j a b => show j < _; rw [← hl]; exact ha
 | tk j => show j < _; rw [← hl]; exact ha
 | ask k a => show k ∈ _; rw [← hk]; exact ha
 | close k => show k ∈ _; rw [← hk]; exact ha
 | line l => show l.key ∉ _; rw [← hk]; exact ha
 | _ => trivial
section
variable {h : HYard}
theorem mem_key {p : HProc} {j : Nat} {l : HLine} (h : p.hl[j]? = some l) : l.key ∈ p.hl.map HLine.key := List.mem_map.2 ⟨l, List.mem_of_getElem? h, rfl⟩
theorem HInv.held_key (H : HInv h) {i : Nat} (hi : i < h.procs.length) {x : Hold} (hx : x ∈ (h.pr i).holds) (hx2 : x.2.2 = false) : x.2.1 ∈ (h.pr x.1.toNat).hl.map HLine.key := by
 obtain ⟨j, l, _, hl, hk, _⟩ := H.held i hi x hx hx2
 rw [← hk]; exact mem_key hl
theorem lvs_mem {i : Nat} : ∀ {r : List Hold} {a : Nat × Eff}, a ∈ lvs i r → (∃ l, a = (i, .holds l)) ∨ ∃ x ∈ r, x.2.2 = false ∧ a = (x.1.toNat, .close x.2.1)
 | x :: r, a, ha => by
  rcases List.mem_cons.1 ha with rfl | ha
  ·exact .inl ⟨_, rfl⟩
  ·rcases List.mem_append.1 ha with ha | ha
   ·unfold clh at ha
    split at ha
    ·simp at ha
    ·rename_i hx
     obtain rfl := List.mem_singleton.1 ha
     exact .inr ⟨x, by simp, by simpa using hx, rfl⟩
   ·rcases lvs_mem ha with h | ⟨y, hy, h⟩
    ·exact .inl h
    ·exact .inr ⟨y, by simp [hy], h⟩
theorem HInv.stop_mem (H : HInv h) {i : Nat} (hi : i < h.procs.length) (hj : 0 ≤ (h.pr i).job) (f : Bool) {a : Nat × Eff} (ha : a ∈ h.effStop i f) : (a.2.isLine = false ∧ a.2.isAsk = false) ∧ h.ok a ∧ (a.2.out = true ∨ h.C i a.1) := by
 unfold HYard.effStop at ha
 rcases List.mem_append.1 ha with ha | ha
 ·rcases List.mem_append.1 ha with ha | ha
  ·rcases lvs_mem ha with ⟨l, rfl⟩ | ⟨x, hx, hx2, rfl⟩
   ·exact ⟨⟨rfl, rfl⟩, trivial, .inr .base⟩
   ·exact ⟨⟨rfl, rfl⟩, H.held_key hi (by simpa using hx) hx2, .inl rfl⟩
  ·simp only [List.mem_cons, List.not_mem_nil, or_false] at ha
   rcases ha with rfl | rfl
   ·exact ⟨⟨rfl, rfl⟩, trivial, .inr .base⟩
   ·exact ⟨⟨rfl, rfl⟩, ((H.ok i hi).busy hj).2.2.2, .inr .base⟩
 ·split at ha
  ·rename_i hw
   obtain rfl := List.mem_singleton.1 ha
   exact ⟨⟨rfl, rfl⟩, trivial, .inr (.next .base hi hw)⟩
  ·simp at ha
theorem HInv.stop_mute (H : HInv h) {i : Nat} (hi : i < h.procs.length) (hj : 0 ≤ (h.pr i).job) (f : Bool) : Mute (h.effStop i f) := fun _ ha => (H.stop_mem hi hj f ha).1
theorem HInv.stop_idle (H : HInv h) {i : Nat} (hi : i < h.procs.length) (f : Bool) : ((h.aps (h.effStop i f)).pr i).waited = false := by
 unfold HYard.effStop
 rw [HYard.aps_append, HYard.aps_append]
 have hlen : (h.aps (lvs i (h.pr i).holds.reverse)).procs.length = h.procs.length := HYard.aps_len
 generalize h.aps (lvs i (h.pr i).holds.reverse) = g at hlen ⊢
 have hap : g.aps [(i, .idle), (i, .res (h.pr i).gone false f)] = g.put i ((Eff.res (h.pr i).gone false f).ap ((Eff.idle).ap (g.pr i))) := HYard.ap_ap (by omega)
 rw [hap]
 split
 ·rename_i hw
  have hc := H.client hi hw
  show (((g.put i _).ap ((h.pr i).head.key.1.toNat, .waits (-1))).pr i).waited = false
  rw [HYard.pr_ap_ne (Ne.symm hc.2.2.2.1), HYard.pr_put_same (by omega)]; rfl
 ·show ((g.put i _).pr i).waited = false
  rw [HYard.pr_put_same (by omega)]; rfl
theorem HInv.stop_outs (H : HInv h) {i : Nat} (hi : i < h.procs.length) (f : Bool) {t : Nat} (ht : t < h.procs.length) (hti : t ≠ i) : ((h.aps (h.effStop i f)).pr t).waited = (h.pr t).waited ∧ ((h.pr t).gone < (h.pr t).hl.length → ((h.aps (h.effStop i f)).pr t).head.key = (h.pr t).head.key) := by
 unfold HYard.effStop
 rw [HYard.aps_append]
 have h1 : Out (h.pr t) ((h.aps (lvs i (h.pr i).holds.reverse ++ [(i, .idle), (i, .res (h.pr i).gone false f)])).pr t) := HYard.outs_aps ht fun a ha hat => by
  rcases List.mem_append.1 ha with ha | ha
  ·exact lvs_out hti ha hat
  ·simp at ha
   rcases ha with rfl | rfl <;> exact absurd hat.symm hti
 have hlen : (h.aps (lvs i (h.pr i).holds.reverse ++ [(i, .idle), (i, .res (h.pr i).gone false f)])).procs.length = h.procs.length := HYard.aps_len
 generalize h.aps (lvs i (h.pr i).holds.reverse ++ [(i, .idle), (i, .res (h.pr i).gone false f)]) = g at h1 hlen ⊢
 have hg2 : ∀ l : Effs, (l = [] ∨ ∃ s, l = [(s, .waits (-1))]) → ((g.aps l).pr t).waited = (g.pr t).waited ∧ ((g.aps l).pr t).head = (g.pr t).head := fun l hl => by
  rcases hl with rfl | ⟨s, rfl⟩
  ·exact ⟨rfl, rfl⟩
  ·show ((g.ap (s, .waits (-1))).pr t).waited = _ ∧ ((g.ap (s, .waits (-1))).pr t).head = _
   by_cases e : t = s
   ·subst e; rw [HYard.pr_ap_same (by simpa using (by omega : t < g.procs.length))]; exact ⟨rfl, rfl⟩
   ·rw [HYard.pr_ap_ne e]; exact ⟨rfl, rfl⟩
 obtain ⟨e1, e2⟩ := hg2 (if (h.pr i).waited = true then [((h.pr i).head.key.1.toNat, .waits (-1))] else []) (by split; exact .inr ⟨_, rfl⟩; exact .inl rfl)
 rw [e1, e2]
 exact ⟨h1.toOwn.waited, fun hg => (h1.head hg).1⟩
theorem HInv.stop_C (H : HInv h) {i : Nat} (hi : i < h.procs.length) (f : Bool) (hw : (h.pr i).waited = true) {t : Nat} (hc : (h.aps (h.effStop i f)).C (h.pr i).head.key.1.toNat t) : h.C i t := by
 induction hc with
 | base => exact .next .base hi hw
 | @next u hu hul hwu ih =>
  rw [HYard.aps_len] at hul
  have hui : u ≠ i := fun e => by subst e; rw [H.stop_idle hul f] at hwu; cases hwu
  have ho := H.stop_outs hi f hul hui
  rw [ho.1] at hwu
  rw [ho.2 (aw_waited (H.ok u hul) hwu)]
  exact .next ih hul hwu
theorem HInv.end_mem : ∀ {n : Nat} {h : HYard} {i : Nat} {f : Bool}, HInv h → i < h.procs.length → 0 ≤ (h.pr i).job → (h.pr i).waits = -1 → ∀ a ∈ HYard.effEnd n h i f, (a.2.isLine = false ∧ a.2.isAsk = false) ∧ h.ok a ∧ (a.2.out = true ∨ h.C i a.1)
 | 0, h, i, f, _, _, _, _, a, ha => by simp [HYard.effEnd] at ha
 | n + 1, h, i, f, H, hi, hj, hw, a, ha => by
  unfold HYard.effEnd at ha
  rcases List.mem_append.1 ha with ha | ha
  ·exact H.stop_mem hi hj f ha
  ·split at ha
   ·rename_i hc
    rw [Bool.and_eq_true] at hc
    obtain ⟨g1, g2, g3, g4, g5⟩ := H.client hi hc.1
    have o := H.stop_own hi f g1 g4
    rw [if_pos ⟨hc.1, rfl⟩] at o
    obtain ⟨k1, k2, k3⟩ := HInv.end_mem (n := n) (H.stop hi hj hw f) (by rw [HYard.aps_len]; exact g1) (by rw [o.job]; exact g5) o.waits a ha
    exact ⟨k1, HYard.mute_ok (H.stop_mute hi hj f) k2, k3.imp id (H.stop_C hi f hc.1)⟩
   ·simp at ha
theorem HInv.end_stable : ∀ {n : Nat} {h : HYard} {i : Nat} {f : Bool} {B : Effs}, HInv h → i < h.procs.length → 0 ≤ (h.pr i).job → (h.pr i).waits = -1 → (∀ b ∈ B, b.2.out = true ∨ ¬ h.C i b.1) → h.oks B → HYard.effEnd n (h.aps B) i f = HYard.effEnd n h i f
 | 0, _, _, _, _, _, _, _, _, _, _ => rfl
 | n + 1, h, i, f, B, H, hi, hj, hw, hB, hoB => by
  have ho : Out (h.pr i) ((h.aps B).pr i) := HYard.outs_aps hi fun b hb hbi => (hB b hb).resolve_right fun hn => hn (hbi ▸ .base)
  have hgl := ((H.ok i hi).busy hj).2.2.2
  have hhd := (ho.head hgl).1
  have es : (h.aps B).effStop i f = h.effStop i f := by
   unfold HYard.effStop
   rw [ho.toOwn.holds, ho.toOwn.gone, ho.toOwn.waited, hhd]
  unfold HYard.effEnd
  rw [es, ho.toOwn.waited, hhd]
  congr 1
  split
  ·rename_i hc
   rw [Bool.and_eq_true] at hc
   have hcm : ∀ a ∈ h.effStop i f, ∀ b ∈ B, Cm a b := fun a ha b hb => by
    obtain ⟨k1, k2, k3⟩ := H.stop_mem hi hj f ha
    refine cm_mute k1 ?_
    rcases k3 with k3 | k3
    ·exact .inl k3
    ·rcases hB b hb with hb | hb
     ·exact .inr (.inl hb)
     ·exact .inr (.inr fun e => hb (e ▸ k3))
   obtain ⟨e1, e2, e3⟩ := HYard.aps_comm hcm (HYard.oks_of fun a ha => ⟨(H.stop_mem hi hj f ha).1.1, (H.stop_mem hi hj f ha).2.1⟩) hoB
   rw [← e1]
   obtain ⟨g1, g2, g3, g4, g5⟩ := H.client hi hc.1
   have o := H.stop_own hi f g1 g4
   rw [if_pos ⟨hc.1, rfl⟩] at o
   exact HInv.end_stable (n := n) (H.stop hi hj hw f) (by rw [HYard.aps_len]; exact g1) (by rw [o.job]; exact g5) o.waits (fun b hb => (hB b hb).imp id fun hn hcc => hn (H.stop_C hi f hc.1 hcc)) e2
  ·rfl
end
end Go.Wt
namespace Go.Wt
inductive HYard.D (h : HYard) (i : Nat) : Nat → Prop
 | base : HYard.D h i i
 | up {s t : Nat} : HYard.D h i t → (h.pr s).waits = (t : Int) → HYard.D h i s
section
variable {h : HYard}
theorem D_apart {i q : Nat} (hi : (h.pr i).waits = -1) (hq : (h.pr q).waits = -1) (hne : i ≠ q) {s : Nat} (h1 : h.D i s) (h2 : h.D q s) : False := by
 induction h1 with
 | base =>
  cases h2 with
  | base => exact hne rfl
  | up _ hw => rw [hi] at hw; omega
 | @up s t _ hw ih =>
  cases h2 with
  | base => rw [hq] at hw; omega
  | @up _ u hu hwu =>
   rw [hw] at hwu
   have : t = u := by omega
   subst this
   exact ih hu
theorem HInv.C_D (H : HInv h) {i t : Nat} (hc : h.C i t) : h.D i t := by
 induction hc with
 | base => exact .base
 | next _ hl hw ih => exact .up ih (H.client hl hw).2.2.1
theorem C_D' {g : HYard} (G : HInv g) {i s : Nat} (hs : h.D i s) (hw : ∀ t, t ≠ s → (g.pr t).waits = (h.pr t).waits) (hws : (g.pr s).waits = -1) {t : Nat} (hc : g.C s t) : h.D i t := by
 induction hc with
 | base => exact hs
 | @next u _ hl hwu ih =>
  have hc := (G.client hl hwu).2.2.1
  by_cases e : (g.pr u).head.key.1.toNat = s
  ·rw [e]; exact hs
  ·rw [hw _ e] at hc; exact .up ih hc
structure Ef (h : HYard) (i : Nat) (a : Nat × Eff) : Prop where
 ok : h.ok a
 tgt : a.2.out = true ∨ h.D i a.1
 ask : ∀ k x, a.2 = .ask k x → k.1 = i ∧ ∀ l ∈ (h.pr a.1).hl, l.key = k → l.closed = false
 line : ∀ l, a.2 = .line l → l.key.1 = i
theorem ef_mute {i : Nat} {a : Nat × Eff} (hm : a.2.isLine = false ∧ a.2.isAsk = false) (ho : h.ok a) (ht : a.2.out = true ∨ h.D i a.1) : Ef h i a :=
 ⟨ho, ht, fun k x e => (by rw [e] at hm; cases hm.2), fun l e => (by rw [e] at hm; cases hm.1)⟩
theorem HInv.fin_ef (H : HInv h) {i : Nat} (hi : i < h.procs.length) (hj : 0 ≤ (h.pr i).job) (hw : (h.pr i).waits = -1) (f : Bool) {a : Nat × Eff} (ha : a ∈ h.effFin i f) : (a.2.isLine = false ∧ a.2.isAsk = false) ∧ Ef h i a := by
 obtain ⟨k1, k2, k3⟩ := HInv.end_mem H hi hj hw a ha
 exact ⟨k1, ef_mute k1 k2 (k3.imp id H.C_D)⟩
theorem pc_pr {i : Nat} (hi : i < h.procs.length) (v : Int) : (h.ap (i, .pc v)).pr i = (Eff.pc v).ap (h.pr i) := HYard.pr_ap_same hi
theorem pc_same {i : Nat} (v : Int) (t : Nat) : ((h.ap (i, .pc v)).pr t).waits = (h.pr t).waits ∧ ((h.ap (i, .pc v)).pr t).hl = (h.pr t).hl := by
 by_cases e : t = i
 ·by_cases hi : i < h.procs.length
  ·subst e; rw [pc_pr hi]; exact ⟨rfl, rfl⟩
  ·unfold HYard.ap; rw [HYard.put_big (by omega)]; exact ⟨rfl, rfl⟩
 ·rw [HYard.pr_ap_ne e]; exact ⟨rfl, rfl⟩
theorem pc_D {i q : Nat} {v : Int} {t : Nat} (hd : (h.ap (i, .pc v)).D q t) : h.D q t := by
 induction hd with
 | base => exact .base
 | up _ hw ih => rw [(pc_same v _).1] at hw; exact .up ih hw
theorem pc_ok {i : Nat} {v : Int} {a : Nat × Eff} (ho : (h.ap (i, .pc v)).ok a) : h.ok a := HYard.mute_ok (A := [(i, .pc v)]) (fun x hx => by obtain rfl := List.mem_singleton.1 hx; exact ⟨rfl, rfl⟩) ho
theorem pc_ef {i : Nat} {v : Int} {a : Nat × Eff} (he : Ef (h.ap (i, .pc v)) i a) : Ef h i a :=
 ⟨pc_ok he.ok, he.tgt.imp id pc_D, fun k x e => by have := he.ask k x e; rw [(pc_same v a.1).2] at this; exact this, he.line⟩
theorem HInv.deed_ef (H : HInv h) {i : Nat} (hi : i < h.procs.length) (hj : 0 ≤ (h.pr i).job) (hw : (h.pr i).waits = -1) {m : Move} (hm : moved m h.jobs.length h.procs.length = true) : (∀ a ∈ h.effDeed i m, Ef h i a) ∧ (h.effDeed i m).Pairwise fun a b => ¬ (a.2.isLine = true ∧ b.2.isLine = true) := by
 have hsp := moved_spot hm
 have hfin : (∀ a ∈ h.effFin i true, Ef h i a) ∧ (h.effFin i true).Pairwise fun a b => ¬ (a.2.isLine = true ∧ b.2.isLine = true) := ⟨fun a ha => (H.fin_ef hi hj hw true ha).2, by
  refine List.pairwise_iff_forall_sublist.2 fun {a b} hs hab => ?_
  have ha : a ∈ h.effFin i true := hs.subset (by simp)
  have := (H.fin_ef hi hj hw true ha).1.1
  rw [hab.1] at this; cases this⟩
 have hline : ∀ (to : Nat) (x : HLine), to < h.procs.length → x.key = (h.pr i).next i → Ef h i (to, .line x) := fun to x hto hx => ⟨by
  show x.key ∉ _
  intro hk
  obtain ⟨l, hl, hke⟩ := List.mem_map.1 hk
  exact H.toHInv0.fresh hto hl (hke.trans hx), .inl rfl, fun k y e => (by cases e), fun l e => (by cases e; rw [hx]; rfl)⟩
 have hown : ∀ e : Eff, (e.isLine = false ∧ e.isAsk = false) → h.ok (i, e) → Ef h i (i, e) := fun e h1 h2 => ef_mute h1 h2 (.inr .base)
 unfold HYard.effDeed
 by_cases h1 : m.1 = 1
 ·simp only [if_pos h1]
  have hs := hsp.1 h1
  split
  ·exact ⟨fun a ha => by obtain rfl := List.mem_singleton.1 ha; exact hown _ ⟨rfl, rfl⟩ trivial, by simp⟩
  ·refine ⟨fun a ha => ?_, by simp [Eff.isLine]⟩
   simp only [List.mem_cons, List.not_mem_nil, or_false] at ha
   rcases ha with rfl | rfl | rfl
   ·exact hline _ _ (by omega) rfl
   ·exact hown _ ⟨rfl, rfl⟩ trivial
   ·exact hown _ ⟨rfl, rfl⟩ trivial
 ·simp only [if_neg h1]
  by_cases h2 : m.1 = 2
  ·simp only [if_pos h2]
   cases hx : (h.pr i).holds.getLast? with
   | none => exact ⟨fun a ha => by simp at ha, by simp⟩
   | some x =>
    have hxm := List.mem_of_getLast? hx
    have hcl : ∀ a ∈ clh x, a = (x.1.toNat, Eff.close x.2.1) ∧ x.2.2 = false := fun a ha => by
     unfold clh at ha
     split at ha
     ·simp at ha
     ·rename_i hx2; exact ⟨List.mem_singleton.1 ha, by simpa using hx2⟩
    refine ⟨fun a ha => ?_, ?_⟩
    ·rcases List.mem_cons.1 ha with rfl | ha
     ·exact hown _ ⟨rfl, rfl⟩ trivial
     ·obtain ⟨rfl, hx2⟩ := hcl a ha
      exact ef_mute ⟨rfl, rfl⟩ (H.held_key hi hxm hx2) (.inl rfl)
    ·refine List.pairwise_iff_forall_sublist.2 fun {a b} hs hab => ?_
     have ha : a ∈ (i, Eff.holds (h.pr i).holds.dropLast) :: clh x := hs.subset (by simp)
     rcases List.mem_cons.1 ha with rfl | ha
     ·cases hab.1
     ·obtain ⟨rfl, _⟩ := hcl a ha; cases hab.1
  ·simp only [if_neg h2]
   by_cases h3 : m.1 = 3 ∨ m.1 = 4
   ·simp only [if_pos h3]
    split
    ·exact ⟨fun a ha => by simp at ha, by simp⟩
    ·cases hx : (h.pr i).hold m.2.1 with
     | none => exact hfin
     | some x =>
      obtain ⟨g1, g2, g3⟩ := hold_mem hx
      have hok := (H.ok i hi).hold x g1
      rw [if_neg (by simp [g3])] at hok
      obtain ⟨j, l, _, hl, hlk, hlc⟩ := H.held i hi x g1 g3
      have hE : ∀ y, Ef h i (m.2.1.toNat, .ask x.2.1 y) := fun y => by
       rw [← g2]
       refine ⟨by show x.2.1 ∈ _; rw [← hlk]; exact mem_key hl, .inl rfl, fun k z e => ?_, fun l e => (by cases e)⟩
       cases e
       refine ⟨hok.2.2.2.1, fun l2 hl2 hk2 => ?_⟩
       exact only_open ((H.ok _ (by omega)).nd) hl hlc l2 hl2 (hk2.trans hlk.symm)
      refine ⟨fun a ha => ?_, ?_⟩
      ·rcases List.mem_cons.1 ha with rfl | ha
       ·exact hE _
       ·split at ha
        ·obtain rfl := List.mem_singleton.1 ha; exact hown _ ⟨rfl, rfl⟩ trivial
        ·simp at ha
      ·by_cases h4 : m.1 = 4 <;> simp [h4, Eff.isLine]
   ·simp only [if_neg h3]
    by_cases h4 : m.1 = 5
    ·simp only [if_pos h4]
     have hs := hsp.2 (by omega)
     refine ⟨fun a ha => ?_, by simp [Eff.isLine]⟩
     simp only [List.mem_cons, List.not_mem_nil, or_false] at ha
     rcases ha with rfl | rfl
     ·exact hline _ _ (by omega) rfl
     ·exact hown _ ⟨rfl, rfl⟩ trivial
    ·simp only [if_neg h4]
     exact hfin
end
end Go.Wt
namespace Go.Wt
def One (A : Effs) : Prop := A.Pairwise fun a b => ¬ (a.2.isLine = true ∧ b.2.isLine = true)
theorem one_mute {A : Effs} (h : Mute A) : One A := by
 refine List.pairwise_iff_forall_sublist.2 fun {a b} hs hab => ?_
 have ha : a ∈ A := hs.subset (by simp)
 rw [(h a ha).1] at hab; cases hab.1
theorem HYard.ok_line {h : HYard} {a b : Nat × Eff} (hb : b.2.isLine = false) (hl : a.2.isLine = true) (ha : h.ok a) : (h.ap b).ok a := by
 obtain ⟨i, e⟩ := a
 unfold HYard.ok at ha ⊢
 simp only at hl ha ⊢
 cases e with
 | line l =>
  show l.key ∉ ((h.ap b).pr i).hl.map HLine.key
  by_cases e : i = b.1
  ·by_cases hi : b.1 < h.procs.length
   ·subst e; rw [HYard.pr_ap_same hi, Eff.ap_keys hb]; exact ha
   ·unfold HYard.ap; rw [HYard.put_big (by omega)]; exact ha
  ·rw [HYard.pr_ap_ne e]; exact ha
 | _ => cases hl
theorem HYard.oks_one : ∀ {A : Effs} {h : HYard}, (∀ a ∈ A, h.ok a) → One A → h.oks A
 | [], _, _, _ => trivial
 | a :: A, h, hA, ho => by
  have h1 := List.pairwise_cons.1 ho
  refine ⟨hA a (by simp), HYard.oks_one (fun b hb => ?_) h1.2⟩
  have hk := hA b (by simp [hb])
  cases hbl : b.2.isLine with
  | false => exact HYard.ok_mono hbl hk
  | true => exact HYard.ok_line (by have := h1.1 b hb; cases ha : a.2.isLine <;> simp_all) hbl hk
section
variable {h : HYard}
theorem HInv.idle_waits (H : HInv h) {i : Nat} (hi : i < h.procs.length) (hg : (h.pr i).goes = true) : (h.pr i).waits = -1 := by
 rcases goes_cases hg with ⟨_, hw⟩ | ⟨hj, _⟩
 ·exact HProc.waits_neg (H.ok i hi) hw
 ·exact ((H.ok i hi).idle hj).2.2.2.1
def HYard.effLeft (h : HYard) (i : Nat) (a : Ask) : Effs := [(i, .tk (h.pr i).gone), (i, .res (h.pr i).gone true false)] ++ (if a.2 then [((h.pr i).head.key.1.toNat, .waits (-1))] else [])
theorem left_mute (i : Nat) (a : Ask) : Mute (h.effLeft i a) := fun x hx => by
 unfold HYard.effLeft at hx
 rcases List.mem_append.1 hx with hx | hx
 ·simp at hx; rcases hx with rfl | rfl <;> exact ⟨rfl, rfl⟩
 ·split at hx
  ·obtain rfl := List.mem_singleton.1 hx; exact ⟨rfl, rfl⟩
  ·simp at hx
theorem HInv.left_wait (H : HInv h) {i : Nat} (hi : i < h.procs.length) (hj : (h.pr i).job < 0) {a : Ask} {r : List Ask} (hgl : (h.pr i).gone < (h.pr i).hl.length) (ha : (h.pr i).head.all.drop (h.pr i).head.tk = a :: r) (ha2 : a.2 = true) : (h.pr (h.pr i).head.key.1.toNat).waits = i ∧ (h.pr i).head.key.1.toNat ≠ i := by
 have hk := (H.ok i hi).line _ _ (get_head hgl)
 have hs0 : (h.pr i).head.key.1.toNat < h.procs.length := by have := hk.key; omega
 have hs0i : (((h.pr i).head.key.1.toNat : Nat) : Int) = (h.pr i).head.key.1 := Int.toNat_of_nonneg hk.key.1
 have hp : 0 < (h.pr i).aw (((h.pr i).head.key.1.toNat : Nat) : Int) := by
  rw [aw_head hgl]
  have : 0 < (h.pr i).head.aw (((h.pr i).head.key.1.toNat : Nat) : Int) := by
   unfold HLine.aw
   rw [if_pos hs0i.symm, ha, List.countP_cons, if_pos ha2]; omega
  omega
 obtain ⟨h1, h2, _⟩ := H.awaits hs0 hi hp
 exact ⟨h1, h2⟩
theorem HInv.left_ef (H : HInv h) {i : Nat} (hi : i < h.procs.length) (hj : (h.pr i).job < 0) {a : Ask} {r : List Ask} (hgl : (h.pr i).gone < (h.pr i).hl.length) (ha : (h.pr i).head.all.drop (h.pr i).head.tk = a :: r) {x : Nat × Eff} (hx : x ∈ h.effLeft i a) : h.ok x ∧ h.D i x.1 := by
 unfold HYard.effLeft at hx
 rcases List.mem_append.1 hx with hx | hx
 ·simp at hx
  rcases hx with rfl | rfl
  ·exact ⟨hgl, .base⟩
  ·exact ⟨hgl, .base⟩
 ·split at hx
  ·rename_i ha2
   obtain rfl := List.mem_singleton.1 hx
   exact ⟨trivial, .up .base (H.left_wait hi hj hgl ha ha2).1⟩
  ·simp at hx
theorem HInv.left_waits (H : HInv h) {i : Nat} (hi : i < h.procs.length) (a : Ask) (ha2 : a.2 = true) (hne : (h.pr i).head.key.1.toNat ≠ i) {t : Nat} (ht : t ≠ (h.pr i).head.key.1.toNat) : ((h.aps (h.effLeft i a)).pr t).waits = (h.pr t).waits := by
 have e : h.effLeft i a = [(i, .tk (h.pr i).gone), (i, .res (h.pr i).gone true false)] ++ [((h.pr i).head.key.1.toNat, .waits (-1))] := by unfold HYard.effLeft; rw [if_pos ha2]
 rw [e, HYard.aps_append]
 have e2 : h.aps [(i, .tk (h.pr i).gone), (i, .res (h.pr i).gone true false)] = h.put i ((Eff.res (h.pr i).gone true false).ap ((Eff.tk (h.pr i).gone).ap (h.pr i))) := HYard.ap_ap hi
 rw [e2]
 show (((h.put i _).ap ((h.pr i).head.key.1.toNat, .waits (-1))).pr t).waits = _
 rw [HYard.pr_ap_ne ht]
 by_cases e : t = i
 ·subst e; rw [HYard.pr_put_same hi]; rfl
 ·rw [HYard.pr_put_ne (Ne.symm e)]
theorem HInv.step_ef (H : HInv h) {i : Nat} (hi : i < h.procs.length) (hg : (h.pr i).goes = true) : (∀ a ∈ h.effs i, Ef h i a) ∧ One (h.effs i) := by
 unfold HYard.effs
 rcases goes_cases hg with ⟨hj, hw⟩ | ⟨hj, hgl, hcl⟩
 ·have hw := HProc.waits_neg (H.ok i hi) hw
  rw [if_pos hj]
  split
  ·refine ⟨fun a ha => (H.fin_ef hi hj hw false ha).2, one_mute fun a ha => (H.fin_ef hi hj hw false ha).1⟩
  ·rename_i hne
   have hb := (H.ok i hi).busy hj
   have H1 := H.pc hi hj (v := (h.pr i).pc + 1) (by omega) (by omega)
   have hp := pc_pr hi ((h.pr i).pc + 1)
   have hm : moved (h.mv (h.pr i).job (h.pr i).pc) (h.ap (i, .pc ((h.pr i).pc + 1))).jobs.length (h.ap (i, .pc ((h.pr i).pc + 1))).procs.length = true := by
    rw [HYard.ap_len]
    exact mv_ok H.chk hj hb.1 hb.2.1 (by omega)
   obtain ⟨d1, d2⟩ := HInv.deed_ef H1 (i := i) (by rw [HYard.ap_len]; exact hi) (by rw [hp]; exact hj) (by rw [hp]; exact hw) hm
   refine ⟨fun a ha => ?_, ?_⟩
   ·rcases List.mem_cons.1 ha with rfl | ha
    ·exact ef_mute ⟨rfl, rfl⟩ trivial (.inr .base)
    ·exact pc_ef (d1 a ha)
   ·exact List.pairwise_cons.2 ⟨fun b _ hab => (by cases hab.1), d2⟩
 ·rw [if_neg (by omega)]
  cases ha : (h.pr i).head.all.drop (h.pr i).head.tk with
  | nil => exact ⟨fun a ha => (by obtain rfl := List.mem_singleton.1 ha; exact ef_mute ⟨rfl, rfl⟩ trivial (.inr .base)), by unfold One; simp⟩
  | cons a r =>
   simp only
   split
   ·obtain ⟨H1, h2⟩ := H.left hi hj hgl ha
    have hall : ∀ x ∈ h.effLeft i a ++ (if a.2 then (h.aps (h.effLeft i a)).effFin (h.pr i).head.key.1.toNat true else []), (x.2.isLine = false ∧ x.2.isAsk = false) ∧ Ef h i x := fun x hx => by
     rcases List.mem_append.1 hx with hx | hx
     ·have := H.left_ef hi hj hgl ha hx
      exact ⟨left_mute i a x hx, ef_mute (left_mute i a x hx) this.1 (.inr this.2)⟩
     ·split at hx
      ·rename_i ha2
       obtain ⟨g1, g2, g3⟩ := h2 ha2
       obtain ⟨w1, w2⟩ := H.left_wait hi hj hgl ha ha2
       obtain ⟨k1, k2, k3⟩ := HInv.end_mem (h := h.aps (h.effLeft i a)) H1 (by rw [HYard.aps_len]; exact g1) g2 g3 x hx
       exact ⟨k1, ef_mute k1 (HYard.mute_ok (left_mute i a) k2) (k3.imp id fun hc => C_D' (h := h) H1 (.up .base w1) (fun t ht => H.left_waits hi a ha2 w2 ht) g3 hc)⟩
      ·simp at hx
    exact ⟨fun x hx => (hall x hx).2, one_mute fun x hx => (hall x hx).1⟩
   ·refine ⟨fun x hx => ?_, ?_⟩
    ·simp only [List.mem_cons, List.not_mem_nil, or_false] at hx
     rcases hx with rfl | rfl
     ·exact ef_mute ⟨rfl, rfl⟩ hgl (.inr .base)
     ·exact ef_mute ⟨rfl, rfl⟩ trivial (.inr .base)
    ·unfold One; simp [Eff.isLine]
structure Apart (h : HYard) (q : Nat) (B : Effs) : Prop where
 out : ∀ b ∈ B, b.2.out = true ∨ ¬ h.D q b.1
 ok : h.oks B
 ask : ∀ b ∈ B, ∀ k x, b.2 = .ask k x → ∀ l ∈ (h.pr b.1).hl, l.key = k → l.closed = false
theorem HInv.apart (H : HInv h) {p q : Nat} (hp : p < h.procs.length) (hq : q < h.procs.length) (gp : (h.pr p).goes = true) (gq : (h.pr q).goes = true) (hne : p ≠ q) : Apart h q (h.effs p) := by
 obtain ⟨h1, h2⟩ := H.step_ef hp gp
 exact ⟨fun b hb => ((h1 b hb).tgt).imp id fun hd hd2 => D_apart (H.idle_waits hp gp) (H.idle_waits hq gq) hne hd hd2, HYard.oks_one (fun a ha => (h1 a ha).ok) h2, fun b hb k x e => ((h1 b hb).ask k x e).2⟩
theorem Apart.outs {q : Nat} {B : Effs} (a : Apart h q B) (hq : q < h.procs.length) : Out (h.pr q) ((h.aps B).pr q) := HYard.outs_aps hq fun b hb e => (a.out b hb).resolve_right fun hn => hn (e ▸ .base)
theorem Apart.swap {q : Nat} {A B : Effs} (a : Apart h q B) (hA : ∀ x ∈ A, (x.2.isLine = false ∧ x.2.isAsk = false) ∧ h.ok x ∧ h.D q x.1) : (h.aps A).aps B = (h.aps B).aps A ∧ (h.aps A).oks B := by
 have hcm : ∀ x ∈ A, ∀ b ∈ B, Cm x b := fun x hx b hb => by
  obtain ⟨k1, _, k3⟩ := hA x hx
  refine cm_mute k1 ?_
  rcases a.out b hb with h1 | h1
  ·exact .inr (.inl h1)
  ·exact .inr (.inr fun e => h1 (e ▸ k3))
 obtain ⟨e1, e2, _⟩ := HYard.aps_comm hcm (HYard.oks_of fun x hx => ⟨(hA x hx).1.1, (hA x hx).2.1⟩) a.ok
 exact ⟨e1, e2⟩
theorem Apart.fin {q : Nat} {B : Effs} (H : HInv h) (hq : q < h.procs.length) (hj : 0 ≤ (h.pr q).job) (hw : (h.pr q).waits = -1) (f : Bool) (hout : ∀ b ∈ B, b.2.out = true ∨ ¬ h.C q b.1) (hok : h.oks B) : (h.aps B).effFin q f = h.effFin q f := by
 unfold HYard.effFin
 rw [HYard.aps_len]
 exact HInv.end_stable H hq hj hw hout hok
theorem HInv.step_stable (H : HInv h) {q : Nat} {B : Effs} (hq : q < h.procs.length) (gq : (h.pr q).goes = true) (a : Apart h q B) : (h.aps B).effs q = h.effs q ∧ ((h.aps B).pr q).goes = true := by
 have ho := a.outs hq
 have ow := ho.toOwn
 have hD : ∀ b ∈ B, b.2.out = true ∨ ¬ h.C q b.1 := fun b hb => (a.out b hb).imp id fun hn hc => hn (H.C_D hc)
 have hmv : ∀ j k, (h.aps B).mv j k = h.mv j k := fun j k => by unfold HYard.mv; rw [HYard.aps_jobs]
 have hjl : ∀ j, (h.aps B).jlen j = h.jlen j := fun j => by unfold HYard.jlen; rw [HYard.aps_jobs]
 rcases goes_cases gq with ⟨hj, hw⟩ | ⟨hj, hgl, hcl⟩
 ·have hw := HProc.waits_neg (H.ok q hq) hw
  refine ⟨?_, ?_⟩
  ·unfold HYard.effs
   simp only [ow.job, ow.pc, hjl, hmv]
   rw [if_pos hj, if_pos hj]
   split
   ·exact Apart.fin H hq hj hw false hD a.ok
   ·rename_i hne
    have hb := (H.ok q hq).busy hj
    have H1 := H.pc hq hj (v := (h.pr q).pc + 1) (by omega) (by omega)
    have hpe := pc_pr hq ((h.pr q).pc + 1)
    obtain ⟨s1, s2⟩ := a.swap (A := [(q, .pc ((h.pr q).pc + 1))]) fun x hx => by
     obtain rfl := List.mem_singleton.1 hx; exact ⟨⟨rfl, rfl⟩, trivial, .base⟩
    have s1' : (h.ap (q, .pc ((h.pr q).pc + 1))).aps B = (h.aps B).ap (q, .pc ((h.pr q).pc + 1)) := s1
    have s2' : (h.ap (q, .pc ((h.pr q).pc + 1))).oks B := s2
    congr 1
    rw [← s1']
    generalize hg : h.ap (q, .pc ((h.pr q).pc + 1)) = g at H1 hpe s2' ⊢
    have hgq : q < g.procs.length := by rw [← hg, HYard.ap_len]; exact hq
    have hDg : ∀ b ∈ B, b.2.out = true ∨ ¬ g.D q b.1 := fun b hb => (a.out b hb).imp id fun hn hc => hn (pc_D (hg ▸ hc))
    have og : Out (g.pr q) ((g.aps B).pr q) := HYard.outs_aps hgq fun b hb e => (hDg b hb).resolve_right fun hn => hn (e ▸ .base)
    have hfin : ∀ f, (g.aps B).effFin q f = g.effFin q f := fun f => Apart.fin H1 hgq (by rw [hpe]; exact hj) (by rw [hpe]; exact hw) f (fun b hb => (hDg b hb).imp id fun hn hc => hn (H1.C_D hc)) s2'
    have eh : ∀ of, ((g.aps B).pr q).hold of = (g.pr q).hold of := fun of => by unfold HProc.hold; rw [og.toOwn.holds]
    have en : ((g.aps B).pr q).next q = (g.pr q).next q := by unfold HProc.next; rw [og.toOwn.made]
    unfold HYard.effDeed
    dsimp only
    rw [eh, en, og.toOwn.holds, hfin]
  ·unfold HProc.goes Proc.goes Proc.state
   have e1 : ((h.aps B).pr q).now.job = (h.pr q).job := ow.job
   have e2 : ((h.aps B).pr q).now.waits = (h.pr q).waits := ow.waits
   rw [e1, e2, hw, if_neg (by omega), if_pos hj]; rfl
 ·obtain ⟨hk, htk, hbr, hcl', hpre⟩ := ho.head hgl
  have hlen := ho.len
  have key : (h.pr q).head.all.drop (h.pr q).head.tk = [] → ((h.aps B).pr q).head.all = (h.pr q).head.all := fun hn => by
   refine HYard.all_aps hq (fun b hb e => (a.out b hb).resolve_right fun hn => hn (e ▸ .base)) (fun b hb e x hx => ?_) hgl rfl
   have hc := a.ask b hb (h.pr q).head.key x hx (h.pr q).head (by rw [e]; exact List.mem_of_getElem? (get_head hgl)) rfl
   rw [hcl hn] at hc; cases hc
  refine ⟨?_, ?_⟩
  ·unfold HYard.effs
   simp only [ow.job, hbr, htk, hk, ow.gone]
   rw [if_neg (by omega), if_neg (by omega)]
   cases ha : (h.pr q).head.all.drop (h.pr q).head.tk with
   | nil => rw [key ha, ha]
   | cons x r =>
    obtain ⟨r', hr'⟩ : ∃ r', ((h.aps B).pr q).head.all.drop (h.pr q).head.tk = x :: r' := by
     obtain ⟨t, ht⟩ := hpre
     rw [← ht, List.drop_append, ha]
     exact ⟨_, rfl⟩
    rw [hr']
    simp only
    split
    ·congr 1
     split
     ·rename_i ha2
      obtain ⟨w1, w2⟩ := H.left_wait hq hj hgl ha ha2
      obtain ⟨H1, h2⟩ := H.left hq hj hgl ha
      obtain ⟨g1, g2, g3⟩ := h2 ha2
      obtain ⟨s1, s2⟩ := a.swap (A := h.effLeft q x) fun y hy => ⟨left_mute q x y hy, H.left_ef hq hj hgl ha hy⟩
      have e0 : h.effLeft q x = [(q, .tk (h.pr q).gone), (q, .res (h.pr q).gone true false)] ++ (if x.2 then [((h.pr q).head.key.1.toNat, .waits (-1))] else []) := rfl
      rw [if_pos ha2] at e0
      rw [← e0, ← s1]
      refine Apart.fin (h := h.aps (h.effLeft q x)) H1 (by rw [HYard.aps_len]; exact g1) g2 g3 true (fun b hb => (a.out b hb).imp id fun hn hc => hn ?_) s2
      exact C_D' (h := h) H1 (.up .base w1) (fun t ht => H.left_waits hq x ha2 w2 ht) g3 hc
     ·rfl
    ·rfl
  ·have e1 : ((h.aps B).pr q).now.job = (h.pr q).job := ow.job
   have hgl2 : ((h.aps B).pr q).gone < ((h.aps B).pr q).hl.length := by rw [ow.gone]; omega
   unfold HProc.goes Proc.goes Proc.state
   rw [e1, if_neg (by omega), if_neg (by omega), now_lines.1 hgl2]
   simp only
   have e3 : ((h.aps B).pr q).head.now.asks = ((h.aps B).pr q).head.all.drop ((h.aps B).pr q).head.tk := rfl
   have e4 : ((h.aps B).pr q).head.now.closed = ((h.aps B).pr q).head.closed := rfl
   rw [e3, e4, htk]
   rw [if_pos]; · rfl
   by_cases ha : (h.pr q).head.all.drop (h.pr q).head.tk = []
   ·exact .inr (hcl' (hcl ha))
   ·left
    obtain ⟨t, ht⟩ := hpre
    rw [← ht, List.drop_append]
    intro h0
    exact ha (List.append_eq_nil_iff.1 h0).1
theorem HInv.swap (H : HInv h) {p q : Nat} (hp : p < h.procs.length) (hq : q < h.procs.length) (gp : (h.pr p).goes = true) (gq : (h.pr q).goes = true) (hne : p ≠ q)
  (hl : ∀ a ∈ h.effs p, ∀ b ∈ h.effs q, a.2.isLine = true → b.2.isLine = true → a.1 ≠ b.1) : (h.step p).step q = (h.step q).step p := by
 have e1 := (H.step_stable hq gq (H.apart hp hq gp gq hne)).1
 have e2 := (H.step_stable hp gp (H.apart hq hp gq gp (Ne.symm hne))).1
 show (h.aps (h.effs p)).aps ((h.aps (h.effs p)).effs q) = (h.aps (h.effs q)).aps ((h.aps (h.effs q)).effs p)
 rw [e1, e2]
 obtain ⟨p1, p2⟩ := H.step_ef hp gp
 obtain ⟨q1, q2⟩ := H.step_ef hq gq
 refine (HYard.aps_comm (fun a ha b hb => ?_) (HYard.oks_one (fun a ha => (p1 a ha).ok) p2) (HYard.oks_one (fun a ha => (q1 a ha).ok) q2)).1
 have fa := p1 a ha
 have fb := q1 b hb
 have hab := hl a ha b hb
 obtain ⟨i, e⟩ := a
 obtain ⟨j, f⟩ := b
 by_cases hij : i = j
 ·right
  subst hij
  have hout : e.out = true ∨ f.out = true := by
   rcases fa.tgt with h1 | h1
   ·exact .inl h1
   ·rcases fb.tgt with h2 | h2
    ·exact .inr h2
    ·exact (D_apart (H.idle_waits hp gp) (H.idle_waits hq gq) hne h1 h2).elim
  simp only at hab
  cases e with
  | line l =>
   cases f with
   | line l' => exact absurd rfl (hab rfl rfl)
   | _ => exact hout
  | ask k x =>
   cases f with
   | ask k' x' =>
    intro hkk
    have h1 := (fa.ask k x rfl).1
    have h2 := (fb.ask k' x' rfl).1
    rw [hkk, h2] at h1
    omega
   | _ => exact hout
  | _ => cases f <;> exact hout
 ·exact .inl hij
end
end Go.Wt
namespace Go.Wt
def Eff.lkey : Eff → Option Key
 | .line l => some l.key
 | _ => none
theorem lkey_none {e : Eff} (h : e.isLine = false) : e.lkey = none := by cases e <;> first | rfl | cases h
theorem Eff.ap_lkeys (e : Eff) (p : HProc) : (e.ap p).hl.map HLine.key = p.hl.map HLine.key ++ e.lkey.toList := by
 cases h : e.isLine with
 | false => rw [Eff.ap_keys h, lkey_none h]; simp
 | true =>
  cases e with
  | line l => show (p.hl ++ [l]).map HLine.key = _; simp [Eff.lkey]
  | _ => cases h
def lkeys (t : Nat) (A : Effs) : List Key := A.filterMap fun a => if a.1 = t then a.2.lkey else none
theorem lkeys_cons (t : Nat) (a : Nat × Eff) (A : Effs) : lkeys t (a :: A) = (if a.1 = t then a.2.lkey.toList else []) ++ lkeys t A := by
 unfold lkeys
 rw [List.filterMap_cons]
 by_cases e : a.1 = t
 ·simp only [if_pos e]
  cases h : a.2.lkey with
  | none => simp
  | some k => simp
 ·simp only [if_neg e]
  simp
theorem lkeys_mute {t : Nat} {A : Effs} (h : Mute A) : lkeys t A = [] := by
 unfold lkeys
 rw [List.filterMap_eq_nil_iff]
 intro a ha
 split
 ·exact lkey_none (h a ha).1
 ·rfl
theorem HYard.keys_aps {t : Nat} : ∀ {A : Effs} {h : HYard}, t < h.procs.length → ((h.aps A).pr t).hl.map HLine.key = (h.pr t).hl.map HLine.key ++ lkeys t A
 | [], h, _ => by simp [lkeys, HYard.aps]
 | a :: A, h, ht => by
  have ih := HYard.keys_aps (t := t) (A := A) (h := h.ap a) (by rw [HYard.ap_len]; exact ht)
  show (((h.ap a).aps A).pr t).hl.map HLine.key = _
  rw [ih, lkeys_cons]
  by_cases e : t = a.1
  ·subst e; rw [HYard.pr_ap_same ht, Eff.ap_lkeys, if_pos rfl, List.append_assoc]
  ·rw [HYard.pr_ap_ne e, if_neg (Ne.symm e)]; rfl
def HYard.tgt (h : HYard) (i : Nat) : Option Nat :=
  let p := h.pr i
  if 0 ≤ p.job ∧ p.pc ≠ (h.jlen p.job : Int) then
    (let m := h.mv p.job p.pc
     if m.1 = 5 ∨ (m.1 = 1 ∧ m.2.1 ≠ i ∧ (p.hold m.2.1).isSome = false) then some m.2.1.toNat else none)
  else none
section
variable {h : HYard}
theorem tgt_no {i : Nat} (hc : ¬ (0 ≤ (h.pr i).job ∧ (h.pr i).pc ≠ (h.jlen (h.pr i).job : Int))) : h.tgt i = none := by unfold HYard.tgt; simp only; rw [if_neg hc]
theorem tgt_no' {i : Nat} (h1 : (h.mv (h.pr i).job (h.pr i).pc).1 ≠ 5) (h2 : (h.mv (h.pr i).job (h.pr i).pc).1 = 1 → (h.mv (h.pr i).job (h.pr i).pc).2.1 ≠ i → ((h.pr i).hold (h.mv (h.pr i).job (h.pr i).pc).2.1).isSome = true) : h.tgt i = none := by
 unfold HYard.tgt
 simp only
 split
 ·rw [if_neg]
  rintro (e | ⟨a, b, c⟩)
  ·exact h1 e
  ·rw [h2 a b] at c; cases c
 ·rfl
theorem tgt_yes {i : Nat} (hc : 0 ≤ (h.pr i).job ∧ (h.pr i).pc ≠ (h.jlen (h.pr i).job : Int)) (h1 : (h.mv (h.pr i).job (h.pr i).pc).1 = 5 ∨ ((h.mv (h.pr i).job (h.pr i).pc).1 = 1 ∧ (h.mv (h.pr i).job (h.pr i).pc).2.1 ≠ i ∧ ((h.pr i).hold (h.mv (h.pr i).job (h.pr i).pc).2.1).isSome = false)) :
  h.tgt i = some (h.mv (h.pr i).job (h.pr i).pc).2.1.toNat := by
 unfold HYard.tgt
 simp only
 rw [if_pos hc, if_pos h1]
theorem lkeys_own (t i : Nat) {e : Eff} (A : Effs) (he : e.isLine = false) : lkeys t ((i, e) :: A) = lkeys t A := by
 rw [lkeys_cons]
 have : (if i = t then e.lkey.toList else []) = [] := by rw [lkey_none he]; split <;> rfl
 rw [this]; rfl
theorem none_if {t : Nat} {k : List Key} : (if (none : Option Nat) = some t then k else []) = [] := if_neg (by simp)
theorem some_if {t s : Nat} {k : Key} : (if (some s : Option Nat) = some t then [k] else []) = (if s = t then [k] else []) := by simp
theorem HInv.step_lkeys (H : HInv h) {i : Nat} (hi : i < h.procs.length) (hg : (h.pr i).goes = true) (t : Nat) : lkeys t (h.effs i) = if h.tgt i = some t then [(h.pr i).next i] else [] := by
 unfold HYard.effs
 rcases goes_cases hg with ⟨hj, hw⟩ | ⟨hj, hgl, hcl⟩
 ·have hw := HProc.waits_neg (H.ok i hi) hw
  simp only
  rw [if_pos hj]
  by_cases hpc : (h.pr i).pc = (h.jlen (h.pr i).job : Int)
  ·rw [if_pos hpc, lkeys_mute (fun a ha => (H.fin_ef hi hj hw false ha).1), tgt_no (fun hh => hh.2 hpc), none_if]
  ·rw [if_neg hpc, lkeys_own _ _ _ rfl]
   have hb := (H.ok i hi).busy hj
   have H1 := H.pc hi hj (v := (h.pr i).pc + 1) (by omega) (by omega)
   have hpe := pc_pr hi ((h.pr i).pc + 1)
   have ehold : ∀ of, ((h.ap (i, .pc ((h.pr i).pc + 1))).pr i).hold of = (h.pr i).hold of := fun of => by rw [hpe]; rfl
   have enext : ((h.ap (i, .pc ((h.pr i).pc + 1))).pr i).next i = (h.pr i).next i := by rw [hpe]; rfl
   have hgi : i < (h.ap (i, .pc ((h.pr i).pc + 1))).procs.length := by rw [HYard.ap_len]; exact hi
   have hfin : lkeys t ((h.ap (i, .pc ((h.pr i).pc + 1))).effFin i true) = [] := lkeys_mute fun a ha => (H1.fin_ef hgi (by rw [hpe]; exact hj) (by rw [hpe]; exact hw) true ha).1
   have hyes := tgt_yes (h := h) (i := i) ⟨hj, hpc⟩
   have hno := tgt_no' (h := h) (i := i)
   generalize h.mv (h.pr i).job (h.pr i).pc = m at hyes hno ⊢
   unfold HYard.effDeed
   simp only [ehold, enext]
   by_cases h1 : m.1 = 1
   ·simp only [if_pos h1]
    by_cases h2 : ((h.pr i).hold m.2.1).isSome = true ∨ m.2.1 = i
    ·rw [if_pos h2, lkeys_own _ _ _ rfl, hno (by omega) (fun _ hne => h2.resolve_right hne), none_if]; rfl
    ·rw [if_neg h2]
     rw [not_or] at h2
     rw [hyes (.inr ⟨h1, h2.2, by simpa using h2.1⟩), some_if, lkeys_cons, lkeys_own _ _ _ rfl, lkeys_own _ _ _ rfl]
     exact List.append_nil _
   ·simp only [if_neg h1]
    by_cases h2 : m.1 = 2
    ·simp only [if_pos h2]
     rw [hno (by omega) (fun e => absurd e h1), none_if]
     cases ((h.ap (i, .pc ((h.pr i).pc + 1))).pr i).holds.getLast? with
     | none => rfl
     | some x =>
      refine lkeys_mute fun a ha => ?_
      rcases List.mem_cons.1 ha with rfl | ha
      ·exact ⟨rfl, rfl⟩
      ·unfold clh at ha
       split at ha
       ·simp at ha
       ·obtain rfl := List.mem_singleton.1 ha; exact ⟨rfl, rfl⟩
    ·simp only [if_neg h2]
     by_cases h3 : m.1 = 3 ∨ m.1 = 4
     ·simp only [if_pos h3]
      rw [hno (by omega) (fun e => absurd e h1), none_if]
      split
      ·rfl
      ·cases (h.pr i).hold m.2.1 with
       | none => exact hfin
       | some x =>
        simp only
        rw [lkeys_own _ _ _ rfl]
        split
        ·rw [lkeys_own _ _ _ rfl]; rfl
        ·rfl
     ·simp only [if_neg h3]
      by_cases h4 : m.1 = 5
      ·simp only [if_pos h4]
       rw [hyes (.inl h4), some_if, lkeys_cons, lkeys_own _ _ _ rfl]
       exact List.append_nil _
      ·simp only [if_neg h4]
       rw [hno h4 (fun e => absurd e h1), none_if]
       exact hfin
 ·simp only
  rw [if_neg (by omega), tgt_no (fun hh => by omega), none_if]
  cases ha : (h.pr i).head.all.drop (h.pr i).head.tk with
  | nil => exact lkeys_mute fun a ha => by obtain rfl := List.mem_singleton.1 ha; exact ⟨rfl, rfl⟩
  | cons a r =>
   simp only
   split
   ·obtain ⟨H1, h2⟩ := H.left hi hj hgl ha
    refine lkeys_mute fun x hx => ?_
    rcases List.mem_append.1 hx with hx | hx
    ·exact left_mute i a x hx
    ·split at hx
     ·rename_i ha2
      obtain ⟨g1, g2, g3⟩ := h2 ha2
      have e0 : h.effLeft i a = [(i, .tk (h.pr i).gone), (i, .res (h.pr i).gone true false)] ++ [((h.pr i).head.key.1.toNat, .waits (-1))] := by unfold HYard.effLeft; rw [if_pos ha2]
      rw [if_pos ha2, ← e0] at H1 g2 g3
      have hx : x ∈ (h.aps (h.effLeft i a)).effFin (h.pr i).head.key.1.toNat true := by rw [e0]; exact hx
      exact (HInv.end_mem (h := h.aps (h.effLeft i a)) H1 (by rw [HYard.aps_len]; exact g1) g2 g3 x hx).1
     ·simp at hx
   ·refine lkeys_mute fun x hx => ?_
    simp only [List.mem_cons, List.not_mem_nil, or_false] at hx
    rcases hx with rfl | rfl <;> exact ⟨rfl, rfl⟩
theorem HInv.step_keys (H : HInv h) {i t : Nat} (hi : i < h.procs.length) (hg : (h.pr i).goes = true) (ht : t < h.procs.length) : ((h.step i).pr t).hl.map HLine.key = (h.pr t).hl.map HLine.key ++ if h.tgt i = some t then [(h.pr i).next i] else [] := by
 unfold HYard.step
 rw [HYard.keys_aps ht, H.step_lkeys hi hg]
theorem HInv.tgt_lt (H : HInv h) {i t : Nat} (hi : i < h.procs.length) (hg : h.tgt i = some t) : t < h.procs.length := by
 unfold HYard.tgt at hg
 simp only at hg
 split at hg
 ·rename_i hj
  have hb := (H.ok i hi).busy hj.1
  have hm := mv_ok H.chk hj.1 hb.1 hb.2.1 (by omega)
  have hsp := moved_spot hm
  split at hg
  ·rename_i h1
   have e : (h.mv (h.pr i).job (h.pr i).pc).2.1.toNat = t := Option.some.inj hg
   rcases h1 with h1 | h1
   ·have := hsp.2 (by omega); omega
   ·have := hsp.1 h1.1; omega
  ·cases hg
 ·cases hg
end
theorem HYard.step_len {h : HYard} {i : Nat} : (h.step i).procs.length = h.procs.length := HYard.aps_len
/-! ## Runs that are bound to orders -/
def HYard.May (o : Nat → List Key) (h : HYard) (i : Nat) : Prop := i < h.procs.length ∧ (h.pr i).goes = true ∧ ∀ t, h.tgt i = some t → (o t)[(h.pr t).hl.length]? = some ((h.pr i).next i)
inductive HYard.Run (o : Nat → List Key) : Nat → HYard → HYard → Prop
 | nil (h : HYard) : HYard.Run o 0 h h
 | cons {m i : Nat} {h g : HYard} : h.May o i → HYard.Run o m (h.step i) g → HYard.Run o (m + 1) h g
section
variable {h : HYard} {o : Nat → List Key}
theorem HInv.run : ∀ {m : Nat} {h g : HYard}, HInv h → HYard.Run o m h g → HInv g ∧ g.procs.length = h.procs.length ∧ g.jobs = h.jobs
 | _, _, _, H, .nil _ => ⟨H, rfl, rfl⟩
 | _, _, _, H, .cons hp hr => by
  obtain ⟨a, b, c⟩ := HInv.run (H.step hp.1 hp.2.1) hr
  exact ⟨a, b.trans HYard.step_len, c.trans (by unfold HYard.step; exact HYard.aps_jobs)⟩
end
end Go.Wt
namespace Go.Wt
def Eff.quiet : Eff → Bool
 | .holds _ => true
 | .close _ => true
 | .idle => true
 | .res _ _ _ => true
 | .waits _ => true
 | _ => false
def Eff.taking : Eff → Bool
 | .tk _ => true
 | .gone => true
 | _ => false
theorem lvs_quiet {i : Nat} {r : List Hold} {a : Nat × Eff} (ha : a ∈ lvs i r) : a.2.quiet = true := by
 rcases lvs_mem ha with ⟨l, rfl⟩ | ⟨x, _, _, rfl⟩ <;> rfl
theorem stop_quiet {h : HYard} {i : Nat} {f : Bool} {a : Nat × Eff} (ha : a ∈ h.effStop i f) : a.2.quiet = true := by
 unfold HYard.effStop at ha
 rcases List.mem_append.1 ha with ha | ha
 ·rcases List.mem_append.1 ha with ha | ha
  ·exact lvs_quiet ha
  ·simp at ha; rcases ha with rfl | rfl <;> rfl
 ·split at ha
  ·obtain rfl := List.mem_singleton.1 ha; rfl
  ·simp at ha
theorem end_quiet : ∀ {n : Nat} {h : HYard} {i : Nat} {f : Bool} {a : Nat × Eff}, a ∈ HYard.effEnd n h i f → a.2.quiet = true
 | 0, h, i, f, a, ha => by simp [HYard.effEnd] at ha
 | n + 1, h, i, f, a, ha => by
  unfold HYard.effEnd at ha
  rcases List.mem_append.1 ha with ha | ha
  ·exact stop_quiet ha
  ·split at ha
   ·exact end_quiet ha
   ·simp at ha
theorem fin_quiet {h : HYard} {i : Nat} {f : Bool} {a : Nat × Eff} (ha : a ∈ h.effFin i f) : a.2.quiet = true := end_quiet ha
theorem clh_quiet {x : Hold} {a : Nat × Eff} (ha : a ∈ clh x) : a.2.quiet = true := by
 unfold clh at ha
 split at ha
 ·simp at ha
 ·obtain rfl := List.mem_singleton.1 ha; rfl
theorem quiet_mute {e : Eff} (h : e.quiet = true) : e.isLine = false ∧ e.isAsk = false ∧ e.taking = false := by cases e <;> first | exact ⟨rfl, rfl, rfl⟩ | cases h
theorem deed_taking {h : HYard} {i : Nat} {m : Move} {a : Nat × Eff} (ha : a ∈ h.effDeed i m) : a.2.taking = false := by
 unfold HYard.effDeed at ha
 by_cases h1 : m.1 = 1
 ·simp only [if_pos h1] at ha
  split at ha
  ·obtain rfl := List.mem_singleton.1 ha; rfl
  ·simp only [List.mem_cons, List.not_mem_nil, or_false] at ha
   rcases ha with rfl | rfl | rfl <;> rfl
 ·simp only [if_neg h1] at ha
  by_cases h2 : m.1 = 2
  ·simp only [if_pos h2] at ha
   cases hx : (h.pr i).holds.getLast? with
   | none => rw [hx] at ha; simp at ha
   | some x =>
    rw [hx] at ha
    simp only at ha
    rcases List.mem_cons.1 ha with rfl | ha
    ·rfl
    ·exact (quiet_mute (clh_quiet ha)).2.2
  ·simp only [if_neg h2] at ha
   by_cases h3 : m.1 = 3 ∨ m.1 = 4
   ·simp only [if_pos h3] at ha
    split at ha
    ·simp at ha
    ·cases hx : (h.pr i).hold m.2.1 with
     | none => rw [hx] at ha; exact (quiet_mute (fin_quiet ha)).2.2
     | some x =>
      rw [hx] at ha
      simp only at ha
      rcases List.mem_cons.1 ha with rfl | ha
      ·rfl
      ·split at ha
       ·obtain rfl := List.mem_singleton.1 ha; rfl
       ·simp at ha
   ·simp only [if_neg h3] at ha
    by_cases h4 : m.1 = 5
    ·simp only [if_pos h4] at ha
     simp only [List.mem_cons, List.not_mem_nil, or_false] at ha
     rcases ha with rfl | rfl <;> rfl
    ·simp only [if_neg h4] at ha
     exact (quiet_mute (fin_quiet ha)).2.2
theorem step_busy {h : HYard} {i : Nat} (hj : 0 ≤ (h.pr i).job) {a : Nat × Eff} (ha : a ∈ h.effs i) : a.2.taking = false := by
 unfold HYard.effs at ha
 simp only at ha
 rw [if_pos hj] at ha
 split at ha
 ·exact (quiet_mute (fin_quiet ha)).2.2
 ·rcases List.mem_cons.1 ha with rfl | ha
  ·rfl
  ·exact deed_taking ha
theorem step_take {h : HYard} {i : Nat} (hj : (h.pr i).job < 0) {a : Nat × Eff} (ha : a ∈ h.effs i) : a.2.isLine = false ∧ a.2.isAsk = false := by
 unfold HYard.effs at ha
 simp only at ha
 rw [if_neg (by omega)] at ha
 split at ha
 ·obtain rfl := List.mem_singleton.1 ha; exact ⟨rfl, rfl⟩
 ·split at ha
  ·rcases List.mem_append.1 ha with ha | ha
   ·rcases List.mem_append.1 ha with ha | ha
    ·simp at ha; rcases ha with rfl | rfl <;> exact ⟨rfl, rfl⟩
    ·split at ha
     ·obtain rfl := List.mem_singleton.1 ha; exact ⟨rfl, rfl⟩
     ·simp at ha
   ·split at ha
    ·have := quiet_mute (fin_quiet ha); exact ⟨this.1, this.2.1⟩
    ·simp at ha
  ·simp only [List.mem_cons, List.not_mem_nil, or_false] at ha
   rcases ha with rfl | rfl <;> exact ⟨rfl, rfl⟩
/-! ## What comes to the queues of a processor -/
def Eff.news : Eff → List (Key × Int)
 | .ask k a => [(k, a.1)]
 | .line l => l.all.map fun a => (l.key, a.1)
 | _ => []
def newsT (t : Nat) (A : Effs) : List (Key × Int) := A.flatMap fun a => if a.1 = t then a.2.news else []
def pick1 (k : Key) (N : List (Key × Int)) : List Int := (N.filter fun x => x.1 == k).map (·.2)
theorem pick1_app (k : Key) (N M : List (Key × Int)) : pick1 k (N ++ M) = pick1 k N ++ pick1 k M := by simp [pick1]
theorem pick1_none {k : Key} {N : List (Key × Int)} (h : ∀ x ∈ N, x.1 ≠ k) : pick1 k N = [] := by
 unfold pick1
 rw [List.map_eq_nil_iff, List.filter_eq_nil_iff]
 intro x hx
 simpa using h x hx
structure Gr (p p' : HProc) (N : List (Key × Int)) : Prop where
 gone : p'.gone = p.gone
 len : p.hl.length ≤ p'.hl.length
 old : ∀ (j : Nat) l, p.hl[j]? = some l → ∃ l', p'.hl[j]? = some l' ∧ l'.key = l.key ∧ l'.tk = l.tk ∧ l'.all.map (·.1) = l.all.map (·.1) ++ pick1 l.key N
 new : ∀ (j : Nat) l', p.hl.length ≤ j → p'.hl[j]? = some l' → l'.tk = 0 ∧ l'.all.map (·.1) = pick1 l'.key N ∧ l'.key ∉ p.hl.map HLine.key
 mem : ∀ x ∈ N, x.1 ∈ p'.hl.map HLine.key
theorem Gr.keys {p p' : HProc} {N : List (Key × Int)} (g : Gr p p' N) {k : Key} (hk : k ∈ p.hl.map HLine.key) : k ∈ p'.hl.map HLine.key := by
 obtain ⟨l, hl, rfl⟩ := List.mem_map.1 hk
 obtain ⟨j, hj⟩ := List.getElem?_of_mem hl
 obtain ⟨l', h1, h2, _⟩ := g.old j l hj
 exact List.mem_map.2 ⟨l', List.mem_of_getElem? h1, h2⟩
theorem Gr.refl (p : HProc) : Gr p p [] := ⟨rfl, Nat.le_refl _, fun j l h => ⟨l, h, rfl, rfl, by simp [pick1]⟩, fun j l' h1 h2 => by
 have := (List.getElem?_eq_some_iff.1 h2).1; omega, fun x hx => by simp at hx⟩
theorem Gr.trans {p q r : HProc} {N M : List (Key × Int)} (a : Gr p q N) (b : Gr q r M) : Gr p r (N ++ M) := by
 refine ⟨b.gone.trans a.gone, Nat.le_trans a.len b.len, fun j l h => ?_, fun j l' h1 h2 => ?_, fun x hx => ?_⟩
 ·obtain ⟨l1, e1, e2, e3, e4⟩ := a.old j l h
  obtain ⟨l2, f1, f2, f3, f4⟩ := b.old j l1 e1
  exact ⟨l2, f1, f2.trans e2, f3.trans e3, by rw [f4, e4, e2, pick1_app, List.append_assoc]⟩
 ·rcases Nat.lt_or_ge j q.hl.length with hj | hj
  ·have e0 : q.hl[j]? = some q.hl[j] := List.getElem?_eq_getElem hj
   obtain ⟨l2, f1, f2, f3, f4⟩ := b.old j _ e0
   rw [h2] at f1; cases f1
   obtain ⟨e1, e2, e3⟩ := a.new j _ h1 e0
   exact ⟨f3.trans e1, by rw [f4, e2, f2, pick1_app], by rw [f2]; exact e3⟩
  ·obtain ⟨e1, e2, e3⟩ := b.new j l' hj h2
   refine ⟨e1, ?_, fun hk => e3 (a.keys hk)⟩
   rw [e2, pick1_app, pick1_none (N := N) fun x hx e => e3 (by rw [← e]; exact a.mem x hx)]; rfl
 ·rcases List.mem_append.1 hx with hx | hx
  ·exact b.keys (a.mem x hx)
  ·exact b.mem x hx
theorem gr_same {p p' : HProc} (h1 : p'.hl = p.hl) (h2 : p'.gone = p.gone) : Gr p p' [] := by
 have := Gr.refl p
 exact ⟨h2, by rw [h1]; exact Nat.le_refl _, by rw [h1]; exact this.old, by rw [h1]; exact this.new, fun x hx => by simp at hx⟩
theorem Eff.gr {e : Eff} {p : HProc} (ht : e.taking = false) (ho : e.ok p) (hx : ∀ l, e = .line l → l.tk = 0) : Gr p (e.ap p) e.news := by
 cases e with
 | tk j => cases ht
 | gone => cases ht
 | res j a b =>
  refine ⟨rfl, by show _ ≤ (p.hl.modify j _).length; simp, fun i l h => ?_, fun i l' h1 h2 => ?_, fun x hx => by simp [Eff.news] at hx⟩
  ·show ∃ l', (p.hl.modify j (HLine.fin a b))[i]? = some l' ∧ _
   rw [modify_get, h]
   by_cases e : j = i
   ·rw [if_pos e]; exact ⟨_, rfl, rfl, rfl, by simp [pick1, Eff.news, HLine.fin]⟩
   ·rw [if_neg e]; exact ⟨_, rfl, rfl, rfl, by simp [pick1, Eff.news]⟩
  ·have h3 : (p.hl.modify j (HLine.fin a b))[i]? = some l' := h2
   have := (List.getElem?_eq_some_iff.1 h3).1
   simp at this; omega
 | line l =>
  refine ⟨rfl, by show _ ≤ (p.hl ++ [l]).length; simp, fun i y h => ?_, fun i l' h1 h2 => ?_, fun x hx => ?_⟩
  ·refine ⟨y, ?_, rfl, rfl, ?_⟩
   ·show (p.hl ++ [l])[i]? = some y
    rw [List.getElem?_append_left (List.getElem?_eq_some_iff.1 h).1]; exact h
   ·have hne : l.key ≠ y.key := fun e => ho (by rw [e]; exact mem_key h)
    rw [pick1_none (fun x hx e => ?_)]
    ·simp
    ·obtain ⟨a, _, rfl⟩ := List.mem_map.1 (show x ∈ l.all.map fun a => (l.key, a.1) from hx)
     exact hne e
  ·have h3 : (p.hl ++ [l])[i]? = some l' := h2
   have hl := (List.getElem?_eq_some_iff.1 h3).1
   simp at hl
   rw [List.getElem?_append_right h1, show i - p.hl.length = 0 by omega] at h3
   obtain rfl : l = l' := by simpa using h3
   refine ⟨hx l rfl, ?_, ho⟩
   unfold pick1 Eff.news
   rw [List.filter_eq_self.2 (fun x hx => by obtain ⟨a, _, rfl⟩ := List.mem_map.1 hx; simp), List.map_map]; rfl
  ·obtain ⟨a, _, rfl⟩ := List.mem_map.1 (show x ∈ l.all.map fun a => (l.key, a.1) from hx)
   show l.key ∈ (p.hl ++ [l]).map HLine.key
   simp
 | ask k a =>
  refine ⟨rfl, by show _ ≤ (updh k _ p.hl).length; simp [updh], fun i y h => ?_, fun i l' h1 h2 => ?_, fun x hx => ?_⟩
  ·show ∃ l', (updh k (HLine.asked a) p.hl)[i]? = some l' ∧ _
   rw [updh_get, h]
   by_cases e : y.key = k
   ·refine ⟨_, rfl, by simp [e, HLine.asked], by simp [e, HLine.asked], ?_⟩
    simp [e, HLine.asked, pick1, Eff.news]
   ·refine ⟨_, rfl, by simp [e], by simp [e], ?_⟩
    rw [pick1_none (fun x hx e2 => ?_)]
    ·simp [e]
    ·have : x = (k, a.1) := by simpa [Eff.news] using hx
     subst this
     exact e e2.symm
  ·have h3 : (updh k (HLine.asked a) p.hl)[i]? = some l' := h2
   have := (List.getElem?_eq_some_iff.1 h3).1
   simp [updh] at this; omega
  ·have : x = (k, a.1) := by simpa [Eff.news] using hx
   subst this
   show k ∈ (updh k (HLine.asked a) p.hl).map HLine.key
   rw [updh_keys k (HLine.asked a) (fun _ => rfl)]; exact ho
 | close k =>
  refine ⟨rfl, by show _ ≤ (updh k _ p.hl).length; simp [updh], fun i y h => ?_, fun i l' h1 h2 => ?_, fun x hx => by simp [Eff.news] at hx⟩
  ·show ∃ l', (updh k HLine.shut p.hl)[i]? = some l' ∧ _
   rw [updh_get, h]
   by_cases e : y.key = k
   ·exact ⟨_, rfl, by simp [e, HLine.shut], by simp [e, HLine.shut], by simp [e, HLine.shut, pick1, Eff.news]⟩
   ·exact ⟨_, rfl, by simp [e], by simp [e], by simp [e, pick1, Eff.news]⟩
  ·have h3 : (updh k HLine.shut p.hl)[i]? = some l' := h2
   have := (List.getElem?_eq_some_iff.1 h3).1
   simp [updh] at this; omega
 | _ => exact gr_same rfl rfl
theorem HYard.gr_aps {t : Nat} : ∀ {A : Effs} {h : HYard}, t < h.procs.length → (∀ a ∈ A, a.2.taking = false) → (∀ a ∈ A, ∀ l, a.2 = .line l → l.tk = 0) → h.oks A → Gr (h.pr t) ((h.aps A).pr t) (newsT t A)
 | [], h, _, _, _, _ => Gr.refl _
 | a :: A, h, ht, hA, hl, ho => by
  have ih := HYard.gr_aps (t := t) (A := A) (h := h.ap a) (by rw [HYard.ap_len]; exact ht) (fun x hx => hA x (by simp [hx])) (fun x hx => hl x (by simp [hx])) ho.2
  have e0 : newsT t (a :: A) = (if a.1 = t then a.2.news else []) ++ newsT t A := by unfold newsT; rw [List.flatMap_cons]
  rw [e0]
  refine Gr.trans ?_ ih
  by_cases e : t = a.1
  ·subst e
   rw [HYard.pr_ap_same ht, if_pos rfl]
   exact Eff.gr (hA a (by simp)) ho.1 (hl a (by simp))
  ·rw [HYard.pr_ap_ne e, if_neg (Ne.symm e)]; exact Gr.refl _
structure Tkn (p p' : HProc) : Prop where
 gone : p.gone ≤ p'.gone
 len : p'.hl.length = p.hl.length
 old : ∀ (j : Nat) l, p.hl[j]? = some l → ∃ l', p'.hl[j]? = some l' ∧ l'.key = l.key ∧ l.tk ≤ l'.tk ∧ l'.all = l.all
theorem Tkn.refl (p : HProc) : Tkn p p := ⟨Nat.le_refl _, rfl, fun j l h => ⟨l, h, rfl, Nat.le_refl _, rfl⟩⟩
theorem Tkn.trans {p q r : HProc} (a : Tkn p q) (b : Tkn q r) : Tkn p r := ⟨Nat.le_trans a.gone b.gone, b.len.trans a.len, fun j l h => by
 obtain ⟨l1, e1, e2, e3, e4⟩ := a.old j l h
 obtain ⟨l2, f1, f2, f3, f4⟩ := b.old j l1 e1
 exact ⟨l2, f1, f2.trans e2, Nat.le_trans e3 f3, f4.trans e4⟩⟩
theorem tkn_same {p p' : HProc} (h1 : p'.hl = p.hl) (h2 : p.gone ≤ p'.gone) : Tkn p p' := ⟨h2, by rw [h1], fun j l h => ⟨l, by rw [h1]; exact h, rfl, Nat.le_refl _, rfl⟩⟩
theorem tkn_modify {p p' : HProc} {j : Nat} {f : HLine → HLine} (h1 : p'.hl = p.hl.modify j f) (h2 : p'.gone = p.gone) (hf : ∀ l, (f l).key = l.key ∧ l.tk ≤ (f l).tk ∧ (f l).all = l.all) : Tkn p p' := ⟨by omega, by rw [h1]; simp, fun i l h => by
 rw [h1, modify_get, h]
 by_cases e : j = i
 ·rw [if_pos e]; exact ⟨_, rfl, hf l⟩
 ·rw [if_neg e]; exact ⟨_, rfl, rfl, Nat.le_refl _, rfl⟩⟩
theorem Eff.tkn {e : Eff} (h : e.isLine = false ∧ e.isAsk = false) (p : HProc) : Tkn p (e.ap p) := by
 cases e with
 | line l => cases h.1
 | ask k a => cases h.2
 | res j a b => exact tkn_modify (f := HLine.fin a b) rfl rfl fun l => ⟨rfl, Nat.le_refl _, rfl⟩
 | tk j => exact tkn_modify (f := HLine.take) rfl rfl fun l => ⟨rfl, Nat.le_succ _, rfl⟩
 | gone => exact tkn_same rfl (Nat.le_succ _)
 | close k =>
  refine ⟨Nat.le_refl _, by show (updh k _ p.hl).length = _; simp [updh], fun i l h => ?_⟩
  show ∃ l', (updh k HLine.shut p.hl)[i]? = some l' ∧ _
  rw [updh_get, h]
  by_cases e : l.key = k
  ·exact ⟨_, rfl, by simp [e, HLine.shut], by simp [e, HLine.shut], by simp [e, HLine.shut]⟩
  ·exact ⟨_, rfl, by simp [e], by simp [e], by simp [e]⟩
 | _ => exact tkn_same rfl (Nat.le_refl _)
theorem HYard.tkn_aps {t : Nat} : ∀ {A : Effs} {h : HYard}, t < h.procs.length → Mute A → Tkn (h.pr t) ((h.aps A).pr t)
 | [], h, _, _ => Tkn.refl _
 | a :: A, h, ht, hA => by
  refine Tkn.trans ?_ (HYard.tkn_aps (A := A) (h := h.ap a) (by rw [HYard.ap_len]; exact ht) fun x hx => hA x (by simp [hx]))
  by_cases e : t = a.1
  ·subst e
   rw [HYard.pr_ap_same ht]
   exact Eff.tkn (hA a (by simp)) _
  ·rw [HYard.pr_ap_ne e]; exact Tkn.refl _
/-! ## The request that a step puts -/
def HYard.asked (h : HYard) (i : Nat) : Option (Nat × Key × Int) :=
 if 0 ≤ (h.pr i).job ∧ (h.pr i).pc ≠ (h.jlen (h.pr i).job : Int) then
  (if (h.mv (h.pr i).job (h.pr i).pc).1 = 5 then some ((h.mv (h.pr i).job (h.pr i).pc).2.1.toNat, (h.pr i).next i, (h.mv (h.pr i).job (h.pr i).pc).2.2)
  else if ((h.mv (h.pr i).job (h.pr i).pc).1 = 3 ∨ (h.mv (h.pr i).job (h.pr i).pc).1 = 4) ∧ (h.mv (h.pr i).job (h.pr i).pc).2.1 ≠ i then ((h.pr i).hold (h.mv (h.pr i).job (h.pr i).pc).2.1).map fun x => ((h.mv (h.pr i).job (h.pr i).pc).2.1.toNat, x.2.1, (h.mv (h.pr i).job (h.pr i).pc).2.2)
  else none)
 else none
def askedT (t : Nat) : Option (Nat × Key × Int) → List (Key × Int)
 | none => []
 | some x => if x.1 = t then [x.2] else []
theorem newsT_nil {t : Nat} {A : Effs} (h : ∀ a ∈ A, a.2.news = []) : newsT t A = [] := by
 unfold newsT
 rw [List.flatMap_eq_nil_iff]
 intro a ha
 rw [h a ha]; split <;> rfl
theorem newsT_cons (t : Nat) (a : Nat × Eff) (A : Effs) : newsT t (a :: A) = (if a.1 = t then a.2.news else []) ++ newsT t A := by unfold newsT; rw [List.flatMap_cons]
theorem newsT_own (t i : Nat) {e : Eff} (A : Effs) (he : e.news = []) : newsT t ((i, e) :: A) = newsT t A := by
 rw [newsT_cons]
 have : (if i = t then e.news else []) = [] := by rw [he]; split <;> rfl
 rw [this]; rfl
theorem quiet_news {e : Eff} (h : e.quiet = true) : e.news = [] := by cases e <;> first | rfl | cases h
theorem mute_news {e : Eff} (h : e.isLine = false ∧ e.isAsk = false) : e.news = [] := by
 cases e with
 | line l => cases h.1
 | ask k a => cases h.2
 | _ => rfl
theorem step_news {h : HYard} (i t : Nat) : newsT t (h.effs i) = askedT t (h.asked i) := by
 unfold HYard.asked
 by_cases hj : 0 ≤ (h.pr i).job
 ·unfold HYard.effs
  simp only
  rw [if_pos hj]
  by_cases hpc : (h.pr i).pc = (h.jlen (h.pr i).job : Int)
  ·rw [if_pos hpc, if_neg (fun hh => hh.2 hpc), newsT_nil (fun a ha => quiet_news (fin_quiet ha))]; rfl
  ·rw [if_neg hpc, newsT_own _ _ _ rfl]
   have hc : 0 ≤ (h.pr i).job ∧ (h.pr i).pc ≠ (h.jlen (h.pr i).job : Int) := ⟨hj, hpc⟩
   rw [if_pos hc]
   have hpe : i < h.procs.length → (h.ap (i, .pc ((h.pr i).pc + 1))).pr i = (Eff.pc ((h.pr i).pc + 1)).ap (h.pr i) := fun hi => pc_pr hi _
   have hsame : ((h.ap (i, .pc ((h.pr i).pc + 1))).pr i).holds = (h.pr i).holds ∧ ((h.ap (i, .pc ((h.pr i).pc + 1))).pr i).made = (h.pr i).made := by
    by_cases hi : i < h.procs.length
    ·rw [hpe hi]; exact ⟨rfl, rfl⟩
    ·unfold HYard.ap; rw [HYard.put_big (by simpa using hi)]; exact ⟨rfl, rfl⟩
   have ehold : ∀ of, ((h.ap (i, .pc ((h.pr i).pc + 1))).pr i).hold of = (h.pr i).hold of := fun of => by unfold HProc.hold; rw [hsame.1]
   have enext : ((h.ap (i, .pc ((h.pr i).pc + 1))).pr i).next i = (h.pr i).next i := by unfold HProc.next; rw [hsame.2]
   generalize h.mv (h.pr i).job (h.pr i).pc = m
   have hfin : newsT t ((h.ap (i, .pc ((h.pr i).pc + 1))).effFin i true) = [] := newsT_nil fun a ha => quiet_news (fin_quiet ha)
   unfold HYard.effDeed
   simp only [ehold, enext]
   by_cases h1 : m.1 = 1
   ·simp only [if_pos h1]
    rw [if_neg (c := m.1 = 5) (by omega), if_neg (c := (m.1 = 3 ∨ m.1 = 4) ∧ m.2.1 ≠ i) (by omega)]
    split
    ·exact newsT_nil fun a ha => by obtain rfl := List.mem_singleton.1 ha; rfl
    ·refine newsT_nil fun a ha => ?_
     simp only [List.mem_cons, List.not_mem_nil, or_false] at ha
     rcases ha with rfl | rfl | rfl <;> rfl
   ·simp only [if_neg h1]
    by_cases h2 : m.1 = 2
    ·simp only [if_pos h2]
     rw [if_neg (c := m.1 = 5) (by omega), if_neg (c := (m.1 = 3 ∨ m.1 = 4) ∧ m.2.1 ≠ i) (by omega)]
     cases ((h.ap (i, .pc ((h.pr i).pc + 1))).pr i).holds.getLast? with
     | none => rfl
     | some x =>
      refine newsT_nil fun a ha => ?_
      rcases List.mem_cons.1 ha with rfl | ha
      ·rfl
      ·exact quiet_news (clh_quiet ha)
    ·simp only [if_neg h2]
     by_cases h3 : m.1 = 3 ∨ m.1 = 4
     ·simp only [if_pos h3]
      rw [if_neg (c := m.1 = 5) (by omega)]
      by_cases h4 : m.2.1 = i
      ·rw [if_pos h4, if_neg (fun hh => hh.2 h4)]; rfl
      ·have hc4 : (m.1 = 3 ∨ m.1 = 4) ∧ m.2.1 ≠ i := ⟨h3, h4⟩
       rw [if_neg h4, if_pos hc4]
       cases (h.pr i).hold m.2.1 with
       | none => exact hfin
       | some x =>
        show newsT t ((m.2.1.toNat, Eff.ask x.2.1 (m.2.2, m.1 == 4)) :: (if m.1 = 4 then [(i, Eff.waits m.2.1)] else [])) = askedT t (some (m.2.1.toNat, x.2.1, m.2.2))
        rw [newsT_cons]
        have e1 : newsT t (if m.1 = 4 then [(i, Eff.waits m.2.1)] else []) = [] := newsT_nil fun a ha => by
         split at ha
         ·obtain rfl := List.mem_singleton.1 ha; rfl
         ·simp at ha
        rw [e1, List.append_nil]; rfl
     ·simp only [if_neg h3]
      by_cases h4 : m.1 = 5
      ·simp only [if_pos h4]
       rw [newsT_cons, newsT_own _ _ _ rfl]
       exact List.append_nil _
      ·simp only [if_neg h4]
       rw [if_neg (fun hh => h3 hh.1)]
       exact hfin
 ·rw [if_neg (fun hh => hj hh.1)]
  exact newsT_nil fun a ha => mute_news (step_take (by omega) ha)
theorem effs_line {h : HYard} {i : Nat} {a : Nat × Eff} (ha : a ∈ h.effs i) {l : HLine} (hl : a.2 = .line l) : l.tk = 0 ∧ l.res = [] ∧ l.broken = false := by
 have key : ∀ {h : HYard} {m : Move}, a ∈ h.effDeed i m → l.tk = 0 ∧ l.res = [] ∧ l.broken = false := fun {h m} ha => by
  have hq : ∀ {b : Nat × Eff}, b.2.quiet = true → b.2 ≠ .line l := fun hb e => by rw [e] at hb; cases hb
  unfold HYard.effDeed at ha
  by_cases h1 : m.1 = 1
  ·simp only [if_pos h1] at ha
   split at ha
   ·obtain rfl := List.mem_singleton.1 ha; cases hl
   ·simp only [List.mem_cons, List.not_mem_nil, or_false] at ha
    rcases ha with rfl | rfl | rfl <;> cases hl
    exact ⟨rfl, rfl, rfl⟩
  ·simp only [if_neg h1] at ha
   by_cases h2 : m.1 = 2
   ·simp only [if_pos h2] at ha
    cases hx : (h.pr i).holds.getLast? with
    | none => rw [hx] at ha; simp at ha
    | some x =>
     rw [hx] at ha
     simp only at ha
     rcases List.mem_cons.1 ha with rfl | ha
     ·cases hl
     ·exact absurd hl (hq (clh_quiet ha))
   ·simp only [if_neg h2] at ha
    by_cases h3 : m.1 = 3 ∨ m.1 = 4
    ·simp only [if_pos h3] at ha
     split at ha
     ·simp at ha
     ·cases hx : (h.pr i).hold m.2.1 with
      | none => rw [hx] at ha; exact absurd hl (hq (fin_quiet ha))
      | some x =>
       rw [hx] at ha
       simp only at ha
       rcases List.mem_cons.1 ha with rfl | ha
       ·cases hl
       ·split at ha
        ·obtain rfl := List.mem_singleton.1 ha; cases hl
        ·simp at ha
    ·simp only [if_neg h3] at ha
     by_cases h4 : m.1 = 5
     ·simp only [if_pos h4] at ha
      simp only [List.mem_cons, List.not_mem_nil, or_false] at ha
      rcases ha with rfl | rfl <;> cases hl
      exact ⟨rfl, rfl, rfl⟩
     ·simp only [if_neg h4] at ha
      exact absurd hl (hq (fin_quiet ha))
 by_cases hj : 0 ≤ (h.pr i).job
 ·unfold HYard.effs at ha
  simp only at ha
  rw [if_pos hj] at ha
  split at ha
  ·have := fin_quiet ha; rw [hl] at this; cases this
  ·rcases List.mem_cons.1 ha with rfl | ha
   ·cases hl
   ·exact key ha
 ·have := (step_take (by omega) ha).1; rw [hl] at this; cases this
section
variable {h : HYard}
theorem HInv.step_grow (H : HInv h) {i t : Nat} (hi : i < h.procs.length) (hg : (h.pr i).goes = true) (ht : t < h.procs.length) : Gr (h.pr t) ((h.step i).pr t) (askedT t (h.asked i)) ∨ (h.asked i = none ∧ Tkn (h.pr t) ((h.step i).pr t)) := by
 by_cases hj : 0 ≤ (h.pr i).job
 ·left
  obtain ⟨h1, h2⟩ := H.step_ef hi hg
  rw [← step_news]
  exact HYard.gr_aps ht (fun a ha => step_busy hj ha) (fun a ha l hl => (effs_line ha hl).1) (HYard.oks_one (fun a ha => (h1 a ha).ok) h2)
 ·right
  exact ⟨by unfold HYard.asked; rw [if_neg (fun hh => hj hh.1)], HYard.tkn_aps ht fun a ha => step_take (by omega) ha⟩
end
end Go.Wt
namespace Go.Wt
/-! ## Results -/
structure HLine.Ro (l : HLine) : Prop where
 brk : l.broken = l.res.any (·.2)
 each : ∀ (j : Nat) x, l.res[j]? = some x → x.1 = (l.res.take j).any (·.2) ∧ ¬ (x.1 = true ∧ x.2 = true)
def HProc.Ri (p : HProc) : Prop := ∀ l ∈ p.hl, l.Ro
def HYard.Ri (h : HYard) : Prop := ∀ t, t < h.procs.length → (h.pr t).Ri
def Eff.rok : Eff → HProc → Prop
 | .res j a b, p => ∀ l, p.hl[j]? = some l → a = l.broken ∧ ¬ (a = true ∧ b = true)
 | .line l, _ => l.Ro
 | _, _ => True
theorem ro_fin {l : HLine} (h : l.Ro) {a b : Bool} (ha : a = l.broken) (hab : ¬ (a = true ∧ b = true)) : (l.fin a b).Ro := by
 refine ⟨?_, fun j x hx => ?_⟩
 ·show (l.broken || b) = (l.res ++ [(a, b)]).any (·.2)
  rw [List.any_append, h.brk]; simp
 ·have hx' : (l.res ++ [(a, b)])[j]? = some x := hx
  show x.1 = ((l.res ++ [(a, b)]).take j).any (·.2) ∧ _
  rcases Nat.lt_or_ge j l.res.length with hj | hj
  ·rw [List.getElem?_append_left hj] at hx'
   rw [List.take_append_of_le_length (by omega)]
   exact h.each j x hx'
  ·have hlt := (List.getElem?_eq_some_iff.1 hx').1
   simp at hlt
   have hjj : j = l.res.length := by omega
   subst hjj
   rw [List.getElem?_append_right (Nat.le_refl _)] at hx'
   obtain rfl : (a, b) = x := by simpa using hx'
   rw [List.take_append_of_le_length (Nat.le_refl _), List.take_length, ← h.brk]
   exact ⟨ha, hab⟩
theorem ro_same {l m : HLine} (h : l.Ro) (h1 : m.res = l.res) (h2 : m.broken = l.broken) : m.Ro := ⟨by rw [h1, h2]; exact h.brk, by rw [h1]; exact h.each⟩
theorem Eff.ri {e : Eff} {p : HProc} (h : p.Ri) (he : e.rok p) : (e.ap p).Ri := by
 cases e with
 | res j a b =>
  intro l hl
  have hl : l ∈ p.hl.modify j (HLine.fin a b) := hl
  obtain ⟨i, hi⟩ := List.getElem?_of_mem hl
  rw [modify_get] at hi
  split at hi
  ·rename_i e; subst e
   cases hx : p.hl[j]? with
   | none => rw [hx] at hi; cases hi
   | some x =>
    rw [hx] at hi
    obtain rfl := Option.some.inj hi
    have := he x hx
    exact ro_fin (h x (List.mem_of_getElem? hx)) this.1 this.2
  ·exact h l (List.mem_of_getElem? hi)
 | line x =>
  intro l hl
  have hl : l ∈ p.hl ++ [x] := hl
  rcases List.mem_append.1 hl with hl | hl
  ·exact h l hl
  ·obtain rfl := List.mem_singleton.1 hl; exact he
 | tk j =>
  intro l hl
  obtain ⟨y, hy, e | e⟩ := mem_modify (show l ∈ p.hl.modify j HLine.take from hl)
  ·subst e; exact h l hy
  ·subst e; exact ro_same (h y hy) rfl rfl
 | ask k a =>
  intro l hl
  obtain ⟨y, hy, ⟨_, e⟩ | ⟨_, e⟩⟩ := mem_upd (show l ∈ updh k (HLine.asked a) p.hl from hl)
  ·subst e; exact ro_same (h y hy) rfl rfl
  ·subst e; exact h l hy
 | close k =>
  intro l hl
  obtain ⟨y, hy, ⟨_, e⟩ | ⟨_, e⟩⟩ := mem_upd (show l ∈ updh k HLine.shut p.hl from hl)
  ·subst e; exact ro_same (h y hy) rfl rfl
  ·subst e; exact h l hy
 | _ => exact h
theorem HYard.Ri.ap {h : HYard} (hr : h.Ri) {a : Nat × Eff} (ha : a.1 < h.procs.length → a.2.rok (h.pr a.1)) : (h.ap a).Ri := fun t ht => by
 rw [HYard.ap_len] at ht
 by_cases e : t = a.1
 ·subst e; rw [HYard.pr_ap_same ht]; exact Eff.ri (hr _ ht) (ha ht)
 ·rw [HYard.pr_ap_ne e]; exact hr t ht
def Eff.plain : Eff → Bool
 | .res _ _ _ => false
 | .line _ => false
 | _ => true
theorem plain_rok {e : Eff} (h : e.plain = true) (p : HProc) : e.rok p := by cases e <;> first | exact trivial | cases h
theorem HYard.Ri.aps : ∀ {A : Effs} {h : HYard}, h.Ri → (∀ a ∈ A, a.2.plain = true) → (h.aps A).Ri
 | [], _, hr, _ => hr
 | a :: A, _, hr, hA => HYard.Ri.aps (A := A) (hr.ap fun _ => plain_rok (hA a (by simp)) _) fun x hx => hA x (by simp [hx])
section
variable {h : HYard}
end
/-! ## The requests that were put -/
abbrev Logd := Nat × Key × Int
def logOf (t : Nat) (k : Key) (log : List Logd) : List Int := (log.filter fun x => x.1 == t && x.2.1 == k).map (·.2.2)
structure HYard.Lg (h : HYard) (log : List Logd) : Prop where
 all : ∀ t, t < h.procs.length → ∀ l ∈ (h.pr t).hl, logOf t l.key log = l.all.map (·.1)
 key : ∀ x ∈ log, x.1 < h.procs.length ∧ x.2.1 ∈ (h.pr x.1).hl.map HLine.key
def moreLog (n : Nat) (q : Option Logd) : List Logd := (List.range n).flatMap fun t => (askedT t q).map fun x => (t, x)
section
variable {h : HYard}
end
/-! ## What one sees of it in a step -/
def wasIn (ls : List Line) (k : Key) : Nat := ls.foldl (fun w l => if l.key = k then l.asks.length else w) 0
def grownE (y z : Yard) (t : Nat) : List (Key × Int) := (z.pr t).lines.filterMap fun l => if wasIn (y.pr t).lines l.key < l.asks.length then some (l.key, (l.asks.getLastD (0, false)).1) else none
theorem was_fold {k : Key} : ∀ {ls : List Line} {w : Nat}, (∀ l ∈ ls, l.key ≠ k) → ls.foldl (fun w l => if l.key = k then l.asks.length else w) w = w
 | [], _, _ => rfl
 | l :: ls, w, h => by
  rw [List.foldl_cons, if_neg (h l (by simp))]
  exact was_fold fun x hx => h x (by simp [hx])
theorem was_none {ls : List Line} {k : Key} (h : ∀ l ∈ ls, l.key ≠ k) : wasIn ls k = 0 := was_fold h
theorem was_some {ls : List Line} {l : Line} (hnd : (ls.map Line.key).Nodup) (hl : l ∈ ls) : wasIn ls l.key = l.asks.length := by
 unfold wasIn
 obtain ⟨a, b, rfl⟩ := List.append_of_mem hl
 rw [List.foldl_append, List.foldl_cons, if_pos rfl, was_fold]
 intro x hx e
 rw [List.map_append, List.map_cons, List.nodup_append] at hnd
 have := (List.nodup_cons.1 hnd.2.1).1
 exact this (by rw [← e]; exact List.mem_map.2 ⟨x, hx, rfl⟩)
section
variable {h : HYard}
theorem HInv.asked_open (H : HInv h) {i t : Nat} (hi : i < h.procs.length) (hg : (h.pr i).goes = true) {x : Key × Int} (hx : x ∈ askedT t (h.asked i)) : ∀ l ∈ (h.pr t).hl, l.key = x.1 → l.closed = false := by
 rw [← step_news] at hx
 unfold newsT at hx
 rw [List.mem_flatMap] at hx
 obtain ⟨a, ha, hx⟩ := hx
 split at hx
 ·rename_i e; subst e
  obtain ⟨h1, h2⟩ := H.step_ef hi hg
  have ef := h1 a ha
  obtain ⟨s, f⟩ := a
  intro l hl hk
  cases f with
  | ask k y =>
   have : x = (k, y.1) := by simpa [Eff.news] using hx
   subst this
   exact (ef.ask k y rfl).2 l hl hk
  | line y =>
   obtain ⟨z, _, rfl⟩ := List.mem_map.1 (show x ∈ y.all.map fun a => (y.key, a.1) from hx)
   have : y.key ∉ (h.pr s).hl.map HLine.key := ef.ok
   exact absurd (List.mem_map.2 ⟨l, hl, hk⟩) this
  | _ => simp [Eff.news] at hx
 ·simp at hx
theorem now_nodup {p : HProc} (hnd : (p.hl.map HLine.key).Nodup) : (p.now.lines.map Line.key).Nodup := by
 have e : p.now.lines.map Line.key = (p.hl.map HLine.key).drop p.gone := by
  show ((p.hl.drop p.gone).map HLine.now).map Line.key = _
  rw [List.map_map, List.map_drop]; rfl
 rw [e]
 exact hnd.sublist (List.drop_sublist _ _)
theorem filterMap_one {α β : Type} {f : α → Option β} {b : β} : ∀ {l : List α} {i : Nat}, (∀ (j : Nat) x, l[j]? = some x → f x = if j = i then some b else none) → i < l.length → l.filterMap f = [b]
 | x :: l, 0, h, _ => by
  have h0 := h 0 x rfl
  rw [if_pos rfl] at h0
  have hr : l.filterMap f = [] := by
   rw [List.filterMap_eq_nil_iff]
   intro y hy
   obtain ⟨j, hj⟩ := List.getElem?_of_mem hy
   have := h (j + 1) y (by simpa using hj)
   rw [if_neg (by omega)] at this
   exact this
  rw [List.filterMap_cons_some h0, hr]
 | x :: l, i + 1, h, hi => by
  have h0 := h 0 x rfl
  rw [if_neg (by omega)] at h0
  rw [List.filterMap_cons_none h0]
  exact filterMap_one (i := i) (fun j y hj => by
   have := h (j + 1) y (by simpa using hj)
   rw [this]
   by_cases e : j = i
   ·rw [if_pos (by omega), if_pos e]
   ·rw [if_neg (by omega), if_neg e]) (by simpa using hi)
theorem HInv.grown (H : HInv h) {i t : Nat} (hi : i < h.procs.length) (hg : (h.pr i).goes = true) (ht : t < h.procs.length) : grownE h.now (h.step i).now t = askedT t (h.asked i) := by
 have H' := H.step hi hg
 have ht' : t < (h.step i).procs.length := by rw [HYard.step_len]; exact ht
 have ok := H.ok t ht
 have ok' := H'.ok t ht'
 have hnd := now_nodup ok.nd
 have hnd' := ok'.nd
 have hop := fun x hx => H.asked_open (t := t) hi hg (x := x) hx
 unfold grownE
 rw [HYard.now_pr, HYard.now_pr]
 have hidx : ∀ (j : Nat) y, (((h.step i).pr t).now.lines)[j]? = some y → ∃ l', ((h.step i).pr t).hl[((h.step i).pr t).gone + j]? = some l' ∧ y = l'.now := fun j y hj => by
  have hj : ((((h.step i).pr t).hl.drop ((h.step i).pr t).gone).map HLine.now)[j]? = some y := hj
  rw [List.getElem?_map, List.getElem?_drop] at hj
  cases hx : ((h.step i).pr t).hl[((h.step i).pr t).gone + j]? with
  | none => rw [hx] at hj; cases hj
  | some x => rw [hx] at hj; exact ⟨x, rfl, (Option.some.inj hj).symm⟩
 have hmemo : ∀ (j : Nat) l, (h.pr t).gone ≤ j → (h.pr t).hl[j]? = some l → l.now ∈ (h.pr t).now.lines := fun j l hj hl => by
  show l.now ∈ ((h.pr t).hl.drop (h.pr t).gone).map HLine.now
  refine List.mem_map.2 ⟨l, ?_, rfl⟩
  have : ((h.pr t).hl.drop (h.pr t).gone)[j - (h.pr t).gone]? = some l := by rw [List.getElem?_drop, show (h.pr t).gone + (j - (h.pr t).gone) = j by omega]; exact hl
  exact List.mem_of_getElem? this
 have hwas : ∀ (j : Nat) l, (h.pr t).gone ≤ j → (h.pr t).hl[j]? = some l → wasIn (h.pr t).now.lines l.key = l.all.length - l.tk := fun j l hj hl => by
  have := was_some hnd (hmemo j l hj hl)
  have e : l.now.key = l.key := rfl
  rw [e] at this
  rw [this]
  show (l.all.drop l.tk).length = _
  rw [List.length_drop]
 have htk : ∀ (j : Nat) l, (h.pr t).gone ≤ j → (h.pr t).hl[j]? = some l → l.tk ≤ l.all.length := fun j l hj hl => by
  have okl := ok.line j l hl
  by_cases e : j = (h.pr t).gone
  ·exact (okl.cur e).1
  ·have := (okl.later (by omega)).1; omega
 rcases H.step_grow hi hg ht with g | ⟨hn, g⟩
 ·-- busy
  have gg := g.gone
  generalize hN : askedT t (h.asked i) = N at g hop ⊢
  have hN1 : N = [] ∨ ∃ x, N = [x] := by
   rw [← hN]
   unfold askedT
   split
   ·exact .inl rfl
   ·split
    ·exact .inr ⟨_, rfl⟩
    ·exact .inl rfl
  have each : ∀ (j : Nat) y, (((h.step i).pr t).now.lines)[j]? = some y → (if wasIn (h.pr t).now.lines y.key < y.asks.length then some (y.key, (y.asks.getLastD (0, false)).1) else none) = (match N with | [] => none | x :: _ => if y.key = x.1 then some x else none) := fun j y hj => by
   obtain ⟨l', hl', rfl⟩ := hidx j y hj
   have ek : l'.now.key = l'.key := rfl
   have ea : l'.now.asks = l'.all.drop l'.tk := rfl
   rw [ek, ea, List.length_drop]
   obtain ⟨a0, htk0, hw0, hal⟩ : ∃ a0 : List Ask, l'.tk ≤ a0.length ∧ wasIn (h.pr t).now.lines l'.key = a0.length - l'.tk ∧ l'.all.map (·.1) = a0.map (·.1) ++ pick1 l'.key N := by
    rcases Nat.lt_or_ge (((h.step i).pr t).gone + j) (h.pr t).hl.length with hlt | hge
    ·obtain ⟨l1, e1, e2, e3, e4⟩ := g.old _ _ (List.getElem?_eq_getElem hlt)
     rw [hl'] at e1; cases e1
     have hge0 : (h.pr t).gone ≤ ((h.step i).pr t).gone + j := by omega
     refine ⟨((h.pr t).hl[((h.step i).pr t).gone + j]).all, ?_, ?_, by rw [e4, e2]⟩
     ·rw [e3]; exact htk _ _ hge0 (List.getElem?_eq_getElem hlt)
     ·rw [e2, e3]; exact hwas _ _ hge0 (List.getElem?_eq_getElem hlt)
    ·obtain ⟨e1, e2, e3⟩ := g.new _ l' hge hl'
     refine ⟨[], by rw [e1]; exact Nat.le_refl _, ?_, by simpa using e2⟩
     rw [was_none]; · simp
     intro x hx e
     have hx : x ∈ ((h.pr t).hl.drop (h.pr t).gone).map HLine.now := hx
     obtain ⟨q, hq, rfl⟩ := List.mem_map.1 hx
     exact e3 (by rw [← e]; exact List.mem_map.2 ⟨q, List.mem_of_mem_drop hq, rfl⟩)
   have hlen := congrArg List.length hal
   simp only [List.length_map, List.length_append] at hlen
   rw [hw0]
   rcases hN1 with rfl | ⟨x, rfl⟩
   ·have : pick1 l'.key [] = [] := rfl
    rw [this] at hlen
    simp only [List.length_nil] at hlen
    rw [if_neg (by omega)]
   ·simp only
    by_cases hk : l'.key = x.1
    ·have hp1 : pick1 l'.key [x] = [x.2] := by simp [pick1, hk]
     rw [hp1] at hlen hal
     simp only [List.length_cons, List.length_nil] at hlen
     rw [if_pos (by omega), if_pos hk]
     congr 1
     refine Prod.ext hk ?_
     simp only
     obtain ⟨q, hq⟩ : ∃ q, l'.all.getLast? = some q := by
      cases hgl : l'.all.getLast? with
      | none => rw [List.getLast?_eq_none_iff] at hgl; rw [hgl] at hlen; simp at hlen
      | some q => exact ⟨q, rfl⟩
     have hq2 : q.1 = x.2 := by
      have h1 : (l'.all.map (·.1)).getLast? = some q.1 := by rw [List.getLast?_map, hq]; rfl
      rw [hal] at h1
      simp at h1
      exact h1.symm
     have hq3 : (l'.all.drop l'.tk).getLast? = some q := by
      rw [List.getLast?_drop, if_neg (by omega)]; exact hq
     rw [List.getLastD_eq_getLast?, hq3]
     exact hq2
    ·have hp1 : pick1 l'.key [x] = [] := by
      unfold pick1
      have : ¬ x.1 = l'.key := fun e => hk e.symm
      simp [this]
     rw [hp1] at hlen
     simp only [List.length_nil] at hlen
     rw [if_neg (by omega), if_neg hk]
  rcases hN1 with rfl | ⟨x, rfl⟩
  ·rw [List.filterMap_eq_nil_iff]
   intro y hy
   obtain ⟨j, hj⟩ := List.getElem?_of_mem hy
   exact each j y hj
  ·-- the queue of x
   have hx := g.mem x (by simp)
   obtain ⟨lx, hlx, hkx⟩ := List.mem_map.1 hx
   obtain ⟨jx, hjx⟩ := List.getElem?_of_mem hlx
   have hgx : ((h.step i).pr t).gone ≤ jx := by
    rw [gg]
    rcases Nat.lt_or_ge jx (h.pr t).gone with hlt | hge
    ·exfalso
     have hlt2 : jx < (h.pr t).hl.length := by have := ok.gl; omega
     obtain ⟨l1, e1, e2, _, _⟩ := g.old jx _ (List.getElem?_eq_getElem hlt2)
     rw [hjx] at e1; cases e1
     have := hop x (by simp) _ (List.getElem_mem hlt2) (by rw [← e2]; exact hkx)
     rw [((ok.line jx _ (List.getElem?_eq_getElem hlt2)).past hlt).1] at this
     cases this
    ·exact hge
   have hlines : (((h.step i).pr t).now.lines).length = ((h.step i).pr t).hl.length - ((h.step i).pr t).gone := by
    show ((((h.step i).pr t).hl.drop ((h.step i).pr t).gone).map HLine.now).length = _
    simp
   refine filterMap_one (i := jx - ((h.step i).pr t).gone) (fun j y hj => ?_) (by
    rw [hlines]
    have := (List.getElem?_eq_some_iff.1 hjx).1
    omega)
   rw [each j y hj]
   simp only
   obtain ⟨l', hl', rfl⟩ := hidx j y hj
   have ek : l'.now.key = l'.key := rfl
   rw [ek]
   by_cases e : j = jx - ((h.step i).pr t).gone
   ·have : ((h.step i).pr t).gone + j = jx := by omega
    rw [this, hjx] at hl'
    cases hl'
    rw [if_pos hkx, if_pos e]
   ·rw [if_neg e, if_neg]
    intro hk
    have := key_at hnd' hl' hjx (hk.trans hkx.symm)
    omega
 ·rw [hn]
  show _ = []
  rw [List.filterMap_eq_nil_iff]
  intro y hy
  obtain ⟨j, hj⟩ := List.getElem?_of_mem hy
  obtain ⟨l', hl', rfl⟩ := hidx j y hj
  have hlt : ((h.step i).pr t).gone + j < (h.pr t).hl.length := by have := (List.getElem?_eq_some_iff.1 hl').1; rw [g.len] at this; exact this
  obtain ⟨l1, e1, e2, e3, e4⟩ := g.old _ _ (List.getElem?_eq_getElem hlt)
  rw [hl'] at e1; cases e1
  have hge0 : (h.pr t).gone ≤ ((h.step i).pr t).gone + j := by have := g.gone; omega
  have hw := hwas _ _ hge0 (List.getElem?_eq_getElem hlt)
  have ek : l'.now.key = l'.key := rfl
  have ea : l'.now.asks = l'.all.drop l'.tk := rfl
  rw [ek, ea, e2, hw, List.length_drop, e4, if_neg]
  omega
end
end Go.Wt
namespace Go.Wt
/-! ## What was done does not become less -/
structure Mn (p p' : HProc) : Prop where
 len : p.hl.length ≤ p'.hl.length
 old : ∀ (j : Nat) l, p.hl[j]? = some l → ∃ l', p'.hl[j]? = some l' ∧ l.all.length ≤ l'.all.length ∧ l.res.length ≤ l'.res.length
theorem Mn.refl (p : HProc) : Mn p p := ⟨Nat.le_refl _, fun j l h => ⟨l, h, Nat.le_refl _, Nat.le_refl _⟩⟩
theorem Mn.trans {p q r : HProc} (a : Mn p q) (b : Mn q r) : Mn p r := ⟨Nat.le_trans a.len b.len, fun j l h => by
 obtain ⟨l1, e1, e2, e3⟩ := a.old j l h
 obtain ⟨l2, f1, f2, f3⟩ := b.old j l1 e1
 exact ⟨l2, f1, Nat.le_trans e2 f2, Nat.le_trans e3 f3⟩⟩
theorem sum_le {α : Type} {f : α → Nat} : ∀ {l l' : List α}, l.length ≤ l'.length → (∀ (j : Nat) x, l[j]? = some x → ∃ y, l'[j]? = some y ∧ f x ≤ f y) → (l.map f).sum ≤ (l'.map f).sum
 | [], _, _, _ => by simp
 | x :: l, [], h, _ => by simp at h
 | x :: l, y :: l', h, hh => by
  have h0 := hh 0 x rfl
  obtain ⟨z, e1, e2⟩ := h0
  have hz : y = z := by simpa using e1
  subst hz
  have := sum_le (f := f) (l := l) (l' := l') (by simpa using h) fun j a hj => by
   have := hh (j + 1) a (by simpa using hj)
   simpa using this
  simp only [List.map_cons, List.sum_cons]
  omega
theorem Mn.did {p p' : HProc} (h : Mn p p') : p.now.did.length ≤ p'.now.did.length := by
 show (p.hl.flatMap HLine.dids).length ≤ (p'.hl.flatMap HLine.dids).length
 rw [List.length_flatMap, List.length_flatMap]
 refine sum_le h.len fun j l hj => ?_
 obtain ⟨l', e1, e2, e3⟩ := h.old j l hj
 refine ⟨l', e1, ?_⟩
 simp only [HLine.dids, List.length_map, List.length_zip]
 omega
theorem Mn.puts {p p' : HProc} (h : Mn p p') : p.now.puts.length ≤ p'.now.puts.length := by
 show (p.hl.map HLine.key).length ≤ (p'.hl.map HLine.key).length
 simpa using h.len
section
variable {o : Nat → List Key}
def HYard.Al (h : HYard) (B : Nat) : Prop := ∀ t, t < h.procs.length → ∀ l ∈ (h.pr t).hl, l.all.length ≤ B
end
end Go.Wt
namespace Go.Wt
def Shape (n t : Nat) : Option Nat → List Move → Prop
 | none, [] => True
 | some _, [] => False
 | none, m :: r => (m.1 = 1 ∧ ∃ s : Nat, m.2.1 = s ∧ t < s ∧ s < n ∧ Shape n t (some s) r) ∨ (m.1 = 5 ∧ ∃ s a : Nat, m.2.1 = s ∧ t < s ∧ s < n ∧ m.2.2 = a ∧ a % n = s ∧ Shape n t none r)
 | some s, m :: r => ((m.1 = 3 ∨ m.1 = 4) ∧ m.2.1 = s ∧ (∃ a : Nat, m.2.2 = a ∧ a % n = s) ∧ Shape n t (some s) r) ∨ (m.1 = 2 ∧ Shape n t none r)
def HoldsAt (t : Nat) (H : List Hold) : Option Nat → Prop
 | none => H = []
 | some s => t < s ∧ ∃ k, H = [((s : Int), k, false)]
structure Nr (h : HYard) : Prop where
 jobs : ∀ (j : Nat) l, h.jobs[j]? = some l → Shape h.procs.length (j % h.procs.length) none l
 ask : ∀ t, t < h.procs.length → ∀ l ∈ (h.pr t).hl, ∀ a ∈ l.all, a.1.toNat % h.procs.length = t
 at_ : ∀ t, t < h.procs.length → 0 ≤ (h.pr t).job → ∃ o, Shape h.procs.length t o ((h.jobs.getD (h.pr t).job.toNat []).drop (h.pr t).pc.toNat) ∧ HoldsAt t (h.pr t).holds o
 wait : ∀ t, t < h.procs.length → 0 ≤ (h.pr t).waits → ∃ k, (h.pr t).holds = [((h.pr t).waits, k, false)]
 res : ∀ t, t < h.procs.length → ∀ l ∈ (h.pr t).hl, l.broken = false ∧ ∀ x ∈ l.res, x = (false, false)
 ao : ∀ t, t < h.procs.length → ∀ (j : Nat) l, (h.pr t).gone ≤ j → (h.pr t).hl[j]? = some l → ((∃ a ∈ l.all.drop l.tk, a.2 = true) ∨ (j = (h.pr t).gone ∧ (h.pr t).waited = true)) → l.closed = false
structure HProc.Nr (p : HProc) (t n : Nat) (jobs : List (List Move)) : Prop where
 ask : ∀ l ∈ p.hl, ∀ a ∈ l.all, a.1.toNat % n = t
 at_ : 0 ≤ p.job → ∃ o, Shape n t o ((jobs.getD p.job.toNat []).drop p.pc.toNat) ∧ HoldsAt t p.holds o
 wait : 0 ≤ p.waits → ∃ k, p.holds = [(p.waits, k, false)]
 res : ∀ l ∈ p.hl, l.broken = false ∧ ∀ x ∈ l.res, x = (false, false)
 ao : ∀ (j : Nat) l, p.gone ≤ j → p.hl[j]? = some l → ((∃ a ∈ l.all.drop l.tk, a.2 = true) ∨ (j = p.gone ∧ p.waited = true)) → l.closed = false
theorem nr_iff {h : HYard} : Nr h ↔ (∀ (j : Nat) l, h.jobs[j]? = some l → Shape h.procs.length (j % h.procs.length) none l) ∧ ∀ t, t < h.procs.length → (h.pr t).Nr t h.procs.length h.jobs :=
 ⟨fun N => ⟨N.jobs, fun t ht => ⟨N.ask t ht, N.at_ t ht, N.wait t ht, N.res t ht, N.ao t ht⟩⟩, fun N => ⟨N.1, fun t ht => (N.2 t ht).ask, fun t ht => (N.2 t ht).at_, fun t ht => (N.2 t ht).wait, fun t ht => (N.2 t ht).res, fun t ht => (N.2 t ht).ao⟩⟩
theorem Nr.ap {h : HYard} (N : Nr h) {a : Nat × Eff} (ha : a.1 < h.procs.length → (a.2.ap (h.pr a.1)).Nr a.1 h.procs.length h.jobs) : Nr (h.ap a) := by
 rw [nr_iff] at N ⊢
 refine ⟨by rw [HYard.ap_len]; exact N.1, fun t ht => ?_⟩
 rw [HYard.ap_len] at ht ⊢
 show ((h.ap a).pr t).Nr t h.procs.length h.jobs
 by_cases e : t = a.1
 ·subst e; rw [HYard.pr_ap_same ht]; exact ha ht
 ·rw [HYard.pr_ap_ne e]; exact N.2 t ht
section
variable {p : HProc} {t n : Nat} {jobs : List (List Move)}
theorem HProc.Nr.line (N : p.Nr t n jobs) (hg : p.waited = true → p.gone < p.hl.length) {l : HLine} (h1 : ∀ a ∈ l.all, a.1.toNat % n = t ∧ a.2 = false) (h3 : l.res = []) (h4 : l.broken = false) : ((Eff.line l).ap p).Nr t n jobs := by
 refine ⟨fun x hx a ha => ?_, N.at_, N.wait, fun x hx => ?_, fun j x hj hx hc => ?_⟩
 ·rcases List.mem_append.1 (show x ∈ p.hl ++ [l] from hx) with hx | hx
  ·exact N.ask x hx a ha
  ·obtain rfl := List.mem_singleton.1 hx; exact (h1 a ha).1
 ·rcases List.mem_append.1 (show x ∈ p.hl ++ [l] from hx) with hx | hx
  ·exact N.res x hx
  ·obtain rfl := List.mem_singleton.1 hx; exact ⟨h4, fun y hy => by rw [h3] at hy; simp at hy⟩
 ·have hx : (p.hl ++ [l])[j]? = some x := hx
  rcases Nat.lt_or_ge j p.hl.length with hlt | hge
  ·rw [List.getElem?_append_left hlt] at hx
   exact N.ao j x hj hx hc
  ·have hl := (List.getElem?_eq_some_iff.1 hx).1
   simp at hl
   rw [List.getElem?_append_right hge, show j - p.hl.length = 0 by omega] at hx
   obtain rfl : l = x := by simpa using hx
   exfalso
   rcases hc with ⟨a, ha, hat⟩ | ⟨hj2, hw⟩
   ·rw [(h1 a (List.mem_of_mem_drop ha)).2] at hat; cases hat
   ·have := hg hw
    have hj2 : j = p.gone := hj2
    omega
theorem HProc.Nr.ask' (N : p.Nr t n jobs) {k : Key} {a : Ask} (h1 : a.1.toNat % n = t) (h2 : a.2 = true → ∀ l ∈ p.hl, l.key = k → l.closed = false) : ((Eff.ask k a).ap p).Nr t n jobs := by
 refine ⟨fun x hx b hb => ?_, N.at_, N.wait, fun x hx => ?_, fun j x hj hx hc => ?_⟩
 ·obtain ⟨y, hy, ⟨_, rfl⟩ | ⟨_, rfl⟩⟩ := mem_upd (show x ∈ updh k (HLine.asked a) p.hl from hx)
  ·rcases List.mem_append.1 (show b ∈ y.all ++ [a] from hb) with hb | hb
   ·exact N.ask y hy b hb
   ·obtain rfl := List.mem_singleton.1 hb; exact h1
  ·exact N.ask x hy b hb
 ·obtain ⟨y, hy, ⟨_, rfl⟩ | ⟨_, rfl⟩⟩ := mem_upd (show x ∈ updh k (HLine.asked a) p.hl from hx)
  ·exact N.res y hy
  ·exact N.res x hy
 ·have hx : (updh k (HLine.asked a) p.hl)[j]? = some x := hx
  rw [updh_get] at hx
  cases hq : p.hl[j]? with
  | none => rw [hq] at hx; cases hx
  | some y =>
   rw [hq] at hx
   obtain rfl := Option.some.inj hx
   dsimp only at hc ⊢
   by_cases hk : y.key = k
   ·rw [if_pos hk] at hc ⊢
    show y.closed = false
    rcases hc with ⟨b, hb, hbt⟩ | hc
    ·have hb : b ∈ (y.all ++ [a]).drop y.tk := hb
     rw [List.drop_append] at hb
     rcases List.mem_append.1 hb with hb | hb
     ·exact N.ao j y hj hq (.inl ⟨b, hb, hbt⟩)
     ·have := List.mem_of_mem_drop hb
      obtain rfl := List.mem_singleton.1 this
      exact h2 hbt y (List.mem_of_getElem? hq) hk
    ·exact N.ao j y hj hq (.inr hc)
   ·rw [if_neg hk] at hc ⊢
    exact N.ao j y hj hq hc
theorem HProc.Nr.close (N : p.Nr t n jobs) {k : Key} (h2 : ∀ (j : Nat) l, p.gone ≤ j → p.hl[j]? = some l → l.key = k → ¬ ((∃ a ∈ l.all.drop l.tk, a.2 = true) ∨ (j = p.gone ∧ p.waited = true))) : ((Eff.close k).ap p).Nr t n jobs := by
 refine ⟨fun x hx b hb => ?_, N.at_, N.wait, fun x hx => ?_, fun j x hj hx hc => ?_⟩
 ·obtain ⟨y, hy, ⟨_, rfl⟩ | ⟨_, rfl⟩⟩ := mem_upd (show x ∈ updh k HLine.shut p.hl from hx)
  ·exact N.ask y hy b hb
  ·exact N.ask x hy b hb
 ·obtain ⟨y, hy, ⟨_, rfl⟩ | ⟨_, rfl⟩⟩ := mem_upd (show x ∈ updh k HLine.shut p.hl from hx)
  ·exact N.res y hy
  ·exact N.res x hy
 ·have hx : (updh k HLine.shut p.hl)[j]? = some x := hx
  rw [updh_get] at hx
  cases hq : p.hl[j]? with
  | none => rw [hq] at hx; cases hx
  | some y =>
   rw [hq] at hx
   obtain rfl := Option.some.inj hx
   dsimp only at hc ⊢
   by_cases hk : y.key = k
   ·rw [if_pos hk] at hc
    exact absurd hc (h2 j y hj hq hk)
   ·rw [if_neg hk] at hc ⊢
    exact N.ao j y hj hq hc
end
section
variable {h : HYard}
theorem le_sum : ∀ {l : List Nat} {x : Nat}, x ∈ l → x ≤ l.sum
 | y :: l, x, h => by
  rw [List.sum_cons]
  rcases List.mem_cons.1 h with rfl | h
  ·omega
  ·have := le_sum h; omega
theorem mv_drop {jobs : List (List Move)} {j pc : Int} (h0 : 0 ≤ pc) (hlt : pc < ((jobs.getD j.toNat []).length : Int)) : (jobs.getD j.toNat []).drop pc.toNat = ((jobs.getD j.toNat []).getD pc.toNat (0, 0, 0)) :: (jobs.getD j.toNat []).drop (pc + 1).toNat := by
 have h1 : pc.toNat < (jobs.getD j.toNat []).length := by omega
 rw [List.drop_eq_getElem_cons h1, List.getD_eq_getElem?_getD (l := jobs.getD j.toNat []), List.getElem?_eq_getElem h1, show (pc + 1).toNat = pc.toNat + 1 by omega]
 rfl
theorem Nr.step (N : Nr h) (H : HInv h) {i : Nat} (hi : i < h.procs.length) (hg : (h.pr i).goes = true) : Nr (h.step i) := by
 have Ni := (nr_iff.1 N).2 i hi
 unfold HYard.step HYard.effs
 rcases goes_cases hg with ⟨hj, hw⟩ | ⟨hj, hgl, hcl⟩
 ·have hw := HProc.waits_neg (H.ok i hi) hw
  have hb := (H.ok i hi).busy hj
  obtain ⟨o, hS, hH⟩ := Ni.at_ hj
  simp only
  rw [if_pos hj]
  by_cases hpc : (h.pr i).pc = (h.jlen (h.pr i).job : Int)
  ·-- the job ends
   rw [if_pos hpc]
   have hd : (h.jobs.getD (h.pr i).job.toNat []).drop (h.pr i).pc.toNat = [] := by
    apply List.drop_of_length_le
    rw [hpc]; unfold HYard.jlen; omega
   rw [hd] at hS
   have hh : (h.pr i).holds = [] := by
    cases o with
    | none => exact hH
    | some s => exact hS.elim
   have e1 : h.effFin i false = [(i, .idle), (i, .res (h.pr i).gone false false)] ++ (if (h.pr i).waited then [((h.pr i).head.key.1.toNat, .waits (-1))] else []) := by
    unfold HYard.effFin HYard.effEnd HYard.effStop
    rw [hh]
    simp [lvs]
   rw [e1, HYard.aps_append]
   have e2 : h.aps [(i, .idle), (i, .res (h.pr i).gone false false)] = h.put i ((Eff.res (h.pr i).gone false false).ap ((Eff.idle).ap (h.pr i))) := HYard.ap_ap hi
   have N1 : Nr (h.aps [(i, .idle), (i, .res (h.pr i).gone false false)]) := by
    rw [e2]
    rw [nr_iff] at N ⊢
    refine ⟨by rw [HYard.put_len]; exact N.1, fun t ht => ?_⟩
    rw [HYard.put_len] at ht ⊢
    show ((h.put i _).pr t).Nr t h.procs.length h.jobs
    rw [HYard.pr_put hi]
    split
    ·rename_i e; subst e
     refine ⟨fun x hx b hb => ?_, fun (h0 : (0 : Int) ≤ -1) => by omega, fun (h0 : 0 ≤ (h.pr t).waits) => by omega, fun x hx => ?_, fun j x hj hx hc => ?_⟩
     ·obtain ⟨y, hy, rfl | rfl⟩ := mem_modify (show x ∈ (h.pr t).hl.modify (h.pr t).gone (HLine.fin false false) from hx)
      ·exact Ni.ask x hy b hb
      ·exact Ni.ask y hy b hb
     ·obtain ⟨y, hy, rfl | rfl⟩ := mem_modify (show x ∈ (h.pr t).hl.modify (h.pr t).gone (HLine.fin false false) from hx)
      ·exact Ni.res x hy
      ·have := Ni.res y hy
       refine ⟨by show (y.broken || false) = false; rw [this.1]; rfl, fun z hz => ?_⟩
       rcases List.mem_append.1 (show z ∈ y.res ++ [(false, false)] from hz) with hz | hz
       ·exact this.2 z hz
       ·exact List.mem_singleton.1 hz
     ·have hx : ((h.pr t).hl.modify (h.pr t).gone (HLine.fin false false))[j]? = some x := hx
      have hc : ∃ a ∈ x.all.drop x.tk, a.2 = true := by
       rcases hc with hc | ⟨_, hc⟩
       ·exact hc
       ·cases hc
      rw [modify_get] at hx
      split at hx
      ·cases hq : (h.pr t).hl[j]? with
       | none => rw [hq] at hx; cases hx
       | some y => rw [hq] at hx; obtain rfl := Option.some.inj hx; exact Ni.ao j y hj hq (.inl hc)
      ·exact Ni.ao j x hj hx (.inl hc)
    ·exact N.2 t ht
   split
   ·rename_i hwt
    obtain ⟨c1, c2, c3, c4, c5⟩ := H.client hi hwt
    refine Nr.ap N1 fun hs => ?_
    have hs' : (h.pr i).head.key.1.toNat < h.procs.length := c1
    have q := (nr_iff.1 N1).2 _ hs
    exact ⟨q.ask, q.at_, fun (h0 : (0 : Int) ≤ -1) => by omega, q.res, q.ao⟩
   ·exact N1
  ·-- a move
   rw [if_neg hpc]
   have hlt : (h.pr i).pc < ((h.jobs.getD (h.pr i).job.toNat []).length : Int) := by
    have := hb.2.2.1
    unfold HYard.jlen at this hpc
    omega
   have hdr := mv_drop hb.2.1 hlt
   have hmv : (h.jobs.getD (h.pr i).job.toNat []).getD (h.pr i).pc.toNat (0, 0, 0) = h.mv (h.pr i).job (h.pr i).pc := rfl
   rw [hdr, hmv] at hS
   have hpe := pc_pr hi ((h.pr i).pc + 1)
   show Nr ((h.ap (i, .pc ((h.pr i).pc + 1))).aps _)
   generalize hgd : h.ap (i, .pc ((h.pr i).pc + 1)) = g at hpe ⊢
   have hgl : g.procs.length = h.procs.length := by rw [← hgd, HYard.ap_len]
   have hgj : g.jobs = h.jobs := by rw [← hgd]; rfl
   have hgi : i < g.procs.length := by omega
   have hgo : ∀ t, t ≠ i → g.pr t = h.pr t := fun t ht => by rw [← hgd]; exact HYard.pr_ap_ne ht
   have fin : ∀ (A : Effs) (q : HProc), (∀ a ∈ A, a.1 < h.procs.length) → ((g.aps A).pr i) = q → (0 ≤ q.job → ∃ o, Shape h.procs.length i o ((h.jobs.getD q.job.toNat []).drop q.pc.toNat) ∧ HoldsAt i q.holds o) → (0 ≤ q.waits → ∃ k, q.holds = [(q.waits, k, false)]) → q.hl = (h.pr i).hl → q.gone = (h.pr i).gone → q.waited = (h.pr i).waited →
     (∀ t, t < h.procs.length → t ≠ i → ((g.aps A).pr t).Nr t h.procs.length h.jobs) → Nr (g.aps A) := fun A q _ hq q1 q2 q3 q4 q5 hoth => by
    rw [nr_iff]
    rw [HYard.aps_len, HYard.aps_jobs, hgj, hgl]
    refine ⟨N.jobs, fun t ht => ?_⟩
    by_cases e : t = i
    ·subst e
     rw [hq]
     exact ⟨by rw [q3]; exact Ni.ask, q1, q2, by rw [q3]; exact Ni.res, by rw [q3, q4, q5]; exact Ni.ao⟩
    ·exact hoth t ht e
   generalize h.mv (h.pr i).job (h.pr i).pc = m at hS
   have hhg : (g.pr i).holds = (h.pr i).holds := by rw [hpe]; rfl
   have hold_some : ∀ (s : Nat) (k : Key), (h.pr i).holds = [((s : Int), k, false)] → (g.pr i).hold s = some ((s : Int), k, false) := fun s k e => by
    unfold HProc.hold; rw [hhg, e]; simp
   have hold_nil : ∀ s, (h.pr i).holds = [] → (g.pr i).hold s = none := fun s e => by
    unfold HProc.hold; rw [hhg, e]; simp
   have hne2 : ∀ s : Nat, i < s → s < h.procs.length → ∀ {e : Eff}, (e.ap (h.pr s)).Nr s h.procs.length h.jobs → ∀ t, t < h.procs.length → t ≠ i → ((g.ap (s, e)).pr t).Nr t h.procs.length h.jobs := fun s his hs e he t ht hti => by
    by_cases e2 : t = s
    ·subst e2; rw [HYard.pr_ap_same (by rw [hgl]; exact ht), hgo t hti]; exact he
    ·rw [HYard.pr_ap_ne e2, hgo t hti]; exact (nr_iff.1 N).2 t ht
   unfold HYard.effDeed
   cases o with
   | none =>
    have hh : (h.pr i).holds = [] := hH
    rcases hS with ⟨m1, s, ms, his, hs, hS⟩ | ⟨m1, s, a, ms, his, hs, ma, has, hS⟩
    ·-- enter
     have hne : ¬ m.2.1 = (i : Int) := by rw [ms]; omega
     simp only [m1, if_true]
     rw [if_neg (by
      rw [not_or]
      refine ⟨?_, hne⟩
      rw [ms, hold_nil _ hh]; simp)]
     rw [ms, Int.toNat_natCast]
     have Ns := (nr_iff.1 N).2 s hs
     have hNs := Ns.line (l := ⟨(g.pr i).next i, [], 0, [], false, false⟩) (fun hw => aw_waited (H.ok s hs) hw) (fun a ha => by simp at ha) rfl rfl
     refine fin _ ((Eff.hold ((s : Int), (g.pr i).next i, false)).ap ((Eff.made).ap (g.pr i))) (fun a ha => ?_) ?_ (fun _ => ⟨some s, ?_, his, (g.pr i).next i, ?_⟩) (fun h0 => ?_) (by rw [hpe]; rfl) (by rw [hpe]; rfl) (by rw [hpe]; rfl) (fun t ht hti => ?_)
     ·simp only [List.mem_cons, List.not_mem_nil, or_false] at ha
      rcases ha with rfl | rfl | rfl <;> assumption
     ·show ((((g.ap (s, _)).ap (i, .made)).ap (i, .hold _)).pr i) = _
      rw [HYard.pr_ap_same (by rw [HYard.ap_len, HYard.ap_len]; exact hgi)]
      simp only
      rw [HYard.pr_ap_same (by rw [HYard.ap_len]; exact hgi), HYard.pr_ap_ne (by simp only; omega)]
     ·rw [hpe]; exact hS
     ·show (g.pr i).holds ++ _ = _
      rw [hhg, hh]; rfl
     ·exfalso
      have h0 : 0 ≤ (g.pr i).waits := h0
      rw [hpe] at h0
      have h0 : 0 ≤ (h.pr i).waits := h0
      omega
     ·show ((((g.ap (s, _)).ap (i, .made)).ap (i, .hold _)).pr t).Nr t _ _
      rw [HYard.pr_ap_ne hti, HYard.pr_ap_ne hti]
      exact hne2 s his hs hNs t ht hti
    ·-- spawn
     rw [if_neg (by omega), if_neg (by omega), if_neg (by omega), if_pos m1, ms, Int.toNat_natCast]
     have Ns := (nr_iff.1 N).2 s hs
     have hNs := Ns.line (l := ⟨(g.pr i).next i, [(m.2.2, false)], 0, [], true, false⟩) (fun hw => aw_waited (H.ok s hs) hw) (fun a ha => by obtain rfl := List.mem_singleton.1 ha; exact ⟨by rw [ma]; simpa using has, rfl⟩) rfl rfl
     refine fin _ ((Eff.made).ap (g.pr i)) (fun a ha => ?_) ?_ (fun _ => ⟨none, ?_, ?_⟩) (fun h0 => ?_) (by rw [hpe]; rfl) (by rw [hpe]; rfl) (by rw [hpe]; rfl) (fun t ht hti => ?_)
     ·simp only [List.mem_cons, List.not_mem_nil, or_false] at ha
      rcases ha with rfl | rfl <;> assumption
     ·show (((g.ap (s, _)).ap (i, .made)).pr i) = _
      rw [HYard.pr_ap_same (by rw [HYard.ap_len]; exact hgi), HYard.pr_ap_ne (by simp only; omega)]
     ·rw [hpe]; exact hS
     ·show (g.pr i).holds = []
      rw [hhg, hh]
     ·exfalso
      have h0 : 0 ≤ (g.pr i).waits := h0
      rw [hpe] at h0
      have h0 : 0 ≤ (h.pr i).waits := h0
      omega
     ·show (((g.ap (s, _)).ap (i, .made)).pr t).Nr t _ _
      rw [HYard.pr_ap_ne hti]
      exact hne2 s his hs hNs t ht hti
   | some s =>
    obtain ⟨his, k, hh⟩ := hH
    have hok := (H.ok i hi).hold ((s : Int), k, false) (by rw [hh]; simp)
    rw [if_neg (by simp)] at hok
    have hs : s < h.procs.length := by have := hok.2.1; simp only at this; omega
    have hkey : k.1 = (i : Int) := hok.2.2.2.1
    have Ns := (nr_iff.1 N).2 s hs
    have hheld := H.held i hi ((s : Int), k, false) (by rw [hh]; simp) rfl
    rcases hS with ⟨m34, ms, ⟨a, ma, has⟩, hS⟩ | ⟨m2, hS⟩
    ·-- ask
     have hne : ¬ m.2.1 = (i : Int) := by rw [ms]; omega
     have hop : ∀ l ∈ (h.pr s).hl, l.key = k → l.closed = false := by
      obtain ⟨j, l, _, hl, hlk, hlc⟩ := hheld
      simp only [Int.toNat_natCast] at hl
      exact fun l2 hl2 hk2 => only_open (H.ok s hs).nd hl hlc l2 hl2 (hk2.trans hlk.symm)
     have hNs := Ns.ask' (k := k) (a := (m.2.2, m.1 == 4)) (by rw [ma]; simpa using has) (fun _ => hop)
     rw [if_neg (by omega), if_neg (by omega), if_pos m34, if_neg hne, ms, hold_some s k hh]
     simp only [Int.toNat_natCast]
     by_cases m4 : m.1 = 4
     ·rw [if_pos m4]
      refine fin _ ((Eff.waits s).ap (g.pr i)) (fun a ha => ?_) ?_ (fun _ => ⟨some s, ?_, his, k, ?_⟩) (fun h0 => ⟨k, ?_⟩) (by rw [hpe]; rfl) (by rw [hpe]; rfl) (by rw [hpe]; rfl) (fun t ht hti => ?_)
      ·simp only [List.mem_cons, List.not_mem_nil, or_false] at ha
       rcases ha with rfl | rfl <;> assumption
      ·show (((g.ap (s, _)).ap (i, .waits s)).pr i) = _
       rw [HYard.pr_ap_same (by rw [HYard.ap_len]; exact hgi), HYard.pr_ap_ne (by simp only; omega)]
      ·rw [hpe]; exact hS
      ·show (g.pr i).holds = _
       rw [hhg, hh]
      ·show (g.pr i).holds = _
       rw [hhg, hh]; rfl
      ·show (((g.ap (s, _)).ap (i, .waits s)).pr t).Nr t _ _
       rw [HYard.pr_ap_ne hti]
       exact hne2 s his hs hNs t ht hti
     ·rw [if_neg m4]
      refine fin _ (g.pr i) (fun a ha => ?_) ?_ (fun _ => ⟨some s, ?_, his, k, ?_⟩) (fun h0 => ?_) (by rw [hpe]; rfl) (by rw [hpe]; rfl) (by rw [hpe]; rfl) (fun t ht hti => ?_)
      ·obtain rfl := List.mem_singleton.1 ha; exact hs
      ·show ((g.ap (s, _)).pr i) = _
       rw [HYard.pr_ap_ne (by simp only; omega)]
      ·rw [hpe]; exact hS
      ·rw [hhg, hh]
      ·exfalso
       rw [hpe] at h0
       have h0 : 0 ≤ (h.pr i).waits := h0
       omega
      ·exact hne2 s his hs hNs t ht hti
    ·-- leave
     have hclo := H.aw i s hi hs
     rw [hw, if_neg (by omega)] at hclo
     have hNs := Ns.close (k := k) (fun j l hj hl hk hc => by
      unfold HProc.aw at hclo
      rcases hc with ⟨a, ha, hat⟩ | ⟨hj2, hwt⟩
      ·have h1 : 0 < l.aw i := by
        unfold HLine.aw
        rw [if_pos (by rw [hk, hkey])]
        exact List.countP_pos_iff.2 ⟨a, ha, hat⟩
       have h2 : l.aw i ≤ (((h.pr s).hl.drop (h.pr s).gone).map (HLine.aw i)).sum := by
        refine le_sum (List.mem_map.2 ⟨l, ?_, rfl⟩)
        have : ((h.pr s).hl.drop (h.pr s).gone)[j - (h.pr s).gone]? = some l := by rw [List.getElem?_drop, show (h.pr s).gone + (j - (h.pr s).gone) = j by omega]; exact hl
        exact List.mem_of_getElem? this
       omega
      ·subst hj2
       have : (h.pr s).head.key.1 = i := by rw [head_get hl, hk, hkey]
       rw [if_pos ⟨hwt, this⟩] at hclo
       omega)
     rw [if_neg (by omega), if_pos m2]
     have hlast : (g.pr i).holds.getLast? = some ((s : Int), k, false) := by rw [hhg, hh]; rfl
     rw [hlast]
     have hdl : (g.pr i).holds.dropLast = [] := by rw [hhg, hh]; rfl
     simp only [clh, hdl, Int.toNat_natCast, Bool.false_eq_true, if_false]
     refine fin _ ((Eff.holds []).ap (g.pr i)) (fun a ha => ?_) ?_ (fun _ => ⟨none, ?_, rfl⟩) (fun h0 => ?_) (by rw [hpe]; rfl) (by rw [hpe]; rfl) (by rw [hpe]; rfl) (fun t ht hti => ?_)
     ·simp only [List.mem_cons, List.not_mem_nil, or_false] at ha
      rcases ha with rfl | rfl <;> assumption
     ·show (((g.ap (i, .holds [])).ap (s, .close k)).pr i) = _
      rw [HYard.pr_ap_ne (by simp only; omega), HYard.pr_ap_same hgi]
     ·rw [hpe]; exact hS
     ·exfalso
      have h0 : 0 ≤ (g.pr i).waits := h0
      rw [hpe] at h0
      have h0 : 0 ≤ (h.pr i).waits := h0
      omega
     ·show (((g.ap (i, .holds [])).ap (s, .close k)).pr t).Nr t _ _
      by_cases e2 : t = s
      ·subst e2; rw [HYard.pr_ap_same (by rw [HYard.ap_len, hgl]; exact ht)]
       simp only
       rw [HYard.pr_ap_ne hti, hgo t hti]; exact hNs
      ·rw [HYard.pr_ap_ne e2, HYard.pr_ap_ne hti, hgo t hti]; exact (nr_iff.1 N).2 t ht
 ·have hid := (H.ok i hi).idle hj
  simp only
  rw [if_neg (by omega)]
  cases ha : (h.pr i).head.all.drop (h.pr i).head.tk with
  | nil =>
   simp only
   refine Nr.ap N fun _ => ?_
   refine ⟨Ni.ask, fun (h0 : 0 ≤ (h.pr i).job) => by omega, Ni.wait, Ni.res, fun j l hj2 hl hc => ?_⟩
   have hj2 : (h.pr i).gone + 1 ≤ j := hj2
   rcases hc with hc | ⟨_, hc⟩
   ·exact Ni.ao j l (by omega) hl (.inl hc)
   ·have hc : (h.pr i).waited = true := hc
    rw [hid.2.2.2.2] at hc; cases hc
  | cons a r =>
   have hgh := get_head hgl
   have hbr := (Ni.res _ (List.mem_of_getElem? hgh)).1
   simp only [hbr, Bool.false_eq_true, if_false]
   have e2 : h.aps [(i, .tk (h.pr i).gone), (i, .job a.1 a.2)] = h.put i ((Eff.job a.1 a.2).ap ((Eff.tk (h.pr i).gone).ap (h.pr i))) := HYard.ap_ap hi
   rw [e2]
   have ham : a ∈ (h.pr i).head.all := List.mem_of_mem_drop (by rw [ha]; simp)
   have hma := Ni.ask _ (List.mem_of_getElem? hgh) a ham
   have hak := ((H.ok i hi).line _ _ hgh).ask a ham
   rw [nr_iff]
   rw [HYard.put_len]
   refine ⟨N.jobs, fun t ht => ?_⟩
   show ((h.put i _).pr t).Nr t h.procs.length h.jobs
   rw [HYard.pr_put hi]
   split
   ·rename_i e; subst e
    refine ⟨fun x hx b hb => ?_, fun _ => ⟨none, ?_, hid.2.2.1⟩, fun (h0 : 0 ≤ (h.pr t).waits) => by omega, fun x hx => ?_, fun j x hj2 hx hc => ?_⟩
    ·obtain ⟨y, hy, rfl | rfl⟩ := mem_modify (show x ∈ (h.pr t).hl.modify (h.pr t).gone HLine.take from hx)
     ·exact Ni.ask x hy b hb
     ·exact Ni.ask y hy b hb
    ·show Shape _ _ _ ((h.jobs.getD a.1.toNat []).drop (0 : Int).toNat)
     have hlt : a.1.toNat < h.jobs.length := by omega
     have := N.jobs a.1.toNat h.jobs[a.1.toNat] (List.getElem?_eq_getElem hlt)
     rw [hma] at this
     rw [List.getD_eq_getElem?_getD, List.getElem?_eq_getElem hlt]
     exact this
    ·obtain ⟨y, hy, rfl | rfl⟩ := mem_modify (show x ∈ (h.pr t).hl.modify (h.pr t).gone HLine.take from hx)
     ·exact Ni.res x hy
     ·exact Ni.res y hy
    ·have hx : ((h.pr t).hl.modify (h.pr t).gone HLine.take)[j]? = some x := hx
     have hj2 : (h.pr t).gone ≤ j := hj2
     rw [modify_get] at hx
     split at hx
     ·rename_i e
      subst e
      rw [hgh] at hx
      obtain rfl := Option.some.inj hx
      show (h.pr t).head.closed = false
      refine Ni.ao _ _ hj2 hgh (.inl ?_)
      rcases hc with ⟨b, hb, hbt⟩ | ⟨_, hc⟩
      ·have hb : b ∈ (h.pr t).head.all.drop ((h.pr t).head.tk + 1) := hb
       rw [← List.drop_drop, ha] at hb
       exact ⟨b, by rw [ha]; exact List.mem_cons_of_mem _ hb, hbt⟩
      ·exact ⟨a, by rw [ha]; simp, hc⟩
     ·rename_i e
      rcases hc with hc | ⟨hc, _⟩
      ·exact Ni.ao j x hj2 hx (.inl hc)
      ·exact absurd hc.symm e
   ·exact (nr_iff.1 N).2 t ht
end
end Go.Wt
