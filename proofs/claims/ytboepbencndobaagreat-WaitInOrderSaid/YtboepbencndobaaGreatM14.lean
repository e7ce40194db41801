/-
  What was done, in blocks: each reservation's requests in their order. No condition.
  WaitInOrder: what was put by a reservation. Conditions: what is read.
  WaitInOrder: each deed of a block. Conditions: what is read.
  WaitInOrder: each request that was put has its block, where all has ended. Conditions: what is read.
  WaitInOrder: for every input the law answers true. Conditions: what is read, that numbers are those of the machine.
  WaitInOrder: for every input the law answers true. Conditions: what is read, that numbers are those of the machine.
  WaitInOrder: for every input the law answers true, and the input reads as it did. No condition.
-/
import Derived.Test.YtboepbencndobaaGreatM13
import Derived.Test.YtboepbencndobaaGreatM8
import Derived.Test.YtboepbencndobaaGreatM2
import Derived.Test.YtboepbencndobaaGreatRows
import Derived.Test.YtboepbencndobaaGreatM12
set_option linter.unusedVariables false
set_option linter.unusedSimpArgs false
namespace Go.Wt
open Go Go.Ck
theorem xt_rowf {c : Cx} {Q : Exit → Act → World → Prop} {e : Env} {h h' : SH} {ex : Exit} {v : Value} {E : TypeId} {sz : Nat} {rows : List (List Value)} (s : Sel h (VR v E sz rows) h') (hc : ∀ a cp, v = .slice a rows.length cp → rows.length ≤ cp → cp ≤ maxLen → Xt c ex Q e h) : Xt c ex Q e h := fun a w hk hh hw => by
  rcases VR.form (hh.sel s).1 with ⟨h1, h2⟩ | ⟨b, o, cp, h1, h2, h3⟩
  · exact hc none 0 (by rw [h1, h2]; rfl) (by rw [h2]; exact Nat.le_refl _) (Nat.zero_le _) a w hk hh hw
  · exact hc _ cp h1 h2 h3 a w hk hh hw
theorem blk_first (acc : List (List Did)) (d : Did) (h : ∀ x t, acc.getLast? = some (x :: t) → x.1 ≠ d.1) (hne : ∀ b ∈ acc, b ≠ []) : blk acc d = acc ++ [[d]] := by
  unfold blk
  cases hl : acc.getLast? with
  | none => rw [List.getLast?_eq_none_iff] at hl; rw [hl]; rfl
  | some b =>
    simp only
    have hb : b ≠ [] := hne b (List.mem_of_getLast? hl)
    cases b with
    | nil => exact absurd rfl hb
    | cons x t => rw [if_neg]; exact h x t hl
theorem blk_more : ∀ {ds : List Did} {ls : List (List Did)} {x : Did} {t : List Did}, (∀ d ∈ ds, d.1 = x.1) → ds.foldl blk (ls ++ [x :: t]) = ls ++ [x :: t ++ ds]
  | [], ls, x, t, _ => by simp
  | d :: ds, ls, x, t, h => by
    rw [List.foldl_cons, blk_snoc, if_pos (h d (by simp)).symm]
    have := blk_more (ds := ds) (ls := ls) (x := x) (t := t ++ [d]) fun e he => h e (by simp [he])
    rw [show (x :: t) ++ [d] = x :: (t ++ [d]) by simp, this]
    simp
theorem blk_all : ∀ {hl : List HLine} {acc : List (List Did)}, (hl.map HLine.key).Nodup → (∀ b ∈ acc, b ≠ []) → (∀ x t, acc.getLast? = some (x :: t) → x.1 ∉ hl.map HLine.key) → (hl.flatMap HLine.dids).foldl blk acc = acc ++ (hl.map HLine.dids).filter fun b => !b.isEmpty
  | [], acc, _, _, _ => by simp
  | l :: hl, acc, hnd, hne, hk => by
    rw [List.map_cons, List.nodup_cons] at hnd
    rw [List.flatMap_cons, List.foldl_append, List.map_cons]
    cases hd : l.dids with
    | nil =>
      rw [List.foldl_nil, List.filter_cons_of_neg (by simp)]
      exact blk_all hnd.2 hne fun x t h hx => hk x t h (List.mem_cons_of_mem _ hx)
    | cons d ds =>
      have hkeys : ∀ e ∈ l.dids, e.1 = l.key := fun e he => (dids_mem he).1
      rw [hd] at hkeys
      have h1 := blk_first acc d (fun x t h e => hk x t h (by rw [e, hkeys d (by simp)]; simp)) hne
      rw [List.foldl_cons, h1, blk_more (x := d) (t := []) fun e he => by rw [hkeys e (by simp [he]), hkeys d (by simp)]]
      rw [List.filter_cons_of_pos (by simp)]
      rw [blk_all hnd.2 (fun b hb => by
        rcases List.mem_append.1 hb with hb | hb
        · exact hne b hb
        · obtain rfl := List.mem_singleton.1 hb; simp) (fun x t h hx => by
        rw [List.getLast?_append] at h
        simp at h
        obtain ⟨rfl, _⟩ := h
        rw [hkeys d (by simp)] at hx
        exact hnd.1 hx)]
      simp
structure BlockOk (t : Nat) (log : List Logd) (ended : Bool) (b : List Did) : Prop where
  ne : b ≠ []
  each : ∀ (i : Nat) d, b[i]? = some d → d.1 = (b.headD ((0, 0), 0, false, false)).1 ∧ (logOf t (b.headD ((0, 0), 0, false, false)).1 log)[i]? = some d.2.1 ∧ d.2.2.1 = (b.take i).any (·.2.2.2) ∧ ¬ (d.2.2.1 = true ∧ d.2.2.2 = true)
  all : ended = true → b.length = (logOf t (b.headD ((0, 0), 0, false, false)).1 log).length
def headKey (b : List Did) : Key := (b.headD ((0, 0), 0, false, false)).1
section
variable {h : HYard} {log : List Logd}
theorem dids_get {l : HLine} {i : Nat} {d : Did} (hd : l.dids[i]? = some d) : ∃ a r, l.all[i]? = some a ∧ l.res[i]? = some r ∧ d = (l.key, a.1, r.1, r.2) := by
  unfold HLine.dids at hd
  rw [List.getElem?_map] at hd
  cases hz : (l.all.zip l.res)[i]? with
  | none => rw [hz] at hd; cases hd
  | some z =>
    rw [hz] at hd
    obtain ⟨a, r⟩ := z
    rw [List.getElem?_zip_eq_some] at hz
    exact ⟨a, r, hz.1, hz.2, (Option.some.inj hd).symm⟩
theorem dids_head {l : HLine} (h : l.dids ≠ []) : headKey l.dids = l.key := by
  unfold headKey
  cases hd : l.dids with
  | nil => exact absurd hd h
  | cons d t => exact (dids_mem (l := l) (by rw [hd]; simp)).1
theorem dids_take {l : HLine} {i : Nat} (hi : i ≤ l.dids.length) : (l.dids.take i).any (·.2.2.2) = (l.res.take i).any (·.2) := by
  have hlen : l.dids.length = min l.all.length l.res.length := by unfold HLine.dids; simp
  have key : ∀ (i : Nat) (A : List Ask) (R : List (Bool × Bool)), i ≤ min A.length R.length → (((A.zip R).map fun x => (l.key, x.1.1, x.2.1, x.2.2)).take i).any (fun d : Did => d.2.2.2) = (R.take i).any (·.2) := by
    intro i
    induction i with
    | zero => intro A R _; simp
    | succ i ih =>
      intro A R h
      cases A with
      | nil => simp at h
      | cons a A => cases R with
        | nil => simp at h
        | cons r R =>
          simp only [List.zip_cons_cons, List.map_cons, List.take_succ_cons, List.any_cons]
          rw [ih A R (by simp at h; omega)]
  exact key i l.all l.res (by omega)
theorem HInv.blocks (H : HInv h) (R : h.Ri) (L : h.Lg log) {t : Nat} (ht : t < h.procs.length) {ended : Bool} (he : ended = true → (h.pr t).gone = (h.pr t).hl.length) :
    let bs := (h.now.pr t).did.foldl blk []
    (∀ b ∈ bs, BlockOk t log ended b) ∧ (bs.map headKey).Nodup ∧ (ended = true → ∀ x ∈ log, x.1 = t → x.2.1 ∈ bs.map headKey) := by
  intro bs
  have ok := H.ok t ht
  have hbs : bs = ((h.pr t).hl.map HLine.dids).filter fun b => !b.isEmpty := by
    show (h.now.pr t).did.foldl blk [] = _
    rw [HYard.now_pr]
    show ((h.pr t).hl.flatMap HLine.dids).foldl blk [] = _
    rw [blk_all ok.nd (by simp) (by simp)]; rfl
  have hmem : ∀ b ∈ bs, ∃ l ∈ (h.pr t).hl, b = l.dids ∧ l.dids ≠ [] := fun b hb => by
    rw [hbs, List.mem_filter] at hb
    obtain ⟨l, hl, rfl⟩ := List.mem_map.1 hb.1
    refine ⟨l, hl, rfl, fun e => ?_⟩
    rw [e] at hb
    simp at hb
  have hpast : ended = true → ∀ l ∈ (h.pr t).hl, l.res.length = l.all.length := fun hE l hl => by
    obtain ⟨j, hj⟩ := List.getElem?_of_mem hl
    have hlt := (List.getElem?_eq_some_iff.1 hj).1
    exact ((ok.line j l hj).past (by have := he hE; omega)).2.2
  refine ⟨fun b hb => ?_, ?_, fun hE x hx hxt => ?_⟩
  · obtain ⟨l, hl, rfl, hne⟩ := hmem b hb
    have hk : (l.dids.headD ((0, 0), 0, false, false)).1 = l.key := dids_head hne
    have hlog := L.all t ht l hl
    refine ⟨hne, fun i d hd => ?_, fun hE => ?_⟩
    · obtain ⟨a, r, h1, h2, rfl⟩ := dids_get hd
      have hlt := (List.getElem?_eq_some_iff.1 hd).1
      have hro := (R t ht l hl).each i r h2
      rw [hk]
      refine ⟨rfl, ?_, ?_, hro.2⟩
      · rw [hlog, List.getElem?_map, h1]; rfl
      · rw [dids_take (by omega)]; exact hro.1
    · rw [hk, hlog, List.length_map]
      have := hpast hE l hl
      unfold HLine.dids
      simp; omega
  · rw [hbs]
    have key : ∀ (hl : List HLine), (hl.map HLine.key).Nodup → ((((hl.map HLine.dids).filter fun b => !b.isEmpty)).map headKey).Nodup ∧ ∀ k ∈ (((hl.map HLine.dids).filter fun b => !b.isEmpty)).map headKey, k ∈ hl.map HLine.key := by
      intro hl
      induction hl with
      | nil => intro _; simp
      | cons l hl ih =>
        intro hnd
        rw [List.map_cons, List.nodup_cons] at hnd
        obtain ⟨i1, i2⟩ := ih hnd.2
        by_cases hne : l.dids = []
        · rw [List.map_cons, hne, List.filter_cons_of_neg (by simp)]
          exact ⟨i1, fun k hk => List.mem_cons_of_mem _ (i2 k hk)⟩
        · have hb : (!l.dids.isEmpty) = true := by cases hd : l.dids with
            | nil => exact absurd hd hne
            | cons _ _ => rfl
          rw [List.map_cons, List.filter_cons_of_pos (p := fun b : List Did => !b.isEmpty) hb, List.map_cons, dids_head hne]
          refine ⟨List.nodup_cons.2 ⟨fun hk => hnd.1 (i2 _ hk), i1⟩, fun k hk => ?_⟩
          rcases List.mem_cons.1 hk with rfl | hk
          · simp
          · exact List.mem_cons_of_mem _ (i2 k hk)
    exact (key _ ok.nd).1
  · have hk := (L.key x hx).2
    rw [hxt] at hk
    obtain ⟨l, hl, hlk⟩ := List.mem_map.1 hk
    have hlog := L.all t ht l hl
    have hpl := hpast hE l hl
    have hne : l.dids ≠ [] := fun e => by
      have h0 : l.all = [] := by
        have : l.dids.length = l.all.length := by unfold HLine.dids; simp; omega
        rw [e] at this
        exact List.eq_nil_of_length_eq_zero this.symm
      rw [h0] at hlog
      have : x.2.2 ∈ logOf t l.key log := by
        unfold logOf
        refine List.mem_map.2 ⟨x, ?_, rfl⟩
        rw [List.mem_filter]
        exact ⟨hx, by simp [hxt, hlk]⟩
      rw [hlog] at this; simp at this
    rw [hbs]
    refine List.mem_map.2 ⟨l.dids, ?_, (dids_head hne).trans hlk⟩
    rw [List.mem_filter]
    refine ⟨List.mem_map.2 ⟨l, hl, rfl⟩, ?_⟩
    cases hd : l.dids with
    | nil => exact absurd hd hne
    | cons _ _ => rfl
end
theorem kept_ri : Kept HYard.Ri := fun _ _ H R hi hg => H.ri_step R hi hg
theorem order_fact {jobs : List (List Move)} {n : Nat} {picks : List Int} {y : Yard} {log : List Logd} (h : playedE jobs n picks = some (y, log)) :
    (endedE y).2 = 0 ∧ ∀ t, t < n → (blocksE y t).2 = 0 ∧ (∀ b ∈ (blocksE y t).1, BlockOk t log (endedE y).1 b) ∧ ((blocksE y t).1.map headKey).Nodup ∧ ((endedE y).1 = true → ∀ x ∈ log, x.1 = t → x.2.1 ∈ (blocksE y t).1.map headKey) := by
  have hL := (played_live h).1
  obtain ⟨hc, m, g, hm, hr, rfl, hlg, hn⟩ := played_reach h
  obtain ⟨HG, R, hl, _⟩ := hr.keep kept_ri (HInv.new hc) HYard.ri_new
  rw [HYard.new_len] at hl
  have hE : endedE g.now = ((List.range g.now.procs.length).all fun i => (g.now.pr i).state == 5, 0) := by unfold endedE; rw [if_pos hL.right]
  refine ⟨by rw [hE], fun t ht => ?_⟩
  have hb0 : blocksE g.now t = ((g.now.pr t).did.foldl blk [], 0) := by
    unfold blocksE
    have h0 : openedE g.now [(t : Int)] = 0 := by
      unfold openedE
      have hw : ([(t : Int)].all fun n => within n 0 ((g.now.procs.length : Int) - 1)) = true := by
        simp only [List.all_cons, List.all_nil, Bool.and_true, within_iff, HYard.now_len]; omega
      rw [if_pos hL.right, hw, if_pos rfl]; rfl
    rw [if_pos h0, Int.toNat_natCast]
  rw [hb0]
  have := HG.blocks R hlg (t := t) (by omega) (ended := (endedE g.now).1) (fun he => by
    rw [hE] at he
    simp only [List.all_eq_true, List.mem_range, HYard.now_len] at he
    have h5 := he t (by omega)
    rw [HYard.now_pr] at h5
    have := HG.idle5 (t := t) (by omega) (by simpa using h5)
    have hlin := this.2.2.2
    have ok := HG.ok t (by omega)
    rcases Nat.lt_or_ge (g.pr t).gone (g.pr t).hl.length with hg | hg
    · rw [now_lines.1 hg] at hlin; cases hlin
    · have := ok.gl; omega)
  exact ⟨rfl, this⟩
theorem play_log : ∀ {f : Nat} {picks : List Int} {y : Yard} {M : Nat} {log : List Logd} {y' : Yard} {log' : List Logd}, Live y M → playE f picks y log = some (y', log') → log'.length ≤ log.length + f * 4800
  | 0, _, _, _, _, _, _, _, h => by cases h
  | f + 1, picks, y, M, log, y', log', hL, h => by
    rw [play_step] at h
    by_cases hne : y.ready = []
    · rw [if_pos hne] at h; cases h; omega
    · rw [if_neg hne] at h
      have hm : playI y picks ∈ y.ready := by
        have h0 : 0 < y.ready.length := List.length_pos_iff.2 hne
        cases picks with
        | nil => exact pick_mem hne h0
        | cons p t => exact pick_mem hne (Nat.mod_lt _ h0)
      have hm' : playI y picks ∈ (List.range y.procs.length).filter fun i => (y.pr i).goes := hm
      rw [List.mem_filter, List.mem_range] at hm'
      split at h
      · rename_i hz
        have hLz := hL.stepE hm'.1 hm'.2 hz
        have h1 := play_log hLz h
        have h2 := grownAll_len (y := y) hLz
        rw [List.length_append] at h1
        omega
      · cases h
theorem played_log {jobs : List (List Move)} {n : Nat} {picks : List Int} {y : Yard} {log : List Logd} (h : playedE jobs n picks = some (y, log)) : log.length ≤ 10000000 := by
  unfold playedE at h
  split at h
  · rename_i hc
    have := play_log (Live.new hc) h
    simp at this
    omega
  · cases h
end Go.Wt
namespace Go.Wt
open Go Go.Ck Go.Proofs Go.Proofs.YtboepbencndobaaGreat Fx
attribute [local irreducible] Go.Ck.Sub St Cd Xt Nx DrL LsW
theorem logOf_snoc (t : Nat) (k : Key) (l : List Logd) (x : Logd) : logOf t k (l ++ [x]) = logOf t k l ++ (if x.1 = t ∧ x.2.1 = k then [x.2.2] else []) := by
  unfold logOf
  rw [List.filter_append, List.map_append]
  congr 1
  by_cases h : x.1 = t ∧ x.2.1 = k
  · rw [if_pos h]; simp [h]
  · rw [if_neg h, List.filter_cons_of_neg (by simpa using h)]; rfl
section
variable {Q : Exit → Act → World → Prop} {w0 : World} {hr : SH} {T : Res} {v kv bv w65 w66 w77 w78 w79 : Value} {log : List Logd} {b : List Did} {t b8 : Nat} {ended : Bool}
set_option maxHeartbeats 2000000 in
set_option maxRecDepth 100000 in
theorem put_c (hb : Row T 5 (eqC dC) bv b) (hne : b ≠ []) (hll : log.length ≤ 10000000)
    (hcont : ∀ pv, pv.oneCell' = true → Xt ⟨Tryz.prog, none, 207, [], w0⟩ .normal Q [(8, .pointer (some ⟨b8, 0, none⟩)), (9, v), (11, .bool ended), (13, .int .i64 (t : Nat)), (16, kv), (18, bv), (19, pv), (65, w65), (66, w66), (77, w77), (78, w78), (79, w79)] (VR pv 3 1 ((logOf t (headKey b) log).map iC) :: VR v 87 4 (log.map gC) :: T :: hr)) :
    Cd ⟨Tryz.prog, none, 207, [], w0⟩ (cdr (cdl (cdr (cdr (cdr (cdr (cdl (cdl (cdr (cdr (cdl (cdl (cdr (cdl (cdr (cdr (cdr (cdr (cdl (cdl (cdr (cdr (cdl (cdl (cdr (cdl (cdr (cdr (cdr (cdr (cdr (cdr (cdr (fbody Tryz.f7)))))))))))))))))))))))))))))))))) Q [(8, .pointer (some ⟨b8, 0, none⟩)), (9, v), (11, .bool ended), (13, .int .i64 (t : Nat)), (16, kv), (18, bv), (19, .slice none 0 0), (65, w65), (66, w66), (77, w77), (78, w78), (79, w79), (101, v), (102, .int .i64 log.length), (103, .int .i64 0)] (VR v 87 4 (log.map gC) :: T :: hr) := by
  refine cd_vw (vw_nil 3 1) (cd_block (cd_lq (σ := Nat × Value) (fun s => [(8, .pointer (some ⟨b8, 0, none⟩)), (9, v), (11, .bool ended), (13, .int .i64 (t : Nat)), (16, kv), (18, bv), (19, s.2), (65, w65), (66, w66), (77, w77), (78, w78), (79, w79), (101, v), (102, .int .i64 log.length), (103, .int .i64 (s.1 : Nat))]) (fun s => VR s.2 3 1 ((logOf t (headKey b) (log.take s.1)).map iC) :: VR v 87 4 (log.map gC) :: T :: hr) (fun s => s.1 ≤ log.length ∧ s.2.oneCell' = true) (fun s => log.length - s.1) (0, .slice none 0 0) ⟨Nat.zero_le _, rfl⟩ ?_))
  rintro ⟨k, pv⟩ ⟨hk, hpv⟩
  simp only at hk hpv
  dsimp only
  refine cS (cR (sV (v_lss rfl rfl) (sN (nT (cS (cC rfl (fun h1 => ?_) (fun h1 => ?_)))))))
  · skip
    have hkl : k < log.length := by have := of_decide_eq_true h1; omega
    have hrow : (log.map gC)[k]? = some (gC log[k]) := by rw [List.getElem?_map, List.getElem?_eq_getElem hkl]; rfl
    have hsucc : logOf t (headKey b) (log.take (k + 1)) = logOf t (headKey b) (log.take k) ++ (if log[k].1 = t ∧ log[k].2.1 = headKey b then [log[k].2.2] else []) := by
      rw [List.take_succ_eq_append_getElem hkl, logOf_snoc]
    generalize log[k] = x at *
    obtain ⟨xs, xk, xj⟩ := x
    obtain ⟨d0, b', rfl⟩ : ∃ d0 b', b = d0 :: b' := by
      cases b with
      | nil => exact absurd rfl hne
      | cons d0 b' => exact ⟨d0, b', rfl⟩
    have hsucc : logOf t d0.1 (log.take (k + 1)) = logOf t d0.1 (log.take k) ++ (if xs = t ∧ xk = d0.1 then [xj] else []) := hsucc
    obtain ⟨c1, c2, c3, cus, hcv, hcus, hcrd, rfl⟩ := hb.at (i := 0) rfl
    have hpl : (logOf t (headKey (d0 :: b')) (log.take k)).length ≤ 10000000 := by
      have h2 : (logOf t (headKey (d0 :: b')) (log.take k)).length ≤ (log.take k).length := by unfold logOf; rw [List.length_map]; exact List.length_filter_le _ _
      rw [List.length_take] at h2; omega
    refine cd_row (v := v) (by repeat (first | exact Sel.here | apply Sel.there)) (fun h0 hr0 => ?_) (fun lb lo lc hle hlc _ => ?_)
    · exfalso
      rw [List.map_eq_nil_iff] at hr0
      rw [hr0] at hkl; simp at hkl
    have hle2 : v = .slice (some ⟨lb, lo, none⟩) log.length lc := by rw [hle, List.length_map]
    subst hle2
    refine cK (xT (cS (cd_block (cS (cR (sV (v_indexAddr (k := k) rfl rfl sl70 rfl hkl rfl) (sV (v_ldn (vs := gC (xs, xk, xj)) rfl ld87 rfl (rds_vr hrow)) ?_)))))))
    refine st_alc al87 fun b21 => ?_
    refine st_stoW rfl rfl sz87 rfl rfl ?_
    refine sN (nK [8, 9, 11, 13, 16, 18, 19, 21, 65, 66, 77, 78, 79, 101, 102, 103] rfl (nT (cS (cd_drawh (ork [(0, 2), (1, 1), (2, 2), (3, 2), (4, 2), (5, 2), (6, 1), (7, 2), (8, 2), (9, 2), (10, 1), (11, 1), (12, 2)] .nil) (fun _ => true) mixed (by kernel_rfl) ?_))))
    refine dV rfl (vF rfl fa87_0 rfl) (dr_v rfl (v_ldy rfl ld3) ?_)
    refine dV rfl (vM rfl) (dV rfl (v_eql rfl rfl) (dV rfl (vM rfl) (dr_cut (k := 8) (d := 119) (v := .bool (((xs : Int) == (t : Int)) && (xk == d0.1))) (fun hcut => bool_want (b := ((xs : Int) == (t : Int))) true (fun hg => ?_) (fun hg => ?_)) ?_)))
    · refine dp_sk rfl rfl rfl hg ?_
      refine dr_sk rfl rfl rfl hg ?_
      refine dp_sk rfl rfl rfl hg ?_
      refine dp_sk rfl rfl rfl hg ?_
      refine dp_sk rfl rfl rfl hg ?_
      refine dr_sk rfl rfl rfl hg ?_
      refine dr_sk rfl rfl rfl hg ?_
      refine dV rfl (vP (bool_ev rfl hg) rfl) ?_
      exact hcut _ (ssub_head (by first | rfl | (rw [hg]; rfl) | simp_all) (uS rfl (uS rfl (uS rfl (uS rfl (uS rfl (uS rfl (uS rfl (ssub_refl)))))))))
    · skip
      refine dp_vg rfl rfl (bG rfl hg) (vF rfl fa87_1 rfl) (dr_vg rfl rfl (bG rfl hg) (v_ldn (vs := kC xk) rfl ld79 rfl (rds_sub (vs := kC xk) rds_pt rfl)) ?_)
      refine dp_vg rfl rfl (bG rfl hg) (vM rfl) (dp_vg rfl rfl (bG rfl hg) (v_indexAddr (k := 0) (congrArg some hcv) rfl sl62 rfl (by simp) rfl) ?_)
      refine dp_vg rfl rfl (bG rfl hg) (vF rfl fa81_0 rfl) (dr_vg rfl rfl (bG rfl hg) (v_ldn (vs := kC d0.1) rfl ld79 rfl (rds_sub hcrd rfl)) ?_)
      refine dr_vg rfl rfl (bG rfl hg) (v_eql_T eq79 rfl rfl) (dV rfl (v_pick_true (bool_ev rfl hg) rfl) ?_)
      exact hcut _ (ssub_head (by first | rfl | (rw [hg]; rfl) | simp_all) (uS rfl (uS rfl (uS rfl (uS rfl (uS rfl (uS rfl (uS rfl (ssub_refl)))))))))
    refine dr_nil (nK [8, 9, 11, 13, 16, 18, 19, 21, 65, 66, 77, 78, 79, 101, 102, 103, 119] rfl (nT (cC rfl (fun h2 => ?_) (fun h2 => ?_))))
    · skip
      have h2' : xs = t ∧ xk = d0.1 := by
        rw [Bool.and_eq_true] at h2
        exact ⟨by have := beq_iff_eq.1 h2.1; omega, by simpa using h2.2⟩
      rw [if_pos h2'] at hsucc
      refine cR (sV (vM rfl) (sV (vF rfl fa87_2 rfl) (sV (v_ldy rfl ld3) ?_)))
      refine st_buildSlice (cells := [.int .i64 xj]) rfl Tryz.underlying43 inf3 rfl rfl (by kernel_rfl) (ltn rfl) fun b123 => ?_
      refine st_app (v := pv) [iC xj] rfl rfl Tryz.underlying43 inf3 rfl (by decide) (by repeat (first | exact Sel.here | apply Sel.there)) (by simp [iC]) rfl (fun j u2 hu2 => at_here (rd_cl (by simpa [iC] using hu2))) (by simp [iC, Value.oneCell']) (by simp; omega) (by simp; omega) (ltn rfl) fun v' hv' _ => ?_
      refine sV (vA rfl) (sN (nK [8, 9, 11, 13, 16, 18, 19, 65, 66, 77, 78, 79, 101, 102, 103] rfl (nx_xt (xB (xT (cR (sV (v_add rfl rfl (by unfold I64 at *; omega)) (sV (vM rfl) (sN (nK [8, 9, 11, 13, 16, 18, 19, 65, 66, 77, 78, 79, 101, 102, 103] rfl (nx_xt (xt_pv (pv_eq (show VR v' 3 1 ((logOf t d0.1 (log.take k)).map iC ++ [iC xj]) = VR v' 3 1 ((logOf t d0.1 (log.take (k + 1))).map iC) by rw [hsucc, List.map_append]; rfl)) ?_))))))))))))
      simp only [List.cons_append, List.nil_append]
      refine xt_aq (k + 1, v') ⟨hkl, hv'⟩ (by show _ - _ < _ - _; omega)
    · skip
      have h2' : ¬ (xs = t ∧ xk = d0.1) := fun h => by
        rw [h.1, h.2] at h2; simp at h2
      rw [if_neg h2', List.append_nil] at hsucc
      refine cK (xB (xT (cR (sV (v_add rfl rfl (by unfold I64 at *; omega)) (sV (vM rfl) (sN (nK [8, 9, 11, 13, 16, 18, 19, 65, 66, 77, 78, 79, 101, 102, 103] rfl (nx_xt (xt_pv (pv_eq (show VR pv 3 1 ((logOf t d0.1 (log.take k)).map iC) = VR pv 3 1 ((logOf t d0.1 (log.take (k + 1))).map iC) by rw [hsucc])) ?_)))))))))
      simp only [List.cons_append, List.nil_append]
      refine xt_aq (k + 1, pv) ⟨hkl, hpv⟩ (by show _ - _ < _ - _; omega)
  · skip
    have hkl : k = log.length := by have : ¬ ((k : Nat) : Int) < (log.length : Int) := of_decide_eq_false h1
                                    omega
    subst hkl
    refine cd_exit (xE (xE (xt_exit_block ?_)))
    have := hcont pv hpv
    rw [List.take_length]
    exact xt_use this
end
end Go.Wt
namespace Go.Wt
open Go Go.Ck Go.Proofs Go.Proofs.YtboepbencndobaaGreat Fx
attribute [local irreducible] Go.Ck.Sub St Cd Xt Nx DrL LsW
section
variable {Q : Exit → Act → World → Prop} {w0 : World} {hr : SH} {T : Res} {v kv bv pv w65 w66 w77 w78 w79 : Value} {log : List Logd} {b : List Did} {t b8 : Nat} {ended : Bool}
set_option maxHeartbeats 2000000 in
set_option maxRecDepth 100000 in
theorem each_c (hb : Row T 5 (eqC dC) bv b) (hbl : b.length ≤ 1000000) (ok : BlockOk t log ended b)
    (hcont : Xt ⟨Tryz.prog, none, 207, [], w0⟩ .normal Q [(8, .pointer (some ⟨b8, 0, none⟩)), (9, v), (11, .bool ended), (13, .int .i64 (t : Nat)), (16, kv), (18, bv), (19, pv), (65, w65), (66, w66), (77, w77), (78, w78), (79, w79)] (VR pv 3 1 ((logOf t (headKey b) log).map iC) :: T :: hr)) :
    Cd ⟨Tryz.prog, none, 207, [], w0⟩ (cdr (cdl (cdr (cdr (cdr (cdr (cdr (cdr (cdl (cdl (cdr (cdr (cdl (cdl (cdr (cdl (cdr (cdr (cdr (cdr (cdl (cdl (cdr (cdr (cdl (cdl (cdr (cdl (cdr (cdr (cdr (cdr (cdr (cdr (cdr (fbody Tryz.f7)))))))))))))))))))))))))))))))))))) Q [(8, .pointer (some ⟨b8, 0, none⟩)), (9, v), (11, .bool ended), (13, .int .i64 (t : Nat)), (16, kv), (18, bv), (19, pv), (22, .bool false), (65, w65), (66, w66), (77, w77), (78, w78), (79, w79), (126, bv), (127, .int .i64 b.length), (128, .int .i64 0)] (VR pv 3 1 ((logOf t (headKey b) log).map iC) :: T :: hr) := by
  refine cd_block (cd_lq (σ := Nat) (fun k => [(8, .pointer (some ⟨b8, 0, none⟩)), (9, v), (11, .bool ended), (13, .int .i64 (t : Nat)), (16, kv), (18, bv), (19, pv), (22, .bool ((b.take k).any (·.2.2.2))), (65, w65), (66, w66), (77, w77), (78, w78), (79, w79), (126, bv), (127, .int .i64 b.length), (128, .int .i64 (k : Nat))]) (fun _ => VR pv 3 1 ((logOf t (headKey b) log).map iC) :: T :: hr) (fun k => k ≤ b.length) (fun k => b.length - k) 0 (Nat.zero_le _) ?_)
  rintro k hk
  refine cS (cR (sV (v_lss rfl rfl) (sN (nT (cS (cC rfl (fun h1 => ?_) (fun h1 => ?_)))))))
  · skip
    have hkl : k < b.length := by have := of_decide_eq_true h1; omega
    have hget : b[k]? = some b[k] := List.getElem?_eq_getElem hkl
    have hstep : (b.take (k + 1)).any (·.2.2.2) = ((b.take k).any (·.2.2.2) || b[k].2.2.2) := by rw [List.take_succ_eq_append_getElem hkl, List.any_append]; simp
    obtain ⟨e1, e2, e3, e4⟩ := ok.each k _ hget
    have hdk : (b.headD ((0, 0), 0, false, false)).1 = headKey b := rfl
    rw [hdk] at e1 e2
    have hb0 : ∃ d0, b[0]? = some d0 ∧ d0.1 = headKey b := by
      cases b with
      | nil => simp at hkl
      | cons d0 b' => exact ⟨d0, rfl, rfl⟩
    obtain ⟨d0, hd0, hd0k⟩ := hb0
    obtain ⟨z1, z2, z3, zus, hzv, hzus, hzrd, rfl⟩ := hb.at hd0
    obtain ⟨c1, c2, c3, cus, hcv, hcus, hcrd, rfl⟩ := hb.at hget
    generalize (b.take k).any (·.2.2.2) = fl at *
    generalize b[k] = d at *
    obtain ⟨dk, dj, dl, df⟩ := d
    simp only at e1 e2 e3 e4 hstep
    have hPk := (List.getElem?_eq_some_iff.1 e2).1
    generalize hP : logOf t (headKey b) log = P at *
    have hrow : (P.map iC)[k]? = some (iC dj) := by rw [List.getElem?_map, e2]; rfl
    have f1 : Value.bool (decide ((P.length : Int) ≤ (k : Int))) = .bool false := by rw [decide_eq_false (by omega)]
    have f2 : Value.bool (dj != dj) = .bool false := by simp
    have f3 : Value.bool (!(dk == d0.1)) = .bool false := by rw [e1, hd0k]; simp
    have f4 : Value.bool (dl != fl) = .bool false := by rw [e3]; simp
    have f5 : dl = true → Value.bool df = .bool false := fun h => by
      cases df with
      | false => rfl
      | true => exact absurd ⟨h, rfl⟩ e4
    refine cd_row (v := pv) (by repeat (first | exact Sel.here | apply Sel.there)) (fun h0 hr0 => ?_) (fun lb lo lc hle hlc _ => ?_)
    · exfalso
      rw [List.map_eq_nil_iff] at hr0
      rw [hr0] at hPk; simp at hPk
    have hle2 : pv = .slice (some ⟨lb, lo, none⟩) P.length lc := by rw [hle, List.length_map]
    subst hle2
    refine cK (xT (cS (cd_block (cS (cR (sV (vM rfl) (sV (v_indexAddr (k := k) (congrArg some hcv) rfl sl62 rfl hkl rfl) (sV (v_ldn rfl ld81 hcus hcrd) ?_))))))))
    refine st_alc al81 fun b24 => ?_
    refine sV (vA rfl) (st_stoW rfl rfl sz81 rfl rfl ?_)
    refine sN (nK [8, 9, 11, 13, 16, 18, 19, 22, 23, 24, 65, 66, 77, 78, 79, 126, 127, 128] rfl (nT (cS (cS (cd_drawh (ork [(0, 2), (1, 2), (2, 2), (3, 2), (4, 2), (5, 2), (6, 2), (7, 2), (8, 1), (9, 2), (10, 1), (11, 2), (12, 2), (13, 2), (14, 2), (15, 1), (16, 2), (17, 2), (18, 2), (19, 1), (20, 1), (21, 2), (22, 2), (23, 2), (24, 1), (25, 2), (26, 1), (27, 2), (28, 2), (29, 2), (30, 1), (31, 2), (32, 2), (33, 1), (34, 2), (35, 2)] .nil) (fun _ => true) mixed (by kernel_rfl) ?_)))))
    refine dV rfl (vM rfl) (dV rfl (vM rfl) (dV rfl (v_len rfl Tryz.underlying43) (dV rfl (v_is f1 (v_geq rfl rfl)) (dV rfl (vM rfl) (dp_vg rfl rfl rfl (vM rfl) (dp_vg rfl rfl rfl (vM rfl) (dp_vg rfl rfl rfl (v_indexAddr (k := k) rfl rfl sl43 rfl hPk rfl) (dr_vg rfl rfl rfl (v_load rfl ld3 (at_there (at_here (rd_vrk (k := 0) (o := lo) (m := k) hrow rfl)))) ?_))))))))
    refine dp_vg rfl rfl rfl (vF rfl fa81_1 rfl) (dr_vg rfl rfl rfl (v_ldy rfl ld3) ?_)
    refine dp_vg rfl rfl rfl (v_is f2 (v_neq rfl rfl)) (dV rfl (vP rfl rfl) (dV rfl (vM rfl) (dp_vg rfl rfl rfl (vF rfl fa81_0 rfl) (dr_vg rfl rfl rfl (v_ldn (vs := kC dk) rfl ld79 rfl (rds_sub (vs := kC dk) rds_pt rfl)) ?_))))
    refine dp_vg rfl rfl rfl (vM rfl) (dp_vg rfl rfl rfl (v_indexAddr (k := 0) (congrArg some hzv) rfl sl62 rfl (by omega) rfl) (dp_vg rfl rfl rfl (vF rfl fa81_0 rfl) (dr_vg rfl rfl rfl (v_ldn (vs := kC d0.1) rfl ld79 rfl (rds_sub hzrd rfl)) ?_)))
    refine dr_vg rfl rfl rfl (v_is f3 (v_neq_T eq79 rfl rfl)) (dV rfl (vP rfl rfl) (dV rfl (vM rfl) (dp_vg rfl rfl rfl (vF rfl fa81_2 rfl) (dr_vg rfl rfl rfl (v_ldy rfl ld4) ?_))))
    refine dp_vg rfl rfl rfl (vM rfl) (dr_vg rfl rfl rfl (v_is f4 (v_neq_bool Tryz.underlying4 rfl rfl)) (dV rfl (vP rfl rfl) (dV rfl (vM rfl) (dp_vg rfl rfl rfl (vF rfl fa81_2 rfl) (dr_vg rfl rfl rfl (v_ldy rfl ld4) ?_)))))
    refine dp_vg rfl rfl rfl (vM rfl) (dr_cut (k := 3) (d := 167) (v := .bool false) (fun hcut => bool_want (b := dl) true (fun hg => ?_) (fun hg => ?_)) ?_)
    · refine dp_sk rfl rfl rfl hg ?_
      refine dr_sk rfl rfl rfl hg ?_
      refine dp_vg rfl rfl rfl (vP (bool_ev rfl hg) rfl) ?_
      exact hcut _ (ssub_head (by first | rfl | (rw [hg]; rfl) | simp_all) (uS rfl (uS rfl (ssub_refl))))
    · skip
      have hdf : df = false := by simpa using f5 hg
      subst hdf
      refine dp_vg rfl rfl (bG rfl hg) (vF rfl fa81_3 rfl) (dr_vg rfl rfl (bG rfl hg) (v_ldy rfl ld4) ?_)
      refine dp_vg rfl rfl rfl (v_pick_true (bool_ev rfl hg) rfl) ?_
      exact hcut _ (ssub_head (by first | rfl | (rw [hg]; rfl) | simp_all) (uS rfl (uS rfl (ssub_refl))))
    refine dV rfl (vP rfl rfl) (dr_nil (nK [8, 9, 11, 13, 16, 18, 19, 22, 24, 65, 66, 77, 78, 79, 126, 127, 128, 168] rfl (nT (cd_false rfl ?_))))
    refine cK (xT (cR (sV (vM rfl) (sV (vM rfl) (st_cut (k := 5) (d := 173) (v := .bool (fl || df)) (fun hcut => bool_want (b := fl) false (fun hg => ?_) (fun hg => ?_)) ?_)))))
    · refine st_sk rfl rfl hg ?_
      refine st_sk rfl rfl hg ?_
      refine sV (v_pick_true (bool_ev rfl hg) rfl) ?_
      exact hcut _ (ssub_head (by first | rfl | (rw [hg]; rfl) | simp_all) (uS rfl (uS rfl (ssub_refl))))
    · skip
      refine st_vg rfl (bG rfl hg) (vF rfl fa81_3 rfl) (st_vg rfl (bG rfl hg) (v_ldy rfl ld4) ?_)
      refine sV (vP (bool_ev rfl hg) rfl) ?_
      exact hcut _ (ssub_head (by first | rfl | (rw [hg]; rfl) | simp_all) (uS rfl (uS rfl (ssub_refl))))
    refine sV (vA rfl) (sN (nK [8, 9, 11, 13, 16, 18, 19, 22, 65, 66, 77, 78, 79, 126, 127, 128] rfl (nx_xt (xB (xT (cR (sV (v_add rfl rfl (by unfold I64 at *; omega)) (sV (vM rfl) (sN (nK [8, 9, 11, 13, 16, 18, 19, 22, 65, 66, 77, 78, 79, 126, 127, 128] rfl (nx_xt (xt_aq (k + 1) hkl (by show _ - _ < _ - _; omega) (by rw [hstep]; repeat (first | exact trivial | refine ⟨rfl, ?_⟩))))))))))))))
  · skip
    have hkl : k = b.length := by have : ¬ ((k : Nat) : Int) < (b.length : Int) := of_decide_eq_false h1
                                  omega
    refine cd_exit (xE (xE (xt_exit_block ?_)))
    exact xt_use hcont
end
end Go.Wt
namespace Go.Wt
open Go Go.Ck Go.Proofs Go.Proofs.YtboepbencndobaaGreat Fx
attribute [local irreducible] Go.Ck.Sub St Cd Xt Nx DrL LsW
section
variable {Q : Exit → Act → World → Prop} {w0 : World} {hr : SH} {v kv w65 w66 : Value} {log : List Logd} {ks : List Key} {t b8 : Nat} {ended : Bool}
set_option maxHeartbeats 2000000 in
set_option maxRecDepth 100000 in
theorem logged_c (hkl : ks.length ≤ 1000000) (hll : log.length ≤ 10000000) (ok : ended = true → ∀ x ∈ log, x.1 = t → x.2.1 ∈ ks)
    (hcont : Xt ⟨Tryz.prog, none, 207, [], w0⟩ .normal Q [(8, .pointer (some ⟨b8, 0, none⟩)), (9, v), (11, .bool ended), (65, w65), (66, w66)] (VR kv 79 2 (ks.map kC) :: VR v 87 4 (log.map gC) :: hr)) :
    Cd ⟨Tryz.prog, none, 207, [], w0⟩ (cdr (cdr (cdr (cdr (cdr (cdr (cdl (cdl (cdr (cdr (cdl (cdl (cdr (cdl (cdr (cdr (cdr (cdr (cdr (cdr (cdr (fbody Tryz.f7)))))))))))))))))))))) Q [(8, .pointer (some ⟨b8, 0, none⟩)), (9, v), (11, .bool ended), (13, .int .i64 (t : Nat)), (16, kv), (65, w65), (66, w66), (184, v), (185, .int .i64 log.length), (186, .int .i64 0)] (VR kv 79 2 (ks.map kC) :: VR v 87 4 (log.map gC) :: hr) := by
  refine cd_block (cd_lq (σ := Nat) (fun k => [(8, .pointer (some ⟨b8, 0, none⟩)), (9, v), (11, .bool ended), (13, .int .i64 (t : Nat)), (16, kv), (65, w65), (66, w66), (184, v), (185, .int .i64 log.length), (186, .int .i64 (k : Nat))]) (fun _ => VR kv 79 2 (ks.map kC) :: VR v 87 4 (log.map gC) :: hr) (fun k => k ≤ log.length) (fun k => log.length - k) 0 (Nat.zero_le _) ?_)
  rintro k hk
  refine cS (cR (sV (v_lss rfl rfl) (sN (nT (cS (cC rfl (fun h1 => ?_) (fun h1 => ?_)))))))
  · skip
    have hkl : k < log.length := by have := of_decide_eq_true h1; omega
    have hrow : (log.map gC)[k]? = some (gC log[k]) := by rw [List.getElem?_map, List.getElem?_eq_getElem hkl]; rfl
    have hmem : log[k] ∈ log := List.getElem_mem hkl
    generalize log[k] = x at *
    obtain ⟨xs, xk, xj⟩ := x
    refine cd_row (v := v) (by repeat (first | exact Sel.here | apply Sel.there)) (fun h0 hr0 => ?_) (fun lb lo lc hle hlc _ => ?_)
    · exfalso
      rw [List.map_eq_nil_iff] at hr0
      rw [hr0] at hkl; simp at hkl
    have hle2 : v = .slice (some ⟨lb, lo, none⟩) log.length lc := by rw [hle, List.length_map]
    subst hle2
    refine cd_ok (r := VR kv 79 2 (ks.map kC)) (by repeat (first | exact Sel.here | apply Sel.there)) fun hok => ?_
    refine cK (xT (cS (cd_block (cS (cR (sV (v_indexAddr (k := k) rfl rfl sl70 rfl hkl rfl) (sV (v_ldn (vs := gC (xs, xk, xj)) rfl ld87 rfl (rds_vr hrow)) ?_)))))))
    refine st_alc al87 fun b26 => ?_
    refine st_stoW rfl rfl sz87 rfl rfl ?_
    refine sN (nK [8, 9, 11, 13, 16, 26, 65, 66, 184, 185, 186] rfl (nT (cS (cR (sV (vM rfl) (sV (vM rfl) (st_cut (k := 7) (d := 196) (v := .bool (ended && ((xs : Int) == (t : Int)))) (fun hcut => bool_want (b := ended) true (fun hg => ?_) (fun hg => ?_)) ?_)))))))
    · refine st_sk rfl rfl hg ?_
      refine st_sk rfl rfl hg ?_
      refine st_sk rfl rfl hg ?_
      refine st_sk rfl rfl hg ?_
      refine sV (vP (bool_ev rfl hg) rfl) ?_
      exact hcut _ (ssub_head (by first | rfl | (rw [hg]; rfl) | simp_all) (uS rfl (uS rfl (uS rfl (uS rfl (ssub_refl))))))
    · skip
      refine st_vg rfl (bG rfl hg) (vF rfl fa87_0 rfl) (st_vg rfl (bG rfl hg) (v_ldy rfl ld3) ?_)
      refine st_vg rfl (bG rfl hg) (vM rfl) (st_vg rfl (bG rfl hg) (v_eql rfl rfl) (sV (v_pick_true (bool_ev rfl hg) rfl) ?_))
      exact hcut _ (ssub_head (by first | rfl | (rw [hg]; rfl) | simp_all) (uS rfl (uS rfl (uS rfl (uS rfl (ssub_refl))))))
    refine sV (vM rfl) (st_cut (k := 14) (d := 203) (v := .bool false) (fun hcut => bool_want (b := (ended && ((xs : Int) == (t : Int)))) true (fun hg => ?_) (fun hg => ?_)) ?_)
    · refine st_sk rfl rfl hg ?_
      refine st_sk rfl rfl hg ?_
      refine st_sk rfl rfl hg ?_
      refine st_sk rfl rfl hg ?_
      refine st_sk rfl rfl hg ?_
      refine sV (vP (bool_ev rfl hg) rfl) ?_
      exact hcut _ (ssub_head (by first | rfl | (rw [hg]; rfl) | simp_all) (uS rfl (uS rfl (uS rfl (uS rfl (uS rfl (ssub_refl)))))))
    · skip
      have hmk : xk ∈ ks := by
        rw [Bool.and_eq_true] at hg
        exact ok hg.1 _ hmem (by have := beq_iff_eq.1 hg.2; simp only; omega)
      have hc : ks.contains xk = true := by simpa using hmk
      refine st_vg rfl (bG rfl hg) (vM rfl) (st_vg rfl (bG rfl hg) (vF rfl fa87_1 rfl) (st_vg rfl (bG rfl hg) (v_ldn (vs := kC xk) rfl ld79 rfl (rds_sub (vs := kC xk) rds_pt rfl)) ?_))
      refine st_clrg rfl (bG rfl hg) rfl rfl en35 rfl (contk_ct (S := VR kv 79 2 (ks.map kC)) (vr_rowC hok) (by omega)) ?_
      rw [hc]
      refine st_vg rfl (bG rfl hg) (v_not rfl) (sV (v_pick_true (bool_ev rfl hg) rfl) ?_)
      exact hcut _ (ssub_head (by first | rfl | (rw [hg]; rfl) | simp_all) (uS rfl (uS rfl (uS rfl (uS rfl (uS rfl (ssub_refl)))))))
    refine sN (nK [8, 9, 11, 13, 16, 65, 66, 184, 185, 186, 203] rfl (nT (cd_false rfl ?_)))
    refine cK (xB (xT (cR (sV (v_add rfl rfl (by unfold I64 at *; omega)) (sV (vM rfl) (sN (nK [8, 9, 11, 13, 16, 65, 66, 184, 185, 186] rfl (nx_xt ?_))))))))
    refine xt_aq (k + 1) hkl (by show _ - _ < _ - _; omega)
  · skip
    have hkl : k = log.length := by have : ¬ ((k : Nat) : Int) < (log.length : Int) := of_decide_eq_false h1
                                    omega
    refine cd_exit (xE (xE (xt_exit_block ?_)))
    exact xt_use hcont
end
end Go.Wt
namespace Go.Wt
open Go Go.Ck Go.Proofs Go.Proofs.YtboepbencndobaaGreat Fx
attribute [local irreducible] Go.Ck.Sub St Cd Xt Nx DrL LsW
section
variable {Q : Exit → Act → World → Prop} {w0 : World} {hr : SH} {T : Res} {v w65 w66 bsv : Value} {log : List Logd} {bs : List (List Did)} {t b8 : Nat} {ended : Bool}
set_option maxHeartbeats 4000000 in
set_option maxRecDepth 100000 in
theorem blocks_c (hB : Row T 1 (nR T 5 dC) bsv bs) (hbl : bs.length ≤ 1000000) (hbl2 : ∀ b ∈ bs, b.length ≤ 1000000) (hll : log.length ≤ 10000000) (ok : ∀ b ∈ bs, BlockOk t log ended b) (hnd : (bs.map headKey).Nodup)
    (hcont : ∀ kv, kv.oneCell' = true → Xt ⟨Tryz.prog, none, 207, [], w0⟩ .normal Q [(8, .pointer (some ⟨b8, 0, none⟩)), (9, v), (11, .bool ended), (13, .int .i64 (t : Nat)), (16, kv), (65, w65), (66, w66)] (VR kv 79 2 ((bs.map headKey).map kC) :: VR v 87 4 (log.map gC) :: T :: hr)) :
    Cd ⟨Tryz.prog, none, 207, [], w0⟩ (cdr (cdl (cdr (cdr (cdr (cdr (cdl (cdl (cdr (cdr (cdl (cdl (cdr (cdl (cdr (cdr (cdr (cdr (cdr (cdr (cdr (fbody Tryz.f7)))))))))))))))))))))) Q [(8, .pointer (some ⟨b8, 0, none⟩)), (9, v), (11, .bool ended), (13, .int .i64 (t : Nat)), (16, .slice none 0 0), (65, w65), (66, w66), (77, bsv), (78, .int .i64 bs.length), (79, .int .i64 0)] (VR v 87 4 (log.map gC) :: T :: hr) := by
  refine cd_rowf (v := v) .here (fun va vc hve _ _ => ?_)
  rw [List.length_map] at hve
  subst hve
  refine cd_vw (vw_nil 79 2) (cd_block (cd_lq (σ := Nat × Value) (fun s => [(8, .pointer (some ⟨b8, 0, none⟩)), (9, .slice va log.length vc), (11, .bool ended), (13, .int .i64 (t : Nat)), (16, s.2), (65, w65), (66, w66), (77, bsv), (78, .int .i64 bs.length), (79, .int .i64 (s.1 : Nat))]) (fun s => VR s.2 79 2 (((bs.take s.1).map headKey).map kC) :: VR (.slice va log.length vc) 87 4 (log.map gC) :: T :: hr) (fun s => s.1 ≤ bs.length ∧ s.2.oneCell' = true) (fun s => bs.length - s.1) (0, .slice none 0 0) ⟨Nat.zero_le _, rfl⟩ ?_))
  rintro ⟨k, kv⟩ ⟨hk, hkv⟩
  simp only at hk hkv
  dsimp only
  refine cS (cR (sV (v_lss rfl rfl) (sN (nT (cS (cC rfl (fun h1 => ?_) (fun h1 => ?_)))))))
  · skip
    have hkl : k < bs.length := by have := of_decide_eq_true h1; omega
    obtain ⟨c1, c2, c3, cu, hcv, hcrd, cv, hcu, hA⟩ := hB.at1 (List.getElem?_eq_getElem hkl)
    simp only [List.cons.injEq, and_true] at hcu
    subst hcu
    have hbok := ok _ (List.getElem_mem hkl)
    have hbl3 := hbl2 _ (List.getElem_mem hkl)
    have hkeys : (bs.take (k + 1)).map headKey = (bs.take k).map headKey ++ [headKey bs[k]] := by rw [List.take_succ_eq_append_getElem hkl, List.map_append]; rfl
    have hnot : ((bs.take k).map headKey).contains (headKey bs[k]) = false := by
      rw [Bool.eq_false_iff]
      intro hc
      have hm : headKey bs[k] ∈ (bs.take k).map headKey := by simpa using hc
      have h2 : (bs.map headKey).take (k + 1) = (bs.take k).map headKey ++ [headKey bs[k]] := by rw [← List.map_take, hkeys]
      have h3 := (List.take_sublist (k + 1) (bs.map headKey)).nodup hnd
      rw [h2, List.nodup_append] at h3
      exact h3.2.2 _ hm _ (by simp) rfl
    have hkll : ((bs.take k).map headKey).length ≤ 1000000 := by rw [List.length_map, List.length_take]; omega
    generalize hKS : (bs.take k).map headKey = ks at *
    generalize bs[k] = b at *
    have hne := hbok.ne
    obtain ⟨aa, ac, rfl, _⟩ := id hA
    have hb0 : ∃ d0, b[0]? = some d0 ∧ d0.1 = headKey b := by
      cases b with
      | nil => exact absurd rfl hne
      | cons d0 b' => exact ⟨d0, rfl, rfl⟩
    obtain ⟨d0, hd0, hd0k⟩ := hb0
    have hb1 := (List.getElem?_eq_some_iff.1 hd0).1
    obtain ⟨z1, z2, z3, zus, hzv, hzus, hzrd, rfl⟩ := hA.at hd0
    have f1 : Value.bool ((b.length : Int) == 0) = .bool false := by
      have : ((b.length : Int) == 0) = false := by rw [beq_eq_false_iff_ne]; omega
      rw [this]
    refine cd_ok (r := VR kv 79 2 (ks.map kC)) (by repeat (first | exact Sel.here | apply Sel.there)) fun hok => ?_
    refine cK (xT (cS (cd_block (cS (cR (sV (v_indexAddr (k := k) (congrArg some hcv) rfl sl54 rfl hkl rfl) (sV (v_ldy rfl ld62) ?_)))))))
    refine sV (vA rfl) (sN (nK [8, 9, 11, 13, 16, 18, 65, 66, 77, 78, 79] rfl (nT (cS (cS (cR (sV (vM rfl) (sV (v_len rfl Tryz.underlying62) (sV (v_is f1 (v_eql rfl rfl)) (sV (vM rfl) (st_vg rfl rfl (vM rfl) (st_vg rfl rfl (vM rfl) (st_vg rfl rfl (v_indexAddr (k := 0) (congrArg some hzv) rfl sl62 rfl hb1 rfl) (st_vg rfl rfl (vF rfl fa81_0 rfl) (st_vg rfl rfl (v_ldn (vs := kC d0.1) rfl ld79 rfl (rds_sub hzrd rfl)) ?_)))))))))))))))
    refine st_clrg rfl rfl rfl rfl en35 rfl (contk_ct (S := VR kv 79 2 (ks.map kC)) (vr_rowC hok) hkll) ?_
    rw [hd0k, hnot]
    refine sV (vP rfl rfl) (sN (nK [8, 9, 11, 13, 16, 18, 65, 66, 77, 78, 79, 93] rfl (nT (cd_false rfl ?_))))
    refine cK (xT (cS (cR (sV (vM rfl) (sV (vM rfl) (sV (v_indexAddr (k := 0) (congrArg some hzv) rfl sl62 rfl hb1 rfl) (sV (vF rfl fa81_0 rfl) (sV (v_ldn (vs := kC d0.1) rfl ld79 rfl (rds_sub hzrd rfl)) ?_))))))))
    rw [hd0k]
    refine st_buildSlice (cells := kC (headKey b)) rfl Tryz.underlying74 inf79 rfl rfl (by kernel_rfl) (ltn rfl) fun b99 => ?_
    refine st_app (v := kv) [kC (headKey b)] rfl rfl Tryz.underlying74 inf79 rfl (by decide) (by repeat (first | exact Sel.here | apply Sel.there)) (by simp [kC]) rfl (fun j u2 hu2 => at_here (rd_cl (by simpa using hu2))) (by simp [kC, Value.oneCell']) (by simp; omega) (by simp; omega) (ltn rfl) fun kv' hkv' _ => ?_
    refine sV (vA rfl) (sN (nK [8, 9, 11, 13, 16, 18, 65, 66, 77, 78, 79] rfl (nT (cS (cR (sV (vA rfl) (sN (nT (cS (cS (cR (sV (vM rfl) (sV (v_len rfl Tryz.underlying70) (sV (vM rfl) (sN (nT (cd_use (put_c (T := T) (t := t) (kv := kv') (ended := ended) (b8 := b8) (w65 := w65) (w66 := w66) (w77 := bsv) (w78 := .int .i64 bs.length) (w79 := .int .i64 (k : Nat)) (hr := VR kv' 79 2 (ks.map kC ++ [kC (headKey b)]) :: hr) hA hne hll fun pv hpv => ?_))))))))))))))))))
    refine xT (cS (cR (sV (vA rfl) (sN (nT (cS (cS (cR (sV (vM rfl) (sV (v_len rfl Tryz.underlying62) (sV (vM rfl) (sN (nT (cd_use (each_c (T := T) (t := t) (kv := kv') (ended := ended) (b8 := b8) (w65 := w65) (w66 := w66) (w77 := bsv) (w78 := .int .i64 bs.length) (w79 := .int .i64 (k : Nat)) (log := log) (hr := VR (.slice va log.length vc) 87 4 (log.map gC) :: VR kv' 79 2 (ks.map kC ++ [kC (headKey b)]) :: hr) hA hbl3 hbok ?_)))))))))))))))
    refine xt_rowf (v := pv) .here (fun pa pc hpe _ _ => ?_)
    rw [List.length_map] at hpe
    subst hpe
    refine xT (cS (cR (sV (vM rfl) (sV (vM rfl) (st_cut (k := 8) (d := 182) (v := .bool false) (fun hcut => bool_want (b := ended) true (fun hg => ?_) (fun hg => ?_)) ?_)))))
    · refine st_sk rfl rfl hg ?_
      refine st_sk rfl rfl hg ?_
      refine st_sk rfl rfl hg ?_
      refine st_sk rfl rfl hg ?_
      refine st_sk rfl rfl hg ?_
      refine sV (vP (bool_ev rfl hg) rfl) ?_
      exact hcut _ (ssub_head (by first | rfl | (rw [hg]; rfl) | simp_all) (uS rfl (uS rfl (uS rfl (uS rfl (uS rfl (ssub_refl)))))))
    · skip
      have hlen := hbok.all hg
      have hlen2 : (b.length : Int) = ((logOf t (headKey b) log).length : Int) := by rw [hlen]; rfl
      refine st_vg rfl (bG rfl hg) (vM rfl) (st_vg rfl (bG rfl hg) (v_len rfl Tryz.underlying62) (st_vg rfl (bG rfl hg) (vM rfl) (st_vg rfl (bG rfl hg) (v_len rfl Tryz.underlying43) (st_vg rfl (bG rfl hg) (v_is (show Value.bool ((b.length : Int) != ((logOf t (headKey b) log).length : Int)) = .bool false by rw [hlen2]; simp) (v_neq rfl rfl)) ?_))))
      refine sV (v_pick_true (bool_ev rfl hg) rfl) ?_
      exact hcut _ (ssub_head (by first | rfl | (rw [hg]; rfl) | simp_all) (uS rfl (uS rfl (uS rfl (uS rfl (uS rfl (ssub_refl)))))))
    refine sN (nK [8, 9, 11, 13, 16, 65, 66, 77, 78, 79, 182] rfl (nT (cd_false rfl ?_)))
    refine cK (xB (xT (cR (sV (v_add rfl rfl (by unfold I64 at *; omega)) (sV (vM rfl) (sN (nK [8, 9, 11, 13, 16, 65, 66, 77, 78, 79] rfl (nx_xt (xt_pv (pv_eq (show VR kv' 79 2 (ks.map kC ++ [kC (headKey b)]) = VR kv' 79 2 (((bs.take (k + 1)).map headKey).map kC) by rw [hkeys, List.map_append]; rfl)) ?_)))))))))
    simp only [List.cons_append, List.nil_append]
    refine xt_aq (k + 1, kv') ⟨hkl, hkv'⟩ (by show _ - _ < _ - _; omega)
  · skip
    have hkl : k = bs.length := by have : ¬ ((k : Nat) : Int) < (bs.length : Int) := of_decide_eq_false h1
                                   omega
    subst hkl
    refine cd_exit (xE (xE (xt_exit_block ?_)))
    have := hcont kv hkv
    rw [List.take_length]
    exact xt_use this
end
end Go.Wt
namespace Go.Wt
open Go Go.Ck Go.Proofs Go.Proofs.YtboepbencndobaaGreat Fx
attribute [local irreducible] Go.Ck.Sub St Cd Xt Nx DrL LsW
theorem blocks_len {y : Yard} {M : Nat} (H : Live y M) {t : Nat} (ht : t < y.procs.length) : (blocksE y t).1.length ≤ 1000000 ∧ ∀ b ∈ (blocksE y t).1, b.length ≤ 1000000 := by
  have h4 := (full_false H.nf ht).1
  have key : ∀ (ds : List Did) (acc : List (List Did)), (ds.foldl blk acc).flatten.length = acc.flatten.length + ds.length ∧ (ds.foldl blk acc).length ≤ acc.length + ds.length := by
    intro ds
    induction ds with
    | nil => intro acc; simp
    | cons d ds ih =>
      intro acc
      rw [List.foldl_cons]
      obtain ⟨i1, i2⟩ := ih (blk acc d)
      have hb : (blk acc d).flatten.length = acc.flatten.length + 1 ∧ (blk acc d).length ≤ acc.length + 1 := by
        unfold blk
        cases hl : acc.getLast? with
        | none => rw [List.getLast?_eq_none_iff] at hl; rw [hl]; simp
        | some b =>
          obtain ⟨a0, rfl⟩ : ∃ a0, acc = a0 ++ [b] := ⟨_, dropLast_nodup hl⟩
          simp only
          split
          · rw [List.dropLast_concat]
            simp
            try omega
          · simp
            try omega
      simp only [List.length_cons]
      omega
  have hbE : (blocksE y t).1.flatten.length ≤ 400 ∧ (blocksE y t).1.length ≤ 400 := by
    unfold blocksE
    split
    · have := key (y.pr (t : Int).toNat).did []
      rw [Int.toNat_natCast] at this ⊢
      simp at this ⊢
      omega
    · simp
  refine ⟨by omega, fun b hb => ?_⟩
  have : b.length ≤ (blocksE y t).1.flatten.length := by
    rw [List.length_flatten]
    exact le_sum (List.mem_map.2 ⟨b, hb, rfl⟩)
  omega
section
variable {S : Res}
set_option maxHeartbeats 4000000 in
set_option maxRecDepth 100000 in
theorem waitInOrder_ct {jv pv : Value} {jobs : List (List Move)} {s : Int} {picks : List Int} (hj : Row S 1 (jobR S) jv jobs) (hs : 0 ≤ s ∧ s < 256) (hpk : Row S 1 (eqC iC) pv picks) (hi64 : ∀ x ∈ picks, I64 x) :
    Ct Tryz.prog 7 #[jv, .int .u8 s, pv] [S] fun u h' => u = .bool true ∧ h' = [S] := by
  obtain ⟨pa, pc, hpv, _⟩ := id hpk
  have hpl := hpk.lenle
  unfold maxLen at hpl
  subst hpv
  refine ct_of (n := 207) Tryz.func7 rfl rfl (len rfl) fun hr w0 => ?_
  refine cS (cR (sV (vA rfl) (sN (nT (cS (cS (cR (sV (vM rfl) (st_clr rfl rfl en12 rfl (few_ct hj) ?_)))))))))
  refine sV (v_not rfl) (sV (vM rfl) (st_cut (k := 8) (d := 34) (v := .bool (!(fewE jobs) || decide (200 < (picks.length : Int)))) (fun hcut => bool_want (b := !(fewE jobs)) false (fun hg => ?_) (fun hg => ?_)) ?_))
  · refine st_sk rfl rfl hg ?_
    refine st_sk rfl rfl hg ?_
    refine st_sk rfl rfl hg ?_
    refine sV (v_pick_true (bool_ev rfl hg) rfl) ?_
    exact hcut _ (ssub_head (by first | rfl | (rw [hg]; rfl) | simp_all) (uS rfl (uS rfl (uS rfl (ssub_refl)))))
  · skip
    refine st_vg rfl (bG rfl hg) (vM rfl) (st_vg rfl (bG rfl hg) (v_len rfl Tryz.underlying43) (st_vg rfl (bG rfl hg) (v_gtr rfl rfl) (sV (vP (bool_ev rfl hg) rfl) ?_)))
    exact hcut _ (ssub_head (by first | rfl | (rw [hg]; rfl) | simp_all) (uS rfl (uS rfl (uS rfl (ssub_refl)))))
  refine sN (nK [0, 1, 2, 6, 34] rfl (nT (cC rfl (fun h0 => ?_) (fun h0 => ?_))))
  · skip
    refine cS (cR (st_cl rfl rfl en13 rfl (sanity_ct) ?_))
    rintro u h' ⟨rfl, rfl⟩
    refine sV (vA rfl) (sN (nK [6] rfl (nT (cT (xR (xt_law rfl ?_))))))
    refine Sub.sel (by repeat (first | exact Sel.here | apply Sel.there)) ?_
    repeat apply Sub.cons
    exact Sub.refl _
  · skip
    simp only [Bool.or_eq_false_iff, Bool.not_eq_false', decide_eq_false_iff_not] at h0
    obtain ⟨hfew, hp200⟩ := h0
    have hfit := few_Fits hfew
    have hsb := spN_bd s
    refine cK (xT (cS (cR (sV (vM rfl) (sV (v_conv rfl Tryz.underlying5 Tryz.underlying3 (wrap_small hs)) (sV (v_remu rfl rfl (by decide)) ?_))))))
    refine sV (v_is (congrArg (Value.int .i64) (spN_val hs.1)) (v_add (a := 1) (b := s.tmod 6) rfl rfl (by have := spN_val hs.1; unfold I64 at *; omega))) ?_
    refine sV (vA rfl) (sN (nK [0, 2, 6, 7] rfl (nT (cS (cR (sV (vM rfl) (sV (vM rfl) (sV (vM rfl) ?_))))))))
    generalize spN s = n at *
    have hn12 : n ≤ 12 := by omega
    refine st_cl rfl rfl en33 rfl (played_ct hj hfit hn12 hpk (by omega) hi64) ?_
    rintro u h' ⟨T1, rfl, hu⟩
    cases hpe : playedE jobs n picks with
    | none =>
      rw [hpe] at hu
      obtain ⟨ys1, y1, rfl, hy1⟩ := hu
      obtain ⟨ja1, pa1, rfl, he1, he2⟩ := yardR_cells hy1
      obtain ⟨_, _, heq, hj1, hp1⟩ := id hy1
      simp only [List.cons.injEq, and_true] at heq
      obtain ⟨rfl, rfl⟩ := heq
      obtain ⟨p1a, p1c, rfl, _⟩ := id hp1
      simp only [List.cons_append, List.nil_append]
      refine sV (vM rfl) (sV (v_extract rfl rfl) (sV (v_extract rfl rfl) (sV (v_extract rfl rfl) (st_alc al27 fun b8 => ?_))))
      refine st_stoW rfl rfl sz27 rfl (by simp [he1, he2]) ?_
      refine sV (vA rfl) (sV (vA rfl) (sN (nK [6, 7, 8, 9, 10] rfl (nT (cS (cS (cR (sV (vM rfl) (sV (v_not rfl) (sV (vM rfl) (st_cut (k := 9) (d := 56) (v := .bool (!false || ((y1.procs.length : Int) != (n : Int)))) (fun hcut => bool_want (b := !false) false (fun hg => ?_) (fun hg => ?_)) ?_)))))))))))
      · refine st_sk rfl rfl hg ?_
        refine st_sk rfl rfl hg ?_
        refine st_sk rfl rfl hg ?_
        refine st_sk rfl rfl hg ?_
        refine st_sk rfl rfl hg ?_
        refine sV (v_pick_true (bool_ev rfl hg) rfl) ?_
        exact hcut _ (ssub_head (by first | rfl | (rw [hg]; rfl) | simp_all) (uS rfl (uS rfl (uS rfl (uS rfl (uS rfl (ssub_refl)))))))
      · skip
        refine st_vg rfl (bG rfl hg) (vF rfl fa27_1 rfl) (st_vg rfl (bG rfl hg) (v_ldy rfl ld25) ?_)
        refine st_vg rfl (bG rfl hg) (v_len rfl Tryz.underlying25) (st_vg rfl (bG rfl hg) (vM rfl) (st_vg rfl (bG rfl hg) (v_neq rfl rfl) (sV (vP (bool_ev rfl hg) rfl) ?_)))
        exact hcut _ (ssub_head (by first | rfl | (rw [hg]; rfl) | simp_all) (uS rfl (uS rfl (uS rfl (uS rfl (uS rfl (ssub_refl)))))))
      refine sN (nK [6, 7, 8, 9, 56] rfl (nT (cC rfl (fun h2 => ?_) (fun h2 => ?_))))
      · skip
        refine cS (cR (st_cl rfl rfl en13 rfl (sanity_ct) ?_))
        rintro u h' ⟨rfl, rfl⟩
        simp only [List.nil_append]
        refine sV (vA rfl) (sN (nK [6] rfl (nT (cT (xR (xt_law rfl ?_))))))
        refine Sub.sel (by repeat (first | exact Sel.here | apply Sel.there)) ?_
        repeat apply Sub.cons
        exact Sub.refl _
      · simp at h2
    | some yl =>
      obtain ⟨y, log⟩ := yl
      rw [hpe] at hu
      obtain ⟨ys2, v, T3, rfl, rfl, hy, hv2⟩ := hu
      obtain ⟨hL, hR, hn2, hpn⟩ := played_live hpe
      obtain ⟨hee, hfacts⟩ := order_fact hpe
      have hloglen := played_log hpe
      obtain ⟨ja1, pa1, rfl, he1, he2⟩ := yardR_cells hy
      obtain ⟨_, _, heq, hj1, hp1⟩ := id hy
      simp only [List.cons.injEq, and_true] at heq
      obtain ⟨rfl, rfl⟩ := heq
      obtain ⟨p1a, p1c, rfl, _⟩ := id hp1
      have hni : (y.procs.length : Int) = n := by omega
      simp only [List.cons_append, List.nil_append]
      refine st_pv (pv_unpack (L := [T3, VR v 87 4 (log.map gC)])) ?_
      simp only [List.cons_append, List.nil_append]
      refine sV (vM rfl) (sV (v_extract rfl rfl) (sV (v_extract rfl rfl) (sV (v_extract rfl rfl) (st_alc al27 fun b8 => ?_))))
      refine st_stoW rfl rfl sz27 rfl (by simp [he1, he2]) ?_
      refine sV (vA rfl) (sV (vA rfl) (sN (nK [6, 7, 8, 9, 10] rfl (nT (cS (cS (cR (sV (vM rfl) (sV (v_not rfl) (sV (vM rfl) (st_cut (k := 9) (d := 56) (v := .bool (!true || ((y.procs.length : Int) != (n : Int)))) (fun hcut => bool_want (b := !true) false (fun hg => ?_) (fun hg => ?_)) ?_)))))))))))
      · refine st_sk rfl rfl hg ?_
        refine st_sk rfl rfl hg ?_
        refine st_sk rfl rfl hg ?_
        refine st_sk rfl rfl hg ?_
        refine st_sk rfl rfl hg ?_
        refine sV (v_pick_true (bool_ev rfl hg) rfl) ?_
        exact hcut _ (ssub_head (by first | rfl | (rw [hg]; rfl) | simp_all) (uS rfl (uS rfl (uS rfl (uS rfl (uS rfl (ssub_refl)))))))
      · skip
        refine st_vg rfl (bG rfl hg) (vF rfl fa27_1 rfl) (st_vg rfl (bG rfl hg) (v_ldy rfl ld25) ?_)
        refine st_vg rfl (bG rfl hg) (v_len rfl Tryz.underlying25) (st_vg rfl (bG rfl hg) (vM rfl) (st_vg rfl (bG rfl hg) (v_neq rfl rfl) (sV (vP (bool_ev rfl hg) rfl) ?_)))
        exact hcut _ (ssub_head (by first | rfl | (rw [hg]; rfl) | simp_all) (uS rfl (uS rfl (uS rfl (uS rfl (uS rfl (ssub_refl)))))))
      refine sN (nK [6, 7, 8, 9, 56] rfl (nT (cC rfl (fun h2 => ?_) (fun h2 => ?_))))
      · rw [hni] at h2; simp at h2
      · skip
        refine cK (xT (cS (cR (sV (v_ldn rfl ld27 rfl rds_pt) ?_))))
        refine st_clr rfl rfl en24 rfl (Ended_ct hy (hL.fit (by omega))) ?_
        rw [hee]
        generalize (endedE y).1 = ended at *
        refine sV (vM rfl) (sV (v_extract rfl rfl) (sV (v_extract rfl rfl) (sV (vA rfl) (sV (vA rfl) (sN (nK [6, 7, 8, 9, 11, 12] rfl (nT (cS (cS (cR (sV (vM rfl) (sV (v_neq rfl rfl) (sN (nK [6, 7, 8, 9, 11, 64] rfl (nT (cd_false rfl ?_))))))))))))))))
        refine cK (xT (cS (cS (cR (sV (vM rfl) (sV (vM rfl) (sN (nK [6, 8, 9, 11, 65, 66] rfl (nT (cd_block (cd_lq (σ := Nat) (fun t => [(8, .pointer (some ⟨b8, 0, none⟩)), (9, v), (11, .bool ended), (65, .int .i64 n), (66, .int .i64 (t : Nat))]) (fun _ => VR v 87 4 (log.map gC) :: pt b8 (cl [ja1, .slice p1a y.procs.length p1c] 27) :: T3 :: S :: hr) (fun t => t ≤ n) (fun t => n - t) 0 (Nat.zero_le _) ?_)))))))))))
        rintro t ht
        refine cS (cR (sV (v_lss rfl rfl) (sN (nT (cS (cC rfl (fun h3 => ?_) (fun h3 => ?_)))))))
        · skip
          have htn : t < n := by have := of_decide_eq_true h3; omega
          obtain ⟨f1, f2, f3, f4⟩ := hfacts t htn
          obtain ⟨f5, f6⟩ := blocks_len hL (t := t) (by omega)
          refine cK (xT (cS (cd_block (cS (cR (sV (vM rfl) (sV (vA rfl) (sN (nK [8, 9, 11, 13, 65, 66] rfl (nT (cS (cR (sV (v_ldn rfl ld27 rfl rds_pt) ?_)))))))))))))
          refine sV (vM rfl) (st_cl rfl rfl en26 rfl (Blocks_ct hy (hL.fit (by omega)) t) ?_)
          rintro u h' ⟨T4, rfl, bsv, rfl, hB⟩
          rw [f1]
          generalize (blocksE y t).1 = bs at *
          obtain ⟨ba, bc, rfl, _⟩ := id hB
          simp only [List.cons_append, List.nil_append]
          refine sV (vM rfl) (sV (v_extract rfl rfl) (sV (v_extract rfl rfl) (sV (vA rfl) (sV (vA rfl) (sN (nK [8, 9, 11, 13, 14, 15, 65, 66] rfl (nT (cS (cS (cR (sV (vM rfl) (sV (v_neq rfl rfl) (sN (nK [8, 9, 11, 13, 14, 65, 66, 76] rfl (nT (cd_false rfl ?_))))))))))))))))
          refine cK (xT (cS (cR (sV (vA rfl) (sN (nK [8, 9, 11, 13, 14, 16, 65, 66] rfl (nT (cS (cS (cR (sV (vM rfl) (sV (v_len rfl Tryz.underlying54) (sV (vM rfl) (sN (nK [8, 9, 11, 13, 16, 65, 66, 77, 78, 79] rfl (nT (cd_use (blocks_c (w0 := w0) (T := T4) (v := v) (log := log) (t := t) (ended := ended) (b8 := b8) (w65 := .int .i64 n) (w66 := .int .i64 (t : Nat)) (hr := pt b8 (cl [ja1, .slice p1a y.procs.length p1c] 27) :: T3 :: S :: hr) hB f5 f6 hloglen f2 f3 fun kv hkv => ?_))))))))))))))))))
          refine xt_rowf (v := v) (.there .here) (fun va vc hve _ _ => ?_)
          rw [List.length_map] at hve
          subst hve
          refine xT (cS (cR (sV (vM rfl) (sV (v_len rfl Tryz.underlying70) (sV (vM rfl) (sN (nT (cd_use (logged_c (w0 := w0) (ks := bs.map headKey) (t := t) (ended := ended) (b8 := b8) (w65 := .int .i64 n) (w66 := .int .i64 (t : Nat)) (hr := T4 :: pt b8 (cl [ja1, .slice p1a y.procs.length p1c] 27) :: T3 :: S :: hr) (by rw [List.length_map]; exact f5) hloglen f4 ?_)))))))))
          refine xB (xT (cR (sV (v_add rfl rfl (by unfold I64 at *; omega)) (sV (vM rfl) (sN (nK [8, 9, 11, 65, 66] rfl (nx_xt ?_)))))))
          refine xt_aq (t + 1) htn (by show _ - _ < _ - _; omega)
        · skip
          have htn : t = n := by have : ¬ ((t : Nat) : Int) < n := of_decide_eq_false h3
                                 omega
          refine cd_exit (xE (xE (xt_exit_block (xT (cS (cR (st_cl rfl rfl en13 rfl (sanity_ct) ?_)))))))
          rintro u h' ⟨rfl, rfl⟩
          simp only [List.nil_append]
          refine sV (vA rfl) (sN (nK [6] rfl (nT (cT (xt_law rfl ?_)))))
          refine Sub.sel (by repeat (first | exact Sel.here | apply Sel.there)) ?_
          repeat apply Sub.cons
          exact Sub.refl _
end
end Go.Wt
namespace Go.Proofs.YtboepbencndobaaGreat
open Go Go.RowKit Go.ChangeShapes Go.WideShapes Go.Ck Go.Wt
set_option maxRecDepth 100000 in
theorem waitInOrder_lifted (os : Os) (started : os.Started) (H : Type) (enc : TypeId × Value → H) :
    ReturnsInHanded {} Tryz.checked os 7 .any (Rows.waitInOrderSpec.pre6 enc Tryz.prog Tryz.f7 Rows.waitInOrderRow.domain false) (Rows.waitInOrderSpec.post enc Tryz.prog Tryz.f7 false true false false) := by
  refine returnsInHanded_of_change (C := Tryz.checked) (show ownKnob Tryz.prog.godebug = none by kernel_rfl) started (by kernel_rfl) Tryz.func7
    (ChangeSpec.witness6 (enc := enc) (C := Tryz.checked) false ⟨#[], #[.slice none 0 0, .int .u8 0, .slice none 0 0], []⟩ 8 (by kernel_rfl) (by kernel_rfl) (by kernel_rfl) (by kernel_rfl)) ?_
  intro W base args ds gs before hval0 hW hcnd _
  have hval : ∀ (j : Nat) t v, Tryz.f7.params[j]? = some t → args[j]? = some v → Value.okWide Tryz.prog W .any base t v := hval0
  have hW' := hW
  obtain ⟨p, q, hA0, hV, rfl, hfz, hnd⟩ := hW
  have hA : DataW.TrodAll enc Tryz.prog W 0 (fun _ => true) true Tryz.f7.params.toList args.toList ds p := hA0
  rw [Tryz.params7] at hA hval
  obtain ⟨v0, vs0, d0, ds0, p0, q0, hargs, rfl, rfl, h0, r0⟩ := trodAll_cons hA
  obtain ⟨v1, vs1, d1, ds1, p1, q1, rfl, rfl, rfl, h1, r1⟩ := trodAll_cons r0
  obtain ⟨v2, vs2, d2, ds2, p2, q2, rfl, rfl, rfl, h2, r2⟩ := trodAll_cons r1
  obtain ⟨rfl, rfl, rfl⟩ := trodAll_nil r2
  obtain rfl : args = #[v0, v1, v2] := by cases args; simp_all
  obtain ⟨rfl, rfl⟩ := trodVars_none hV
  obtain ⟨y0, e0⟩ := arg_one (ty := .slice jobTy) (by kernel_rfl) (by kernel_rfl) (hval 0 22 v0 rfl rfl) h0
  obtain ⟨y1, e1⟩ := arg_one (ty := .int .u8) (by kernel_rfl) (by kernel_rfl) (hval 1 5 v1 rfl rfl) h1
  obtain ⟨y2, e2⟩ := arg_one (ty := intsTy) (by kernel_rfl) (by kernel_rfl) (hval 2 43 v2 rfl rfl) h2
  have s0 := jobs_of e0
  obtain ⟨rfl, w1⟩ := rep_kind e1
  obtain ⟨s2, a2⟩ := ints_of e2
  refine (ct_calls (waitInOrder_ct s0 (wf_u8 w1) s2 a2) fun v h' h => ⟨h.1, by rw [h.2]; exact .refl _⟩).mono fun e W' ⟨he, hk⟩ => ⟨_, he, ?_⟩
  exact law_post (tys := [.slice jobTy, .int .u8, intsTy]) hW' rfl (by kernel_rfl) Tryz.underlying4 (by rw [Tryz.params7]; kernel_rfl) rfl hk
theorem waitInOrder_holds : Rows.WaitInOrderSaid :=
  OpenClaim.holds_of_wide 7 Tryz.f7 rfl rfl rfl rfl rfl rfl rfl ⟨rfl, rfl, rfl, rfl, rfl⟩ rfl rfl rfl rfl rfl (by kernel_rfl) Tryz.func7 (by kernel_rfl)
    (of_decide_eq_true (by kernel_rfl)) (by unfold Func.isWrapper; first | (rw [if_pos (by decide +kernel)]; kernel_rfl) | (rw [if_neg (by decide +kernel)]; exact ⟨rfl, rfl⟩))
    (fun os started H enc _ => waitInOrder_lifted os started H enc)
end Go.Proofs.YtboepbencndobaaGreat
