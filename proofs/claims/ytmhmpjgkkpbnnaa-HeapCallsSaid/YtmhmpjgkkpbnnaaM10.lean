/-
  The reference's memory: needed, MinorError. Conditions: what the heap holds, that the machine is in order, that roots are current.
  The reference's memory: MinorError. Conditions: what the heap holds, that the machine is in order.
  Words forwarded one behind the other: a list, places. Nothing of the program is named here. No condition.
  The reference's memory: Minor. Conditions: what the heap holds, that the machine is in order.
  The reference's memory: Flip. Conditions: what the heap holds, that the machine is in order.
  The reference's memory: refers, Step. Conditions: what the heap holds, that the machine is in order.
  The reference's memory: Step. Conditions: what the heap holds, that the machine is in order.
  The reference's pictures: where, index, meet. Conditions: what the heap holds, that sizes are small.
-/
import Derived.Test.YtmhmpjgkkpbnnaaM9
import Derived.Test.YtmhmpjgkkpbnnaaM4
namespace Go.Ck
open Go
section
variable {P : Program} {e : Env} {h h' : SH} {ty : TypeId}
/-- A place in an array that an address names. -/
theorem v_ixArr {T E : TypeId} {x y : Operand} {b o n k : Nat} {kd : IntKind} {i : Int} (hx : e.ev? x = some (.pointer (some ⟨b, o, none⟩))) (hy : e.ev? y = some (.int kd i)) (hT : P.underlying T = some (.array n E)) (hE : Sz P E 1) (hi : i = (k : Int)) (hk : k < n) :
    Vop P e h (.indexAddr T x y) ty (.pointer (some ⟨b, o + k, none⟩)) :=
  ⟨by simp, by simp, fun ρ w d pos after g hρ _ => by
    subst hi
    have h0 : (0 : Int) ≤ k ∧ (k : Int) < n := by omega
    simp only [execOp, hρ x _ hx, hρ y _ hy, Instr.indexAt, Instr.sureAddr, Sem.run_bind, asIntOf, Sem.run_pure, Result.andThen_ok, run_underlying hT, if_pos h0, hE w, Int.toNat_natCast, Addr.add_lit, Nat.mul_one]⟩
end
end Go.Ck
namespace Go.Hm.AM
theorem refsFrom_append : ∀ (r s : List Bool) (j : Nat), refsFrom j (r ++ s) = refsFrom j r ++ refsFrom (j + r.length) s
  | [], s, j => by simp [refsFrom]
  | b :: r, s, j => by
    simp only [List.cons_append, refsFrom, refsFrom_append r s (j + 1), List.length_cons]
    rw [show j + 1 + r.length = j + (r.length + 1) by omega]
    split <;> simp
/-- The places of the fields that refer, among the first k. -/
def plTo (m : AM) (t : Int) (k : Nat) : List Int := (refsFrom 0 ((m.row t).take k)).map (t + 1 + ·)
theorem plTo_zero (m : AM) (t : Int) : m.plTo t 0 = [] := rfl
theorem plTo_all (m : AM) (t : Int) : m.plTo t (m.row t).length = m.pl t := by unfold plTo pl; rw [List.take_length]
theorem plTo_succ {m : AM} {t : Int} {k : Nat} (hk : k < (m.row t).length) : m.plTo t (k + 1) = m.plTo t k ++ if (m.row t)[k] then [t + 1 + (k : Int)] else [] := by
  unfold plTo
  rw [List.take_succ_eq_append_getElem hk, refsFrom_append, List.map_append, List.length_take, Nat.min_eq_left (by omega)]
  congr 1
  simp only [refsFrom, Nat.zero_add]
  split <;> simp
theorem plTo_sub {m : AM} {t p : Int} {k : Nat} (h : p ∈ m.plTo t k) : p ∈ m.pl t := by
  unfold plTo at h; unfold pl
  rw [← List.take_append_drop k (m.row t), refsFrom_append, List.map_append]
  exact List.mem_append_left _ h
end Go.Hm.AM
namespace Go.Proofs.Ytmhmpjgkkpbnnaa
open Go.Ck Fx Go.Hm Go.Hm.AM
attribute [local irreducible] St Cd Xt Nx DrL LsW
section
variable {L : RL} {m : AM} {S R : Res} {t k a : Int} {ly ln lf N rl rs : List Int} {sp : Int} {v : Value} {roots : List Int} {φ : Int → Option Nat} {A : Store}
/-- What is met is young, and each once. -/
def Met (ly : List Int) (l : List Int) : Prop := l.Nodup ∧ ∀ x ∈ l, x ∈ ly
theorem Met.len (h : AM.Good m ly ln lf φ A) {l : List Int} (hm : Met ly l) : l.length ≤ 400000 := by
  have := nodup_len hm.1 hm.2; have := h.ylen; have := h.g.sz.Y1; omega
theorem Met.meet {l : List Int} (hm : Met ly l) {t : Int} (ht : m.isY t = true → t ∈ ly) : Met ly (m.meet l t) :=
  ⟨meet_nodup hm.1, fun x hx => by
    rcases meet_mem hx with g | ⟨rfl, g⟩
    · exact hm.2 x g
    · exact ht g⟩
theorem meets_snoc' {l ts : List Int} {t : Int} : (ts ++ [t]).foldl m.meet l = m.meet (ts.foldl m.meet l) t := by simp [List.foldl_append]
theorem sum_bd {f : Int → Int} {c : Int} : ∀ {l : List Int}, (∀ x ∈ l, 0 ≤ f x ∧ f x ≤ c) → 0 ≤ AM.sum f l ∧ AM.sum f l ≤ c * (l.length : Int)
  | [], _ => by simp [AM.sum]
  | a :: l, h => by
    have h1 := h a (List.mem_cons_self ..)
    have h2 := sum_bd fun x hx => h x (List.mem_cons_of_mem _ hx)
    rw [sum_cons, List.length_cons, show c * ((l.length + 1 : Nat) : Int) = c * (l.length : Int) + c by rw [Int.natCast_add, Int.mul_add]; simp]
    omega
theorem Met.sum (h : AM.Good m ly ln lf φ A) {l : List Int} (hm : Met ly l) (i : Nat) : 0 ≤ AM.sum m.size (l.take i) ∧ AM.sum m.size (l.take i) ≤ 101 * (i : Int) := by
  have := sum_bd (f := m.size) (c := 101) (l := l.take i) fun x hx => by
    have := (ob_y h.g (hm.2 x (List.mem_of_mem_take hx))).len h.g.sz
    unfold AM.size; omega
  have h2 : (l.take i).length ≤ i := by rw [List.length_take]; omega
  omega
set_option maxHeartbeats 2000000 in
set_option maxRecDepth 100000 in
theorem rneeded_ct (hS : Shp S L.vs m.sh) (h : AM.Good m ly ln lf φ A) (hv : RowI S v roots) (hrl : roots.length ≤ 1000000) (hroots : ∀ r ∈ roots, r = 0 ∨ r ∈ ly ∨ r ∈ ln) :
    Reads Try.prog 119 #[.pointer (some ⟨L.hb, 0, none⟩), v] [hR L m, wR L m, eR L m, kR L m, S] (.int .i64 (m.needed roots)) := by
  have z := h.g.sz
  have h1 := z.Y0; have h2 := z.Y1; have h3 := z.H0; have h4 := z.H1
  have hrem := rem_len h
  have hrn : rn m = (m.Y + 2 * m.H + 1).toNat := rfl
  obtain ⟨ra, rcp, hv1, _⟩ := id hv
  refine ct_of (n := 105) Try.func119 rfl rfl (len rfl) fun hr w0 => ?_
  refine cd_seq (cd_region (st_v (v_assign rfl) (st_nil (nx_then (cd_seq (cd_region (st_v (v_assign rfl) (st_nil (nx_then (cd_seq (cd_seq (cd_region (st_v (v_assign rfl) (st_nil (nx_then (cd_block ?_))))))))))))))))
  refine cd_vecnil 3 1 ?_
  refine cd_loop (σ := Nat × Value) (fun q => [(0, .pointer (some ⟨L.hb, 0, none⟩)), (1, v), (5, q.2), (6, .int .i64 (q.1 : Nat))]) (fun q => vec q.2 3 1 ((roots.take q.1).foldl m.meet []).length (ints ((roots.take q.1).foldl m.meet [])) :: ([hR L m, wR L m, eR L m, kR L m, S] ++ hr)) (fun q => q.1 ≤ roots.length ∧ Met ly ((roots.take q.1).foldl m.meet [])) (fun q => roots.length - q.1) (0, .slice none 0 0) ⟨Nat.zero_le _, List.nodup_nil, fun _ h => by cases h⟩ ⟨rfl, rfl, rfl, rfl, trivial⟩ (Sub.refl _) ?_
  rintro ⟨i, lv⟩ ⟨hi, hmet⟩
  have hml := hmet.len h
  dsimp only at hi hmet hml ⊢
  simp only [List.cons_append, List.nil_append]
  refine cd_seq (cd_seq (cd_region (st_v (v_move rfl) (st_v (v_move rfl) (st_v (v_len (congrArg some hv1) Try.underlying34) (st_v (v_lss rfl rfl) (st_nil (nx_kp [0, 1, 5, 6, 15] rfl (nx_then (cd_cond rfl (fun hc => ?_) (fun hc => ?_)))))))))))
  · skip
    have hlt : i < roots.length := by simpa using hc
    obtain ⟨b, o, cp', hv2, hrd⟩ := hv.at hlt
    have htk : (roots.take (i + 1)).foldl m.meet [] = m.meet ((roots.take i).foldl m.meet []) roots[i] := by rw [List.take_succ_eq_append_getElem hlt, meets_snoc']
    refine cd_skip (xt_then (cd_seq (cd_block (cd_region (st_v (v_move rfl) (st_v (v_move rfl) (st_v (v_move rfl) (st_v (v_move rfl) (st_v (v_ixo i (congrArg some hv2) rfl sl34 rfl hlt) (st_v (v_ld rfl ld3) ?_))))))))))
    refine st_cl rfl rfl en131 rfl (radd_ct (m := m) (l := (roots.take i).foldl m.meet []) (lv := lv) (t := roots[i]) (by omega)) ?_
    rintro lv' h' rfl
    simp only [List.cons_append, List.nil_append]
    refine st_v (v_assign rfl) (st_nil (nx_kp [0, 1, 5, 6] rfl (nx_xt (xt_normal_block (xt_then (cd_region (st_v (v_move rfl) (st_v (v_add rfl rfl (by unfold I64 at *; omega)) (st_v (v_assign rfl) (st_nil (nx_kp [0, 1, 5, 6] rfl (nx_xt ?_))))))))))))
    rw [← htk]
    refine xt_ag (i + 1, lv') ⟨hlt, by rw [htk]; exact hmet.meet fun hY => h.root_y (hroots _ (List.getElem_mem hlt)) hY⟩ (by show _ - _ < _ - _; omega)
  · skip
    have hge : roots.take i = roots := List.take_of_length_le (by simpa using hc)
    rw [hge] at hmet ⊢
    refine cd_vecshape (v := L.vk) (by unfold kR; repeat (first | exact Sel.here | apply Sel.there)) fun ka kcp hkv hka => ?_
    refine cd_exit (xt_exit_then (xt_exit_then (xt_exit_block (xt_then (cd_seq (cd_seq (cd_region (st_v (v_assign rfl) (st_nil (nx_kp [0, 5, 7] rfl (nx_then (cd_block (cd_loop (σ := Nat × Value) (fun q => [(0, .pointer (some ⟨L.hb, 0, none⟩)), (5, q.2), (7, .int .i64 (q.1 : Nat))]) (fun q => vec q.2 3 1 (((m.rem.take q.1).map fun k => m.word (k.1 + 1 + k.2)).foldl m.meet (roots.foldl m.meet [])).length (ints (((m.rem.take q.1).map fun k => m.word (k.1 + 1 + k.2)).foldl m.meet (roots.foldl m.meet []))) :: ([hR L m, wR L m, eR L m, kR L m, S] ++ hr)) (fun q => q.1 ≤ m.rem.length ∧ Met ly (((m.rem.take q.1).map fun k => m.word (k.1 + 1 + k.2)).foldl m.meet (roots.foldl m.meet []))) (fun q => m.rem.length - q.1) (0, lv) ⟨Nat.zero_le _, hmet⟩ ⟨rfl, rfl, rfl, trivial⟩ (Sub.refl _) ?_)))))))))))))
    rintro ⟨i, lv⟩ ⟨hi, hmet⟩
    have hml := hmet.len h
    dsimp only at hi hmet hml ⊢
    simp only [List.cons_append, List.nil_append]
    refine cd_seq (cd_seq (cd_region (st_v (v_move rfl) (st_v (v_move rfl) (st_v (v_nilCheck rfl) (st_v (v_fieldAddr rfl fa52_12 rfl) (st_v (v_ld rfl ld50) ?_)))))))
    refine st_v (v_len (congrArg some hkv) Try.underlying50) (st_v (v_lss rfl rfl) (st_nil (nx_kp [0, 5, 7, 31] rfl (nx_then (cd_cond rfl (fun hc2 => ?_) (fun hc2 => ?_))))))
    · skip
      have hlt : i < m.rem.length := by simpa using hc2
      obtain ⟨kb, rfl⟩ := hka (by omega)
      have hp : m.rem[i]? = some m.rem[i] := List.getElem?_eq_getElem hlt
      have hpm : m.rem[i].1 + 1 + m.rem[i].2 ∈ m.remP := List.mem_map.2 ⟨_, List.getElem_mem hlt, rfl⟩
      obtain ⟨t0, ht0, hpt⟩ := h.remP_mem hpm
      have hbd := pl_bd hpt; have o0 := ob_n h.g ht0; have g1 := o0.t0; have g2 := o0.h2
      obtain ⟨q1, j, q2, q3⟩ := h.rm _ (List.getElem_mem hlt)
      have o1 := ob_n h.g q1; have g3 := o1.t0; have g4 := o1.t1
      have htk : ((m.rem.take (i + 1)).map fun k => m.word (k.1 + 1 + k.2)).foldl m.meet (roots.foldl m.meet []) = m.meet (((m.rem.take i).map fun k => m.word (k.1 + 1 + k.2)).foldl m.meet (roots.foldl m.meet [])) (m.word (m.rem[i].1 + 1 + m.rem[i].2)) := by
        rw [List.take_succ_eq_append_getElem hlt, List.map_append, List.map_cons, List.map_nil, meets_snoc']
      have hrd0 : Rd (kR L m) ⟨kb, i * 2, none⟩ (.int .i64 m.rem[i].1) := rem_rds hkv hp 0 (by simp [ints])
      have hrd1 : Rd (kR L m) ⟨kb, i * 2 + 1, none⟩ (.int .i64 m.rem[i].2) := rem_rds hkv hp 1 (by simp [ints])
      have hrd2 : Rd (wR L m) ⟨L.wb, (m.rem[i].1 + 1 + m.rem[i].2).toNat, none⟩ (.int .i64 (m.word (m.rem[i].1 + 1 + m.rem[i].2))) := a_rd (by omega) (by omega)
      refine cd_skip (xt_then (cd_seq (cd_block (cd_drawh (ork [(0, 2), (1, 2), (2, 2), (3, 2), (4, 2), (5, 1), (6, 2), (7, 2), (8, 2), (9, 1), (10, 2), (11, 2), (12, 2), (13, 1), (14, 2), (15, 2), (16, 2), (17, 2), (18, 1), (19, 2), (20, 2), (21, 2), (22, 1), (23, 2), (24, 2), (25, 1), (26, 0), (27, 2)] .nil) (fun i => !(Nat.beq i 26)) mixed (by kernel_rfl) ?_))))
      refine dp_v rfl (v_move rfl) (dp_v rfl (v_move rfl) (dp_v rfl (v_move rfl) (dp_v rfl (v_nilCheck rfl) (dp_v rfl (v_fieldAddr rfl fa52_3 rfl) (dr_v rfl (v_ld rfl ld34) ?_)))))
      refine dp_v rfl (v_move rfl) (dp_v rfl (v_nilCheck rfl) (dp_v rfl (v_fieldAddr rfl fa52_12 rfl) (dr_v rfl (v_ld rfl ld50) ?_)))
      refine dp_v rfl (v_move rfl) (dp_v rfl (v_indexAddr (congrArg some hkv) rfl sl50 rfl hlt (Nat.zero_add _)) (dp_v rfl (v_ixArr (k := 0) rfl rfl Try.underlying161 sz3 rfl (by omega)) (dr_v rfl (v_ld rfl ld3) ?_)))
      refine dp_v rfl (v_add rfl rfl (by unfold I64 at *; omega)) (dp_v rfl (v_move rfl) (dp_v rfl (v_nilCheck rfl) (dp_v rfl (v_fieldAddr rfl fa52_12 rfl) (dr_v rfl (v_ld rfl ld50) ?_))))
      refine dp_v rfl (v_move rfl) (dp_v rfl (v_indexAddr (congrArg some hkv) rfl sl50 rfl hlt (Nat.zero_add _)) (dp_v rfl (v_ixArr (k := 1) rfl rfl Try.underlying161 sz3 rfl (by omega)) (dr_v rfl (v_ld rfl ld3) ?_)))
      refine dp_v rfl (v_add rfl rfl (by unfold I64 at *; omega)) (dp_v rfl (v_idx (m.rem[i].1 + 1 + m.rem[i].2).toNat rfl rfl sl34 (by omega) (by omega)) (dr_v rfl (v_ld rfl ld3) ?_))
      refine dr_eff rfl (st_cl rfl rfl en131 rfl (radd_ct (m := m) (l := ((m.rem.take i).map fun k => m.word (k.1 + 1 + k.2)).foldl m.meet (roots.foldl m.meet [])) (lv := lv) (t := m.word (m.rem[i].1 + 1 + m.rem[i].2)) (by omega)) ?_)
      rintro lv' h' rfl
      simp only [List.cons_append, List.nil_append]
      rw [← htk]
      refine dr_nx ?_
      refine dp_v rfl (v_assign rfl) (dr_nil (nx_kp [0, 5, 7] rfl (nx_xt (xt_normal_block (xt_then (cd_region (st_v (v_move rfl) (st_v (v_add rfl rfl (by unfold I64 at *; omega)) (st_v (v_assign rfl) (st_nil (nx_kp [0, 5, 7] rfl (nx_xt ?_))))))))))))
      refine xt_ag (i + 1, lv') ⟨hlt, by rw [htk]; exact hmet.meet fun hY => h.rem_y hpm hY⟩ (by show _ - _ < _ - _; omega)
    · skip
      have hge2 : m.rem.take i = m.rem := List.take_of_length_le (by simpa using hc2)
      rw [hge2, show (m.rem.map fun k => m.word (k.1 + 1 + k.2)) = m.remP.map m.word by simp [AM.remP, List.map_map, Function.comp_def]] at hmet hml ⊢
      have hyl := h.ylen
      refine cd_exit (xt_exit_then (xt_exit_then (xt_exit_block (xt_then (cd_seq (cd_region (st_v (v_assign rfl) (st_nil (nx_kp [0, 5, 8] rfl (nx_then (cd_seq (cd_seq (cd_region (st_v (v_assign rfl) (st_nil (nx_then ?_))))))))))))))))
      refine cd_block (cd_loop (σ := Nat × List Int × Value) (fun q => [(0, .pointer (some ⟨L.hb, 0, none⟩)), (5, q.2.2), (8, .int .i64 (AM.sum m.size (q.2.1.take q.1))), (9, .int .i64 (q.1 : Nat))]) (fun q => vec q.2.2 3 1 q.2.1.length (ints q.2.1) :: ([hR L m, wR L m, eR L m, kR L m, S] ++ hr)) (fun q => q.1 ≤ q.2.1.length ∧ Met ly q.2.1 ∧ m.close (m.Y.toNat + 1 - q.1) q.1 q.2.1 = m.reach roots) (fun q => m.Y.toNat + 1 - q.1) (0, (m.remP.map m.word).foldl m.meet (roots.foldl m.meet []), lv) ⟨Nat.zero_le _, hmet, rfl⟩ ⟨rfl, rfl, rfl, rfl, trivial⟩ (Sub.refl _) ?_)
      rintro ⟨i, l, lv⟩ ⟨hi, hmet, hcl⟩
      dsimp only at hi hmet hcl ⊢
      have hml := hmet.len h
      have hll := nodup_len hmet.1 hmet.2
      obtain ⟨hn0, hn1⟩ := hmet.sum h i
      refine cd_vecshape (v := lv) (E := 3) (sz := 1) (n := l.length) (l := ints l) (by repeat (first | exact Sel.here | apply Sel.there)) fun la lcp hlv hla => ?_
      simp only [List.cons_append, List.nil_append]
      refine cd_seq (cd_seq (cd_region (st_v (v_move rfl) (st_v (v_move rfl) (st_v (v_len (congrArg some hlv) Try.underlying34) (st_v (v_lss rfl rfl) (st_nil (nx_kp [0, 5, 8, 9, 64] rfl (nx_then (cd_cond rfl (fun hc3 => ?_) (fun hc3 => ?_)))))))))))
      · skip
        have hlt : i < l.length := by simpa using hc3
        obtain ⟨lb, rfl⟩ := hla (by omega)
        have hy : l[i] ∈ ly := hmet.2 _ (List.getElem_mem hlt)
        have ob := ob_y h.g hy
        have g1 := ob.t0; have g2 := ob.h2; have hlen := ob.len z
        have hsz : m.size l[i] = 1 + (m.row l[i]).length := rfl
        obtain ⟨u, hu, hct⟩ := rshape_ct hS z ob
        obtain ⟨ua, ucp, hue, _⟩ := id hu
        have hrd : Rd (vec lv 3 1 l.length (ints l)) ⟨lb, i, none⟩ (.int .i64 l[i]) := rd_vec hlv (by simp [ints, hlt])
        refine cd_skip (xt_then (cd_seq (cd_block (cd_seq (cd_region (st_v (v_move rfl) (st_v (v_move rfl) (st_v (v_move rfl) (st_v (v_idx i (congrArg some hlv) rfl sl34 rfl hlt) (st_v (v_ld rfl ld3) ?_))))))))))
        refine st_clr rfl rfl en64 rfl (hct) ?_
        refine st_v (v_assign rfl) (st_nil (nx_kp [0, 5, 8, 9, 10] rfl (nx_then (cd_seq (cd_seq (cd_region (st_v (v_assign rfl) (st_nil (nx_then (cd_block (cd_loop (σ := Nat × Value) (fun q => [(0, .pointer (some ⟨L.hb, 0, none⟩)), (5, q.2), (8, .int .i64 (AM.sum m.size (l.take i))), (9, .int .i64 (i : Nat)), (10, u), (11, .int .i64 (q.1 : Nat))]) (fun q => vec q.2 3 1 (((m.plTo l[i] q.1).map m.word).foldl m.meet l).length (ints (((m.plTo l[i] q.1).map m.word).foldl m.meet l)) :: ([hR L m, wR L m, eR L m, kR L m, S] ++ hr)) (fun q => q.1 ≤ (m.row l[i]).length ∧ Met ly (((m.plTo l[i] q.1).map m.word).foldl m.meet l)) (fun q => (m.row l[i]).length - q.1) (0, lv) ⟨Nat.zero_le _, hmet⟩ ⟨rfl, rfl, rfl, rfl, rfl, rfl, trivial⟩ (Sub.refl _) ?_)))))))))))
        rintro ⟨k, lw⟩ ⟨hk, hmk⟩
        dsimp only at hk hmk ⊢
        have hmkl := hmk.len h
        refine cd_vecshape (v := lw) (E := 3) (sz := 1) (n := (((m.plTo l[i] k).map m.word).foldl m.meet l).length) (l := ints (((m.plTo l[i] k).map m.word).foldl m.meet l)) (by repeat (first | exact Sel.here | apply Sel.there)) fun wa wcp hlw hwa => ?_
        obtain ⟨ex, hex⟩ := m.meets_pre ((m.plTo l[i] k).map m.word) l
        have hxl : i < (((m.plTo l[i] k).map m.word).foldl m.meet l).length := by rw [hex, List.length_append]; omega
        obtain ⟨wb, rfl⟩ := hwa (by omega)
        have hxi : (((m.plTo l[i] k).map m.word).foldl m.meet l)[i]? = some l[i] := by rw [hex, List.getElem?_append_left hlt, List.getElem?_eq_getElem hlt]
        have hrdw : Rd (vec lw 3 1 (((m.plTo l[i] k).map m.word).foldl m.meet l).length (ints (((m.plTo l[i] k).map m.word).foldl m.meet l))) ⟨wb, i, none⟩ (.int .i64 l[i]) := rd_vec hlw (by simp only [ints, List.getElem?_map, hxi, Option.map_some])
        simp only [List.cons_append, List.nil_append]
        refine cd_seq (cd_seq (cd_region (st_v (v_move rfl) (st_v (v_move rfl) (st_v (v_len (congrArg some hue) Try.underlying73) (st_v (v_lss rfl rfl) (st_nil (nx_kp [0, 5, 8, 9, 10, 11, 76] rfl (nx_then (cd_cond rfl (fun hc4 => ?_) (fun hc4 => ?_)))))))))))
        · skip
          have hkl : k < (m.row l[i]).length := by simpa using hc4
          obtain ⟨ub, uo, ucp', hue2, hrdu⟩ := hu.at hkl
          have hps := plTo_succ hkl
          refine cd_skip (xt_then (cd_seq (cd_block (cd_seq (cd_region (st_v (v_move rfl) (st_v (v_move rfl) (st_v (v_ixo k (congrArg some hue2) rfl sl73 rfl hkl) (st_v (v_ld rfl ld4) ?_)))))))))
          refine st_nil (nx_kp [0, 5, 8, 9, 10, 11, 82] rfl (nx_then (cd_cond rfl (fun hb => ?_) (fun hb => ?_))))
          · skip
            rw [hb, if_pos rfl] at hps
            have hrdx : Rd (wR L m) ⟨L.wb, (l[i] + 1 + k).toNat, none⟩ (.int .i64 (m.word (l[i] + 1 + k))) := a_rd (by omega) (by omega)
            have hpm : l[i] + 1 + (k : Int) ∈ m.pl l[i] := mem_pl.2 ⟨k, by rw [List.getElem?_eq_getElem hkl, hb], rfl⟩
            have htk : ((m.plTo l[i] (k + 1)).map m.word).foldl m.meet l = m.meet (((m.plTo l[i] k).map m.word).foldl m.meet l) (m.word (l[i] + 1 + k)) := by
              rw [hps, List.map_append, List.map_cons, List.map_nil, meets_snoc']
            refine cd_drawh (ork [(0, 2), (1, 2), (2, 2), (3, 2), (4, 2), (5, 1), (6, 2), (7, 2), (8, 2), (9, 1), (10, 2), (11, 2), (12, 2), (13, 2), (14, 1), (15, 0), (16, 2)] .nil) (fun i => !(Nat.beq i 15)) mixed (by kernel_rfl) ?_
            refine dp_v rfl (v_move rfl) (dp_v rfl (v_move rfl) (dp_v rfl (v_move rfl) (dp_v rfl (v_nilCheck rfl) (dp_v rfl (v_fieldAddr rfl fa52_3 rfl) (dr_v rfl (v_ld rfl ld34) ?_)))))
            refine dp_v rfl (v_move rfl) (dp_v rfl (v_move rfl) (dp_v rfl (v_idx i (congrArg some hlw) rfl sl34 rfl hxl) (dr_v rfl (v_ld rfl ld3) ?_)))
            refine dp_v rfl (v_add rfl rfl (by unfold I64 at *; omega)) (dp_v rfl (v_move rfl) (dp_v rfl (v_add rfl rfl (by unfold I64 at *; omega)) (dp_v rfl (v_idx (l[i] + 1 + k).toNat rfl rfl sl34 (by omega) (by omega)) (dr_v rfl (v_ld rfl ld3) ?_))))
            refine dr_eff rfl (st_cl rfl rfl en131 rfl (radd_ct (m := m) (l := ((m.plTo l[i] k).map m.word).foldl m.meet l) (lv := lw) (t := m.word (l[i] + 1 + k)) (by omega)) ?_)
            rintro lv' h' rfl
            simp only [List.cons_append, List.nil_append]
            rw [← htk]
            refine dr_nx ?_
            refine dp_v rfl (v_assign rfl) (dr_nil (nx_kp [0, 5, 8, 9, 10, 11] rfl (nx_xt (xt_normal_block (xt_then (cd_region (st_v (v_move rfl) (st_v (v_add rfl rfl (by unfold I64 at *; omega)) (st_v (v_assign rfl) (st_nil (nx_kp [0, 5, 8, 9, 10, 11] rfl (nx_xt ?_))))))))))))
            refine xt_ag (k + 1, lv') ⟨hkl, by rw [htk]; exact hmk.meet fun hY => h.word_y hy hpm hY⟩ (by show _ - _ < _ - _; omega)
          · skip
            rw [hb, if_neg (by simp), List.append_nil] at hps
            rw [← hps]
            refine cd_skip (xt_normal_block (xt_then (cd_region (st_v (v_move rfl) (st_v (v_add rfl rfl (by unfold I64 at *; omega)) (st_v (v_assign rfl) (st_nil (nx_kp [0, 5, 8, 9, 10, 11] rfl (nx_xt ?_)))))))))
            refine xt_ag (k + 1, lw) ⟨hkl, by rw [hps]; exact hmk⟩ (by show _ - _ < _ - _; omega)
        · skip
          have hkg : k = (m.row l[i]).length := by have : ¬ k < (m.row l[i]).length := by simpa using hc4
                                                   omega
          have hpa : m.plTo l[i] k = m.pl l[i] := by rw [hkg]; exact plTo_all m _
          rw [hpa] at hmk hex hxl hlw ⊢
          have hf : m.Y.toNat + 1 - i = (m.Y.toNat + 1 - (i + 1)) + 1 := by omega
          have hcl2 : m.close (m.Y.toNat + 1 - (i + 1)) (i + 1) (((m.pl l[i]).map m.word).foldl m.meet l) = m.reach roots := by
            rw [← hcl, hf]; conv => rhs; unfold AM.close
            rw [dif_pos hlt]
          have htk2 : (((m.pl l[i]).map m.word).foldl m.meet l).take (i + 1) = l.take i ++ [l[i]] := by
            rw [hex, List.take_append_of_le_length (by omega), List.take_succ_eq_append_getElem hlt]
          have hsum : AM.sum m.size ((((m.pl l[i]).map m.word).foldl m.meet l).take (i + 1)) = AM.sum m.size (l.take i) + 1 + (m.row l[i]).length := by
            rw [htk2, sum_append, sum_cons, sum_nil, hsz]; omega
          refine cd_exit (xt_exit_then (xt_exit_then (xt_exit_block (xt_then (cd_region (st_v (v_move rfl) (st_v (v_add rfl rfl (by unfold I64 at *; omega)) (st_v (v_move rfl) (st_v (v_len (congrArg some hue) Try.underlying73) (st_v (v_add rfl rfl (by unfold I64 at *; omega)) (st_v (v_assign rfl) (st_nil (nx_kp [0, 5, 8, 9] rfl (nx_xt (xt_normal_block ?_)))))))))))))))
          refine xt_then (cd_region (st_v (v_move rfl) (st_v (v_add rfl rfl (by unfold I64 at *; omega)) (st_v (v_assign rfl) (st_nil (nx_kp [0, 5, 8, 9] rfl (nx_xt ?_)))))))
          rw [← hsum]
          refine xt_ag (i + 1, ((m.pl l[i]).map m.word).foldl m.meet l, lw) ⟨hxl, hmk, hcl2⟩ (by show _ - _ < _ - _; omega)
      · skip
        have hge : i = l.length := by have : ¬ i < l.length := by simpa using hc3
                                      omega
        have hre : m.reach roots = l := by
          rw [← hcl]
          cases hq : m.Y.toNat + 1 - i with
          | zero => rfl
          | succ f => unfold AM.close; rw [dif_neg (by omega)]
        have hnd : m.needed roots = AM.sum m.size (l.take i) := by unfold AM.needed; rw [hre, hge, List.take_length]
        rw [hnd]
        refine cd_exit (xt_exit_then (xt_exit_then (xt_exit_block (xt_then (cd_seq (cd_region (st_v (v_move rfl) (st_v (v_assign rfl) (st_nil (nx_kp [4] rfl (nx_then (cd_ret ?_))))))))))))
        exact xt_rt rfl ⟨rfl, rfl⟩
end
end Go.Proofs.Ytmhmpjgkkpbnnaa
namespace Go.Proofs.Ytmhmpjgkkpbnnaa
open Go.Ck Fx Go.Hm Go.Hm.AM
attribute [local irreducible] St Cd Xt Nx DrL LsW
section
variable {L : RL} {m : AM} {S R : Res} {t k a : Int} {ly ln lf N rl rs : List Int} {sp : Int} {v : Value} {roots : List Int} {φ : Int → Option Nat} {A : Store}
set_option maxRecDepth 100000 in
theorem rminorErr_ct (hS : Shp S L.vs m.sh) (h : AM.Good m ly ln lf φ A) (hv : RowI S v roots) (hrl : roots.length ≤ 1000000) :
    Reads Try.prog 101 #[.pointer (some ⟨L.hb, 0, none⟩), v] [hR L m, wR L m, eR L m, kR L m, S] (.int .i64 (m.minorErr roots)) := by
  have z := h.g.sz
  have h1 := z.Y0; have h2 := z.Y1; have h3 := z.H0; have h4 := z.H1
  have h5 := m.base_former; have h6 := h.g.oldle
  unfold AM.minorErr
  refine ct_of (n := 33) Try.func101 rfl rfl (len rfl) fun hr w0 => ?_
  refine cd_seq (cd_region (st_v (v_assign rfl) (st_nil (nx_then (cd_seq (cd_region (st_v (v_move rfl) (st_v (v_move rfl) (st_clr rfl rfl en62 rfl (rrooted_ct h.g hv hrl) ?_)))))))))
  refine st_v (v_assign rfl) (st_nil (nx_kp [0, 1, 4, 5] rfl (nx_then (cd_seq (cd_seq (cd_region (st_v (v_move rfl) (st_v (v_neq rfl rfl) (st_nil (nx_kp [0, 1, 4, 5, 10] rfl (nx_then (cd_cond rfl (fun hc => ?_) (fun hc => ?_)))))))))))))
  · skip
    rw [if_pos (show m.rooted roots ≠ 0 by simpa using hc)]
    refine cd_seq (cd_region (st_v (v_move rfl) (st_v (v_assign rfl) (st_nil (nx_kp [0, 1, 4] rfl (nx_then (cd_ret (xt_ret_then ?_))))))))
    exact xt_rt rfl ⟨rfl, rfl⟩
  · skip
    have he : m.rooted roots = 0 := by simpa using hc
    rw [if_neg (show ¬ m.rooted roots ≠ 0 by rw [he]; simp)]
    refine cd_skip (xt_then (cd_seq (cd_seq (cd_drawh (ork [(0, 2), (1, 2), (2, 1), (3, 2), (4, 1), (5, 2), (6, 2), (7, 2), (8, 1), (9, 2), (10, 2), (11, 2), (12, 2), (13, 1), (14, 2), (15, 2), (16, 2), (17, 2), (18, 1), (19, 2), (20, 2)] .nil) (fun _ => true) mixed (by kernel_rfl) ?_))))
    refine dp_v rfl (v_move rfl) (dp_v rfl (v_move rfl) (dr_clr rfl rfl rfl en119 rfl (rneeded_ct hS h hv hrl (h.rooted he)) ?_))
    refine dp_v rfl (v_move rfl) (dr_clr rfl rfl rfl en48 rfl (base_ct z) ?_)
    refine dp_v rfl (v_move rfl) (dp_v rfl (v_nilCheck rfl) (dp_v rfl (v_fieldAddr rfl fa52_1 rfl) (dr_v rfl (v_ld rfl ld3) ?_)))
    refine dp_v rfl (v_add rfl rfl (by unfold I64 at *; omega)) (dp_v rfl (v_move rfl) (dp_v rfl (v_nilCheck rfl) (dp_v rfl (v_fieldAddr rfl fa52_7 rfl) (dr_v rfl (v_ld rfl ld3) ?_))))
    refine dp_v rfl (v_sub rfl rfl (by unfold I64 at *; omega)) (dp_v rfl (v_move rfl) (dp_v rfl (v_nilCheck rfl) (dp_v rfl (v_fieldAddr rfl fa52_11 rfl) (dr_v rfl (v_ld rfl ld3) ?_))))
    refine dp_v rfl (v_sub rfl rfl (by unfold I64 at *; omega)) (dp_v rfl (v_gtr rfl rfl) (dr_nil (nx_kp [4, 32] rfl (nx_then (cd_cond rfl (fun hd => ?_) (fun hd => ?_))))))
    · skip
      rw [if_pos (by simpa using hd)]
      refine cd_seq (cd_region (st_v (v_assign rfl) (st_nil (nx_kp [4] rfl (nx_then (cd_ret (xt_ret_then ?_)))))))
      exact xt_rt rfl ⟨rfl, rfl⟩
    · skip
      rw [if_neg (by simpa using hd)]
      refine cd_skip (xt_then (cd_seq (cd_region (st_v (v_assign rfl) (st_nil (nx_kp [4] rfl (nx_then (cd_ret ?_))))))))
      exact xt_rt rfl ⟨rfl, rfl⟩
end
end Go.Proofs.Ytmhmpjgkkpbnnaa
namespace Go.Hm.AM
theorem fwdL_snoc (y : Bool) : ∀ (ts : List Int) (t : Int) (m : AM), fwdL y (ts ++ [t]) m = ((fwdL y ts m).1 ++ [((fwdL y ts m).2.fwd y t).1], ((fwdL y ts m).2.fwd y t).2)
  | [], t, m => rfl
  | a :: ts, t, m => by simp only [List.cons_append, fwdL, fwdL_snoc y ts t]
theorem fwdP_snoc (y : Bool) : ∀ (ps : List Int) (p : Int) (m : AM), fwdP y (ps ++ [p]) m = (fwdP y ps m).fwdAt y p
  | [], p, m => rfl
  | a :: ps, p, m => by simp only [List.cons_append, fwdP, fwdP_snoc y ps p]
theorem fwdL_take (y : Bool) {ts : List Int} {i : Nat} (h : i < ts.length) (m : AM) : fwdL y (ts.take (i + 1)) m = ((fwdL y (ts.take i) m).1 ++ [((fwdL y (ts.take i) m).2.fwd y ts[i]).1], ((fwdL y (ts.take i) m).2.fwd y ts[i]).2) := by
  rw [List.take_succ_eq_append_getElem h, fwdL_snoc]
theorem fwdP_take (y : Bool) {ps : List Int} {i : Nat} (h : i < ps.length) (m : AM) : fwdP y (ps.take (i + 1)) m = (fwdP y (ps.take i) m).fwdAt y ps[i] := by
  rw [List.take_succ_eq_append_getElem h, fwdP_snoc]
theorem fwdL_len (y : Bool) : ∀ (ts : List Int) (m : AM), (fwdL y ts m).1.length = ts.length
  | [], _ => rfl
  | a :: ts, m => by simp only [fwdL, List.length_cons, fwdL_len y ts]
/-- Places are forwarded: what is in order behind some of them. -/
theorem J.fwdP_pre {m : AM} {ly ln lf N : List Int} {sp : Int} {φ : Int → Option Nat} {A : Store} {ps : List Int} (h : J m ly ln lf N ps sp N φ A) (hsp : sp ≤ m.old) (hps : ∀ p ∈ ps, ∃ t ∈ ln, p ∈ m.pl t) :
    ∀ i, i ≤ ps.length → ∃ ln' φ', J (AM.fwdP true (ps.take i) m) ly ln' lf N (ps.drop i) sp N φ' A ∧ Grow m (AM.fwdP true (ps.take i) m) ln ln' φ φ'
  | 0, _ => ⟨ln, φ, h, Grow.refl ..⟩
  | i + 1, hi => by
    obtain ⟨ln1, φ1, h1, g1⟩ := J.fwdP_pre h hsp hps i (by omega)
    obtain ⟨t, ht, hp⟩ := hps ps[i] (List.getElem_mem hi)
    have ho := g1.old
    have hb := h.g.obd ht
    have hp1 : ps[i] ∈ (AM.fwdP true (ps.take i) m).pl t := by rw [g1.pl (.inl (by omega))]; exact hp
    obtain ⟨ln2, φ2, h2, g2, _⟩ := h1.fwdAt true (rl' := ps.drop (i + 1)) (sp' := sp) (.inl (g1.sub ht)) hp1 (fun _ => ⟨rfl, by omega⟩) (fun hq => by cases hq) (fun q hq hqq => by
      rcases hqq with g | g
      · rw [List.drop_eq_getElem_cons hi] at g
        rcases List.mem_cons.1 g with g | g
        · exact absurd g (hq rfl)
        · exact .inl g
      · exact .inr g)
    rw [AM.fwdP_take true hi]
    exact ⟨ln2, φ2, h2, g1.trans g2⟩
/-- The places of the first fields that refer are the first places. -/
theorem plTo_take (m : AM) (t : Int) (k : Nat) : m.plTo t k = (m.pl t).take (m.plTo t k).length := by
  have h : m.pl t = m.plTo t k ++ (refsFrom (0 + ((m.row t).take k).length) ((m.row t).drop k)).map (t + 1 + ·) := by
    unfold plTo pl
    conv => lhs; rw [← List.take_append_drop k (m.row t), refsFrom_append, List.map_append]
  rw [h, List.take_left]
theorem plTo_len (m : AM) (t : Int) (k : Nat) : (m.plTo t k).length ≤ (m.pl t).length := by
  have := congrArg List.length (plTo_take m t k)
  rw [List.length_take] at this; omega
/-- The fields of a new object are forwarded: what is in order behind some of them. -/
theorem J.fwd_fields {m : AM} {ly ln lf N : List Int} {a : Int} {φ : Int → Option Nat} {A : Store} (h : J m ly ln lf N [] a N φ A) (ha : a ∈ ln) (k : Nat) :
    ∃ ln' φ' rl, J (AM.fwdP true (m.plTo a k) m) ly ln' lf N rl (a + m.size a) N φ' A ∧ Grow m (AM.fwdP true (m.plTo a k) m) ln ln' φ φ' := by
  have hab := h.g.obd ha
  have h' : J m ly ln lf N (m.pl a) (a + m.size a) N φ A := ⟨h.g.weak fun t ht p hp hq => by
    rcases hq with hq | hq
    · simp at hq
    · by_cases hpa : p < a + m.size a
      · left
        have hpb := pl_bd hp
        have := h.g.same (.inr (.inl ht)) (.inr (.inl ha)) (p := p) (by omega) (by omega) hq hpa
        subst this; exact hp
      · right; omega, h.s⟩
  obtain ⟨ln1, φ1, h1, g1⟩ := h'.fwdP_pre (by omega) (fun p hp => ⟨a, ha, hp⟩) (m.plTo a k).length (plTo_len m a k)
  rw [← plTo_take] at h1 g1
  exact ⟨ln1, φ1, _, h1, g1⟩
/-- A new object is looked through: what is in order behind it. -/
theorem J.look1 {m : AM} {ly ln lf N : List Int} {a : Int} {φ : Int → Option Nat} {A : Store} (h : J m ly ln lf N [] a N φ A) (ha : a ∈ ln) :
    ∃ ln' φ', J (AM.fwdP true (m.pl a) m) ly ln' lf N [] (a + m.size a) N φ' A ∧ Grow m (AM.fwdP true (m.pl a) m) ln ln' φ φ' ∧ (a + m.size a ∈ ln' ∨ a + m.size a = (AM.fwdP true (m.pl a) m).old) := by
  have hab := h.g.obd ha
  have h' : J m ly ln lf N (m.pl a) (a + m.size a) N φ A := ⟨h.g.weak fun t ht p hp hq => by
    rcases hq with hq | hq
    · simp at hq
    · by_cases hpa : p < a + m.size a
      · left
        have hpb := pl_bd hp
        have := h.g.same (.inr (.inl ht)) (.inr (.inl ha)) (p := p) (by omega) (by omega) hq hpa
        subst this; exact hp
      · right; omega, h.s⟩
  obtain ⟨ln1, φ1, h1, g1, s1, w1⟩ := J.fwdP (m.pl a) h' (by omega) (fun p hp => ⟨a, ha, hp⟩)
  have hsz : (AM.fwdP true (m.pl a) m).size a = m.size a := g1.size (.inl (by omega))
  have := Tl.next h1.g.o.tl a (g1.sub ha)
  rw [hsz] at this
  exact ⟨ln1, φ1, h1, g1, this⟩
end Go.Hm.AM
namespace Go.Proofs.Ytmhmpjgkkpbnnaa
open Go.Ck Fx Go.Hm Go.Hm.AM
attribute [local irreducible] St Cd Xt Nx DrL LsW
section
variable {L : RL} {m : AM} {S R : Res} {t k a : Int} {ly ln lf N rl rs : List Int} {sp : Int} {v : Value} {roots : List Int} {φ : Int → Option Nat} {A : Store}
theorem J.ours_t (h : Gd m ly ln lf N rl sp N) (ht : t ∈ ln) {p : Int} (hp : p ∈ m.pl t) : Ours m N N lf true (m.word p) := fun ho => by
  have hY : m.isY (m.word p) = true := ho
  simp only [if_true]
  rcases h.wo t ht p hp with g | g | g | g
  · rw [h.isYn (.inl g)] at hY; cases hY
  · rw [h.isYn (.inr (.inl g))] at hY; cases hY
  · exact ⟨g.1, g.1⟩
  · rw [h.isYn (.inr (.inr g.1))] at hY; cases hY
set_option maxHeartbeats 4000000 in
set_option maxRecDepth 100000 in
theorem rminor_ct (hS : Shp S L.vs m.sh) (h : AM.Good m ly ln lf φ A) (hv : RowI S v roots) (hrl : roots.length ≤ 1000000) :
    Ct Try.prog 54 #[.pointer (some ⟨L.hb, 0, none⟩), v] (rSH L m S) fun u h' => ∃ sl vk, u = .tuple #[sl, .int .i64 (m.minor roots).2.1] ∧ h' = vec sl 3 1 (m.minor roots).1.length (ints (m.minor roots).1) :: (rSH { L with vk := vk } (m.minor roots).2.2 S) := by
  have z := h.g.sz
  have h1 := z.Y0; have h2 := z.Y1; have h3 := z.H0; have h4 := z.H1
  have h5 := m.base_former; have h6 := h.g.oldle
  have hreml := rem_len h
  have hrn : rn m = (m.Y + 2 * m.H + 1).toNat := rfl
  obtain ⟨ra, rcp, hv1, _⟩ := id hv
  unfold rSH AM.minor
  refine ct_of (n := 139) Try.func54 rfl rfl (len rfl) fun hr w0 => ?_
  refine cd_vecshape (v := L.vk) (by unfold kR; repeat (first | exact Sel.here | apply Sel.there)) fun ka kcp hkv hka => ?_
  simp only [List.cons_append, List.nil_append]
  refine cd_seq (cd_region (st_v (v_assign rfl) (st_v (v_assign rfl) (st_nil (nx_then (cd_seq (cd_region (st_v (v_move rfl) (st_v (v_move rfl) (st_clr rfl rfl en101 rfl (rminorErr_ct hS h hv hrl) ?_))))))))))
  refine st_v (v_assign rfl) (st_nil (nx_kp [0, 1, 4, 5, 6] rfl (nx_then (cd_seq (cd_seq (cd_region (st_v (v_move rfl) (st_v (v_neq rfl rfl) (st_nil (nx_kp [0, 1, 4, 5, 6, 18] rfl (nx_then (cd_cond rfl (fun hc => ?_) (fun hc => ?_)))))))))))))
  · skip
    rw [if_pos (show m.minorErr roots ≠ 0 by simpa using hc)]
    refine cd_vecnil 3 1 ?_
    refine cd_seq (cd_region (st_v (v_move rfl) (st_v (v_assign rfl) (st_v (v_assign rfl) (st_nil (nx_kp [0, 1, 4, 5] rfl (nx_then (cd_ret (xt_ret_then ?_)))))))))
    exact xt_rt rfl ⟨_, L.vk, rfl, rfl⟩
  · skip
    have he : m.minorErr roots = 0 := by simpa using hc
    rw [if_neg (show ¬ m.minorErr roots ≠ 0 by rw [he]; simp)]
    obtain ⟨hro, hroom⟩ := minorErr_ok he
    have hroots := h.rooted hro
    have hN := h.reach hroots
    have hJ := h.start hN hroom
    refine cd_skip (xt_then (cd_seq (cd_region (st_v (v_move rfl) (st_v (v_nilCheck rfl) (st_v (v_fieldAddr rfl fa52_7 rfl) (st_v (v_ld rfl ld3) ?_)))))))
    refine st_v (v_assign rfl) (st_nil (nx_kp [0, 1, 4, 5, 7] rfl (nx_then (cd_seq (cd_region (st_v (v_assign rfl) (st_nil (nx_then (cd_seq (cd_seq (cd_region (st_v (v_assign rfl) (st_nil (nx_then (cd_block (cd_vecnil 3 1 ?_))))))))))))))))
    refine cd_loop (σ := Nat × Value) (fun q => [(0, .pointer (some ⟨L.hb, 0, none⟩)), (1, v), (7, .int .i64 m.old), (8, q.2), (9, .int .i64 (q.1 : Nat))]) (fun q => vec q.2 3 1 (AM.fwdL true (roots.take q.1) m).1.length (ints (AM.fwdL true (roots.take q.1) m).1) :: (rSH L (AM.fwdL true (roots.take q.1) m).2 S ++ hr)) (fun q => q.1 ≤ roots.length) (fun q => roots.length - q.1) (0, .slice none 0 0) (Nat.zero_le _) ⟨rfl, rfl, rfl, rfl, rfl, trivial⟩ (Sub.refl _) ?_
    rintro ⟨i, lv⟩ hi
    dsimp only at hi ⊢
    unfold rSH
    simp only [List.cons_append, List.nil_append]
    refine cd_seq (cd_seq (cd_region (st_v (v_move rfl) (st_v (v_move rfl) (st_v (v_len (congrArg some hv1) Try.underlying34) (st_v (v_lss rfl rfl) (st_nil (nx_kp [0, 1, 7, 8, 9, 27] rfl (nx_then (cd_cond rfl (fun hd => ?_) (fun hd => ?_)))))))))))
    · skip
      have hlt : i < roots.length := by simpa using hd
      obtain ⟨b, o, cp', hv2, hrd⟩ := hv.at hlt
      obtain ⟨ln1, φ1, h1J, g1, _⟩ := hJ.fwdL true (roots.take i) (fun _ => ⟨rfl, Int.le_refl _⟩) (fun hq => by cases hq) (fun w hw ho => hN.ro w (List.mem_of_mem_take hw) ho)
      have hours : Ours (AM.fwdL true (roots.take i) m).2 (m.reach roots) (m.reach roots) lf true roots[i] := fun ho => by
        rw [(mv_fwdL true (roots.take i) m).ours] at ho
        have := hN.ro _ (List.getElem_mem hlt) ho
        simp only [if_true]; exact ⟨this, this⟩
      have hlen := fwdL_len true (roots.take i) m
      have hlen2 : (roots.take i).length ≤ i := by rw [List.length_take]; omega
      refine cd_skip (xt_then (cd_seq (cd_block (cd_region (st_v (v_move rfl) (st_v (v_move rfl) (st_v (v_move rfl) (st_v (v_move rfl) (st_v (v_ixo i (congrArg some hv2) rfl sl34 rfl hlt) (st_v (v_ld rfl ld3) ?_))))))))))
      refine st_cl rfl rfl en97 rfl (rfwd_ct (L := L) (m := (AM.fwdL true (roots.take i) m).2) (by rw [g1.sh]; exact hS) h1J.g hours) ?_
      rintro v' h' ⟨rfl, rfl⟩
      unfold rSH
      simp only [List.cons_append, List.nil_append]
      refine st_buildSlice (cells := [.int .i64 ((AM.fwdL true (roots.take i) m).2.fwd true roots[i]).1]) rfl Try.underlying34 inf3 rfl rfl (by kernel_rfl) (ltn rfl) fun b37 => ?_
      refine st_append (news := [.int .i64 ((AM.fwdL true (roots.take i) m).2.fwd true roots[i]).1]) rfl rfl Try.underlying34 inf3 rfl (ltn rfl) (by repeat (first | exact Sel.here | apply Sel.there)) rfl (fun j u hu => by repeat (first | exact at_here (rd_cl (by simpa using hu)) | apply at_there)) (ones rfl) (by omega) (by omega) (ltn rfl) fun lv' hlv' hv1' => ?_
      refine st_v (v_assign rfl) (st_nil (nx_kp [0, 1, 7, 8, 9] rfl (nx_xt (xt_normal_block (xt_then (cd_region (st_v (v_move rfl) (st_v (v_add rfl rfl (by unfold I64 at *; omega)) (st_v (v_assign rfl) (st_nil (nx_kp [0, 1, 7, 8, 9] rfl (nx_xt ?_))))))))))))
      rw [show ints (AM.fwdL true (roots.take i) m).1 ++ [.int .i64 ((AM.fwdL true (roots.take i) m).2.fwd true roots[i]).1] = ints (AM.fwdL true (roots.take (i + 1)) m).1 by rw [fwdL_take true hlt]; simp [ints],
        show (AM.fwdL true (roots.take i) m).1.length + 1 = (AM.fwdL true (roots.take (i + 1)) m).1.length by rw [fwdL_take true hlt]; simp,
        show ((AM.fwdL true (roots.take i) m).2.fwd true roots[i]).2 = (AM.fwdL true (roots.take (i + 1)) m).2 by rw [fwdL_take true hlt]]
      refine xt_ag (i + 1, lv') hlt (by show _ - _ < _ - _; omega)
    · skip
      have hge : roots.take i = roots := List.take_of_length_le (by simpa using hd)
      rw [hge]
      obtain ⟨ln1, φ1, h1J, g1, _⟩ := hJ.fwdL true roots (fun _ => ⟨rfl, Int.le_refl _⟩) (fun hq => by cases hq) (fun w hw ho => hN.ro w hw ho)
      have ho1 := g1.old
      have hps : ∀ p ∈ m.remP, ∃ t ∈ ln1, p ∈ (AM.fwdL true roots m).2.pl t := fun p hp => by
        obtain ⟨t, ht, hp'⟩ := h.remP_mem hp
        exact ⟨t, g1.sub ht, by rw [g1.pl (.inl (by have := h.g.obd ht; omega))]; exact hp'⟩
      have hrun : m.minorRun roots = ((AM.fwdL true roots m).1, { (AM.look true m.H.toNat m.old (AM.fwdP true m.remP (AM.fwdL true roots m).2)).clear 1 (AM.look true m.H.toNat m.old (AM.fwdP true m.remP (AM.fwdL true roots m).2)).Y with new := 1, rem := [] }) := rfl
      rw [hrun]
      obtain ⟨out, hout⟩ : ∃ o, o = (AM.fwdL true roots m).1 := ⟨_, rfl⟩
      obtain ⟨m1, hm1⟩ : ∃ o, o = (AM.fwdL true roots m).2 := ⟨_, rfl⟩
      rw [← hm1] at h1J g1 ho1 hps
      rw [← hout, ← hm1]
      refine cd_exit (xt_exit_then (xt_exit_then (xt_exit_block (xt_then (cd_seq (cd_seq (cd_region (st_v (v_assign rfl) (st_nil (nx_kp [0, 7, 8, 10] rfl (nx_then (cd_block (cd_loop (σ := Nat × AM) (fun q => [(0, .pointer (some ⟨L.hb, 0, none⟩)), (7, .int .i64 m.old), (8, lv), (10, .int .i64 (q.1 : Nat))]) (fun q => vec lv 3 1 out.length (ints out) :: (rSH L q.2 S ++ hr)) (fun q => q.1 ≤ m.rem.length ∧ q.2 = AM.fwdP true (m.remP.take q.1) m1) (fun q => m.rem.length - q.1) (0, m1) ⟨Nat.zero_le _, rfl⟩ ⟨rfl, rfl, rfl, rfl, trivial⟩ (Sub.refl _) ?_)))))))))))))
      rintro ⟨i, mm⟩ ⟨hi, hmm⟩
      dsimp only at hi hmm ⊢
      have hrl' : m.remP.length = m.rem.length := by simp [AM.remP]
      obtain ⟨ln2, φ2, h2J, g2⟩ := h1J.fwdP_pre ho1 hps i (by omega)
      rw [← hmm] at h2J g2
      have hrem : mm.rem = m.rem := g2.rem.trans g1.rem
      have hYm : mm.Y = m.Y := g2.Y.trans g1.Y
      have hHm : mm.H = m.H := g2.H.trans g1.H
      have hrnm : rn mm = rn m := by unfold rn; rw [hYm, hHm]
      unfold rSH
      simp only [List.cons_append, List.nil_append]
      refine cd_seq (cd_seq (cd_region (st_v (v_move rfl) (st_v (v_move rfl) (st_v (v_nilCheck rfl) (st_v (v_fieldAddr rfl fa52_12 rfl) (st_v (v_ld rfl ld50) ?_)))))))
      refine st_v (v_len (congrArg some hkv) Try.underlying50) (st_v (v_lss rfl rfl) (st_nil (nx_kp [0, 7, 8, 10, 45] rfl (nx_then (cd_cond rfl (fun hc2 => ?_) (fun hc2 => ?_))))))
      · skip
        have hlt : i < m.rem.length := by simpa using hc2
        obtain ⟨kb, rfl⟩ := hka (by omega)
        have hp : mm.rem[i]? = some m.rem[i] := by rw [hrem]; exact List.getElem?_eq_getElem hlt
        have hpe : m.remP[i]'(by omega) = m.rem[i].1 + 1 + m.rem[i].2 := by simp [AM.remP]
        have hpm : m.rem[i].1 + 1 + m.rem[i].2 ∈ m.remP := List.mem_map.2 ⟨_, List.getElem_mem hlt, rfl⟩
        obtain ⟨t0, ht0, hpt⟩ := hps _ hpm
        have hpt2 : m.rem[i].1 + 1 + m.rem[i].2 ∈ mm.pl t0 := by rw [g2.pl (.inl (by have := h1J.g.obd ht0; omega))]; exact hpt
        have ht2 := g2.sub ht0
        have hbd := pl_bd hpt2; have o0 := ob_n h2J.g ht2; have g3 := o0.t0; have g4 := o0.h2
        obtain ⟨q1, j, q2, q3⟩ := h.rm _ (List.getElem_mem hlt)
        have o1 := ob_n h.g q1; have g5 := o1.t0; have g6 := o1.t1
        have hrd0 : Rd (kR L mm) ⟨kb, i * 2, none⟩ (.int .i64 m.rem[i].1) := rem_rds hkv hp 0 (by simp [ints])
        have hrd1 : Rd (kR L mm) ⟨kb, i * 2 + 1, none⟩ (.int .i64 m.rem[i].2) := rem_rds hkv hp 1 (by simp [ints])
        have hrd2 : Rd (wR L mm) ⟨L.wb, (m.rem[i].1 + 1 + m.rem[i].2).toNat, none⟩ (.int .i64 (mm.word (m.rem[i].1 + 1 + m.rem[i].2))) := a_rd (by omega) (by omega)
        have hnx : AM.fwdP true (m.remP.take (i + 1)) m1 = mm.fwdAt true (m.rem[i].1 + 1 + m.rem[i].2) := by
          rw [AM.fwdP_take true (show i < m.remP.length by omega), ← hmm, hpe]
        refine cd_skip (xt_then (cd_seq (cd_block (cd_seq (cd_drawh (ork [(0, 2), (1, 2), (2, 2), (3, 1), (4, 2), (5, 2), (6, 2), (7, 1), (8, 2), (9, 2), (10, 2), (11, 2), (12, 1), (13, 2), (14, 2), (15, 2), (16, 1), (17, 2), (18, 2)] .nil) (fun _ => true) mixed (by kernel_rfl) ?_)))))
        refine dp_v rfl (v_move rfl) (dp_v rfl (v_nilCheck rfl) (dp_v rfl (v_fieldAddr rfl fa52_12 rfl) (dr_v rfl (v_ld rfl ld50) ?_)))
        refine dp_v rfl (v_move rfl) (dp_v rfl (v_indexAddr (congrArg some hkv) rfl sl50 rfl hlt (Nat.zero_add _)) (dp_v rfl (v_ixArr (k := 0) rfl rfl Try.underlying161 sz3 rfl (by omega)) (dr_v rfl (v_ld rfl ld3) ?_)))
        refine dp_v rfl (v_add rfl rfl (by unfold I64 at *; omega)) (dp_v rfl (v_move rfl) (dp_v rfl (v_nilCheck rfl) (dp_v rfl (v_fieldAddr rfl fa52_12 rfl) (dr_v rfl (v_ld rfl ld50) ?_))))
        refine dp_v rfl (v_move rfl) (dp_v rfl (v_indexAddr (congrArg some hkv) rfl sl50 rfl hlt (Nat.zero_add _)) (dp_v rfl (v_ixArr (k := 1) rfl rfl Try.underlying161 sz3 rfl (by omega)) (dr_v rfl (v_ld rfl ld3) ?_)))
        refine dp_v rfl (v_add rfl rfl (by unfold I64 at *; omega)) (dp_v rfl (v_assign rfl) (dr_nil (nx_kp [0, 7, 8, 10, 11] rfl (nx_then (cd_drawh (ork [(0, 2), (1, 2), (2, 2), (4, 2), (5, 2), (6, 2), (7, 2), (8, 2), (9, 1), (10, 2), (11, 2), (12, 1)] (.two 3 (ork [(13, 0), (14, 2), (15, 0)] .nil) 13 (ork [(3, 0), (14, 2), (15, 0)] .nil))) (fun i => !(Nat.beq i 13 || Nat.beq i 15)) mixed (by kernel_rfl) ?_)))))
        refine dp_v rfl (v_move rfl) (dp_v rfl (v_nilCheck rfl) (dp_v rfl (v_fieldAddr rfl fa52_3 rfl) (dp_v rfl (v_move rfl) (dp_v rfl (v_move rfl) (dp_v rfl (v_move rfl) (dp_v rfl (v_nilCheck rfl) (dp_v rfl (v_fieldAddr rfl fa52_3 rfl) (dr_v rfl (v_ld rfl ld34) ?_))))))))
        refine dp_v rfl (v_move rfl) (dp_v rfl (v_idx (m.rem[i].1 + 1 + m.rem[i].2).toNat rfl rfl sl34 (by omega) (by omega)) (dr_v rfl (v_ld rfl ld3) ?_))
        refine dr_two rfl rfl ?_ ?_
        · skip
          refine st_v (v_ld rfl ld34) (dr_nx ?_)
          refine dr_eff rfl (st_cl rfl rfl en97 rfl (rfwd_ct (L := L) (S := S) (m := mm) (by rw [g2.sh, g1.sh]; exact hS) h2J.g (J.ours_t h2J.g ht2 hpt2)) ?_)
          rintro v' h' ⟨rfl, rfl⟩
          unfold rSH
          simp only [List.cons_append, List.nil_append]
          have hrn1 := rn_fwd mm true (mm.word (m.rem[i].1 + 1 + m.rem[i].2))
          have hal := arr_len (rn (mm.fwd true (mm.word (m.rem[i].1 + 1 + m.rem[i].2))).2) (mm.fwd true (mm.word (m.rem[i].1 + 1 + m.rem[i].2))).2.word
          refine dr_nx ?_
          refine dp_v rfl (v_idx (m.rem[i].1 + 1 + m.rem[i].2).toNat rfl rfl sl34 (by omega) (by omega)) (dr_eff rfl (st_sto rfl rfl sz3 (dr_nx ?_)))
          refine dr_nil (nx_kp [0, 7, 8, 10] rfl (nx_xt (xt_normal_block (xt_then (cd_region (st_v (v_move rfl) (st_v (v_add rfl rfl (by unfold I64 at *; omega)) (st_v (v_assign rfl) (st_nil (nx_kp [0, 7, 8, 10] rfl (nx_xt ?_)))))))))))
          rw [arr_set' (by omega)]
          refine xt_ag (i + 1, mm.fwdAt true (m.rem[i].1 + 1 + m.rem[i].2)) ⟨hlt, hnx.symm⟩ (by show _ - _ < _ - _; omega)
        · skip
          refine st_cl rfl rfl en97 rfl (rfwd_ct (L := L) (S := S) (m := mm) (by rw [g2.sh, g1.sh]; exact hS) h2J.g (J.ours_t h2J.g ht2 hpt2)) ?_
          rintro v' h' ⟨rfl, rfl⟩
          unfold rSH
          simp only [List.cons_append, List.nil_append]
          have hrn1 := rn_fwd mm true (mm.word (m.rem[i].1 + 1 + m.rem[i].2))
          have hal := arr_len (rn (mm.fwd true (mm.word (m.rem[i].1 + 1 + m.rem[i].2))).2) (mm.fwd true (mm.word (m.rem[i].1 + 1 + m.rem[i].2))).2.word
          refine dr_nx ?_
          refine dr_eff rfl (st_v (v_ld rfl ld34) (dr_nx ?_))
          refine dp_v rfl (v_idx (m.rem[i].1 + 1 + m.rem[i].2).toNat rfl rfl sl34 (by omega) (by omega)) (dr_eff rfl (st_sto rfl rfl sz3 (dr_nx ?_)))
          refine dr_nil (nx_kp [0, 7, 8, 10] rfl (nx_xt (xt_normal_block (xt_then (cd_region (st_v (v_move rfl) (st_v (v_add rfl rfl (by unfold I64 at *; omega)) (st_v (v_assign rfl) (st_nil (nx_kp [0, 7, 8, 10] rfl (nx_xt ?_)))))))))))
          rw [arr_set' (by omega)]
          refine xt_ag (i + 1, mm.fwdAt true (m.rem[i].1 + 1 + m.rem[i].2)) ⟨hlt, hnx.symm⟩ (by show _ - _ < _ - _; omega)
      · skip
        have hge2 : m.remP.take i = m.remP := List.take_of_length_le (by have : ¬ i < m.rem.length := by simpa using hc2
                                                                         omega)
        rw [hge2] at hmm
        obtain ⟨ln3, φ3, h3J, g3, _⟩ := J.fwdP m.remP h1J ho1 hps
        rw [← hmm] at h3J g3
        have g13 := g1.trans g3
        have hst := Grow.at_old h.g h3J.g g13
        rw [← hmm]
        refine cd_exit (xt_exit_then (xt_exit_then (xt_exit_block (xt_then (cd_seq (cd_block (cd_loop (σ := Nat × Int × AM) (fun q => [(0, .pointer (some ⟨L.hb, 0, none⟩)), (7, .int .i64 q.2.1), (8, lv)]) (fun q => vec lv 3 1 out.length (ints out) :: (rSH L q.2.2 S ++ hr)) (fun q => AM.look true q.1 q.2.1 q.2.2 = AM.look true m.H.toNat m.old mm ∧ m.base + m.H ≤ q.2.1 + q.1 ∧ ∃ ln' φ', J q.2.2 ly ln' lf (m.reach roots) [] q.2.1 (m.reach roots) φ' A ∧ Grow m q.2.2 ln ln' φ φ' ∧ (q.2.1 ∈ ln' ∨ q.2.1 = q.2.2.old)) (fun q => q.1) (m.H.toNat, m.old, mm) ⟨rfl, by have := z.H0; show _ ≤ m.old + (m.H.toNat : Int); omega, ln3, φ3, h3J, g13, hst⟩ ⟨rfl, rfl, rfl, trivial⟩ (Sub.refl _) ?_)))))))
        rintro ⟨f, a, nn⟩ ⟨hlook, hfa, ln4, φ4, h4J, g4, ha⟩
        dsimp only at hlook hfa h4J g4 ha ⊢
        have hremn : nn.rem = m.rem := g4.rem
        have hYn : nn.Y = m.Y := g4.Y
        have hHn : nn.H = m.H := g4.H
        have hbn : nn.base = m.base := g4.base
        have hrnn : rn nn = rn m := by unfold rn; rw [hYn, hHn]
        have hon := h4J.g.oldle
        have hfb := nn.base_former
        have zn := h4J.g.sz
        unfold rSH
        simp only [List.cons_append, List.nil_append]
        refine cd_seq (cd_seq (cd_region (st_v (v_move rfl) (st_v (v_move rfl) (st_v (v_nilCheck rfl) (st_v (v_fieldAddr rfl fa52_7 rfl) (st_v (v_ld rfl ld3) ?_)))))))
        refine st_v (v_lss rfl rfl) (st_nil (nx_kp [0, 7, 8, 86] rfl (nx_then (cd_cond rfl (fun hc3 => ?_) (fun hc3 => ?_)))))
        · skip
          have hlt : a < nn.old := by simpa using hc3
          have ha' : a ∈ ln4 := ha.resolve_right (by omega)
          have ob := ob_n h4J.g ha'
          have g5 := ob.t0; have g6 := ob.h2; have hlen := ob.len zn
          have hsz : nn.size a = 1 + (nn.row a).length := rfl
          have hS4 : Shp S L.vs nn.sh := by rw [g4.sh]; exact hS
          obtain ⟨u, hu, hct⟩ := rshape_ct hS4 zn ob
          obtain ⟨ua, ucp, hue, _⟩ := id hu
          obtain ⟨f', rfl⟩ : ∃ f', f = f' + 1 := ⟨f - 1, by omega⟩
          refine cd_skip (xt_then (cd_block (cd_seq (cd_region (st_v (v_move rfl) (st_v (v_move rfl) (st_clr rfl rfl en64 rfl (hct) ?_)))))))
          refine st_v (v_assign rfl) (st_nil (nx_kp [0, 7, 8, 12] rfl (nx_then (cd_seq (cd_seq (cd_region (st_v (v_assign rfl) (st_nil (nx_then (cd_block (cd_loop (σ := Nat × AM) (fun q => [(0, .pointer (some ⟨L.hb, 0, none⟩)), (7, .int .i64 a), (8, lv), (12, u), (13, .int .i64 (q.1 : Nat))]) (fun q => vec lv 3 1 out.length (ints out) :: (rSH L q.2 S ++ hr)) (fun q => q.1 ≤ (nn.row a).length ∧ q.2 = AM.fwdP true (nn.plTo a q.1) nn) (fun q => (nn.row a).length - q.1) (0, nn) ⟨Nat.zero_le _, rfl⟩ ⟨rfl, rfl, rfl, rfl, rfl, trivial⟩ (Sub.refl _) ?_)))))))))))
          rintro ⟨k, kk⟩ ⟨hk, hkk⟩
          dsimp only at hk hkk ⊢
          obtain ⟨ln5, φ5, rl5, h5J, g5'⟩ := h4J.fwd_fields ha' k
          rw [← hkk] at h5J g5'
          have hYk : kk.Y = m.Y := g5'.Y.trans hYn
          have hHk : kk.H = m.H := g5'.H.trans hHn
          have hrnk : rn kk = rn m := by unfold rn; rw [hYk, hHk]
          unfold rSH
          simp only [List.cons_append, List.nil_append]
          refine cd_seq (cd_seq (cd_region (st_v (v_move rfl) (st_v (v_move rfl) (st_v (v_len (congrArg some hue) Try.underlying73) (st_v (v_lss rfl rfl) (st_nil (nx_kp [0, 7, 8, 12, 13, 93] rfl (nx_then (cd_cond rfl (fun hc4 => ?_) (fun hc4 => ?_)))))))))))
          · skip
            have hkl : k < (nn.row a).length := by simpa using hc4
            obtain ⟨ub, uo, ucp', hue2, hrdu⟩ := hu.at hkl
            have hps4 := plTo_succ hkl
            refine cd_skip (xt_then (cd_seq (cd_block (cd_seq (cd_region (st_v (v_move rfl) (st_v (v_move rfl) (st_v (v_ixo k (congrArg some hue2) rfl sl73 rfl hkl) (st_v (v_ld rfl ld4) ?_)))))))))
            refine st_nil (nx_kp [0, 7, 8, 12, 13, 99] rfl (nx_then (cd_cond rfl (fun hb => ?_) (fun hb => ?_))))
            · skip
              rw [hb, if_pos rfl] at hps4
              have hpn : a + 1 + (k : Int) ∈ nn.pl a := mem_pl.2 ⟨k, by rw [List.getElem?_eq_getElem hkl, hb], rfl⟩
              have hpk : a + 1 + (k : Int) ∈ kk.pl a := by rw [g5'.pl (.inl hlt)]; exact hpn
              have hrdw : Rd (wR L kk) ⟨L.wb, (a + 1 + k).toNat, none⟩ (.int .i64 (kk.word (a + 1 + k))) := a_rd (by omega) (by omega)
              have hnx : AM.fwdP true (nn.plTo a (k + 1)) nn = kk.fwdAt true (a + 1 + k) := by rw [hps4, AM.fwdP_snoc, ← hkk]
              refine cd_drawh (ork [(0, 2), (1, 2), (2, 2), (4, 2), (5, 2), (6, 2), (7, 2), (8, 2), (9, 2), (10, 2), (11, 2), (12, 1), (13, 2), (14, 2), (15, 2), (16, 2), (17, 2), (18, 1)] (.two 3 (ork [(19, 0), (20, 2), (21, 0)] .nil) 19 (ork [(3, 0), (20, 2), (21, 0)] .nil))) (fun i => !(Nat.beq i 19 || Nat.beq i 21)) mixed (by kernel_rfl) ?_
              refine dp_v rfl (v_move rfl) (dp_v rfl (v_nilCheck rfl) (dp_v rfl (v_fieldAddr rfl fa52_3 rfl) (dp_v rfl (v_move rfl) (dp_v rfl (v_add rfl rfl (by unfold I64 at *; omega)) (dp_v rfl (v_move rfl) (dp_v rfl (v_add rfl rfl (by unfold I64 at *; omega)) (dp_v rfl (v_move rfl) (dp_v rfl (v_move rfl) (dp_v rfl (v_nilCheck rfl) (dp_v rfl (v_fieldAddr rfl fa52_3 rfl) (dr_v rfl (v_ld rfl ld34) ?_)))))))))))
              refine dp_v rfl (v_move rfl) (dp_v rfl (v_add rfl rfl (by unfold I64 at *; omega)) (dp_v rfl (v_move rfl) (dp_v rfl (v_add rfl rfl (by unfold I64 at *; omega)) (dp_v rfl (v_idx (a + 1 + k).toNat rfl rfl sl34 (by omega) (by omega)) (dr_v rfl (v_ld rfl ld3) ?_)))))
              refine dr_two rfl rfl ?_ ?_
              · skip
                refine st_v (v_ld rfl ld34) (dr_nx ?_)
                refine dr_eff rfl (st_cl rfl rfl en97 rfl (rfwd_ct (L := L) (S := S) (m := kk) (by rw [g5'.sh, g4.sh]; exact hS) h5J.g (J.ours_t h5J.g (g5'.sub ha') hpk)) ?_)
                rintro v' h' ⟨rfl, rfl⟩
                unfold rSH
                simp only [List.cons_append, List.nil_append]
                have hrn1 := rn_fwd kk true (kk.word (a + 1 + k))
                have hal := arr_len (rn (kk.fwd true (kk.word (a + 1 + k))).2) (kk.fwd true (kk.word (a + 1 + k))).2.word
                refine dr_nx ?_
                refine dp_v rfl (v_idx (a + 1 + k).toNat rfl rfl sl34 (by omega) (by omega)) (dr_eff rfl (st_sto rfl rfl sz3 (dr_nx ?_)))
                refine dr_nil (nx_kp [0, 7, 8, 12, 13] rfl (nx_xt (xt_normal_block (xt_then (cd_region (st_v (v_move rfl) (st_v (v_add rfl rfl (by unfold I64 at *; omega)) (st_v (v_assign rfl) (st_nil (nx_kp [0, 7, 8, 12, 13] rfl (nx_xt ?_)))))))))))
                rw [arr_set' (by omega)]
                refine xt_ag (k + 1, kk.fwdAt true (a + 1 + k)) ⟨hkl, hnx.symm⟩ (by show _ - _ < _ - _; omega)
              · skip
                refine st_cl rfl rfl en97 rfl (rfwd_ct (L := L) (S := S) (m := kk) (by rw [g5'.sh, g4.sh]; exact hS) h5J.g (J.ours_t h5J.g (g5'.sub ha') hpk)) ?_
                rintro v' h' ⟨rfl, rfl⟩
                unfold rSH
                simp only [List.cons_append, List.nil_append]
                have hrn1 := rn_fwd kk true (kk.word (a + 1 + k))
                have hal := arr_len (rn (kk.fwd true (kk.word (a + 1 + k))).2) (kk.fwd true (kk.word (a + 1 + k))).2.word
                refine dr_nx ?_
                refine dr_eff rfl (st_v (v_ld rfl ld34) (dr_nx ?_))
                refine dp_v rfl (v_idx (a + 1 + k).toNat rfl rfl sl34 (by omega) (by omega)) (dr_eff rfl (st_sto rfl rfl sz3 (dr_nx ?_)))
                refine dr_nil (nx_kp [0, 7, 8, 12, 13] rfl (nx_xt (xt_normal_block (xt_then (cd_region (st_v (v_move rfl) (st_v (v_add rfl rfl (by unfold I64 at *; omega)) (st_v (v_assign rfl) (st_nil (nx_kp [0, 7, 8, 12, 13] rfl (nx_xt ?_)))))))))))
                rw [arr_set' (by omega)]
                refine xt_ag (k + 1, kk.fwdAt true (a + 1 + k)) ⟨hkl, hnx.symm⟩ (by show _ - _ < _ - _; omega)
            · skip
              rw [hb, if_neg (by simp), List.append_nil] at hps4
              refine cd_skip (xt_normal_block (xt_then (cd_region (st_v (v_move rfl) (st_v (v_add rfl rfl (by unfold I64 at *; omega)) (st_v (v_assign rfl) (st_nil (nx_kp [0, 7, 8, 12, 13] rfl (nx_xt ?_)))))))))
              refine xt_ag (k + 1, kk) ⟨hkl, by rw [hps4]; exact hkk⟩ (by show _ - _ < _ - _; omega)
          · skip
            have hkg : k = (nn.row a).length := by have : ¬ k < (nn.row a).length := by simpa using hc4
                                                   omega
            rw [hkg, plTo_all] at hkk
            obtain ⟨ln6, φ6, h6J, g6', ha6⟩ := h4J.look1 ha'
            rw [← hkk] at h6J g6' ha6
            have hlk2 : AM.look true f' (a + nn.size a) kk = AM.look true m.H.toNat m.old mm := by
              rw [← hlook, hkk]; conv => rhs; unfold AM.look
              rw [if_pos hlt]
            refine cd_exit (xt_exit_then (xt_exit_then (xt_exit_block (xt_then (cd_region (st_v (v_move rfl) (st_v (v_add rfl rfl (by unfold I64 at *; omega)) (st_v (v_move rfl) (st_v (v_len (congrArg some hue) Try.underlying73) (st_v (v_add rfl rfl (by unfold I64 at *; omega)) (st_v (v_assign rfl) (st_nil (nx_kp [0, 7, 8] rfl (nx_xt (xt_normal_block ?_)))))))))))))))
            rw [show a + 1 + ((nn.row a).length : Int) = a + nn.size a by omega]
            refine xt_ag (f', a + nn.size a, kk) ⟨hlk2, by show _ ≤ a + nn.size a + (f' : Int); omega, ln6, φ6, h6J, g4.trans g6', ha6⟩ (by show f' < f' + 1; omega)
        · skip
          have hge3 : ¬ a < nn.old := by simpa using hc3
          have hln : AM.look true f a nn = nn := by
            cases f with
            | zero => rfl
            | succ f => unfold AM.look; rw [if_neg hge3]
          rw [hln] at hlook
          rw [← hlook]
          refine cd_vecnil 161 2 ?_
          refine cd_exit (xt_exit_then (xt_exit_then (xt_exit_block (xt_then (cd_seq (cd_region (st_v (v_move rfl) (st_v (v_move rfl) (st_v (v_nilCheck rfl) (st_v (v_fieldAddr rfl fa52_2 rfl) (st_v (v_ld rfl ld3) ?_)))))))))))
          refine st_cl rfl rfl en102 rfl (rclear_ct (L := L) (m := nn) zn (lo := 1) (n := nn.Y) (by omega) (by omega) (by omega)) ?_
          rintro v' h' ⟨rfl, rfl⟩
          simp only [List.cons_append, List.nil_append]
          refine st_nil (nx_kp [0, 8] rfl (nx_then (cd_seq (cd_region (st_v (v_move rfl) (st_v (v_nilCheck rfl) (st_v (v_fieldAddr rfl fa52_6 rfl) (st_sto rfl rfl sz3 ?_))))))))
          refine st_nil (nx_kp [0, 8] rfl (nx_then (cd_seq (cd_region (st_v (v_move rfl) (st_v (v_nilCheck rfl) (st_v (v_fieldAddr rfl fa52_12 rfl) (st_sto rfl rfl sz50 ?_))))))))
          refine st_nil (nx_kp [8] rfl (nx_then (cd_seq (cd_region (st_v (v_move rfl) (st_v (v_assign rfl) (st_v (v_assign rfl) (st_nil (nx_kp [4, 5] rfl (nx_then (cd_ret ?_)))))))))))
          exact xt_rt rfl ⟨lv, .slice none 0 0, rfl, rfl⟩
end
end Go.Proofs.Ytmhmpjgkkpbnnaa
namespace Go.Proofs.Ytmhmpjgkkpbnnaa
open Go.Ck Fx Go.Hm Go.Hm.AM
attribute [local irreducible] St Cd Xt Nx DrL LsW
section
variable {L : RL} {m : AM} {S R : Res} {t k a : Int} {ly ln lf N rl rs : List Int} {sp : Int} {v : Value} {roots : List Int} {φ : Int → Option Nat} {A : Store}
set_option maxHeartbeats 4000000 in
set_option maxRecDepth 100000 in
theorem rflip_ct (hS : Shp S L.vs m.sh) (h : AM.Good m ly ln lf φ A) (hv : RowI S v roots) (hrl : roots.length ≤ 1000000) :
    Ct Try.prog 55 #[.pointer (some ⟨L.hb, 0, none⟩), v] (rSH L m S) fun u h' => ∃ sl vk, u = .tuple #[sl, .int .i64 (m.flip roots).2.1] ∧ h' = vec sl 3 1 (m.flip roots).1.length (ints (m.flip roots).1) :: (rSH { L with vk := vk } (m.flip roots).2.2 S) := by
  have z := h.g.sz
  have h1 := z.Y0; have h2 := z.Y1; have h3 := z.H0; have h4 := z.H1
  have h5 := m.base_former; have h6 := h.g.oldle
  unfold rSH AM.flip
  refine ct_of (n := 72) Try.func55 rfl rfl (len rfl) fun hr w0 => ?_
  simp only [List.cons_append, List.nil_append]
  refine cd_seq (cd_region (st_v (v_assign rfl) (st_v (v_assign rfl) (st_nil (nx_then (cd_seq (cd_seq (cd_region (st_v (v_move rfl) (st_v (v_nilCheck rfl) (st_v (v_fieldAddr rfl fa52_9 rfl) (st_v (v_ld rfl ld4) ?_))))))))))))
  refine st_nil (nx_kp [0, 1, 4, 5, 13] rfl (nx_then (cd_cond rfl (fun hc => ?_) (fun hc => ?_))))
  · skip
    rw [if_pos hc]
    refine cd_vecnil 3 1 ?_
    refine cd_seq (cd_region (st_v (v_assign rfl) (st_v (v_assign rfl) (st_nil (nx_kp [0, 1, 4, 5] rfl (nx_then (cd_ret (xt_ret_then ?_))))))))
    exact xt_rt rfl ⟨.slice none 0 0, L.vk, rfl, rfl⟩
  · skip
    rw [if_neg (show ¬ m.busy = true by rw [hc]; simp)]
    refine cd_skip (xt_then (cd_seq (cd_region (st_v (v_move rfl) (st_v (v_move rfl) (st_cl rfl rfl en54 rfl (rminor_ct (L := L) (m := m) (S := S) hS h hv hrl) ?_))))))
    rintro v' h' ⟨sl, vk, rfl, rfl⟩
    unfold rSH
    simp only [List.cons_append, List.nil_append]
    refine st_v (v_move rfl) (st_v (v_extract rfl rfl) (st_v (v_extract rfl rfl) (st_v (v_assign rfl) (st_v (v_assign rfl) (st_nil (nx_kp [0, 4, 5, 6, 7] rfl (nx_then (cd_seq (cd_seq (cd_region (st_v (v_move rfl) (st_v (v_neq rfl rfl) (st_nil (nx_kp [0, 4, 5, 6, 7, 21] rfl (nx_then (cd_cond rfl (fun hd => ?_) (fun hd => ?_)))))))))))))))))
    · skip
      rw [if_pos (show (m.minor roots).2.1 ≠ 0 by simpa using hd)]
      refine cd_vecnil 3 1 ?_
      refine cd_seq (cd_region (st_v (v_move rfl) (st_v (v_assign rfl) (st_v (v_assign rfl) (st_nil (nx_kp [0, 4, 5, 6] rfl (nx_then (cd_ret (xt_ret_then ?_)))))))))
      exact xt_rt rfl ⟨.slice none 0 0, vk, rfl, rfl⟩
    · skip
      have hd0 : (m.minor roots).2.1 = 0 := by simpa using hd
      rw [if_neg (show ¬ (m.minor roots).2.1 ≠ 0 by rw [hd0]; simp)]
      have he : m.minorErr roots = 0 := by
        by_cases h0 : m.minorErr roots = 0
        · exact h0
        · rw [minor_no h0] at hd0; exact absurd hd0 h0
      obtain ⟨ln1, φ1, g1, ⟨r1, r2⟩, s1, s2, s3, s4, s5, s6, s7, s8⟩ := h.minor he
      have hlf : lf = [] := h.g.nb hc
      subst hlf
      have hT := g1.turn (minor_rem he)
      obtain ⟨l, hl⟩ : ∃ l, l = (m.minor roots).1 := ⟨_, rfl⟩
      obtain ⟨n, hn⟩ : ∃ n, n = (m.minor roots).2.2 := ⟨_, rfl⟩
      rw [← hl] at r1 r2
      rw [← hn] at g1 hT s1 s2 s3
      rw [← hl, ← hn]
      have hll : l.length ≤ 200 := by rw [r1]; exact (rooted_ok (minorErr_ok he).1).1
      have zn := g1.g.sz
      have z0 := zn.Y0; have z1 := zn.Y1; have z2 := zn.H0; have z3 := zn.H1
      have g2 := n.base_former; have g3 := g1.g.oldle
      have hg := hT.g
      have hfl : ∀ i, ∃ ln' φ', J (AM.fwdL false (l.take i) n.turn).2 [] ln' ln1 [] n.turn.remP (n.turn.base + n.turn.H) [] φ' A ∧ Grow n.turn (AM.fwdL false (l.take i) n.turn).2 [] ln' φ1 φ' := fun i => by
        obtain ⟨a1, a2, a3, a4, _⟩ := J.fwdL (A := A) (φ := φ1) false (l.take i) ⟨hg, hT.s⟩ (fun hq => by cases hq) (fun _ => rfl) (fun v hv ho => by
          obtain ⟨j, hj, rfl⟩ := List.getElem_of_mem (List.mem_of_mem_take hv)
          have hF : n.turn.isF l[j] = true := ho
          rcases (r2 j (by omega) hj).1 with g | g
          · rw [hg.isFn (.inl g)] at hF; cases hF
          · simpa using g)
        exact ⟨a1, a2, a3, a4⟩
      refine cd_skip (xt_then (cd_seq (cd_drawh (ork [(0, 2), (1, 2), (2, 2), (3, 2), (4, 1), (5, 2), (6, 1), (7, 2), (8, 2), (9, 2), (10, 0)] .nil) (fun i => !(Nat.beq i 10)) mixed (by kernel_rfl) ?_)))
      refine dp_v rfl (v_move rfl) (dp_v rfl (v_move rfl) (dp_v rfl (v_nilCheck rfl) (dp_v rfl (v_fieldAddr rfl fa52_7 rfl) (dr_v rfl (v_ld rfl ld3) ?_))))
      refine dp_v rfl (v_move rfl) (dr_clr rfl rfl rfl en48 rfl (base_ct (L := { L with vk := vk }) (m := n) zn) ?_)
      refine dp_v rfl (v_sub rfl rfl (by unfold I64 at *; omega)) (dp_v rfl (v_nilCheck rfl) (dp_v rfl (v_fieldAddr rfl fa52_11 rfl) (dr_eff rfl (st_sto rfl rfl sz3 (dr_nx ?_)))))
      refine dr_nil (nx_kp [0, 4, 5, 6] rfl (nx_then (cd_seq (cd_region (st_v (v_move rfl) (st_v (v_move rfl) (st_v (v_nilCheck rfl) (st_v (v_fieldAddr rfl fa52_8 rfl) (st_v (v_ld rfl ld4) ?_)))))))))
      refine st_v (v_not rfl) (st_v (v_nilCheck rfl) (st_v (v_fieldAddr rfl fa52_8 rfl) (st_sto rfl rfl sz4 ?_)))
      refine st_nil (nx_kp [0, 4, 5, 6] rfl (nx_then (cd_seq (cd_region (st_v (v_move rfl) (st_v (v_move rfl) (st_clr rfl rfl en48 rfl (base_ct (L := { L with vk := vk }) (m := { n with left := n.old - n.base, up := !n.up }) ⟨z0, z1, z2, z3, zn.n, zn.w⟩) ?_)))))))
      refine st_v (v_nilCheck rfl) (st_v (v_fieldAddr rfl fa52_7 rfl) (st_sto rfl rfl sz3 ?_))
      refine st_nil (nx_kp [0, 4, 5, 6] rfl (nx_then (cd_seq (cd_region (st_v (v_move rfl) (st_v (v_move rfl) (st_v (v_nilCheck rfl) (st_v (v_fieldAddr rfl fa52_7 rfl) (st_v (v_ld rfl ld3) ?_)))))))))
      refine st_v (v_nilCheck rfl) (st_v (v_fieldAddr rfl fa52_10 rfl) (st_sto rfl rfl sz3 ?_))
      refine st_nil (nx_kp [0, 4, 5, 6] rfl (nx_then (cd_seq (cd_region (st_v (v_move rfl) (st_v (v_nilCheck rfl) (st_v (v_fieldAddr rfl fa52_9 rfl) (st_sto rfl rfl sz4 ?_))))))))
      refine st_nil (nx_kp [0, 4, 5, 6] rfl (nx_then (cd_seq (cd_region (st_v (v_assign rfl) (st_nil (nx_then (cd_seq (cd_seq (cd_region (st_v (v_assign rfl) (st_nil (nx_then (cd_block (cd_vecnil 3 1 ?_)))))))))))))))
      refine cd_vecshape (v := sl) (E := 3) (sz := 1) (n := l.length) (l := ints l) (by repeat (first | exact Sel.here | apply Sel.there)) fun sa scp hsv hsa => ?_
      refine cd_loop (σ := Nat × Value) (fun q => [(0, .pointer (some ⟨L.hb, 0, none⟩)), (6, sl), (8, q.2), (9, .int .i64 (q.1 : Nat))]) (fun q => vec q.2 3 1 (AM.fwdL false (l.take q.1) n.turn).1.length (ints (AM.fwdL false (l.take q.1) n.turn).1) :: vec sl 3 1 l.length (ints l) :: (rSH { L with vk := vk } (AM.fwdL false (l.take q.1) n.turn).2 S ++ hr)) (fun q => q.1 ≤ l.length) (fun q => l.length - q.1) (0, .slice none 0 0) (Nat.zero_le _) ⟨rfl, rfl, rfl, rfl, trivial⟩ (by repeat (first | exact Sub.refl _ | exact Sub.nil _ | refine Sub.sel (by repeat (first | exact Sel.here | apply Sel.there)) ?_ | apply Sub.cons)) ?_
      rintro ⟨i, lv⟩ hi
      dsimp only at hi ⊢
      unfold rSH
      simp only [List.cons_append, List.nil_append]
      refine cd_seq (cd_seq (cd_region (st_v (v_move rfl) (st_v (v_move rfl) (st_v (v_len (congrArg some hsv) Try.underlying34) (st_v (v_lss rfl rfl) (st_nil (nx_kp [0, 6, 8, 9, 59] rfl (nx_then (cd_cond rfl (fun hf => ?_) (fun hf => ?_)))))))))))
      · skip
        have hlt : i < l.length := by simpa using hf
        obtain ⟨sb, rfl⟩ := hsa (by omega)
        have hrd : Rd (vec sl 3 1 l.length (ints l)) ⟨sb, i, none⟩ (.int .i64 l[i]) := rd_vec hsv (by simp [ints, hlt])
        obtain ⟨ln2, φ2, j2, q2⟩ := hfl i
        have hours : Ours (AM.fwdL false (l.take i) n.turn).2 [] [] ln1 false l[i] := fun ho => by
          rw [(mv_fwdL false (l.take i) n.turn).ours] at ho
          have hF : n.turn.isF l[i] = true := ho
          rcases (r2 i (by omega) hlt).1 with g | g
          · rw [hg.isFn (.inl g)] at hF; cases hF
          · simpa using g
        have hlen := fwdL_len false (l.take i) n.turn
        have hlen2 : (l.take i).length ≤ i := by rw [List.length_take]; omega
        refine cd_skip (xt_then (cd_seq (cd_block (cd_region (st_v (v_move rfl) (st_v (v_move rfl) (st_v (v_move rfl) (st_v (v_move rfl) (st_v (v_idx i (congrArg some hsv) rfl sl34 rfl hlt) (st_v (v_ld rfl ld3) ?_))))))))))
        refine st_cl rfl rfl en97 rfl (rfwd_ct (L := { L with vk := vk }) (S := S) (m := (AM.fwdL false (l.take i) n.turn).2) (by rw [q2.sh]; show Shp S L.vs n.sh; rw [s1]; exact hS) j2.g hours) ?_
        rintro v' h' ⟨rfl, rfl⟩
        unfold rSH
        simp only [List.cons_append, List.nil_append]
        refine st_buildSlice (cells := [.int .i64 ((AM.fwdL false (l.take i) n.turn).2.fwd false l[i]).1]) rfl Try.underlying34 inf3 rfl rfl (by kernel_rfl) (ltn rfl) fun b37 => ?_
        refine st_append (news := [.int .i64 ((AM.fwdL false (l.take i) n.turn).2.fwd false l[i]).1]) rfl rfl Try.underlying34 inf3 rfl (ltn rfl) (by repeat (first | exact Sel.here | apply Sel.there)) rfl (fun j u hu => by repeat (first | exact at_here (rd_cl (by simpa using hu)) | apply at_there)) (ones rfl) (by omega) (by omega) (ltn rfl) fun lv' hlv' hv1' => ?_
        refine st_v (v_assign rfl) (st_nil (nx_kp [0, 6, 8, 9] rfl (nx_xt (xt_normal_block (xt_then (cd_region (st_v (v_move rfl) (st_v (v_add rfl rfl (by unfold I64 at *; omega)) (st_v (v_assign rfl) (st_nil (nx_kp [0, 6, 8, 9] rfl (nx_xt ?_))))))))))))
        rw [show ints (AM.fwdL false (l.take i) n.turn).1 ++ [.int .i64 ((AM.fwdL false (l.take i) n.turn).2.fwd false l[i]).1] = ints (AM.fwdL false (l.take (i + 1)) n.turn).1 by rw [fwdL_take false hlt]; simp [ints],
          show (AM.fwdL false (l.take i) n.turn).1.length + 1 = (AM.fwdL false (l.take (i + 1)) n.turn).1.length by rw [fwdL_take false hlt]; simp,
          show ((AM.fwdL false (l.take i) n.turn).2.fwd false l[i]).2 = (AM.fwdL false (l.take (i + 1)) n.turn).2 by rw [fwdL_take false hlt]]
        refine xt_ag (i + 1, lv') hlt (by show _ - _ < _ - _; omega)
      · skip
        have hge : l.take i = l := List.take_of_length_le (by simpa using hf)
        rw [hge]
        refine cd_exit (xt_exit_then (xt_exit_then (xt_exit_block (xt_then (cd_seq (cd_region (st_v (v_move rfl) (st_v (v_assign rfl) (st_v (v_assign rfl) (st_nil (nx_kp [4, 5] rfl (nx_then (cd_ret ?_)))))))))))))
        exact xt_rt rfl ⟨lv, vk, rfl, rfl⟩
end
end Go.Proofs.Ytmhmpjgkkpbnnaa
namespace Go.Proofs.Ytmhmpjgkkpbnnaa
open Go.Ck Fx Go.Hm Go.Hm.AM
attribute [local irreducible] St Cd Xt Nx DrL LsW
section
variable {L : RL} {m : AM} {S R : Res} {t k a : Int} {ly ln lf N rl rs : List Int} {sp : Int} {v : Value} {roots : List Int} {φ : Int → Option Nat} {A : Store}
set_option maxRecDepth 100000 in
theorem rrefers_ct (hS : Shp S L.vs m.sh) (h : Gd m ly ln lf N rl sp rs) (hs1 : m.base ≤ m.scan) (hs2 : m.scan < m.old) : Reads Try.prog 103 #[.pointer (some ⟨L.hb, 0, none⟩), .int .i64 m.scan] [hR L m, eR L m, S] (.bool (m.isRef m.scan)) := by
  have z := h.sz
  have h1 := z.Y0; have h2 := z.Y1; have h3 := z.H0; have h4 := z.H1
  have h5 := m.base_former; have h6 := h.oldle
  obtain ⟨a, ha, ha1, ha2, hob, hrf⟩ := h.scanned hs1 hs2
  have o := ob_n h ha
  have g1 := o.t0; have g2 := o.h2; have hlen := o.len z; have hsz : m.size a = 1 + (m.row a).length := rfl
  have hrn : rn m = (m.Y + 2 * m.H + 1).toNat := rfl
  unfold AM.isRef
  rw [hob]
  refine ct_of (n := 31) Try.func103 rfl rfl (len rfl) fun hr w0 => ?_
  refine cd_seq (cd_region (st_v (v_assign rfl) (st_nil (nx_then (cd_seq (cd_region (st_v (v_move rfl) (st_v (v_assign rfl) (st_nil (nx_kp [0, 1, 4, 5] rfl (nx_then (cd_seq (cd_block (cd_loop (σ := Nat) (fun i => [(0, .pointer (some ⟨L.hb, 0, none⟩)), (1, .int .i64 m.scan), (5, .int .i64 (m.scan - (i : Nat)))]) (fun _ => [hR L m, eR L m, S] ++ hr) (fun i => a + (i : Int) ≤ m.scan) (fun i => (m.scan - a).toNat - i) 0 (by show a + ((0 : Nat) : Int) ≤ m.scan; omega) ⟨rfl, rfl, (by rw [show m.scan - ((0 : Nat) : Int) = m.scan by omega]; rfl), trivial⟩ (Sub.refl _) ?_))))))))))))))
  rintro i hi
  have hrd : Rd (eR L m) ⟨L.eb, (m.scan - (i : Int)).toNat, none⟩ (.int .i64 (m.head (m.scan - i))) := a_rd (by omega) (by omega)
  simp only [List.cons_append, List.nil_append]
  refine cd_seq (cd_seq (cd_region (st_v (v_move rfl) (st_v (v_nilCheck rfl) (st_v (v_fieldAddr rfl fa52_4 rfl) (st_v (v_ld rfl ld34) ?_))))))
  refine st_v (v_move rfl) (st_v (v_idx (m.scan - (i : Int)).toNat rfl rfl sl34 (by omega) (by omega)) (st_v (v_ld rfl ld3) ?_))
  refine st_v (v_eql rfl rfl) (st_nil (nx_kp [0, 1, 5, 14] rfl (nx_then (cd_cond rfl (fun hc => ?_) (fun hc => ?_)))))
  · skip
    have h0 : m.head (m.scan - i) = 0 := by simpa using hc
    have hne : m.scan - (i : Int) ≠ a := fun e => by have := o.h0; rw [e] at h0; omega
    refine cd_skip (xt_then (cd_block (cd_region (st_v (v_move rfl) (st_v (v_sub rfl rfl (by unfold I64 at *; omega)) (st_v (v_assign rfl) (st_nil (nx_kp [0, 1, 5] rfl (nx_xt (xt_normal_block ?_))))))))))
    rw [show m.scan - (i : Int) - 1 = m.scan - ((i + 1 : Nat) : Int) by omega]
    refine xt_ag (i + 1) (show a + ((i + 1 : Nat) : Int) ≤ m.scan by omega) (by omega)
  · skip
    have h0 : m.head (m.scan - i) ≠ 0 := by simpa using hc
    have hea : m.scan - (i : Int) = a := by
      by_cases hq : m.scan - (i : Int) = a
      · exact hq
      · exact absurd (h.inner ha (x := m.scan - i) (by omega) (by omega)) h0
    rw [hea]
    obtain ⟨u, hu, hct⟩ := rshape_ct hS z o
    obtain ⟨ua, ucp, hue, _⟩ := id hu
    refine cd_exit (xt_exit_then (xt_exit_then (xt_exit_block (xt_then (cd_seq (cd_region (st_v (v_move rfl) (st_v (v_move rfl) (st_v (v_lss rfl rfl) (st_v (v_move rfl) ?_))))))))))
    cases hb : decide (a < m.scan)
    · skip
      refine st_sk rfl rfl rfl ?_
      refine st_sk rfl rfl rfl ?_
      refine st_sk rfl rfl rfl ?_
      refine st_sk rfl rfl rfl ?_
      refine st_sk rfl rfl rfl ?_
      refine st_sk rfl rfl rfl ?_
      refine st_sk rfl rfl rfl ?_
      refine st_sk rfl rfl rfl ?_
      refine st_sk rfl rfl rfl ?_
      refine st_v (v_pick_false rfl rfl) (st_v (v_assign rfl) (st_nil (nx_kp [4] rfl (nx_then (cd_ret ?_)))))
      exact xt_rt rfl ⟨rfl, rfl⟩
    · skip
      have hlt : a < m.scan := by simpa using hb
      have hkl : (m.scan - a - 1).toNat < (m.row a).length := by omega
      obtain ⟨ub, uo, ucp', hue2, hrdu⟩ := hu.at hkl
      have href : (m.row a)[(m.scan - a - 1).toNat] = m.ref a (m.scan - a - 1) := by unfold AM.ref; rw [List.getD_eq_getElem?_getD, List.getElem?_eq_getElem hkl]; rfl
      rw [href] at hrdu
      rw [Bool.true_and]
      refine st_vg rfl rfl (v_move rfl) (st_vg rfl rfl (v_move rfl) (st_clrg rfl rfl rfl rfl en64 rfl (hct) ?_))
      refine st_vg rfl rfl (v_move rfl) (st_vg rfl rfl (v_move rfl) (st_vg rfl rfl (v_sub rfl rfl (by unfold I64 at *; omega)) (st_vg rfl rfl (v_sub rfl rfl (by unfold I64 at *; omega)) (st_vg rfl rfl (v_ixo (m.scan - a - 1).toNat (congrArg some hue2) rfl sl73 (by omega) hkl) (st_vg rfl rfl (v_ld rfl ld4) ?_)))))
      refine st_v (v_pick_true rfl rfl) (st_v (v_assign rfl) (st_nil (nx_kp [4] rfl (nx_then (cd_ret ?_)))))
      exact xt_rt rfl ⟨rfl, rfl⟩
end
end Go.Proofs.Ytmhmpjgkkpbnnaa
namespace Go.Proofs.Ytmhmpjgkkpbnnaa
open Go.Ck Fx Go.Hm Go.Hm.AM
attribute [local irreducible] St Cd Xt Nx DrL LsW
section
variable {L : RL} {m : AM} {S R : Res} {t k a : Int} {ly ln lf N rl rs : List Int} {sp : Int} {v : Value} {roots : List Int} {φ : Int → Option Nat} {A : Store}
/-- The word that is scanned is forwarded as it must be. -/
theorem Good.ours_s (h : AM.Good m ly ln lf φ A) (hb : m.busy = true) (hs : m.scan < m.old) (hr : m.isRef m.scan = true) : Ours m ly [] lf false (m.word m.scan) := by
  obtain ⟨a, ha, ha1, ha2, hob, hrf⟩ := h.g.scanned (h.g.sc hb).1 hs
  exact Good.ours_f h (.inr ha) (hrf.1 hr)
set_option maxHeartbeats 4000000 in
set_option maxRecDepth 100000 in
theorem rstep_ct (hS : Shp S L.vs m.sh) (h : AM.Good m ly ln lf φ A) {w : Int} (hw : I64 w) :
    Ct Try.prog 56 #[.pointer (some ⟨L.hb, 0, none⟩), .int .i64 w] (rSH L m S) fun u h' => u = .tuple #[.int .i64 (m.step w).1, .int .i64 (m.step w).2.1] ∧ h' = rSH L (m.step w).2.2 S := by
  obtain ⟨M, hM⟩ : ∃ M, M = AM.steps w.toNat m := ⟨_, rfl⟩
  unfold rSH AM.step
  rw [← hM]
  dsimp only
  refine ct_of (n := 97) Try.func56 rfl rfl (len rfl) fun hr w0 => ?_
  simp only [List.cons_append, List.nil_append]
  refine cd_seq (cd_region (st_v (v_assign rfl) (st_v (v_assign rfl) (st_nil (nx_then (cd_seq (cd_seq (cd_region (st_v (v_move rfl) (st_v (v_lss rfl rfl) (st_nil (nx_kp [0, 1, 4, 5, 8] rfl (nx_then (cd_cond rfl (fun hc => ?_) (fun hc => ?_)))))))))))))))
  · skip
    rw [if_pos hc]
    refine cd_seq (cd_region (st_v (v_assign rfl) (st_v (v_assign rfl) (st_nil (nx_kp [0, 1, 4, 5] rfl (nx_then (cd_ret (xt_ret_then ?_))))))))
    exact xt_rt rfl ⟨rfl, rfl⟩
  · skip
    have hw0 : 0 ≤ w := by simpa using hc
    rw [if_neg (by rw [hc]; simp)]
    refine cd_skip (xt_then (cd_seq (cd_seq (cd_region (st_v (v_move rfl) (st_v (v_nilCheck rfl) (st_v (v_fieldAddr rfl fa52_9 rfl) (st_v (v_ld rfl ld4) ?_))))))))
    refine st_v (v_not rfl) (st_nil (nx_kp [0, 1, 4, 5, 13] rfl (nx_then (cd_cond rfl (fun hd => ?_) (fun hd => ?_)))))
    · skip
      rw [if_pos hd]
      refine cd_seq (cd_region (st_v (v_assign rfl) (st_v (v_assign rfl) (st_nil (nx_kp [0, 1, 4, 5] rfl (nx_then (cd_ret (xt_ret_then ?_))))))))
      exact xt_rt rfl ⟨rfl, rfl⟩
    · skip
      have hbz : m.busy = true := by simpa using hd
      rw [if_neg (by rw [hd]; simp)]
      refine cd_skip (xt_then (cd_seq (cd_block (cd_loop (σ := Nat × AM) (fun q => [(0, .pointer (some ⟨L.hb, 0, none⟩)), (1, .int .i64 (q.1 : Nat))]) (fun q => rSH L q.2 S ++ hr) (fun q => (q.1 : Int) ≤ w ∧ AM.steps q.1 q.2 = M ∧ q.2.busy = true ∧ q.2.sh = m.sh ∧ ∃ ln' φ', AM.Good q.2 ly ln' lf φ' A) (fun q => q.1) (w.toNat, m) ⟨by show (w.toNat : Int) ≤ w; omega, hM.symm, hbz, rfl, ln, φ, h⟩ ⟨rfl, (by rw [show ((w.toNat : Nat) : Int) = w by omega]; rfl), trivial⟩ (Sub.refl _) ?_))))
      rintro ⟨j, n⟩ ⟨hj, hst, hb, hsh, ln1, φ1, g1⟩
      dsimp only at hj hst hb hsh g1 ⊢
      have zn := g1.g.sz
      have z0 := zn.Y0; have z1 := zn.Y1; have z2 := zn.H0; have z3 := zn.H1
      have g2 := n.base_former; have g3 := g1.g.oldle; have g4 := g1.g.sc hb
      have hrn : rn n = (n.Y + 2 * n.H + 1).toNat := rfl
      unfold rSH
      simp only [List.cons_append, List.nil_append]
      refine cd_seq (cd_seq (cd_drawh (ork [(0, 2), (1, 2), (2, 2), (3, 2), (4, 2), (5, 2), (6, 1), (7, 2), (8, 2), (9, 2), (10, 1), (11, 2), (12, 2)] .nil) (fun _ => true) mixed (by kernel_rfl) ?_))
      refine dp_v rfl (v_move rfl) (dp_v rfl (v_gtr rfl rfl) (dp_v rfl (v_move rfl) (dr_cut (k := 10) (d := 26) (v := .bool (decide (0 < (j : Int)) && decide (n.scan < n.old))) (fun hcut => bool_want (b := decide (0 < (j : Int))) true (fun hg => ?_) (fun hg => ?_)) ?_)))
      · refine dp_sk rfl rfl rfl hg ?_
        refine dp_sk rfl rfl rfl hg ?_
        refine dp_sk rfl rfl rfl hg ?_
        refine dr_sk rfl rfl rfl hg ?_
        refine dp_sk rfl rfl rfl hg ?_
        refine dp_sk rfl rfl rfl hg ?_
        refine dp_sk rfl rfl rfl hg ?_
        refine dr_sk rfl rfl rfl hg ?_
        refine dp_sk rfl rfl rfl hg ?_
        refine dp_v rfl (v_pick_false (bool_ev rfl hg) rfl) ?_
        exact hcut _ (ssub_head (by first | rfl | (rw [hg]; rfl) | simp_all) (ssub_skip rfl (ssub_skip rfl (ssub_skip rfl (ssub_skip rfl (ssub_skip rfl (ssub_skip rfl (ssub_skip rfl (ssub_skip rfl (ssub_skip rfl (ssub_refl)))))))))))
      · skip
        refine dp_vg rfl rfl (bool_get rfl hg) (v_move rfl) (dp_vg rfl rfl (bool_get rfl hg) (v_nilCheck rfl) (dp_vg rfl rfl (bool_get rfl hg) (v_fieldAddr rfl fa52_10 rfl) (dr_vg rfl rfl (bool_get rfl hg) (v_ld rfl ld3) ?_)))
        refine dp_vg rfl rfl (bool_get rfl hg) (v_move rfl) (dp_vg rfl rfl (bool_get rfl hg) (v_nilCheck rfl) (dp_vg rfl rfl (bool_get rfl hg) (v_fieldAddr rfl fa52_7 rfl) (dr_vg rfl rfl (bool_get rfl hg) (v_ld rfl ld3) ?_)))
        refine dp_vg rfl rfl (bool_get rfl hg) (v_lss rfl rfl) (dp_v rfl (v_pick_true (bool_ev rfl hg) rfl) ?_)
        exact hcut _ (ssub_head (by first | rfl | (rw [hg]; rfl) | simp_all) (ssub_skip rfl (ssub_skip rfl (ssub_skip rfl (ssub_skip rfl (ssub_skip rfl (ssub_skip rfl (ssub_skip rfl (ssub_skip rfl (ssub_skip rfl (ssub_refl)))))))))))
      refine dr_nil (nx_kp [0, 1, 26] rfl (nx_then (cd_cond rfl (fun he => ?_) (fun he => ?_))))
      · skip
        have hj0 : 0 < j := by simp at he; omega
        have hs0 : n.scan < n.old := by simp at he; omega
        obtain ⟨j', rfl⟩ : ∃ j', j = j' + 1 := ⟨j - 1, by omega⟩
        have hst1 : AM.steps j' n.step1 = M := by
          rw [← hst]; show _ = if _ then _ else _; rw [if_pos hs0]
        obtain ⟨ln2, φ2, k1, k2, k3, k4, k5, k6, k7, k8, k9, k10, k11⟩ := g1.step1 hb hs0
        have hrd : Rd (wR L n) ⟨L.wb, n.scan.toNat, none⟩ (.int .i64 (n.word n.scan)) := a_rd (by omega) (by omega)
        refine cd_skip (xt_then (cd_block (cd_seq (cd_region (st_v (v_move rfl) (st_v (v_move rfl) (st_v (v_nilCheck rfl) (st_v (v_fieldAddr rfl fa52_10 rfl) (st_v (v_ld rfl ld3) ?_)))))))))
        refine st_clr rfl rfl en103 rfl (rrefers_ct (by rw [hsh]; exact hS) g1.g g4.1 hs0) ?_
        refine st_v (v_assign rfl) (st_nil (nx_kp [0, 1, 6] rfl (nx_then (cd_seq (cd_seq (cd_region (st_v (v_move rfl) (st_nil (nx_kp [0, 1, 33] rfl (nx_then (cd_cond rfl (fun hf => ?_) (fun hf => ?_))))))))))))
        · skip
          have hn1 : n.step1 = { n.fwdAt false n.scan with scan := (n.fwdAt false n.scan).scan + 1 } := by unfold AM.step1; rw [if_pos hf]
          obtain ⟨a, ha, ha1, ha2, hob, hrf⟩ := g1.g.scanned g4.1 hs0
          obtain ⟨ln3, φ3, j3, q3, sc3, _⟩ := J.fwdAt (A := A) (φ := φ1) ⟨g1.g, g1.s⟩ false (rl' := n.remP) (sp' := n.base + n.H) (.inl ha) (hrf.1 hf) (fun hq => by cases hq) (fun _ => rfl) (fun q _ hq => hq)
          have hsc : (n.fwd false (n.word n.scan)).2.scan = n.scan := sc3
          have hrn1 := rn_fwd n false (n.word n.scan)
          have hal := arr_len (rn (n.fwd false (n.word n.scan)).2) (n.fwd false (n.word n.scan)).2.word
          refine cd_drawh (ork [(0, 2), (1, 2), (2, 2), (4, 2), (5, 2), (6, 2), (8, 2), (9, 2), (10, 2), (11, 2), (12, 1), (13, 2), (14, 2), (15, 2), (16, 1), (17, 2), (18, 1)] (.three 3 (.two 7 (ork [(19, 0), (20, 2), (21, 0)] .nil) 19 (ork [(7, 0), (20, 2), (21, 0)] .nil)) 7 (.two 3 (ork [(19, 0), (20, 2), (21, 0)] .nil) 19 (ork [(3, 0), (20, 2), (21, 0)] .nil)) 19 (.two 3 (ork [(7, 0), (20, 2), (21, 0)] .nil) 7 (ork [(3, 0), (20, 2), (21, 0)] .nil)))) (fun i => !(Nat.beq i 19 || Nat.beq i 21)) mixed (by kernel_rfl) ?_
          refine dp_v rfl (v_move rfl) (dp_v rfl (v_nilCheck rfl) (dp_v rfl (v_fieldAddr rfl fa52_3 rfl) (dp_v rfl (v_move rfl) (dp_v rfl (v_nilCheck rfl) (dp_v rfl (v_fieldAddr rfl fa52_10 rfl) (dp_v rfl (v_move rfl) (dp_v rfl (v_move rfl) (dp_v rfl (v_nilCheck rfl) (dp_v rfl (v_fieldAddr rfl fa52_3 rfl) (dr_v rfl (v_ld rfl ld34) ?_))))))))))
          refine dp_v rfl (v_move rfl) (dp_v rfl (v_nilCheck rfl) (dp_v rfl (v_fieldAddr rfl fa52_10 rfl) (dr_v rfl (v_ld rfl ld3) ?_)))
          refine dp_v rfl (v_idx n.scan.toNat rfl rfl sl34 (by omega) (by omega)) (dr_v rfl (v_ld rfl ld3) ?_)
          refine dr_three rfl rfl rfl ?_ ?_ ?_
          · skip
            refine st_v (v_ld rfl ld34) (dr_nx ?_)
            refine dr_two rfl rfl ?_ ?_
            · skip
              refine st_v (v_ld rfl ld3) (dr_nx ?_)
              refine dr_eff rfl (st_cl rfl rfl en97 rfl (rfwd_ct (L := L) (S := S) (by rw [hsh]; exact hS) g1.g (Good.ours_s g1 hb hs0 hf)) ?_)
              rintro v' h' ⟨rfl, rfl⟩
              unfold rSH
              simp only [List.cons_append, List.nil_append]
              refine dr_nx ?_
              refine dp_v rfl (v_idx n.scan.toNat rfl rfl sl34 (by omega) (by omega)) (dr_eff rfl (st_sto rfl rfl sz3 (dr_nx ?_)))
              refine dr_nil (nx_kp [0, 1] rfl (nx_then (cd_seq (cd_region (st_v (v_move rfl) (st_v (v_move rfl) (st_v (v_nilCheck rfl) (st_v (v_fieldAddr rfl fa52_10 rfl) (st_v (v_ld rfl ld3) ?_)))))))))
              refine st_v (v_add rfl rfl (by unfold I64 at *; omega)) (st_v (v_nilCheck rfl) (st_v (v_fieldAddr rfl fa52_10 rfl) (st_sto rfl rfl sz3 ?_)))
              refine st_nil (nx_kp [0, 1] rfl (nx_then (cd_region (st_v (v_move rfl) (st_v (v_sub rfl rfl (by unfold I64 at *; omega)) (st_v (v_assign rfl) (st_nil (nx_kp [0, 1] rfl (nx_xt (xt_normal_block ?_))))))))))
              rw [arr_set' (by omega)]
              rw [show ((j' + 1 : Nat) : Int) - 1 = (j' : Int) by omega]
              refine xt_ag (j', { n.fwdAt false n.scan with scan := (n.fwdAt false n.scan).scan + 1 }) (by rw [← hn1]; exact ⟨(by show (j' : Int) ≤ w; omega), hst1, k8, k4.trans hsh, ln2, φ2, k1⟩) (by show j' < j' + 1; omega)
            · skip
              refine st_cl rfl rfl en97 rfl (rfwd_ct (L := L) (S := S) (by rw [hsh]; exact hS) g1.g (Good.ours_s g1 hb hs0 hf)) ?_
              rintro v' h' ⟨rfl, rfl⟩
              unfold rSH
              simp only [List.cons_append, List.nil_append]
              refine dr_nx ?_
              refine dr_eff rfl (st_v (v_ld rfl ld3) (dr_nx ?_))
              refine dp_v rfl (v_idx n.scan.toNat rfl rfl sl34 (by omega) (by omega)) (dr_eff rfl (st_sto rfl rfl sz3 (dr_nx ?_)))
              refine dr_nil (nx_kp [0, 1] rfl (nx_then (cd_seq (cd_region (st_v (v_move rfl) (st_v (v_move rfl) (st_v (v_nilCheck rfl) (st_v (v_fieldAddr rfl fa52_10 rfl) (st_v (v_ld rfl ld3) ?_)))))))))
              refine st_v (v_add rfl rfl (by unfold I64 at *; omega)) (st_v (v_nilCheck rfl) (st_v (v_fieldAddr rfl fa52_10 rfl) (st_sto rfl rfl sz3 ?_)))
              refine st_nil (nx_kp [0, 1] rfl (nx_then (cd_region (st_v (v_move rfl) (st_v (v_sub rfl rfl (by unfold I64 at *; omega)) (st_v (v_assign rfl) (st_nil (nx_kp [0, 1] rfl (nx_xt (xt_normal_block ?_))))))))))
              rw [arr_set' (by omega)]
              rw [show ((j' + 1 : Nat) : Int) - 1 = (j' : Int) by omega]
              refine xt_ag (j', { n.fwdAt false n.scan with scan := (n.fwdAt false n.scan).scan + 1 }) (by rw [← hn1]; exact ⟨(by show (j' : Int) ≤ w; omega), hst1, k8, k4.trans hsh, ln2, φ2, k1⟩) (by show j' < j' + 1; omega)
          · skip
            refine st_v (v_ld rfl ld3) (dr_nx ?_)
            refine dr_two rfl rfl ?_ ?_
            · skip
              refine st_v (v_ld rfl ld34) (dr_nx ?_)
              refine dr_eff rfl (st_cl rfl rfl en97 rfl (rfwd_ct (L := L) (S := S) (by rw [hsh]; exact hS) g1.g (Good.ours_s g1 hb hs0 hf)) ?_)
              rintro v' h' ⟨rfl, rfl⟩
              unfold rSH
              simp only [List.cons_append, List.nil_append]
              refine dr_nx ?_
              refine dp_v rfl (v_idx n.scan.toNat rfl rfl sl34 (by omega) (by omega)) (dr_eff rfl (st_sto rfl rfl sz3 (dr_nx ?_)))
              refine dr_nil (nx_kp [0, 1] rfl (nx_then (cd_seq (cd_region (st_v (v_move rfl) (st_v (v_move rfl) (st_v (v_nilCheck rfl) (st_v (v_fieldAddr rfl fa52_10 rfl) (st_v (v_ld rfl ld3) ?_)))))))))
              refine st_v (v_add rfl rfl (by unfold I64 at *; omega)) (st_v (v_nilCheck rfl) (st_v (v_fieldAddr rfl fa52_10 rfl) (st_sto rfl rfl sz3 ?_)))
              refine st_nil (nx_kp [0, 1] rfl (nx_then (cd_region (st_v (v_move rfl) (st_v (v_sub rfl rfl (by unfold I64 at *; omega)) (st_v (v_assign rfl) (st_nil (nx_kp [0, 1] rfl (nx_xt (xt_normal_block ?_))))))))))
              rw [arr_set' (by omega)]
              rw [show ((j' + 1 : Nat) : Int) - 1 = (j' : Int) by omega]
              refine xt_ag (j', { n.fwdAt false n.scan with scan := (n.fwdAt false n.scan).scan + 1 }) (by rw [← hn1]; exact ⟨(by show (j' : Int) ≤ w; omega), hst1, k8, k4.trans hsh, ln2, φ2, k1⟩) (by show j' < j' + 1; omega)
            · skip
              refine st_cl rfl rfl en97 rfl (rfwd_ct (L := L) (S := S) (by rw [hsh]; exact hS) g1.g (Good.ours_s g1 hb hs0 hf)) ?_
              rintro v' h' ⟨rfl, rfl⟩
              unfold rSH
              simp only [List.cons_append, List.nil_append]
              refine dr_nx ?_
              refine dr_eff rfl (st_v (v_ld rfl ld34) (dr_nx ?_))
              refine dp_v rfl (v_idx n.scan.toNat rfl rfl sl34 (by omega) (by omega)) (dr_eff rfl (st_sto rfl rfl sz3 (dr_nx ?_)))
              refine dr_nil (nx_kp [0, 1] rfl (nx_then (cd_seq (cd_region (st_v (v_move rfl) (st_v (v_move rfl) (st_v (v_nilCheck rfl) (st_v (v_fieldAddr rfl fa52_10 rfl) (st_v (v_ld rfl ld3) ?_)))))))))
              refine st_v (v_add rfl rfl (by unfold I64 at *; omega)) (st_v (v_nilCheck rfl) (st_v (v_fieldAddr rfl fa52_10 rfl) (st_sto rfl rfl sz3 ?_)))
              refine st_nil (nx_kp [0, 1] rfl (nx_then (cd_region (st_v (v_move rfl) (st_v (v_sub rfl rfl (by unfold I64 at *; omega)) (st_v (v_assign rfl) (st_nil (nx_kp [0, 1] rfl (nx_xt (xt_normal_block ?_))))))))))
              rw [arr_set' (by omega)]
              rw [show ((j' + 1 : Nat) : Int) - 1 = (j' : Int) by omega]
              refine xt_ag (j', { n.fwdAt false n.scan with scan := (n.fwdAt false n.scan).scan + 1 }) (by rw [← hn1]; exact ⟨(by show (j' : Int) ≤ w; omega), hst1, k8, k4.trans hsh, ln2, φ2, k1⟩) (by show j' < j' + 1; omega)
          · skip
            refine st_cl rfl rfl en97 rfl (rfwd_ct (L := L) (S := S) (by rw [hsh]; exact hS) g1.g (Good.ours_s g1 hb hs0 hf)) ?_
            rintro v' h' ⟨rfl, rfl⟩
            unfold rSH
            simp only [List.cons_append, List.nil_append]
            refine dr_nx ?_
            refine dr_two rfl rfl ?_ ?_
            · skip
              refine st_v (v_ld rfl ld34) (dr_nx ?_)
              refine dr_eff rfl (st_v (v_ld rfl ld3) (dr_nx ?_))
              refine dp_v rfl (v_idx n.scan.toNat rfl rfl sl34 (by omega) (by omega)) (dr_eff rfl (st_sto rfl rfl sz3 (dr_nx ?_)))
              refine dr_nil (nx_kp [0, 1] rfl (nx_then (cd_seq (cd_region (st_v (v_move rfl) (st_v (v_move rfl) (st_v (v_nilCheck rfl) (st_v (v_fieldAddr rfl fa52_10 rfl) (st_v (v_ld rfl ld3) ?_)))))))))
              refine st_v (v_add rfl rfl (by unfold I64 at *; omega)) (st_v (v_nilCheck rfl) (st_v (v_fieldAddr rfl fa52_10 rfl) (st_sto rfl rfl sz3 ?_)))
              refine st_nil (nx_kp [0, 1] rfl (nx_then (cd_region (st_v (v_move rfl) (st_v (v_sub rfl rfl (by unfold I64 at *; omega)) (st_v (v_assign rfl) (st_nil (nx_kp [0, 1] rfl (nx_xt (xt_normal_block ?_))))))))))
              rw [arr_set' (by omega)]
              rw [show ((j' + 1 : Nat) : Int) - 1 = (j' : Int) by omega]
              refine xt_ag (j', { n.fwdAt false n.scan with scan := (n.fwdAt false n.scan).scan + 1 }) (by rw [← hn1]; exact ⟨(by show (j' : Int) ≤ w; omega), hst1, k8, k4.trans hsh, ln2, φ2, k1⟩) (by show j' < j' + 1; omega)
            · skip
              refine st_v (v_ld rfl ld3) (dr_nx ?_)
              refine dr_eff rfl (st_v (v_ld rfl ld34) (dr_nx ?_))
              refine dp_v rfl (v_idx n.scan.toNat rfl rfl sl34 (by omega) (by omega)) (dr_eff rfl (st_sto rfl rfl sz3 (dr_nx ?_)))
              refine dr_nil (nx_kp [0, 1] rfl (nx_then (cd_seq (cd_region (st_v (v_move rfl) (st_v (v_move rfl) (st_v (v_nilCheck rfl) (st_v (v_fieldAddr rfl fa52_10 rfl) (st_v (v_ld rfl ld3) ?_)))))))))
              refine st_v (v_add rfl rfl (by unfold I64 at *; omega)) (st_v (v_nilCheck rfl) (st_v (v_fieldAddr rfl fa52_10 rfl) (st_sto rfl rfl sz3 ?_)))
              refine st_nil (nx_kp [0, 1] rfl (nx_then (cd_region (st_v (v_move rfl) (st_v (v_sub rfl rfl (by unfold I64 at *; omega)) (st_v (v_assign rfl) (st_nil (nx_kp [0, 1] rfl (nx_xt (xt_normal_block ?_))))))))))
              rw [arr_set' (by omega)]
              rw [show ((j' + 1 : Nat) : Int) - 1 = (j' : Int) by omega]
              refine xt_ag (j', { n.fwdAt false n.scan with scan := (n.fwdAt false n.scan).scan + 1 }) (by rw [← hn1]; exact ⟨(by show (j' : Int) ≤ w; omega), hst1, k8, k4.trans hsh, ln2, φ2, k1⟩) (by show j' < j' + 1; omega)
        · skip
          have hn1 : n.step1 = { n with scan := n.scan + 1 } := by unfold AM.step1; rw [if_neg (by rw [hf]; simp)]
          refine cd_skip (xt_then (cd_seq (cd_region (st_v (v_move rfl) (st_v (v_move rfl) (st_v (v_nilCheck rfl) (st_v (v_fieldAddr rfl fa52_10 rfl) (st_v (v_ld rfl ld3) ?_))))))))
          refine st_v (v_add rfl rfl (by unfold I64 at *; omega)) (st_v (v_nilCheck rfl) (st_v (v_fieldAddr rfl fa52_10 rfl) (st_sto rfl rfl sz3 ?_)))
          refine st_nil (nx_kp [0, 1] rfl (nx_then (cd_region (st_v (v_move rfl) (st_v (v_sub rfl rfl (by unfold I64 at *; omega)) (st_v (v_assign rfl) (st_nil (nx_kp [0, 1] rfl (nx_xt (xt_normal_block ?_))))))))))
          rw [show ((j' + 1 : Nat) : Int) - 1 = (j' : Int) by omega]
          refine xt_ag (j', { n with scan := n.scan + 1 }) (by rw [← hn1]; exact ⟨(by show (j' : Int) ≤ w; omega), hst1, k8, k4.trans hsh, ln2, φ2, k1⟩) (by show j' < j' + 1; omega)
      · skip
        have hfin : n = M := by
          rw [← hst]
          cases j with
          | zero => rfl
          | succ j =>
            have : ¬ n.scan < n.old := by simp at he; omega
            show n = if _ then _ else _
            rw [if_neg this]
        subst hfin
        refine cd_exit (xt_exit_then (xt_exit_then (xt_exit_block (xt_then (cd_seq (cd_seq (cd_drawh (ork [(0, 2), (1, 2), (2, 2), (3, 1), (4, 2), (5, 2), (6, 2), (7, 1), (8, 2)] .nil) (fun _ => true) mixed (by kernel_rfl) ?_)))))))
        refine dp_v rfl (v_move rfl) (dp_v rfl (v_nilCheck rfl) (dp_v rfl (v_fieldAddr rfl fa52_10 rfl) (dr_v rfl (v_ld rfl ld3) ?_)))
        refine dp_v rfl (v_move rfl) (dp_v rfl (v_nilCheck rfl) (dp_v rfl (v_fieldAddr rfl fa52_7 rfl) (dr_v rfl (v_ld rfl ld3) ?_)))
        refine dp_v rfl (v_lss rfl rfl) (dr_nil (nx_kp [0, 73] rfl (nx_then (cd_cond rfl (fun hg => ?_) (fun hg => ?_)))))
        · skip
          rw [if_pos (by simpa using hg)]
          refine cd_seq (cd_drawh (ork [(0, 2), (1, 2), (2, 2), (3, 1), (4, 2), (5, 2), (6, 2), (7, 1), (8, 2), (9, 2), (10, 2)] .nil) (fun _ => true) mixed (by kernel_rfl) ?_)
          refine dp_v rfl (v_move rfl) (dp_v rfl (v_nilCheck rfl) (dp_v rfl (v_fieldAddr rfl fa52_7 rfl) (dr_v rfl (v_ld rfl ld3) ?_)))
          refine dp_v rfl (v_move rfl) (dp_v rfl (v_nilCheck rfl) (dp_v rfl (v_fieldAddr rfl fa52_10 rfl) (dr_v rfl (v_ld rfl ld3) ?_)))
          refine dp_v rfl (v_sub rfl rfl (by unfold I64 at *; omega)) (dp_v rfl (v_assign rfl) (dp_v rfl (v_assign rfl) (dr_nil (nx_kp [0, 4, 5] rfl (nx_then (cd_ret (xt_ret_then ?_)))))))
          exact xt_rt rfl ⟨rfl, rfl⟩
        · skip
          rw [if_neg (by simpa using hg)]
          unfold AM.fin
          refine cd_skip (xt_then (cd_seq (cd_drawh (ork [(0, 2), (1, 2), (2, 1), (3, 2), (4, 2), (5, 2), (6, 1), (7, 0)] .nil) (fun i => !(Nat.beq i 7)) mixed (by kernel_rfl) ?_)))
          refine dp_v rfl (v_move rfl) (dp_v rfl (v_move rfl) (dr_clr rfl rfl rfl en104 rfl (former_ct (L := L) (m := n) zn) ?_))
          refine dp_v rfl (v_move rfl) (dp_v rfl (v_nilCheck rfl) (dp_v rfl (v_fieldAddr rfl fa52_1 rfl) (dr_v rfl (v_ld rfl ld3) ?_)))
          refine dr_eff rfl (st_cl rfl rfl en102 rfl (rclear_ct (L := L) (m := n) zn (lo := n.former) (n := n.H) (by omega) (by omega) (by omega)) ?_)
          rintro v' h' ⟨rfl, rfl⟩
          simp only [List.cons_append, List.nil_append]
          refine dr_nx ?_
          refine dr_nil (nx_kp [0] rfl (nx_then (cd_seq (cd_region (st_v (v_move rfl) (st_v (v_nilCheck rfl) (st_v (v_fieldAddr rfl fa52_9 rfl) (st_sto rfl rfl sz4 ?_))))))))
          refine st_nil (nx_kp [0] rfl (nx_then (cd_seq (cd_region (st_v (v_move rfl) (st_v (v_nilCheck rfl) (st_v (v_fieldAddr rfl fa52_11 rfl) (st_sto rfl rfl sz3 ?_))))))))
          refine st_nil (nx_kp [] rfl (nx_then (cd_seq (cd_region (st_v (v_assign rfl) (st_v (v_assign rfl) (st_nil (nx_then (cd_ret ?_)))))))))
          exact xt_rt rfl ⟨rfl, rfl⟩
end
end Go.Proofs.Ytmhmpjgkkpbnnaa
namespace Go.Proofs.Ytmhmpjgkkpbnnaa
open Go.Ck Fx Go.Hm Go.Hm.AM
attribute [local irreducible] St Cd Xt Nx DrL LsW
section
variable {L : RL} {m : AM} {S R : Res} {t k a : Int} {ly ln lf N rl rs : List Int} {sp : Int} {v : Value} {roots : List Int} {φ : Int → Option Nat} {A : Store}
set_option maxRecDepth 100000 in
theorem rwhere_ct (z : Sz m) : Reads Try.prog 65 #[.pointer (some ⟨L.hb, 0, none⟩), .int .i64 t] [hR L m, oR L m] (.int .i64 (m.seen t)) := by
  have h1 := z.Y0; have h2 := z.Y1; have h3 := z.H0; have h4 := z.H1
  have h5 := m.base_former
  have hrn : rn m = (m.Y + 2 * m.H + 1).toNat := rfl
  have hpos : (decide (0 < t) && m.isF t) = m.isF t := by
    cases hf : m.isF t
    · simp
    · rw [isF_iff] at hf; simp; omega
  unfold AM.seen
  refine ct_of (n := 30) Try.func65 rfl rfl (len rfl) fun hr w0 => ?_
  refine cd_seq (cd_region (st_v (v_assign rfl) (st_nil (nx_then (cd_seq (cd_seq (cd_region (st_v (v_move rfl) (st_v (v_gtr rfl rfl) (st_v (v_move rfl) (st_cut (k := 7) (d := 11) (v := .bool (decide (0 < t) && m.isF t)) (fun hcut => bool_want (b := decide (0 < t)) true (fun hg => ?_) (fun hg => ?_)) ?_)))))))))))
  · refine st_sk rfl rfl hg ?_
    refine st_sk rfl rfl hg ?_
    refine st_sk rfl rfl hg ?_
    refine st_v (v_pick_false (bool_ev rfl hg) rfl) ?_
    exact hcut _ (ssub_head (by first | rfl | (rw [hg]; rfl) | simp_all) (ssub_skip rfl (ssub_skip rfl (ssub_skip rfl (ssub_refl)))))
  · skip
    refine st_vg rfl (bool_get rfl hg) (v_move rfl) (st_vg rfl (bool_get rfl hg) (v_move rfl) (st_clrg rfl (bool_get rfl hg) rfl rfl en107 rfl (isFormer_ct z) ?_))
    refine st_v (v_pick_true (bool_ev rfl hg) rfl) ?_
    exact hcut _ (ssub_head (by first | rfl | (rw [hg]; rfl) | simp_all) (ssub_skip rfl (ssub_skip rfl (ssub_skip rfl (ssub_refl)))))
  refine st_v (v_move rfl) ?_
  rw [hpos]
  refine st_cut (k := 17) (d := 21) (v := .bool (m.isF t && decide (0 < m.moved t))) (fun hcut => bool_want (b := m.isF t) true (fun hg => ?_) (fun hg => ?_)) ?_
  · refine st_sk rfl rfl hg ?_
    refine st_sk rfl rfl hg ?_
    refine st_sk rfl rfl hg ?_
    refine st_sk rfl rfl hg ?_
    refine st_sk rfl rfl hg ?_
    refine st_sk rfl rfl hg ?_
    refine st_sk rfl rfl hg ?_
    refine st_sk rfl rfl hg ?_
    refine st_v (v_pick_false (bool_ev rfl hg) rfl) ?_
    exact hcut _ (ssub_head (by first | rfl | (rw [hg]; rfl) | simp_all) (ssub_skip rfl (ssub_skip rfl (ssub_skip rfl (ssub_skip rfl (ssub_skip rfl (ssub_skip rfl (ssub_skip rfl (ssub_skip rfl (ssub_refl))))))))))
  · skip
    have hF := isF_iff.1 hg
    have hrd : Rd (oR L m) ⟨L.ob, t.toNat, none⟩ (.int .i64 (m.moved t)) := a_rd (by omega) (by omega)
    refine st_vg rfl (bool_get rfl hg) (v_move rfl) (st_vg rfl (bool_get rfl hg) (v_nilCheck rfl) (st_vg rfl (bool_get rfl hg) (v_fieldAddr rfl fa52_5 rfl) (st_vg rfl (bool_get rfl hg) (v_ld rfl ld34) ?_)))
    refine st_vg rfl (bool_get rfl hg) (v_move rfl) (st_vg rfl (bool_get rfl hg) (v_idx t.toNat rfl rfl sl34 (by omega) (by omega)) (st_vg rfl (bool_get rfl hg) (v_ld rfl ld3) ?_))
    refine st_vg rfl (bool_get rfl hg) (v_gtr rfl rfl) (st_v (v_pick_true (bool_ev rfl hg) rfl) ?_)
    exact hcut _ (ssub_head (by first | rfl | (rw [hg]; rfl) | simp_all) (ssub_skip rfl (ssub_skip rfl (ssub_skip rfl (ssub_skip rfl (ssub_skip rfl (ssub_skip rfl (ssub_skip rfl (ssub_skip rfl (ssub_refl))))))))))
  refine st_nil (nx_kp [0, 1, 4, 21] rfl (nx_then (cd_cond rfl (fun hc => ?_) (fun hc => ?_))))
  · skip
    rw [if_pos hc]
    have hF := isF_iff.1 (show m.isF t = true by simp at hc; exact hc.1)
    have hrd : Rd (oR L m) ⟨L.ob, t.toNat, none⟩ (.int .i64 (m.moved t)) := a_rd (by omega) (by omega)
    refine cd_seq (cd_region (st_v (v_move rfl) (st_v (v_nilCheck rfl) (st_v (v_fieldAddr rfl fa52_5 rfl) (st_v (v_ld rfl ld34) ?_)))))
    refine st_v (v_move rfl) (st_v (v_idx t.toNat rfl rfl sl34 (by omega) (by omega)) (st_v (v_ld rfl ld3) ?_))
    refine st_v (v_assign rfl) (st_nil (nx_kp [1, 4] rfl (nx_then (cd_ret (xt_ret_then ?_)))))
    exact xt_rt rfl ⟨rfl, rfl⟩
  · skip
    rw [if_neg (by rw [hc]; simp)]
    refine cd_skip (xt_then (cd_seq (cd_region (st_v (v_move rfl) (st_v (v_assign rfl) (st_nil (nx_kp [4] rfl (nx_then (cd_ret ?_)))))))))
    exact xt_rt rfl ⟨rfl, rfl⟩
set_option maxRecDepth 100000 in
theorem rindex_ct {l : List Int} (hv : RowI R v l) (hl : l.length ≤ 1000000) : Reads Try.prog 66 #[v, .int .i64 t] [R] (.int .i64 (idx l t)) := by
  obtain ⟨ra, rcp, hv1, _⟩ := id hv
  refine ct_of (n := 19) Try.func66 rfl rfl (len rfl) fun hr w0 => ?_
  refine cd_seq (cd_region (st_v (v_assign rfl) (st_nil (nx_then (cd_seq (cd_seq (cd_region (st_v (v_assign rfl) (st_nil (nx_then (cd_block (cd_loop (σ := Nat) (fun i => [(0, v), (1, .int .i64 t), (5, .int .i64 (i : Nat))]) (fun _ => R :: hr) (fun i => i ≤ l.length ∧ t ∉ l.take i) (fun i => l.length - i) 0 ⟨Nat.zero_le _, by simp⟩ ⟨rfl, rfl, rfl, trivial⟩ (Sub.refl _) ?_))))))))))))
  rintro i ⟨hi, hne⟩
  refine cd_seq (cd_seq (cd_region (st_v (v_move rfl) (st_v (v_move rfl) (st_v (v_len (congrArg some hv1) Try.underlying34) (st_v (v_lss rfl rfl) (st_nil (nx_kp [0, 1, 5, 9] rfl (nx_then (cd_cond rfl (fun hd => ?_) (fun hd => ?_)))))))))))
  · skip
    have hlt : i < l.length := by simpa using hd
    obtain ⟨b, q, cp', hv2, hrd⟩ := hv.at hlt
    refine cd_skip (xt_then (cd_seq (cd_block (cd_seq (cd_region (st_v (v_move rfl) (st_v (v_move rfl) (st_v (v_ixo i (congrArg some hv2) rfl sl34 rfl hlt) (st_v (v_ld rfl ld3) ?_)))))))))
    refine st_v (v_move rfl) (st_v (v_eql rfl rfl) (st_nil (nx_kp [0, 1, 5, 17] rfl (nx_then (cd_cond rfl (fun he => ?_) (fun he => ?_))))))
    · skip
      have hx : l[i] = t := by simpa using he
      rw [idx_at hlt hx hne]
      refine cd_seq (cd_region (st_v (v_move rfl) (st_v (v_assign rfl) (st_nil (nx_kp [0, 1, 4, 5] rfl (nx_then (cd_ret (xt_ret_block (xt_ret_then (xt_ret_then (xt_ret_block (xt_ret_then ?_))))))))))))
      exact xt_rt rfl ⟨rfl, rfl⟩
    · skip
      refine cd_skip (xt_normal_block (xt_then (cd_region (st_v (v_move rfl) (st_v (v_add rfl rfl (by unfold I64 at *; omega)) (st_v (v_assign rfl) (st_nil (nx_kp [0, 1, 5] rfl (nx_xt ?_)))))))))
      refine xt_ag (i + 1) ⟨hlt, by rw [List.take_succ_eq_append_getElem hlt, List.mem_append]; rintro (g | g); exact hne g; simp at he g; exact he g.symm⟩ (by omega)
  · skip
    have hge : i = l.length := by have : ¬ i < l.length := by simpa using hd
                                  omega
    rw [hge, List.take_length] at hne
    rw [idx_no hne]
    refine cd_exit (xt_exit_then (xt_exit_then (xt_exit_block (xt_then (cd_seq (cd_region (st_v (v_assign rfl) (st_nil (nx_kp [4] rfl (nx_then (cd_ret ?_)))))))))))
    exact xt_rt rfl ⟨rfl, rfl⟩
set_option maxRecDepth 100000 in
theorem rmeet_ct {l : List Int} {lv : Value} {t : Int} (hl : l.length ≤ 1000000) : Ct Try.prog 63 #[lv, .int .i64 t] [vec lv 3 1 l.length (ints l)] fun u h' => h' = [vec u 3 1 (pmeet l t).length (ints (pmeet l t))] := by
  have hb : (t == 0 || decide (0 ≤ idx l t)) = (t == 0 || l.contains t) := by
    congr 1
    by_cases hm : t ∈ l
    · obtain ⟨i, h1, h2, h3⟩ := idx_get hm
      simp [hm, h1]
    · simp [hm, idx_no hm]
  unfold pmeet
  refine ct_of (n := 18) Try.func63 rfl rfl (len rfl) fun hr w0 => ?_
  refine cd_vecshape (v := lv) (E := 3) (sz := 1) (n := l.length) (l := ints l) (by repeat (first | exact Sel.here | apply Sel.there)) fun la lcp hlv hla => ?_
  refine cd_seq (cd_region (st_v (v_assign rfl) (st_nil (nx_then (cd_seq (cd_seq (cd_region (st_v (v_move rfl) (st_v (v_eql rfl rfl) (st_v (v_move rfl) (st_cut (k := 8) (d := 12) (v := .bool (t == 0 || decide (0 ≤ idx l t))) (fun hcut => bool_want (b := t == 0) false (fun hg => ?_) (fun hg => ?_)) ?_)))))))))))
  · refine st_sk rfl rfl hg ?_
    refine st_sk rfl rfl hg ?_
    refine st_sk rfl rfl hg ?_
    refine st_sk rfl rfl hg ?_
    refine st_v (v_pick_true (bool_ev rfl hg) rfl) ?_
    exact hcut _ (ssub_head (by first | rfl | (rw [hg]; rfl) | simp_all) (ssub_skip rfl (ssub_skip rfl (ssub_skip rfl (ssub_skip rfl (ssub_refl))))))
  · skip
    refine st_vg rfl (bool_get rfl hg) (v_move rfl) (st_vg rfl (bool_get rfl hg) (v_move rfl) (st_clrg rfl (bool_get rfl hg) rfl rfl en66 rfl (rindex_ct (rowI_vec hlv hla rfl) hl) ?_))
    refine st_vg rfl (bool_get rfl hg) (v_geq rfl rfl) (st_v (v_pick_false (bool_ev rfl hg) rfl) ?_)
    exact hcut _ (ssub_head (by first | rfl | (rw [hg]; rfl) | simp_all) (ssub_skip rfl (ssub_skip rfl (ssub_skip rfl (ssub_skip rfl (ssub_refl))))))
  refine st_nil (nx_kp [0, 1, 4, 12] rfl (nx_then ?_))
  rw [hb]
  refine cd_cond rfl (fun hc => ?_) (fun hc => ?_)
  · skip
    rw [if_pos hc]
    refine cd_seq (cd_region (st_v (v_move rfl) (st_v (v_assign rfl) (st_nil (nx_kp [0, 1, 4] rfl (nx_then (cd_ret (xt_ret_then ?_))))))))
    exact xt_rt rfl rfl
  · skip
    rw [if_neg (by rw [hc]; simp)]
    refine cd_skip (xt_then (cd_seq (cd_region (st_v (v_move rfl) (st_v (v_move rfl) (st_buildSlice (cells := [.int .i64 t]) rfl Try.underlying34 inf3 rfl rfl (by kernel_rfl) (ltn rfl) fun b30 => ?_))))))
    refine st_append (news := [.int .i64 t]) rfl rfl Try.underlying34 inf3 rfl (ltn rfl) (by repeat (first | exact Sel.here | apply Sel.there)) rfl (fun j u hu => by repeat (first | exact at_here (rd_cl (by simpa using hu)) | apply at_there)) (ones rfl) (by omega) (by omega) (ltn rfl) fun lv' hlv' hv1 => ?_
    refine st_v (v_assign rfl) (st_nil (nx_kp [4] rfl (nx_then (cd_ret ?_))))
    rw [show ints l ++ [.int .i64 t] = ints (l ++ [t]) by simp [ints], show l.length + 1 = (l ++ [t]).length by simp]
    exact xt_rt rfl rfl
end
end Go.Proofs.Ytmhmpjgkkpbnnaa
