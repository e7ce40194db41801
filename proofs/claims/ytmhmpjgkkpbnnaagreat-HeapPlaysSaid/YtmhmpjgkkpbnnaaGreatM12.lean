/-
  The reference's memory: needed, MinorError. Conditions: what the heap holds, that the machine is in order, that roots are current.
  The reference's memory: MinorError. Conditions: what the heap holds, that the machine is in order.
  Words forwarded one behind the other: a list, places. Nothing of the program is named here. No condition.
  The reference's memory: Minor. Conditions: what the heap holds, that the machine is in order.
  The reference's memory: Flip. Conditions: what the heap holds, that the machine is in order.
  The reference's memory: refers, Step. Conditions: what the heap holds, that the machine is in order.
  The reference's memory: Step. Conditions: what the heap holds, that the machine is in order.
  The reference's pictures: where, index, meet. Conditions: what the heap holds, that sizes are small.
  The reference's pictures: PictureOf. Conditions: what the heap holds, that the machine is in order.
-/
import Derived.Test.YtmhmpjgkkpbnnaaGreatM11
import Derived.Test.YtmhmpjgkkpbnnaaGreatM9
import Derived.Test.YtmhmpjgkkpbnnaaGreatM4
import Derived.Test.YtmhmpjgkkpbnnaaGreatM2
namespace Go.Ck
open Go
section
variable {P : Program} {e : Env} {h h' : SH} {ty : TypeId}
theorem v_ixArr {T E : TypeId} {x y : Operand} {b o n k : Nat} {kd : IntKind} {i : Int} (hx : e.ev? x = some (.pointer (some ⟨b, o, none⟩))) (hy : e.ev? y = some (.int kd i)) (hT : P.underlying T = some (.array n E)) (hE : Sz P E 1) (hi : i = (k : Int)) (hk : k < n) :
    Vop P e h (.indexAddr T x y) ty (.pointer (some ⟨b, o + k, none⟩)) :=
  ⟨by simp, by simp, fun ρ w d pos after g hρ _ => by
    subst hi
    have h0 : (0 : Int) ≤ k ∧ (k : Int) < n := by omega
    simp only [execOp, hρ x _ hx, hρ y _ hy, Instr.indexAt, Instr.sureAddr, Sem.run_bind, asIntOf, Sem.run_pure, Result.andThen_ok, run_underlying hT, if_pos h0, hE w, Int.toNat_natCast, Addr.add_lit, Nat.mul_one]⟩
end
end Go.Ck
namespace Go.Hm.AM
theorem refsFrom_append : ∀ (r s : List Bool) (j : Nat), refsFrom j (r ++ s) = refsFrom j r ++ refsFrom (j + r.length) s
  | [], s, j => by simp [refsFrom]
  | b :: r, s, j => by
    simp only [List.cons_append, refsFrom, refsFrom_append r s (j + 1), List.length_cons]
    rw [show j + 1 + r.length = j + (r.length + 1) by omega]
    split <;> simp
def plTo (m : AM) (t : Int) (k : Nat) : List Int := (refsFrom 0 ((m.row t).take k)).map (t + 1 + ·)
theorem plTo_all (m : AM) (t : Int) : m.plTo t (m.row t).length = m.pl t := by unfold plTo pl; rw [List.take_length]
theorem plTo_succ {m : AM} {t : Int} {k : Nat} (hk : k < (m.row t).length) : m.plTo t (k + 1) = m.plTo t k ++ if (m.row t)[k] then [t + 1 + (k : Int)] else [] := by
  unfold plTo
  rw [List.take_succ_eq_append_getElem hk, refsFrom_append, List.map_append, List.length_take, Nat.min_eq_left (by omega)]
  congr 1
  simp only [refsFrom, Nat.zero_add]
  split <;> simp
end Go.Hm.AM
namespace Go.Proofs.YtmhmpjgkkpbnnaaGreat
open Go.Ck Fx Go.Hm Go.Hm.AM
attribute [local irreducible] St Cd Xt Nx DrL LsW
section
variable {L : RL} {m : AM} {S R : Res} {t k a : Int} {ly ln lf N rl rs : List Int} {sp : Int} {v : Value} {roots : List Int} {φ : Int → Option Nat} {A : Store}
def Met (ly : List Int) (l : List Int) : Prop := l.Nodup ∧ ∀ x ∈ l, x ∈ ly
theorem Met.len (h : AM.Good m ly ln lf φ A) {l : List Int} (hm : Met ly l) : l.length ≤ 400000 := by
  have := nodup_len hm.1 hm.2; have := h.ylen; have := h.g.sz.Y1; omega
theorem Met.meet {l : List Int} (hm : Met ly l) {t : Int} (ht : m.isY t = true → t ∈ ly) : Met ly (m.meet l t) :=
  ⟨meet_nodup hm.1, fun x hx => by
    rcases meet_mem hx with g | ⟨rfl, g⟩
    · exact hm.2 x g
    · exact ht g⟩
theorem meets_snoc' {l ts : List Int} {t : Int} : (ts ++ [t]).foldl m.meet l = m.meet (ts.foldl m.meet l) t := by simp [List.foldl_append]
theorem sum_bd {f : Int → Int} {c : Int} : ∀ {l : List Int}, (∀ x ∈ l, 0 ≤ f x ∧ f x ≤ c) → 0 ≤ AM.sum f l ∧ AM.sum f l ≤ c * (l.length : Int)
  | [], _ => by simp [AM.sum]
  | a :: l, h => by
    have h1 := h a (List.mem_cons_self ..)
    have h2 := sum_bd fun x hx => h x (List.mem_cons_of_mem _ hx)
    rw [sum_cons, List.length_cons, show c * ((l.length + 1 : Nat) : Int) = c * (l.length : Int) + c by rw [Int.natCast_add, Int.mul_add]; simp]
    omega
theorem Met.sum (h : AM.Good m ly ln lf φ A) {l : List Int} (hm : Met ly l) (i : Nat) : 0 ≤ AM.sum m.size (l.take i) ∧ AM.sum m.size (l.take i) ≤ 101 * (i : Int) := by
  have := sum_bd (f := m.size) (c := 101) (l := l.take i) fun x hx => by
    have := (ob_y h.g (hm.2 x (List.mem_of_mem_take hx))).len h.g.sz
    unfold AM.size; omega
  have h2 : (l.take i).length ≤ i := by rw [List.length_take]; omega
  omega
set_option maxHeartbeats 2000000 in
set_option maxRecDepth 100000 in
theorem rneeded_ct (hS : Shp S L.vs m.sh) (h : AM.Good m ly ln lf φ A) (hv : RowI S v roots) (hrl : roots.length ≤ 1000000) (hroots : ∀ r ∈ roots, r = 0 ∨ r ∈ ly ∨ r ∈ ln) :
    Reads Tryz.prog 111 #[.pointer (some ⟨L.hb, 0, none⟩), v] [hR L m, wR L m, eR L m, kR L m, S] (.int .i64 (m.needed roots)) := by
  have z := h.g.sz
  have h1 := z.Y0; have h2 := z.Y1; have h3 := z.H0; have h4 := z.H1
  have hrem := rem_len h
  have hrn : rn m = (m.Y + 2 * m.H + 1).toNat := rfl
  obtain ⟨ra, rcp, hv1, _⟩ := id hv
  refine ct_of (n := 105) Tryz.func111 rfl rfl (len rfl) fun hr w0 => ?_
  refine cS (cR (sV (vA rfl) (sN (nT (cS (cR (sV (vA rfl) (sN (nT (cS (cS (cR (sV (vA rfl) (sN (nT (cd_block ?_))))))))))))))))
  refine cd_vecnil 3 1 ?_
  refine cd_loop (σ := Nat × Value) (fun q => [(0, .pointer (some ⟨L.hb, 0, none⟩)), (1, v), (5, q.2), (6, .int .i64 (q.1 : Nat))]) (fun q => vec q.2 3 1 ((roots.take q.1).foldl m.meet []).length (ints ((roots.take q.1).foldl m.meet [])) :: ([hR L m, wR L m, eR L m, kR L m, S] ++ hr)) (fun q => q.1 ≤ roots.length ∧ Met ly ((roots.take q.1).foldl m.meet [])) (fun q => roots.length - q.1) (0, .slice none 0 0) ⟨Nat.zero_le _, List.nodup_nil, fun _ h => by cases h⟩ ⟨rfl, rfl, rfl, rfl, trivial⟩ (Sub.refl _) ?_
  rintro ⟨i, lv⟩ ⟨hi, hmet⟩
  have hml := hmet.len h
  dsimp only at hi hmet hml ⊢
  simp only [List.cons_append, List.nil_append]
  refine cS (cS (cR (sV (vM rfl) (sV (vM rfl) (sV (v_len (congrArg some hv1) Tryz.underlying27) (sV (v_lss rfl rfl) (sN (nK [0, 1, 5, 6, 15] rfl (nT (cC rfl (fun hc => ?_) (fun hc => ?_)))))))))))
  · skip
    have hlt : i < roots.length := by simpa using hc
    obtain ⟨b, o, cp', hv2, hrd⟩ := hv.at hlt
    have htk : (roots.take (i + 1)).foldl m.meet [] = m.meet ((roots.take i).foldl m.meet []) roots[i] := by rw [List.take_succ_eq_append_getElem hlt, meets_snoc']
    refine cK (xT (cS (cd_block (cR (sV (vM rfl) (sV (vM rfl) (sV (vM rfl) (sV (vM rfl) (sV (v_ixo i (congrArg some hv2) rfl sl27 rfl hlt) (sV (vL rfl ld3) ?_))))))))))
    refine st_cl rfl rfl en113 rfl (radd_ct (m := m) (l := (roots.take i).foldl m.meet []) (lv := lv) (t := roots[i]) (by omega)) ?_
    rintro lv' h' rfl
    simp only [List.cons_append, List.nil_append]
    refine sV (vA rfl) (sN (nK [0, 1, 5, 6] rfl (nx_xt (xB (xT (cR (sV (vM rfl) (sV (v_add rfl rfl (by unfold I64 at *; omega)) (sV (vA rfl) (sN (nK [0, 1, 5, 6] rfl (nx_xt ?_))))))))))))
    rw [← htk]
    refine xt_ag (i + 1, lv') ⟨hlt, by rw [htk]; exact hmet.meet fun hY => h.root_y (hroots _ (List.getElem_mem hlt)) hY⟩ (by show _ - _ < _ - _; omega)
  · skip
    have hge : roots.take i = roots := List.take_of_length_le (by simpa using hc)
    rw [hge] at hmet ⊢
    refine cd_vecshape (v := L.vk) (by unfold kR; repeat (first | exact Sel.here | apply Sel.there)) fun ka kcp hkv hka => ?_
    refine cd_exit (xE (xE (xt_exit_block (xT (cS (cS (cR (sV (vA rfl) (sN (nK [0, 5, 7] rfl (nT (cd_block (cd_loop (σ := Nat × Value) (fun q => [(0, .pointer (some ⟨L.hb, 0, none⟩)), (5, q.2), (7, .int .i64 (q.1 : Nat))]) (fun q => vec q.2 3 1 (((m.rem.take q.1).map fun k => m.word (k.1 + 1 + k.2)).foldl m.meet (roots.foldl m.meet [])).length (ints (((m.rem.take q.1).map fun k => m.word (k.1 + 1 + k.2)).foldl m.meet (roots.foldl m.meet []))) :: ([hR L m, wR L m, eR L m, kR L m, S] ++ hr)) (fun q => q.1 ≤ m.rem.length ∧ Met ly (((m.rem.take q.1).map fun k => m.word (k.1 + 1 + k.2)).foldl m.meet (roots.foldl m.meet []))) (fun q => m.rem.length - q.1) (0, lv) ⟨Nat.zero_le _, hmet⟩ ⟨rfl, rfl, rfl, trivial⟩ (Sub.refl _) ?_)))))))))))))
    rintro ⟨i, lv⟩ ⟨hi, hmet⟩
    have hml := hmet.len h
    dsimp only at hi hmet hml ⊢
    simp only [List.cons_append, List.nil_append]
    refine cS (cS (cR (sV (vM rfl) (sV (vM rfl) (sV (vN rfl) (sV (vF rfl fa53_12 rfl) (sV (vL rfl ld51) ?_)))))))
    refine sV (v_len (congrArg some hkv) Tryz.underlying51) (sV (v_lss rfl rfl) (sN (nK [0, 5, 7, 31] rfl (nT (cC rfl (fun hc2 => ?_) (fun hc2 => ?_))))))
    · skip
      have hlt : i < m.rem.length := by simpa using hc2
      obtain ⟨kb, rfl⟩ := hka (by omega)
      have hp : m.rem[i]? = some m.rem[i] := List.getElem?_eq_getElem hlt
      have hpm : m.rem[i].1 + 1 + m.rem[i].2 ∈ m.remP := List.mem_map.2 ⟨_, List.getElem_mem hlt, rfl⟩
      obtain ⟨t0, ht0, hpt⟩ := h.remP_mem hpm
      have hbd := pl_bd hpt; have o0 := ob_n h.g ht0; have g1 := o0.t0; have g2 := o0.h2
      obtain ⟨q1, j, q2, q3⟩ := h.rm _ (List.getElem_mem hlt)
      have o1 := ob_n h.g q1; have g3 := o1.t0; have g4 := o1.t1
      have htk : ((m.rem.take (i + 1)).map fun k => m.word (k.1 + 1 + k.2)).foldl m.meet (roots.foldl m.meet []) = m.meet (((m.rem.take i).map fun k => m.word (k.1 + 1 + k.2)).foldl m.meet (roots.foldl m.meet [])) (m.word (m.rem[i].1 + 1 + m.rem[i].2)) := by
        rw [List.take_succ_eq_append_getElem hlt, List.map_append, List.map_cons, List.map_nil, meets_snoc']
      have hrd0 : Rd (kR L m) ⟨kb, i * 2, none⟩ (.int .i64 m.rem[i].1) := rem_rds hkv hp 0 (by simp [ints])
      have hrd1 : Rd (kR L m) ⟨kb, i * 2 + 1, none⟩ (.int .i64 m.rem[i].2) := rem_rds hkv hp 1 (by simp [ints])
      have hrd2 : Rd (wR L m) ⟨L.wb, (m.rem[i].1 + 1 + m.rem[i].2).toNat, none⟩ (.int .i64 (m.word (m.rem[i].1 + 1 + m.rem[i].2))) := a_rd (by omega) (by omega)
      refine cK (xT (cS (cd_block (cd_drawh (ork [(0, 2), (1, 2), (2, 2), (3, 2), (4, 2), (5, 1), (6, 2), (7, 2), (8, 2), (9, 1), (10, 2), (11, 2), (12, 2), (13, 1), (14, 2), (15, 2), (16, 2), (17, 2), (18, 1), (19, 2), (20, 2), (21, 2), (22, 1), (23, 2), (24, 2), (25, 1), (26, 0), (27, 2)] .nil) (fun i => !(Nat.beq i 26)) mixed (by kernel_rfl) ?_))))
      refine dV rfl (vM rfl) (dV rfl (vM rfl) (dV rfl (vM rfl) (dV rfl (vN rfl) (dV rfl (vF rfl fa53_3 rfl) (dr_v rfl (vL rfl ld27) ?_)))))
      refine dV rfl (vM rfl) (dV rfl (vN rfl) (dV rfl (vF rfl fa53_12 rfl) (dr_v rfl (vL rfl ld51) ?_)))
      refine dV rfl (vM rfl) (dV rfl (v_indexAddr (congrArg some hkv) rfl sl51 rfl hlt (Nat.zero_add _)) (dV rfl (v_ixArr (k := 0) rfl rfl Tryz.underlying147 sz3 rfl (by omega)) (dr_v rfl (vL rfl ld3) ?_)))
      refine dV rfl (v_add rfl rfl (by unfold I64 at *; omega)) (dV rfl (vM rfl) (dV rfl (vN rfl) (dV rfl (vF rfl fa53_12 rfl) (dr_v rfl (vL rfl ld51) ?_))))
      refine dV rfl (vM rfl) (dV rfl (v_indexAddr (congrArg some hkv) rfl sl51 rfl hlt (Nat.zero_add _)) (dV rfl (v_ixArr (k := 1) rfl rfl Tryz.underlying147 sz3 rfl (by omega)) (dr_v rfl (vL rfl ld3) ?_)))
      refine dV rfl (v_add rfl rfl (by unfold I64 at *; omega)) (dV rfl (v_idx (m.rem[i].1 + 1 + m.rem[i].2).toNat rfl rfl sl27 (by omega) (by omega)) (dr_v rfl (vL rfl ld3) ?_))
      refine dr_eff rfl (st_cl rfl rfl en113 rfl (radd_ct (m := m) (l := ((m.rem.take i).map fun k => m.word (k.1 + 1 + k.2)).foldl m.meet (roots.foldl m.meet [])) (lv := lv) (t := m.word (m.rem[i].1 + 1 + m.rem[i].2)) (by omega)) ?_)
      rintro lv' h' rfl
      simp only [List.cons_append, List.nil_append]
      rw [← htk]
      refine dr_nx ?_
      refine dV rfl (vA rfl) (dr_nil (nK [0, 5, 7] rfl (nx_xt (xB (xT (cR (sV (vM rfl) (sV (v_add rfl rfl (by unfold I64 at *; omega)) (sV (vA rfl) (sN (nK [0, 5, 7] rfl (nx_xt ?_))))))))))))
      refine xt_ag (i + 1, lv') ⟨hlt, by rw [htk]; exact hmet.meet fun hY => h.rem_y hpm hY⟩ (by show _ - _ < _ - _; omega)
    · skip
      have hge2 : m.rem.take i = m.rem := List.take_of_length_le (by simpa using hc2)
      rw [hge2, show (m.rem.map fun k => m.word (k.1 + 1 + k.2)) = m.remP.map m.word by simp [AM.remP, List.map_map, Function.comp_def]] at hmet hml ⊢
      have hyl := h.ylen
      refine cd_exit (xE (xE (xt_exit_block (xT (cS (cR (sV (vA rfl) (sN (nK [0, 5, 8] rfl (nT (cS (cS (cR (sV (vA rfl) (sN (nT ?_))))))))))))))))
      refine cd_block (cd_loop (σ := Nat × List Int × Value) (fun q => [(0, .pointer (some ⟨L.hb, 0, none⟩)), (5, q.2.2), (8, .int .i64 (AM.sum m.size (q.2.1.take q.1))), (9, .int .i64 (q.1 : Nat))]) (fun q => vec q.2.2 3 1 q.2.1.length (ints q.2.1) :: ([hR L m, wR L m, eR L m, kR L m, S] ++ hr)) (fun q => q.1 ≤ q.2.1.length ∧ Met ly q.2.1 ∧ m.close (m.Y.toNat + 1 - q.1) q.1 q.2.1 = m.reach roots) (fun q => m.Y.toNat + 1 - q.1) (0, (m.remP.map m.word).foldl m.meet (roots.foldl m.meet []), lv) ⟨Nat.zero_le _, hmet, rfl⟩ ⟨rfl, rfl, rfl, rfl, trivial⟩ (Sub.refl _) ?_)
      rintro ⟨i, l, lv⟩ ⟨hi, hmet, hcl⟩
      dsimp only at hi hmet hcl ⊢
      have hml := hmet.len h
      have hll := nodup_len hmet.1 hmet.2
      obtain ⟨hn0, hn1⟩ := hmet.sum h i
      refine cd_vecshape (v := lv) (E := 3) (sz := 1) (n := l.length) (l := ints l) (by repeat (first | exact Sel.here | apply Sel.there)) fun la lcp hlv hla => ?_
      simp only [List.cons_append, List.nil_append]
      refine cS (cS (cR (sV (vM rfl) (sV (vM rfl) (sV (v_len (congrArg some hlv) Tryz.underlying27) (sV (v_lss rfl rfl) (sN (nK [0, 5, 8, 9, 64] rfl (nT (cC rfl (fun hc3 => ?_) (fun hc3 => ?_)))))))))))
      · skip
        have hlt : i < l.length := by simpa using hc3
        obtain ⟨lb, rfl⟩ := hla (by omega)
        have hy : l[i] ∈ ly := hmet.2 _ (List.getElem_mem hlt)
        have ob := ob_y h.g hy
        have g1 := ob.t0; have g2 := ob.h2; have hlen := ob.len z
        have hsz : m.size l[i] = 1 + (m.row l[i]).length := rfl
        obtain ⟨u, hu, hct⟩ := rshape_ct hS z ob
        obtain ⟨ua, ucp, hue, _⟩ := id hu
        have hrd : Rd (vec lv 3 1 l.length (ints l)) ⟨lb, i, none⟩ (.int .i64 l[i]) := rd_vec hlv (by simp [ints, hlt])
        refine cK (xT (cS (cd_block (cS (cR (sV (vM rfl) (sV (vM rfl) (sV (vM rfl) (sV (v_idx i (congrArg some hlv) rfl sl27 rfl hlt) (sV (vL rfl ld3) ?_))))))))))
        refine st_clr rfl rfl en38 rfl (hct) ?_
        refine sV (vA rfl) (sN (nK [0, 5, 8, 9, 10] rfl (nT (cS (cS (cR (sV (vA rfl) (sN (nT (cd_block (cd_loop (σ := Nat × Value) (fun q => [(0, .pointer (some ⟨L.hb, 0, none⟩)), (5, q.2), (8, .int .i64 (AM.sum m.size (l.take i))), (9, .int .i64 (i : Nat)), (10, u), (11, .int .i64 (q.1 : Nat))]) (fun q => vec q.2 3 1 (((m.plTo l[i] q.1).map m.word).foldl m.meet l).length (ints (((m.plTo l[i] q.1).map m.word).foldl m.meet l)) :: ([hR L m, wR L m, eR L m, kR L m, S] ++ hr)) (fun q => q.1 ≤ (m.row l[i]).length ∧ Met ly (((m.plTo l[i] q.1).map m.word).foldl m.meet l)) (fun q => (m.row l[i]).length - q.1) (0, lv) ⟨Nat.zero_le _, hmet⟩ ⟨rfl, rfl, rfl, rfl, rfl, rfl, trivial⟩ (Sub.refl _) ?_)))))))))))
        rintro ⟨k, lw⟩ ⟨hk, hmk⟩
        dsimp only at hk hmk ⊢
        have hmkl := hmk.len h
        refine cd_vecshape (v := lw) (E := 3) (sz := 1) (n := (((m.plTo l[i] k).map m.word).foldl m.meet l).length) (l := ints (((m.plTo l[i] k).map m.word).foldl m.meet l)) (by repeat (first | exact Sel.here | apply Sel.there)) fun wa wcp hlw hwa => ?_
        obtain ⟨ex, hex⟩ := m.meets_pre ((m.plTo l[i] k).map m.word) l
        have hxl : i < (((m.plTo l[i] k).map m.word).foldl m.meet l).length := by rw [hex, List.length_append]; omega
        obtain ⟨wb, rfl⟩ := hwa (by omega)
        have hxi : (((m.plTo l[i] k).map m.word).foldl m.meet l)[i]? = some l[i] := by rw [hex, List.getElem?_append_left hlt, List.getElem?_eq_getElem hlt]
        have hrdw : Rd (vec lw 3 1 (((m.plTo l[i] k).map m.word).foldl m.meet l).length (ints (((m.plTo l[i] k).map m.word).foldl m.meet l))) ⟨wb, i, none⟩ (.int .i64 l[i]) := rd_vec hlw (by simp only [ints, List.getElem?_map, hxi, Option.map_some])
        simp only [List.cons_append, List.nil_append]
        refine cS (cS (cR (sV (vM rfl) (sV (vM rfl) (sV (v_len (congrArg some hue) Tryz.underlying55) (sV (v_lss rfl rfl) (sN (nK [0, 5, 8, 9, 10, 11, 76] rfl (nT (cC rfl (fun hc4 => ?_) (fun hc4 => ?_)))))))))))
        · skip
          have hkl : k < (m.row l[i]).length := by simpa using hc4
          obtain ⟨ub, uo, ucp', hue2, hrdu⟩ := hu.at hkl
          have hps := plTo_succ hkl
          refine cK (xT (cS (cd_block (cS (cR (sV (vM rfl) (sV (vM rfl) (sV (v_ixo k (congrArg some hue2) rfl sl55 rfl hkl) (sV (vL rfl ld4) ?_)))))))))
          refine sN (nK [0, 5, 8, 9, 10, 11, 82] rfl (nT (cC rfl (fun hb => ?_) (fun hb => ?_))))
          · skip
            rw [hb, if_pos rfl] at hps
            have hrdx : Rd (wR L m) ⟨L.wb, (l[i] + 1 + k).toNat, none⟩ (.int .i64 (m.word (l[i] + 1 + k))) := a_rd (by omega) (by omega)
            have hpm : l[i] + 1 + (k : Int) ∈ m.pl l[i] := mem_pl.2 ⟨k, by rw [List.getElem?_eq_getElem hkl, hb], rfl⟩
            have htk : ((m.plTo l[i] (k + 1)).map m.word).foldl m.meet l = m.meet (((m.plTo l[i] k).map m.word).foldl m.meet l) (m.word (l[i] + 1 + k)) := by
              rw [hps, List.map_append, List.map_cons, List.map_nil, meets_snoc']
            refine cd_drawh (ork [(0, 2), (1, 2), (2, 2), (3, 2), (4, 2), (5, 1), (6, 2), (7, 2), (8, 2), (9, 1), (10, 2), (11, 2), (12, 2), (13, 2), (14, 1), (15, 0), (16, 2)] .nil) (fun i => !(Nat.beq i 15)) mixed (by kernel_rfl) ?_
            refine dV rfl (vM rfl) (dV rfl (vM rfl) (dV rfl (vM rfl) (dV rfl (vN rfl) (dV rfl (vF rfl fa53_3 rfl) (dr_v rfl (vL rfl ld27) ?_)))))
            refine dV rfl (vM rfl) (dV rfl (vM rfl) (dV rfl (v_idx i (congrArg some hlw) rfl sl27 rfl hxl) (dr_v rfl (vL rfl ld3) ?_)))
            refine dV rfl (v_add rfl rfl (by unfold I64 at *; omega)) (dV rfl (vM rfl) (dV rfl (v_add rfl rfl (by unfold I64 at *; omega)) (dV rfl (v_idx (l[i] + 1 + k).toNat rfl rfl sl27 (by omega) (by omega)) (dr_v rfl (vL rfl ld3) ?_))))
            refine dr_eff rfl (st_cl rfl rfl en113 rfl (radd_ct (m := m) (l := ((m.plTo l[i] k).map m.word).foldl m.meet l) (lv := lw) (t := m.word (l[i] + 1 + k)) (by omega)) ?_)
            rintro lv' h' rfl
            simp only [List.cons_append, List.nil_append]
            rw [← htk]
            refine dr_nx ?_
            refine dV rfl (vA rfl) (dr_nil (nK [0, 5, 8, 9, 10, 11] rfl (nx_xt (xB (xT (cR (sV (vM rfl) (sV (v_add rfl rfl (by unfold I64 at *; omega)) (sV (vA rfl) (sN (nK [0, 5, 8, 9, 10, 11] rfl (nx_xt ?_))))))))))))
            refine xt_ag (k + 1, lv') ⟨hkl, by rw [htk]; exact hmk.meet fun hY => h.word_y hy hpm hY⟩ (by show _ - _ < _ - _; omega)
          · skip
            rw [hb, if_neg (by simp), List.append_nil] at hps
            rw [← hps]
            refine cK (xB (xT (cR (sV (vM rfl) (sV (v_add rfl rfl (by unfold I64 at *; omega)) (sV (vA rfl) (sN (nK [0, 5, 8, 9, 10, 11] rfl (nx_xt ?_)))))))))
            refine xt_ag (k + 1, lw) ⟨hkl, by rw [hps]; exact hmk⟩ (by show _ - _ < _ - _; omega)
        · skip
          have hkg : k = (m.row l[i]).length := by have : ¬ k < (m.row l[i]).length := by simpa using hc4
                                                   omega
          have hpa : m.plTo l[i] k = m.pl l[i] := by rw [hkg]; exact plTo_all m _
          rw [hpa] at hmk hex hxl hlw ⊢
          have hf : m.Y.toNat + 1 - i = (m.Y.toNat + 1 - (i + 1)) + 1 := by omega
          have hcl2 : m.close (m.Y.toNat + 1 - (i + 1)) (i + 1) (((m.pl l[i]).map m.word).foldl m.meet l) = m.reach roots := by
            rw [← hcl, hf]; conv => rhs; unfold AM.close
            rw [dif_pos hlt]
          have htk2 : (((m.pl l[i]).map m.word).foldl m.meet l).take (i + 1) = l.take i ++ [l[i]] := by
            rw [hex, List.take_append_of_le_length (by omega), List.take_succ_eq_append_getElem hlt]
          have hsum : AM.sum m.size ((((m.pl l[i]).map m.word).foldl m.meet l).take (i + 1)) = AM.sum m.size (l.take i) + 1 + (m.row l[i]).length := by
            rw [htk2, sum_append, sum_cons, sum_nil, hsz]; omega
          refine cd_exit (xE (xE (xt_exit_block (xT (cR (sV (vM rfl) (sV (v_add rfl rfl (by unfold I64 at *; omega)) (sV (vM rfl) (sV (v_len (congrArg some hue) Tryz.underlying55) (sV (v_add rfl rfl (by unfold I64 at *; omega)) (sV (vA rfl) (sN (nK [0, 5, 8, 9] rfl (nx_xt (xB ?_)))))))))))))))
          refine xT (cR (sV (vM rfl) (sV (v_add rfl rfl (by unfold I64 at *; omega)) (sV (vA rfl) (sN (nK [0, 5, 8, 9] rfl (nx_xt ?_)))))))
          rw [← hsum]
          refine xt_ag (i + 1, ((m.pl l[i]).map m.word).foldl m.meet l, lw) ⟨hxl, hmk, hcl2⟩ (by show _ - _ < _ - _; omega)
      · skip
        have hge : i = l.length := by have : ¬ i < l.length := by simpa using hc3
                                      omega
        have hre : m.reach roots = l := by
          rw [← hcl]
          cases hq : m.Y.toNat + 1 - i with
          | zero => rfl
          | succ f => unfold AM.close; rw [dif_neg (by omega)]
        have hnd : m.needed roots = AM.sum m.size (l.take i) := by unfold AM.needed; rw [hre, hge, List.take_length]
        rw [hnd]
        refine cd_exit (xE (xE (xt_exit_block (xT (cS (cR (sV (vM rfl) (sV (vA rfl) (sN (nK [4] rfl (nT (cT ?_))))))))))))
        exact xt_rt rfl ⟨rfl, rfl⟩
end
end Go.Proofs.YtmhmpjgkkpbnnaaGreat
namespace Go.Proofs.YtmhmpjgkkpbnnaaGreat
open Go.Ck Fx Go.Hm Go.Hm.AM
attribute [local irreducible] St Cd Xt Nx DrL LsW
section
variable {L : RL} {m : AM} {S R : Res} {t k a : Int} {ly ln lf N rl rs : List Int} {sp : Int} {v : Value} {roots : List Int} {φ : Int → Option Nat} {A : Store}
set_option maxRecDepth 100000 in
theorem rminorErr_ct (hS : Shp S L.vs m.sh) (h : AM.Good m ly ln lf φ A) (hv : RowI S v roots) (hrl : roots.length ≤ 1000000) :
    Reads Tryz.prog 102 #[.pointer (some ⟨L.hb, 0, none⟩), v] [hR L m, wR L m, eR L m, kR L m, S] (.int .i64 (m.minorErr roots)) := by
  have z := h.g.sz
  have h1 := z.Y0; have h2 := z.Y1; have h3 := z.H0; have h4 := z.H1
  have h5 := m.base_former; have h6 := h.g.oldle
  unfold AM.minorErr
  refine ct_of (n := 33) Tryz.func102 rfl rfl (len rfl) fun hr w0 => ?_
  refine cS (cR (sV (vA rfl) (sN (nT (cS (cR (sV (vM rfl) (sV (vM rfl) (st_clr rfl rfl en36 rfl (rrooted_ct h.g hv hrl) ?_)))))))))
  refine sV (vA rfl) (sN (nK [0, 1, 4, 5] rfl (nT (cS (cS (cR (sV (vM rfl) (sV (v_neq rfl rfl) (sN (nK [0, 1, 4, 5, 10] rfl (nT (cC rfl (fun hc => ?_) (fun hc => ?_)))))))))))))
  · skip
    rw [if_pos (show m.rooted roots ≠ 0 by simpa using hc)]
    refine cS (cR (sV (vM rfl) (sV (vA rfl) (sN (nK [0, 1, 4] rfl (nT (cT (xR ?_))))))))
    exact xt_rt rfl ⟨rfl, rfl⟩
  · skip
    have he : m.rooted roots = 0 := by simpa using hc
    rw [if_neg (show ¬ m.rooted roots ≠ 0 by rw [he]; simp)]
    refine cK (xT (cS (cS (cd_drawh (ork [(0, 2), (1, 2), (2, 1), (3, 2), (4, 1), (5, 2), (6, 2), (7, 2), (8, 1), (9, 2), (10, 2), (11, 2), (12, 2), (13, 1), (14, 2), (15, 2), (16, 2), (17, 2), (18, 1), (19, 2), (20, 2)] .nil) (fun _ => true) mixed (by kernel_rfl) ?_))))
    refine dV rfl (vM rfl) (dV rfl (vM rfl) (dr_clr rfl rfl rfl en111 rfl (rneeded_ct hS h hv hrl (h.rooted he)) ?_))
    refine dV rfl (vM rfl) (dr_clr rfl rfl rfl en42 rfl (base_ct z) ?_)
    refine dV rfl (vM rfl) (dV rfl (vN rfl) (dV rfl (vF rfl fa53_1 rfl) (dr_v rfl (vL rfl ld3) ?_)))
    refine dV rfl (v_add rfl rfl (by unfold I64 at *; omega)) (dV rfl (vM rfl) (dV rfl (vN rfl) (dV rfl (vF rfl fa53_7 rfl) (dr_v rfl (vL rfl ld3) ?_))))
    refine dV rfl (v_sub rfl rfl (by unfold I64 at *; omega)) (dV rfl (vM rfl) (dV rfl (vN rfl) (dV rfl (vF rfl fa53_11 rfl) (dr_v rfl (vL rfl ld3) ?_))))
    refine dV rfl (v_sub rfl rfl (by unfold I64 at *; omega)) (dV rfl (v_gtr rfl rfl) (dr_nil (nK [4, 32] rfl (nT (cC rfl (fun hd => ?_) (fun hd => ?_))))))
    · skip
      rw [if_pos (by simpa using hd)]
      refine cS (cR (sV (vA rfl) (sN (nK [4] rfl (nT (cT (xR ?_)))))))
      exact xt_rt rfl ⟨rfl, rfl⟩
    · skip
      rw [if_neg (by simpa using hd)]
      refine cK (xT (cS (cR (sV (vA rfl) (sN (nK [4] rfl (nT (cT ?_))))))))
      exact xt_rt rfl ⟨rfl, rfl⟩
end
end Go.Proofs.YtmhmpjgkkpbnnaaGreat
namespace Go.Hm.AM
theorem fwdL_snoc (y : Bool) : ∀ (ts : List Int) (t : Int) (m : AM), fwdL y (ts ++ [t]) m = ((fwdL y ts m).1 ++ [((fwdL y ts m).2.fwd y t).1], ((fwdL y ts m).2.fwd y t).2)
  | [], t, m => rfl
  | a :: ts, t, m => by simp only [List.cons_append, fwdL, fwdL_snoc y ts t]
theorem fwdP_snoc (y : Bool) : ∀ (ps : List Int) (p : Int) (m : AM), fwdP y (ps ++ [p]) m = (fwdP y ps m).fwdAt y p
  | [], p, m => rfl
  | a :: ps, p, m => by simp only [List.cons_append, fwdP, fwdP_snoc y ps p]
theorem fwdL_take (y : Bool) {ts : List Int} {i : Nat} (h : i < ts.length) (m : AM) : fwdL y (ts.take (i + 1)) m = ((fwdL y (ts.take i) m).1 ++ [((fwdL y (ts.take i) m).2.fwd y ts[i]).1], ((fwdL y (ts.take i) m).2.fwd y ts[i]).2) := by
  rw [List.take_succ_eq_append_getElem h, fwdL_snoc]
theorem fwdP_take (y : Bool) {ps : List Int} {i : Nat} (h : i < ps.length) (m : AM) : fwdP y (ps.take (i + 1)) m = (fwdP y (ps.take i) m).fwdAt y ps[i] := by
  rw [List.take_succ_eq_append_getElem h, fwdP_snoc]
theorem J.fwdP_pre {m : AM} {ly ln lf N : List Int} {sp : Int} {φ : Int → Option Nat} {A : Store} {ps : List Int} (h : J m ly ln lf N ps sp N φ A) (hsp : sp ≤ m.old) (hps : ∀ p ∈ ps, ∃ t ∈ ln, p ∈ m.pl t) :
    ∀ i, i ≤ ps.length → ∃ ln' φ', J (AM.fwdP true (ps.take i) m) ly ln' lf N (ps.drop i) sp N φ' A ∧ Grow m (AM.fwdP true (ps.take i) m) ln ln' φ φ'
  | 0, _ => ⟨ln, φ, h, Grow.refl ..⟩
  | i + 1, hi => by
    obtain ⟨ln1, φ1, h1, g1⟩ := J.fwdP_pre h hsp hps i (by omega)
    obtain ⟨t, ht, hp⟩ := hps ps[i] (List.getElem_mem hi)
    have ho := g1.old
    have hb := h.g.obd ht
    have hp1 : ps[i] ∈ (AM.fwdP true (ps.take i) m).pl t := by rw [g1.pl (.inl (by omega))]; exact hp
    obtain ⟨ln2, φ2, h2, g2, _⟩ := h1.fwdAt true (rl' := ps.drop (i + 1)) (sp' := sp) (.inl (g1.sub ht)) hp1 (fun _ => ⟨rfl, by omega⟩) (fun hq => by cases hq) (fun q hq hqq => by
      rcases hqq with g | g
      · rw [List.drop_eq_getElem_cons hi] at g
        rcases List.mem_cons.1 g with g | g
        · exact absurd g (hq rfl)
        · exact .inl g
      · exact .inr g)
    rw [AM.fwdP_take true hi]
    exact ⟨ln2, φ2, h2, g1.trans g2⟩
theorem plTo_take (m : AM) (t : Int) (k : Nat) : m.plTo t k = (m.pl t).take (m.plTo t k).length := by
  have h : m.pl t = m.plTo t k ++ (refsFrom (0 + ((m.row t).take k).length) ((m.row t).drop k)).map (t + 1 + ·) := by
    unfold plTo pl
    conv => lhs; rw [← List.take_append_drop k (m.row t), refsFrom_append, List.map_append]
  rw [h, List.take_left]
theorem plTo_len (m : AM) (t : Int) (k : Nat) : (m.plTo t k).length ≤ (m.pl t).length := by
  have := congrArg List.length (plTo_take m t k)
  rw [List.length_take] at this; omega
theorem J.fwd_fields {m : AM} {ly ln lf N : List Int} {a : Int} {φ : Int → Option Nat} {A : Store} (h : J m ly ln lf N [] a N φ A) (ha : a ∈ ln) (k : Nat) :
    ∃ ln' φ' rl, J (AM.fwdP true (m.plTo a k) m) ly ln' lf N rl (a + m.size a) N φ' A ∧ Grow m (AM.fwdP true (m.plTo a k) m) ln ln' φ φ' := by
  have hab := h.g.obd ha
  have h' : J m ly ln lf N (m.pl a) (a + m.size a) N φ A := ⟨h.g.weak fun t ht p hp hq => by
    rcases hq with hq | hq
    · simp at hq
    · by_cases hpa : p < a + m.size a
      · left
        have hpb := pl_bd hp
        have := h.g.same (.inr (.inl ht)) (.inr (.inl ha)) (p := p) (by omega) (by omega) hq hpa
        subst this; exact hp
      · right; omega, h.s⟩
  obtain ⟨ln1, φ1, h1, g1⟩ := h'.fwdP_pre (by omega) (fun p hp => ⟨a, ha, hp⟩) (m.plTo a k).length (plTo_len m a k)
  rw [← plTo_take] at h1 g1
  exact ⟨ln1, φ1, _, h1, g1⟩
theorem J.look1 {m : AM} {ly ln lf N : List Int} {a : Int} {φ : Int → Option Nat} {A : Store} (h : J m ly ln lf N [] a N φ A) (ha : a ∈ ln) :
    ∃ ln' φ', J (AM.fwdP true (m.pl a) m) ly ln' lf N [] (a + m.size a) N φ' A ∧ Grow m (AM.fwdP true (m.pl a) m) ln ln' φ φ' ∧ (a + m.size a ∈ ln' ∨ a + m.size a = (AM.fwdP true (m.pl a) m).old) := by
  have hab := h.g.obd ha
  have h' : J m ly ln lf N (m.pl a) (a + m.size a) N φ A := ⟨h.g.weak fun t ht p hp hq => by
    rcases hq with hq | hq
    · simp at hq
    · by_cases hpa : p < a + m.size a
      · left
        have hpb := pl_bd hp
        have := h.g.same (.inr (.inl ht)) (.inr (.inl ha)) (p := p) (by omega) (by omega) hq hpa
        subst this; exact hp
      · right; omega, h.s⟩
  obtain ⟨ln1, φ1, h1, g1, s1, w1⟩ := J.fwdP (m.pl a) h' (by omega) (fun p hp => ⟨a, ha, hp⟩)
  have hsz : (AM.fwdP true (m.pl a) m).size a = m.size a := g1.size (.inl (by omega))
  have := Tl.next h1.g.o.tl a (g1.sub ha)
  rw [hsz] at this
  exact ⟨ln1, φ1, h1, g1, this⟩
end Go.Hm.AM
namespace Go.Proofs.YtmhmpjgkkpbnnaaGreat
open Go.Ck Fx Go.Hm Go.Hm.AM
attribute [local irreducible] St Cd Xt Nx DrL LsW
section
variable {L : RL} {m : AM} {S R : Res} {t k a : Int} {ly ln lf N rl rs : List Int} {sp : Int} {v : Value} {roots : List Int} {φ : Int → Option Nat} {A : Store}
theorem J.ours_t (h : Gd m ly ln lf N rl sp N) (ht : t ∈ ln) {p : Int} (hp : p ∈ m.pl t) : Ours m N N lf true (m.word p) := fun ho => by
  have hY : m.isY (m.word p) = true := ho
  simp only [if_true]
  rcases h.wo t ht p hp with g | g | g | g
  · rw [h.isYn (.inl g)] at hY; cases hY
  · rw [h.isYn (.inr (.inl g))] at hY; cases hY
  · exact ⟨g.1, g.1⟩
  · rw [h.isYn (.inr (.inr g.1))] at hY; cases hY
set_option maxHeartbeats 4000000 in
set_option maxRecDepth 100000 in
theorem rminor_ct (hS : Shp S L.vs m.sh) (h : AM.Good m ly ln lf φ A) (hv : RowI S v roots) (hrl : roots.length ≤ 1000000) :
    Ct Tryz.prog 68 #[.pointer (some ⟨L.hb, 0, none⟩), v] (rSH L m S) fun u h' => ∃ sl vk, u = .tuple #[sl, .int .i64 (m.minor roots).2.1] ∧ h' = vec sl 3 1 (m.minor roots).1.length (ints (m.minor roots).1) :: (rSH { L with vk := vk } (m.minor roots).2.2 S) := by
  have z := h.g.sz
  have h1 := z.Y0; have h2 := z.Y1; have h3 := z.H0; have h4 := z.H1
  have h5 := m.base_former; have h6 := h.g.oldle
  have hreml := rem_len h
  have hrn : rn m = (m.Y + 2 * m.H + 1).toNat := rfl
  obtain ⟨ra, rcp, hv1, _⟩ := id hv
  unfold rSH AM.minor
  refine ct_of (n := 139) Tryz.func68 rfl rfl (len rfl) fun hr w0 => ?_
  refine cd_vecshape (v := L.vk) (by unfold kR; repeat (first | exact Sel.here | apply Sel.there)) fun ka kcp hkv hka => ?_
  simp only [List.cons_append, List.nil_append]
  refine cS (cR (sV (vA rfl) (sV (vA rfl) (sN (nT (cS (cR (sV (vM rfl) (sV (vM rfl) (st_clr rfl rfl en102 rfl (rminorErr_ct hS h hv hrl) ?_))))))))))
  refine sV (vA rfl) (sN (nK [0, 1, 4, 5, 6] rfl (nT (cS (cS (cR (sV (vM rfl) (sV (v_neq rfl rfl) (sN (nK [0, 1, 4, 5, 6, 18] rfl (nT (cC rfl (fun hc => ?_) (fun hc => ?_)))))))))))))
  · skip
    rw [if_pos (show m.minorErr roots ≠ 0 by simpa using hc)]
    refine cd_vecnil 3 1 ?_
    refine cS (cR (sV (vM rfl) (sV (vA rfl) (sV (vA rfl) (sN (nK [0, 1, 4, 5] rfl (nT (cT (xR ?_)))))))))
    exact xt_rt rfl ⟨_, L.vk, rfl, rfl⟩
  · skip
    have he : m.minorErr roots = 0 := by simpa using hc
    rw [if_neg (show ¬ m.minorErr roots ≠ 0 by rw [he]; simp)]
    obtain ⟨hro, hroom⟩ := minorErr_ok he
    have hroots := h.rooted hro
    have hN := h.reach hroots
    have hJ := h.start hN hroom
    refine cK (xT (cS (cR (sV (vM rfl) (sV (vN rfl) (sV (vF rfl fa53_7 rfl) (sV (vL rfl ld3) ?_)))))))
    refine sV (vA rfl) (sN (nK [0, 1, 4, 5, 7] rfl (nT (cS (cR (sV (vA rfl) (sN (nT (cS (cS (cR (sV (vA rfl) (sN (nT (cd_block (cd_vecnil 3 1 ?_))))))))))))))))
    refine cd_loop (σ := Nat × Value) (fun q => [(0, .pointer (some ⟨L.hb, 0, none⟩)), (1, v), (7, .int .i64 m.old), (8, q.2), (9, .int .i64 (q.1 : Nat))]) (fun q => vec q.2 3 1 (AM.fwdL true (roots.take q.1) m).1.length (ints (AM.fwdL true (roots.take q.1) m).1) :: (rSH L (AM.fwdL true (roots.take q.1) m).2 S ++ hr)) (fun q => q.1 ≤ roots.length) (fun q => roots.length - q.1) (0, .slice none 0 0) (Nat.zero_le _) ⟨rfl, rfl, rfl, rfl, rfl, trivial⟩ (Sub.refl _) ?_
    rintro ⟨i, lv⟩ hi
    dsimp only at hi ⊢
    unfold rSH
    simp only [List.cons_append, List.nil_append]
    refine cS (cS (cR (sV (vM rfl) (sV (vM rfl) (sV (v_len (congrArg some hv1) Tryz.underlying27) (sV (v_lss rfl rfl) (sN (nK [0, 1, 7, 8, 9, 27] rfl (nT (cC rfl (fun hd => ?_) (fun hd => ?_)))))))))))
    · skip
      have hlt : i < roots.length := by simpa using hd
      obtain ⟨b, o, cp', hv2, hrd⟩ := hv.at hlt
      obtain ⟨ln1, φ1, h1J, g1, _⟩ := hJ.fwdL true (roots.take i) (fun _ => ⟨rfl, Int.le_refl _⟩) (fun hq => by cases hq) (fun w hw ho => hN.ro w (List.mem_of_mem_take hw) ho)
      have hours : Ours (AM.fwdL true (roots.take i) m).2 (m.reach roots) (m.reach roots) lf true roots[i] := fun ho => by
        rw [(mv_fwdL true (roots.take i) m).ours] at ho
        have := hN.ro _ (List.getElem_mem hlt) ho
        simp only [if_true]; exact ⟨this, this⟩
      have hlen := fwdL_len true (roots.take i) m
      have hlen2 : (roots.take i).length ≤ i := by rw [List.length_take]; omega
      refine cK (xT (cS (cd_block (cR (sV (vM rfl) (sV (vM rfl) (sV (vM rfl) (sV (vM rfl) (sV (v_ixo i (congrArg some hv2) rfl sl27 rfl hlt) (sV (vL rfl ld3) ?_))))))))))
      refine st_cl rfl rfl en98 rfl (rfwd_ct (L := L) (m := (AM.fwdL true (roots.take i) m).2) (by rw [g1.sh]; exact hS) h1J.g hours) ?_
      rintro v' h' ⟨rfl, rfl⟩
      unfold rSH
      simp only [List.cons_append, List.nil_append]
      refine st_buildSlice (cells := [.int .i64 ((AM.fwdL true (roots.take i) m).2.fwd true roots[i]).1]) rfl Tryz.underlying27 inf3 rfl rfl (by kernel_rfl) (ltn rfl) fun b37 => ?_
      refine st_append (news := [.int .i64 ((AM.fwdL true (roots.take i) m).2.fwd true roots[i]).1]) rfl rfl Tryz.underlying27 inf3 rfl (ltn rfl) (by repeat (first | exact Sel.here | apply Sel.there)) rfl (fun j u hu => by repeat (first | exact at_here (rd_cl (by simpa using hu)) | apply at_there)) (ones rfl) (by omega) (by omega) (ltn rfl) fun lv' hlv' hv1' => ?_
      refine sV (vA rfl) (sN (nK [0, 1, 7, 8, 9] rfl (nx_xt (xB (xT (cR (sV (vM rfl) (sV (v_add rfl rfl (by unfold I64 at *; omega)) (sV (vA rfl) (sN (nK [0, 1, 7, 8, 9] rfl (nx_xt ?_))))))))))))
      rw [show ints (AM.fwdL true (roots.take i) m).1 ++ [.int .i64 ((AM.fwdL true (roots.take i) m).2.fwd true roots[i]).1] = ints (AM.fwdL true (roots.take (i + 1)) m).1 by rw [fwdL_take true hlt]; simp [ints],
        show (AM.fwdL true (roots.take i) m).1.length + 1 = (AM.fwdL true (roots.take (i + 1)) m).1.length by rw [fwdL_take true hlt]; simp,
        show ((AM.fwdL true (roots.take i) m).2.fwd true roots[i]).2 = (AM.fwdL true (roots.take (i + 1)) m).2 by rw [fwdL_take true hlt]]
      refine xt_ag (i + 1, lv') hlt (by show _ - _ < _ - _; omega)
    · skip
      have hge : roots.take i = roots := List.take_of_length_le (by simpa using hd)
      rw [hge]
      obtain ⟨ln1, φ1, h1J, g1, _⟩ := hJ.fwdL true roots (fun _ => ⟨rfl, Int.le_refl _⟩) (fun hq => by cases hq) (fun w hw ho => hN.ro w hw ho)
      have ho1 := g1.old
      have hps : ∀ p ∈ m.remP, ∃ t ∈ ln1, p ∈ (AM.fwdL true roots m).2.pl t := fun p hp => by
        obtain ⟨t, ht, hp'⟩ := h.remP_mem hp
        exact ⟨t, g1.sub ht, by rw [g1.pl (.inl (by have := h.g.obd ht; omega))]; exact hp'⟩
      have hrun : m.minorRun roots = ((AM.fwdL true roots m).1, { (AM.look true m.H.toNat m.old (AM.fwdP true m.remP (AM.fwdL true roots m).2)).clear 1 (AM.look true m.H.toNat m.old (AM.fwdP true m.remP (AM.fwdL true roots m).2)).Y with new := 1, rem := [] }) := rfl
      rw [hrun]
      obtain ⟨out, hout⟩ : ∃ o, o = (AM.fwdL true roots m).1 := ⟨_, rfl⟩
      obtain ⟨m1, hm1⟩ : ∃ o, o = (AM.fwdL true roots m).2 := ⟨_, rfl⟩
      rw [← hm1] at h1J g1 ho1 hps
      rw [← hout, ← hm1]
      refine cd_exit (xE (xE (xt_exit_block (xT (cS (cS (cR (sV (vA rfl) (sN (nK [0, 7, 8, 10] rfl (nT (cd_block (cd_loop (σ := Nat × AM) (fun q => [(0, .pointer (some ⟨L.hb, 0, none⟩)), (7, .int .i64 m.old), (8, lv), (10, .int .i64 (q.1 : Nat))]) (fun q => vec lv 3 1 out.length (ints out) :: (rSH L q.2 S ++ hr)) (fun q => q.1 ≤ m.rem.length ∧ q.2 = AM.fwdP true (m.remP.take q.1) m1) (fun q => m.rem.length - q.1) (0, m1) ⟨Nat.zero_le _, rfl⟩ ⟨rfl, rfl, rfl, rfl, trivial⟩ (Sub.refl _) ?_)))))))))))))
      rintro ⟨i, mm⟩ ⟨hi, hmm⟩
      dsimp only at hi hmm ⊢
      have hrl' : m.remP.length = m.rem.length := by simp [AM.remP]
      obtain ⟨ln2, φ2, h2J, g2⟩ := h1J.fwdP_pre ho1 hps i (by omega)
      rw [← hmm] at h2J g2
      have hrem : mm.rem = m.rem := g2.rem.trans g1.rem
      have hYm : mm.Y = m.Y := g2.Y.trans g1.Y
      have hHm : mm.H = m.H := g2.H.trans g1.H
      have hrnm : rn mm = rn m := by unfold rn; rw [hYm, hHm]
      unfold rSH
      simp only [List.cons_append, List.nil_append]
      refine cS (cS (cR (sV (vM rfl) (sV (vM rfl) (sV (vN rfl) (sV (vF rfl fa53_12 rfl) (sV (vL rfl ld51) ?_)))))))
      refine sV (v_len (congrArg some hkv) Tryz.underlying51) (sV (v_lss rfl rfl) (sN (nK [0, 7, 8, 10, 45] rfl (nT (cC rfl (fun hc2 => ?_) (fun hc2 => ?_))))))
      · skip
        have hlt : i < m.rem.length := by simpa using hc2
        obtain ⟨kb, rfl⟩ := hka (by omega)
        have hp : mm.rem[i]? = some m.rem[i] := by rw [hrem]; exact List.getElem?_eq_getElem hlt
        have hpe : m.remP[i]'(by omega) = m.rem[i].1 + 1 + m.rem[i].2 := by simp [AM.remP]
        have hpm : m.rem[i].1 + 1 + m.rem[i].2 ∈ m.remP := List.mem_map.2 ⟨_, List.getElem_mem hlt, rfl⟩
        obtain ⟨t0, ht0, hpt⟩ := hps _ hpm
        have hpt2 : m.rem[i].1 + 1 + m.rem[i].2 ∈ mm.pl t0 := by rw [g2.pl (.inl (by have := h1J.g.obd ht0; omega))]; exact hpt
        have ht2 := g2.sub ht0
        have hbd := pl_bd hpt2; have o0 := ob_n h2J.g ht2; have g3 := o0.t0; have g4 := o0.h2
        obtain ⟨q1, j, q2, q3⟩ := h.rm _ (List.getElem_mem hlt)
        have o1 := ob_n h.g q1; have g5 := o1.t0; have g6 := o1.t1
        have hrd0 : Rd (kR L mm) ⟨kb, i * 2, none⟩ (.int .i64 m.rem[i].1) := rem_rds hkv hp 0 (by simp [ints])
        have hrd1 : Rd (kR L mm) ⟨kb, i * 2 + 1, none⟩ (.int .i64 m.rem[i].2) := rem_rds hkv hp 1 (by simp [ints])
        have hrd2 : Rd (wR L mm) ⟨L.wb, (m.rem[i].1 + 1 + m.rem[i].2).toNat, none⟩ (.int .i64 (mm.word (m.rem[i].1 + 1 + m.rem[i].2))) := a_rd (by omega) (by omega)
        have hnx : AM.fwdP true (m.remP.take (i + 1)) m1 = mm.fwdAt true (m.rem[i].1 + 1 + m.rem[i].2) := by
          rw [AM.fwdP_take true (show i < m.remP.length by omega), ← hmm, hpe]
        refine cK (xT (cS (cd_block (cS (cd_drawh (ork [(0, 2), (1, 2), (2, 2), (3, 1), (4, 2), (5, 2), (6, 2), (7, 1), (8, 2), (9, 2), (10, 2), (11, 2), (12, 1), (13, 2), (14, 2), (15, 2), (16, 1), (17, 2), (18, 2)] .nil) (fun _ => true) mixed (by kernel_rfl) ?_)))))
        refine dV rfl (vM rfl) (dV rfl (vN rfl) (dV rfl (vF rfl fa53_12 rfl) (dr_v rfl (vL rfl ld51) ?_)))
        refine dV rfl (vM rfl) (dV rfl (v_indexAddr (congrArg some hkv) rfl sl51 rfl hlt (Nat.zero_add _)) (dV rfl (v_ixArr (k := 0) rfl rfl Tryz.underlying147 sz3 rfl (by omega)) (dr_v rfl (vL rfl ld3) ?_)))
        refine dV rfl (v_add rfl rfl (by unfold I64 at *; omega)) (dV rfl (vM rfl) (dV rfl (vN rfl) (dV rfl (vF rfl fa53_12 rfl) (dr_v rfl (vL rfl ld51) ?_))))
        refine dV rfl (vM rfl) (dV rfl (v_indexAddr (congrArg some hkv) rfl sl51 rfl hlt (Nat.zero_add _)) (dV rfl (v_ixArr (k := 1) rfl rfl Tryz.underlying147 sz3 rfl (by omega)) (dr_v rfl (vL rfl ld3) ?_)))
        refine dV rfl (v_add rfl rfl (by unfold I64 at *; omega)) (dV rfl (vA rfl) (dr_nil (nK [0, 7, 8, 10, 11] rfl (nT (cd_drawh (ork [(0, 2), (1, 2), (2, 2), (4, 2), (5, 2), (6, 2), (7, 2), (8, 2), (9, 1), (10, 2), (11, 2), (12, 1)] (.two 3 (ork [(13, 0), (14, 2), (15, 0)] .nil) 13 (ork [(3, 0), (14, 2), (15, 0)] .nil))) (fun i => !(Nat.beq i 13 || Nat.beq i 15)) mixed (by kernel_rfl) ?_)))))
        refine dV rfl (vM rfl) (dV rfl (vN rfl) (dV rfl (vF rfl fa53_3 rfl) (dV rfl (vM rfl) (dV rfl (vM rfl) (dV rfl (vM rfl) (dV rfl (vN rfl) (dV rfl (vF rfl fa53_3 rfl) (dr_v rfl (vL rfl ld27) ?_))))))))
        refine dV rfl (vM rfl) (dV rfl (v_idx (m.rem[i].1 + 1 + m.rem[i].2).toNat rfl rfl sl27 (by omega) (by omega)) (dr_v rfl (vL rfl ld3) ?_))
        refine dr_two rfl rfl ?_ ?_
        · skip
          refine sV (vL rfl ld27) (dr_nx ?_)
          refine dr_eff rfl (st_cl rfl rfl en98 rfl (rfwd_ct (L := L) (S := S) (m := mm) (by rw [g2.sh, g1.sh]; exact hS) h2J.g (J.ours_t h2J.g ht2 hpt2)) ?_)
          rintro v' h' ⟨rfl, rfl⟩
          unfold rSH
          simp only [List.cons_append, List.nil_append]
          have hrn1 := rn_fwd mm true (mm.word (m.rem[i].1 + 1 + m.rem[i].2))
          have hal := arr_len (rn (mm.fwd true (mm.word (m.rem[i].1 + 1 + m.rem[i].2))).2) (mm.fwd true (mm.word (m.rem[i].1 + 1 + m.rem[i].2))).2.word
          refine dr_nx ?_
          refine dV rfl (v_idx (m.rem[i].1 + 1 + m.rem[i].2).toNat rfl rfl sl27 (by omega) (by omega)) (dr_eff rfl (st_sto rfl rfl sz3 (dr_nx ?_)))
          refine dr_nil (nK [0, 7, 8, 10] rfl (nx_xt (xB (xT (cR (sV (vM rfl) (sV (v_add rfl rfl (by unfold I64 at *; omega)) (sV (vA rfl) (sN (nK [0, 7, 8, 10] rfl (nx_xt ?_)))))))))))
          rw [arr_set' (by omega)]
          refine xt_ag (i + 1, mm.fwdAt true (m.rem[i].1 + 1 + m.rem[i].2)) ⟨hlt, hnx.symm⟩ (by show _ - _ < _ - _; omega)
        · skip
          refine st_cl rfl rfl en98 rfl (rfwd_ct (L := L) (S := S) (m := mm) (by rw [g2.sh, g1.sh]; exact hS) h2J.g (J.ours_t h2J.g ht2 hpt2)) ?_
          rintro v' h' ⟨rfl, rfl⟩
          unfold rSH
          simp only [List.cons_append, List.nil_append]
          have hrn1 := rn_fwd mm true (mm.word (m.rem[i].1 + 1 + m.rem[i].2))
          have hal := arr_len (rn (mm.fwd true (mm.word (m.rem[i].1 + 1 + m.rem[i].2))).2) (mm.fwd true (mm.word (m.rem[i].1 + 1 + m.rem[i].2))).2.word
          refine dr_nx ?_
          refine dr_eff rfl (sV (vL rfl ld27) (dr_nx ?_))
          refine dV rfl (v_idx (m.rem[i].1 + 1 + m.rem[i].2).toNat rfl rfl sl27 (by omega) (by omega)) (dr_eff rfl (st_sto rfl rfl sz3 (dr_nx ?_)))
          refine dr_nil (nK [0, 7, 8, 10] rfl (nx_xt (xB (xT (cR (sV (vM rfl) (sV (v_add rfl rfl (by unfold I64 at *; omega)) (sV (vA rfl) (sN (nK [0, 7, 8, 10] rfl (nx_xt ?_)))))))))))
          rw [arr_set' (by omega)]
          refine xt_ag (i + 1, mm.fwdAt true (m.rem[i].1 + 1 + m.rem[i].2)) ⟨hlt, hnx.symm⟩ (by show _ - _ < _ - _; omega)
      · skip
        have hge2 : m.remP.take i = m.remP := List.take_of_length_le (by have : ¬ i < m.rem.length := by simpa using hc2
                                                                         omega)
        rw [hge2] at hmm
        obtain ⟨ln3, φ3, h3J, g3, _⟩ := J.fwdP m.remP h1J ho1 hps
        rw [← hmm] at h3J g3
        have g13 := g1.trans g3
        have hst := Grow.at_old h.g h3J.g g13
        rw [← hmm]
        refine cd_exit (xE (xE (xt_exit_block (xT (cS (cd_block (cd_loop (σ := Nat × Int × AM) (fun q => [(0, .pointer (some ⟨L.hb, 0, none⟩)), (7, .int .i64 q.2.1), (8, lv)]) (fun q => vec lv 3 1 out.length (ints out) :: (rSH L q.2.2 S ++ hr)) (fun q => AM.look true q.1 q.2.1 q.2.2 = AM.look true m.H.toNat m.old mm ∧ m.base + m.H ≤ q.2.1 + q.1 ∧ ∃ ln' φ', J q.2.2 ly ln' lf (m.reach roots) [] q.2.1 (m.reach roots) φ' A ∧ Grow m q.2.2 ln ln' φ φ' ∧ (q.2.1 ∈ ln' ∨ q.2.1 = q.2.2.old)) (fun q => q.1) (m.H.toNat, m.old, mm) ⟨rfl, by have := z.H0; show _ ≤ m.old + (m.H.toNat : Int); omega, ln3, φ3, h3J, g13, hst⟩ ⟨rfl, rfl, rfl, trivial⟩ (Sub.refl _) ?_)))))))
        rintro ⟨f, a, nn⟩ ⟨hlook, hfa, ln4, φ4, h4J, g4, ha⟩
        dsimp only at hlook hfa h4J g4 ha ⊢
        have hremn : nn.rem = m.rem := g4.rem
        have hYn : nn.Y = m.Y := g4.Y
        have hHn : nn.H = m.H := g4.H
        have hbn : nn.base = m.base := g4.base
        have hrnn : rn nn = rn m := by unfold rn; rw [hYn, hHn]
        have hon := h4J.g.oldle
        have hfb := nn.base_former
        have zn := h4J.g.sz
        unfold rSH
        simp only [List.cons_append, List.nil_append]
        refine cS (cS (cR (sV (vM rfl) (sV (vM rfl) (sV (vN rfl) (sV (vF rfl fa53_7 rfl) (sV (vL rfl ld3) ?_)))))))
        refine sV (v_lss rfl rfl) (sN (nK [0, 7, 8, 86] rfl (nT (cC rfl (fun hc3 => ?_) (fun hc3 => ?_)))))
        · skip
          have hlt : a < nn.old := by simpa using hc3
          have ha' : a ∈ ln4 := ha.resolve_right (by omega)
          have ob := ob_n h4J.g ha'
          have g5 := ob.t0; have g6 := ob.h2; have hlen := ob.len zn
          have hsz : nn.size a = 1 + (nn.row a).length := rfl
          have hS4 : Shp S L.vs nn.sh := by rw [g4.sh]; exact hS
          obtain ⟨u, hu, hct⟩ := rshape_ct hS4 zn ob
          obtain ⟨ua, ucp, hue, _⟩ := id hu
          obtain ⟨f', rfl⟩ : ∃ f', f = f' + 1 := ⟨f - 1, by omega⟩
          refine cK (xT (cd_block (cS (cR (sV (vM rfl) (sV (vM rfl) (st_clr rfl rfl en38 rfl (hct) ?_)))))))
          refine sV (vA rfl) (sN (nK [0, 7, 8, 12] rfl (nT (cS (cS (cR (sV (vA rfl) (sN (nT (cd_block (cd_loop (σ := Nat × AM) (fun q => [(0, .pointer (some ⟨L.hb, 0, none⟩)), (7, .int .i64 a), (8, lv), (12, u), (13, .int .i64 (q.1 : Nat))]) (fun q => vec lv 3 1 out.length (ints out) :: (rSH L q.2 S ++ hr)) (fun q => q.1 ≤ (nn.row a).length ∧ q.2 = AM.fwdP true (nn.plTo a q.1) nn) (fun q => (nn.row a).length - q.1) (0, nn) ⟨Nat.zero_le _, rfl⟩ ⟨rfl, rfl, rfl, rfl, rfl, trivial⟩ (Sub.refl _) ?_)))))))))))
          rintro ⟨k, kk⟩ ⟨hk, hkk⟩
          dsimp only at hk hkk ⊢
          obtain ⟨ln5, φ5, rl5, h5J, g5'⟩ := h4J.fwd_fields ha' k
          rw [← hkk] at h5J g5'
          have hYk : kk.Y = m.Y := g5'.Y.trans hYn
          have hHk : kk.H = m.H := g5'.H.trans hHn
          have hrnk : rn kk = rn m := by unfold rn; rw [hYk, hHk]
          unfold rSH
          simp only [List.cons_append, List.nil_append]
          refine cS (cS (cR (sV (vM rfl) (sV (vM rfl) (sV (v_len (congrArg some hue) Tryz.underlying55) (sV (v_lss rfl rfl) (sN (nK [0, 7, 8, 12, 13, 93] rfl (nT (cC rfl (fun hc4 => ?_) (fun hc4 => ?_)))))))))))
          · skip
            have hkl : k < (nn.row a).length := by simpa using hc4
            obtain ⟨ub, uo, ucp', hue2, hrdu⟩ := hu.at hkl
            have hps4 := plTo_succ hkl
            refine cK (xT (cS (cd_block (cS (cR (sV (vM rfl) (sV (vM rfl) (sV (v_ixo k (congrArg some hue2) rfl sl55 rfl hkl) (sV (vL rfl ld4) ?_)))))))))
            refine sN (nK [0, 7, 8, 12, 13, 99] rfl (nT (cC rfl (fun hb => ?_) (fun hb => ?_))))
            · skip
              rw [hb, if_pos rfl] at hps4
              have hpn : a + 1 + (k : Int) ∈ nn.pl a := mem_pl.2 ⟨k, by rw [List.getElem?_eq_getElem hkl, hb], rfl⟩
              have hpk : a + 1 + (k : Int) ∈ kk.pl a := by rw [g5'.pl (.inl hlt)]; exact hpn
              have hrdw : Rd (wR L kk) ⟨L.wb, (a + 1 + k).toNat, none⟩ (.int .i64 (kk.word (a + 1 + k))) := a_rd (by omega) (by omega)
              have hnx : AM.fwdP true (nn.plTo a (k + 1)) nn = kk.fwdAt true (a + 1 + k) := by rw [hps4, AM.fwdP_snoc, ← hkk]
              refine cd_drawh (ork [(0, 2), (1, 2), (2, 2), (4, 2), (5, 2), (6, 2), (7, 2), (8, 2), (9, 2), (10, 2), (11, 2), (12, 1), (13, 2), (14, 2), (15, 2), (16, 2), (17, 2), (18, 1)] (.two 3 (ork [(19, 0), (20, 2), (21, 0)] .nil) 19 (ork [(3, 0), (20, 2), (21, 0)] .nil))) (fun i => !(Nat.beq i 19 || Nat.beq i 21)) mixed (by kernel_rfl) ?_
              refine dV rfl (vM rfl) (dV rfl (vN rfl) (dV rfl (vF rfl fa53_3 rfl) (dV rfl (vM rfl) (dV rfl (v_add rfl rfl (by unfold I64 at *; omega)) (dV rfl (vM rfl) (dV rfl (v_add rfl rfl (by unfold I64 at *; omega)) (dV rfl (vM rfl) (dV rfl (vM rfl) (dV rfl (vN rfl) (dV rfl (vF rfl fa53_3 rfl) (dr_v rfl (vL rfl ld27) ?_)))))))))))
              refine dV rfl (vM rfl) (dV rfl (v_add rfl rfl (by unfold I64 at *; omega)) (dV rfl (vM rfl) (dV rfl (v_add rfl rfl (by unfold I64 at *; omega)) (dV rfl (v_idx (a + 1 + k).toNat rfl rfl sl27 (by omega) (by omega)) (dr_v rfl (vL rfl ld3) ?_)))))
              refine dr_two rfl rfl ?_ ?_
              · skip
                refine sV (vL rfl ld27) (dr_nx ?_)
                refine dr_eff rfl (st_cl rfl rfl en98 rfl (rfwd_ct (L := L) (S := S) (m := kk) (by rw [g5'.sh, g4.sh]; exact hS) h5J.g (J.ours_t h5J.g (g5'.sub ha') hpk)) ?_)
                rintro v' h' ⟨rfl, rfl⟩
                unfold rSH
                simp only [List.cons_append, List.nil_append]
                have hrn1 := rn_fwd kk true (kk.word (a + 1 + k))
                have hal := arr_len (rn (kk.fwd true (kk.word (a + 1 + k))).2) (kk.fwd true (kk.word (a + 1 + k))).2.word
                refine dr_nx ?_
                refine dV rfl (v_idx (a + 1 + k).toNat rfl rfl sl27 (by omega) (by omega)) (dr_eff rfl (st_sto rfl rfl sz3 (dr_nx ?_)))
                refine dr_nil (nK [0, 7, 8, 12, 13] rfl (nx_xt (xB (xT (cR (sV (vM rfl) (sV (v_add rfl rfl (by unfold I64 at *; omega)) (sV (vA rfl) (sN (nK [0, 7, 8, 12, 13] rfl (nx_xt ?_)))))))))))
                rw [arr_set' (by omega)]
                refine xt_ag (k + 1, kk.fwdAt true (a + 1 + k)) ⟨hkl, hnx.symm⟩ (by show _ - _ < _ - _; omega)
              · skip
                refine st_cl rfl rfl en98 rfl (rfwd_ct (L := L) (S := S) (m := kk) (by rw [g5'.sh, g4.sh]; exact hS) h5J.g (J.ours_t h5J.g (g5'.sub ha') hpk)) ?_
                rintro v' h' ⟨rfl, rfl⟩
                unfold rSH
                simp only [List.cons_append, List.nil_append]
                have hrn1 := rn_fwd kk true (kk.word (a + 1 + k))
                have hal := arr_len (rn (kk.fwd true (kk.word (a + 1 + k))).2) (kk.fwd true (kk.word (a + 1 + k))).2.word
                refine dr_nx ?_
                refine dr_eff rfl (sV (vL rfl ld27) (dr_nx ?_))
                refine dV rfl (v_idx (a + 1 + k).toNat rfl rfl sl27 (by omega) (by omega)) (dr_eff rfl (st_sto rfl rfl sz3 (dr_nx ?_)))
                refine dr_nil (nK [0, 7, 8, 12, 13] rfl (nx_xt (xB (xT (cR (sV (vM rfl) (sV (v_add rfl rfl (by unfold I64 at *; omega)) (sV (vA rfl) (sN (nK [0, 7, 8, 12, 13] rfl (nx_xt ?_)))))))))))
                rw [arr_set' (by omega)]
                refine xt_ag (k + 1, kk.fwdAt true (a + 1 + k)) ⟨hkl, hnx.symm⟩ (by show _ - _ < _ - _; omega)
            · skip
              rw [hb, if_neg (by simp), List.append_nil] at hps4
              refine cK (xB (xT (cR (sV (vM rfl) (sV (v_add rfl rfl (by unfold I64 at *; omega)) (sV (vA rfl) (sN (nK [0, 7, 8, 12, 13] rfl (nx_xt ?_)))))))))
              refine xt_ag (k + 1, kk) ⟨hkl, by rw [hps4]; exact hkk⟩ (by show _ - _ < _ - _; omega)
          · skip
            have hkg : k = (nn.row a).length := by have : ¬ k < (nn.row a).length := by simpa using hc4
                                                   omega
            rw [hkg, plTo_all] at hkk
            obtain ⟨ln6, φ6, h6J, g6', ha6⟩ := h4J.look1 ha'
            rw [← hkk] at h6J g6' ha6
            have hlk2 : AM.look true f' (a + nn.size a) kk = AM.look true m.H.toNat m.old mm := by
              rw [← hlook, hkk]; conv => rhs; unfold AM.look
              rw [if_pos hlt]
            refine cd_exit (xE (xE (xt_exit_block (xT (cR (sV (vM rfl) (sV (v_add rfl rfl (by unfold I64 at *; omega)) (sV (vM rfl) (sV (v_len (congrArg some hue) Tryz.underlying55) (sV (v_add rfl rfl (by unfold I64 at *; omega)) (sV (vA rfl) (sN (nK [0, 7, 8] rfl (nx_xt (xB ?_)))))))))))))))
            rw [show a + 1 + ((nn.row a).length : Int) = a + nn.size a by omega]
            refine xt_ag (f', a + nn.size a, kk) ⟨hlk2, by show _ ≤ a + nn.size a + (f' : Int); omega, ln6, φ6, h6J, g4.trans g6', ha6⟩ (by show f' < f' + 1; omega)
        · skip
          have hge3 : ¬ a < nn.old := by simpa using hc3
          have hln : AM.look true f a nn = nn := by
            cases f with
            | zero => rfl
            | succ f => unfold AM.look; rw [if_neg hge3]
          rw [hln] at hlook
          rw [← hlook]
          refine cd_vecnil 147 2 ?_
          refine cd_exit (xE (xE (xt_exit_block (xT (cS (cR (sV (vM rfl) (sV (vM rfl) (sV (vN rfl) (sV (vF rfl fa53_2 rfl) (sV (vL rfl ld3) ?_)))))))))))
          refine st_cl rfl rfl en103 rfl (rclear_ct (L := L) (m := nn) zn (lo := 1) (n := nn.Y) (by omega) (by omega) (by omega)) ?_
          rintro v' h' ⟨rfl, rfl⟩
          simp only [List.cons_append, List.nil_append]
          refine sN (nK [0, 8] rfl (nT (cS (cR (sV (vM rfl) (sV (vN rfl) (sV (vF rfl fa53_6 rfl) (st_sto rfl rfl sz3 ?_))))))))
          refine sN (nK [0, 8] rfl (nT (cS (cR (sV (vM rfl) (sV (vN rfl) (sV (vF rfl fa53_12 rfl) (st_sto rfl rfl sz51 ?_))))))))
          refine sN (nK [8] rfl (nT (cS (cR (sV (vM rfl) (sV (vA rfl) (sV (vA rfl) (sN (nK [4, 5] rfl (nT (cT ?_)))))))))))
          exact xt_rt rfl ⟨lv, .slice none 0 0, rfl, rfl⟩
end
end Go.Proofs.YtmhmpjgkkpbnnaaGreat
namespace Go.Proofs.YtmhmpjgkkpbnnaaGreat
open Go.Ck Fx Go.Hm Go.Hm.AM
attribute [local irreducible] St Cd Xt Nx DrL LsW
section
variable {L : RL} {m : AM} {S R : Res} {t k a : Int} {ly ln lf N rl rs : List Int} {sp : Int} {v : Value} {roots : List Int} {φ : Int → Option Nat} {A : Store}
set_option maxHeartbeats 4000000 in
set_option maxRecDepth 100000 in
theorem rflip_ct (hS : Shp S L.vs m.sh) (h : AM.Good m ly ln lf φ A) (hv : RowI S v roots) (hrl : roots.length ≤ 1000000) :
    Ct Tryz.prog 69 #[.pointer (some ⟨L.hb, 0, none⟩), v] (rSH L m S) fun u h' => ∃ sl vk, u = .tuple #[sl, .int .i64 (m.flip roots).2.1] ∧ h' = vec sl 3 1 (m.flip roots).1.length (ints (m.flip roots).1) :: (rSH { L with vk := vk } (m.flip roots).2.2 S) := by
  have z := h.g.sz
  have h1 := z.Y0; have h2 := z.Y1; have h3 := z.H0; have h4 := z.H1
  have h5 := m.base_former; have h6 := h.g.oldle
  unfold rSH AM.flip
  refine ct_of (n := 72) Tryz.func69 rfl rfl (len rfl) fun hr w0 => ?_
  simp only [List.cons_append, List.nil_append]
  refine cS (cR (sV (vA rfl) (sV (vA rfl) (sN (nT (cS (cS (cR (sV (vM rfl) (sV (vN rfl) (sV (vF rfl fa53_9 rfl) (sV (vL rfl ld4) ?_))))))))))))
  refine sN (nK [0, 1, 4, 5, 13] rfl (nT (cC rfl (fun hc => ?_) (fun hc => ?_))))
  · skip
    rw [if_pos hc]
    refine cd_vecnil 3 1 ?_
    refine cS (cR (sV (vA rfl) (sV (vA rfl) (sN (nK [0, 1, 4, 5] rfl (nT (cT (xR ?_))))))))
    exact xt_rt rfl ⟨.slice none 0 0, L.vk, rfl, rfl⟩
  · skip
    rw [if_neg (show ¬ m.busy = true by rw [hc]; simp)]
    refine cK (xT (cS (cR (sV (vM rfl) (sV (vM rfl) (st_cl rfl rfl en68 rfl (rminor_ct (L := L) (m := m) (S := S) hS h hv hrl) ?_))))))
    rintro v' h' ⟨sl, vk, rfl, rfl⟩
    unfold rSH
    simp only [List.cons_append, List.nil_append]
    refine sV (vM rfl) (sV (v_extract rfl rfl) (sV (v_extract rfl rfl) (sV (vA rfl) (sV (vA rfl) (sN (nK [0, 4, 5, 6, 7] rfl (nT (cS (cS (cR (sV (vM rfl) (sV (v_neq rfl rfl) (sN (nK [0, 4, 5, 6, 7, 21] rfl (nT (cC rfl (fun hd => ?_) (fun hd => ?_)))))))))))))))))
    · skip
      rw [if_pos (show (m.minor roots).2.1 ≠ 0 by simpa using hd)]
      refine cd_vecnil 3 1 ?_
      refine cS (cR (sV (vM rfl) (sV (vA rfl) (sV (vA rfl) (sN (nK [0, 4, 5, 6] rfl (nT (cT (xR ?_)))))))))
      exact xt_rt rfl ⟨.slice none 0 0, vk, rfl, rfl⟩
    · skip
      have hd0 : (m.minor roots).2.1 = 0 := by simpa using hd
      rw [if_neg (show ¬ (m.minor roots).2.1 ≠ 0 by rw [hd0]; simp)]
      have he : m.minorErr roots = 0 := by
        by_cases h0 : m.minorErr roots = 0
        · exact h0
        · rw [minor_no h0] at hd0; exact absurd hd0 h0
      obtain ⟨ln1, φ1, g1, ⟨r1, r2⟩, s1, s2, s3, s4, s5, s6, s7, s8⟩ := h.minor he
      have hlf : lf = [] := h.g.nb hc
      subst hlf
      have hT := g1.turn (minor_rem he)
      obtain ⟨l, hl⟩ : ∃ l, l = (m.minor roots).1 := ⟨_, rfl⟩
      obtain ⟨n, hn⟩ : ∃ n, n = (m.minor roots).2.2 := ⟨_, rfl⟩
      rw [← hl] at r1 r2
      rw [← hn] at g1 hT s1 s2 s3
      rw [← hl, ← hn]
      have hll : l.length ≤ 200 := by rw [r1]; exact (rooted_ok (minorErr_ok he).1).1
      have zn := g1.g.sz
      have z0 := zn.Y0; have z1 := zn.Y1; have z2 := zn.H0; have z3 := zn.H1
      have g2 := n.base_former; have g3 := g1.g.oldle
      have hg := hT.g
      have hfl : ∀ i, ∃ ln' φ', J (AM.fwdL false (l.take i) n.turn).2 [] ln' ln1 [] n.turn.remP (n.turn.base + n.turn.H) [] φ' A ∧ Grow n.turn (AM.fwdL false (l.take i) n.turn).2 [] ln' φ1 φ' := fun i => by
        obtain ⟨a1, a2, a3, a4, _⟩ := J.fwdL (A := A) (φ := φ1) false (l.take i) ⟨hg, hT.s⟩ (fun hq => by cases hq) (fun _ => rfl) (fun v hv ho => by
          obtain ⟨j, hj, rfl⟩ := List.getElem_of_mem (List.mem_of_mem_take hv)
          have hF : n.turn.isF l[j] = true := ho
          rcases (r2 j (by omega) hj).1 with g | g
          · rw [hg.isFn (.inl g)] at hF; cases hF
          · simpa using g)
        exact ⟨a1, a2, a3, a4⟩
      refine cK (xT (cS (cd_drawh (ork [(0, 2), (1, 2), (2, 2), (3, 2), (4, 1), (5, 2), (6, 1), (7, 2), (8, 2), (9, 2), (10, 0)] .nil) (fun i => !(Nat.beq i 10)) mixed (by kernel_rfl) ?_)))
      refine dV rfl (vM rfl) (dV rfl (vM rfl) (dV rfl (vN rfl) (dV rfl (vF rfl fa53_7 rfl) (dr_v rfl (vL rfl ld3) ?_))))
      refine dV rfl (vM rfl) (dr_clr rfl rfl rfl en42 rfl (base_ct (L := { L with vk := vk }) (m := n) zn) ?_)
      refine dV rfl (v_sub rfl rfl (by unfold I64 at *; omega)) (dV rfl (vN rfl) (dV rfl (vF rfl fa53_11 rfl) (dr_eff rfl (st_sto rfl rfl sz3 (dr_nx ?_)))))
      refine dr_nil (nK [0, 4, 5, 6] rfl (nT (cS (cR (sV (vM rfl) (sV (vM rfl) (sV (vN rfl) (sV (vF rfl fa53_8 rfl) (sV (vL rfl ld4) ?_)))))))))
      refine sV (v_not rfl) (sV (vN rfl) (sV (vF rfl fa53_8 rfl) (st_sto rfl rfl sz4 ?_)))
      refine sN (nK [0, 4, 5, 6] rfl (nT (cS (cR (sV (vM rfl) (sV (vM rfl) (st_clr rfl rfl en42 rfl (base_ct (L := { L with vk := vk }) (m := { n with left := n.old - n.base, up := !n.up }) ⟨z0, z1, z2, z3, zn.n, zn.w⟩) ?_)))))))
      refine sV (vN rfl) (sV (vF rfl fa53_7 rfl) (st_sto rfl rfl sz3 ?_))
      refine sN (nK [0, 4, 5, 6] rfl (nT (cS (cR (sV (vM rfl) (sV (vM rfl) (sV (vN rfl) (sV (vF rfl fa53_7 rfl) (sV (vL rfl ld3) ?_)))))))))
      refine sV (vN rfl) (sV (vF rfl fa53_10 rfl) (st_sto rfl rfl sz3 ?_))
      refine sN (nK [0, 4, 5, 6] rfl (nT (cS (cR (sV (vM rfl) (sV (vN rfl) (sV (vF rfl fa53_9 rfl) (st_sto rfl rfl sz4 ?_))))))))
      refine sN (nK [0, 4, 5, 6] rfl (nT (cS (cR (sV (vA rfl) (sN (nT (cS (cS (cR (sV (vA rfl) (sN (nT (cd_block (cd_vecnil 3 1 ?_)))))))))))))))
      refine cd_vecshape (v := sl) (E := 3) (sz := 1) (n := l.length) (l := ints l) (by repeat (first | exact Sel.here | apply Sel.there)) fun sa scp hsv hsa => ?_
      refine cd_loop (σ := Nat × Value) (fun q => [(0, .pointer (some ⟨L.hb, 0, none⟩)), (6, sl), (8, q.2), (9, .int .i64 (q.1 : Nat))]) (fun q => vec q.2 3 1 (AM.fwdL false (l.take q.1) n.turn).1.length (ints (AM.fwdL false (l.take q.1) n.turn).1) :: vec sl 3 1 l.length (ints l) :: (rSH { L with vk := vk } (AM.fwdL false (l.take q.1) n.turn).2 S ++ hr)) (fun q => q.1 ≤ l.length) (fun q => l.length - q.1) (0, .slice none 0 0) (Nat.zero_le _) ⟨rfl, rfl, rfl, rfl, trivial⟩ (by repeat (first | exact Sub.refl _ | exact Sub.nil _ | refine Sub.sel (by repeat (first | exact Sel.here | apply Sel.there)) ?_ | apply Sub.cons)) ?_
      rintro ⟨i, lv⟩ hi
      dsimp only at hi ⊢
      unfold rSH
      simp only [List.cons_append, List.nil_append]
      refine cS (cS (cR (sV (vM rfl) (sV (vM rfl) (sV (v_len (congrArg some hsv) Tryz.underlying27) (sV (v_lss rfl rfl) (sN (nK [0, 6, 8, 9, 59] rfl (nT (cC rfl (fun hf => ?_) (fun hf => ?_)))))))))))
      · skip
        have hlt : i < l.length := by simpa using hf
        obtain ⟨sb, rfl⟩ := hsa (by omega)
        have hrd : Rd (vec sl 3 1 l.length (ints l)) ⟨sb, i, none⟩ (.int .i64 l[i]) := rd_vec hsv (by simp [ints, hlt])
        obtain ⟨ln2, φ2, j2, q2⟩ := hfl i
        have hours : Ours (AM.fwdL false (l.take i) n.turn).2 [] [] ln1 false l[i] := fun ho => by
          rw [(mv_fwdL false (l.take i) n.turn).ours] at ho
          have hF : n.turn.isF l[i] = true := ho
          rcases (r2 i (by omega) hlt).1 with g | g
          · rw [hg.isFn (.inl g)] at hF; cases hF
          · simpa using g
        have hlen := fwdL_len false (l.take i) n.turn
        have hlen2 : (l.take i).length ≤ i := by rw [List.length_take]; omega
        refine cK (xT (cS (cd_block (cR (sV (vM rfl) (sV (vM rfl) (sV (vM rfl) (sV (vM rfl) (sV (v_idx i (congrArg some hsv) rfl sl27 rfl hlt) (sV (vL rfl ld3) ?_))))))))))
        refine st_cl rfl rfl en98 rfl (rfwd_ct (L := { L with vk := vk }) (S := S) (m := (AM.fwdL false (l.take i) n.turn).2) (by rw [q2.sh]; show Shp S L.vs n.sh; rw [s1]; exact hS) j2.g hours) ?_
        rintro v' h' ⟨rfl, rfl⟩
        unfold rSH
        simp only [List.cons_append, List.nil_append]
        refine st_buildSlice (cells := [.int .i64 ((AM.fwdL false (l.take i) n.turn).2.fwd false l[i]).1]) rfl Tryz.underlying27 inf3 rfl rfl (by kernel_rfl) (ltn rfl) fun b37 => ?_
        refine st_append (news := [.int .i64 ((AM.fwdL false (l.take i) n.turn).2.fwd false l[i]).1]) rfl rfl Tryz.underlying27 inf3 rfl (ltn rfl) (by repeat (first | exact Sel.here | apply Sel.there)) rfl (fun j u hu => by repeat (first | exact at_here (rd_cl (by simpa using hu)) | apply at_there)) (ones rfl) (by omega) (by omega) (ltn rfl) fun lv' hlv' hv1' => ?_
        refine sV (vA rfl) (sN (nK [0, 6, 8, 9] rfl (nx_xt (xB (xT (cR (sV (vM rfl) (sV (v_add rfl rfl (by unfold I64 at *; omega)) (sV (vA rfl) (sN (nK [0, 6, 8, 9] rfl (nx_xt ?_))))))))))))
        rw [show ints (AM.fwdL false (l.take i) n.turn).1 ++ [.int .i64 ((AM.fwdL false (l.take i) n.turn).2.fwd false l[i]).1] = ints (AM.fwdL false (l.take (i + 1)) n.turn).1 by rw [fwdL_take false hlt]; simp [ints],
          show (AM.fwdL false (l.take i) n.turn).1.length + 1 = (AM.fwdL false (l.take (i + 1)) n.turn).1.length by rw [fwdL_take false hlt]; simp,
          show ((AM.fwdL false (l.take i) n.turn).2.fwd false l[i]).2 = (AM.fwdL false (l.take (i + 1)) n.turn).2 by rw [fwdL_take false hlt]]
        refine xt_ag (i + 1, lv') hlt (by show _ - _ < _ - _; omega)
      · skip
        have hge : l.take i = l := List.take_of_length_le (by simpa using hf)
        rw [hge]
        refine cd_exit (xE (xE (xt_exit_block (xT (cS (cR (sV (vM rfl) (sV (vA rfl) (sV (vA rfl) (sN (nK [4, 5] rfl (nT (cT ?_)))))))))))))
        exact xt_rt rfl ⟨lv, vk, rfl, rfl⟩
end
end Go.Proofs.YtmhmpjgkkpbnnaaGreat
namespace Go.Proofs.YtmhmpjgkkpbnnaaGreat
open Go.Ck Fx Go.Hm Go.Hm.AM
attribute [local irreducible] St Cd Xt Nx DrL LsW
section
variable {L : RL} {m : AM} {S R : Res} {t k a : Int} {ly ln lf N rl rs : List Int} {sp : Int} {v : Value} {roots : List Int} {φ : Int → Option Nat} {A : Store}
set_option maxRecDepth 100000 in
theorem rrefers_ct (hS : Shp S L.vs m.sh) (h : Gd m ly ln lf N rl sp rs) (hs1 : m.base ≤ m.scan) (hs2 : m.scan < m.old) : Reads Tryz.prog 104 #[.pointer (some ⟨L.hb, 0, none⟩), .int .i64 m.scan] [hR L m, eR L m, S] (.bool (m.isRef m.scan)) := by
  have z := h.sz
  have h1 := z.Y0; have h2 := z.Y1; have h3 := z.H0; have h4 := z.H1
  have h5 := m.base_former; have h6 := h.oldle
  obtain ⟨a, ha, ha1, ha2, hob, hrf⟩ := h.scanned hs1 hs2
  have o := ob_n h ha
  have g1 := o.t0; have g2 := o.h2; have hlen := o.len z; have hsz : m.size a = 1 + (m.row a).length := rfl
  have hrn : rn m = (m.Y + 2 * m.H + 1).toNat := rfl
  unfold AM.isRef
  rw [hob]
  refine ct_of (n := 31) Tryz.func104 rfl rfl (len rfl) fun hr w0 => ?_
  refine cS (cR (sV (vA rfl) (sN (nT (cS (cR (sV (vM rfl) (sV (vA rfl) (sN (nK [0, 1, 4, 5] rfl (nT (cS (cd_block (cd_loop (σ := Nat) (fun i => [(0, .pointer (some ⟨L.hb, 0, none⟩)), (1, .int .i64 m.scan), (5, .int .i64 (m.scan - (i : Nat)))]) (fun _ => [hR L m, eR L m, S] ++ hr) (fun i => a + (i : Int) ≤ m.scan) (fun i => (m.scan - a).toNat - i) 0 (by show a + ((0 : Nat) : Int) ≤ m.scan; omega) ⟨rfl, rfl, (by rw [show m.scan - ((0 : Nat) : Int) = m.scan by omega]; rfl), trivial⟩ (Sub.refl _) ?_))))))))))))))
  rintro i hi
  have hrd : Rd (eR L m) ⟨L.eb, (m.scan - (i : Int)).toNat, none⟩ (.int .i64 (m.head (m.scan - i))) := a_rd (by omega) (by omega)
  simp only [List.cons_append, List.nil_append]
  refine cS (cS (cR (sV (vM rfl) (sV (vN rfl) (sV (vF rfl fa53_4 rfl) (sV (vL rfl ld27) ?_))))))
  refine sV (vM rfl) (sV (v_idx (m.scan - (i : Int)).toNat rfl rfl sl27 (by omega) (by omega)) (sV (vL rfl ld3) ?_))
  refine sV (v_eql rfl rfl) (sN (nK [0, 1, 5, 14] rfl (nT (cC rfl (fun hc => ?_) (fun hc => ?_)))))
  · skip
    have h0 : m.head (m.scan - i) = 0 := by simpa using hc
    have hne : m.scan - (i : Int) ≠ a := fun e => by have := o.h0; rw [e] at h0; omega
    refine cK (xT (cd_block (cR (sV (vM rfl) (sV (v_sub rfl rfl (by unfold I64 at *; omega)) (sV (vA rfl) (sN (nK [0, 1, 5] rfl (nx_xt (xB ?_))))))))))
    rw [show m.scan - (i : Int) - 1 = m.scan - ((i + 1 : Nat) : Int) by omega]
    refine xt_ag (i + 1) (show a + ((i + 1 : Nat) : Int) ≤ m.scan by omega) (by omega)
  · skip
    have h0 : m.head (m.scan - i) ≠ 0 := by simpa using hc
    have hea : m.scan - (i : Int) = a := by
      by_cases hq : m.scan - (i : Int) = a
      · exact hq
      · exact absurd (h.inner ha (x := m.scan - i) (by omega) (by omega)) h0
    rw [hea]
    obtain ⟨u, hu, hct⟩ := rshape_ct hS z o
    obtain ⟨ua, ucp, hue, _⟩ := id hu
    refine cd_exit (xE (xE (xt_exit_block (xT (cS (cR (sV (vM rfl) (sV (vM rfl) (sV (v_lss rfl rfl) (sV (vM rfl) ?_))))))))))
    cases hb : decide (a < m.scan)
    · skip
      refine st_sk rfl rfl rfl ?_
      refine st_sk rfl rfl rfl ?_
      refine st_sk rfl rfl rfl ?_
      refine st_sk rfl rfl rfl ?_
      refine st_sk rfl rfl rfl ?_
      refine st_sk rfl rfl rfl ?_
      refine st_sk rfl rfl rfl ?_
      refine st_sk rfl rfl rfl ?_
      refine st_sk rfl rfl rfl ?_
      refine sV (vP rfl rfl) (sV (vA rfl) (sN (nK [4] rfl (nT (cT ?_)))))
      exact xt_rt rfl ⟨rfl, rfl⟩
    · skip
      have hlt : a < m.scan := by simpa using hb
      have hkl : (m.scan - a - 1).toNat < (m.row a).length := by omega
      obtain ⟨ub, uo, ucp', hue2, hrdu⟩ := hu.at hkl
      have href : (m.row a)[(m.scan - a - 1).toNat] = m.ref a (m.scan - a - 1) := by unfold AM.ref; rw [List.getD_eq_getElem?_getD, List.getElem?_eq_getElem hkl]; rfl
      rw [href] at hrdu
      rw [Bool.true_and]
      refine st_vg rfl rfl (vM rfl) (st_vg rfl rfl (vM rfl) (st_clrg rfl rfl rfl rfl en38 rfl (hct) ?_))
      refine st_vg rfl rfl (vM rfl) (st_vg rfl rfl (vM rfl) (st_vg rfl rfl (v_sub rfl rfl (by unfold I64 at *; omega)) (st_vg rfl rfl (v_sub rfl rfl (by unfold I64 at *; omega)) (st_vg rfl rfl (v_ixo (m.scan - a - 1).toNat (congrArg some hue2) rfl sl55 (by omega) hkl) (st_vg rfl rfl (vL rfl ld4) ?_)))))
      refine sV (v_pick_true rfl rfl) (sV (vA rfl) (sN (nK [4] rfl (nT (cT ?_)))))
      exact xt_rt rfl ⟨rfl, rfl⟩
end
end Go.Proofs.YtmhmpjgkkpbnnaaGreat
namespace Go.Proofs.YtmhmpjgkkpbnnaaGreat
open Go.Ck Fx Go.Hm Go.Hm.AM
attribute [local irreducible] St Cd Xt Nx DrL LsW
section
variable {L : RL} {m : AM} {S R : Res} {t k a : Int} {ly ln lf N rl rs : List Int} {sp : Int} {v : Value} {roots : List Int} {φ : Int → Option Nat} {A : Store}
theorem Good.ours_s (h : AM.Good m ly ln lf φ A) (hb : m.busy = true) (hs : m.scan < m.old) (hr : m.isRef m.scan = true) : Ours m ly [] lf false (m.word m.scan) := by
  obtain ⟨a, ha, ha1, ha2, hob, hrf⟩ := h.g.scanned (h.g.sc hb).1 hs
  exact Good.ours_f h (.inr ha) (hrf.1 hr)
set_option maxHeartbeats 4000000 in
set_option maxRecDepth 100000 in
theorem rstep_ct (hS : Shp S L.vs m.sh) (h : AM.Good m ly ln lf φ A) {w : Int} (hw : I64 w) :
    Ct Tryz.prog 70 #[.pointer (some ⟨L.hb, 0, none⟩), .int .i64 w] (rSH L m S) fun u h' => u = .tuple #[.int .i64 (m.step w).1, .int .i64 (m.step w).2.1] ∧ h' = rSH L (m.step w).2.2 S := by
  obtain ⟨M, hM⟩ : ∃ M, M = AM.steps w.toNat m := ⟨_, rfl⟩
  unfold rSH AM.step
  rw [← hM]
  dsimp only
  refine ct_of (n := 97) Tryz.func70 rfl rfl (len rfl) fun hr w0 => ?_
  simp only [List.cons_append, List.nil_append]
  refine cS (cR (sV (vA rfl) (sV (vA rfl) (sN (nT (cS (cS (cR (sV (vM rfl) (sV (v_lss rfl rfl) (sN (nK [0, 1, 4, 5, 8] rfl (nT (cC rfl (fun hc => ?_) (fun hc => ?_)))))))))))))))
  · skip
    rw [if_pos hc]
    refine cS (cR (sV (vA rfl) (sV (vA rfl) (sN (nK [0, 1, 4, 5] rfl (nT (cT (xR ?_))))))))
    exact xt_rt rfl ⟨rfl, rfl⟩
  · skip
    have hw0 : 0 ≤ w := by simpa using hc
    rw [if_neg (by rw [hc]; simp)]
    refine cK (xT (cS (cS (cR (sV (vM rfl) (sV (vN rfl) (sV (vF rfl fa53_9 rfl) (sV (vL rfl ld4) ?_))))))))
    refine sV (v_not rfl) (sN (nK [0, 1, 4, 5, 13] rfl (nT (cC rfl (fun hd => ?_) (fun hd => ?_)))))
    · skip
      rw [if_pos hd]
      refine cS (cR (sV (vA rfl) (sV (vA rfl) (sN (nK [0, 1, 4, 5] rfl (nT (cT (xR ?_))))))))
      exact xt_rt rfl ⟨rfl, rfl⟩
    · skip
      have hbz : m.busy = true := by simpa using hd
      rw [if_neg (by rw [hd]; simp)]
      refine cK (xT (cS (cd_block (cd_loop (σ := Nat × AM) (fun q => [(0, .pointer (some ⟨L.hb, 0, none⟩)), (1, .int .i64 (q.1 : Nat))]) (fun q => rSH L q.2 S ++ hr) (fun q => (q.1 : Int) ≤ w ∧ AM.steps q.1 q.2 = M ∧ q.2.busy = true ∧ q.2.sh = m.sh ∧ ∃ ln' φ', AM.Good q.2 ly ln' lf φ' A) (fun q => q.1) (w.toNat, m) ⟨by show (w.toNat : Int) ≤ w; omega, hM.symm, hbz, rfl, ln, φ, h⟩ ⟨rfl, (by rw [show ((w.toNat : Nat) : Int) = w by omega]; rfl), trivial⟩ (Sub.refl _) ?_))))
      rintro ⟨j, n⟩ ⟨hj, hst, hb, hsh, ln1, φ1, g1⟩
      dsimp only at hj hst hb hsh g1 ⊢
      have zn := g1.g.sz
      have z0 := zn.Y0; have z1 := zn.Y1; have z2 := zn.H0; have z3 := zn.H1
      have g2 := n.base_former; have g3 := g1.g.oldle; have g4 := g1.g.sc hb
      have hrn : rn n = (n.Y + 2 * n.H + 1).toNat := rfl
      unfold rSH
      simp only [List.cons_append, List.nil_append]
      refine cS (cS (cd_drawh (ork [(0, 2), (1, 2), (2, 2), (3, 2), (4, 2), (5, 2), (6, 1), (7, 2), (8, 2), (9, 2), (10, 1), (11, 2), (12, 2)] .nil) (fun _ => true) mixed (by kernel_rfl) ?_))
      refine dV rfl (vM rfl) (dV rfl (v_gtr rfl rfl) (dV rfl (vM rfl) (dr_cut (k := 10) (d := 26) (v := .bool (decide (0 < (j : Int)) && decide (n.scan < n.old))) (fun hcut => bool_want (b := decide (0 < (j : Int))) true (fun hg => ?_) (fun hg => ?_)) ?_)))
      · refine dp_sk rfl rfl rfl hg ?_
        refine dp_sk rfl rfl rfl hg ?_
        refine dp_sk rfl rfl rfl hg ?_
        refine dr_sk rfl rfl rfl hg ?_
        refine dp_sk rfl rfl rfl hg ?_
        refine dp_sk rfl rfl rfl hg ?_
        refine dp_sk rfl rfl rfl hg ?_
        refine dr_sk rfl rfl rfl hg ?_
        refine dp_sk rfl rfl rfl hg ?_
        refine dV rfl (vP (bool_ev rfl hg) rfl) ?_
        exact hcut _ (ssub_head (by first | rfl | (rw [hg]; rfl) | simp_all) (uS rfl (uS rfl (uS rfl (uS rfl (uS rfl (uS rfl (uS rfl (uS rfl (uS rfl (ssub_refl)))))))))))
      · skip
        refine dp_vg rfl rfl (bG rfl hg) (vM rfl) (dp_vg rfl rfl (bG rfl hg) (vN rfl) (dp_vg rfl rfl (bG rfl hg) (vF rfl fa53_10 rfl) (dr_vg rfl rfl (bG rfl hg) (vL rfl ld3) ?_)))
        refine dp_vg rfl rfl (bG rfl hg) (vM rfl) (dp_vg rfl rfl (bG rfl hg) (vN rfl) (dp_vg rfl rfl (bG rfl hg) (vF rfl fa53_7 rfl) (dr_vg rfl rfl (bG rfl hg) (vL rfl ld3) ?_)))
        refine dp_vg rfl rfl (bG rfl hg) (v_lss rfl rfl) (dV rfl (v_pick_true (bool_ev rfl hg) rfl) ?_)
        exact hcut _ (ssub_head (by first | rfl | (rw [hg]; rfl) | simp_all) (uS rfl (uS rfl (uS rfl (uS rfl (uS rfl (uS rfl (uS rfl (uS rfl (uS rfl (ssub_refl)))))))))))
      refine dr_nil (nK [0, 1, 26] rfl (nT (cC rfl (fun he => ?_) (fun he => ?_))))
      · skip
        have hj0 : 0 < j := by simp at he; omega
        have hs0 : n.scan < n.old := by simp at he; omega
        obtain ⟨j', rfl⟩ : ∃ j', j = j' + 1 := ⟨j - 1, by omega⟩
        have hst1 : AM.steps j' n.step1 = M := by
          rw [← hst]; show _ = if _ then _ else _; rw [if_pos hs0]
        obtain ⟨ln2, φ2, k1, k2, k3, k4, k5, k6, k7, k8, k9, k10, k11⟩ := g1.step1 hb hs0
        have hrd : Rd (wR L n) ⟨L.wb, n.scan.toNat, none⟩ (.int .i64 (n.word n.scan)) := a_rd (by omega) (by omega)
        refine cK (xT (cd_block (cS (cR (sV (vM rfl) (sV (vM rfl) (sV (vN rfl) (sV (vF rfl fa53_10 rfl) (sV (vL rfl ld3) ?_)))))))))
        refine st_clr rfl rfl en104 rfl (rrefers_ct (by rw [hsh]; exact hS) g1.g g4.1 hs0) ?_
        refine sV (vA rfl) (sN (nK [0, 1, 6] rfl (nT (cS (cS (cR (sV (vM rfl) (sN (nK [0, 1, 33] rfl (nT (cC rfl (fun hf => ?_) (fun hf => ?_))))))))))))
        · skip
          have hn1 : n.step1 = { n.fwdAt false n.scan with scan := (n.fwdAt false n.scan).scan + 1 } := by unfold AM.step1; rw [if_pos hf]
          obtain ⟨a, ha, ha1, ha2, hob, hrf⟩ := g1.g.scanned g4.1 hs0
          obtain ⟨ln3, φ3, j3, q3, sc3, _⟩ := J.fwdAt (A := A) (φ := φ1) ⟨g1.g, g1.s⟩ false (rl' := n.remP) (sp' := n.base + n.H) (.inl ha) (hrf.1 hf) (fun hq => by cases hq) (fun _ => rfl) (fun q _ hq => hq)
          have hsc : (n.fwd false (n.word n.scan)).2.scan = n.scan := sc3
          have hrn1 := rn_fwd n false (n.word n.scan)
          have hal := arr_len (rn (n.fwd false (n.word n.scan)).2) (n.fwd false (n.word n.scan)).2.word
          refine cd_drawh (ork [(0, 2), (1, 2), (2, 2), (4, 2), (5, 2), (6, 2), (8, 2), (9, 2), (10, 2), (11, 2), (12, 1), (13, 2), (14, 2), (15, 2), (16, 1), (17, 2), (18, 1)] (.three 3 (.two 7 (ork [(19, 0), (20, 2), (21, 0)] .nil) 19 (ork [(7, 0), (20, 2), (21, 0)] .nil)) 7 (.two 3 (ork [(19, 0), (20, 2), (21, 0)] .nil) 19 (ork [(3, 0), (20, 2), (21, 0)] .nil)) 19 (.two 3 (ork [(7, 0), (20, 2), (21, 0)] .nil) 7 (ork [(3, 0), (20, 2), (21, 0)] .nil)))) (fun i => !(Nat.beq i 19 || Nat.beq i 21)) mixed (by kernel_rfl) ?_
          refine dV rfl (vM rfl) (dV rfl (vN rfl) (dV rfl (vF rfl fa53_3 rfl) (dV rfl (vM rfl) (dV rfl (vN rfl) (dV rfl (vF rfl fa53_10 rfl) (dV rfl (vM rfl) (dV rfl (vM rfl) (dV rfl (vN rfl) (dV rfl (vF rfl fa53_3 rfl) (dr_v rfl (vL rfl ld27) ?_))))))))))
          refine dV rfl (vM rfl) (dV rfl (vN rfl) (dV rfl (vF rfl fa53_10 rfl) (dr_v rfl (vL rfl ld3) ?_)))
          refine dV rfl (v_idx n.scan.toNat rfl rfl sl27 (by omega) (by omega)) (dr_v rfl (vL rfl ld3) ?_)
          refine dr_three rfl rfl rfl ?_ ?_ ?_
          · skip
            refine sV (vL rfl ld27) (dr_nx ?_)
            refine dr_two rfl rfl ?_ ?_
            · skip
              refine sV (vL rfl ld3) (dr_nx ?_)
              refine dr_eff rfl (st_cl rfl rfl en98 rfl (rfwd_ct (L := L) (S := S) (by rw [hsh]; exact hS) g1.g (Good.ours_s g1 hb hs0 hf)) ?_)
              rintro v' h' ⟨rfl, rfl⟩
              unfold rSH
              simp only [List.cons_append, List.nil_append]
              refine dr_nx ?_
              refine dV rfl (v_idx n.scan.toNat rfl rfl sl27 (by omega) (by omega)) (dr_eff rfl (st_sto rfl rfl sz3 (dr_nx ?_)))
              refine dr_nil (nK [0, 1] rfl (nT (cS (cR (sV (vM rfl) (sV (vM rfl) (sV (vN rfl) (sV (vF rfl fa53_10 rfl) (sV (vL rfl ld3) ?_)))))))))
              refine sV (v_add rfl rfl (by unfold I64 at *; omega)) (sV (vN rfl) (sV (vF rfl fa53_10 rfl) (st_sto rfl rfl sz3 ?_)))
              refine sN (nK [0, 1] rfl (nT (cR (sV (vM rfl) (sV (v_sub rfl rfl (by unfold I64 at *; omega)) (sV (vA rfl) (sN (nK [0, 1] rfl (nx_xt (xB ?_))))))))))
              rw [arr_set' (by omega)]
              rw [show ((j' + 1 : Nat) : Int) - 1 = (j' : Int) by omega]
              refine xt_ag (j', { n.fwdAt false n.scan with scan := (n.fwdAt false n.scan).scan + 1 }) (by rw [← hn1]; exact ⟨(by show (j' : Int) ≤ w; omega), hst1, k8, k4.trans hsh, ln2, φ2, k1⟩) (by show j' < j' + 1; omega)
            · skip
              refine st_cl rfl rfl en98 rfl (rfwd_ct (L := L) (S := S) (by rw [hsh]; exact hS) g1.g (Good.ours_s g1 hb hs0 hf)) ?_
              rintro v' h' ⟨rfl, rfl⟩
              unfold rSH
              simp only [List.cons_append, List.nil_append]
              refine dr_nx ?_
              refine dr_eff rfl (sV (vL rfl ld3) (dr_nx ?_))
              refine dV rfl (v_idx n.scan.toNat rfl rfl sl27 (by omega) (by omega)) (dr_eff rfl (st_sto rfl rfl sz3 (dr_nx ?_)))
              refine dr_nil (nK [0, 1] rfl (nT (cS (cR (sV (vM rfl) (sV (vM rfl) (sV (vN rfl) (sV (vF rfl fa53_10 rfl) (sV (vL rfl ld3) ?_)))))))))
              refine sV (v_add rfl rfl (by unfold I64 at *; omega)) (sV (vN rfl) (sV (vF rfl fa53_10 rfl) (st_sto rfl rfl sz3 ?_)))
              refine sN (nK [0, 1] rfl (nT (cR (sV (vM rfl) (sV (v_sub rfl rfl (by unfold I64 at *; omega)) (sV (vA rfl) (sN (nK [0, 1] rfl (nx_xt (xB ?_))))))))))
              rw [arr_set' (by omega)]
              rw [show ((j' + 1 : Nat) : Int) - 1 = (j' : Int) by omega]
              refine xt_ag (j', { n.fwdAt false n.scan with scan := (n.fwdAt false n.scan).scan + 1 }) (by rw [← hn1]; exact ⟨(by show (j' : Int) ≤ w; omega), hst1, k8, k4.trans hsh, ln2, φ2, k1⟩) (by show j' < j' + 1; omega)
          · skip
            refine sV (vL rfl ld3) (dr_nx ?_)
            refine dr_two rfl rfl ?_ ?_
            · skip
              refine sV (vL rfl ld27) (dr_nx ?_)
              refine dr_eff rfl (st_cl rfl rfl en98 rfl (rfwd_ct (L := L) (S := S) (by rw [hsh]; exact hS) g1.g (Good.ours_s g1 hb hs0 hf)) ?_)
              rintro v' h' ⟨rfl, rfl⟩
              unfold rSH
              simp only [List.cons_append, List.nil_append]
              refine dr_nx ?_
              refine dV rfl (v_idx n.scan.toNat rfl rfl sl27 (by omega) (by omega)) (dr_eff rfl (st_sto rfl rfl sz3 (dr_nx ?_)))
              refine dr_nil (nK [0, 1] rfl (nT (cS (cR (sV (vM rfl) (sV (vM rfl) (sV (vN rfl) (sV (vF rfl fa53_10 rfl) (sV (vL rfl ld3) ?_)))))))))
              refine sV (v_add rfl rfl (by unfold I64 at *; omega)) (sV (vN rfl) (sV (vF rfl fa53_10 rfl) (st_sto rfl rfl sz3 ?_)))
              refine sN (nK [0, 1] rfl (nT (cR (sV (vM rfl) (sV (v_sub rfl rfl (by unfold I64 at *; omega)) (sV (vA rfl) (sN (nK [0, 1] rfl (nx_xt (xB ?_))))))))))
              rw [arr_set' (by omega)]
              rw [show ((j' + 1 : Nat) : Int) - 1 = (j' : Int) by omega]
              refine xt_ag (j', { n.fwdAt false n.scan with scan := (n.fwdAt false n.scan).scan + 1 }) (by rw [← hn1]; exact ⟨(by show (j' : Int) ≤ w; omega), hst1, k8, k4.trans hsh, ln2, φ2, k1⟩) (by show j' < j' + 1; omega)
            · skip
              refine st_cl rfl rfl en98 rfl (rfwd_ct (L := L) (S := S) (by rw [hsh]; exact hS) g1.g (Good.ours_s g1 hb hs0 hf)) ?_
              rintro v' h' ⟨rfl, rfl⟩
              unfold rSH
              simp only [List.cons_append, List.nil_append]
              refine dr_nx ?_
              refine dr_eff rfl (sV (vL rfl ld27) (dr_nx ?_))
              refine dV rfl (v_idx n.scan.toNat rfl rfl sl27 (by omega) (by omega)) (dr_eff rfl (st_sto rfl rfl sz3 (dr_nx ?_)))
              refine dr_nil (nK [0, 1] rfl (nT (cS (cR (sV (vM rfl) (sV (vM rfl) (sV (vN rfl) (sV (vF rfl fa53_10 rfl) (sV (vL rfl ld3) ?_)))))))))
              refine sV (v_add rfl rfl (by unfold I64 at *; omega)) (sV (vN rfl) (sV (vF rfl fa53_10 rfl) (st_sto rfl rfl sz3 ?_)))
              refine sN (nK [0, 1] rfl (nT (cR (sV (vM rfl) (sV (v_sub rfl rfl (by unfold I64 at *; omega)) (sV (vA rfl) (sN (nK [0, 1] rfl (nx_xt (xB ?_))))))))))
              rw [arr_set' (by omega)]
              rw [show ((j' + 1 : Nat) : Int) - 1 = (j' : Int) by omega]
              refine xt_ag (j', { n.fwdAt false n.scan with scan := (n.fwdAt false n.scan).scan + 1 }) (by rw [← hn1]; exact ⟨(by show (j' : Int) ≤ w; omega), hst1, k8, k4.trans hsh, ln2, φ2, k1⟩) (by show j' < j' + 1; omega)
          · skip
            refine st_cl rfl rfl en98 rfl (rfwd_ct (L := L) (S := S) (by rw [hsh]; exact hS) g1.g (Good.ours_s g1 hb hs0 hf)) ?_
            rintro v' h' ⟨rfl, rfl⟩
            unfold rSH
            simp only [List.cons_append, List.nil_append]
            refine dr_nx ?_
            refine dr_two rfl rfl ?_ ?_
            · skip
              refine sV (vL rfl ld27) (dr_nx ?_)
              refine dr_eff rfl (sV (vL rfl ld3) (dr_nx ?_))
              refine dV rfl (v_idx n.scan.toNat rfl rfl sl27 (by omega) (by omega)) (dr_eff rfl (st_sto rfl rfl sz3 (dr_nx ?_)))
              refine dr_nil (nK [0, 1] rfl (nT (cS (cR (sV (vM rfl) (sV (vM rfl) (sV (vN rfl) (sV (vF rfl fa53_10 rfl) (sV (vL rfl ld3) ?_)))))))))
              refine sV (v_add rfl rfl (by unfold I64 at *; omega)) (sV (vN rfl) (sV (vF rfl fa53_10 rfl) (st_sto rfl rfl sz3 ?_)))
              refine sN (nK [0, 1] rfl (nT (cR (sV (vM rfl) (sV (v_sub rfl rfl (by unfold I64 at *; omega)) (sV (vA rfl) (sN (nK [0, 1] rfl (nx_xt (xB ?_))))))))))
              rw [arr_set' (by omega)]
              rw [show ((j' + 1 : Nat) : Int) - 1 = (j' : Int) by omega]
              refine xt_ag (j', { n.fwdAt false n.scan with scan := (n.fwdAt false n.scan).scan + 1 }) (by rw [← hn1]; exact ⟨(by show (j' : Int) ≤ w; omega), hst1, k8, k4.trans hsh, ln2, φ2, k1⟩) (by show j' < j' + 1; omega)
            · skip
              refine sV (vL rfl ld3) (dr_nx ?_)
              refine dr_eff rfl (sV (vL rfl ld27) (dr_nx ?_))
              refine dV rfl (v_idx n.scan.toNat rfl rfl sl27 (by omega) (by omega)) (dr_eff rfl (st_sto rfl rfl sz3 (dr_nx ?_)))
              refine dr_nil (nK [0, 1] rfl (nT (cS (cR (sV (vM rfl) (sV (vM rfl) (sV (vN rfl) (sV (vF rfl fa53_10 rfl) (sV (vL rfl ld3) ?_)))))))))
              refine sV (v_add rfl rfl (by unfold I64 at *; omega)) (sV (vN rfl) (sV (vF rfl fa53_10 rfl) (st_sto rfl rfl sz3 ?_)))
              refine sN (nK [0, 1] rfl (nT (cR (sV (vM rfl) (sV (v_sub rfl rfl (by unfold I64 at *; omega)) (sV (vA rfl) (sN (nK [0, 1] rfl (nx_xt (xB ?_))))))))))
              rw [arr_set' (by omega)]
              rw [show ((j' + 1 : Nat) : Int) - 1 = (j' : Int) by omega]
              refine xt_ag (j', { n.fwdAt false n.scan with scan := (n.fwdAt false n.scan).scan + 1 }) (by rw [← hn1]; exact ⟨(by show (j' : Int) ≤ w; omega), hst1, k8, k4.trans hsh, ln2, φ2, k1⟩) (by show j' < j' + 1; omega)
        · skip
          have hn1 : n.step1 = { n with scan := n.scan + 1 } := by unfold AM.step1; rw [if_neg (by rw [hf]; simp)]
          refine cK (xT (cS (cR (sV (vM rfl) (sV (vM rfl) (sV (vN rfl) (sV (vF rfl fa53_10 rfl) (sV (vL rfl ld3) ?_))))))))
          refine sV (v_add rfl rfl (by unfold I64 at *; omega)) (sV (vN rfl) (sV (vF rfl fa53_10 rfl) (st_sto rfl rfl sz3 ?_)))
          refine sN (nK [0, 1] rfl (nT (cR (sV (vM rfl) (sV (v_sub rfl rfl (by unfold I64 at *; omega)) (sV (vA rfl) (sN (nK [0, 1] rfl (nx_xt (xB ?_))))))))))
          rw [show ((j' + 1 : Nat) : Int) - 1 = (j' : Int) by omega]
          refine xt_ag (j', { n with scan := n.scan + 1 }) (by rw [← hn1]; exact ⟨(by show (j' : Int) ≤ w; omega), hst1, k8, k4.trans hsh, ln2, φ2, k1⟩) (by show j' < j' + 1; omega)
      · skip
        have hfin : n = M := by
          rw [← hst]
          cases j with
          | zero => rfl
          | succ j =>
            have : ¬ n.scan < n.old := by simp at he; omega
            show n = if _ then _ else _
            rw [if_neg this]
        subst hfin
        refine cd_exit (xE (xE (xt_exit_block (xT (cS (cS (cd_drawh (ork [(0, 2), (1, 2), (2, 2), (3, 1), (4, 2), (5, 2), (6, 2), (7, 1), (8, 2)] .nil) (fun _ => true) mixed (by kernel_rfl) ?_)))))))
        refine dV rfl (vM rfl) (dV rfl (vN rfl) (dV rfl (vF rfl fa53_10 rfl) (dr_v rfl (vL rfl ld3) ?_)))
        refine dV rfl (vM rfl) (dV rfl (vN rfl) (dV rfl (vF rfl fa53_7 rfl) (dr_v rfl (vL rfl ld3) ?_)))
        refine dV rfl (v_lss rfl rfl) (dr_nil (nK [0, 73] rfl (nT (cC rfl (fun hg => ?_) (fun hg => ?_)))))
        · skip
          rw [if_pos (by simpa using hg)]
          refine cS (cd_drawh (ork [(0, 2), (1, 2), (2, 2), (3, 1), (4, 2), (5, 2), (6, 2), (7, 1), (8, 2), (9, 2), (10, 2)] .nil) (fun _ => true) mixed (by kernel_rfl) ?_)
          refine dV rfl (vM rfl) (dV rfl (vN rfl) (dV rfl (vF rfl fa53_7 rfl) (dr_v rfl (vL rfl ld3) ?_)))
          refine dV rfl (vM rfl) (dV rfl (vN rfl) (dV rfl (vF rfl fa53_10 rfl) (dr_v rfl (vL rfl ld3) ?_)))
          refine dV rfl (v_sub rfl rfl (by unfold I64 at *; omega)) (dV rfl (vA rfl) (dV rfl (vA rfl) (dr_nil (nK [0, 4, 5] rfl (nT (cT (xR ?_)))))))
          exact xt_rt rfl ⟨rfl, rfl⟩
        · skip
          rw [if_neg (by simpa using hg)]
          unfold AM.fin
          refine cK (xT (cS (cd_drawh (ork [(0, 2), (1, 2), (2, 1), (3, 2), (4, 2), (5, 2), (6, 1), (7, 0)] .nil) (fun i => !(Nat.beq i 7)) mixed (by kernel_rfl) ?_)))
          refine dV rfl (vM rfl) (dV rfl (vM rfl) (dr_clr rfl rfl rfl en105 rfl (former_ct (L := L) (m := n) zn) ?_))
          refine dV rfl (vM rfl) (dV rfl (vN rfl) (dV rfl (vF rfl fa53_1 rfl) (dr_v rfl (vL rfl ld3) ?_)))
          refine dr_eff rfl (st_cl rfl rfl en103 rfl (rclear_ct (L := L) (m := n) zn (lo := n.former) (n := n.H) (by omega) (by omega) (by omega)) ?_)
          rintro v' h' ⟨rfl, rfl⟩
          simp only [List.cons_append, List.nil_append]
          refine dr_nx ?_
          refine dr_nil (nK [0] rfl (nT (cS (cR (sV (vM rfl) (sV (vN rfl) (sV (vF rfl fa53_9 rfl) (st_sto rfl rfl sz4 ?_))))))))
          refine sN (nK [0] rfl (nT (cS (cR (sV (vM rfl) (sV (vN rfl) (sV (vF rfl fa53_11 rfl) (st_sto rfl rfl sz3 ?_))))))))
          refine sN (nK [] rfl (nT (cS (cR (sV (vA rfl) (sV (vA rfl) (sN (nT (cT ?_)))))))))
          exact xt_rt rfl ⟨rfl, rfl⟩
end
end Go.Proofs.YtmhmpjgkkpbnnaaGreat
namespace Go.Proofs.YtmhmpjgkkpbnnaaGreat
open Go.Ck Fx Go.Hm Go.Hm.AM
attribute [local irreducible] St Cd Xt Nx DrL LsW
section
variable {L : RL} {m : AM} {S R : Res} {t k a : Int} {ly ln lf N rl rs : List Int} {sp : Int} {v : Value} {roots : List Int} {φ : Int → Option Nat} {A : Store}
set_option maxRecDepth 100000 in
theorem rwhere_ct (z : Sz m) : Reads Tryz.prog 39 #[.pointer (some ⟨L.hb, 0, none⟩), .int .i64 t] [hR L m, oR L m] (.int .i64 (m.seen t)) := by
  have h1 := z.Y0; have h2 := z.Y1; have h3 := z.H0; have h4 := z.H1
  have h5 := m.base_former
  have hrn : rn m = (m.Y + 2 * m.H + 1).toNat := rfl
  have hpos : (decide (0 < t) && m.isF t) = m.isF t := by
    cases hf : m.isF t
    · simp
    · rw [isF_iff] at hf; simp; omega
  unfold AM.seen
  refine ct_of (n := 30) Tryz.func39 rfl rfl (len rfl) fun hr w0 => ?_
  refine cS (cR (sV (vA rfl) (sN (nT (cS (cS (cR (sV (vM rfl) (sV (v_gtr rfl rfl) (sV (vM rfl) (st_cut (k := 7) (d := 11) (v := .bool (decide (0 < t) && m.isF t)) (fun hcut => bool_want (b := decide (0 < t)) true (fun hg => ?_) (fun hg => ?_)) ?_)))))))))))
  · refine st_sk rfl rfl hg ?_
    refine st_sk rfl rfl hg ?_
    refine st_sk rfl rfl hg ?_
    refine sV (vP (bool_ev rfl hg) rfl) ?_
    exact hcut _ (ssub_head (by first | rfl | (rw [hg]; rfl) | simp_all) (uS rfl (uS rfl (uS rfl (ssub_refl)))))
  · skip
    refine st_vg rfl (bG rfl hg) (vM rfl) (st_vg rfl (bG rfl hg) (vM rfl) (st_clrg rfl (bG rfl hg) rfl rfl en74 rfl (isFormer_ct z) ?_))
    refine sV (v_pick_true (bool_ev rfl hg) rfl) ?_
    exact hcut _ (ssub_head (by first | rfl | (rw [hg]; rfl) | simp_all) (uS rfl (uS rfl (uS rfl (ssub_refl)))))
  refine sV (vM rfl) ?_
  rw [hpos]
  refine st_cut (k := 17) (d := 21) (v := .bool (m.isF t && decide (0 < m.moved t))) (fun hcut => bool_want (b := m.isF t) true (fun hg => ?_) (fun hg => ?_)) ?_
  · refine st_sk rfl rfl hg ?_
    refine st_sk rfl rfl hg ?_
    refine st_sk rfl rfl hg ?_
    refine st_sk rfl rfl hg ?_
    refine st_sk rfl rfl hg ?_
    refine st_sk rfl rfl hg ?_
    refine st_sk rfl rfl hg ?_
    refine st_sk rfl rfl hg ?_
    refine sV (vP (bool_ev rfl hg) rfl) ?_
    exact hcut _ (ssub_head (by first | rfl | (rw [hg]; rfl) | simp_all) (uS rfl (uS rfl (uS rfl (uS rfl (uS rfl (uS rfl (uS rfl (uS rfl (ssub_refl))))))))))
  · skip
    have hF := isF_iff.1 hg
    have hrd : Rd (oR L m) ⟨L.ob, t.toNat, none⟩ (.int .i64 (m.moved t)) := a_rd (by omega) (by omega)
    refine st_vg rfl (bG rfl hg) (vM rfl) (st_vg rfl (bG rfl hg) (vN rfl) (st_vg rfl (bG rfl hg) (vF rfl fa53_5 rfl) (st_vg rfl (bG rfl hg) (vL rfl ld27) ?_)))
    refine st_vg rfl (bG rfl hg) (vM rfl) (st_vg rfl (bG rfl hg) (v_idx t.toNat rfl rfl sl27 (by omega) (by omega)) (st_vg rfl (bG rfl hg) (vL rfl ld3) ?_))
    refine st_vg rfl (bG rfl hg) (v_gtr rfl rfl) (sV (v_pick_true (bool_ev rfl hg) rfl) ?_)
    exact hcut _ (ssub_head (by first | rfl | (rw [hg]; rfl) | simp_all) (uS rfl (uS rfl (uS rfl (uS rfl (uS rfl (uS rfl (uS rfl (uS rfl (ssub_refl))))))))))
  refine sN (nK [0, 1, 4, 21] rfl (nT (cC rfl (fun hc => ?_) (fun hc => ?_))))
  · skip
    rw [if_pos hc]
    have hF := isF_iff.1 (show m.isF t = true by simp at hc; exact hc.1)
    have hrd : Rd (oR L m) ⟨L.ob, t.toNat, none⟩ (.int .i64 (m.moved t)) := a_rd (by omega) (by omega)
    refine cS (cR (sV (vM rfl) (sV (vN rfl) (sV (vF rfl fa53_5 rfl) (sV (vL rfl ld27) ?_)))))
    refine sV (vM rfl) (sV (v_idx t.toNat rfl rfl sl27 (by omega) (by omega)) (sV (vL rfl ld3) ?_))
    refine sV (vA rfl) (sN (nK [1, 4] rfl (nT (cT (xR ?_)))))
    exact xt_rt rfl ⟨rfl, rfl⟩
  · skip
    rw [if_neg (by rw [hc]; simp)]
    refine cK (xT (cS (cR (sV (vM rfl) (sV (vA rfl) (sN (nK [4] rfl (nT (cT ?_)))))))))
    exact xt_rt rfl ⟨rfl, rfl⟩
end
end Go.Proofs.YtmhmpjgkkpbnnaaGreat
namespace Go.Proofs.YtmhmpjgkkpbnnaaGreat
open Go.Ck Fx Go.Hm Go.Hm.AM
attribute [local irreducible] St Cd Xt Nx DrL LsW
section
variable {L : RL} {m : AM} {S R : Res} {t k a : Int} {ly ln lf N rl rs : List Int} {sp : Int} {v : Value} {roots : List Int} {φ : Int → Option Nat} {A : Store}
variable {Q : Exit → Act → World → Prop} {w0 : World} {hr : SH} {l : List Int} {lv u : Value} {b4 b8 : Nat}
set_option maxHeartbeats 2000000 in
set_option maxRecDepth 100000 in
theorem pic_row_c (z : Sz m) {i b90 lb lcp : Nat} (hi : i < l.length) (o : Ob m l[i]) (hu : RowB S u (m.row l[i])) (hlv : lv = .slice (some ⟨lb, 0, none⟩) l.length lcp) (hll : l.length ≤ 600001)
    (hcont : Xt ⟨Tryz.prog, none, 176, [], w0⟩ .normal Q [(0, .pointer (some ⟨L.hb, 0, none⟩)), (1, v), (4, .pointer (some ⟨b4, 0, none⟩)), (6, lv), (8, .pointer (some ⟨b8, 0, none⟩)), (12, .int .i64 (i : Nat)), (14, .slice (some ⟨b90, 0, none⟩) (m.row l[i]).length (m.row l[i]).length)] (pt b90 (cl (ints (m.gr.prow l l[i]) ++ []) 3) :: vec lv 3 1 l.length (ints l) :: hR L m :: wR L m :: oR L m :: S :: hr)) :
    Cd ⟨Tryz.prog, none, 176, [], w0⟩ (cdr (cdl (cdr (cdr (cdl (cdl (cdr (cdl (cdl (cdr (cdl (cdr (cdr (cdr (cdr (cdr (cdr (cdr (fbody Tryz.f9))))))))))))))))))) Q [(0, .pointer (some ⟨L.hb, 0, none⟩)), (1, v), (4, .pointer (some ⟨b4, 0, none⟩)), (6, lv), (8, .pointer (some ⟨b8, 0, none⟩)), (12, .int .i64 (i : Nat)), (13, u), (14, .slice (some ⟨b90, 0, none⟩) (m.row l[i]).length (m.row l[i]).length), (15, .int .i64 0)] (pt b90 (cl (List.replicate (m.row l[i]).length (.int .i64 0)) 3) :: vec lv 3 1 l.length (ints l) :: hR L m :: wR L m :: oR L m :: S :: hr) := by
  have h1 := z.Y0; have h2 := z.Y1; have h3 := z.H0; have h4 := z.H1
  have hrn : rn m = (m.Y + 2 * m.H + 1).toNat := rfl
  have g1 := o.t0; have g2 := o.h2; have hlen := o.len z
  have hsz : m.size l[i] = 1 + (m.row l[i]).length := rfl
  obtain ⟨ua, ucp, hue, _⟩ := id hu
  have hrd : Rd (vec lv 3 1 l.length (ints l)) ⟨lb, i, none⟩ (.int .i64 l[i]) := rd_vec hlv (by simp [ints, hi])
  have hAl : (m.gr.prow l l[i]).length = (m.row l[i]).length := prow_len _ _ _
  have hla : 0 < l.length → ∃ b, (some ⟨lb, 0, none⟩ : Option Addr) = some ⟨b, 0, none⟩ := fun _ => ⟨lb, rfl⟩
  refine cd_block (cd_loop (σ := Nat) (fun k => [(0, .pointer (some ⟨L.hb, 0, none⟩)), (1, v), (4, .pointer (some ⟨b4, 0, none⟩)), (6, lv), (8, .pointer (some ⟨b8, 0, none⟩)), (12, .int .i64 (i : Nat)), (13, u), (14, .slice (some ⟨b90, 0, none⟩) (m.row l[i]).length (m.row l[i]).length), (15, .int .i64 (k : Nat))]) (fun k => pt b90 (cl (ints ((m.gr.prow l l[i]).take k ++ List.replicate ((m.row l[i]).length - k) 0)) 3) :: vec lv 3 1 l.length (ints l) :: hR L m :: wR L m :: oR L m :: S :: hr) (fun k => k ≤ (m.row l[i]).length) (fun k => (m.row l[i]).length - k) 0 (Nat.zero_le _) ⟨rfl, rfl, rfl, rfl, rfl, rfl, rfl, rfl, rfl, trivial⟩ (by rw [show ints ((m.gr.prow l l[i]).take 0 ++ List.replicate ((m.row l[i]).length - 0) 0) = List.replicate (m.row l[i]).length (.int .i64 0) by simp [ints]]; exact Sub.refl _) ?_)
  rintro k hk
  refine cS (cS (cR (sV (vM rfl) (sV (vM rfl) (sV (v_len (congrArg some hue) Tryz.underlying55) (sV (v_lss rfl rfl) (sN (nK [0, 1, 4, 6, 8, 12, 13, 14, 15, 94] rfl (nT (cC rfl (fun hc6 => ?_) (fun hc6 => ?_)))))))))))
  · skip
    have hkl : k < (m.row l[i]).length := by simpa using hc6
    obtain ⟨ub, uo, ucp', hue2, hrdu⟩ := hu.at hkl
    have hrdx : Rd (wR L m) ⟨L.wb, (l[i] + 1 + k).toNat, none⟩ (.int .i64 (m.word (l[i] + 1 + k))) := a_rd (by omega) (by omega)
    have hpg := prow_get (M := l) hkl
    have hrl2 : (ints ((m.gr.prow l l[i]).take k ++ List.replicate ((m.row l[i]).length - k) 0)).length = (m.row l[i]).length := by simp [ints]; omega
    refine cK (xT (cS (cd_block (cS (cd_drawh (ork [(0, 2), (1, 2), (2, 2), (3, 2), (4, 2), (5, 1), (6, 2), (7, 2), (8, 2), (9, 1), (10, 2), (11, 2), (12, 2), (13, 2), (14, 1), (15, 2), (16, 0)] .nil) (fun i => !(Nat.beq i 16)) mixed (by kernel_rfl) ?_)))))
    refine dV rfl (vM rfl) (dV rfl (vM rfl) (dV rfl (vM rfl) (dV rfl (vN rfl) (dV rfl (vF rfl fa53_3 rfl) (dr_v rfl (vL rfl ld27) ?_)))))
    refine dV rfl (vM rfl) (dV rfl (vM rfl) (dV rfl (v_idx i (congrArg some hlv) rfl sl27 rfl hi) (dr_v rfl (vL rfl ld3) ?_)))
    refine dV rfl (v_add rfl rfl (by unfold I64 at *; omega)) (dV rfl (vM rfl) (dV rfl (v_add rfl rfl (by unfold I64 at *; omega)) (dV rfl (v_idx (l[i] + 1 + k).toNat rfl rfl sl27 (by omega) (by omega)) (dr_v rfl (vL rfl ld3) ?_))))
    refine dV rfl (v_idx k rfl rfl sl27 rfl hkl) (dr_eff rfl (st_sto rfl rfl sz3 (dr_nx ?_)))
    refine dr_nil (nK [0, 1, 4, 6, 8, 12, 13, 14, 15] rfl (nT (cS (cd_pt (b := b90) (T := 3) (l' := ints ((m.gr.prow l l[i]).take k ++ m.word (l[i] + 1 + k) :: List.replicate ((m.row l[i]).length - (k + 1)) 0)) ?he ?_))))
    case he => exact (by rw [ints_set, row_step hAl hkl])
    refine cR (sV (vM rfl) (sV (vM rfl) (sV (v_ixo k (congrArg some hue2) rfl sl55 rfl hkl) (sV (vL rfl ld4) ?_))))
    refine sN (nK [0, 1, 4, 6, 8, 12, 13, 14, 15, 116] rfl (nT (cC rfl (fun hb => ?_) (fun hb => ?_))))
    · skip
      rw [hb, if_pos rfl] at hpg
      have hix := idx_lt (l := l) (t := m.seen (m.word (l[i] + 1 + k)))
      have hrdr : Rd (pt b90 (cl (ints ((m.gr.prow l l[i]).take k ++ m.word (l[i] + 1 + k) :: List.replicate ((m.row l[i]).length - (k + 1)) 0)) 3)) ⟨b90, k, none⟩ (.int .i64 (m.word (l[i] + 1 + k))) := rd_cl (by simp only [ints, List.getElem?_map, row_get hAl hkl, Option.map_some])
      have hrl3 : (ints ((m.gr.prow l l[i]).take k ++ m.word (l[i] + 1 + k) :: List.replicate ((m.row l[i]).length - (k + 1)) 0)).length = (m.row l[i]).length := by simp [ints]; omega
      refine cR (sV (vM rfl) (sV (vM rfl) (sV (vM rfl) (sV (vM rfl) (sV (vM rfl) (sV (vM rfl) (sV (v_idx k rfl rfl sl27 rfl hkl) (sV (vL rfl ld3) ?_))))))))
      refine st_clr rfl rfl en39 rfl (rwhere_ct z) ?_
      refine st_clr rfl rfl en40 rfl (rindex_ct (rowI_vec hlv hla rfl) (by omega)) ?_
      refine sV (v_add rfl rfl (by unfold I64 at *; omega)) (sV (v_idx k rfl rfl sl27 rfl hkl) (st_sto rfl rfl sz3 ?_))
      refine sN (nK [0, 1, 4, 6, 8, 12, 13, 14, 15] rfl (nx_xt (xB (xT (cR (sV (vM rfl) (sV (v_add rfl rfl (by unfold I64 at *; omega)) (sV (vA rfl) (sN (nK [0, 1, 4, 6, 8, 12, 13, 14, 15] rfl (nx_xt (xt_pt (b := b90) (T := 3) (l' := ints ((m.gr.prow l l[i]).take (k + 1) ++ List.replicate ((m.row l[i]).length - (k + 1)) 0)) ?he ?_))))))))))))
      case he => exact (by rw [ints_set, row_step2 hAl hkl, row_next hAl hkl hpg])
      refine xt_ag (k + 1) hkl (by omega)
    · skip
      rw [hb, if_neg (by simp)] at hpg
      refine cd_pt (b := b90) (T := 3) (l' := ints ((m.gr.prow l l[i]).take (k + 1) ++ List.replicate ((m.row l[i]).length - (k + 1)) 0)) ?he ?_
      case he => exact (by rw [row_next hAl hkl hpg])
      refine cK (xB (xT (cR (sV (vM rfl) (sV (v_add rfl rfl (by unfold I64 at *; omega)) (sV (vA rfl) (sN (nK [0, 1, 4, 6, 8, 12, 13, 14, 15] rfl (nx_xt ?_)))))))))
      refine xt_ag (k + 1) hkl (by omega)
  · skip
    have hkg : k = (m.row l[i]).length := by
      have : ¬ k < (m.row l[i]).length := by simpa using hc6
      omega
    have hAk : ints ((m.gr.prow l l[i]).take k ++ List.replicate ((m.row l[i]).length - k) 0) = ints (m.gr.prow l l[i]) ++ [] := by rw [hkg, Nat.sub_self, List.take_of_length_le (by omega)]; simp
    refine cd_pt (b := b90) (T := 3) hAk ?_
    refine cd_exit (xE (xE (xt_exit_block ?_)))
    exact xt_use hcont
set_option maxHeartbeats 4000000 in
set_option maxRecDepth 100000 in
theorem pic_objs_c (hS : Shp S L.vs m.sh) (h : AM.Good m ly ln lf φ A) (hmet : PM (AM.Obj ly ln lf) l) (hM : l = m.gr.met m.T roots) {la : Option Addr} {lcp : Nat} (hlv : lv = .slice la l.length lcp) (hla : 0 < l.length → ∃ b, la = some ⟨b, 0, none⟩)
    (hcont : ∀ us sv fv, us.length = l.length → (∀ (j : Nat) (u : Value) (x : List Int), us[j]? = some u → (m.pic roots).fields[j]? = some x → VForm u x.length (ints x)) → Xt ⟨Tryz.prog, none, 176, [], w0⟩ .normal Q [(0, .pointer (some ⟨L.hb, 0, none⟩)), (1, v), (4, .pointer (some ⟨b4, 0, none⟩)), (6, lv), (8, .pointer (some ⟨b8, 0, none⟩))] (pt b8 (cl [sv, fv, .slice none 0 0, .int .i64 0] 42) :: vec sv 3 1 l.length (ints (m.pic roots).shapes) :: vec fv 27 1 l.length us :: Res.star (rowsI us (m.pic roots).fields) :: vec lv 3 1 l.length (ints l) :: ([hR L m, wR L m, eR L m, oR L m, S] ++ hr))) :
    Cd ⟨Tryz.prog, none, 176, [], w0⟩ (cdr (cdl (cdr (cdr (cdr (cdr (cdr (cdr (cdr (fbody Tryz.f9)))))))))) Q [(0, .pointer (some ⟨L.hb, 0, none⟩)), (1, v), (4, .pointer (some ⟨b4, 0, none⟩)), (6, lv), (8, .pointer (some ⟨b8, 0, none⟩)), (12, .int .i64 0)] (pt b8 (cl [.slice none 0 0, .slice none 0 0, .slice none 0 0, .int .i64 0] 42) :: vec lv 3 1 l.length (ints l) :: ([hR L m, wR L m, eR L m, oR L m, S] ++ hr)) := by
  have z := h.g.sz
  have h1 := z.Y0; have h2 := z.Y1; have h3 := z.H0; have h4 := z.H1
  have hrn : rn m = (m.Y + 2 * m.H + 1).toNat := rfl
  have hT := h.g.T_le
  have hml := h.g.pm_len hmet
  obtain ⟨p1, p2, p3⟩ := pic_parts m roots
  rw [← hM] at p1 p2 p3
  simp only [List.cons_append, List.nil_append]
  refine cd_vecnil 3 1 ?_
  refine cd_vecnil 27 1 ?_
  refine cd_star0 (cd_block (cd_loop (σ := Nat × List Value × Value × Value) (fun q => [(0, .pointer (some ⟨L.hb, 0, none⟩)), (1, v), (4, .pointer (some ⟨b4, 0, none⟩)), (6, lv), (8, .pointer (some ⟨b8, 0, none⟩)), (12, .int .i64 (q.1 : Nat))]) (fun q => pt b8 (cl [q.2.2.1, q.2.2.2, .slice none 0 0, .int .i64 0] 42) :: vec q.2.2.1 3 1 q.1 (ints ((m.pic roots).shapes.take q.1)) :: vec q.2.2.2 27 1 q.1 q.2.1 :: Res.star (rowsI q.2.1 ((m.pic roots).fields.take q.1)) :: vec lv 3 1 l.length (ints l) :: ([hR L m, wR L m, eR L m, oR L m, S] ++ hr)) (fun q => q.1 ≤ l.length ∧ q.2.1.length = q.1 ∧ ∀ (j : Nat) (u : Value) (x : List Int), q.2.1[j]? = some u → (m.pic roots).fields[j]? = some x → VForm u x.length (ints x)) (fun q => l.length - q.1) (0, [], .slice none 0 0, .slice none 0 0) ⟨Nat.zero_le _, rfl, fun j u x hx _ => absurd hx (by show ¬ ([] : List Value)[j]? = some u; simp)⟩ ⟨rfl, rfl, rfl, rfl, rfl, rfl, trivial⟩ (by repeat (first | exact Sub.refl _ | exact Sub.nil _ | refine Sub.sel (by repeat (first | exact Sel.here | apply Sel.there)) ?_ | apply Sub.cons)) ?_))
  rintro ⟨i, us, sv, fv⟩ ⟨hi2, hul, hform⟩
  dsimp only at hi2 hul hform ⊢
  simp only [List.cons_append, List.nil_append]
  refine cS (cS (cR (sV (vM rfl) (sV (vM rfl) (sV (v_len (congrArg some hlv) Tryz.underlying27) (sV (v_lss rfl rfl) (sN (nK [0, 1, 4, 6, 8, 12, 79] rfl (nT (cC rfl (fun hc5 => ?_) (fun hc5 => ?_)))))))))))
  · skip
    have hlt : i < l.length := by simpa using hc5
    obtain ⟨lb, rfl⟩ := hla (by omega)
    have ob := ob_obj h.g (hmet.s _ (List.getElem_mem hlt))
    have g1 := ob.t0; have g2 := ob.h2; have hlen := ob.len z
    have g3 := ob.h0; have g4 := ob.h1; have g5 := z.n; have g6 := ob.t1
    have hsz : m.size l[i] = 1 + (m.row l[i]).length := rfl
    obtain ⟨u, hu, hct⟩ := rshape_ct hS z ob
    obtain ⟨ua, ucp, hue, _⟩ := id hu
    have hrd : Rd (vec lv 3 1 l.length (ints l)) ⟨lb, i, none⟩ (.int .i64 l[i]) := rd_vec hlv (by simp [ints, hlt])
    have hrdh : Rd (eR L m) ⟨L.eb, l[i].toNat, none⟩ (.int .i64 (m.head l[i])) := a_rd g1 g6
    have hAl : (m.gr.prow l l[i]).length = (m.row l[i]).length := prow_len _ _ _
    have hs1 : (m.pic roots).shapes.take (i + 1) = (m.pic roots).shapes.take i ++ [m.head l[i] - 1] := by rw [p1]; exact take_map_succ hlt
    have hf1 : (m.pic roots).fields.take (i + 1) = (m.pic roots).fields.take i ++ [m.gr.prow l l[i]] := by rw [p2]; exact take_map_succ hlt
    have hfl : (m.pic roots).fields.length = l.length := by rw [p2, List.length_map]
    have hfi : (m.pic roots).fields[i]? = some (m.gr.prow l l[i]) := by rw [p2, List.getElem?_map, List.getElem?_eq_getElem hlt]; rfl
    refine cK (xT (cS (cd_block (cS (cR (sV (vM rfl) (sV (vM rfl) (sV (vM rfl) (sV (v_idx i (congrArg some hlv) rfl sl27 rfl hlt) (sV (vL rfl ld3) ?_))))))))))
    refine st_clr rfl rfl en38 rfl (hct) ?_
    refine sV (vA rfl) (sN (nK [0, 1, 4, 6, 8, 12, 13] rfl (nT (cS (cR (sV (vM rfl) (sV (v_len (congrArg some hue) Tryz.underlying55) (st_make (n := (m.row l[i]).length) rfl rfl rfl Tryz.underlying27 inf3 rfl (by omega) (by omega) (ltn rfl) fun b90 => ?_))))))))
    refine sV (vA rfl) (sN (nK [0, 1, 4, 6, 8, 12, 13, 14] rfl (nT (cS (cS (cR (sV (vA rfl) (sN (nT (cd_use (pic_row_c (L := L) (m := m) (S := S) (v := v) (b4 := b4) (b8 := b8) (b90 := b90) (w0 := w0) (hr := pt b8 (cl [sv, fv, .slice none 0 0, .int .i64 0] 42) :: vec sv 3 1 i (ints ((m.pic roots).shapes.take i)) :: vec fv 27 1 i us :: Res.star (rowsI us ((m.pic roots).fields.take i)) :: eR L m :: hr) z hlt ob hu hlv (by omega) ?_)))))))))))
    refine xt_shut (v := .slice (some ⟨b90, 0, none⟩) (m.row l[i]).length (m.row l[i]).length) (sz := 1) (n := (m.row l[i]).length) (l := ints (m.gr.prow l l[i])) (l' := ints (m.gr.prow l l[i])) (E := 3) ⟨rfl, by rw [ints_length, hAl]; simp, Nat.le_refl _, by unfold maxLen; omega, by rw [List.append_nil, ints_length, hAl]; simp⟩ rfl (by repeat (first | exact Sel.here | apply Sel.there)) ?_
    refine xT (cS (cd_drawh (ork [(0, 2), (1, 2), (2, 1), (3, 2), (4, 2), (5, 2), (6, 1), (7, 2), (8, 2), (9, 2), (10, 1), (11, 2), (12, 1), (13, 2), (14, 0), (15, 0), (16, 2), (17, 2), (18, 0)] .nil) (fun i => !(Nat.beq i 15 || Nat.beq i 18)) mixed (by kernel_rfl) ?_))
    refine dV rfl (vF rfl fa42_0 rfl) (dV rfl (vF rfl fa38_0 rfl) (dr_v rfl (vL rfl ld27) ?_))
    refine dV rfl (vM rfl) (dV rfl (vN rfl) (dV rfl (vF rfl fa53_4 rfl) (dr_v rfl (vL rfl ld27) ?_)))
    refine dV rfl (vM rfl) (dV rfl (vM rfl) (dV rfl (v_idx i (congrArg some hlv) rfl sl27 rfl hlt) (dr_v rfl (vL rfl ld3) ?_)))
    refine dV rfl (v_idx l[i].toNat rfl rfl sl27 (by omega) (by omega)) (dr_v rfl (vL rfl ld3) ?_)
    refine dV rfl (v_sub rfl rfl (by unfold I64 at *; omega)) (dr_eff rfl (st_buildSlice (cells := [.int .i64 (m.head l[i] - 1)]) rfl Tryz.underlying27 inf3 rfl rfl (by kernel_rfl) (ltn rfl) fun b143 => dr_nx ?_))
    refine dr_eff rfl (st_append (news := [.int .i64 (m.head l[i] - 1)]) rfl rfl Tryz.underlying27 inf3 rfl (ltn rfl) (by repeat (first | exact Sel.here | apply Sel.there)) rfl (fun j u hu => by repeat (first | exact at_here (rd_cl (by simpa using hu)) | apply at_there)) (ones rfl) (by omega) (by omega) (ltn rfl) fun sv' hsv' hv1 => dr_nx ?_)
    refine dV rfl (vF rfl fa42_0 rfl) (dV rfl (vF rfl fa38_0 rfl) (dr_eff rfl (st_sto rfl rfl sz27 (dr_nx ?_))))
    refine dr_nil (nK [0, 1, 4, 6, 8, 12, 14] rfl (nT (cR (sV (vF rfl fa42_0 rfl) (sV (vF rfl fa38_1 rfl) (sV (vL rfl ld36) ?_))))))
    refine sV (vM rfl) (st_buildSlice (cells := [.slice (some ⟨b90, 0, none⟩) (m.row l[i]).length (m.row l[i]).length]) rfl Tryz.underlying36 inf27 rfl rfl (fill_one rfl _ (by simp)) (ltn rfl) fun b151 => ?_)
    refine st_append (news := [.slice (some ⟨b90, 0, none⟩) (m.row l[i]).length (m.row l[i]).length]) rfl rfl Tryz.underlying36 inf27 rfl (ltn rfl) (by repeat (first | exact Sel.here | apply Sel.there)) rfl (fun j u hu => by repeat (first | exact at_here (rd_cl (by simpa using hu)) | apply at_there)) (fun x hx => by simp at hx; subst hx; rfl) (by omega) (by omega) (ltn rfl) fun fv' hfv' hv2 => ?_
    refine sV (vF rfl fa42_0 rfl) (sV (vF rfl fa38_1 rfl) (st_sto rfl rfl sz36 ?_))
    refine sN (nK [0, 1, 4, 6, 8, 12] rfl (nx_xt (xB (xT (cR (sV (vM rfl) (sV (v_add rfl rfl (by unfold I64 at *; omega)) (sV (vA rfl) (sN (nK [0, 1, 4, 6, 8, 12] rfl (nx_xt (xt_restar (k' := rowsI (us ++ [.slice (some ⟨b90, 0, none⟩) (m.row l[i]).length (m.row l[i]).length]) ((m.pic roots).fields.take (i + 1))) (r := vec (.slice (some ⟨b90, 0, none⟩) (m.row l[i]).length (m.row l[i]).length) 3 1 (m.row l[i]).length (ints (m.gr.prow l l[i]))) (k := rowsI us ((m.pic roots).fields.take i)) (by repeat (first | exact Sel.here | apply Sel.there)) (by repeat (first | exact Sel.here | apply Sel.there)) (by rw [hf1, rowsI_snoc (by rw [List.length_take]; omega), hAl]; exact (List.perm_append_singleton _ _).symm) ?_))))))))))))
    rw [show ints ((m.pic roots).shapes.take i) ++ [.int .i64 (m.head l[i] - 1)] = ints ((m.pic roots).shapes.take (i + 1)) by rw [hs1]; simp [ints]]
    refine xt_ag (i + 1, us ++ [.slice (some ⟨b90, 0, none⟩) (m.row l[i]).length (m.row l[i]).length], sv', fv') ⟨hlt, by simp [hul], snoc_all (P := fun (u : Value) (x : List Int) => VForm u x.length (ints x)) hul hform hfi (.inr ⟨b90, _, by rw [hAl]⟩)⟩ (by show _ - _ < _ - _; omega)
  · skip
    have hge : i = l.length := by have : l.length ≤ i := by simpa using hc5
                                  omega
    have e1 : (m.pic roots).shapes.take i = (m.pic roots).shapes := List.take_of_length_le (by rw [p1, List.length_map]; omega)
    have e2 : (m.pic roots).fields.take i = (m.pic roots).fields := List.take_of_length_le (by rw [p2, List.length_map]; omega)
    rw [e1, e2, hge]
    refine cd_exit (xE (xE (xt_exit_block ?_)))
    exact xt_use (hcont us sv fv (by omega) hform)
end
end Go.Proofs.YtmhmpjgkkpbnnaaGreat
