/- SolveCounts as a contract. -/
import Derived.Test.YthahgmncnbeddaaGreatDoorPS23
import Derived.Test.YthahgmncnbeddaaGreatDoorPS22b
set_option linter.unusedVariables false
set_option linter.unusedSimpArgs false
namespace Go.Proofs.YthahgmncnbeddaaGreatDoorA
open Go Go.RowKit Go.Proofs.YthahgmncnbeddaaGreatDoorFx Go.Proofs
attribute [local go_sem] List.take_succ_cons List.take_zero List.take_nil List.drop_succ_cons List.drop_nil List.cons_append List.nil_append List.set_cons_zero List.set_cons_succ
variable {m : Int}
/-- The days of a list up to a place lie before a day, the others not. -/
theorem fil_place {g : Int → Bool} {lo : Int} {N k : Nat} {day : Int} (h1 : ∀ i (hi : i < (fil g lo N).length), i < k → (fil g lo N)[i] < day) (h2 : k = (fil g lo N).length ∨ ∃ h : k < (fil g lo N).length, day ≤ (fil g lo N)[k]) (h3 : lo ≤ day) (h4 : day < lo + N) :
    g day = true ↔ ∃ h : k < (fil g lo N).length, (fil g lo N)[k] = day := by
  constructor
  · intro hg
    obtain ⟨i, hi, he⟩ := List.getElem_of_mem (fil_mem.2 ⟨h3, h4, hg⟩)
    have hik : ¬ i < k := fun q => by have := h1 i hi q; omega
    rcases h2 with h2 | ⟨h2, h5⟩
    · omega
    · refine ⟨h2, ?_⟩
      rcases Nat.lt_or_eq_of_le (Nat.not_lt.1 hik) with q | q
      · have := List.pairwise_iff_getElem.1 (fil_nodup (g := g) (lo := lo) N) k i h2 hi q
        omega
      · subst q; exact he
  · rintro ⟨h, rfl⟩
    exact (fil_mem.1 (List.getElem_mem h)).2.2
set_option maxRecDepth 100000 in
set_option maxHeartbeats 8000000 in
theorem solveCountsP {r : List AV} (hr : FeR r) (start a b : Int) : MeetsP Tryz.prog (glF m) 6 [.agg r, .i .i64 start, .i .i64 a, .i .i64 b] (.b true) := by
  have hsv := solvesP (m := m)
  have hct := weakP (glF_of m) (kcutP (m := m) (a := start) (lo := -1000000) (n := 2000000) (by omega) (by omega) (by omega) (by omega))
  have hca := weakP (glF_of m) (kcutP (m := m) (a := a) (lo := 0) (n := 200) (by omega) (by omega) (by omega) (by omega))
  have hcb := weakP (glF_of m) (kcutP (m := m) (a := b) (lo := 1) (n := 200) (by omega) (by omega) (by omega) (by omega))
  have hm1 := Int.emod_nonneg start (show (2000000 : Int) ≠ 0 by omega)
  have hm2 := Int.emod_lt_of_pos start (show (0 : Int) < 2000000 by omega)
  obtain ⟨x, hx, hx2⟩ : ∃ x : Nat, 0 + a % 200 = (x : Int) ∧ x ≤ 200 := ⟨(a % 200).toNat, by omega, by omega⟩
  obtain ⟨y, hy, hy1, hy2⟩ : ∃ y : Nat, 1 + b % 200 = (y : Int) ∧ 1 ≤ y ∧ y ≤ 200 := ⟨(1 + b % 200).toNat, by omega, by omega, by omega⟩
  rw [hx] at hca
  rw [hy] at hcb
  generalize hY : -1000000 + start % 2000000 = D at hct
  have hDb : -1000000 ≤ D ∧ D ≤ 1000000 := by omega
  clear hY hm1 hm2 hx hy
  have d1 : chkDay D = 0 := chkDay_ok (by omega) (by omega)
  obtain ⟨e, hc, ht, _⟩ := checkF (m := m) hr
  by_cases he : e = 0
  case neg =>
    have h1 := countNo hr he hc D (D + x)
    obtain ⟨xk, xa, xb, xn, xs, rfl⟩ := hr.row
    clear ht hr
    refine meetsP (E := (EG (glF m))) 113 [.tmp 8] (eg (glF m)) Tryz.func6 rfl (by decide) rfl rfl (by simp) ?_
    repeat' first | ((with_reducible refine wr_isCall ?_); first | refine wr_P hsv rfl ?_ | refine wr_P hct rfl ?_ | refine wr_P hca rfl ?_ | refine wr_P hcb rfl ?_ | refine wr_P h1 rfl ?_) | (with_reducible first | refine t_seq ?_ | refine t_skip ?_ | refine t_ret ?_ | refine t_end ?_ | refine t_cond ?_ | refine t_region ?_ | refine wr_done ?_ | refine WD.done _ ?_ | refine wdp_done ?_ | refine wdg_done ?_ | refine tr_some ?_ | refine t_inBlock ?_) | ((fail_if_success with_reducible refine t_bl ?_); (with_reducible refine t_block ?_)) | ((with_reducible refine t_isExit ?_); refine t_exit rfl ?_) | simp only [decide_eq_true_eq, decide_eq_false_iff_not, Bool.not_eq_true', Bool.not_eq_false'] at * | simp (disch := omega) only [go_sem, Nat.reduceLT, Nat.reduceEqDiff, Nat.reduceAdd, Nat.reduceLeDiff, Nat.reduceMul, Int.reduceLT, Int.reduceLE, Int.reduceAdd, Int.reduceSub, Int.reduceNeg, Int.reduceToNat, Int.reduceBEq, Int.reduceEq, reduceCtorEq, ↓reduceIte, *] | (with_reducible first | refine tb_true ?_ | refine tb_false ?_) | ((with_reducible first | refine tb_split ?_ ?_ | refine wg_f ?_ ?_ | refine wg_t ?_ ?_ | refine wd_f ?_ ?_ | refine wd_t ?_ ?_) <;> intro _)
    all_goals first | (exfalso; omega) | exact ⟨rfl, rfl⟩
  obtain ⟨t, rfl, hst, hd, hs⟩ := ht he
  subst he
  have hw := t.st_wf 0 hst
  have k1 := countP (m := m) hw hd hs hc d1 (hi := D + x) (chkDay_ok (by omega) (by omega)) (N := x + 1) (by omega) (by omega) (by omega)
  have k2 := countP (m := m) hw hd hs hc (lo := D + x + 1) (hi := D + x + y) (chkDay_ok (by omega) (by omega)) (chkDay_ok (by omega) (by omega)) (N := y) (by omega) (by omega) (by omega)
  have k3 := betweenW (m := m) hw hd hs hc d1 (hi := D + x + y) (chkDay_ok (by omega) (by omega)) (N := x + 1 + y) (by omega) (by omega) (by omega)
  have kh := fun (day : Int) (h : chkDay day = 0) => hasP (m := m) hw hd hs hc h
  have hlen : (fil (t.on dN) D (x + 1 + y)).length = (fil (t.on dN) D (x + 1)).length + (fil (t.on dN) (D + x + 1) y).length := by
    rw [fil_add, List.length_append, show D + ((x + 1 : Nat) : Int) = D + x + 1 by omega]
  have hpl := fun (k : Nat) (day : Int) => fil_place (g := t.on dN) (lo := D) (N := x + 1 + y) (k := k) (day := day)
  have hfl := fil_len (g := t.on dN) (lo := D) (x + 1 + y)
  have hfl1 := fil_len (g := t.on dN) (lo := D) (x + 1)
  have hfl2 := fil_len (g := t.on dN) (lo := D + x + 1) y
  generalize (fil (t.on dN) D (x + 1)).length = c1 at *
  generalize (fil (t.on dN) (D + x + 1) y).length = c2 at *
  generalize fil (t.on dN) D (x + 1 + y) = FL at *
  generalize t.on dN = g at *
  obtain ⟨xk, xa, xb, xn, xs, hrow⟩ := t.row5
  rw [hrow] at k1 k2 k3 kh ⊢
  have hg : ∀ k (h : k < FL.length), (intR FL)[k]? = some [.i .i64 FL[k]] := fun k h => by simp [intR, h]
  have hil := intR_len FL
  have hlb : FL.length ≤ 500 := by omega
  have Q := hid (And.intro hg (And.intro hpl kh))
  clear hr hst hd hs hw hc ht hrow d1 hg hpl kh
  generalize hFR : intR FL = FR at *
  refine meetsP (E := (EG (glF m))) 113 [.tmp 8] (eg (glF m)) Tryz.func6 rfl (by decide) rfl rfl (by simp) ?_
  repeat' first | ((with_reducible refine wr_isCall ?_); first | refine wr_P hsv rfl ?_ | refine wr_P hct rfl ?_ | refine wr_P hca rfl ?_ | refine wr_P hcb rfl ?_ | refine wr_P k1 rfl ?_ | refine wr_P k2 rfl ?_ | refine wr_P k3 rfl ?_) | (with_reducible first | refine t_seq ?_ | refine t_skip ?_ | refine t_ret ?_ | refine t_end ?_ | refine t_cond ?_ | refine t_region ?_ | refine wr_done ?_ | refine WD.done _ ?_ | refine wdp_done ?_ | refine wdg_done ?_ | refine tr_some ?_ | refine t_inBlock ?_) | ((with_reducible refine t_isDraw ?_); refine t_draw rfl (by kernel_rfl) ?_) | ((fail_if_success with_reducible refine t_bl ?_); (with_reducible refine t_block ?_)) | ((with_reducible refine t_isExit ?_); refine t_exit rfl ?_) | simp only [decide_eq_true_eq, decide_eq_false_iff_not, Bool.not_eq_true', Bool.not_eq_false'] at * | simp (disch := omega) only [go_sem, Nat.reduceLT, Nat.reduceEqDiff, Nat.reduceAdd, Nat.reduceLeDiff, Nat.reduceMul, Int.reduceLT, Int.reduceLE, Int.reduceAdd, Int.reduceSub, Int.reduceNeg, Int.reduceToNat, Int.reduceBEq, Int.reduceEq, reduceCtorEq, ↓reduceIte, *] | (with_reducible first | refine tb_true ?_ | refine tb_false ?_) | ((with_reducible first | refine tb_split ?_ ?_ | refine wg_f ?_ ?_ | refine wg_t ?_ ?_ | refine wd_f ?_ ?_ | refine wd_t ?_ ?_) <;> intro _)
  all_goals first | (exfalso; omega) | skip
  clear hlen
  refine t_while (I := fun (j : Nat) t h => 7 * j ≤ x + y + 7 ∧ (∃ k : Nat, k ≤ FL.length ∧ (∀ i (hi : i < FL.length), i < k → FL[i] < D + 7 * j) ∧ get t 15 = .i .i64 k) ∧ h = ⟨[(0, .rows 5 [[.i .i64 xk, .i .i64 xa, .i .i64 xb, .s xn, .isl false 5 xs]])], 1⟩ ∧ get t 1 = .i .i64 D ∧ get t 2 = .i .i64 x ∧ get t 3 = .i .i64 y ∧ get t 4 = .ptr 0 0 0 ∧ get t 13 = .isl false 1 FR ∧ get t 16 = .i .i64 (D + 7 * j)) (m := fun j => 1000 - j)
    (J := fun t h => ∃ c n, h = ⟨c, n⟩) 0
    ⟨by omega, ⟨0, by omega, fun i hi q => by omega, by simp [get]⟩, rfl, by simp [get], by simp [get], by simp [get], by simp [get], by simp [get], by simp [get]⟩ ?_ ?_
  · rintro j t h ⟨hj, ⟨k, hk, hkl, g15⟩, rfl, g1, g2, g3, g4, g13, g16⟩ hrec hex
    have hpr : 7 * (j : Int) ≤ x + y + 7 := by omega
    obtain ⟨hg, hpl, kh⟩ := Q
    have hh := fun q => kh (D + 7 * j) q
    have hpp := fun k => hpl k (D + 7 * j)
    have ejj : D + 7 * ((j + 1 : Nat) : Int) = D + 7 * (j : Int) + 7 := by omega
    have hnx := fun (q : 7 * (j : Int) ≤ x + y) (k' : Nat) t' (h1 : k' ≤ FL.length) (h2 : ∀ i (hi : i < FL.length), i < k' → FL[i] < D + 7 * j + 7) h3 h4 h5 h6 h7 h8 (h9 : get t' 16 = .i .i64 (D + 7 * j + 7)) => hrec (j + 1) t' ⟨[(0, .rows 5 [[.i .i64 xk, .i .i64 xa, .i .i64 xb, .s xn, .isl false 5 xs]])], 1⟩ ⟨by omega, ⟨k', h1, fun i hi q => by rw [ejj]; exact h2 i hi q, h3⟩, rfl, h4, h5, h6, h7, h8, by rw [h9, ejj]⟩ (by omega)
    clear hpl kh hrec ejj hsv hct hca hcb k1 k2 k3
    have eday : D ≤ D + 7 * j := by omega
    have eday2 : D + 7 * j ≤ D + x + y + 7 := by omega
    have hq7 : (D + 7 * j ≤ D + x + y) ↔ 7 * (j : Int) ≤ x + y := by omega
    by_cases hin : 7 * (j : Int) ≤ x + y
    · replace hnx := hnx hin
      have hday := hq7.2 hin
      replace hh := hh (chkDay_ok (by omega) (by omega))
      have hpp := fun k a b => hpp k a b eday (by omega)
      clear hq7 hin hpr
      generalize D + 7 * (j : Int) = day at *
      generalize hgd : g day = gd at *
      have Q2 := hid (And.intro hnx (And.intro hpp (And.intro hg hkl)))
      clear hnx hpp hg hkl hex
      repeat' first | ((with_reducible refine wr_isCall ?_); refine wr_P hh rfl ?_) | (with_reducible first | refine t_seq ?_ | refine t_skip ?_ | refine t_ret ?_ | refine t_end ?_ | refine t_cond ?_ | refine t_region ?_ | refine wr_done ?_ | refine WD.done _ ?_ | refine wdp_done ?_ | refine wdg_done ?_ | refine tr_some ?_ | refine t_inBlock ?_) | ((with_reducible refine t_isDraw ?_); refine t_draw rfl (by kernel_rfl) ?_) | ((fail_if_success with_reducible refine t_bl ?_); (with_reducible refine t_block ?_)) | ((with_reducible refine t_isExit ?_); refine t_exit rfl ?_) | simp only [decide_eq_true_eq, decide_eq_false_iff_not, Bool.not_eq_true', Bool.not_eq_false'] at * | simp (disch := omega) only [go_sem, Nat.reduceLT, Nat.reduceEqDiff, Nat.reduceAdd, Nat.reduceLeDiff, Nat.reduceMul, Int.reduceLT, Int.reduceLE, Int.reduceAdd, Int.reduceSub, Int.reduceNeg, Int.reduceToNat, Int.reduceBEq, Int.reduceEq, reduceCtorEq, ↓reduceIte, *] | (with_reducible first | refine tb_true ?_ | refine tb_false ?_) | ((with_reducible first | refine tb_split ?_ ?_ | refine wg_f ?_ ?_ | refine wg_t ?_ ?_ | refine wd_f ?_ ?_ | refine wd_t ?_ ?_) <;> intro _)
      all_goals first | (exfalso; omega) | skip
      obtain ⟨hnx, hpp, hg, hkl⟩ := Q2
      refine t_while (I := fun (k : Nat) t h => k ≤ FL.length ∧ (∀ i (hi : i < FL.length), i < k → FL[i] < day) ∧ h = ⟨[(0, .rows 5 [[.i .i64 xk, .i .i64 xa, .i .i64 xb, .s xn, .isl false 5 xs]])], 1⟩ ∧ get t 1 = .i .i64 D ∧ get t 2 = .i .i64 x ∧ get t 3 = .i .i64 y ∧ get t 4 = .ptr 0 0 0 ∧ get t 13 = .isl false 1 FR ∧ get t 16 = .i .i64 day ∧ get t 17 = .b gd ∧ get t 15 = .i .i64 k) (m := fun k => FL.length - k)
        (J := fun t h => ∃ k : Nat, k ≤ FL.length ∧ (∀ i (hi : i < FL.length), i < k → FL[i] < day) ∧ (k = FL.length ∨ ∃ h : k < FL.length, day ≤ FL[k]) ∧ h = ⟨[(0, .rows 5 [[.i .i64 xk, .i .i64 xa, .i .i64 xb, .s xn, .isl false 5 xs]])], 1⟩ ∧ get t 1 = .i .i64 D ∧ get t 2 = .i .i64 x ∧ get t 3 = .i .i64 y ∧ get t 4 = .ptr 0 0 0 ∧ get t 13 = .isl false 1 FR ∧ get t 16 = .i .i64 day ∧ get t 17 = .b gd ∧ get t 15 = .i .i64 k) k
        ⟨hk, hkl, rfl, by simp [get, g1], by simp [get, g2], by simp [get, g3], by simp [get, g4], by simp [get, g13], by simp [get, g16], by simp [get], by simp [get, g15]⟩ ?_ ?_
      · clear g1 g2 g3 g4 g13 g15 g16 hkl hk hnx hpp
        rintro k t h ⟨hk, hkl, rfl, g1, g2, g3, g4, g13, g16, g17, g15⟩ hrec hex
        by_cases hlt : k < FL.length
        · have hgk := hg k hlt
          by_cases hv : FL[k] < day
          · have hstep : ∀ i (hi : i < FL.length), i < k + 1 → FL[i] < day := fun i hi q => by
              rcases Nat.lt_or_eq_of_le (Nat.lt_succ_iff.1 q) with q | rfl
              · exact hkl i hi q
              · exact hv
            have Q3 := hid (And.intro hrec hstep)
            generalize FL[k] = v at *
            clear hrec hstep hex hg hkl
            repeat' first | (with_reducible first | refine t_seq ?_ | refine t_skip ?_ | refine t_ret ?_ | refine t_end ?_ | refine t_cond ?_ | refine t_region ?_ | refine wr_done ?_ | refine WD.done _ ?_ | refine wdp_done ?_ | refine wdg_done ?_ | refine tr_some ?_ | refine t_inBlock ?_) | ((with_reducible refine t_isDraw ?_); refine t_draw rfl (by kernel_rfl) ?_) | ((fail_if_success with_reducible refine t_bl ?_); (with_reducible refine t_block ?_)) | ((with_reducible refine t_isExit ?_); refine t_exit rfl ?_) | simp only [decide_eq_true_eq, decide_eq_false_iff_not, Bool.not_eq_true', Bool.not_eq_false'] at * | simp (disch := omega) only [go_sem, Nat.reduceLT, Nat.reduceEqDiff, Nat.reduceAdd, Nat.reduceLeDiff, Nat.reduceMul, Int.reduceLT, Int.reduceLE, Int.reduceAdd, Int.reduceSub, Int.reduceNeg, Int.reduceToNat, Int.reduceBEq, Int.reduceEq, reduceCtorEq, ↓reduceIte, *] | (with_reducible first | refine tb_true ?_ | refine tb_false ?_) | ((with_reducible first | refine tb_split ?_ ?_ | refine wg_f ?_ ?_ | refine wg_t ?_ ?_ | refine wd_f ?_ ?_ | refine wd_t ?_ ?_) <;> intro _)
            all_goals first | (exfalso; omega) | skip
            exact Q3.1 (k + 1) _ _ ⟨by omega, Q3.2, rfl, by simp [get, g1], by simp [get, g2], by simp [get, g3], by simp [get, g4], by simp [get, g13], by simp [get, g16], by simp [get, g17], by simp [get] <;> omega⟩ (by omega)
          · have Q3 := hid (And.intro hkl (show ∃ h : k < FL.length, day ≤ FL[k] from ⟨hlt, by omega⟩))
            generalize FL[k] = v at *
            clear hrec hg hkl
            repeat' first | refine hex _ _ ?_ | (with_reducible first | refine t_seq ?_ | refine t_skip ?_ | refine t_ret ?_ | refine t_end ?_ | refine t_cond ?_ | refine t_region ?_ | refine wr_done ?_ | refine WD.done _ ?_ | refine wdp_done ?_ | refine wdg_done ?_ | refine tr_some ?_ | refine t_inBlock ?_) | ((with_reducible refine t_isDraw ?_); refine t_draw rfl (by kernel_rfl) ?_) | ((fail_if_success with_reducible refine t_bl ?_); (with_reducible refine t_block ?_)) | ((with_reducible refine t_isExit ?_); refine t_exit rfl ?_) | simp only [decide_eq_true_eq, decide_eq_false_iff_not, Bool.not_eq_true', Bool.not_eq_false'] at * | simp (disch := omega) only [go_sem, Nat.reduceLT, Nat.reduceEqDiff, Nat.reduceAdd, Nat.reduceLeDiff, Nat.reduceMul, Int.reduceLT, Int.reduceLE, Int.reduceAdd, Int.reduceSub, Int.reduceNeg, Int.reduceToNat, Int.reduceBEq, Int.reduceEq, reduceCtorEq, ↓reduceIte, *] | (with_reducible first | refine tb_true ?_ | refine tb_false ?_) | ((with_reducible first | refine tb_split ?_ ?_ | refine wg_f ?_ ?_ | refine wg_t ?_ ?_ | refine wd_f ?_ ?_ | refine wd_t ?_ ?_) <;> intro _)
            all_goals first | (exfalso; omega) | skip
            exact ⟨k, hk, Q3.1, .inr Q3.2, rfl⟩
        · have hkk : k = FL.length := by omega
          have Q3 := hid hkl
          clear hrec hg hkl
          repeat' first | refine hex _ _ ?_ | (with_reducible first | refine t_seq ?_ | refine t_skip ?_ | refine t_ret ?_ | refine t_end ?_ | refine t_cond ?_ | refine t_region ?_ | refine wr_done ?_ | refine WD.done _ ?_ | refine wdp_done ?_ | refine wdg_done ?_ | refine tr_some ?_ | refine t_inBlock ?_) | ((with_reducible refine t_isDraw ?_); refine t_draw rfl (by kernel_rfl) ?_) | ((fail_if_success with_reducible refine t_bl ?_); (with_reducible refine t_block ?_)) | ((with_reducible refine t_isExit ?_); refine t_exit rfl ?_) | simp only [decide_eq_true_eq, decide_eq_false_iff_not, Bool.not_eq_true', Bool.not_eq_false'] at * | simp (disch := omega) only [go_sem, Nat.reduceLT, Nat.reduceEqDiff, Nat.reduceAdd, Nat.reduceLeDiff, Nat.reduceMul, Int.reduceLT, Int.reduceLE, Int.reduceAdd, Int.reduceSub, Int.reduceNeg, Int.reduceToNat, Int.reduceBEq, Int.reduceEq, reduceCtorEq, ↓reduceIte, *] | (with_reducible first | refine tb_true ?_ | refine tb_false ?_) | ((with_reducible first | refine tb_split ?_ ?_ | refine wg_f ?_ ?_ | refine wg_t ?_ ?_ | refine wd_f ?_ ?_ | refine wd_t ?_ ?_) <;> intro _)
          all_goals first | (exfalso; omega) | skip
          exact ⟨k, hk, Q3, .inl hkk, by rw [hkk]⟩
      · clear g1 g2 g3 g4 g13 g15 g16 hkl hk
        rintro t h ⟨k, hk, hkl, hor, rfl, g1, g2, g3, g4, g13, g16, g17, g15⟩
        have hiff := hpp k hkl hor
        have Q3 := hid (And.intro hnx hkl)
        clear hnx hkl hpp
        by_cases hlt : k < FL.length
        · have hgk := hg k hlt
          by_cases hv : FL[k] = day
          · have hgt : gd = true := hiff.2 ⟨hlt, hv⟩
            subst hgt
            rw [hv] at hgk
            clear hiff hg hor hv hgd
            repeat' first | (with_reducible first | refine t_seq ?_ | refine t_skip ?_ | refine t_ret ?_ | refine t_end ?_ | refine t_cond ?_ | refine t_region ?_ | refine wr_done ?_ | refine WD.done _ ?_ | refine wdp_done ?_ | refine wdg_done ?_ | refine tr_some ?_ | refine t_inBlock ?_) | ((with_reducible refine t_isDraw ?_); refine t_draw rfl (by kernel_rfl) ?_) | ((fail_if_success with_reducible refine t_bl ?_); (with_reducible refine t_block ?_)) | ((with_reducible refine t_isExit ?_); refine t_exit rfl ?_) | simp only [decide_eq_true_eq, decide_eq_false_iff_not, Bool.not_eq_true', Bool.not_eq_false'] at * | simp (disch := omega) only [go_sem, Nat.reduceLT, Nat.reduceEqDiff, Nat.reduceAdd, Nat.reduceLeDiff, Nat.reduceMul, Int.reduceLT, Int.reduceLE, Int.reduceAdd, Int.reduceSub, Int.reduceNeg, Int.reduceToNat, Int.reduceBEq, Int.reduceEq, reduceCtorEq, ↓reduceIte, *] | (with_reducible first | refine tb_true ?_ | refine tb_false ?_) | ((with_reducible first | refine tb_split ?_ ?_ | refine wg_f ?_ ?_ | refine wg_t ?_ ?_ | refine wd_f ?_ ?_ | refine wd_t ?_ ?_) <;> intro _)
            all_goals first | (exfalso; omega) | skip
            exact Q3.1 k _ hk (fun i hi q => by have := Q3.2 i hi q; omega) (by simp [get, g15]) (by simp [get, g1]) (by simp [get, g2]) (by simp [get, g3]) (by simp [get, g4]) (by simp [get, g13]) (by simp [get])
          · have hgt : gd = false := by
              rw [← Bool.not_eq_true, hiff]
              exact fun ⟨_, e⟩ => hv e
            subst hgt
            generalize FL[k] = v at *
            clear hiff hg hor hgd
            repeat' first | (with_reducible first | refine t_seq ?_ | refine t_skip ?_ | refine t_ret ?_ | refine t_end ?_ | refine t_cond ?_ | refine t_region ?_ | refine wr_done ?_ | refine WD.done _ ?_ | refine wdp_done ?_ | refine wdg_done ?_ | refine tr_some ?_ | refine t_inBlock ?_) | ((with_reducible refine t_isDraw ?_); refine t_draw rfl (by kernel_rfl) ?_) | ((fail_if_success with_reducible refine t_bl ?_); (with_reducible refine t_block ?_)) | ((with_reducible refine t_isExit ?_); refine t_exit rfl ?_) | simp only [decide_eq_true_eq, decide_eq_false_iff_not, Bool.not_eq_true', Bool.not_eq_false'] at * | simp (disch := omega) only [go_sem, Nat.reduceLT, Nat.reduceEqDiff, Nat.reduceAdd, Nat.reduceLeDiff, Nat.reduceMul, Int.reduceLT, Int.reduceLE, Int.reduceAdd, Int.reduceSub, Int.reduceNeg, Int.reduceToNat, Int.reduceBEq, Int.reduceEq, reduceCtorEq, ↓reduceIte, *] | (with_reducible first | refine tb_true ?_ | refine tb_false ?_) | ((with_reducible first | refine tb_split ?_ ?_ | refine wg_f ?_ ?_ | refine wg_t ?_ ?_ | refine wd_f ?_ ?_ | refine wd_t ?_ ?_) <;> intro _)
            all_goals first | (exfalso; omega) | skip
            exact Q3.1 k _ hk (fun i hi q => by have := Q3.2 i hi q; omega) (by simp [get, g15]) (by simp [get, g1]) (by simp [get, g2]) (by simp [get, g3]) (by simp [get, g4]) (by simp [get, g13]) (by simp [get])
        · have hgt : gd = false := by
            rw [← Bool.not_eq_true, hiff]
            exact fun ⟨q, _⟩ => hlt q
          subst hgt
          clear hiff hg hor hgd
          repeat' first | (with_reducible first | refine t_seq ?_ | refine t_skip ?_ | refine t_ret ?_ | refine t_end ?_ | refine t_cond ?_ | refine t_region ?_ | refine wr_done ?_ | refine WD.done _ ?_ | refine wdp_done ?_ | refine wdg_done ?_ | refine tr_some ?_ | refine t_inBlock ?_) | ((with_reducible refine t_isDraw ?_); refine t_draw rfl (by kernel_rfl) ?_) | ((fail_if_success with_reducible refine t_bl ?_); (with_reducible refine t_block ?_)) | ((with_reducible refine t_isExit ?_); refine t_exit rfl ?_) | simp only [decide_eq_true_eq, decide_eq_false_iff_not, Bool.not_eq_true', Bool.not_eq_false'] at * | simp (disch := omega) only [go_sem, Nat.reduceLT, Nat.reduceEqDiff, Nat.reduceAdd, Nat.reduceLeDiff, Nat.reduceMul, Int.reduceLT, Int.reduceLE, Int.reduceAdd, Int.reduceSub, Int.reduceNeg, Int.reduceToNat, Int.reduceBEq, Int.reduceEq, reduceCtorEq, ↓reduceIte, *] | (with_reducible first | refine tb_true ?_ | refine tb_false ?_) | ((with_reducible first | refine tb_split ?_ ?_ | refine wg_f ?_ ?_ | refine wg_t ?_ ?_ | refine wd_f ?_ ?_ | refine wd_t ?_ ?_) <;> intro _)
          all_goals first | (exfalso; omega) | skip
          exact Q3.1 k _ hk (fun i hi q => by have := Q3.2 i hi q; omega) (by simp [get, g15]) (by simp [get, g1]) (by simp [get, g2]) (by simp [get, g3]) (by simp [get, g4]) (by simp [get, g13]) (by simp [get])
    · have hday : ¬ D + 7 * j ≤ D + x + y := fun q => hin (hq7.1 q)
      clear hnx hh hpp hg hq7 hkl hin hpr
      generalize D + 7 * (j : Int) = day at *
      repeat' first | refine hex _ _ ?_ | (with_reducible first | refine t_seq ?_ | refine t_skip ?_ | refine t_ret ?_ | refine t_end ?_ | refine t_cond ?_ | refine t_region ?_ | refine wr_done ?_ | refine WD.done _ ?_ | refine wdp_done ?_ | refine wdg_done ?_ | refine tr_some ?_ | refine t_inBlock ?_) | ((with_reducible refine t_isDraw ?_); refine t_draw rfl (by kernel_rfl) ?_) | ((fail_if_success with_reducible refine t_bl ?_); (with_reducible refine t_block ?_)) | ((with_reducible refine t_isExit ?_); refine t_exit rfl ?_) | simp only [decide_eq_true_eq, decide_eq_false_iff_not, Bool.not_eq_true', Bool.not_eq_false'] at * | simp (disch := omega) only [go_sem, Nat.reduceLT, Nat.reduceEqDiff, Nat.reduceAdd, Nat.reduceLeDiff, Nat.reduceMul, Int.reduceLT, Int.reduceLE, Int.reduceAdd, Int.reduceSub, Int.reduceNeg, Int.reduceToNat, Int.reduceBEq, Int.reduceEq, reduceCtorEq, ↓reduceIte, *] | (with_reducible first | refine tb_true ?_ | refine tb_false ?_) | ((with_reducible first | refine tb_split ?_ ?_ | refine wg_f ?_ ?_ | refine wg_t ?_ ?_ | refine wd_f ?_ ?_ | refine wd_t ?_ ?_) <;> intro _)
      all_goals first | (exfalso; omega) | exact ⟨_, _, rfl⟩ | exact ⟨rfl, rfl⟩
  · rintro t h ⟨c, n, rfl⟩
    clear Q
    repeat' first | (with_reducible first | refine t_seq ?_ | refine t_skip ?_ | refine t_ret ?_ | refine t_end ?_ | refine t_cond ?_ | refine t_region ?_ | refine wr_done ?_ | refine WD.done _ ?_ | refine wdp_done ?_ | refine wdg_done ?_ | refine tr_some ?_ | refine t_inBlock ?_) | ((with_reducible refine t_isDraw ?_); refine t_draw rfl (by kernel_rfl) ?_) | ((fail_if_success with_reducible refine t_bl ?_); (with_reducible refine t_block ?_)) | ((with_reducible refine t_isExit ?_); refine t_exit rfl ?_) | simp only [decide_eq_true_eq, decide_eq_false_iff_not, Bool.not_eq_true', Bool.not_eq_false'] at * | simp (disch := omega) only [go_sem, Nat.reduceLT, Nat.reduceEqDiff, Nat.reduceAdd, Nat.reduceLeDiff, Nat.reduceMul, Int.reduceLT, Int.reduceLE, Int.reduceAdd, Int.reduceSub, Int.reduceNeg, Int.reduceToNat, Int.reduceBEq, Int.reduceEq, reduceCtorEq, ↓reduceIte, *] | (with_reducible first | refine tb_true ?_ | refine tb_false ?_) | ((with_reducible first | refine tb_split ?_ ?_ | refine wg_f ?_ ?_ | refine wg_t ?_ ?_ | refine wd_f ?_ ?_ | refine wd_t ?_ ?_) <;> intro _)
    exact ⟨rfl, rfl⟩
end Go.Proofs.YthahgmncnbeddaaGreatDoorA
