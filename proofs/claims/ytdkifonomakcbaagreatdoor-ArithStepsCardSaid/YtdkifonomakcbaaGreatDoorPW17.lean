/- ArithYears as a contract. -/
import Derived.Test.YtdkifonomakcbaaGreatDoorPW16
set_option linter.unusedVariables false
set_option linter.unusedSimpArgs false
namespace Go.Proofs.YtdkifonomakcbaaGreatDoorA
open Go Go.RowKit Go.Proofs.YtdkifonomakcbaaGreatDoorFx Go.Proofs
variable {m : Int}
theorem Cal.A_parts2 (c : Cal) : ∃ y1 y2 y3 y5 L, c.A = .agg [y1, y2, y3, .isl false 3 L, y5] ∧ L.length = c.ms.length ∧ (one y1 = true ∧ one y2 = true ∧ one y3 = true ∧ one y5 = true) ∧ [AV.agg [y1, y2, y3, .isl false 3 L, y5]].all (noid 12) = true ∧ (∀ a, [AV.agg [y1, y2, y3, .isl false 3 L, y5], a].all (noid 12) = noid 12 a) ∧ ∀ a b, [AV.agg [y1, y2, y3, .isl false 3 L, y5], a, b].all (noid 12) = (noid 12 a && noid 12 b) :=
  ⟨_, _, _, _, _, rfl, by simp, ⟨rfl, rfl, rfl, rfl⟩, rfl, fun a => by simp only [List.all_cons, List.all_nil, Bool.and_true]; exact Bool.true_and _, fun a b => by simp only [List.all_cons, List.all_nil, Bool.and_true]; exact Bool.true_and _⟩
set_option maxRecDepth 100000 in
theorem arithYearsP (k year : Int) : MeetsP Tryz.prog (glT m) 5 [.i .i64 k, .i .i64 year] (.b true) := by
  have hk := knownP (m := m)
  have hn := nameP (m := m) k
  have hc := calAtP (m := m) k
  have hct := kcutP (m := m) (a := year) (lo := -3000) (n := 6000) (by omega) (by omega) (by omega) (by omega)
  have hg := calAt_good (m := m) k
  have hm1 := Int.emod_nonneg year (show (6000 : Int) ≠ 0 by omega)
  have hm2 := Int.emod_lt_of_pos year (show (0 : Int) < 6000 by omega)
  generalize hY : -3000 + year % 6000 = Y at hct
  have hY1 : -3000 ≤ Y := by omega
  have hY2 : Y < 3000 := by omega
  clear hY hm1 hm2
  have ha := newYearP (m := m) hg Y
  have hb := newYearP (m := m) hg (Y + 1)
  rw [if_pos (show chkYear Y = 0 from if_neg (by omega))] at ha
  rw [if_pos (show chkYear (Y + 1) = 0 from if_neg (by omega))] at hb
  have hml := fun (i : Nat) (h : i < (calAt k).ms.length) => monthLenP (m := m) hg Y ((i : Int) + 1) (by omega) (by omega)
  simp only [if_pos (show chkYear Y = 0 from if_neg (by omega))] at hml
  have hs := hg.toOk.first_succ Y
  have hall := (calAt k).bef_all Y
  have fb := hg.toOk.first_bounds (y := Y) (by omega) (by omega)
  have hbef : ∀ i, i < (calAt k).ms.length → (calAt k).bef Y (i + 1) = (calAt k).bef Y i + (calAt k).mlen Y ((i : Int) + 1) := fun i _ => rfl
  have hbb := fun i => hg.toOk.bef_bounds Y i
  have h20 := hg.toOk.len2
  generalize (calAt k).first (Y + 1) = D2 at *
  generalize (calAt k).first Y = D1 at *
  subst hs
  obtain ⟨y1, y2, y3, y5, L, hy, hL, ⟨o1, o2, o3, o5⟩, n1, n2, n3⟩ := (calAt k).A_parts2
  rw [hy] at hc ha hb
  simp only [hy] at hml
  have hb0 : (calAt k).bef Y 0 = 0 := rfl
  generalize (calAt k).ms.length = n at *
  generalize (calAt k).ylen Y = YL at *
  generalize (calAt k).bef Y = bf at *
  generalize (calAt k).mlen Y = ml at *
  subst hL
  by_cases e1 : chkDay D1 = 0
  · rw [if_pos e1] at ha
    by_cases e2 : chkDay (D1 + YL) = 0
    · rw [if_pos e2] at hb
      refine meetsP (E := (EW m)) 70 [.tmp 4] (ew m) Tryz.func5 rfl (by decide) rfl rfl (by simp) ?_
      repeat' first
        | ((with_reducible refine wr_isCall ?_); refine wr_P hk rfl ?_)
        | ((with_reducible refine wr_isCall ?_); refine wr_P hn rfl ?_)
        | ((with_reducible refine wr_isCall ?_); refine wr_P hc rfl ?_)
        | ((with_reducible refine wr_isCall ?_); refine wr_P hct rfl ?_)
        | ((with_reducible refine wr_isCall ?_); refine wr_P ha (n2 _) ?_)
        | ((with_reducible refine wr_isCall ?_); refine wr_P hb (n2 _) ?_)
        | (with_reducible refine t_seq ?_)
        | (with_reducible refine t_skip ?_)
        | (with_reducible refine t_ret ?_)
        | (with_reducible refine t_end ?_)
        | (with_reducible refine t_cond ?_)
        | (with_reducible refine t_region ?_)
        | (with_reducible refine wr_done ?_)
        | ((with_reducible refine t_isDraw ?_); refine t_draw rfl (by kernel_rfl) ?_)
        | (with_reducible refine WD.done _ ?_)
        | (with_reducible refine wdp_done ?_)
        | (with_reducible refine tr_some ?_)
        | ((fail_if_success with_reducible refine t_bl ?_); (with_reducible refine t_block ?_))
        | (with_reducible refine t_inBlock ?_)
        | ((with_reducible refine t_isExit ?_); refine t_exit rfl ?_)
        | simp only [decide_eq_true_eq, decide_eq_false_iff_not, Bool.not_eq_true', Bool.not_eq_false'] at *
        | simp (disch := omega) only [go_sem, Nat.reduceLT, Nat.reduceEqDiff, Nat.reduceAdd, Nat.reduceLeDiff, Nat.reduceMul, Int.reduceLT, Int.reduceLE, Int.reduceAdd, Int.reduceSub, Int.reduceNeg, Int.reduceToNat, Int.reduceBEq, Int.reduceEq, reduceCtorEq, List.take_succ_cons, List.take_zero, List.take_nil, List.drop_succ_cons, List.drop_nil, List.cons_append, List.nil_append, List.set_cons_zero, List.set_cons_succ, ↓reduceIte, *]
        | (with_reducible refine tb_true ?_)
        | (with_reducible refine tb_false ?_)
        | (with_reducible refine tb_split (fun _ => ?_) (fun _ => ?_))
        | (with_reducible refine wg_f (fun _ => ?_) (fun _ => ?_))
        | (with_reducible refine wg_t (fun _ => ?_) (fun _ => ?_))
        | (with_reducible refine wd_f (fun _ => ?_) (fun _ => ?_))
        | (with_reducible refine wd_t (fun _ => ?_) (fun _ => ?_))
      refine t_while (I := fun (i : Nat) t h => i ≤ L.length ∧ h = ⟨[(0, .rows 5 [[y1, y2, y3, .isl false 3 L, y5]])], 1⟩ ∧ get t 52 = .i .i64 i ∧ get t 51 = .i .i64 L.length ∧ get t 5 = .ptr 0 0 0 ∧ get t 1 = .i .i64 Y ∧ get t 7 = .i .i64 (D1 + bf i) ∧ get t 9 = .i .i64 (D1 + YL)) (m := fun i => L.length - i)
        (J := fun t h => get t 7 = .i .i64 (D1 + YL) ∧ get t 9 = .i .i64 (D1 + YL)) 0 ⟨by omega, rfl, by simp [get], by simp [get], by simp [get], by simp [get], by simp [get, hb0], by simp [get]⟩ ?_ ?_
      · rintro i t h ⟨hi, rfl, g52, g51, g5, g1, g7, g9⟩ hrec hex
        have b1 := hbb i
        have b2 := hbb (i + 1)
        by_cases hi' : (i : Int) < (L.length : Int)
        · have hM := hml i (by omega)
          have hB := hbef i (by omega)
          repeat' first
            | ((with_reducible refine wr_isCall ?_); refine wr_P hM (n3 _ _) ?_)
            | (with_reducible refine t_seq ?_)
            | (with_reducible refine t_skip ?_)
            | (with_reducible refine t_ret ?_)
            | (with_reducible refine t_end ?_)
            | (with_reducible refine t_cond ?_)
            | (with_reducible refine t_region ?_)
            | (with_reducible refine wr_done ?_)
            | ((with_reducible refine t_isDraw ?_); refine t_draw rfl (by kernel_rfl) ?_)
            | (with_reducible refine WD.done _ ?_)
            | (with_reducible refine wdp_done ?_)
            | (with_reducible refine tr_some ?_)
            | ((fail_if_success with_reducible refine t_bl ?_); (with_reducible refine t_block ?_))
            | (with_reducible refine t_inBlock ?_)
            | ((with_reducible refine t_isExit ?_); refine t_exit rfl ?_)
            | simp only [decide_eq_true_eq, decide_eq_false_iff_not, Bool.not_eq_true', Bool.not_eq_false'] at *
            | simp (disch := omega) only [go_sem, Nat.reduceLT, Nat.reduceEqDiff, Nat.reduceAdd, Nat.reduceLeDiff, Nat.reduceMul, Int.reduceLT, Int.reduceLE, Int.reduceAdd, Int.reduceSub, Int.reduceNeg, Int.reduceToNat, Int.reduceBEq, Int.reduceEq, reduceCtorEq, List.take_succ_cons, List.take_zero, List.take_nil, List.drop_succ_cons, List.drop_nil, List.cons_append, List.nil_append, List.set_cons_zero, List.set_cons_succ, ↓reduceIte, *]
            | (with_reducible refine tb_true ?_)
            | (with_reducible refine tb_false ?_)
            | (with_reducible refine tb_split (fun _ => ?_) (fun _ => ?_))
            | (with_reducible refine wg_f (fun _ => ?_) (fun _ => ?_))
            | (with_reducible refine wg_t (fun _ => ?_) (fun _ => ?_))
            | (with_reducible refine wd_f (fun _ => ?_) (fun _ => ?_))
            | (with_reducible refine wd_t (fun _ => ?_) (fun _ => ?_))
          refine hrec (i + 1) _ _ ⟨by omega, rfl, by simp [get], by simp [get, g51], by simp [get, g5], by simp [get, g1], by simp [get, hB]; omega, by simp [get, g9]⟩ (by omega)
        · repeat' first
            | refine hex _ _ ?_
            | (with_reducible refine t_seq ?_)
            | (with_reducible refine t_skip ?_)
            | (with_reducible refine t_ret ?_)
            | (with_reducible refine t_end ?_)
            | (with_reducible refine t_cond ?_)
            | (with_reducible refine t_region ?_)
            | (with_reducible refine wr_done ?_)
            | ((with_reducible refine t_isDraw ?_); refine t_draw rfl (by kernel_rfl) ?_)
            | (with_reducible refine WD.done _ ?_)
            | (with_reducible refine wdp_done ?_)
            | (with_reducible refine tr_some ?_)
            | ((fail_if_success with_reducible refine t_bl ?_); (with_reducible refine t_block ?_))
            | (with_reducible refine t_inBlock ?_)
            | ((with_reducible refine t_isExit ?_); refine t_exit rfl ?_)
            | simp only [decide_eq_true_eq, decide_eq_false_iff_not, Bool.not_eq_true', Bool.not_eq_false'] at *
            | simp (disch := omega) only [go_sem, Nat.reduceLT, Nat.reduceEqDiff, Nat.reduceAdd, Nat.reduceLeDiff, Nat.reduceMul, Int.reduceLT, Int.reduceLE, Int.reduceAdd, Int.reduceSub, Int.reduceNeg, Int.reduceToNat, Int.reduceBEq, Int.reduceEq, reduceCtorEq, List.take_succ_cons, List.take_zero, List.take_nil, List.drop_succ_cons, List.drop_nil, List.cons_append, List.nil_append, List.set_cons_zero, List.set_cons_succ, ↓reduceIte, *]
            | (with_reducible refine tb_true ?_)
            | (with_reducible refine tb_false ?_)
            | (with_reducible refine tb_split (fun _ => ?_) (fun _ => ?_))
            | (with_reducible refine wg_f (fun _ => ?_) (fun _ => ?_))
            | (with_reducible refine wg_t (fun _ => ?_) (fun _ => ?_))
            | (with_reducible refine wd_f (fun _ => ?_) (fun _ => ?_))
            | (with_reducible refine wd_t (fun _ => ?_) (fun _ => ?_))
          have : i = L.length := by omega
          subst this
          rw [hall]
      · rintro t h ⟨g7, g9⟩
        repeat' first
          | (with_reducible refine t_seq ?_)
          | (with_reducible refine t_skip ?_)
          | (with_reducible refine t_ret ?_)
          | (with_reducible refine t_end ?_)
          | (with_reducible refine t_cond ?_)
          | (with_reducible refine t_region ?_)
          | (with_reducible refine wr_done ?_)
          | ((with_reducible refine t_isDraw ?_); refine t_draw rfl (by kernel_rfl) ?_)
          | (with_reducible refine WD.done _ ?_)
          | (with_reducible refine wdp_done ?_)
          | (with_reducible refine tr_some ?_)
          | ((fail_if_success with_reducible refine t_bl ?_); (with_reducible refine t_block ?_))
          | (with_reducible refine t_inBlock ?_)
          | ((with_reducible refine t_isExit ?_); refine t_exit rfl ?_)
          | simp only [decide_eq_true_eq, decide_eq_false_iff_not, Bool.not_eq_true', Bool.not_eq_false'] at *
          | simp (disch := omega) only [go_sem, Nat.reduceLT, Nat.reduceEqDiff, Nat.reduceAdd, Nat.reduceLeDiff, Nat.reduceMul, Int.reduceLT, Int.reduceLE, Int.reduceAdd, Int.reduceSub, Int.reduceNeg, Int.reduceToNat, Int.reduceBEq, Int.reduceEq, reduceCtorEq, List.take_succ_cons, List.take_zero, List.take_nil, List.drop_succ_cons, List.drop_nil, List.cons_append, List.nil_append, List.set_cons_zero, List.set_cons_succ, ↓reduceIte, *]
          | (with_reducible refine tb_true ?_)
          | (with_reducible refine tb_false ?_)
          | (with_reducible refine tb_split (fun _ => ?_) (fun _ => ?_))
          | (with_reducible refine wg_f (fun _ => ?_) (fun _ => ?_))
          | (with_reducible refine wg_t (fun _ => ?_) (fun _ => ?_))
          | (with_reducible refine wd_f (fun _ => ?_) (fun _ => ?_))
          | (with_reducible refine wd_t (fun _ => ?_) (fun _ => ?_))
        exact ⟨rfl, rfl⟩
    · rw [if_neg e2] at hb
      refine meetsP (E := (EW m)) 70 [.tmp 4] (ew m) Tryz.func5 rfl (by decide) rfl rfl (by simp) ?_
      repeat' first
        | ((with_reducible refine wr_isCall ?_); refine wr_P hk rfl ?_)
        | ((with_reducible refine wr_isCall ?_); refine wr_P hn rfl ?_)
        | ((with_reducible refine wr_isCall ?_); refine wr_P hc rfl ?_)
        | ((with_reducible refine wr_isCall ?_); refine wr_P hct rfl ?_)
        | ((with_reducible refine wr_isCall ?_); refine wr_P ha (n2 _) ?_)
        | ((with_reducible refine wr_isCall ?_); refine wr_P hb (n2 _) ?_)
        | (with_reducible refine t_seq ?_)
        | (with_reducible refine t_skip ?_)
        | (with_reducible refine t_ret ?_)
        | (with_reducible refine t_end ?_)
        | (with_reducible refine t_cond ?_)
        | (with_reducible refine t_region ?_)
        | (with_reducible refine wr_done ?_)
        | ((with_reducible refine t_isDraw ?_); refine t_draw rfl (by kernel_rfl) ?_)
        | (with_reducible refine WD.done _ ?_)
        | (with_reducible refine wdp_done ?_)
        | (with_reducible refine tr_some ?_)
        | ((fail_if_success with_reducible refine t_bl ?_); (with_reducible refine t_block ?_))
        | (with_reducible refine t_inBlock ?_)
        | ((with_reducible refine t_isExit ?_); refine t_exit rfl ?_)
        | simp only [decide_eq_true_eq, decide_eq_false_iff_not, Bool.not_eq_true', Bool.not_eq_false'] at *
        | simp (disch := omega) only [go_sem, Nat.reduceLT, Nat.reduceEqDiff, Nat.reduceAdd, Nat.reduceLeDiff, Nat.reduceMul, Int.reduceLT, Int.reduceLE, Int.reduceAdd, Int.reduceSub, Int.reduceNeg, Int.reduceToNat, Int.reduceBEq, Int.reduceEq, reduceCtorEq, List.take_succ_cons, List.take_zero, List.take_nil, List.drop_succ_cons, List.drop_nil, List.cons_append, List.nil_append, List.set_cons_zero, List.set_cons_succ, ↓reduceIte, *]
        | (with_reducible refine tb_true ?_)
        | (with_reducible refine tb_false ?_)
        | (with_reducible refine tb_split (fun _ => ?_) (fun _ => ?_))
        | (with_reducible refine wg_f (fun _ => ?_) (fun _ => ?_))
        | (with_reducible refine wg_t (fun _ => ?_) (fun _ => ?_))
        | (with_reducible refine wd_f (fun _ => ?_) (fun _ => ?_))
        | (with_reducible refine wd_t (fun _ => ?_) (fun _ => ?_))
      exact ⟨rfl, rfl⟩
  · rw [if_neg e1] at ha
    have hb' : ∃ d e, MeetsP Tryz.prog (glT m) 16 [.agg [y1, y2, y3, .isl false 3 L, y5], .i .i64 (Y + 1)] (.tup [.i .i64 d, .i .i64 e]) := by
      by_cases e2 : chkDay (D1 + YL) = 0
      · rw [if_pos e2] at hb; exact ⟨_, _, hb⟩
      · rw [if_neg e2] at hb; exact ⟨_, _, hb⟩
    obtain ⟨dd, ee, hb⟩ := hb'
    refine meetsP (E := (EW m)) 70 [.tmp 4] (ew m) Tryz.func5 rfl (by decide) rfl rfl (by simp) ?_
    repeat' first
      | ((with_reducible refine wr_isCall ?_); refine wr_P hk rfl ?_)
      | ((with_reducible refine wr_isCall ?_); refine wr_P hn rfl ?_)
      | ((with_reducible refine wr_isCall ?_); refine wr_P hc rfl ?_)
      | ((with_reducible refine wr_isCall ?_); refine wr_P hct rfl ?_)
      | ((with_reducible refine wr_isCall ?_); refine wr_P ha (n2 _) ?_)
      | ((with_reducible refine wr_isCall ?_); refine wr_P hb (n2 _) ?_)
      | (with_reducible refine t_seq ?_)
      | (with_reducible refine t_skip ?_)
      | (with_reducible refine t_ret ?_)
      | (with_reducible refine t_end ?_)
      | (with_reducible refine t_cond ?_)
      | (with_reducible refine t_region ?_)
      | (with_reducible refine wr_done ?_)
      | ((with_reducible refine t_isDraw ?_); refine t_draw rfl (by kernel_rfl) ?_)
      | (with_reducible refine WD.done _ ?_)
      | (with_reducible refine wdp_done ?_)
      | (with_reducible refine tr_some ?_)
      | ((fail_if_success with_reducible refine t_bl ?_); (with_reducible refine t_block ?_))
      | (with_reducible refine t_inBlock ?_)
      | ((with_reducible refine t_isExit ?_); refine t_exit rfl ?_)
      | simp only [decide_eq_true_eq, decide_eq_false_iff_not, Bool.not_eq_true', Bool.not_eq_false'] at *
      | simp (disch := omega) only [go_sem, Nat.reduceLT, Nat.reduceEqDiff, Nat.reduceAdd, Nat.reduceLeDiff, Nat.reduceMul, Int.reduceLT, Int.reduceLE, Int.reduceAdd, Int.reduceSub, Int.reduceNeg, Int.reduceToNat, Int.reduceBEq, Int.reduceEq, reduceCtorEq, List.take_succ_cons, List.take_zero, List.take_nil, List.drop_succ_cons, List.drop_nil, List.cons_append, List.nil_append, List.set_cons_zero, List.set_cons_succ, ↓reduceIte, *]
      | (with_reducible refine tb_true ?_)
      | (with_reducible refine tb_false ?_)
      | (with_reducible refine tb_split (fun _ => ?_) (fun _ => ?_))
      | (with_reducible refine wg_f (fun _ => ?_) (fun _ => ?_))
      | (with_reducible refine wg_t (fun _ => ?_) (fun _ => ?_))
      | (with_reducible refine wd_f (fun _ => ?_) (fun _ => ?_))
      | (with_reducible refine wd_t (fun _ => ?_) (fun _ => ?_))
    exact ⟨rfl, rfl⟩
end Go.Proofs.YtdkifonomakcbaaGreatDoorA
