/- line.Date and CatalogGregorian as contracts. -/
import Derived.Test.YtdkifonomakcbaaGreatDoorPW19
import Derived.Test.YtdkifonomakcbaaGreatDoorPW18
set_option linter.unusedVariables false
set_option linter.unusedSimpArgs false
namespace Go.Proofs.YtdkifonomakcbaaGreatDoorA
open Go Go.RowKit Go.Proofs.YtdkifonomakcbaaGreatDoorFx Go.Proofs
variable {m : Int}
theorem bg_le {a b : Int} (h : a ≤ b) : bg a ≤ bg b := by
  have h1 := (calOk gregIn).first_mono h
  have h2 := greg_first a
  have h3 := greg_first b
  unfold greg at h2 h3
  omega
set_option maxRecDepth 100000 in
set_option maxHeartbeats 2000000 in
theorem lineDateP {day y : Int} {mo : Nat} (h : greg.At day y mo) : MeetsP Tryz.prog (glT m) 17 [.i .i64 day] (resD (dateA y (mo + 1) (day - bg y - greg.bef y mo)) 0) := by
  have hd := lineCheck (m := m) day
  rw [h.far] at hd
  have hday : -4000000 ≤ day ∧ day ≤ 4000000 := by have := h.far; unfold chkDay at this; split at this <;> omega
  have q1 := h.y1
  have q2 := h.y2
  have a := h.a
  have b := h.b
  rw [greg_first] at a b
  have hq := divP (m := m) (a := 400 * (day - 1)) (b := 146097) (by omega) (by omega) (by omega) (by omega)
  have hbeg := fun Y (h1 : -20000 ≤ Y) (h2 : Y ≤ 20001) => lineBeginP (m := m) (y := Y) (by omega) (by omega)
  have hlen := fun (Y M : Int) => lineLengthP (m := m) (y := Y) (mo := M)
  have hr1 := h.r1
  have hr2 := h.r2
  rw [greg_first] at hr1 hr2
  have hmo : mo < 12 := by have := h.hmo; rwa [greg_len] at this
  have hbs : ∀ i, i < 12 → greg.bef y (i + 1) = greg.bef y i + len y (i + 1) := fun i hi => by rw [← greg_mlen y hi]; rfl
  have hb0 : greg.bef y 0 = 0 := rfl
  have hbm : ∀ i, i ≤ mo → greg.bef y i ≤ greg.bef y mo := fun i hi => (calOk gregIn).bef_mono y hi
  have hbb : ∀ i, 0 ≤ greg.bef y i ∧ greg.bef y i ≤ 400 * i := fun i => (calOk gregIn).bef_bounds y i
  have bgb : -20000000 ≤ bg y ∧ bg y ≤ 20000000 := by unfold bg; omega
  have hlo : -20000 ≤ 400 * (day - 1) / 146097 + 1 ∧ 400 * (day - 1) / 146097 + 1 ≤ 20000 := by omega
  generalize greg.bef y = bf at *
  generalize 400 * (day - 1) / 146097 = Q at *
  generalize 400 * (day - 1) % 146097 = R at *
  unfold resD dateA
  refine meetsP (E := (EW m)) 60 [.cell 2 33, .tmp 3] (ew m) Tryz.func17 rfl (by decide) rfl rfl (by simp) ?_
  repeat' first
    | ((with_reducible refine wr_isCall ?_); refine wr_P hd rfl ?_)
    | ((with_reducible refine wr_isCall ?_); refine wr_P hq rfl ?_)
    | (with_reducible refine t_seq ?_)
    | (with_reducible refine t_skip ?_)
    | (with_reducible refine t_ret ?_)
    | (with_reducible refine t_end ?_)
    | (with_reducible refine t_cond ?_)
    | (with_reducible refine t_region ?_)
    | (with_reducible refine wr_done ?_)
    | ((with_reducible refine t_isDraw ?_); refine t_draw rfl (by kernel_rfl) ?_)
    | (with_reducible refine WD.done _ ?_)
    | (with_reducible refine wdp_done ?_)
    | (with_reducible refine tr_some ?_)
    | ((fail_if_success with_reducible refine t_bl ?_); (with_reducible refine t_block ?_))
    | (with_reducible refine t_inBlock ?_)
    | ((with_reducible refine t_isExit ?_); refine t_exit rfl ?_)
    | simp only [decide_eq_true_eq, decide_eq_false_iff_not, Bool.not_eq_true', Bool.not_eq_false'] at *
    | simp (disch := omega) only [go_sem, Nat.reduceLT, Nat.reduceEqDiff, Nat.reduceAdd, Nat.reduceLeDiff, Nat.reduceMul, Int.reduceLT, Int.reduceLE, Int.reduceAdd, Int.reduceSub, Int.reduceNeg, Int.reduceToNat, Int.reduceBEq, Int.reduceEq, reduceCtorEq, List.take_succ_cons, List.take_zero, List.take_nil, List.drop_succ_cons, List.drop_nil, List.cons_append, List.nil_append, List.set_cons_zero, List.set_cons_succ, ↓reduceIte, *]
    | (with_reducible refine tb_true ?_)
    | (with_reducible refine tb_false ?_)
    | (with_reducible refine tb_split (fun _ => ?_) (fun _ => ?_))
    | (with_reducible refine wg_f (fun _ => ?_) (fun _ => ?_))
    | (with_reducible refine wg_t (fun _ => ?_) (fun _ => ?_))
    | (with_reducible refine wd_f (fun _ => ?_) (fun _ => ?_))
    | (with_reducible refine wd_t (fun _ => ?_) (fun _ => ?_))
  refine t_while (α := Int) (I := fun (Y : Int) t h => -20000 ≤ Y ∧ Y ≤ 20000 ∧ h = ⟨[(0, .rows 3 [[.i .i64 0, .i .i64 0, .i .i64 0]])], 1⟩ ∧ get t 8 = .i .i64 Y ∧ get t 0 = .i .i64 day ∧ get t 2 = .ptr 0 0 0) (m := fun Y => (Y - y).toNat)
    (J := fun t h => ∃ Y, -20000 ≤ Y ∧ Y ≤ y ∧ h = ⟨[(0, .rows 3 [[.i .i64 0, .i .i64 0, .i .i64 0]])], 1⟩ ∧ get t 8 = .i .i64 Y ∧ get t 0 = .i .i64 day ∧ get t 2 = .ptr 0 0 0) (Q + 1) ⟨by omega, by omega, rfl, by simp [get], by simp [get], by simp [get]⟩ ?_ ?_
  · rintro Y t h ⟨i1, i2, rfl, g8, g0, g2⟩ hrec hex
    have hB := hbeg Y (by omega) (by omega)
    by_cases hc : day ≤ bg Y
    · have hy : y < Y := by
        rcases Int.lt_or_le y Y with q | q
        · exact q
        · have := bg_le q; omega
      repeat' first
        | ((with_reducible refine wr_isCall ?_); refine wr_P hB rfl ?_)
        | (with_reducible refine t_seq ?_)
        | (with_reducible refine t_skip ?_)
        | (with_reducible refine t_ret ?_)
        | (with_reducible refine t_end ?_)
        | (with_reducible refine t_cond ?_)
        | (with_reducible refine t_region ?_)
        | (with_reducible refine wr_done ?_)
        | ((with_reducible refine t_isDraw ?_); refine t_draw rfl (by kernel_rfl) ?_)
        | (with_reducible refine WD.done _ ?_)
        | (with_reducible refine wdp_done ?_)
        | (with_reducible refine tr_some ?_)
        | ((fail_if_success with_reducible refine t_bl ?_); (with_reducible refine t_block ?_))
        | (with_reducible refine t_inBlock ?_)
        | ((with_reducible refine t_isExit ?_); refine t_exit rfl ?_)
        | simp only [decide_eq_true_eq, decide_eq_false_iff_not, Bool.not_eq_true', Bool.not_eq_false'] at *
        | simp (disch := omega) only [go_sem, Nat.reduceLT, Nat.reduceEqDiff, Nat.reduceAdd, Nat.reduceLeDiff, Nat.reduceMul, Int.reduceLT, Int.reduceLE, Int.reduceAdd, Int.reduceSub, Int.reduceNeg, Int.reduceToNat, Int.reduceBEq, Int.reduceEq, reduceCtorEq, List.take_succ_cons, List.take_zero, List.take_nil, List.drop_succ_cons, List.drop_nil, List.cons_append, List.nil_append, List.set_cons_zero, List.set_cons_succ, ↓reduceIte, *]
        | (with_reducible refine tb_true ?_)
        | (with_reducible refine tb_false ?_)
        | (with_reducible refine tb_split (fun _ => ?_) (fun _ => ?_))
        | (with_reducible refine wg_f (fun _ => ?_) (fun _ => ?_))
        | (with_reducible refine wg_t (fun _ => ?_) (fun _ => ?_))
        | (with_reducible refine wd_f (fun _ => ?_) (fun _ => ?_))
        | (with_reducible refine wd_t (fun _ => ?_) (fun _ => ?_))
      all_goals first | (exfalso; omega) | skip
      exact hrec (Y - 1) _ _ ⟨by omega, by omega, rfl, by simp [get], by simp [get, g0], by simp [get, g2]⟩ (by omega)
    · have hy : Y ≤ y := by
        rcases Int.lt_or_le y Y with q | q
        · have := bg_le (show y + 1 ≤ Y from q); omega
        · exact q
      repeat' first
        | ((with_reducible refine wr_isCall ?_); refine wr_P hB rfl ?_)
        | refine hex _ _ ?_
        | (with_reducible refine t_seq ?_)
        | (with_reducible refine t_skip ?_)
        | (with_reducible refine t_ret ?_)
        | (with_reducible refine t_end ?_)
        | (with_reducible refine t_cond ?_)
        | (with_reducible refine t_region ?_)
        | (with_reducible refine wr_done ?_)
        | ((with_reducible refine t_isDraw ?_); refine t_draw rfl (by kernel_rfl) ?_)
        | (with_reducible refine WD.done _ ?_)
        | (with_reducible refine wdp_done ?_)
        | (with_reducible refine tr_some ?_)
        | ((fail_if_success with_reducible refine t_bl ?_); (with_reducible refine t_block ?_))
        | (with_reducible refine t_inBlock ?_)
        | ((with_reducible refine t_isExit ?_); refine t_exit rfl ?_)
        | simp only [decide_eq_true_eq, decide_eq_false_iff_not, Bool.not_eq_true', Bool.not_eq_false'] at *
        | simp (disch := omega) only [go_sem, Nat.reduceLT, Nat.reduceEqDiff, Nat.reduceAdd, Nat.reduceLeDiff, Nat.reduceMul, Int.reduceLT, Int.reduceLE, Int.reduceAdd, Int.reduceSub, Int.reduceNeg, Int.reduceToNat, Int.reduceBEq, Int.reduceEq, reduceCtorEq, List.take_succ_cons, List.take_zero, List.take_nil, List.drop_succ_cons, List.drop_nil, List.cons_append, List.nil_append, List.set_cons_zero, List.set_cons_succ, ↓reduceIte, *]
        | (with_reducible refine tb_true ?_)
        | (with_reducible refine tb_false ?_)
        | (with_reducible refine tb_split (fun _ => ?_) (fun _ => ?_))
        | (with_reducible refine wg_f (fun _ => ?_) (fun _ => ?_))
        | (with_reducible refine wg_t (fun _ => ?_) (fun _ => ?_))
        | (with_reducible refine wd_f (fun _ => ?_) (fun _ => ?_))
        | (with_reducible refine wd_t (fun _ => ?_) (fun _ => ?_))
      all_goals first | (exfalso; omega) | skip
      exact ⟨Y, by omega, by omega, by simp [get, g8, g0, g2]⟩
  rintro t h ⟨Y0, i1, i2, rfl, g8, g0, g2⟩
  repeat' first
    | (with_reducible refine t_seq ?_)
    | (with_reducible refine t_skip ?_)
    | (with_reducible refine t_ret ?_)
    | (with_reducible refine t_end ?_)
    | (with_reducible refine t_cond ?_)
    | (with_reducible refine t_region ?_)
    | (with_reducible refine wr_done ?_)
    | ((with_reducible refine t_isDraw ?_); refine t_draw rfl (by kernel_rfl) ?_)
    | (with_reducible refine WD.done _ ?_)
    | (with_reducible refine wdp_done ?_)
    | (with_reducible refine tr_some ?_)
    | ((fail_if_success with_reducible refine t_bl ?_); (with_reducible refine t_block ?_))
    | (with_reducible refine t_inBlock ?_)
    | ((with_reducible refine t_isExit ?_); refine t_exit rfl ?_)
    | simp only [decide_eq_true_eq, decide_eq_false_iff_not, Bool.not_eq_true', Bool.not_eq_false'] at *
    | simp (disch := omega) only [go_sem, Nat.reduceLT, Nat.reduceEqDiff, Nat.reduceAdd, Nat.reduceLeDiff, Nat.reduceMul, Int.reduceLT, Int.reduceLE, Int.reduceAdd, Int.reduceSub, Int.reduceNeg, Int.reduceToNat, Int.reduceBEq, Int.reduceEq, reduceCtorEq, List.take_succ_cons, List.take_zero, List.take_nil, List.drop_succ_cons, List.drop_nil, List.cons_append, List.nil_append, List.set_cons_zero, List.set_cons_succ, ↓reduceIte, *]
    | (with_reducible refine tb_true ?_)
    | (with_reducible refine tb_false ?_)
    | (with_reducible refine tb_split (fun _ => ?_) (fun _ => ?_))
    | (with_reducible refine wg_f (fun _ => ?_) (fun _ => ?_))
    | (with_reducible refine wg_t (fun _ => ?_) (fun _ => ?_))
    | (with_reducible refine wd_f (fun _ => ?_) (fun _ => ?_))
    | (with_reducible refine wd_t (fun _ => ?_) (fun _ => ?_))
  refine t_while (α := Int) (I := fun (Y : Int) t h => -20000 ≤ Y ∧ Y ≤ y ∧ h = ⟨[(0, .rows 3 [[.i .i64 0, .i .i64 0, .i .i64 0]])], 1⟩ ∧ get t 8 = .i .i64 Y ∧ get t 0 = .i .i64 day ∧ get t 2 = .ptr 0 0 0) (m := fun Y => (y - Y).toNat)
    (J := fun t h => h = ⟨[(0, .rows 3 [[.i .i64 0, .i .i64 0, .i .i64 0]])], 1⟩ ∧ get t 8 = .i .i64 y ∧ get t 0 = .i .i64 day ∧ get t 2 = .ptr 0 0 0) Y0 ⟨by omega, by omega, rfl, by simp [get, g8], by simp [get, g0], by simp [get, g2]⟩ ?_ ?_
  · rintro Y t h ⟨i1, i2, rfl, g8, g0, g2⟩ hrec hex
    have hB := hbeg (Y + 1) (by omega) (by omega)
    by_cases hc : bg (Y + 1) < day
    · have hy : Y + 1 ≤ y := by
        rcases Int.lt_or_le y (Y + 1) with q | q
        · have := bg_le (show y + 1 ≤ Y + 1 from q); omega
        · exact q
      repeat' first
        | ((with_reducible refine wr_isCall ?_); refine wr_P hB rfl ?_)
        | (with_reducible refine t_seq ?_)
        | (with_reducible refine t_skip ?_)
        | (with_reducible refine t_ret ?_)
        | (with_reducible refine t_end ?_)
        | (with_reducible refine t_cond ?_)
        | (with_reducible refine t_region ?_)
        | (with_reducible refine wr_done ?_)
        | ((with_reducible refine t_isDraw ?_); refine t_draw rfl (by kernel_rfl) ?_)
        | (with_reducible refine WD.done _ ?_)
        | (with_reducible refine wdp_done ?_)
        | (with_reducible refine tr_some ?_)
        | ((fail_if_success with_reducible refine t_bl ?_); (with_reducible refine t_block ?_))
        | (with_reducible refine t_inBlock ?_)
        | ((with_reducible refine t_isExit ?_); refine t_exit rfl ?_)
        | simp only [decide_eq_true_eq, decide_eq_false_iff_not, Bool.not_eq_true', Bool.not_eq_false'] at *
        | simp (disch := omega) only [go_sem, Nat.reduceLT, Nat.reduceEqDiff, Nat.reduceAdd, Nat.reduceLeDiff, Nat.reduceMul, Int.reduceLT, Int.reduceLE, Int.reduceAdd, Int.reduceSub, Int.reduceNeg, Int.reduceToNat, Int.reduceBEq, Int.reduceEq, reduceCtorEq, List.take_succ_cons, List.take_zero, List.take_nil, List.drop_succ_cons, List.drop_nil, List.cons_append, List.nil_append, List.set_cons_zero, List.set_cons_succ, ↓reduceIte, *]
        | (with_reducible refine tb_true ?_)
        | (with_reducible refine tb_false ?_)
        | (with_reducible refine tb_split (fun _ => ?_) (fun _ => ?_))
        | (with_reducible refine wg_f (fun _ => ?_) (fun _ => ?_))
        | (with_reducible refine wg_t (fun _ => ?_) (fun _ => ?_))
        | (with_reducible refine wd_f (fun _ => ?_) (fun _ => ?_))
        | (with_reducible refine wd_t (fun _ => ?_) (fun _ => ?_))
      all_goals first | (exfalso; omega) | skip
      exact hrec (Y + 1) _ _ ⟨by omega, by omega, rfl, by simp [get], by simp [get, g0], by simp [get, g2]⟩ (by omega)
    · have hy : Y = y := by
        rcases Int.lt_or_le Y y with q | q
        · have := bg_le (show Y + 1 ≤ y from q); omega
        · omega
      subst hy
      repeat' first
        | ((with_reducible refine wr_isCall ?_); refine wr_P hB rfl ?_)
        | refine hex _ _ ?_
        | (with_reducible refine t_seq ?_)
        | (with_reducible refine t_skip ?_)
        | (with_reducible refine t_ret ?_)
        | (with_reducible refine t_end ?_)
        | (with_reducible refine t_cond ?_)
        | (with_reducible refine t_region ?_)
        | (with_reducible refine wr_done ?_)
        | ((with_reducible refine t_isDraw ?_); refine t_draw rfl (by kernel_rfl) ?_)
        | (with_reducible refine WD.done _ ?_)
        | (with_reducible refine wdp_done ?_)
        | (with_reducible refine tr_some ?_)
        | ((fail_if_success with_reducible refine t_bl ?_); (with_reducible refine t_block ?_))
        | (with_reducible refine t_inBlock ?_)
        | ((with_reducible refine t_isExit ?_); refine t_exit rfl ?_)
        | simp only [decide_eq_true_eq, decide_eq_false_iff_not, Bool.not_eq_true', Bool.not_eq_false'] at *
        | simp (disch := omega) only [go_sem, Nat.reduceLT, Nat.reduceEqDiff, Nat.reduceAdd, Nat.reduceLeDiff, Nat.reduceMul, Int.reduceLT, Int.reduceLE, Int.reduceAdd, Int.reduceSub, Int.reduceNeg, Int.reduceToNat, Int.reduceBEq, Int.reduceEq, reduceCtorEq, List.take_succ_cons, List.take_zero, List.take_nil, List.drop_succ_cons, List.drop_nil, List.cons_append, List.nil_append, List.set_cons_zero, List.set_cons_succ, ↓reduceIte, *]
        | (with_reducible refine tb_true ?_)
        | (with_reducible refine tb_false ?_)
        | (with_reducible refine tb_split (fun _ => ?_) (fun _ => ?_))
        | (with_reducible refine wg_f (fun _ => ?_) (fun _ => ?_))
        | (with_reducible refine wg_t (fun _ => ?_) (fun _ => ?_))
        | (with_reducible refine wd_f (fun _ => ?_) (fun _ => ?_))
        | (with_reducible refine wd_t (fun _ => ?_) (fun _ => ?_))
      all_goals first | (exfalso; omega) | simp [get, g8, g0, g2]
  rintro t h ⟨rfl, g8, g0, g2⟩
  have hB := hbeg y (by omega) (by omega)
  repeat' first
    | ((with_reducible refine wr_isCall ?_); refine wr_P hB rfl ?_)
    | (with_reducible refine t_seq ?_)
    | (with_reducible refine t_skip ?_)
    | (with_reducible refine t_ret ?_)
    | (with_reducible refine t_end ?_)
    | (with_reducible refine t_cond ?_)
    | (with_reducible refine t_region ?_)
    | (with_reducible refine wr_done ?_)
    | ((with_reducible refine t_isDraw ?_); refine t_draw rfl (by kernel_rfl) ?_)
    | (with_reducible refine WD.done _ ?_)
    | (with_reducible refine wdp_done ?_)
    | (with_reducible refine tr_some ?_)
    | ((fail_if_success with_reducible refine t_bl ?_); (with_reducible refine t_block ?_))
    | (with_reducible refine t_inBlock ?_)
    | ((with_reducible refine t_isExit ?_); refine t_exit rfl ?_)
    | simp only [decide_eq_true_eq, decide_eq_false_iff_not, Bool.not_eq_true', Bool.not_eq_false'] at *
    | simp (disch := omega) only [go_sem, Nat.reduceLT, Nat.reduceEqDiff, Nat.reduceAdd, Nat.reduceLeDiff, Nat.reduceMul, Int.reduceLT, Int.reduceLE, Int.reduceAdd, Int.reduceSub, Int.reduceNeg, Int.reduceToNat, Int.reduceBEq, Int.reduceEq, reduceCtorEq, List.take_succ_cons, List.take_zero, List.take_nil, List.drop_succ_cons, List.drop_nil, List.cons_append, List.nil_append, List.set_cons_zero, List.set_cons_succ, ↓reduceIte, *]
    | (with_reducible refine tb_true ?_)
    | (with_reducible refine tb_false ?_)
    | (with_reducible refine tb_split (fun _ => ?_) (fun _ => ?_))
    | (with_reducible refine wg_f (fun _ => ?_) (fun _ => ?_))
    | (with_reducible refine wg_t (fun _ => ?_) (fun _ => ?_))
    | (with_reducible refine wd_f (fun _ => ?_) (fun _ => ?_))
    | (with_reducible refine wd_t (fun _ => ?_) (fun _ => ?_))
  refine t_while (I := fun (i : Nat) t h => i ≤ mo ∧ h = ⟨[(0, .rows 3 [[.i .i64 0, .i .i64 0, .i .i64 0]])], 1⟩ ∧ get t 8 = .i .i64 y ∧ get t 10 = .i .i64 (i + 1) ∧ get t 9 = .i .i64 (day - bg y - bf i) ∧ get t 2 = .ptr 0 0 0) (m := fun i => mo - i)
    (J := fun t h => h = ⟨[(0, .rows 3 [[.i .i64 0, .i .i64 0, .i .i64 0]])], 1⟩ ∧ get t 8 = .i .i64 y ∧ get t 10 = .i .i64 (mo + 1) ∧ get t 9 = .i .i64 (day - bg y - bf mo) ∧ get t 2 = .ptr 0 0 0) 0 ⟨by omega, rfl, by simp [get, g8], by simp [get], by simp [get, hb0], by simp [get, g2]⟩ ?_ ?_
  · rintro i t h ⟨hi, rfl, g8, g10, g9, g2⟩ hrec hex
    have hL := hlen y (i + 1)
    have e1 := hbs i (by omega)
    have e2 := hbb i
    have e3 := hbb (i + 1)
    by_cases hc : len y (i + 1) < day - bg y - bf i
    · have him : i < mo := by
        rcases Nat.lt_or_ge i mo with q | q
        · exact q
        · have : i = mo := by omega
          subst this; omega
      repeat' first
        | ((with_reducible refine wr_isCall ?_); refine wr_P hL rfl ?_)
        | (with_reducible refine t_seq ?_)
        | (with_reducible refine t_skip ?_)
        | (with_reducible refine t_ret ?_)
        | (with_reducible refine t_end ?_)
        | (with_reducible refine t_cond ?_)
        | (with_reducible refine t_region ?_)
        | (with_reducible refine wr_done ?_)
        | ((with_reducible refine t_isDraw ?_); refine t_draw rfl (by kernel_rfl) ?_)
        | (with_reducible refine WD.done _ ?_)
        | (with_reducible refine wdp_done ?_)
        | (with_reducible refine tr_some ?_)
        | ((fail_if_success with_reducible refine t_bl ?_); (with_reducible refine t_block ?_))
        | (with_reducible refine t_inBlock ?_)
        | ((with_reducible refine t_isExit ?_); refine t_exit rfl ?_)
        | simp only [decide_eq_true_eq, decide_eq_false_iff_not, Bool.not_eq_true', Bool.not_eq_false'] at *
        | simp (disch := omega) only [go_sem, Nat.reduceLT, Nat.reduceEqDiff, Nat.reduceAdd, Nat.reduceLeDiff, Nat.reduceMul, Int.reduceLT, Int.reduceLE, Int.reduceAdd, Int.reduceSub, Int.reduceNeg, Int.reduceToNat, Int.reduceBEq, Int.reduceEq, reduceCtorEq, List.take_succ_cons, List.take_zero, List.take_nil, List.drop_succ_cons, List.drop_nil, List.cons_append, List.nil_append, List.set_cons_zero, List.set_cons_succ, ↓reduceIte, *]
        | (with_reducible refine tb_true ?_)
        | (with_reducible refine tb_false ?_)
        | (with_reducible refine tb_split (fun _ => ?_) (fun _ => ?_))
        | (with_reducible refine wg_f (fun _ => ?_) (fun _ => ?_))
        | (with_reducible refine wg_t (fun _ => ?_) (fun _ => ?_))
        | (with_reducible refine wd_f (fun _ => ?_) (fun _ => ?_))
        | (with_reducible refine wd_t (fun _ => ?_) (fun _ => ?_))
      all_goals first | (exfalso; omega) | skip
      exact hrec (i + 1) _ _ ⟨by omega, rfl, by simp [get, g8], by simp [get], by simp [get]; omega, by simp [get, g2]⟩ (by omega)
    · have him : i = mo := by
        rcases Nat.lt_or_ge i mo with q | q
        · have := hbm (i + 1) q; omega
        · omega
      subst him
      repeat' first
        | ((with_reducible refine wr_isCall ?_); refine wr_P hL rfl ?_)
        | refine hex _ _ ?_
        | (with_reducible refine t_seq ?_)
        | (with_reducible refine t_skip ?_)
        | (with_reducible refine t_ret ?_)
        | (with_reducible refine t_end ?_)
        | (with_reducible refine t_cond ?_)
        | (with_reducible refine t_region ?_)
        | (with_reducible refine wr_done ?_)
        | ((with_reducible refine t_isDraw ?_); refine t_draw rfl (by kernel_rfl) ?_)
        | (with_reducible refine WD.done _ ?_)
        | (with_reducible refine wdp_done ?_)
        | (with_reducible refine tr_some ?_)
        | ((fail_if_success with_reducible refine t_bl ?_); (with_reducible refine t_block ?_))
        | (with_reducible refine t_inBlock ?_)
        | ((with_reducible refine t_isExit ?_); refine t_exit rfl ?_)
        | simp only [decide_eq_true_eq, decide_eq_false_iff_not, Bool.not_eq_true', Bool.not_eq_false'] at *
        | simp (disch := omega) only [go_sem, Nat.reduceLT, Nat.reduceEqDiff, Nat.reduceAdd, Nat.reduceLeDiff, Nat.reduceMul, Int.reduceLT, Int.reduceLE, Int.reduceAdd, Int.reduceSub, Int.reduceNeg, Int.reduceToNat, Int.reduceBEq, Int.reduceEq, reduceCtorEq, List.take_succ_cons, List.take_zero, List.take_nil, List.drop_succ_cons, List.drop_nil, List.cons_append, List.nil_append, List.set_cons_zero, List.set_cons_succ, ↓reduceIte, *]
        | (with_reducible refine tb_true ?_)
        | (with_reducible refine tb_false ?_)
        | (with_reducible refine tb_split (fun _ => ?_) (fun _ => ?_))
        | (with_reducible refine wg_f (fun _ => ?_) (fun _ => ?_))
        | (with_reducible refine wg_t (fun _ => ?_) (fun _ => ?_))
        | (with_reducible refine wd_f (fun _ => ?_) (fun _ => ?_))
        | (with_reducible refine wd_t (fun _ => ?_) (fun _ => ?_))
      all_goals first | (exfalso; omega) | simp [get, g8, g10, g9, g2]
  rintro t h ⟨rfl, g8, g10, g9, g2⟩
  repeat' first
    | (with_reducible refine t_seq ?_)
    | (with_reducible refine t_skip ?_)
    | (with_reducible refine t_ret ?_)
    | (with_reducible refine t_end ?_)
    | (with_reducible refine t_cond ?_)
    | (with_reducible refine t_region ?_)
    | (with_reducible refine wr_done ?_)
    | ((with_reducible refine t_isDraw ?_); refine t_draw rfl (by kernel_rfl) ?_)
    | (with_reducible refine WD.done _ ?_)
    | (with_reducible refine wdp_done ?_)
    | (with_reducible refine tr_some ?_)
    | ((fail_if_success with_reducible refine t_bl ?_); (with_reducible refine t_block ?_))
    | (with_reducible refine t_inBlock ?_)
    | ((with_reducible refine t_isExit ?_); refine t_exit rfl ?_)
    | simp only [decide_eq_true_eq, decide_eq_false_iff_not, Bool.not_eq_true', Bool.not_eq_false'] at *
    | simp (disch := omega) only [go_sem, Nat.reduceLT, Nat.reduceEqDiff, Nat.reduceAdd, Nat.reduceLeDiff, Nat.reduceMul, Int.reduceLT, Int.reduceLE, Int.reduceAdd, Int.reduceSub, Int.reduceNeg, Int.reduceToNat, Int.reduceBEq, Int.reduceEq, reduceCtorEq, List.take_succ_cons, List.take_zero, List.take_nil, List.drop_succ_cons, List.drop_nil, List.cons_append, List.nil_append, List.set_cons_zero, List.set_cons_succ, ↓reduceIte, *]
    | (with_reducible refine tb_true ?_)
    | (with_reducible refine tb_false ?_)
    | (with_reducible refine tb_split (fun _ => ?_) (fun _ => ?_))
    | (with_reducible refine wg_f (fun _ => ?_) (fun _ => ?_))
    | (with_reducible refine wg_t (fun _ => ?_) (fun _ => ?_))
    | (with_reducible refine wd_f (fun _ => ?_) (fun _ => ?_))
    | (with_reducible refine wd_t (fun _ => ?_) (fun _ => ?_))
  exact ⟨rfl, rfl⟩
end Go.Proofs.YtdkifonomakcbaaGreatDoorA
