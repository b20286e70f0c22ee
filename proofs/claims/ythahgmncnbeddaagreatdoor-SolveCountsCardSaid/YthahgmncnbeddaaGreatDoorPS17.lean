/- feast.Check: kinds without kids. -/
import Derived.Test.YthahgmncnbeddaaGreatDoorPS16
set_option linter.unusedVariables false
set_option linter.unusedSimpArgs false
namespace Go.Proofs.YthahgmncnbeddaaGreatDoorA
open Go Go.RowKit Go.Proofs.YthahgmncnbeddaaGreatDoorFx Go.Proofs
attribute [local go_sem] List.take_succ_cons List.take_zero List.take_nil List.drop_succ_cons List.drop_nil List.cons_append List.nil_append List.set_cons_zero List.set_cons_succ
variable {m : Int} {a b : Int} {nm : List UInt8}
set_option maxRecDepth 100000 in
set_option maxHeartbeats 8000000 in
theorem ckL1 {d ab q : Int} (h1 : 1 ≤ d) (h2 : d ≤ 10) (h3 : 0 ≤ q) (h4 : q ≤ 39) : ∃ e : Int, (e = 0 → (Fs.leaf 1 a b nm).st m ab) ∧ ((Fs.leaf 1 a b nm).st m ab → e = 0) ∧ ∀ (c : List (Nat × Ent)) (id n : Nat), look c id = some (.rows 1 [[.i .i64 q]]) → id < n →
    MeetsH (EG (glF m)) 34 [.ptr id 0 0, .agg [.i .i64 1, .i .i64 a, .i .i64 b, .s nm, .isl false 5 []], .i .i64 d, .i .i64 ab] ⟨c, n⟩ (RetG (.i .i64 e) (upd c id (.rows 1 [[.i .i64 (q + 1)]])) n) := by
  have hv := heavyP (m := m) 1
  rw [show (decide ((1 : Int) = 8) || decide ((1 : Int) = 12)) = false by decide] at hv
  have hkid : fkT[1]? = some (.i .i64 0) := rfl
  have c1 : ¬ 40 < q + 1 := by omega
  have c2 : ¬ 10 < d := by omega
  clear h1 h2 h4
  have hst : (Fs.leaf 1 a b nm).st m ab ↔ (meF m nm = 0 ∧ 1 ≤ a ∧ a ≤ mnF m nm ∧ 1 ≤ b ∧ b ≤ 400) := by simp [Fs.st]
  have hmo := weakP (glF_of m) (monF_ok m nm).1
  generalize mnF m nm = mn at *
  generalize meF m nm = me at *
  by_cases fm : me = 0
  case neg =>
    refine ⟨5, (fun h => absurd h (by decide)), (fun h => absurd (hst.1 h).1 fm), fun c id n hl hid => grow_forget ?_⟩
    clear hst
    have hu : ∀ k l, look (upd c id (.rows k l)) id = some (.rows k l) := fun k l => look_updR k l hl
    have hne : ¬ n = id := by omega
    refine meetsH (E := (EG (glF m))) 280 [.tmp 8] Tryz.func34 rfl (by decide) rfl rfl (by simp) ?_
    repeat' first | ((with_reducible refine wr_isCall ?_); first | refine wr_P hv rfl ?_ | refine wr_P hmo rfl ?_) | (with_reducible first | refine t_seq ?_ | refine t_skip ?_ | refine t_ret ?_ | refine t_end ?_ | refine t_cond ?_ | refine t_region ?_ | refine wr_done ?_ | refine WD.done _ ?_ | refine wdp_done ?_ | refine wdg_done ?_ | refine tr_some ?_ | refine t_block ?_ | refine t_loop ?_ | refine t_inLoop ?_ | refine t_inBlock ?_) | ((with_reducible refine t_isDraw ?_); refine t_draw rfl (by kernel_rfl) ?_) | ((with_reducible refine t_isExit ?_); refine t_exit rfl ?_) | simp only [decide_eq_true_eq, decide_eq_false_iff_not, Bool.not_eq_true', Bool.not_eq_false'] at * | simp (disch := omega) only [go_sem, Nat.reduceLT, Nat.reduceEqDiff, Nat.reduceAdd, Nat.reduceLeDiff, Nat.reduceMul, Int.reduceLT, Int.reduceLE, Int.reduceAdd, Int.reduceSub, Int.reduceNeg, Int.reduceToNat, Int.reduceBEq, Int.reduceEq, reduceCtorEq, ↓reduceIte, *] | (with_reducible first | refine tb_true ?_ | refine tb_false ?_) | ((with_reducible first | refine tb_split ?_ ?_ | refine wg_f ?_ ?_ | refine wg_t ?_ ?_ | refine wd_f ?_ ?_ | refine wd_t ?_ ?_) <;> intro _)
    all_goals first | (exfalso; omega) | exact ⟨1, rfl, by simp only; omega⟩
  subst fm
  by_cases f1 : 1 ≤ a
  case neg =>
    refine ⟨3, (fun h => absurd h (by decide)), (fun h => absurd (hst.1 h).2.1 f1), fun c id n hl hid => grow_forget ?_⟩
    clear hst
    have hu : ∀ k l, look (upd c id (.rows k l)) id = some (.rows k l) := fun k l => look_updR k l hl
    have hne : ¬ n = id := by omega
    refine meetsH (E := (EG (glF m))) 280 [.tmp 8] Tryz.func34 rfl (by decide) rfl rfl (by simp) ?_
    repeat' first | ((with_reducible refine wr_isCall ?_); first | refine wr_P hv rfl ?_ | refine wr_P hmo rfl ?_) | (with_reducible first | refine t_seq ?_ | refine t_skip ?_ | refine t_ret ?_ | refine t_end ?_ | refine t_cond ?_ | refine t_region ?_ | refine wr_done ?_ | refine WD.done _ ?_ | refine wdp_done ?_ | refine wdg_done ?_ | refine tr_some ?_ | refine t_block ?_ | refine t_loop ?_ | refine t_inLoop ?_ | refine t_inBlock ?_) | ((with_reducible refine t_isDraw ?_); refine t_draw rfl (by kernel_rfl) ?_) | ((with_reducible refine t_isExit ?_); refine t_exit rfl ?_) | simp only [decide_eq_true_eq, decide_eq_false_iff_not, Bool.not_eq_true', Bool.not_eq_false'] at * | simp (disch := omega) only [go_sem, Nat.reduceLT, Nat.reduceEqDiff, Nat.reduceAdd, Nat.reduceLeDiff, Nat.reduceMul, Int.reduceLT, Int.reduceLE, Int.reduceAdd, Int.reduceSub, Int.reduceNeg, Int.reduceToNat, Int.reduceBEq, Int.reduceEq, reduceCtorEq, ↓reduceIte, *] | (with_reducible first | refine tb_true ?_ | refine tb_false ?_) | ((with_reducible first | refine tb_split ?_ ?_ | refine wg_f ?_ ?_ | refine wg_t ?_ ?_ | refine wd_f ?_ ?_ | refine wd_t ?_ ?_) <;> intro _)
    all_goals first | (exfalso; omega) | exact ⟨1, rfl, by simp only; omega⟩
  by_cases f2 : a ≤ mn
  case neg =>
    refine ⟨3, (fun h => absurd h (by decide)), (fun h => absurd (hst.1 h).2.2.1 f2), fun c id n hl hid => grow_forget ?_⟩
    clear hst
    have hu : ∀ k l, look (upd c id (.rows k l)) id = some (.rows k l) := fun k l => look_updR k l hl
    have hne : ¬ n = id := by omega
    refine meetsH (E := (EG (glF m))) 280 [.tmp 8] Tryz.func34 rfl (by decide) rfl rfl (by simp) ?_
    repeat' first | ((with_reducible refine wr_isCall ?_); first | refine wr_P hv rfl ?_ | refine wr_P hmo rfl ?_) | (with_reducible first | refine t_seq ?_ | refine t_skip ?_ | refine t_ret ?_ | refine t_end ?_ | refine t_cond ?_ | refine t_region ?_ | refine wr_done ?_ | refine WD.done _ ?_ | refine wdp_done ?_ | refine wdg_done ?_ | refine tr_some ?_ | refine t_block ?_ | refine t_loop ?_ | refine t_inLoop ?_ | refine t_inBlock ?_) | ((with_reducible refine t_isDraw ?_); refine t_draw rfl (by kernel_rfl) ?_) | ((with_reducible refine t_isExit ?_); refine t_exit rfl ?_) | simp only [decide_eq_true_eq, decide_eq_false_iff_not, Bool.not_eq_true', Bool.not_eq_false'] at * | simp (disch := omega) only [go_sem, Nat.reduceLT, Nat.reduceEqDiff, Nat.reduceAdd, Nat.reduceLeDiff, Nat.reduceMul, Int.reduceLT, Int.reduceLE, Int.reduceAdd, Int.reduceSub, Int.reduceNeg, Int.reduceToNat, Int.reduceBEq, Int.reduceEq, reduceCtorEq, ↓reduceIte, *] | (with_reducible first | refine tb_true ?_ | refine tb_false ?_) | ((with_reducible first | refine tb_split ?_ ?_ | refine wg_f ?_ ?_ | refine wg_t ?_ ?_ | refine wd_f ?_ ?_ | refine wd_t ?_ ?_) <;> intro _)
    all_goals first | (exfalso; omega) | exact ⟨1, rfl, by simp only; omega⟩
  by_cases f3 : 1 ≤ b
  case neg =>
    refine ⟨3, (fun h => absurd h (by decide)), (fun h => absurd (hst.1 h).2.2.2.1 f3), fun c id n hl hid => grow_forget ?_⟩
    clear hst
    have hu : ∀ k l, look (upd c id (.rows k l)) id = some (.rows k l) := fun k l => look_updR k l hl
    have hne : ¬ n = id := by omega
    refine meetsH (E := (EG (glF m))) 280 [.tmp 8] Tryz.func34 rfl (by decide) rfl rfl (by simp) ?_
    repeat' first | ((with_reducible refine wr_isCall ?_); first | refine wr_P hv rfl ?_ | refine wr_P hmo rfl ?_) | (with_reducible first | refine t_seq ?_ | refine t_skip ?_ | refine t_ret ?_ | refine t_end ?_ | refine t_cond ?_ | refine t_region ?_ | refine wr_done ?_ | refine WD.done _ ?_ | refine wdp_done ?_ | refine wdg_done ?_ | refine tr_some ?_ | refine t_block ?_ | refine t_loop ?_ | refine t_inLoop ?_ | refine t_inBlock ?_) | ((with_reducible refine t_isDraw ?_); refine t_draw rfl (by kernel_rfl) ?_) | ((with_reducible refine t_isExit ?_); refine t_exit rfl ?_) | simp only [decide_eq_true_eq, decide_eq_false_iff_not, Bool.not_eq_true', Bool.not_eq_false'] at * | simp (disch := omega) only [go_sem, Nat.reduceLT, Nat.reduceEqDiff, Nat.reduceAdd, Nat.reduceLeDiff, Nat.reduceMul, Int.reduceLT, Int.reduceLE, Int.reduceAdd, Int.reduceSub, Int.reduceNeg, Int.reduceToNat, Int.reduceBEq, Int.reduceEq, reduceCtorEq, ↓reduceIte, *] | (with_reducible first | refine tb_true ?_ | refine tb_false ?_) | ((with_reducible first | refine tb_split ?_ ?_ | refine wg_f ?_ ?_ | refine wg_t ?_ ?_ | refine wd_f ?_ ?_ | refine wd_t ?_ ?_) <;> intro _)
    all_goals first | (exfalso; omega) | exact ⟨1, rfl, by simp only; omega⟩
  by_cases f4 : b ≤ 400
  case neg =>
    refine ⟨3, (fun h => absurd h (by decide)), (fun h => absurd (hst.1 h).2.2.2.2 f4), fun c id n hl hid => grow_forget ?_⟩
    clear hst
    have hu : ∀ k l, look (upd c id (.rows k l)) id = some (.rows k l) := fun k l => look_updR k l hl
    have hne : ¬ n = id := by omega
    refine meetsH (E := (EG (glF m))) 280 [.tmp 8] Tryz.func34 rfl (by decide) rfl rfl (by simp) ?_
    repeat' first | ((with_reducible refine wr_isCall ?_); first | refine wr_P hv rfl ?_ | refine wr_P hmo rfl ?_) | (with_reducible first | refine t_seq ?_ | refine t_skip ?_ | refine t_ret ?_ | refine t_end ?_ | refine t_cond ?_ | refine t_region ?_ | refine wr_done ?_ | refine WD.done _ ?_ | refine wdp_done ?_ | refine wdg_done ?_ | refine tr_some ?_ | refine t_block ?_ | refine t_loop ?_ | refine t_inLoop ?_ | refine t_inBlock ?_) | ((with_reducible refine t_isDraw ?_); refine t_draw rfl (by kernel_rfl) ?_) | ((with_reducible refine t_isExit ?_); refine t_exit rfl ?_) | simp only [decide_eq_true_eq, decide_eq_false_iff_not, Bool.not_eq_true', Bool.not_eq_false'] at * | simp (disch := omega) only [go_sem, Nat.reduceLT, Nat.reduceEqDiff, Nat.reduceAdd, Nat.reduceLeDiff, Nat.reduceMul, Int.reduceLT, Int.reduceLE, Int.reduceAdd, Int.reduceSub, Int.reduceNeg, Int.reduceToNat, Int.reduceBEq, Int.reduceEq, reduceCtorEq, ↓reduceIte, *] | (with_reducible first | refine tb_true ?_ | refine tb_false ?_) | ((with_reducible first | refine tb_split ?_ ?_ | refine wg_f ?_ ?_ | refine wg_t ?_ ?_ | refine wd_f ?_ ?_ | refine wd_t ?_ ?_) <;> intro _)
    all_goals first | (exfalso; omega) | exact ⟨1, rfl, by simp only; omega⟩
  · refine ⟨0, (fun _ => hst.2 ⟨rfl, f1, f2, f3, f4⟩), (fun _ => rfl), fun c id n hl hid => grow_forget ?_⟩
    clear hst
    have hu : ∀ k l, look (upd c id (.rows k l)) id = some (.rows k l) := fun k l => look_updR k l hl
    have hne : ¬ n = id := by omega
    refine meetsH (E := (EG (glF m))) 280 [.tmp 8] Tryz.func34 rfl (by decide) rfl rfl (by simp) ?_
    repeat' first | ((with_reducible refine wr_isCall ?_); first | refine wr_P hv rfl ?_ | refine wr_P hmo rfl ?_) | (with_reducible first | refine t_seq ?_ | refine t_skip ?_ | refine t_ret ?_ | refine t_end ?_ | refine t_cond ?_ | refine t_region ?_ | refine wr_done ?_ | refine WD.done _ ?_ | refine wdp_done ?_ | refine wdg_done ?_ | refine tr_some ?_ | refine t_block ?_ | refine t_loop ?_ | refine t_inLoop ?_ | refine t_inBlock ?_) | ((with_reducible refine t_isDraw ?_); refine t_draw rfl (by kernel_rfl) ?_) | ((with_reducible refine t_isExit ?_); refine t_exit rfl ?_) | simp only [decide_eq_true_eq, decide_eq_false_iff_not, Bool.not_eq_true', Bool.not_eq_false'] at * | simp (disch := omega) only [go_sem, Nat.reduceLT, Nat.reduceEqDiff, Nat.reduceAdd, Nat.reduceLeDiff, Nat.reduceMul, Int.reduceLT, Int.reduceLE, Int.reduceAdd, Int.reduceSub, Int.reduceNeg, Int.reduceToNat, Int.reduceBEq, Int.reduceEq, reduceCtorEq, ↓reduceIte, *] | (with_reducible first | refine tb_true ?_ | refine tb_false ?_) | ((with_reducible first | refine tb_split ?_ ?_ | refine wg_f ?_ ?_ | refine wg_t ?_ ?_ | refine wd_f ?_ ?_ | refine wd_t ?_ ?_) <;> intro _)
    all_goals first | (exfalso; omega) | exact ⟨1, rfl, by simp only; omega⟩
set_option maxRecDepth 100000 in
set_option maxHeartbeats 8000000 in
theorem ckL2 {d ab q : Int} (h1 : 1 ≤ d) (h2 : d ≤ 10) (h3 : 0 ≤ q) (h4 : q ≤ 39) : ∃ e : Int, (e = 0 → (Fs.leaf 2 a b nm).st m ab) ∧ ((Fs.leaf 2 a b nm).st m ab → e = 0) ∧ ∀ (c : List (Nat × Ent)) (id n : Nat), look c id = some (.rows 1 [[.i .i64 q]]) → id < n →
    MeetsH (EG (glF m)) 34 [.ptr id 0 0, .agg [.i .i64 2, .i .i64 a, .i .i64 b, .s nm, .isl false 5 []], .i .i64 d, .i .i64 ab] ⟨c, n⟩ (RetG (.i .i64 e) (upd c id (.rows 1 [[.i .i64 (q + 1)]])) n) := by
  have hv := heavyP (m := m) 2
  rw [show (decide ((2 : Int) = 8) || decide ((2 : Int) = 12)) = false by decide] at hv
  have hkid : fkT[2]? = some (.i .i64 0) := rfl
  have c1 : ¬ 40 < q + 1 := by omega
  have c2 : ¬ 10 < d := by omega
  clear h1 h2 h4
  have hst : (Fs.leaf 2 a b nm).st m ab ↔ (b = 0 ∧ meF m nm = 0 ∧ 1 ≤ a ∧ a ≤ mnF m nm) := by simp [Fs.st]
  have hmo := weakP (glF_of m) (monF_ok m nm).1
  generalize mnF m nm = mn at *
  generalize meF m nm = me at *
  by_cases f1 : b = 0
  case neg =>
    refine ⟨8, (fun h => absurd h (by decide)), (fun h => absurd (hst.1 h).1 f1), fun c id n hl hid => grow_forget ?_⟩
    clear hst
    have hu : ∀ k l, look (upd c id (.rows k l)) id = some (.rows k l) := fun k l => look_updR k l hl
    have hne : ¬ n = id := by omega
    refine meetsH (E := (EG (glF m))) 280 [.tmp 8] Tryz.func34 rfl (by decide) rfl rfl (by simp) ?_
    repeat' first | ((with_reducible refine wr_isCall ?_); first | refine wr_P hv rfl ?_ | refine wr_P hmo rfl ?_) | (with_reducible first | refine t_seq ?_ | refine t_skip ?_ | refine t_ret ?_ | refine t_end ?_ | refine t_cond ?_ | refine t_region ?_ | refine wr_done ?_ | refine WD.done _ ?_ | refine wdp_done ?_ | refine wdg_done ?_ | refine tr_some ?_ | refine t_block ?_ | refine t_loop ?_ | refine t_inLoop ?_ | refine t_inBlock ?_) | ((with_reducible refine t_isDraw ?_); refine t_draw rfl (by kernel_rfl) ?_) | ((with_reducible refine t_isExit ?_); refine t_exit rfl ?_) | simp only [decide_eq_true_eq, decide_eq_false_iff_not, Bool.not_eq_true', Bool.not_eq_false'] at * | simp (disch := omega) only [go_sem, Nat.reduceLT, Nat.reduceEqDiff, Nat.reduceAdd, Nat.reduceLeDiff, Nat.reduceMul, Int.reduceLT, Int.reduceLE, Int.reduceAdd, Int.reduceSub, Int.reduceNeg, Int.reduceToNat, Int.reduceBEq, Int.reduceEq, reduceCtorEq, ↓reduceIte, *] | (with_reducible first | refine tb_true ?_ | refine tb_false ?_) | ((with_reducible first | refine tb_split ?_ ?_ | refine wg_f ?_ ?_ | refine wg_t ?_ ?_ | refine wd_f ?_ ?_ | refine wd_t ?_ ?_) <;> intro _)
    all_goals first | (exfalso; omega) | exact ⟨1, rfl, by simp only; omega⟩
  by_cases fm : me = 0
  case neg =>
    refine ⟨5, (fun h => absurd h (by decide)), (fun h => absurd (hst.1 h).2.1 fm), fun c id n hl hid => grow_forget ?_⟩
    clear hst
    have hu : ∀ k l, look (upd c id (.rows k l)) id = some (.rows k l) := fun k l => look_updR k l hl
    have hne : ¬ n = id := by omega
    refine meetsH (E := (EG (glF m))) 280 [.tmp 8] Tryz.func34 rfl (by decide) rfl rfl (by simp) ?_
    repeat' first | ((with_reducible refine wr_isCall ?_); first | refine wr_P hv rfl ?_ | refine wr_P hmo rfl ?_) | (with_reducible first | refine t_seq ?_ | refine t_skip ?_ | refine t_ret ?_ | refine t_end ?_ | refine t_cond ?_ | refine t_region ?_ | refine wr_done ?_ | refine WD.done _ ?_ | refine wdp_done ?_ | refine wdg_done ?_ | refine tr_some ?_ | refine t_block ?_ | refine t_loop ?_ | refine t_inLoop ?_ | refine t_inBlock ?_) | ((with_reducible refine t_isDraw ?_); refine t_draw rfl (by kernel_rfl) ?_) | ((with_reducible refine t_isExit ?_); refine t_exit rfl ?_) | simp only [decide_eq_true_eq, decide_eq_false_iff_not, Bool.not_eq_true', Bool.not_eq_false'] at * | simp (disch := omega) only [go_sem, Nat.reduceLT, Nat.reduceEqDiff, Nat.reduceAdd, Nat.reduceLeDiff, Nat.reduceMul, Int.reduceLT, Int.reduceLE, Int.reduceAdd, Int.reduceSub, Int.reduceNeg, Int.reduceToNat, Int.reduceBEq, Int.reduceEq, reduceCtorEq, ↓reduceIte, *] | (with_reducible first | refine tb_true ?_ | refine tb_false ?_) | ((with_reducible first | refine tb_split ?_ ?_ | refine wg_f ?_ ?_ | refine wg_t ?_ ?_ | refine wd_f ?_ ?_ | refine wd_t ?_ ?_) <;> intro _)
    all_goals first | (exfalso; omega) | exact ⟨1, rfl, by simp only; omega⟩
  subst fm
  by_cases f2 : 1 ≤ a
  case neg =>
    refine ⟨3, (fun h => absurd h (by decide)), (fun h => absurd (hst.1 h).2.2.1 f2), fun c id n hl hid => grow_forget ?_⟩
    clear hst
    have hu : ∀ k l, look (upd c id (.rows k l)) id = some (.rows k l) := fun k l => look_updR k l hl
    have hne : ¬ n = id := by omega
    refine meetsH (E := (EG (glF m))) 280 [.tmp 8] Tryz.func34 rfl (by decide) rfl rfl (by simp) ?_
    repeat' first | ((with_reducible refine wr_isCall ?_); first | refine wr_P hv rfl ?_ | refine wr_P hmo rfl ?_) | (with_reducible first | refine t_seq ?_ | refine t_skip ?_ | refine t_ret ?_ | refine t_end ?_ | refine t_cond ?_ | refine t_region ?_ | refine wr_done ?_ | refine WD.done _ ?_ | refine wdp_done ?_ | refine wdg_done ?_ | refine tr_some ?_ | refine t_block ?_ | refine t_loop ?_ | refine t_inLoop ?_ | refine t_inBlock ?_) | ((with_reducible refine t_isDraw ?_); refine t_draw rfl (by kernel_rfl) ?_) | ((with_reducible refine t_isExit ?_); refine t_exit rfl ?_) | simp only [decide_eq_true_eq, decide_eq_false_iff_not, Bool.not_eq_true', Bool.not_eq_false'] at * | simp (disch := omega) only [go_sem, Nat.reduceLT, Nat.reduceEqDiff, Nat.reduceAdd, Nat.reduceLeDiff, Nat.reduceMul, Int.reduceLT, Int.reduceLE, Int.reduceAdd, Int.reduceSub, Int.reduceNeg, Int.reduceToNat, Int.reduceBEq, Int.reduceEq, reduceCtorEq, ↓reduceIte, *] | (with_reducible first | refine tb_true ?_ | refine tb_false ?_) | ((with_reducible first | refine tb_split ?_ ?_ | refine wg_f ?_ ?_ | refine wg_t ?_ ?_ | refine wd_f ?_ ?_ | refine wd_t ?_ ?_) <;> intro _)
    all_goals first | (exfalso; omega) | exact ⟨1, rfl, by simp only; omega⟩
  by_cases f3 : a ≤ mn
  case neg =>
    refine ⟨3, (fun h => absurd h (by decide)), (fun h => absurd (hst.1 h).2.2.2 f3), fun c id n hl hid => grow_forget ?_⟩
    clear hst
    have hu : ∀ k l, look (upd c id (.rows k l)) id = some (.rows k l) := fun k l => look_updR k l hl
    have hne : ¬ n = id := by omega
    refine meetsH (E := (EG (glF m))) 280 [.tmp 8] Tryz.func34 rfl (by decide) rfl rfl (by simp) ?_
    repeat' first | ((with_reducible refine wr_isCall ?_); first | refine wr_P hv rfl ?_ | refine wr_P hmo rfl ?_) | (with_reducible first | refine t_seq ?_ | refine t_skip ?_ | refine t_ret ?_ | refine t_end ?_ | refine t_cond ?_ | refine t_region ?_ | refine wr_done ?_ | refine WD.done _ ?_ | refine wdp_done ?_ | refine wdg_done ?_ | refine tr_some ?_ | refine t_block ?_ | refine t_loop ?_ | refine t_inLoop ?_ | refine t_inBlock ?_) | ((with_reducible refine t_isDraw ?_); refine t_draw rfl (by kernel_rfl) ?_) | ((with_reducible refine t_isExit ?_); refine t_exit rfl ?_) | simp only [decide_eq_true_eq, decide_eq_false_iff_not, Bool.not_eq_true', Bool.not_eq_false'] at * | simp (disch := omega) only [go_sem, Nat.reduceLT, Nat.reduceEqDiff, Nat.reduceAdd, Nat.reduceLeDiff, Nat.reduceMul, Int.reduceLT, Int.reduceLE, Int.reduceAdd, Int.reduceSub, Int.reduceNeg, Int.reduceToNat, Int.reduceBEq, Int.reduceEq, reduceCtorEq, ↓reduceIte, *] | (with_reducible first | refine tb_true ?_ | refine tb_false ?_) | ((with_reducible first | refine tb_split ?_ ?_ | refine wg_f ?_ ?_ | refine wg_t ?_ ?_ | refine wd_f ?_ ?_ | refine wd_t ?_ ?_) <;> intro _)
    all_goals first | (exfalso; omega) | exact ⟨1, rfl, by simp only; omega⟩
  · refine ⟨0, (fun _ => hst.2 ⟨f1, rfl, f2, f3⟩), (fun _ => rfl), fun c id n hl hid => grow_forget ?_⟩
    clear hst
    have hu : ∀ k l, look (upd c id (.rows k l)) id = some (.rows k l) := fun k l => look_updR k l hl
    have hne : ¬ n = id := by omega
    refine meetsH (E := (EG (glF m))) 280 [.tmp 8] Tryz.func34 rfl (by decide) rfl rfl (by simp) ?_
    repeat' first | ((with_reducible refine wr_isCall ?_); first | refine wr_P hv rfl ?_ | refine wr_P hmo rfl ?_) | (with_reducible first | refine t_seq ?_ | refine t_skip ?_ | refine t_ret ?_ | refine t_end ?_ | refine t_cond ?_ | refine t_region ?_ | refine wr_done ?_ | refine WD.done _ ?_ | refine wdp_done ?_ | refine wdg_done ?_ | refine tr_some ?_ | refine t_block ?_ | refine t_loop ?_ | refine t_inLoop ?_ | refine t_inBlock ?_) | ((with_reducible refine t_isDraw ?_); refine t_draw rfl (by kernel_rfl) ?_) | ((with_reducible refine t_isExit ?_); refine t_exit rfl ?_) | simp only [decide_eq_true_eq, decide_eq_false_iff_not, Bool.not_eq_true', Bool.not_eq_false'] at * | simp (disch := omega) only [go_sem, Nat.reduceLT, Nat.reduceEqDiff, Nat.reduceAdd, Nat.reduceLeDiff, Nat.reduceMul, Int.reduceLT, Int.reduceLE, Int.reduceAdd, Int.reduceSub, Int.reduceNeg, Int.reduceToNat, Int.reduceBEq, Int.reduceEq, reduceCtorEq, ↓reduceIte, *] | (with_reducible first | refine tb_true ?_ | refine tb_false ?_) | ((with_reducible first | refine tb_split ?_ ?_ | refine wg_f ?_ ?_ | refine wg_t ?_ ?_ | refine wd_f ?_ ?_ | refine wd_t ?_ ?_) <;> intro _)
    all_goals first | (exfalso; omega) | exact ⟨1, rfl, by simp only; omega⟩
set_option maxRecDepth 100000 in
set_option maxHeartbeats 8000000 in
theorem ckL3 {d ab q : Int} (h1 : 1 ≤ d) (h2 : d ≤ 10) (h3 : 0 ≤ q) (h4 : q ≤ 39) : ∃ e : Int, (e = 0 → (Fs.leaf 3 a b nm).st m ab) ∧ ((Fs.leaf 3 a b nm).st m ab → e = 0) ∧ ∀ (c : List (Nat × Ent)) (id n : Nat), look c id = some (.rows 1 [[.i .i64 q]]) → id < n →
    MeetsH (EG (glF m)) 34 [.ptr id 0 0, .agg [.i .i64 3, .i .i64 a, .i .i64 b, .s nm, .isl false 5 []], .i .i64 d, .i .i64 ab] ⟨c, n⟩ (RetG (.i .i64 e) (upd c id (.rows 1 [[.i .i64 (q + 1)]])) n) := by
  have hv := heavyP (m := m) 3
  rw [show (decide ((3 : Int) = 8) || decide ((3 : Int) = 12)) = false by decide] at hv
  have hkid : fkT[3]? = some (.i .i64 0) := rfl
  have c1 : ¬ 40 < q + 1 := by omega
  have c2 : ¬ 10 < d := by omega
  clear h1 h2 h4
  have hst : (Fs.leaf 3 a b nm).st m ab ↔ (nm = [] ∧ b = 0 ∧ 0 ≤ a ∧ a ≤ 6) := by simp [Fs.st]
  by_cases f1 : nm = []
  case neg =>
    refine ⟨8, (fun h => absurd h (by decide)), (fun h => absurd (hst.1 h).1 f1), fun c id n hl hid => grow_forget ?_⟩
    clear hst
    have hu : ∀ k l, look (upd c id (.rows k l)) id = some (.rows k l) := fun k l => look_updR k l hl
    have hne : ¬ n = id := by omega
    refine meetsH (E := (EG (glF m))) 280 [.tmp 8] Tryz.func34 rfl (by decide) rfl rfl (by simp) ?_
    repeat' first | ((with_reducible refine wr_isCall ?_); refine wr_P hv rfl ?_) | (with_reducible first | refine t_seq ?_ | refine t_skip ?_ | refine t_ret ?_ | refine t_end ?_ | refine t_cond ?_ | refine t_region ?_ | refine wr_done ?_ | refine WD.done _ ?_ | refine wdp_done ?_ | refine wdg_done ?_ | refine tr_some ?_ | refine t_block ?_ | refine t_loop ?_ | refine t_inLoop ?_ | refine t_inBlock ?_) | ((with_reducible refine t_isDraw ?_); refine t_draw rfl (by kernel_rfl) ?_) | ((with_reducible refine t_isExit ?_); refine t_exit rfl ?_) | simp only [decide_eq_true_eq, decide_eq_false_iff_not, Bool.not_eq_true', Bool.not_eq_false'] at * | simp (disch := omega) only [go_sem, Nat.reduceLT, Nat.reduceEqDiff, Nat.reduceAdd, Nat.reduceLeDiff, Nat.reduceMul, Int.reduceLT, Int.reduceLE, Int.reduceAdd, Int.reduceSub, Int.reduceNeg, Int.reduceToNat, Int.reduceBEq, Int.reduceEq, reduceCtorEq, ↓reduceIte, *] | (with_reducible first | refine tb_true ?_ | refine tb_false ?_) | ((with_reducible first | refine tb_split ?_ ?_ | refine wg_f ?_ ?_ | refine wg_t ?_ ?_ | refine wd_f ?_ ?_ | refine wd_t ?_ ?_) <;> intro _)
    all_goals first | (exfalso; omega) | exact ⟨1, rfl, by simp only; omega⟩
  by_cases f2 : b = 0
  case neg =>
    refine ⟨8, (fun h => absurd h (by decide)), (fun h => absurd (hst.1 h).2.1 f2), fun c id n hl hid => grow_forget ?_⟩
    clear hst
    have hu : ∀ k l, look (upd c id (.rows k l)) id = some (.rows k l) := fun k l => look_updR k l hl
    have hne : ¬ n = id := by omega
    refine meetsH (E := (EG (glF m))) 280 [.tmp 8] Tryz.func34 rfl (by decide) rfl rfl (by simp) ?_
    repeat' first | ((with_reducible refine wr_isCall ?_); refine wr_P hv rfl ?_) | (with_reducible first | refine t_seq ?_ | refine t_skip ?_ | refine t_ret ?_ | refine t_end ?_ | refine t_cond ?_ | refine t_region ?_ | refine wr_done ?_ | refine WD.done _ ?_ | refine wdp_done ?_ | refine wdg_done ?_ | refine tr_some ?_ | refine t_block ?_ | refine t_loop ?_ | refine t_inLoop ?_ | refine t_inBlock ?_) | ((with_reducible refine t_isDraw ?_); refine t_draw rfl (by kernel_rfl) ?_) | ((with_reducible refine t_isExit ?_); refine t_exit rfl ?_) | simp only [decide_eq_true_eq, decide_eq_false_iff_not, Bool.not_eq_true', Bool.not_eq_false'] at * | simp (disch := omega) only [go_sem, Nat.reduceLT, Nat.reduceEqDiff, Nat.reduceAdd, Nat.reduceLeDiff, Nat.reduceMul, Int.reduceLT, Int.reduceLE, Int.reduceAdd, Int.reduceSub, Int.reduceNeg, Int.reduceToNat, Int.reduceBEq, Int.reduceEq, reduceCtorEq, ↓reduceIte, *] | (with_reducible first | refine tb_true ?_ | refine tb_false ?_) | ((with_reducible first | refine tb_split ?_ ?_ | refine wg_f ?_ ?_ | refine wg_t ?_ ?_ | refine wd_f ?_ ?_ | refine wd_t ?_ ?_) <;> intro _)
    all_goals first | (exfalso; omega) | exact ⟨1, rfl, by simp only; omega⟩
  by_cases f3 : 0 ≤ a
  case neg =>
    refine ⟨3, (fun h => absurd h (by decide)), (fun h => absurd (hst.1 h).2.2.1 f3), fun c id n hl hid => grow_forget ?_⟩
    clear hst
    have hu : ∀ k l, look (upd c id (.rows k l)) id = some (.rows k l) := fun k l => look_updR k l hl
    have hne : ¬ n = id := by omega
    refine meetsH (E := (EG (glF m))) 280 [.tmp 8] Tryz.func34 rfl (by decide) rfl rfl (by simp) ?_
    repeat' first | ((with_reducible refine wr_isCall ?_); refine wr_P hv rfl ?_) | (with_reducible first | refine t_seq ?_ | refine t_skip ?_ | refine t_ret ?_ | refine t_end ?_ | refine t_cond ?_ | refine t_region ?_ | refine wr_done ?_ | refine WD.done _ ?_ | refine wdp_done ?_ | refine wdg_done ?_ | refine tr_some ?_ | refine t_block ?_ | refine t_loop ?_ | refine t_inLoop ?_ | refine t_inBlock ?_) | ((with_reducible refine t_isDraw ?_); refine t_draw rfl (by kernel_rfl) ?_) | ((with_reducible refine t_isExit ?_); refine t_exit rfl ?_) | simp only [decide_eq_true_eq, decide_eq_false_iff_not, Bool.not_eq_true', Bool.not_eq_false'] at * | simp (disch := omega) only [go_sem, Nat.reduceLT, Nat.reduceEqDiff, Nat.reduceAdd, Nat.reduceLeDiff, Nat.reduceMul, Int.reduceLT, Int.reduceLE, Int.reduceAdd, Int.reduceSub, Int.reduceNeg, Int.reduceToNat, Int.reduceBEq, Int.reduceEq, reduceCtorEq, ↓reduceIte, *] | (with_reducible first | refine tb_true ?_ | refine tb_false ?_) | ((with_reducible first | refine tb_split ?_ ?_ | refine wg_f ?_ ?_ | refine wg_t ?_ ?_ | refine wd_f ?_ ?_ | refine wd_t ?_ ?_) <;> intro _)
    all_goals first | (exfalso; omega) | exact ⟨1, rfl, by simp only; omega⟩
  by_cases f4 : a ≤ 6
  case neg =>
    refine ⟨3, (fun h => absurd h (by decide)), (fun h => absurd (hst.1 h).2.2.2 f4), fun c id n hl hid => grow_forget ?_⟩
    clear hst
    have hu : ∀ k l, look (upd c id (.rows k l)) id = some (.rows k l) := fun k l => look_updR k l hl
    have hne : ¬ n = id := by omega
    refine meetsH (E := (EG (glF m))) 280 [.tmp 8] Tryz.func34 rfl (by decide) rfl rfl (by simp) ?_
    repeat' first | ((with_reducible refine wr_isCall ?_); refine wr_P hv rfl ?_) | (with_reducible first | refine t_seq ?_ | refine t_skip ?_ | refine t_ret ?_ | refine t_end ?_ | refine t_cond ?_ | refine t_region ?_ | refine wr_done ?_ | refine WD.done _ ?_ | refine wdp_done ?_ | refine wdg_done ?_ | refine tr_some ?_ | refine t_block ?_ | refine t_loop ?_ | refine t_inLoop ?_ | refine t_inBlock ?_) | ((with_reducible refine t_isDraw ?_); refine t_draw rfl (by kernel_rfl) ?_) | ((with_reducible refine t_isExit ?_); refine t_exit rfl ?_) | simp only [decide_eq_true_eq, decide_eq_false_iff_not, Bool.not_eq_true', Bool.not_eq_false'] at * | simp (disch := omega) only [go_sem, Nat.reduceLT, Nat.reduceEqDiff, Nat.reduceAdd, Nat.reduceLeDiff, Nat.reduceMul, Int.reduceLT, Int.reduceLE, Int.reduceAdd, Int.reduceSub, Int.reduceNeg, Int.reduceToNat, Int.reduceBEq, Int.reduceEq, reduceCtorEq, ↓reduceIte, *] | (with_reducible first | refine tb_true ?_ | refine tb_false ?_) | ((with_reducible first | refine tb_split ?_ ?_ | refine wg_f ?_ ?_ | refine wg_t ?_ ?_ | refine wd_f ?_ ?_ | refine wd_t ?_ ?_) <;> intro _)
    all_goals first | (exfalso; omega) | exact ⟨1, rfl, by simp only; omega⟩
  · refine ⟨0, (fun _ => hst.2 ⟨f1, f2, f3, f4⟩), (fun _ => rfl), fun c id n hl hid => grow_forget ?_⟩
    clear hst
    have hu : ∀ k l, look (upd c id (.rows k l)) id = some (.rows k l) := fun k l => look_updR k l hl
    have hne : ¬ n = id := by omega
    refine meetsH (E := (EG (glF m))) 280 [.tmp 8] Tryz.func34 rfl (by decide) rfl rfl (by simp) ?_
    repeat' first | ((with_reducible refine wr_isCall ?_); refine wr_P hv rfl ?_) | (with_reducible first | refine t_seq ?_ | refine t_skip ?_ | refine t_ret ?_ | refine t_end ?_ | refine t_cond ?_ | refine t_region ?_ | refine wr_done ?_ | refine WD.done _ ?_ | refine wdp_done ?_ | refine wdg_done ?_ | refine tr_some ?_ | refine t_block ?_ | refine t_loop ?_ | refine t_inLoop ?_ | refine t_inBlock ?_) | ((with_reducible refine t_isDraw ?_); refine t_draw rfl (by kernel_rfl) ?_) | ((with_reducible refine t_isExit ?_); refine t_exit rfl ?_) | simp only [decide_eq_true_eq, decide_eq_false_iff_not, Bool.not_eq_true', Bool.not_eq_false'] at * | simp (disch := omega) only [go_sem, Nat.reduceLT, Nat.reduceEqDiff, Nat.reduceAdd, Nat.reduceLeDiff, Nat.reduceMul, Int.reduceLT, Int.reduceLE, Int.reduceAdd, Int.reduceSub, Int.reduceNeg, Int.reduceToNat, Int.reduceBEq, Int.reduceEq, reduceCtorEq, ↓reduceIte, *] | (with_reducible first | refine tb_true ?_ | refine tb_false ?_) | ((with_reducible first | refine tb_split ?_ ?_ | refine wg_f ?_ ?_ | refine wg_t ?_ ?_ | refine wd_f ?_ ?_ | refine wd_t ?_ ?_) <;> intro _)
    all_goals first | (exfalso; omega) | exact ⟨1, rfl, by simp only; omega⟩
set_option maxRecDepth 100000 in
set_option maxHeartbeats 8000000 in
theorem ckL4 {d ab q : Int} (h1 : 1 ≤ d) (h2 : d ≤ 10) (h3 : 0 ≤ q) (h4 : q ≤ 39) : ∃ e : Int, (e = 0 → (Fs.leaf 4 a b nm).st m ab) ∧ ((Fs.leaf 4 a b nm).st m ab → e = 0) ∧ ∀ (c : List (Nat × Ent)) (id n : Nat), look c id = some (.rows 1 [[.i .i64 q]]) → id < n →
    MeetsH (EG (glF m)) 34 [.ptr id 0 0, .agg [.i .i64 4, .i .i64 a, .i .i64 b, .s nm, .isl false 5 []], .i .i64 d, .i .i64 ab] ⟨c, n⟩ (RetG (.i .i64 e) (upd c id (.rows 1 [[.i .i64 (q + 1)]])) n) := by
  have hv := heavyP (m := m) 4
  rw [show (decide ((4 : Int) = 8) || decide ((4 : Int) = 12)) = false by decide] at hv
  have hkid : fkT[4]? = some (.i .i64 0) := rfl
  have c1 : ¬ 40 < q + 1 := by omega
  have c2 : ¬ 10 < d := by omega
  clear h1 h2 h4
  have hst : (Fs.leaf 4 a b nm).st m ab ↔ (nm = [] ∧ 1 ≤ a ∧ a ≤ 100000 ∧ 0 ≤ b ∧ b < a) := by simp [Fs.st]
  by_cases f1 : nm = []
  case neg =>
    refine ⟨8, (fun h => absurd h (by decide)), (fun h => absurd (hst.1 h).1 f1), fun c id n hl hid => grow_forget ?_⟩
    clear hst
    have hu : ∀ k l, look (upd c id (.rows k l)) id = some (.rows k l) := fun k l => look_updR k l hl
    have hne : ¬ n = id := by omega
    refine meetsH (E := (EG (glF m))) 280 [.tmp 8] Tryz.func34 rfl (by decide) rfl rfl (by simp) ?_
    repeat' first | ((with_reducible refine wr_isCall ?_); refine wr_P hv rfl ?_) | (with_reducible first | refine t_seq ?_ | refine t_skip ?_ | refine t_ret ?_ | refine t_end ?_ | refine t_cond ?_ | refine t_region ?_ | refine wr_done ?_ | refine WD.done _ ?_ | refine wdp_done ?_ | refine wdg_done ?_ | refine tr_some ?_ | refine t_block ?_ | refine t_loop ?_ | refine t_inLoop ?_ | refine t_inBlock ?_) | ((with_reducible refine t_isDraw ?_); refine t_draw rfl (by kernel_rfl) ?_) | ((with_reducible refine t_isExit ?_); refine t_exit rfl ?_) | simp only [decide_eq_true_eq, decide_eq_false_iff_not, Bool.not_eq_true', Bool.not_eq_false'] at * | simp (disch := omega) only [go_sem, Nat.reduceLT, Nat.reduceEqDiff, Nat.reduceAdd, Nat.reduceLeDiff, Nat.reduceMul, Int.reduceLT, Int.reduceLE, Int.reduceAdd, Int.reduceSub, Int.reduceNeg, Int.reduceToNat, Int.reduceBEq, Int.reduceEq, reduceCtorEq, ↓reduceIte, *] | (with_reducible first | refine tb_true ?_ | refine tb_false ?_) | ((with_reducible first | refine tb_split ?_ ?_ | refine wg_f ?_ ?_ | refine wg_t ?_ ?_ | refine wd_f ?_ ?_ | refine wd_t ?_ ?_) <;> intro _)
    all_goals first | (exfalso; omega) | exact ⟨1, rfl, by simp only; omega⟩
  by_cases f2 : 1 ≤ a
  case neg =>
    refine ⟨3, (fun h => absurd h (by decide)), (fun h => absurd (hst.1 h).2.1 f2), fun c id n hl hid => grow_forget ?_⟩
    clear hst
    have hu : ∀ k l, look (upd c id (.rows k l)) id = some (.rows k l) := fun k l => look_updR k l hl
    have hne : ¬ n = id := by omega
    refine meetsH (E := (EG (glF m))) 280 [.tmp 8] Tryz.func34 rfl (by decide) rfl rfl (by simp) ?_
    repeat' first | ((with_reducible refine wr_isCall ?_); refine wr_P hv rfl ?_) | (with_reducible first | refine t_seq ?_ | refine t_skip ?_ | refine t_ret ?_ | refine t_end ?_ | refine t_cond ?_ | refine t_region ?_ | refine wr_done ?_ | refine WD.done _ ?_ | refine wdp_done ?_ | refine wdg_done ?_ | refine tr_some ?_ | refine t_block ?_ | refine t_loop ?_ | refine t_inLoop ?_ | refine t_inBlock ?_) | ((with_reducible refine t_isDraw ?_); refine t_draw rfl (by kernel_rfl) ?_) | ((with_reducible refine t_isExit ?_); refine t_exit rfl ?_) | simp only [decide_eq_true_eq, decide_eq_false_iff_not, Bool.not_eq_true', Bool.not_eq_false'] at * | simp (disch := omega) only [go_sem, Nat.reduceLT, Nat.reduceEqDiff, Nat.reduceAdd, Nat.reduceLeDiff, Nat.reduceMul, Int.reduceLT, Int.reduceLE, Int.reduceAdd, Int.reduceSub, Int.reduceNeg, Int.reduceToNat, Int.reduceBEq, Int.reduceEq, reduceCtorEq, ↓reduceIte, *] | (with_reducible first | refine tb_true ?_ | refine tb_false ?_) | ((with_reducible first | refine tb_split ?_ ?_ | refine wg_f ?_ ?_ | refine wg_t ?_ ?_ | refine wd_f ?_ ?_ | refine wd_t ?_ ?_) <;> intro _)
    all_goals first | (exfalso; omega) | exact ⟨1, rfl, by simp only; omega⟩
  by_cases f3 : a ≤ 100000
  case neg =>
    refine ⟨3, (fun h => absurd h (by decide)), (fun h => absurd (hst.1 h).2.2.1 f3), fun c id n hl hid => grow_forget ?_⟩
    clear hst
    have hu : ∀ k l, look (upd c id (.rows k l)) id = some (.rows k l) := fun k l => look_updR k l hl
    have hne : ¬ n = id := by omega
    refine meetsH (E := (EG (glF m))) 280 [.tmp 8] Tryz.func34 rfl (by decide) rfl rfl (by simp) ?_
    repeat' first | ((with_reducible refine wr_isCall ?_); refine wr_P hv rfl ?_) | (with_reducible first | refine t_seq ?_ | refine t_skip ?_ | refine t_ret ?_ | refine t_end ?_ | refine t_cond ?_ | refine t_region ?_ | refine wr_done ?_ | refine WD.done _ ?_ | refine wdp_done ?_ | refine wdg_done ?_ | refine tr_some ?_ | refine t_block ?_ | refine t_loop ?_ | refine t_inLoop ?_ | refine t_inBlock ?_) | ((with_reducible refine t_isDraw ?_); refine t_draw rfl (by kernel_rfl) ?_) | ((with_reducible refine t_isExit ?_); refine t_exit rfl ?_) | simp only [decide_eq_true_eq, decide_eq_false_iff_not, Bool.not_eq_true', Bool.not_eq_false'] at * | simp (disch := omega) only [go_sem, Nat.reduceLT, Nat.reduceEqDiff, Nat.reduceAdd, Nat.reduceLeDiff, Nat.reduceMul, Int.reduceLT, Int.reduceLE, Int.reduceAdd, Int.reduceSub, Int.reduceNeg, Int.reduceToNat, Int.reduceBEq, Int.reduceEq, reduceCtorEq, ↓reduceIte, *] | (with_reducible first | refine tb_true ?_ | refine tb_false ?_) | ((with_reducible first | refine tb_split ?_ ?_ | refine wg_f ?_ ?_ | refine wg_t ?_ ?_ | refine wd_f ?_ ?_ | refine wd_t ?_ ?_) <;> intro _)
    all_goals first | (exfalso; omega) | exact ⟨1, rfl, by simp only; omega⟩
  by_cases f4 : 0 ≤ b
  case neg =>
    refine ⟨3, (fun h => absurd h (by decide)), (fun h => absurd (hst.1 h).2.2.2.1 f4), fun c id n hl hid => grow_forget ?_⟩
    clear hst
    have hu : ∀ k l, look (upd c id (.rows k l)) id = some (.rows k l) := fun k l => look_updR k l hl
    have hne : ¬ n = id := by omega
    refine meetsH (E := (EG (glF m))) 280 [.tmp 8] Tryz.func34 rfl (by decide) rfl rfl (by simp) ?_
    repeat' first | ((with_reducible refine wr_isCall ?_); refine wr_P hv rfl ?_) | (with_reducible first | refine t_seq ?_ | refine t_skip ?_ | refine t_ret ?_ | refine t_end ?_ | refine t_cond ?_ | refine t_region ?_ | refine wr_done ?_ | refine WD.done _ ?_ | refine wdp_done ?_ | refine wdg_done ?_ | refine tr_some ?_ | refine t_block ?_ | refine t_loop ?_ | refine t_inLoop ?_ | refine t_inBlock ?_) | ((with_reducible refine t_isDraw ?_); refine t_draw rfl (by kernel_rfl) ?_) | ((with_reducible refine t_isExit ?_); refine t_exit rfl ?_) | simp only [decide_eq_true_eq, decide_eq_false_iff_not, Bool.not_eq_true', Bool.not_eq_false'] at * | simp (disch := omega) only [go_sem, Nat.reduceLT, Nat.reduceEqDiff, Nat.reduceAdd, Nat.reduceLeDiff, Nat.reduceMul, Int.reduceLT, Int.reduceLE, Int.reduceAdd, Int.reduceSub, Int.reduceNeg, Int.reduceToNat, Int.reduceBEq, Int.reduceEq, reduceCtorEq, ↓reduceIte, *] | (with_reducible first | refine tb_true ?_ | refine tb_false ?_) | ((with_reducible first | refine tb_split ?_ ?_ | refine wg_f ?_ ?_ | refine wg_t ?_ ?_ | refine wd_f ?_ ?_ | refine wd_t ?_ ?_) <;> intro _)
    all_goals first | (exfalso; omega) | exact ⟨1, rfl, by simp only; omega⟩
  by_cases f5 : b < a
  case neg =>
    refine ⟨3, (fun h => absurd h (by decide)), (fun h => absurd (hst.1 h).2.2.2.2 f5), fun c id n hl hid => grow_forget ?_⟩
    clear hst
    have hu : ∀ k l, look (upd c id (.rows k l)) id = some (.rows k l) := fun k l => look_updR k l hl
    have hne : ¬ n = id := by omega
    refine meetsH (E := (EG (glF m))) 280 [.tmp 8] Tryz.func34 rfl (by decide) rfl rfl (by simp) ?_
    repeat' first | ((with_reducible refine wr_isCall ?_); refine wr_P hv rfl ?_) | (with_reducible first | refine t_seq ?_ | refine t_skip ?_ | refine t_ret ?_ | refine t_end ?_ | refine t_cond ?_ | refine t_region ?_ | refine wr_done ?_ | refine WD.done _ ?_ | refine wdp_done ?_ | refine wdg_done ?_ | refine tr_some ?_ | refine t_block ?_ | refine t_loop ?_ | refine t_inLoop ?_ | refine t_inBlock ?_) | ((with_reducible refine t_isDraw ?_); refine t_draw rfl (by kernel_rfl) ?_) | ((with_reducible refine t_isExit ?_); refine t_exit rfl ?_) | simp only [decide_eq_true_eq, decide_eq_false_iff_not, Bool.not_eq_true', Bool.not_eq_false'] at * | simp (disch := omega) only [go_sem, Nat.reduceLT, Nat.reduceEqDiff, Nat.reduceAdd, Nat.reduceLeDiff, Nat.reduceMul, Int.reduceLT, Int.reduceLE, Int.reduceAdd, Int.reduceSub, Int.reduceNeg, Int.reduceToNat, Int.reduceBEq, Int.reduceEq, reduceCtorEq, ↓reduceIte, *] | (with_reducible first | refine tb_true ?_ | refine tb_false ?_) | ((with_reducible first | refine tb_split ?_ ?_ | refine wg_f ?_ ?_ | refine wg_t ?_ ?_ | refine wd_f ?_ ?_ | refine wd_t ?_ ?_) <;> intro _)
    all_goals first | (exfalso; omega) | exact ⟨1, rfl, by simp only; omega⟩
  · refine ⟨0, (fun _ => hst.2 ⟨f1, f2, f3, f4, f5⟩), (fun _ => rfl), fun c id n hl hid => grow_forget ?_⟩
    clear hst
    have hu : ∀ k l, look (upd c id (.rows k l)) id = some (.rows k l) := fun k l => look_updR k l hl
    have hne : ¬ n = id := by omega
    refine meetsH (E := (EG (glF m))) 280 [.tmp 8] Tryz.func34 rfl (by decide) rfl rfl (by simp) ?_
    repeat' first | ((with_reducible refine wr_isCall ?_); refine wr_P hv rfl ?_) | (with_reducible first | refine t_seq ?_ | refine t_skip ?_ | refine t_ret ?_ | refine t_end ?_ | refine t_cond ?_ | refine t_region ?_ | refine wr_done ?_ | refine WD.done _ ?_ | refine wdp_done ?_ | refine wdg_done ?_ | refine tr_some ?_ | refine t_block ?_ | refine t_loop ?_ | refine t_inLoop ?_ | refine t_inBlock ?_) | ((with_reducible refine t_isDraw ?_); refine t_draw rfl (by kernel_rfl) ?_) | ((with_reducible refine t_isExit ?_); refine t_exit rfl ?_) | simp only [decide_eq_true_eq, decide_eq_false_iff_not, Bool.not_eq_true', Bool.not_eq_false'] at * | simp (disch := omega) only [go_sem, Nat.reduceLT, Nat.reduceEqDiff, Nat.reduceAdd, Nat.reduceLeDiff, Nat.reduceMul, Int.reduceLT, Int.reduceLE, Int.reduceAdd, Int.reduceSub, Int.reduceNeg, Int.reduceToNat, Int.reduceBEq, Int.reduceEq, reduceCtorEq, ↓reduceIte, *] | (with_reducible first | refine tb_true ?_ | refine tb_false ?_) | ((with_reducible first | refine tb_split ?_ ?_ | refine wg_f ?_ ?_ | refine wg_t ?_ ?_ | refine wd_f ?_ ?_ | refine wd_t ?_ ?_) <;> intro _)
    all_goals first | (exfalso; omega) | exact ⟨1, rfl, by simp only; omega⟩
set_option maxRecDepth 100000 in
set_option maxHeartbeats 8000000 in
theorem ckL5 {d ab q : Int} (h1 : 1 ≤ d) (h2 : d ≤ 10) (h3 : 0 ≤ q) (h4 : q ≤ 39) : ∃ e : Int, (e = 0 → (Fs.leaf 5 a b nm).st m ab) ∧ ((Fs.leaf 5 a b nm).st m ab → e = 0) ∧ ∀ (c : List (Nat × Ent)) (id n : Nat), look c id = some (.rows 1 [[.i .i64 q]]) → id < n →
    MeetsH (EG (glF m)) 34 [.ptr id 0 0, .agg [.i .i64 5, .i .i64 a, .i .i64 b, .s nm, .isl false 5 []], .i .i64 d, .i .i64 ab] ⟨c, n⟩ (RetG (.i .i64 e) (upd c id (.rows 1 [[.i .i64 (q + 1)]])) n) := by
  have hv := heavyP (m := m) 5
  rw [show (decide ((5 : Int) = 8) || decide ((5 : Int) = 12)) = false by decide] at hv
  have hkid : fkT[5]? = some (.i .i64 0) := rfl
  have c1 : ¬ 40 < q + 1 := by omega
  have c2 : ¬ 10 < d := by omega
  clear h1 h2 h4
  have hst : (Fs.leaf 5 a b nm).st m ab ↔ (nm = [] ∧ b = 0 ∧ chkDay a = 0) := by simp [Fs.st]
  have hca := weakP (glF_of m) (lineCheck (m := m) a)
  have hcb := weakP (glF_of m) (lineCheck (m := m) b)
  generalize chkDay a = ca at *
  generalize chkDay b = cb at *
  by_cases f1 : nm = []
  case neg =>
    refine ⟨8, (fun h => absurd h (by decide)), (fun h => absurd (hst.1 h).1 f1), fun c id n hl hid => grow_forget ?_⟩
    clear hst
    have hu : ∀ k l, look (upd c id (.rows k l)) id = some (.rows k l) := fun k l => look_updR k l hl
    have hne : ¬ n = id := by omega
    refine meetsH (E := (EG (glF m))) 280 [.tmp 8] Tryz.func34 rfl (by decide) rfl rfl (by simp) ?_
    repeat' first | ((with_reducible refine wr_isCall ?_); first | refine wr_P hv rfl ?_ | refine wr_P hca rfl ?_ | refine wr_P hcb rfl ?_) | (with_reducible first | refine t_seq ?_ | refine t_skip ?_ | refine t_ret ?_ | refine t_end ?_ | refine t_cond ?_ | refine t_region ?_ | refine wr_done ?_ | refine WD.done _ ?_ | refine wdp_done ?_ | refine wdg_done ?_ | refine tr_some ?_ | refine t_block ?_ | refine t_loop ?_ | refine t_inLoop ?_ | refine t_inBlock ?_) | ((with_reducible refine t_isDraw ?_); refine t_draw rfl (by kernel_rfl) ?_) | ((with_reducible refine t_isExit ?_); refine t_exit rfl ?_) | simp only [decide_eq_true_eq, decide_eq_false_iff_not, Bool.not_eq_true', Bool.not_eq_false'] at * | simp (disch := omega) only [go_sem, Nat.reduceLT, Nat.reduceEqDiff, Nat.reduceAdd, Nat.reduceLeDiff, Nat.reduceMul, Int.reduceLT, Int.reduceLE, Int.reduceAdd, Int.reduceSub, Int.reduceNeg, Int.reduceToNat, Int.reduceBEq, Int.reduceEq, reduceCtorEq, ↓reduceIte, *] | (with_reducible first | refine tb_true ?_ | refine tb_false ?_) | ((with_reducible first | refine tb_split ?_ ?_ | refine wg_f ?_ ?_ | refine wg_t ?_ ?_ | refine wd_f ?_ ?_ | refine wd_t ?_ ?_) <;> intro _)
    all_goals first | (exfalso; omega) | exact ⟨1, rfl, by simp only; omega⟩
  by_cases f2 : b = 0
  case neg =>
    refine ⟨8, (fun h => absurd h (by decide)), (fun h => absurd (hst.1 h).2.1 f2), fun c id n hl hid => grow_forget ?_⟩
    clear hst
    have hu : ∀ k l, look (upd c id (.rows k l)) id = some (.rows k l) := fun k l => look_updR k l hl
    have hne : ¬ n = id := by omega
    refine meetsH (E := (EG (glF m))) 280 [.tmp 8] Tryz.func34 rfl (by decide) rfl rfl (by simp) ?_
    repeat' first | ((with_reducible refine wr_isCall ?_); first | refine wr_P hv rfl ?_ | refine wr_P hca rfl ?_ | refine wr_P hcb rfl ?_) | (with_reducible first | refine t_seq ?_ | refine t_skip ?_ | refine t_ret ?_ | refine t_end ?_ | refine t_cond ?_ | refine t_region ?_ | refine wr_done ?_ | refine WD.done _ ?_ | refine wdp_done ?_ | refine wdg_done ?_ | refine tr_some ?_ | refine t_block ?_ | refine t_loop ?_ | refine t_inLoop ?_ | refine t_inBlock ?_) | ((with_reducible refine t_isDraw ?_); refine t_draw rfl (by kernel_rfl) ?_) | ((with_reducible refine t_isExit ?_); refine t_exit rfl ?_) | simp only [decide_eq_true_eq, decide_eq_false_iff_not, Bool.not_eq_true', Bool.not_eq_false'] at * | simp (disch := omega) only [go_sem, Nat.reduceLT, Nat.reduceEqDiff, Nat.reduceAdd, Nat.reduceLeDiff, Nat.reduceMul, Int.reduceLT, Int.reduceLE, Int.reduceAdd, Int.reduceSub, Int.reduceNeg, Int.reduceToNat, Int.reduceBEq, Int.reduceEq, reduceCtorEq, ↓reduceIte, *] | (with_reducible first | refine tb_true ?_ | refine tb_false ?_) | ((with_reducible first | refine tb_split ?_ ?_ | refine wg_f ?_ ?_ | refine wg_t ?_ ?_ | refine wd_f ?_ ?_ | refine wd_t ?_ ?_) <;> intro _)
    all_goals first | (exfalso; omega) | exact ⟨1, rfl, by simp only; omega⟩
  by_cases f3 : ca = 0
  case neg =>
    refine ⟨3, (fun h => absurd h (by decide)), (fun h => absurd (hst.1 h).2.2 f3), fun c id n hl hid => grow_forget ?_⟩
    clear hst
    have hu : ∀ k l, look (upd c id (.rows k l)) id = some (.rows k l) := fun k l => look_updR k l hl
    have hne : ¬ n = id := by omega
    refine meetsH (E := (EG (glF m))) 280 [.tmp 8] Tryz.func34 rfl (by decide) rfl rfl (by simp) ?_
    repeat' first | ((with_reducible refine wr_isCall ?_); first | refine wr_P hv rfl ?_ | refine wr_P hca rfl ?_ | refine wr_P hcb rfl ?_) | (with_reducible first | refine t_seq ?_ | refine t_skip ?_ | refine t_ret ?_ | refine t_end ?_ | refine t_cond ?_ | refine t_region ?_ | refine wr_done ?_ | refine WD.done _ ?_ | refine wdp_done ?_ | refine wdg_done ?_ | refine tr_some ?_ | refine t_block ?_ | refine t_loop ?_ | refine t_inLoop ?_ | refine t_inBlock ?_) | ((with_reducible refine t_isDraw ?_); refine t_draw rfl (by kernel_rfl) ?_) | ((with_reducible refine t_isExit ?_); refine t_exit rfl ?_) | simp only [decide_eq_true_eq, decide_eq_false_iff_not, Bool.not_eq_true', Bool.not_eq_false'] at * | simp (disch := omega) only [go_sem, Nat.reduceLT, Nat.reduceEqDiff, Nat.reduceAdd, Nat.reduceLeDiff, Nat.reduceMul, Int.reduceLT, Int.reduceLE, Int.reduceAdd, Int.reduceSub, Int.reduceNeg, Int.reduceToNat, Int.reduceBEq, Int.reduceEq, reduceCtorEq, ↓reduceIte, *] | (with_reducible first | refine tb_true ?_ | refine tb_false ?_) | ((with_reducible first | refine tb_split ?_ ?_ | refine wg_f ?_ ?_ | refine wg_t ?_ ?_ | refine wd_f ?_ ?_ | refine wd_t ?_ ?_) <;> intro _)
    all_goals first | (exfalso; omega) | exact ⟨1, rfl, by simp only; omega⟩
  · refine ⟨0, (fun _ => hst.2 ⟨f1, f2, f3⟩), (fun _ => rfl), fun c id n hl hid => grow_forget ?_⟩
    clear hst
    have hu : ∀ k l, look (upd c id (.rows k l)) id = some (.rows k l) := fun k l => look_updR k l hl
    have hne : ¬ n = id := by omega
    refine meetsH (E := (EG (glF m))) 280 [.tmp 8] Tryz.func34 rfl (by decide) rfl rfl (by simp) ?_
    repeat' first | ((with_reducible refine wr_isCall ?_); first | refine wr_P hv rfl ?_ | refine wr_P hca rfl ?_ | refine wr_P hcb rfl ?_) | (with_reducible first | refine t_seq ?_ | refine t_skip ?_ | refine t_ret ?_ | refine t_end ?_ | refine t_cond ?_ | refine t_region ?_ | refine wr_done ?_ | refine WD.done _ ?_ | refine wdp_done ?_ | refine wdg_done ?_ | refine tr_some ?_ | refine t_block ?_ | refine t_loop ?_ | refine t_inLoop ?_ | refine t_inBlock ?_) | ((with_reducible refine t_isDraw ?_); refine t_draw rfl (by kernel_rfl) ?_) | ((with_reducible refine t_isExit ?_); refine t_exit rfl ?_) | simp only [decide_eq_true_eq, decide_eq_false_iff_not, Bool.not_eq_true', Bool.not_eq_false'] at * | simp (disch := omega) only [go_sem, Nat.reduceLT, Nat.reduceEqDiff, Nat.reduceAdd, Nat.reduceLeDiff, Nat.reduceMul, Int.reduceLT, Int.reduceLE, Int.reduceAdd, Int.reduceSub, Int.reduceNeg, Int.reduceToNat, Int.reduceBEq, Int.reduceEq, reduceCtorEq, ↓reduceIte, *] | (with_reducible first | refine tb_true ?_ | refine tb_false ?_) | ((with_reducible first | refine tb_split ?_ ?_ | refine wg_f ?_ ?_ | refine wg_t ?_ ?_ | refine wd_f ?_ ?_ | refine wd_t ?_ ?_) <;> intro _)
    all_goals first | (exfalso; omega) | exact ⟨1, rfl, by simp only; omega⟩
set_option maxRecDepth 100000 in
set_option maxHeartbeats 8000000 in
theorem ckL6 {d ab q : Int} (h1 : 1 ≤ d) (h2 : d ≤ 10) (h3 : 0 ≤ q) (h4 : q ≤ 39) : ∃ e : Int, (e = 0 → (Fs.leaf 6 a b nm).st m ab) ∧ ((Fs.leaf 6 a b nm).st m ab → e = 0) ∧ ∀ (c : List (Nat × Ent)) (id n : Nat), look c id = some (.rows 1 [[.i .i64 q]]) → id < n →
    MeetsH (EG (glF m)) 34 [.ptr id 0 0, .agg [.i .i64 6, .i .i64 a, .i .i64 b, .s nm, .isl false 5 []], .i .i64 d, .i .i64 ab] ⟨c, n⟩ (RetG (.i .i64 e) (upd c id (.rows 1 [[.i .i64 (q + 1)]])) n) := by
  have hv := heavyP (m := m) 6
  rw [show (decide ((6 : Int) = 8) || decide ((6 : Int) = 12)) = false by decide] at hv
  have hkid : fkT[6]? = some (.i .i64 0) := rfl
  have c1 : ¬ 40 < q + 1 := by omega
  have c2 : ¬ 10 < d := by omega
  clear h1 h2 h4
  have hst : (Fs.leaf 6 a b nm).st m ab ↔ (nm = [] ∧ chkDay a = 0 ∧ chkDay b = 0 ∧ a ≤ b) := by simp [Fs.st]
  have hca := weakP (glF_of m) (lineCheck (m := m) a)
  have hcb := weakP (glF_of m) (lineCheck (m := m) b)
  generalize chkDay a = ca at *
  generalize chkDay b = cb at *
  by_cases f1 : nm = []
  case neg =>
    refine ⟨8, (fun h => absurd h (by decide)), (fun h => absurd (hst.1 h).1 f1), fun c id n hl hid => grow_forget ?_⟩
    clear hst
    have hu : ∀ k l, look (upd c id (.rows k l)) id = some (.rows k l) := fun k l => look_updR k l hl
    have hne : ¬ n = id := by omega
    refine meetsH (E := (EG (glF m))) 280 [.tmp 8] Tryz.func34 rfl (by decide) rfl rfl (by simp) ?_
    repeat' first | ((with_reducible refine wr_isCall ?_); first | refine wr_P hv rfl ?_ | refine wr_P hca rfl ?_ | refine wr_P hcb rfl ?_) | (with_reducible first | refine t_seq ?_ | refine t_skip ?_ | refine t_ret ?_ | refine t_end ?_ | refine t_cond ?_ | refine t_region ?_ | refine wr_done ?_ | refine WD.done _ ?_ | refine wdp_done ?_ | refine wdg_done ?_ | refine tr_some ?_ | refine t_block ?_ | refine t_loop ?_ | refine t_inLoop ?_ | refine t_inBlock ?_) | ((with_reducible refine t_isDraw ?_); refine t_draw rfl (by kernel_rfl) ?_) | ((with_reducible refine t_isExit ?_); refine t_exit rfl ?_) | simp only [decide_eq_true_eq, decide_eq_false_iff_not, Bool.not_eq_true', Bool.not_eq_false'] at * | simp (disch := omega) only [go_sem, Nat.reduceLT, Nat.reduceEqDiff, Nat.reduceAdd, Nat.reduceLeDiff, Nat.reduceMul, Int.reduceLT, Int.reduceLE, Int.reduceAdd, Int.reduceSub, Int.reduceNeg, Int.reduceToNat, Int.reduceBEq, Int.reduceEq, reduceCtorEq, ↓reduceIte, *] | (with_reducible first | refine tb_true ?_ | refine tb_false ?_) | ((with_reducible first | refine tb_split ?_ ?_ | refine wg_f ?_ ?_ | refine wg_t ?_ ?_ | refine wd_f ?_ ?_ | refine wd_t ?_ ?_) <;> intro _)
    all_goals first | (exfalso; omega) | exact ⟨1, rfl, by simp only; omega⟩
  by_cases f2 : ca = 0
  case neg =>
    refine ⟨3, (fun h => absurd h (by decide)), (fun h => absurd (hst.1 h).2.1 f2), fun c id n hl hid => grow_forget ?_⟩
    clear hst
    have hu : ∀ k l, look (upd c id (.rows k l)) id = some (.rows k l) := fun k l => look_updR k l hl
    have hne : ¬ n = id := by omega
    refine meetsH (E := (EG (glF m))) 280 [.tmp 8] Tryz.func34 rfl (by decide) rfl rfl (by simp) ?_
    repeat' first | ((with_reducible refine wr_isCall ?_); first | refine wr_P hv rfl ?_ | refine wr_P hca rfl ?_ | refine wr_P hcb rfl ?_) | (with_reducible first | refine t_seq ?_ | refine t_skip ?_ | refine t_ret ?_ | refine t_end ?_ | refine t_cond ?_ | refine t_region ?_ | refine wr_done ?_ | refine WD.done _ ?_ | refine wdp_done ?_ | refine wdg_done ?_ | refine tr_some ?_ | refine t_block ?_ | refine t_loop ?_ | refine t_inLoop ?_ | refine t_inBlock ?_) | ((with_reducible refine t_isDraw ?_); refine t_draw rfl (by kernel_rfl) ?_) | ((with_reducible refine t_isExit ?_); refine t_exit rfl ?_) | simp only [decide_eq_true_eq, decide_eq_false_iff_not, Bool.not_eq_true', Bool.not_eq_false'] at * | simp (disch := omega) only [go_sem, Nat.reduceLT, Nat.reduceEqDiff, Nat.reduceAdd, Nat.reduceLeDiff, Nat.reduceMul, Int.reduceLT, Int.reduceLE, Int.reduceAdd, Int.reduceSub, Int.reduceNeg, Int.reduceToNat, Int.reduceBEq, Int.reduceEq, reduceCtorEq, ↓reduceIte, *] | (with_reducible first | refine tb_true ?_ | refine tb_false ?_) | ((with_reducible first | refine tb_split ?_ ?_ | refine wg_f ?_ ?_ | refine wg_t ?_ ?_ | refine wd_f ?_ ?_ | refine wd_t ?_ ?_) <;> intro _)
    all_goals first | (exfalso; omega) | exact ⟨1, rfl, by simp only; omega⟩
  by_cases f3 : cb = 0
  case neg =>
    refine ⟨3, (fun h => absurd h (by decide)), (fun h => absurd (hst.1 h).2.2.1 f3), fun c id n hl hid => grow_forget ?_⟩
    clear hst
    have hu : ∀ k l, look (upd c id (.rows k l)) id = some (.rows k l) := fun k l => look_updR k l hl
    have hne : ¬ n = id := by omega
    refine meetsH (E := (EG (glF m))) 280 [.tmp 8] Tryz.func34 rfl (by decide) rfl rfl (by simp) ?_
    repeat' first | ((with_reducible refine wr_isCall ?_); first | refine wr_P hv rfl ?_ | refine wr_P hca rfl ?_ | refine wr_P hcb rfl ?_) | (with_reducible first | refine t_seq ?_ | refine t_skip ?_ | refine t_ret ?_ | refine t_end ?_ | refine t_cond ?_ | refine t_region ?_ | refine wr_done ?_ | refine WD.done _ ?_ | refine wdp_done ?_ | refine wdg_done ?_ | refine tr_some ?_ | refine t_block ?_ | refine t_loop ?_ | refine t_inLoop ?_ | refine t_inBlock ?_) | ((with_reducible refine t_isDraw ?_); refine t_draw rfl (by kernel_rfl) ?_) | ((with_reducible refine t_isExit ?_); refine t_exit rfl ?_) | simp only [decide_eq_true_eq, decide_eq_false_iff_not, Bool.not_eq_true', Bool.not_eq_false'] at * | simp (disch := omega) only [go_sem, Nat.reduceLT, Nat.reduceEqDiff, Nat.reduceAdd, Nat.reduceLeDiff, Nat.reduceMul, Int.reduceLT, Int.reduceLE, Int.reduceAdd, Int.reduceSub, Int.reduceNeg, Int.reduceToNat, Int.reduceBEq, Int.reduceEq, reduceCtorEq, ↓reduceIte, *] | (with_reducible first | refine tb_true ?_ | refine tb_false ?_) | ((with_reducible first | refine tb_split ?_ ?_ | refine wg_f ?_ ?_ | refine wg_t ?_ ?_ | refine wd_f ?_ ?_ | refine wd_t ?_ ?_) <;> intro _)
    all_goals first | (exfalso; omega) | exact ⟨1, rfl, by simp only; omega⟩
  by_cases f4 : a ≤ b
  case neg =>
    refine ⟨3, (fun h => absurd h (by decide)), (fun h => absurd (hst.1 h).2.2.2 f4), fun c id n hl hid => grow_forget ?_⟩
    clear hst
    have hu : ∀ k l, look (upd c id (.rows k l)) id = some (.rows k l) := fun k l => look_updR k l hl
    have hne : ¬ n = id := by omega
    refine meetsH (E := (EG (glF m))) 280 [.tmp 8] Tryz.func34 rfl (by decide) rfl rfl (by simp) ?_
    repeat' first | ((with_reducible refine wr_isCall ?_); first | refine wr_P hv rfl ?_ | refine wr_P hca rfl ?_ | refine wr_P hcb rfl ?_) | (with_reducible first | refine t_seq ?_ | refine t_skip ?_ | refine t_ret ?_ | refine t_end ?_ | refine t_cond ?_ | refine t_region ?_ | refine wr_done ?_ | refine WD.done _ ?_ | refine wdp_done ?_ | refine wdg_done ?_ | refine tr_some ?_ | refine t_block ?_ | refine t_loop ?_ | refine t_inLoop ?_ | refine t_inBlock ?_) | ((with_reducible refine t_isDraw ?_); refine t_draw rfl (by kernel_rfl) ?_) | ((with_reducible refine t_isExit ?_); refine t_exit rfl ?_) | simp only [decide_eq_true_eq, decide_eq_false_iff_not, Bool.not_eq_true', Bool.not_eq_false'] at * | simp (disch := omega) only [go_sem, Nat.reduceLT, Nat.reduceEqDiff, Nat.reduceAdd, Nat.reduceLeDiff, Nat.reduceMul, Int.reduceLT, Int.reduceLE, Int.reduceAdd, Int.reduceSub, Int.reduceNeg, Int.reduceToNat, Int.reduceBEq, Int.reduceEq, reduceCtorEq, ↓reduceIte, *] | (with_reducible first | refine tb_true ?_ | refine tb_false ?_) | ((with_reducible first | refine tb_split ?_ ?_ | refine wg_f ?_ ?_ | refine wg_t ?_ ?_ | refine wd_f ?_ ?_ | refine wd_t ?_ ?_) <;> intro _)
    all_goals first | (exfalso; omega) | exact ⟨1, rfl, by simp only; omega⟩
  · refine ⟨0, (fun _ => hst.2 ⟨f1, f2, f3, f4⟩), (fun _ => rfl), fun c id n hl hid => grow_forget ?_⟩
    clear hst
    have hu : ∀ k l, look (upd c id (.rows k l)) id = some (.rows k l) := fun k l => look_updR k l hl
    have hne : ¬ n = id := by omega
    refine meetsH (E := (EG (glF m))) 280 [.tmp 8] Tryz.func34 rfl (by decide) rfl rfl (by simp) ?_
    repeat' first | ((with_reducible refine wr_isCall ?_); first | refine wr_P hv rfl ?_ | refine wr_P hca rfl ?_ | refine wr_P hcb rfl ?_) | (with_reducible first | refine t_seq ?_ | refine t_skip ?_ | refine t_ret ?_ | refine t_end ?_ | refine t_cond ?_ | refine t_region ?_ | refine wr_done ?_ | refine WD.done _ ?_ | refine wdp_done ?_ | refine wdg_done ?_ | refine tr_some ?_ | refine t_block ?_ | refine t_loop ?_ | refine t_inLoop ?_ | refine t_inBlock ?_) | ((with_reducible refine t_isDraw ?_); refine t_draw rfl (by kernel_rfl) ?_) | ((with_reducible refine t_isExit ?_); refine t_exit rfl ?_) | simp only [decide_eq_true_eq, decide_eq_false_iff_not, Bool.not_eq_true', Bool.not_eq_false'] at * | simp (disch := omega) only [go_sem, Nat.reduceLT, Nat.reduceEqDiff, Nat.reduceAdd, Nat.reduceLeDiff, Nat.reduceMul, Int.reduceLT, Int.reduceLE, Int.reduceAdd, Int.reduceSub, Int.reduceNeg, Int.reduceToNat, Int.reduceBEq, Int.reduceEq, reduceCtorEq, ↓reduceIte, *] | (with_reducible first | refine tb_true ?_ | refine tb_false ?_) | ((with_reducible first | refine tb_split ?_ ?_ | refine wg_f ?_ ?_ | refine wg_t ?_ ?_ | refine wd_f ?_ ?_ | refine wd_t ?_ ?_) <;> intro _)
    all_goals first | (exfalso; omega) | exact ⟨1, rfl, by simp only; omega⟩
end Go.Proofs.YthahgmncnbeddaaGreatDoorA
