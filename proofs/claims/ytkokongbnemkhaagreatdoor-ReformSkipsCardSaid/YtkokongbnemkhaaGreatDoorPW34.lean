/- ReformSkips as a contract. -/
import Derived.Test.YtkokongbnemkhaaGreatDoorPW33
import Derived.Test.YtkokongbnemkhaaGreatDoorND
set_option linter.unusedVariables false
set_option linter.unusedSimpArgs false
namespace Go.Proofs.YtkokongbnemkhaaGreatDoorA
open Go Go.RowKit Go.Proofs.YtkokongbnemkhaaGreatDoorFx Go.Proofs
variable {m : Int}
set_option maxRecDepth 100000 in
/-- What Jump answers at the second part. -/
theorem refJump (r : Ref) (hs : r.nm.length ≤ 140737488351232) (hr : r.Ok) (h2 : 2 ≤ r.ps.length) {y mo d e n e2 : Int} (hD : MeetsP Tryz.prog (glT m) 16 [.s (r.c 1), .i .i64 (r.f 1)] (resD (dateA y mo d) e))
    (hQ : e = 0 → MeetsP Tryz.prog (glT m) 32 [.s (r.c 0), dateA y mo d] (resD (.i .i64 n) e2)) (hn : e = 0 → e2 = 0 → -4000000 ≤ n ∧ n ≤ 4000000) :
    MeetsP Tryz.prog (glT m) 14 [r.A, .i .i64 1] (if e ≠ 0 then resD (.i .i64 0) e else if e2 ≠ 0 then resD (.i .i64 0) 6 else resD (.i .i64 (n - r.f 1)) 0) := by
  have hc := refCheckP (m := m) r hs
  rw [Ref.chk_ok.2 hr] at hc
  have hno := r.A_no
  have r0 := Ref.row (r := r) (i := 0) (by omega)
  have r1 := Ref.row (r := r) (i := 1) (by omega)
  have hlen := r.rows_len
  have hl2 := hr.l2
  have hf := hr.far 1 (by omega)
  have hf' : -4000000 ≤ r.f 1 ∧ r.f 1 ≤ 4000000 := by unfold chkDay at hf; split at hf <;> omega
  unfold resD dateA at *
  unfold Ref.A at hc hno ⊢
  generalize r.rows = R at *
  have c2 : ¬ (r.ps.length : Int) ≤ 1 := by omega
  by_cases he : e = 0
  · subst he
    have hQ' := hQ rfl
    rw [if_neg (by simp)]
    by_cases he2 : e2 = 0
    · subst he2
      rw [if_neg (by simp)]
      replace hn := hn rfl rfl
      refine meetsP (E := (EW m)) 65 [.tmp 4, .tmp 5] (ew m) Tryz.func14 rfl (by decide) rfl rfl (by simp) ?_
      repeat' first
        | ((with_reducible refine wr_isCall ?_); refine wr_P hc hno ?_)
        | ((with_reducible refine t_isDraw ?_); refine t_draw2 hD hQ' (by kernel_rfl) ?_)
        | (with_reducible refine t_seq ?_)
        | (with_reducible refine t_skip ?_)
        | (with_reducible refine t_ret ?_)
        | (with_reducible refine t_end ?_)
        | (with_reducible refine t_cond ?_)
        | (with_reducible refine t_region ?_)
        | (with_reducible refine wr_done ?_)
        | ((with_reducible refine t_isDraw ?_); refine t_draw rfl (by kernel_rfl) ?_)
        | (with_reducible refine WD.done _ ?_)
        | (with_reducible refine wdp_done ?_)
        | (with_reducible refine tr_some ?_)
        | ((fail_if_success with_reducible refine t_bl ?_); (with_reducible refine t_block ?_))
        | (with_reducible refine t_inBlock ?_)
        | ((with_reducible refine t_isExit ?_); refine t_exit rfl ?_)
        | simp only [decide_eq_true_eq, decide_eq_false_iff_not, Bool.not_eq_true', Bool.not_eq_false'] at *
        | simp (disch := omega) only [go_sem, Nat.reduceLT, Nat.reduceEqDiff, Nat.reduceAdd, Nat.reduceLeDiff, Nat.reduceMul, Int.reduceLT, Int.reduceLE, Int.reduceAdd, Int.reduceSub, Int.reduceNeg, Int.reduceToNat, Int.reduceBEq, Int.reduceEq, reduceCtorEq, List.take_succ_cons, List.take_zero, List.take_nil, List.drop_succ_cons, List.drop_nil, List.cons_append, List.nil_append, List.set_cons_zero, List.set_cons_succ, ↓reduceIte, *]
        | (with_reducible refine tb_true ?_)
        | (with_reducible refine tb_false ?_)
        | (with_reducible refine tb_split (fun _ => ?_) (fun _ => ?_))
        | (with_reducible refine wg_f (fun _ => ?_) (fun _ => ?_))
        | (with_reducible refine wg_t (fun _ => ?_) (fun _ => ?_))
        | (with_reducible refine wd_f (fun _ => ?_) (fun _ => ?_))
        | (with_reducible refine wd_t (fun _ => ?_) (fun _ => ?_))
      all_goals first | (exfalso; omega) | exact ⟨rfl, rfl⟩
    · rw [if_pos he2]
      refine meetsP (E := (EW m)) 65 [.tmp 4, .tmp 5] (ew m) Tryz.func14 rfl (by decide) rfl rfl (by simp) ?_
      repeat' first
        | ((with_reducible refine wr_isCall ?_); refine wr_P hc hno ?_)
        | ((with_reducible refine t_isDraw ?_); refine t_draw2 hD hQ' (by kernel_rfl) ?_)
        | (with_reducible refine t_seq ?_)
        | (with_reducible refine t_skip ?_)
        | (with_reducible refine t_ret ?_)
        | (with_reducible refine t_end ?_)
        | (with_reducible refine t_cond ?_)
        | (with_reducible refine t_region ?_)
        | (with_reducible refine wr_done ?_)
        | ((with_reducible refine t_isDraw ?_); refine t_draw rfl (by kernel_rfl) ?_)
        | (with_reducible refine WD.done _ ?_)
        | (with_reducible refine wdp_done ?_)
        | (with_reducible refine tr_some ?_)
        | ((fail_if_success with_reducible refine t_bl ?_); (with_reducible refine t_block ?_))
        | (with_reducible refine t_inBlock ?_)
        | ((with_reducible refine t_isExit ?_); refine t_exit rfl ?_)
        | simp only [decide_eq_true_eq, decide_eq_false_iff_not, Bool.not_eq_true', Bool.not_eq_false'] at *
        | simp (disch := omega) only [go_sem, Nat.reduceLT, Nat.reduceEqDiff, Nat.reduceAdd, Nat.reduceLeDiff, Nat.reduceMul, Int.reduceLT, Int.reduceLE, Int.reduceAdd, Int.reduceSub, Int.reduceNeg, Int.reduceToNat, Int.reduceBEq, Int.reduceEq, reduceCtorEq, List.take_succ_cons, List.take_zero, List.take_nil, List.drop_succ_cons, List.drop_nil, List.cons_append, List.nil_append, List.set_cons_zero, List.set_cons_succ, ↓reduceIte, *]
        | (with_reducible refine tb_true ?_)
        | (with_reducible refine tb_false ?_)
        | (with_reducible refine tb_split (fun _ => ?_) (fun _ => ?_))
        | (with_reducible refine wg_f (fun _ => ?_) (fun _ => ?_))
        | (with_reducible refine wg_t (fun _ => ?_) (fun _ => ?_))
        | (with_reducible refine wd_f (fun _ => ?_) (fun _ => ?_))
        | (with_reducible refine wd_t (fun _ => ?_) (fun _ => ?_))
      all_goals first | (exfalso; omega) | exact ⟨rfl, rfl⟩
  · rw [if_pos he]
    refine meetsP (E := (EW m)) 65 [.tmp 4, .tmp 5] (ew m) Tryz.func14 rfl (by decide) rfl rfl (by simp) ?_
    repeat' first
      | ((with_reducible refine wr_isCall ?_); refine wr_P hc hno ?_)
      | ((with_reducible refine t_isDraw ?_); refine t_draw1 hD (by kernel_rfl) ?_)
      | (with_reducible refine t_seq ?_)
      | (with_reducible refine t_skip ?_)
      | (with_reducible refine t_ret ?_)
      | (with_reducible refine t_end ?_)
      | (with_reducible refine t_cond ?_)
      | (with_reducible refine t_region ?_)
      | (with_reducible refine wr_done ?_)
      | ((with_reducible refine t_isDraw ?_); refine t_draw rfl (by kernel_rfl) ?_)
      | (with_reducible refine WD.done _ ?_)
      | (with_reducible refine wdp_done ?_)
      | (with_reducible refine tr_some ?_)
      | ((fail_if_success with_reducible refine t_bl ?_); (with_reducible refine t_block ?_))
      | (with_reducible refine t_inBlock ?_)
      | ((with_reducible refine t_isExit ?_); refine t_exit rfl ?_)
      | simp only [decide_eq_true_eq, decide_eq_false_iff_not, Bool.not_eq_true', Bool.not_eq_false'] at *
      | simp (disch := omega) only [go_sem, Nat.reduceLT, Nat.reduceEqDiff, Nat.reduceAdd, Nat.reduceLeDiff, Nat.reduceMul, Int.reduceLT, Int.reduceLE, Int.reduceAdd, Int.reduceSub, Int.reduceNeg, Int.reduceToNat, Int.reduceBEq, Int.reduceEq, reduceCtorEq, List.take_succ_cons, List.take_zero, List.take_nil, List.drop_succ_cons, List.drop_nil, List.cons_append, List.nil_append, List.set_cons_zero, List.set_cons_succ, ↓reduceIte, *]
      | (with_reducible refine tb_true ?_)
      | (with_reducible refine tb_false ?_)
      | (with_reducible refine tb_split (fun _ => ?_) (fun _ => ?_))
      | (with_reducible refine wg_f (fun _ => ?_) (fun _ => ?_))
      | (with_reducible refine wg_t (fun _ => ?_) (fun _ => ?_))
      | (with_reducible refine wd_f (fun _ => ?_) (fun _ => ?_))
      | (with_reducible refine wd_t (fun _ => ?_) (fun _ => ?_))
    all_goals first | (exfalso; omega) | exact ⟨rfl, rfl⟩
end Go.Proofs.YtkokongbnemkhaaGreatDoorA
