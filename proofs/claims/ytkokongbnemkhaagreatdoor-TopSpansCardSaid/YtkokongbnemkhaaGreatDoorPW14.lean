/- The catalog's calendars, by the program. -/
import Derived.Test.YtkokongbnemkhaaGreatDoorPW13
set_option linter.unusedVariables false
set_option linter.unusedSimpArgs false
namespace Go.Proofs.YtkokongbnemkhaaGreatDoorA
open Go Go.RowKit Go.Proofs.YtkokongbnemkhaaGreatDoorFx Go.Proofs
variable {m : Int} {r : CatRow} {k : Nat}
set_option maxRecDepth 100000 in
theorem calP (h : (r, k) ∈ catT.zipIdx) : MeetsP Tryz.prog (glT m) 26 [.s r.name] (.tup [(calOf k r).A, .i .i64 0]) := by
  have h1 := textP (m := m) (row_mem h)
  have h2 := parseP (m := m) h
  have h3 := compP (m := m) h
  obtain ⟨x1, x2, x3, x4, x5, x6, x7, hx, z1⟩ : ∃ x1 x2 x3 x4 x5 x6 x7, treeA k r = .agg [x1, x2, x3, x4, x5, x6, x7] ∧ ([x1, x2, x3, x4, x5, x6, x7].all fun a => one a && noid 11 a) = true := by
    unfold treeA monA
    cases (leapOf k) <;> exact ⟨_, _, _, _, _, _, _, rfl, rfl⟩
  simp only [List.all_cons, List.all_nil, Bool.and_true, Bool.and_eq_true] at z1
  obtain ⟨⟨p1, q1⟩, ⟨p2, q2⟩, ⟨p3, q3⟩, ⟨p4, q4⟩, ⟨p5, q5⟩, ⟨p6, q6⟩, p7, q7⟩ := z1
  have hno : ([AV.agg [x1, x2, x3, x4, x5, x6, x7]].all (noid 12)) = true := by simp only [List.all_cons, List.all_nil, noid_agg, Bool.and_true, *]
  obtain ⟨y1, y2, y3, y4, y5, hy, o1, o2, o3, o4, o5⟩ : ∃ y1 y2 y3 y4 y5, (calOf k r).A = .agg [y1, y2, y3, y4, y5] ∧ one y1 = true ∧ one y2 = true ∧ one y3 = true ∧ one y4 = true ∧ one y5 = true := ⟨_, _, _, _, _, rfl, rfl, rfl, rfl, rfl, rfl⟩
  have hf : ∀ h, fz h 12 (.tup [(calOf k r).A, .i .i64 0]) = .tup [(calOf k r).A, .i .i64 0] := fun h => rfl
  have hn2 : noid 12 (.tup [(calOf k r).A, .i .i64 0]) = true := rfl
  rw [hx] at h2 h3
  rw [hy] at h3 hf hn2 ⊢
  refine meetsP (E := (EW m)) 31 [.cell 2 62, .tmp 3] (ew m) Tryz.func26 rfl (by decide) rfl rfl (by simp) ?_
  repeat' first
    | ((with_reducible refine wr_isCall ?_); refine wr_P h1 rfl ?_)
    | ((with_reducible refine wr_isCall ?_); refine wr_P h2 rfl ?_)
    | ((with_reducible refine wr_isCall ?_); refine wr_P h3 hno ?_)
    | (with_reducible refine t_seq ?_)
    | (with_reducible refine t_skip ?_)
    | (with_reducible refine t_ret ?_)
    | (with_reducible refine t_end ?_)
    | (with_reducible refine t_cond ?_)
    | (with_reducible refine t_region ?_)
    | (with_reducible refine wr_done ?_)
    | ((with_reducible refine t_isDraw ?_); refine t_draw rfl (by kernel_rfl) ?_)
    | (with_reducible refine WD.done _ ?_)
    | (with_reducible refine wdp_done ?_)
    | (with_reducible refine tr_some ?_)
    | ((fail_if_success with_reducible refine t_bl ?_); (with_reducible refine t_block ?_))
    | (with_reducible refine t_inBlock ?_)
    | ((with_reducible refine t_isExit ?_); refine t_exit rfl ?_)
    | simp only [decide_eq_true_eq, decide_eq_false_iff_not, Bool.not_eq_true', Bool.not_eq_false'] at *
    | simp (disch := omega) only [go_sem, Nat.reduceLT, Nat.reduceEqDiff, Nat.reduceAdd, Nat.reduceLeDiff, Nat.reduceMul, Int.reduceLT, Int.reduceLE, Int.reduceAdd, Int.reduceSub, Int.reduceNeg, Int.reduceToNat, Int.reduceBEq, Int.reduceEq, reduceCtorEq, List.take_succ_cons, List.take_zero, List.take_nil, List.drop_succ_cons, List.drop_nil, List.cons_append, List.nil_append, List.set_cons_zero, List.set_cons_succ, ↓reduceIte, *]
    | (with_reducible refine tb_true ?_)
    | (with_reducible refine tb_false ?_)
    | (with_reducible refine tb_split (fun _ => ?_) (fun _ => ?_))
    | (with_reducible refine wg_f (fun _ => ?_) (fun _ => ?_))
    | (with_reducible refine wg_t (fun _ => ?_) (fun _ => ?_))
    | (with_reducible refine wd_f (fun _ => ?_) (fun _ => ?_))
    | (with_reducible refine wd_t (fun _ => ?_) (fun _ => ?_))
  exact ⟨hf _, hn2⟩
end Go.Proofs.YtkokongbnemkhaaGreatDoorA
