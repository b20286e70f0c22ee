/- ArithBack, CatalogGregorian .. : the laws over the catalog as contracts. -/
import Derived.Test.YtdkifonomakcbaaGreatDoorPW15
set_option linter.unusedVariables false
set_option linter.unusedSimpArgs false
namespace Go.Proofs.YtdkifonomakcbaaGreatDoorA
open Go Go.RowKit Go.Proofs.YtdkifonomakcbaaGreatDoorFx Go.Proofs
variable {m : Int}
/-- The calendar that a number picks. -/
def calAt (a : Int) : Cal := calOf (pick a) (rowAt a)
theorem calAt_good (a : Int) : (calAt a).Good m := calGood (pick_mem a)
theorem calAtP (a : Int) : MeetsP Tryz.prog (glT m) 10 [.s (rowAt a).name] (.tup [(calAt a).A, .i .i64 0]) := calP (pick_mem a)
/-- What FromDay answers. -/
theorem fromDay_all {c : Cal} (hc : c.Good m) (day : Int) : MeetsP Tryz.prog (glT m) 13 [c.A, .i .i64 day] (resD (dateA 0 0 0) 3) ∨ ∃ y mo, c.At day y mo := by
  rcases hc.toOk.at_or day with h | ⟨h, ho⟩ | h
  · exact .inl (fromDay_far hc h)
  · exact .inl (fromDay_out hc h ho)
  · exact .inr h
theorem Cal.At.back {c : Cal} {day y : Int} {mo : Nat} (h : c.At day y mo) (hc : c.Good m) : MeetsP Tryz.prog (glT m) 15 [c.A, dateA y (mo + 1) (day - c.first y + 1 - c.bef y mo)] (resD (.i .i64 day) 0) := by
  have h1 := h.r1
  have h2 := h.r2
  rw [show c.bef y (mo + 1) = c.bef y mo + c.mlen y (mo + 1) from rfl] at h2
  have p := toDayP (m := m) hc (y := y) (d := day - c.first y + 1 - c.bef y mo) (mo := mo) h.y1 h.y2 h.hmo (by omega) (by omega)
  rw [show c.first y + (day - c.first y + 1 - c.bef y mo) - 1 + c.bef y mo = day by omega, if_pos h.far] at p
  exact p
set_option maxRecDepth 100000 in
theorem arithBackP (k day : Int) : MeetsP Tryz.prog (glT m) 4 [.i .i64 k, .i .i64 day] (.b true) := by
  have hk := knownP (m := m)
  have hn := nameP (m := m) k
  have hc := calAtP (m := m) k
  have hct := kcutP (m := m) (a := day) (lo := -1500000) (n := 2900000) (by omega) (by omega) (by omega) (by omega)
  have hg := calAt_good (m := m) k
  generalize -1500000 + day % 2900000 = D at hct
  rcases fromDay_all hg D with hf | ⟨y, mo, hat⟩
  · obtain ⟨y1, y2, y3, y4, y5, hy, ⟨o1, o2, o3, o4, o5⟩, n1, n2⟩ := (calAt k).A_parts
    rw [hy] at hc hf
    unfold resD dateA at *
    refine meetsP (E := (EW m)) 43 [.tmp 4] (ew m) Tryz.func4 rfl (by decide) rfl rfl (by simp) ?_
    repeat' first
      | ((with_reducible refine wr_isCall ?_); refine wr_P hk rfl ?_)
      | ((with_reducible refine wr_isCall ?_); refine wr_P hn rfl ?_)
      | ((with_reducible refine wr_isCall ?_); refine wr_P hc rfl ?_)
      | ((with_reducible refine wr_isCall ?_); refine wr_P hct rfl ?_)
      | ((with_reducible refine wr_isCall ?_); refine wr_P hf (n2 _) ?_)
      | (with_reducible refine t_seq ?_)
      | (with_reducible refine t_skip ?_)
      | (with_reducible refine t_ret ?_)
      | (with_reducible refine t_end ?_)
      | (with_reducible refine t_cond ?_)
      | (with_reducible refine t_region ?_)
      | (with_reducible refine wr_done ?_)
      | ((with_reducible refine t_isDraw ?_); refine t_draw rfl (by kernel_rfl) ?_)
      | (with_reducible refine WD.done _ ?_)
      | (with_reducible refine wdp_done ?_)
      | (with_reducible refine tr_some ?_)
      | ((fail_if_success with_reducible refine t_bl ?_); (with_reducible refine t_block ?_))
      | (with_reducible refine t_inBlock ?_)
      | ((with_reducible refine t_isExit ?_); refine t_exit rfl ?_)
      | simp only [decide_eq_true_eq, decide_eq_false_iff_not, Bool.not_eq_true', Bool.not_eq_false'] at *
      | simp (disch := omega) only [go_sem, Nat.reduceLT, Nat.reduceEqDiff, Nat.reduceAdd, Nat.reduceLeDiff, Nat.reduceMul, Int.reduceLT, Int.reduceLE, Int.reduceAdd, Int.reduceSub, Int.reduceNeg, Int.reduceToNat, Int.reduceBEq, Int.reduceEq, reduceCtorEq, List.take_succ_cons, List.take_zero, List.take_nil, List.drop_succ_cons, List.drop_nil, List.cons_append, List.nil_append, List.set_cons_zero, List.set_cons_succ, ↓reduceIte, *]
      | (with_reducible refine tb_true ?_)
      | (with_reducible refine tb_false ?_)
      | (with_reducible refine tb_split (fun _ => ?_) (fun _ => ?_))
      | (with_reducible refine wg_f (fun _ => ?_) (fun _ => ?_))
      | (with_reducible refine wg_t (fun _ => ?_) (fun _ => ?_))
      | (with_reducible refine wd_f (fun _ => ?_) (fun _ => ?_))
      | (with_reducible refine wd_t (fun _ => ?_) (fun _ => ?_))
    exact ⟨rfl, rfl⟩
  · have hf := hat.run hg
    have hb := hat.back hg
    generalize D - (calAt k).first y + 1 - (calAt k).bef y mo = Dd at *
    generalize ((mo : Int) + 1) = M at *
    obtain ⟨y1, y2, y3, y4, y5, hy, ⟨o1, o2, o3, o4, o5⟩, n1, n2⟩ := (calAt k).A_parts
    rw [hy] at hc hf hb
    unfold resD dateA at *
    refine meetsP (E := (EW m)) 43 [.tmp 4] (ew m) Tryz.func4 rfl (by decide) rfl rfl (by simp) ?_
    repeat' first
      | ((with_reducible refine wr_isCall ?_); refine wr_P hk rfl ?_)
      | ((with_reducible refine wr_isCall ?_); refine wr_P hn rfl ?_)
      | ((with_reducible refine wr_isCall ?_); refine wr_P hc rfl ?_)
      | ((with_reducible refine wr_isCall ?_); refine wr_P hct rfl ?_)
      | ((with_reducible refine wr_isCall ?_); refine wr_P hf (n2 _) ?_)
      | ((with_reducible refine wr_isCall ?_); refine wr_P hb (n2 _) ?_)
      | (with_reducible refine t_seq ?_)
      | (with_reducible refine t_skip ?_)
      | (with_reducible refine t_ret ?_)
      | (with_reducible refine t_end ?_)
      | (with_reducible refine t_cond ?_)
      | (with_reducible refine t_region ?_)
      | (with_reducible refine wr_done ?_)
      | ((with_reducible refine t_isDraw ?_); refine t_draw rfl (by kernel_rfl) ?_)
      | (with_reducible refine WD.done _ ?_)
      | (with_reducible refine wdp_done ?_)
      | (with_reducible refine tr_some ?_)
      | ((fail_if_success with_reducible refine t_bl ?_); (with_reducible refine t_block ?_))
      | (with_reducible refine t_inBlock ?_)
      | ((with_reducible refine t_isExit ?_); refine t_exit rfl ?_)
      | simp only [decide_eq_true_eq, decide_eq_false_iff_not, Bool.not_eq_true', Bool.not_eq_false'] at *
      | simp (disch := omega) only [go_sem, Nat.reduceLT, Nat.reduceEqDiff, Nat.reduceAdd, Nat.reduceLeDiff, Nat.reduceMul, Int.reduceLT, Int.reduceLE, Int.reduceAdd, Int.reduceSub, Int.reduceNeg, Int.reduceToNat, Int.reduceBEq, Int.reduceEq, reduceCtorEq, List.take_succ_cons, List.take_zero, List.take_nil, List.drop_succ_cons, List.drop_nil, List.cons_append, List.nil_append, List.set_cons_zero, List.set_cons_succ, ↓reduceIte, *]
      | (with_reducible refine tb_true ?_)
      | (with_reducible refine tb_false ?_)
      | (with_reducible refine tb_split (fun _ => ?_) (fun _ => ?_))
      | (with_reducible refine wg_f (fun _ => ?_) (fun _ => ?_))
      | (with_reducible refine wg_t (fun _ => ?_) (fun _ => ?_))
      | (with_reducible refine wd_f (fun _ => ?_) (fun _ => ?_))
      | (with_reducible refine wd_t (fun _ => ?_) (fun _ => ?_))
    exact ⟨rfl, rfl⟩
end Go.Proofs.YtdkifonomakcbaaGreatDoorA
