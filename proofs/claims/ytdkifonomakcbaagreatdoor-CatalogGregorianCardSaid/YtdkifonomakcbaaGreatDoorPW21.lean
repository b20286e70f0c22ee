/- CatalogGregorian as a contract. -/
import Derived.Test.YtdkifonomakcbaaGreatDoorPW20
set_option linter.unusedVariables false
set_option linter.unusedSimpArgs false
namespace Go.Proofs.YtdkifonomakcbaaGreatDoorA
open Go Go.RowKit Go.Proofs.YtdkifonomakcbaaGreatDoorFx Go.Proofs
variable {m : Int}
attribute [go_sem] beq_self_eq_true
set_option maxRecDepth 100000 in
theorem catalogGregorianP (day : Int) : MeetsP Tryz.prog (glT m) 6 [.i .i64 day] (.b true) := by
  have hk := knownP (m := m)
  have hct := kcutP (m := m) (a := day) (lo := -3600000) (n := 7200000) (by omega) (by omega) (by omega) (by omega)
  have hm1 := Int.emod_nonneg day (show (7200000 : Int) ≠ 0 by omega)
  have hm2 := Int.emod_lt_of_pos day (show (0 : Int) < 7200000 by omega)
  generalize hY : -3600000 + day % 7200000 = D at hct
  have hD1 : -3600000 ≤ D := by omega
  have hD2 : D < 3600000 := by omega
  clear hY hm1 hm2
  obtain ⟨y, mo, hat⟩ : ∃ y mo, greg.At D y mo := by
    rcases (calOk gregIn).at_or D with h | ⟨_, h⟩ | h
    · unfold chkDay at h; split at h <;> omega
    · have f1 := greg_first (-10000)
      have f2 := greg_first 10001
      have b1 : bg (-10000) ≤ -3640000 := by unfold bg; omega
      have b2 : 3640000 ≤ bg 10001 := by unfold bg; omega
      unfold greg at f1 f2
      exfalso; omega
    · exact h
  have h1 := lineDateP (m := m) hat
  have h2 := dateP (m := m) gregIn (hat.run (calGood gregIn))
  rw [greg_first, show D - (bg y + 1) + 1 - greg.bef y mo = D - bg y - greg.bef y mo by omega] at h2
  generalize D - bg y - greg.bef y mo = Dd at *
  generalize ((mo : Int) + 1) = M at *
  replace h2 : MeetsP Tryz.prog (glT m) 18 [.s [103, 114, 101, 103, 111, 114, 105, 97, 110], .i .i64 D] (resD (dateA y M Dd) 0) := h2
  unfold resD dateA at *
  refine meetsP (E := (EW m)) 28 [.tmp 2] (ew m) Tryz.func6 rfl (by decide) rfl rfl (by simp) ?_
  repeat' first
    | ((with_reducible refine wr_isCall ?_); refine wr_P hk rfl ?_)
    | ((with_reducible refine wr_isCall ?_); refine wr_P hct rfl ?_)
    | ((with_reducible refine wr_isCall ?_); refine wr_P h1 rfl ?_)
    | ((with_reducible refine wr_isCall ?_); refine wr_P h2 rfl ?_)
    | (with_reducible refine t_seq ?_)
    | (with_reducible refine t_skip ?_)
    | (with_reducible refine t_ret ?_)
    | (with_reducible refine t_end ?_)
    | (with_reducible refine t_cond ?_)
    | (with_reducible refine t_region ?_)
    | (with_reducible refine wr_done ?_)
    | ((with_reducible refine t_isDraw ?_); refine t_draw rfl (by kernel_rfl) ?_)
    | (with_reducible refine WD.done _ ?_)
    | (with_reducible refine wdp_done ?_)
    | (with_reducible refine tr_some ?_)
    | ((fail_if_success with_reducible refine t_bl ?_); (with_reducible refine t_block ?_))
    | (with_reducible refine t_inBlock ?_)
    | ((with_reducible refine t_isExit ?_); refine t_exit rfl ?_)
    | simp only [decide_eq_true_eq, decide_eq_false_iff_not, Bool.not_eq_true', Bool.not_eq_false'] at *
    | simp (disch := omega) only [go_sem, Nat.reduceLT, Nat.reduceEqDiff, Nat.reduceAdd, Nat.reduceLeDiff, Nat.reduceMul, Int.reduceLT, Int.reduceLE, Int.reduceAdd, Int.reduceSub, Int.reduceNeg, Int.reduceToNat, Int.reduceBEq, Int.reduceEq, reduceCtorEq, List.take_succ_cons, List.take_zero, List.take_nil, List.drop_succ_cons, List.drop_nil, List.cons_append, List.nil_append, List.set_cons_zero, List.set_cons_succ, ↓reduceIte, *]
    | (with_reducible refine tb_true ?_)
    | (with_reducible refine tb_false ?_)
    | (with_reducible refine tb_split (fun _ => ?_) (fun _ => ?_))
    | (with_reducible refine wg_f (fun _ => ?_) (fun _ => ?_))
    | (with_reducible refine wg_t (fun _ => ?_) (fun _ => ?_))
    | (with_reducible refine wd_f (fun _ => ?_) (fun _ => ?_))
    | (with_reducible refine wd_t (fun _ => ?_) (fun _ => ?_))
  exact ⟨rfl, rfl⟩
end Go.Proofs.YtdkifonomakcbaaGreatDoorA
