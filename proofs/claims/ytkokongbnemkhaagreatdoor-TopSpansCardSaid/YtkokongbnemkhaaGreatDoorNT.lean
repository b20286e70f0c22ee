/- line.Split, span.add, span.Check, span.Add. -/
import Derived.Test.YtkokongbnemkhaaGreatDoorNS
import Derived.Test.YtkokongbnemkhaaGreatDoorPW15
import Derived.Test.YtkokongbnemkhaaGreatDoorND
set_option linter.unusedVariables false
set_option linter.unusedSimpArgs false
namespace Go.Proofs.YtkokongbnemkhaaGreatDoorA
open Go Go.RowKit Go.Proofs.YtkokongbnemkhaaGreatDoorFx Go.Proofs
variable {m : Int} {c : Cal}
def splitR (t : Int) : AV := if chkDay (t / 86400000) = 0 then .tup [.i .i64 (t / 86400000), .i .i64 (t % 86400000), .i .i64 0] else .tup [.i .i64 0, .i .i64 0, .i .i64 3]
set_option maxRecDepth 100000 in
theorem splitP {t : Int} (h1 : -1000000000000000 ≤ t) (h2 : t ≤ 1000000000000000) : MeetsP Tryz.prog (glT m) 38 [.i .i64 t] (splitR t) := by
  have hd := divP (m := m) (a := t) (b := 86400000) h1 h2 (by omega) (by omega)
  have hc := lineCheck (m := m) (t / 86400000)
  unfold splitR
  generalize t / 86400000 = q at *
  generalize t % 86400000 = r at *
  by_cases hq : chkDay q = 0
  · rw [hq] at hc
    rw [if_pos hq]
    refine meetsP (E := (EW m)) 22 [.tmp 2, .tmp 3, .tmp 4] (ew m) Tryz.func38 rfl (by decide) rfl rfl (by simp) ?_
    repeat' first
      | ((with_reducible refine wr_isCall ?_); refine wr_P hd rfl ?_)
      | ((with_reducible refine wr_isCall ?_); refine wr_P hc rfl ?_)
      | (with_reducible refine t_seq ?_)
      | (with_reducible refine t_skip ?_)
      | (with_reducible refine t_ret ?_)
      | (with_reducible refine t_end ?_)
      | (with_reducible refine t_cond ?_)
      | (with_reducible refine t_region ?_)
      | (with_reducible refine wr_done ?_)
      | ((with_reducible refine t_isDraw ?_); refine t_draw rfl (by kernel_rfl) ?_)
      | (with_reducible refine WD.done _ ?_)
      | (with_reducible refine wdp_done ?_)
      | (with_reducible refine tr_some ?_)
      | ((fail_if_success with_reducible refine t_bl ?_); (with_reducible refine t_block ?_))
      | (with_reducible refine t_inBlock ?_)
      | ((with_reducible refine t_isExit ?_); refine t_exit rfl ?_)
      | simp only [decide_eq_true_eq, decide_eq_false_iff_not, Bool.not_eq_true', Bool.not_eq_false'] at *
      | simp (disch := omega) only [go_sem, Nat.reduceLT, Nat.reduceEqDiff, Nat.reduceAdd, Nat.reduceLeDiff, Nat.reduceMul, Int.reduceLT, Int.reduceLE, Int.reduceAdd, Int.reduceSub, Int.reduceNeg, Int.reduceToNat, Int.reduceBEq, Int.reduceEq, reduceCtorEq, List.take_succ_cons, List.take_zero, List.take_nil, List.drop_succ_cons, List.drop_nil, List.cons_append, List.nil_append, List.set_cons_zero, List.set_cons_succ, ↓reduceIte, *]
      | (with_reducible refine tb_true ?_)
      | (with_reducible refine tb_false ?_)
      | (with_reducible refine tb_split (fun _ => ?_) (fun _ => ?_))
      | (with_reducible refine wg_f (fun _ => ?_) (fun _ => ?_))
      | (with_reducible refine wg_t (fun _ => ?_) (fun _ => ?_))
      | (with_reducible refine wd_f (fun _ => ?_) (fun _ => ?_))
      | (with_reducible refine wd_t (fun _ => ?_) (fun _ => ?_))
    all_goals first | (exfalso; omega) | exact ⟨rfl, rfl⟩
  · have hq3 : chkDay q = 3 := by unfold chkDay at hq ⊢; split <;> simp_all
    rw [hq3] at hc
    rw [if_neg hq]
    refine meetsP (E := (EW m)) 22 [.tmp 2, .tmp 3, .tmp 4] (ew m) Tryz.func38 rfl (by decide) rfl rfl (by simp) ?_
    repeat' first
      | ((with_reducible refine wr_isCall ?_); refine wr_P hd rfl ?_)
      | ((with_reducible refine wr_isCall ?_); refine wr_P hc rfl ?_)
      | (with_reducible refine t_seq ?_)
      | (with_reducible refine t_skip ?_)
      | (with_reducible refine t_ret ?_)
      | (with_reducible refine t_end ?_)
      | (with_reducible refine t_cond ?_)
      | (with_reducible refine t_region ?_)
      | (with_reducible refine wr_done ?_)
      | ((with_reducible refine t_isDraw ?_); refine t_draw rfl (by kernel_rfl) ?_)
      | (with_reducible refine WD.done _ ?_)
      | (with_reducible refine wdp_done ?_)
      | (with_reducible refine tr_some ?_)
      | ((fail_if_success with_reducible refine t_bl ?_); (with_reducible refine t_block ?_))
      | (with_reducible refine t_inBlock ?_)
      | ((with_reducible refine t_isExit ?_); refine t_exit rfl ?_)
      | simp only [decide_eq_true_eq, decide_eq_false_iff_not, Bool.not_eq_true', Bool.not_eq_false'] at *
      | simp (disch := omega) only [go_sem, Nat.reduceLT, Nat.reduceEqDiff, Nat.reduceAdd, Nat.reduceLeDiff, Nat.reduceMul, Int.reduceLT, Int.reduceLE, Int.reduceAdd, Int.reduceSub, Int.reduceNeg, Int.reduceToNat, Int.reduceBEq, Int.reduceEq, reduceCtorEq, List.take_succ_cons, List.take_zero, List.take_nil, List.drop_succ_cons, List.drop_nil, List.cons_append, List.nil_append, List.set_cons_zero, List.set_cons_succ, ↓reduceIte, *]
      | (with_reducible refine tb_true ?_)
      | (with_reducible refine tb_false ?_)
      | (with_reducible refine tb_split (fun _ => ?_) (fun _ => ?_))
      | (with_reducible refine wg_f (fun _ => ?_) (fun _ => ?_))
      | (with_reducible refine wg_t (fun _ => ?_) (fun _ => ?_))
      | (with_reducible refine wd_f (fun _ => ?_) (fun _ => ?_))
      | (with_reducible refine wd_t (fun _ => ?_) (fun _ => ?_))
    all_goals first | (exfalso; omega) | exact ⟨rfl, rfl⟩
theorem chkDay_b {d : Int} (h : chkDay d = 0) : -4000000 ≤ d ∧ d ≤ 4000000 := by unfold chkDay at h; split at h <;> omega
theorem chkDay_3 {d : Int} (h : ¬ chkDay d = 0) : chkDay d = 3 := by unfold chkDay at h ⊢; split <;> simp_all
set_option maxRecDepth 100000 in
set_option maxHeartbeats 4000000 in
/-- A duration added to an instant. -/
theorem addP (hc : c.Good m) {t : Int} (ht : chkDay (t / 86400000) = 0) {N E : Nat → Nat → Int} (hm : Moved m c (t / 86400000) N E) {Y M : Nat} (hY : Y ≤ 10000) (hM : M ≤ 10000) {D Ms : Int} (hD : -10000000 ≤ D ∧ D ≤ 10000000) (hMs : -400000000000000 ≤ Ms ∧ Ms ≤ 400000000000000) :
    MeetsP Tryz.prog (glT m) 40 [c.A, .i .i64 t, .agg [.i .i64 Y, .i .i64 M, .i .i64 D, .i .i64 Ms]] (spR N E (t % 86400000) Y M D Ms) := by
  have tb := chkDay_b ht
  have hs1 := splitP (m := m) (t := t) (by omega) (by omega)
  unfold splitR at hs1
  rw [if_pos ht] at hs1
  have hz := hm.zero
  have hrun := hm.run Y M hY hM
  have hfar := hm.far Y M
  have hr1 : 0 ≤ t % 86400000 ∧ t % 86400000 < 86400000 := by omega
  generalize t / 86400000 = q at *
  generalize t % 86400000 = r at *
  have key : ∀ (n : Int), chkDay n = 0 → MeetsP Tryz.prog (glT m) 33 [.i .i64 (n + D)] (.i .i64 (chkDay (n + D))) ∧ (chkDay (n + D) = 0 → MeetsP Tryz.prog (glT m) 38 [.i .i64 ((n + D) * 86400000 + r + Ms)] (splitR ((n + D) * 86400000 + r + Ms))) := fun n hn => by
    have nb := chkDay_b hn
    refine ⟨lineCheck (m := m) _, fun h => ?_⟩
    have nb2 := chkDay_b h
    exact splitP (by omega) (by omega)
  unfold spR
  obtain ⟨y1, y2, y3, y4, y5, hy, ⟨o1, o2, o3, o4, o5⟩, n1, n2⟩ := c.A_parts
  have n4 : ∀ a b c, [AV.agg [y1, y2, y3, y4, y5], .i .i64 a, .i .i64 b, .i .i64 c].all (noid 12) = true := fun a b c => by
    simp only [List.all_cons, List.all_nil, Bool.and_true] at n1 ⊢
    rw [n1]; rfl
  rw [hy] at hrun ⊢
  generalize hN : N Y M = n at *
  generalize hE : E Y M = e at *
  by_cases h0 : Y = 0 ∧ M = 0
  · obtain ⟨rfl, rfl⟩ := h0
    obtain ⟨z1, z2⟩ := hz
    rw [hN] at z1
    rw [hE] at z2
    subst z1 z2
    rw [if_neg (by simp)]
    obtain ⟨k1, k2⟩ := key n ht
    have nb := chkDay_b ht
    clear key hrun hfar
    by_cases hc1 : chkDay (n + D) = 0
    · have k3 := k2 hc1
      have nb2 := chkDay_b hc1
      rw [hc1] at k1
      rw [if_neg (by simp [hc1])]
      clear k2
      unfold splitR at k3
      by_cases hc2 : chkDay (((n + D) * 86400000 + r + Ms) / 86400000) = 0
      · rw [if_pos hc2] at k3
        rw [if_neg (by simp [hc2])]
        unfold resD
        refine meetsP (E := (EW m)) 72 [.tmp 6, .tmp 7] (ew m) Tryz.func40 rfl (by decide) rfl rfl (by simp) ?_
        repeat' first
          | ((with_reducible refine wr_isCall ?_); refine wr_P hs1 rfl ?_)
          | ((with_reducible refine wr_isCall ?_); refine wr_P k1 rfl ?_)
          | ((with_reducible refine wr_isCall ?_); refine wr_P k3 rfl ?_)
          | (with_reducible refine t_seq ?_)
          | (with_reducible refine t_skip ?_)
          | (with_reducible refine t_ret ?_)
          | (with_reducible refine t_end ?_)
          | (with_reducible refine t_cond ?_)
          | (with_reducible refine t_region ?_)
          | (with_reducible refine wr_done ?_)
          | ((with_reducible refine t_isDraw ?_); refine t_draw rfl (by kernel_rfl) ?_)
          | (with_reducible refine WD.done _ ?_)
          | (with_reducible refine wdp_done ?_)
          | (with_reducible refine tr_some ?_)
          | ((fail_if_success with_reducible refine t_bl ?_); (with_reducible refine t_block ?_))
          | (with_reducible refine t_inBlock ?_)
          | ((with_reducible refine t_isExit ?_); refine t_exit rfl ?_)
          | simp only [decide_eq_true_eq, decide_eq_false_iff_not, Bool.not_eq_true', Bool.not_eq_false'] at *
          | simp (disch := omega) only [go_sem, Nat.reduceLT, Nat.reduceEqDiff, Nat.reduceAdd, Nat.reduceLeDiff, Nat.reduceMul, Int.reduceLT, Int.reduceLE, Int.reduceAdd, Int.reduceSub, Int.reduceNeg, Int.reduceToNat, Int.reduceBEq, Int.reduceEq, reduceCtorEq, List.take_succ_cons, List.take_zero, List.take_nil, List.drop_succ_cons, List.drop_nil, List.cons_append, List.nil_append, List.set_cons_zero, List.set_cons_succ, ↓reduceIte, *]
          | (with_reducible refine tb_true ?_)
          | (with_reducible refine tb_false ?_)
          | (with_reducible refine tb_split (fun _ => ?_) (fun _ => ?_))
          | (with_reducible refine wg_f (fun _ => ?_) (fun _ => ?_))
          | (with_reducible refine wg_t (fun _ => ?_) (fun _ => ?_))
          | (with_reducible refine wd_f (fun _ => ?_) (fun _ => ?_))
          | (with_reducible refine wd_t (fun _ => ?_) (fun _ => ?_))
        all_goals first | (exfalso; omega) | exact ⟨rfl, rfl⟩
      · rw [if_neg hc2] at k3
        rw [if_pos hc2]
        unfold resD
        refine meetsP (E := (EW m)) 72 [.tmp 6, .tmp 7] (ew m) Tryz.func40 rfl (by decide) rfl rfl (by simp) ?_
        repeat' first
          | ((with_reducible refine wr_isCall ?_); refine wr_P hs1 rfl ?_)
          | ((with_reducible refine wr_isCall ?_); refine wr_P k1 rfl ?_)
          | ((with_reducible refine wr_isCall ?_); refine wr_P k3 rfl ?_)
          | (with_reducible refine t_seq ?_)
          | (with_reducible refine t_skip ?_)
          | (with_reducible refine t_ret ?_)
          | (with_reducible refine t_end ?_)
          | (with_reducible refine t_cond ?_)
          | (with_reducible refine t_region ?_)
          | (with_reducible refine wr_done ?_)
          | ((with_reducible refine t_isDraw ?_); refine t_draw rfl (by kernel_rfl) ?_)
          | (with_reducible refine WD.done _ ?_)
          | (with_reducible refine wdp_done ?_)
          | (with_reducible refine tr_some ?_)
          | ((fail_if_success with_reducible refine t_bl ?_); (with_reducible refine t_block ?_))
          | (with_reducible refine t_inBlock ?_)
          | ((with_reducible refine t_isExit ?_); refine t_exit rfl ?_)
          | simp only [decide_eq_true_eq, decide_eq_false_iff_not, Bool.not_eq_true', Bool.not_eq_false'] at *
          | simp (disch := omega) only [go_sem, Nat.reduceLT, Nat.reduceEqDiff, Nat.reduceAdd, Nat.reduceLeDiff, Nat.reduceMul, Int.reduceLT, Int.reduceLE, Int.reduceAdd, Int.reduceSub, Int.reduceNeg, Int.reduceToNat, Int.reduceBEq, Int.reduceEq, reduceCtorEq, List.take_succ_cons, List.take_zero, List.take_nil, List.drop_succ_cons, List.drop_nil, List.cons_append, List.nil_append, List.set_cons_zero, List.set_cons_succ, ↓reduceIte, *]
          | (with_reducible refine tb_true ?_)
          | (with_reducible refine tb_false ?_)
          | (with_reducible refine tb_split (fun _ => ?_) (fun _ => ?_))
          | (with_reducible refine wg_f (fun _ => ?_) (fun _ => ?_))
          | (with_reducible refine wg_t (fun _ => ?_) (fun _ => ?_))
          | (with_reducible refine wd_f (fun _ => ?_) (fun _ => ?_))
          | (with_reducible refine wd_t (fun _ => ?_) (fun _ => ?_))
        all_goals first | (exfalso; omega) | exact ⟨rfl, rfl⟩
    · rw [chkDay_3 hc1] at k1
      rw [if_pos hc1]
      clear k2
      unfold resD
      refine meetsP (E := (EW m)) 72 [.tmp 6, .tmp 7] (ew m) Tryz.func40 rfl (by decide) rfl rfl (by simp) ?_
      repeat' first
        | ((with_reducible refine wr_isCall ?_); refine wr_P hs1 rfl ?_)
        | ((with_reducible refine wr_isCall ?_); refine wr_P k1 rfl ?_)
        | (with_reducible refine t_seq ?_)
        | (with_reducible refine t_skip ?_)
        | (with_reducible refine t_ret ?_)
        | (with_reducible refine t_end ?_)
        | (with_reducible refine t_cond ?_)
        | (with_reducible refine t_region ?_)
        | (with_reducible refine wr_done ?_)
        | ((with_reducible refine t_isDraw ?_); refine t_draw rfl (by kernel_rfl) ?_)
        | (with_reducible refine WD.done _ ?_)
        | (with_reducible refine wdp_done ?_)
        | (with_reducible refine tr_some ?_)
        | ((fail_if_success with_reducible refine t_bl ?_); (with_reducible refine t_block ?_))
        | (with_reducible refine t_inBlock ?_)
        | ((with_reducible refine t_isExit ?_); refine t_exit rfl ?_)
        | simp only [decide_eq_true_eq, decide_eq_false_iff_not, Bool.not_eq_true', Bool.not_eq_false'] at *
        | simp (disch := omega) only [go_sem, Nat.reduceLT, Nat.reduceEqDiff, Nat.reduceAdd, Nat.reduceLeDiff, Nat.reduceMul, Int.reduceLT, Int.reduceLE, Int.reduceAdd, Int.reduceSub, Int.reduceNeg, Int.reduceToNat, Int.reduceBEq, Int.reduceEq, reduceCtorEq, List.take_succ_cons, List.take_zero, List.take_nil, List.drop_succ_cons, List.drop_nil, List.cons_append, List.nil_append, List.set_cons_zero, List.set_cons_succ, ↓reduceIte, *]
        | (with_reducible refine tb_true ?_)
        | (with_reducible refine tb_false ?_)
        | (with_reducible refine tb_split (fun _ => ?_) (fun _ => ?_))
        | (with_reducible refine wg_f (fun _ => ?_) (fun _ => ?_))
        | (with_reducible refine wg_t (fun _ => ?_) (fun _ => ?_))
        | (with_reducible refine wd_f (fun _ => ?_) (fun _ => ?_))
        | (with_reducible refine wd_t (fun _ => ?_) (fun _ => ?_))
      all_goals first | (exfalso; omega) | exact ⟨rfl, rfl⟩
  have hrun' := hrun (by omega)
  have hcase : ((Y : Int) = 0 ∧ ¬ (M : Int) = 0) ∨ ¬ (Y : Int) = 0 := by omega
  clear hrun hz
  unfold resD at hrun'
  generalize (Y : Int) = YI at *
  generalize (M : Int) = MI at *
  rcases hcase with ⟨hY0, hM0⟩ | hY0
  all_goals try subst hY0
  all_goals
    by_cases he : e = 0
    · subst he
      rw [if_neg (by simp)]
      obtain ⟨k1, k2⟩ := key n (hfar rfl)
      have nb := chkDay_b (hfar rfl)
      clear key hfar
      by_cases hc1 : chkDay (n + D) = 0
      · have k3 := k2 hc1
        have nb2 := chkDay_b hc1
        rw [hc1] at k1
        rw [if_neg (by simp [hc1])]
        clear k2
        unfold splitR at k3
        by_cases hc2 : chkDay (((n + D) * 86400000 + r + Ms) / 86400000) = 0
        · rw [if_pos hc2] at k3
          rw [if_neg (by simp [hc2])]
          unfold resD
          refine meetsP (E := (EW m)) 72 [.tmp 6, .tmp 7] (ew m) Tryz.func40 rfl (by decide) rfl rfl (by simp) ?_
          repeat' first
            | ((with_reducible refine wr_isCall ?_); refine wr_P hs1 rfl ?_)
            | ((with_reducible refine wr_isCall ?_); refine wr_P hrun' (n4 _ _ _) ?_)
            | ((with_reducible refine wr_isCall ?_); refine wr_P k1 rfl ?_)
            | ((with_reducible refine wr_isCall ?_); refine wr_P k3 rfl ?_)
            | (with_reducible refine t_seq ?_)
            | (with_reducible refine t_skip ?_)
            | (with_reducible refine t_ret ?_)
            | (with_reducible refine t_end ?_)
            | (with_reducible refine t_cond ?_)
            | (with_reducible refine t_region ?_)
            | (with_reducible refine wr_done ?_)
            | ((with_reducible refine t_isDraw ?_); refine t_draw rfl (by kernel_rfl) ?_)
            | (with_reducible refine WD.done _ ?_)
            | (with_reducible refine wdp_done ?_)
            | (with_reducible refine tr_some ?_)
            | ((fail_if_success with_reducible refine t_bl ?_); (with_reducible refine t_block ?_))
            | (with_reducible refine t_inBlock ?_)
            | ((with_reducible refine t_isExit ?_); refine t_exit rfl ?_)
            | simp only [decide_eq_true_eq, decide_eq_false_iff_not, Bool.not_eq_true', Bool.not_eq_false'] at *
            | simp (disch := omega) only [go_sem, Nat.reduceLT, Nat.reduceEqDiff, Nat.reduceAdd, Nat.reduceLeDiff, Nat.reduceMul, Int.reduceLT, Int.reduceLE, Int.reduceAdd, Int.reduceSub, Int.reduceNeg, Int.reduceToNat, Int.reduceBEq, Int.reduceEq, reduceCtorEq, List.take_succ_cons, List.take_zero, List.take_nil, List.drop_succ_cons, List.drop_nil, List.cons_append, List.nil_append, List.set_cons_zero, List.set_cons_succ, ↓reduceIte, *]
            | (with_reducible refine tb_true ?_)
            | (with_reducible refine tb_false ?_)
            | (with_reducible refine tb_split (fun _ => ?_) (fun _ => ?_))
            | (with_reducible refine wg_f (fun _ => ?_) (fun _ => ?_))
            | (with_reducible refine wg_t (fun _ => ?_) (fun _ => ?_))
            | (with_reducible refine wd_f (fun _ => ?_) (fun _ => ?_))
            | (with_reducible refine wd_t (fun _ => ?_) (fun _ => ?_))
          all_goals first | (exfalso; omega) | exact ⟨rfl, rfl⟩
        · rw [if_neg hc2] at k3
          rw [if_pos hc2]
          unfold resD
          refine meetsP (E := (EW m)) 72 [.tmp 6, .tmp 7] (ew m) Tryz.func40 rfl (by decide) rfl rfl (by simp) ?_
          repeat' first
            | ((with_reducible refine wr_isCall ?_); refine wr_P hs1 rfl ?_)
            | ((with_reducible refine wr_isCall ?_); refine wr_P hrun' (n4 _ _ _) ?_)
            | ((with_reducible refine wr_isCall ?_); refine wr_P k1 rfl ?_)
            | ((with_reducible refine wr_isCall ?_); refine wr_P k3 rfl ?_)
            | (with_reducible refine t_seq ?_)
            | (with_reducible refine t_skip ?_)
            | (with_reducible refine t_ret ?_)
            | (with_reducible refine t_end ?_)
            | (with_reducible refine t_cond ?_)
            | (with_reducible refine t_region ?_)
            | (with_reducible refine wr_done ?_)
            | ((with_reducible refine t_isDraw ?_); refine t_draw rfl (by kernel_rfl) ?_)
            | (with_reducible refine WD.done _ ?_)
            | (with_reducible refine wdp_done ?_)
            | (with_reducible refine tr_some ?_)
            | ((fail_if_success with_reducible refine t_bl ?_); (with_reducible refine t_block ?_))
            | (with_reducible refine t_inBlock ?_)
            | ((with_reducible refine t_isExit ?_); refine t_exit rfl ?_)
            | simp only [decide_eq_true_eq, decide_eq_false_iff_not, Bool.not_eq_true', Bool.not_eq_false'] at *
            | simp (disch := omega) only [go_sem, Nat.reduceLT, Nat.reduceEqDiff, Nat.reduceAdd, Nat.reduceLeDiff, Nat.reduceMul, Int.reduceLT, Int.reduceLE, Int.reduceAdd, Int.reduceSub, Int.reduceNeg, Int.reduceToNat, Int.reduceBEq, Int.reduceEq, reduceCtorEq, List.take_succ_cons, List.take_zero, List.take_nil, List.drop_succ_cons, List.drop_nil, List.cons_append, List.nil_append, List.set_cons_zero, List.set_cons_succ, ↓reduceIte, *]
            | (with_reducible refine tb_true ?_)
            | (with_reducible refine tb_false ?_)
            | (with_reducible refine tb_split (fun _ => ?_) (fun _ => ?_))
            | (with_reducible refine wg_f (fun _ => ?_) (fun _ => ?_))
            | (with_reducible refine wg_t (fun _ => ?_) (fun _ => ?_))
            | (with_reducible refine wd_f (fun _ => ?_) (fun _ => ?_))
            | (with_reducible refine wd_t (fun _ => ?_) (fun _ => ?_))
          all_goals first | (exfalso; omega) | exact ⟨rfl, rfl⟩
      · rw [chkDay_3 hc1] at k1
        rw [if_pos hc1]
        clear k2
        unfold resD
        refine meetsP (E := (EW m)) 72 [.tmp 6, .tmp 7] (ew m) Tryz.func40 rfl (by decide) rfl rfl (by simp) ?_
        repeat' first
          | ((with_reducible refine wr_isCall ?_); refine wr_P hs1 rfl ?_)
          | ((with_reducible refine wr_isCall ?_); refine wr_P hrun' (n4 _ _ _) ?_)
          | ((with_reducible refine wr_isCall ?_); refine wr_P k1 rfl ?_)
          | (with_reducible refine t_seq ?_)
          | (with_reducible refine t_skip ?_)
          | (with_reducible refine t_ret ?_)
          | (with_reducible refine t_end ?_)
          | (with_reducible refine t_cond ?_)
          | (with_reducible refine t_region ?_)
          | (with_reducible refine wr_done ?_)
          | ((with_reducible refine t_isDraw ?_); refine t_draw rfl (by kernel_rfl) ?_)
          | (with_reducible refine WD.done _ ?_)
          | (with_reducible refine wdp_done ?_)
          | (with_reducible refine tr_some ?_)
          | ((fail_if_success with_reducible refine t_bl ?_); (with_reducible refine t_block ?_))
          | (with_reducible refine t_inBlock ?_)
          | ((with_reducible refine t_isExit ?_); refine t_exit rfl ?_)
          | simp only [decide_eq_true_eq, decide_eq_false_iff_not, Bool.not_eq_true', Bool.not_eq_false'] at *
          | simp (disch := omega) only [go_sem, Nat.reduceLT, Nat.reduceEqDiff, Nat.reduceAdd, Nat.reduceLeDiff, Nat.reduceMul, Int.reduceLT, Int.reduceLE, Int.reduceAdd, Int.reduceSub, Int.reduceNeg, Int.reduceToNat, Int.reduceBEq, Int.reduceEq, reduceCtorEq, List.take_succ_cons, List.take_zero, List.take_nil, List.drop_succ_cons, List.drop_nil, List.cons_append, List.nil_append, List.set_cons_zero, List.set_cons_succ, ↓reduceIte, *]
          | (with_reducible refine tb_true ?_)
          | (with_reducible refine tb_false ?_)
          | (with_reducible refine tb_split (fun _ => ?_) (fun _ => ?_))
          | (with_reducible refine wg_f (fun _ => ?_) (fun _ => ?_))
          | (with_reducible refine wg_t (fun _ => ?_) (fun _ => ?_))
          | (with_reducible refine wd_f (fun _ => ?_) (fun _ => ?_))
          | (with_reducible refine wd_t (fun _ => ?_) (fun _ => ?_))
        all_goals first | (exfalso; omega) | exact ⟨rfl, rfl⟩
    · rw [if_pos he]
      clear key hfar
      unfold resD
      refine meetsP (E := (EW m)) 72 [.tmp 6, .tmp 7] (ew m) Tryz.func40 rfl (by decide) rfl rfl (by simp) ?_
      repeat' first
        | ((with_reducible refine wr_isCall ?_); refine wr_P hs1 rfl ?_)
        | ((with_reducible refine wr_isCall ?_); refine wr_P hrun' (n4 _ _ _) ?_)
        | (with_reducible refine t_seq ?_)
        | (with_reducible refine t_skip ?_)
        | (with_reducible refine t_ret ?_)
        | (with_reducible refine t_end ?_)
        | (with_reducible refine t_cond ?_)
        | (with_reducible refine t_region ?_)
        | (with_reducible refine wr_done ?_)
        | ((with_reducible refine t_isDraw ?_); refine t_draw rfl (by kernel_rfl) ?_)
        | (with_reducible refine WD.done _ ?_)
        | (with_reducible refine wdp_done ?_)
        | (with_reducible refine tr_some ?_)
        | ((fail_if_success with_reducible refine t_bl ?_); (with_reducible refine t_block ?_))
        | (with_reducible refine t_inBlock ?_)
        | ((with_reducible refine t_isExit ?_); refine t_exit rfl ?_)
        | simp only [decide_eq_true_eq, decide_eq_false_iff_not, Bool.not_eq_true', Bool.not_eq_false'] at *
        | simp (disch := omega) only [go_sem, Nat.reduceLT, Nat.reduceEqDiff, Nat.reduceAdd, Nat.reduceLeDiff, Nat.reduceMul, Int.reduceLT, Int.reduceLE, Int.reduceAdd, Int.reduceSub, Int.reduceNeg, Int.reduceToNat, Int.reduceBEq, Int.reduceEq, reduceCtorEq, List.take_succ_cons, List.take_zero, List.take_nil, List.drop_succ_cons, List.drop_nil, List.cons_append, List.nil_append, List.set_cons_zero, List.set_cons_succ, ↓reduceIte, *]
        | (with_reducible refine tb_true ?_)
        | (with_reducible refine tb_false ?_)
        | (with_reducible refine tb_split (fun _ => ?_) (fun _ => ?_))
        | (with_reducible refine wg_f (fun _ => ?_) (fun _ => ?_))
        | (with_reducible refine wg_t (fun _ => ?_) (fun _ => ?_))
        | (with_reducible refine wd_f (fun _ => ?_) (fun _ => ?_))
        | (with_reducible refine wd_t (fun _ => ?_) (fun _ => ?_))
      all_goals first | (exfalso; omega) | exact ⟨rfl, rfl⟩
end Go.Proofs.YtkokongbnemkhaaGreatDoorA
/- span.Check, span.Add, span.Between. -/
set_option linter.unusedVariables false
set_option linter.unusedSimpArgs false
namespace Go.Proofs.YtkokongbnemkhaaGreatDoorA
open Go Go.RowKit Go.Proofs.YtkokongbnemkhaaGreatDoorFx Go.Proofs
variable {m : Int} {c : Cal}
@[go_sem] theorem frz_ptr1 (id k d c : Nat) (row : List AV) (l : List (List AV)) : frz id k (row :: l) (d + 1) (.ptr id 0 c) = .ip row c := by simp [frz]
theorem withinP {x a : Int} (ha : 0 ≤ a ∧ a ≤ 1000000000000000) : MeetsP Tryz.prog (glT m) 60 [.i .i64 x, .i .i64 a] (.b (decide (-a ≤ x) && decide (x ≤ a))) := by
  refine meetsP (E := (EW m)) 14 [.tmp 4] (ew m) Tryz.func60 rfl (by decide) rfl rfl (by simp) ?_
  repeat' first
    | (with_reducible refine t_seq ?_)
    | (with_reducible refine t_skip ?_)
    | (with_reducible refine t_ret ?_)
    | (with_reducible refine t_end ?_)
    | (with_reducible refine t_cond ?_)
    | (with_reducible refine t_region ?_)
    | (with_reducible refine wr_done ?_)
    | ((with_reducible refine t_isDraw ?_); refine t_draw rfl (by kernel_rfl) ?_)
    | (with_reducible refine WD.done _ ?_)
    | (with_reducible refine wdp_done ?_)
    | (with_reducible refine tr_some ?_)
    | ((fail_if_success with_reducible refine t_bl ?_); (with_reducible refine t_block ?_))
    | (with_reducible refine t_inBlock ?_)
    | ((with_reducible refine t_isExit ?_); refine t_exit rfl ?_)
    | simp only [decide_eq_true_eq, decide_eq_false_iff_not, Bool.not_eq_true', Bool.not_eq_false'] at *
    | simp (disch := omega) only [go_sem, Nat.reduceLT, Nat.reduceEqDiff, Nat.reduceAdd, Nat.reduceLeDiff, Nat.reduceMul, Int.reduceLT, Int.reduceLE, Int.reduceAdd, Int.reduceSub, Int.reduceNeg, Int.reduceToNat, Int.reduceBEq, Int.reduceEq, reduceCtorEq, List.take_succ_cons, List.take_zero, List.take_nil, List.drop_succ_cons, List.drop_nil, List.cons_append, List.nil_append, List.set_cons_zero, List.set_cons_succ, ↓reduceIte, *]
    | (with_reducible refine tb_true ?_)
    | (with_reducible refine tb_false ?_)
    | (with_reducible refine tb_split (fun _ => ?_) (fun _ => ?_))
    | (with_reducible refine wg_f (fun _ => ?_) (fun _ => ?_))
    | (with_reducible refine wg_t (fun _ => ?_) (fun _ => ?_))
    | (with_reducible refine wd_f (fun _ => ?_) (fun _ => ?_))
    | (with_reducible refine wd_t (fun _ => ?_) (fun _ => ?_))
  all_goals first
    | exact ⟨rfl, rfl⟩
    | (rename_i q; rw [show decide (-a ≤ x) = true from decide_eq_true (by omega), Bool.true_and]; exact ⟨rfl, rfl⟩)
    | (rename_i q; rw [show decide (-a ≤ x) = false from decide_eq_false (by omega), Bool.false_and]; exact ⟨rfl, rfl⟩)
def durA (a b c d : Int) : AV := .agg [.i .i64 a, .i .i64 b, .i .i64 c, .i .i64 d]
def inLen (a b c d : Int) : Prop := (-10000 ≤ a ∧ a ≤ 10000) ∧ (-10000 ≤ b ∧ b ≤ 10000) ∧ (-8000000 ≤ c ∧ c ≤ 8000000) ∧ (-345600000000000 ≤ d ∧ d ≤ 345600000000000)
instance (a b c d : Int) : Decidable (inLen a b c d) := by unfold inLen; infer_instance
set_option maxRecDepth 100000 in
theorem spanCheckP (a b c d : Int) : MeetsP Tryz.prog (glT m) 41 [durA a b c d] (.i .i64 (if inLen a b c d then 0 else 3)) := by
  have h1 := withinP (m := m) (x := a) (a := 10000) (by omega)
  have h2 := withinP (m := m) (x := b) (a := 10000) (by omega)
  have h3 := withinP (m := m) (x := c) (a := 8000000) (by omega)
  have h4 := withinP (m := m) (x := d) (a := 345600000000000) (by omega)
  have hin : (if inLen a b c d then (0 : Int) else 3) = if (decide (-10000 ≤ a) && decide (a ≤ 10000)) = true ∧ (decide (-10000 ≤ b) && decide (b ≤ 10000)) = true ∧ (decide (-8000000 ≤ c) && decide (c ≤ 8000000)) = true ∧ (decide (-345600000000000 ≤ d) && decide (d ≤ 345600000000000)) = true then 0 else 3 := by
    unfold inLen; simp only [Bool.and_eq_true, decide_eq_true_eq]
  rw [hin]
  unfold durA
  generalize (decide (-10000 ≤ a) && decide (a ≤ 10000)) = b1 at *
  generalize (decide (-10000 ≤ b) && decide (b ≤ 10000)) = b2 at *
  generalize (decide (-8000000 ≤ c) && decide (c ≤ 8000000)) = b3 at *
  generalize (decide (-345600000000000 ≤ d) && decide (d ≤ 345600000000000)) = b4 at *
  clear hin
  cases b1
  · refine meetsP (E := (EW m)) 25 [.tmp 2] (ew m) Tryz.func41 rfl (by decide) rfl rfl (by simp) ?_
    repeat' first
      | ((with_reducible refine wr_isCall ?_); refine wr_P h1 rfl ?_)
      | ((with_reducible refine wr_isCall ?_); refine wr_P h2 rfl ?_)
      | ((with_reducible refine wr_isCall ?_); refine wr_P h3 rfl ?_)
      | ((with_reducible refine wr_isCall ?_); refine wr_P h4 rfl ?_)
      | (with_reducible refine t_seq ?_)
      | (with_reducible refine t_skip ?_)
      | (with_reducible refine t_ret ?_)
      | (with_reducible refine t_end ?_)
      | (with_reducible refine t_cond ?_)
      | (with_reducible refine t_region ?_)
      | (with_reducible refine wr_done ?_)
      | ((with_reducible refine t_isDraw ?_); refine t_draw rfl (by kernel_rfl) ?_)
      | (with_reducible refine WD.done _ ?_)
      | (with_reducible refine wdp_done ?_)
      | (with_reducible refine tr_some ?_)
      | ((fail_if_success with_reducible refine t_bl ?_); (with_reducible refine t_block ?_))
      | (with_reducible refine t_inBlock ?_)
      | ((with_reducible refine t_isExit ?_); refine t_exit rfl ?_)
      | simp only [decide_eq_true_eq, decide_eq_false_iff_not, Bool.not_eq_true', Bool.not_eq_false'] at *
      | simp (disch := omega) only [go_sem, Nat.reduceLT, Nat.reduceEqDiff, Nat.reduceAdd, Nat.reduceLeDiff, Nat.reduceMul, Int.reduceLT, Int.reduceLE, Int.reduceAdd, Int.reduceSub, Int.reduceNeg, Int.reduceToNat, Int.reduceBEq, Int.reduceEq, reduceCtorEq, List.take_succ_cons, List.take_zero, List.take_nil, List.drop_succ_cons, List.drop_nil, List.cons_append, List.nil_append, List.set_cons_zero, List.set_cons_succ, ↓reduceIte, *]
      | (with_reducible refine tb_true ?_)
      | (with_reducible refine tb_false ?_)
      | (with_reducible refine tb_split (fun _ => ?_) (fun _ => ?_))
      | (with_reducible refine wg_f (fun _ => ?_) (fun _ => ?_))
      | (with_reducible refine wg_t (fun _ => ?_) (fun _ => ?_))
      | (with_reducible refine wd_f (fun _ => ?_) (fun _ => ?_))
      | (with_reducible refine wd_t (fun _ => ?_) (fun _ => ?_))
    exact ⟨rfl, rfl⟩
  cases b2
  · refine meetsP (E := (EW m)) 25 [.tmp 2] (ew m) Tryz.func41 rfl (by decide) rfl rfl (by simp) ?_
    repeat' first
      | ((with_reducible refine wr_isCall ?_); refine wr_P h1 rfl ?_)
      | ((with_reducible refine wr_isCall ?_); refine wr_P h2 rfl ?_)
      | ((with_reducible refine wr_isCall ?_); refine wr_P h3 rfl ?_)
      | ((with_reducible refine wr_isCall ?_); refine wr_P h4 rfl ?_)
      | (with_reducible refine t_seq ?_)
      | (with_reducible refine t_skip ?_)
      | (with_reducible refine t_ret ?_)
      | (with_reducible refine t_end ?_)
      | (with_reducible refine t_cond ?_)
      | (with_reducible refine t_region ?_)
      | (with_reducible refine wr_done ?_)
      | ((with_reducible refine t_isDraw ?_); refine t_draw rfl (by kernel_rfl) ?_)
      | (with_reducible refine WD.done _ ?_)
      | (with_reducible refine wdp_done ?_)
      | (with_reducible refine tr_some ?_)
      | ((fail_if_success with_reducible refine t_bl ?_); (with_reducible refine t_block ?_))
      | (with_reducible refine t_inBlock ?_)
      | ((with_reducible refine t_isExit ?_); refine t_exit rfl ?_)
      | simp only [decide_eq_true_eq, decide_eq_false_iff_not, Bool.not_eq_true', Bool.not_eq_false'] at *
      | simp (disch := omega) only [go_sem, Nat.reduceLT, Nat.reduceEqDiff, Nat.reduceAdd, Nat.reduceLeDiff, Nat.reduceMul, Int.reduceLT, Int.reduceLE, Int.reduceAdd, Int.reduceSub, Int.reduceNeg, Int.reduceToNat, Int.reduceBEq, Int.reduceEq, reduceCtorEq, List.take_succ_cons, List.take_zero, List.take_nil, List.drop_succ_cons, List.drop_nil, List.cons_append, List.nil_append, List.set_cons_zero, List.set_cons_succ, ↓reduceIte, *]
      | (with_reducible refine tb_true ?_)
      | (with_reducible refine tb_false ?_)
      | (with_reducible refine tb_split (fun _ => ?_) (fun _ => ?_))
      | (with_reducible refine wg_f (fun _ => ?_) (fun _ => ?_))
      | (with_reducible refine wg_t (fun _ => ?_) (fun _ => ?_))
      | (with_reducible refine wd_f (fun _ => ?_) (fun _ => ?_))
      | (with_reducible refine wd_t (fun _ => ?_) (fun _ => ?_))
    exact ⟨rfl, rfl⟩
  cases b3
  · refine meetsP (E := (EW m)) 25 [.tmp 2] (ew m) Tryz.func41 rfl (by decide) rfl rfl (by simp) ?_
    repeat' first
      | ((with_reducible refine wr_isCall ?_); refine wr_P h1 rfl ?_)
      | ((with_reducible refine wr_isCall ?_); refine wr_P h2 rfl ?_)
      | ((with_reducible refine wr_isCall ?_); refine wr_P h3 rfl ?_)
      | ((with_reducible refine wr_isCall ?_); refine wr_P h4 rfl ?_)
      | (with_reducible refine t_seq ?_)
      | (with_reducible refine t_skip ?_)
      | (with_reducible refine t_ret ?_)
      | (with_reducible refine t_end ?_)
      | (with_reducible refine t_cond ?_)
      | (with_reducible refine t_region ?_)
      | (with_reducible refine wr_done ?_)
      | ((with_reducible refine t_isDraw ?_); refine t_draw rfl (by kernel_rfl) ?_)
      | (with_reducible refine WD.done _ ?_)
      | (with_reducible refine wdp_done ?_)
      | (with_reducible refine tr_some ?_)
      | ((fail_if_success with_reducible refine t_bl ?_); (with_reducible refine t_block ?_))
      | (with_reducible refine t_inBlock ?_)
      | ((with_reducible refine t_isExit ?_); refine t_exit rfl ?_)
      | simp only [decide_eq_true_eq, decide_eq_false_iff_not, Bool.not_eq_true', Bool.not_eq_false'] at *
      | simp (disch := omega) only [go_sem, Nat.reduceLT, Nat.reduceEqDiff, Nat.reduceAdd, Nat.reduceLeDiff, Nat.reduceMul, Int.reduceLT, Int.reduceLE, Int.reduceAdd, Int.reduceSub, Int.reduceNeg, Int.reduceToNat, Int.reduceBEq, Int.reduceEq, reduceCtorEq, List.take_succ_cons, List.take_zero, List.take_nil, List.drop_succ_cons, List.drop_nil, List.cons_append, List.nil_append, List.set_cons_zero, List.set_cons_succ, ↓reduceIte, *]
      | (with_reducible refine tb_true ?_)
      | (with_reducible refine tb_false ?_)
      | (with_reducible refine tb_split (fun _ => ?_) (fun _ => ?_))
      | (with_reducible refine wg_f (fun _ => ?_) (fun _ => ?_))
      | (with_reducible refine wg_t (fun _ => ?_) (fun _ => ?_))
      | (with_reducible refine wd_f (fun _ => ?_) (fun _ => ?_))
      | (with_reducible refine wd_t (fun _ => ?_) (fun _ => ?_))
    exact ⟨rfl, rfl⟩
  cases b4 <;>
  · refine meetsP (E := (EW m)) 25 [.tmp 2] (ew m) Tryz.func41 rfl (by decide) rfl rfl (by simp) ?_
    repeat' first
      | ((with_reducible refine wr_isCall ?_); refine wr_P h1 rfl ?_)
      | ((with_reducible refine wr_isCall ?_); refine wr_P h2 rfl ?_)
      | ((with_reducible refine wr_isCall ?_); refine wr_P h3 rfl ?_)
      | ((with_reducible refine wr_isCall ?_); refine wr_P h4 rfl ?_)
      | (with_reducible refine t_seq ?_)
      | (with_reducible refine t_skip ?_)
      | (with_reducible refine t_ret ?_)
      | (with_reducible refine t_end ?_)
      | (with_reducible refine t_cond ?_)
      | (with_reducible refine t_region ?_)
      | (with_reducible refine wr_done ?_)
      | ((with_reducible refine t_isDraw ?_); refine t_draw rfl (by kernel_rfl) ?_)
      | (with_reducible refine WD.done _ ?_)
      | (with_reducible refine wdp_done ?_)
      | (with_reducible refine tr_some ?_)
      | ((fail_if_success with_reducible refine t_bl ?_); (with_reducible refine t_block ?_))
      | (with_reducible refine t_inBlock ?_)
      | ((with_reducible refine t_isExit ?_); refine t_exit rfl ?_)
      | simp only [decide_eq_true_eq, decide_eq_false_iff_not, Bool.not_eq_true', Bool.not_eq_false'] at *
      | simp (disch := omega) only [go_sem, Nat.reduceLT, Nat.reduceEqDiff, Nat.reduceAdd, Nat.reduceLeDiff, Nat.reduceMul, Int.reduceLT, Int.reduceLE, Int.reduceAdd, Int.reduceSub, Int.reduceNeg, Int.reduceToNat, Int.reduceBEq, Int.reduceEq, reduceCtorEq, List.take_succ_cons, List.take_zero, List.take_nil, List.drop_succ_cons, List.drop_nil, List.cons_append, List.nil_append, List.set_cons_zero, List.set_cons_succ, ↓reduceIte, *]
      | (with_reducible refine tb_true ?_)
      | (with_reducible refine tb_false ?_)
      | (with_reducible refine tb_split (fun _ => ?_) (fun _ => ?_))
      | (with_reducible refine wg_f (fun _ => ?_) (fun _ => ?_))
      | (with_reducible refine wg_t (fun _ => ?_) (fun _ => ?_))
      | (with_reducible refine wd_f (fun _ => ?_) (fun _ => ?_))
      | (with_reducible refine wd_t (fun _ => ?_) (fun _ => ?_))
    exact ⟨rfl, rfl⟩
theorem cal_no3 (c : Cal) : ∃ y1 y2 y3 y4 y5, c.A = .agg [y1, y2, y3, y4, y5] ∧ (one y1 = true ∧ one y2 = true ∧ one y3 = true ∧ one y4 = true ∧ one y5 = true) ∧ (∀ a b, [AV.agg [y1, y2, y3, y4, y5], a, b].all (noid 12) = (noid 12 a && noid 12 b)) ∧ ([[y1, y2, y3, y4, y5]].all (fun row => row.all (noid 12)) = true) := by
  obtain ⟨nm, ep, cy, ms, ls⟩ := c
  refine ⟨_, _, _, _, _, rfl, ⟨rfl, rfl, rfl, rfl, rfl⟩, fun a b => ?_, rfl⟩
  simp only [List.all_cons, List.all_nil, Bool.and_true]
  exact Bool.true_and _
set_option maxRecDepth 100000 in
theorem spanAddP {s : List UInt8} {t : Int} {a b d e : Int} {x y : Int} (hin : inLen a b d e) (hC : MeetsP Tryz.prog (glT m) 26 [.s s] (.tup [c.A, .i .i64 0])) (hR : MeetsP Tryz.prog (glT m) 40 [c.A, .i .i64 t, durA a b d e] (.tup [.i .i64 x, .i .i64 y])) :
    MeetsP Tryz.prog (glT m) 21 [.s s, .i .i64 t, durA a b d e] (.tup [.i .i64 x, .i .i64 y]) := by
  have hk := spanCheckP (m := m) a b d e
  rw [if_pos hin] at hk
  obtain ⟨y1, y2, y3, y4, y5, hy, ⟨o1, o2, o3, o4, o5⟩, n3, n5⟩ := cal_no3 c
  rw [hy] at hC hR
  unfold durA at *
  refine meetsP (E := (EW m)) 30 [.tmp 6, .tmp 7] (ew m) Tryz.func21 rfl (by decide) rfl rfl (by simp) ?_
  repeat' first
    | ((with_reducible refine wr_isCall ?_); refine wr_P hk rfl ?_)
    | ((with_reducible refine wr_isCall ?_); refine wr_P hC rfl ?_)
    | ((with_reducible refine wr_isCall ?_); refine wr_P hR (n3 _ _) ?_)
    | (with_reducible refine t_seq ?_)
    | (with_reducible refine t_skip ?_)
    | (with_reducible refine t_ret ?_)
    | (with_reducible refine t_end ?_)
    | (with_reducible refine t_cond ?_)
    | (with_reducible refine t_region ?_)
    | (with_reducible refine wr_done ?_)
    | ((with_reducible refine t_isDraw ?_); refine t_draw rfl (by kernel_rfl) ?_)
    | (with_reducible refine WD.done _ ?_)
    | (with_reducible refine wdp_done ?_)
    | (with_reducible refine tr_some ?_)
    | ((fail_if_success with_reducible refine t_bl ?_); (with_reducible refine t_block ?_))
    | (with_reducible refine t_inBlock ?_)
    | ((with_reducible refine t_isExit ?_); refine t_exit rfl ?_)
    | simp only [decide_eq_true_eq, decide_eq_false_iff_not, Bool.not_eq_true', Bool.not_eq_false'] at *
    | simp (disch := omega) only [go_sem, Nat.reduceLT, Nat.reduceEqDiff, Nat.reduceAdd, Nat.reduceLeDiff, Nat.reduceMul, Int.reduceLT, Int.reduceLE, Int.reduceAdd, Int.reduceSub, Int.reduceNeg, Int.reduceToNat, Int.reduceBEq, Int.reduceEq, reduceCtorEq, List.take_succ_cons, List.take_zero, List.take_nil, List.drop_succ_cons, List.drop_nil, List.cons_append, List.nil_append, List.set_cons_zero, List.set_cons_succ, ↓reduceIte, *]
    | (with_reducible refine tb_true ?_)
    | (with_reducible refine tb_false ?_)
    | (with_reducible refine tb_split (fun _ => ?_) (fun _ => ?_))
    | (with_reducible refine wg_f (fun _ => ?_) (fun _ => ?_))
    | (with_reducible refine wg_t (fun _ => ?_) (fun _ => ?_))
    | (with_reducible refine wd_f (fun _ => ?_) (fun _ => ?_))
    | (with_reducible refine wd_t (fun _ => ?_) (fun _ => ?_))
  exact ⟨rfl, rfl⟩
set_option maxRecDepth 100000 in
/-- The closure that asks whether a duration fits. -/
theorem fitsP {y1 y2 y3 y4 y5 : AV} (n3 : ∀ a b, [AV.agg [y1, y2, y3, y4, y5], a, b].all (noid 12) = (noid 12 a && noid 12 b)) {a b Y M x : Int} {e : Int} {B : Bool} (hR : MeetsP Tryz.prog (glT m) 40 [.agg [y1, y2, y3, y4, y5], .i .i64 a, .agg [.i .i64 Y, .i .i64 M, .i .i64 0, .i .i64 0]] (.tup [.i .i64 x, .i .i64 e]))
    (hB : B = (decide (e = 0) && decide (x ≤ b))) : MeetsP Tryz.prog (glT m) 39 [.agg [.i .i64 Y, .i .i64 M, .i .i64 0, .i .i64 0], .ip [y1, y2, y3, y4, y5] 0, .ip [.i .i64 a] 0, .ip [.i .i64 b] 0] (.b B) := by
  subst hB
  refine meetsP (E := (EW m)) 22 [.tmp 5] (ew m) Tryz.func39 rfl (by decide) rfl rfl (by simp) ?_
  repeat' first
    | ((with_reducible refine wr_isCall ?_); refine wr_P hR (n3 _ _) ?_)
    | (with_reducible refine t_seq ?_)
    | (with_reducible refine t_skip ?_)
    | (with_reducible refine t_ret ?_)
    | (with_reducible refine t_end ?_)
    | (with_reducible refine t_cond ?_)
    | (with_reducible refine t_region ?_)
    | (with_reducible refine wr_done ?_)
    | ((with_reducible refine t_isDraw ?_); refine t_draw rfl (by kernel_rfl) ?_)
    | (with_reducible refine WD.done _ ?_)
    | (with_reducible refine wdp_done ?_)
    | (with_reducible refine tr_some ?_)
    | ((fail_if_success with_reducible refine t_bl ?_); (with_reducible refine t_block ?_))
    | (with_reducible refine t_inBlock ?_)
    | ((with_reducible refine t_isExit ?_); refine t_exit rfl ?_)
    | simp only [decide_eq_true_eq, decide_eq_false_iff_not, Bool.not_eq_true', Bool.not_eq_false'] at *
    | simp (disch := omega) only [go_sem, Nat.reduceLT, Nat.reduceEqDiff, Nat.reduceAdd, Nat.reduceLeDiff, Nat.reduceMul, Int.reduceLT, Int.reduceLE, Int.reduceAdd, Int.reduceSub, Int.reduceNeg, Int.reduceToNat, Int.reduceBEq, Int.reduceEq, reduceCtorEq, List.take_succ_cons, List.take_zero, List.take_nil, List.drop_succ_cons, List.drop_nil, List.cons_append, List.nil_append, List.set_cons_zero, List.set_cons_succ, ↓reduceIte, *]
    | (with_reducible refine tb_true ?_)
    | (with_reducible refine tb_false ?_)
    | (with_reducible refine tb_split (fun _ => ?_) (fun _ => ?_))
    | (with_reducible refine wg_f (fun _ => ?_) (fun _ => ?_))
    | (with_reducible refine wg_t (fun _ => ?_) (fun _ => ?_))
    | (with_reducible refine wd_f (fun _ => ?_) (fun _ => ?_))
    | (with_reducible refine wd_t (fun _ => ?_) (fun _ => ?_))
  all_goals first
    | exact ⟨rfl, rfl⟩
    | (rename_i q; rw [show decide (e = 0) = true from decide_eq_true (by assumption), Bool.true_and]; exact ⟨rfl, rfl⟩)
    | (rename_i q; rw [show decide (e = 0) = false from decide_eq_false (by assumption), Bool.false_and]; exact ⟨rfl, rfl⟩)
end Go.Proofs.YtkokongbnemkhaaGreatDoorA
