/- Package era: Check, begin, Say. -/
import Derived.Test.YtkokongbnemkhaaGreatDoorNA
import Derived.Test.YtkokongbnemkhaaGreatDoorPLP
set_option linter.unusedVariables false
set_option linter.unusedSimpArgs false
namespace Go.Proofs.YtkokongbnemkhaaGreatDoorA
open Go Go.RowKit Go.Proofs.YtkokongbnemkhaaGreatDoorFx Go.Proofs
variable {m : Int}
set_option maxRecDepth 100000 in
set_option maxHeartbeats 2000000 in
theorem eraCheckP (l : Reigns) (hs : ∀ p ∈ l, p.1.length ≤ 140737488351232) : MeetsP Tryz.prog (glT m) 57 [rgA l] (.i .i64 (rgChk l)) := by
  have hrow := fun i h => rg_row (l := l) (i := i) h
  have hlen := rgRows_len l
  have hnm : ∀ i, i < l.length → (rgN l i).length ≤ 140737488351232 := fun i hi => by
    have := hs l[i] (List.getElem_mem hi)
    simpa [rgN, hi] using this
  unfold rgChk rgA
  generalize rgRows l = R at *
  by_cases h2 : l.length < 1 ∨ 30 < l.length
  · rw [if_pos h2]
    refine meetsP (E := (EW m)) 42 [.tmp 2] (ew m) Tryz.func57 rfl (by decide) rfl rfl (by simp) ?_
    repeat' first
      | (with_reducible refine t_seq ?_)
      | (with_reducible refine t_skip ?_)
      | (with_reducible refine t_ret ?_)
      | (with_reducible refine t_end ?_)
      | (with_reducible refine t_cond ?_)
      | (with_reducible refine t_region ?_)
      | (with_reducible refine wr_done ?_)
      | ((with_reducible refine t_isDraw ?_); refine t_draw rfl (by kernel_rfl) ?_)
      | (with_reducible refine WD.done _ ?_)
      | (with_reducible refine wdp_done ?_)
      | (with_reducible refine tr_some ?_)
      | ((fail_if_success with_reducible refine t_bl ?_); (with_reducible refine t_block ?_))
      | (with_reducible refine t_inBlock ?_)
      | ((with_reducible refine t_isExit ?_); refine t_exit rfl ?_)
      | simp only [decide_eq_true_eq, decide_eq_false_iff_not, Bool.not_eq_true', Bool.not_eq_false'] at *
      | simp (disch := omega) only [go_sem, Nat.reduceLT, Nat.reduceEqDiff, Nat.reduceAdd, Nat.reduceLeDiff, Nat.reduceMul, Int.reduceLT, Int.reduceLE, Int.reduceAdd, Int.reduceSub, Int.reduceNeg, Int.reduceToNat, Int.reduceBEq, Int.reduceEq, reduceCtorEq, List.take_succ_cons, List.take_zero, List.take_nil, List.drop_succ_cons, List.drop_nil, List.cons_append, List.nil_append, List.set_cons_zero, List.set_cons_succ, ↓reduceIte, *]
      | (with_reducible refine tb_true ?_)
      | (with_reducible refine tb_false ?_)
      | (with_reducible refine tb_split (fun _ => ?_) (fun _ => ?_))
      | (with_reducible refine wg_f (fun _ => ?_) (fun _ => ?_))
      | (with_reducible refine wg_t (fun _ => ?_) (fun _ => ?_))
      | (with_reducible refine wd_f (fun _ => ?_) (fun _ => ?_))
      | (with_reducible refine wd_t (fun _ => ?_) (fun _ => ?_))
    all_goals first | (exfalso; omega) | exact ⟨rfl, rfl⟩
  rw [if_neg h2]
  have hl1 : 1 ≤ l.length := by omega
  have hl2 : l.length ≤ 30 := by omega
  generalize hE : fstE (rgFlt l) 0 l.length = E
  refine meetsP (E := (EW m)) 42 [.tmp 2] (ew m) Tryz.func57 rfl (by decide) rfl rfl (by simp) ?_
  repeat' first
    | (with_reducible refine t_seq ?_)
    | (with_reducible refine t_skip ?_)
    | (with_reducible refine t_ret ?_)
    | (with_reducible refine t_end ?_)
    | (with_reducible refine t_cond ?_)
    | (with_reducible refine t_region ?_)
    | (with_reducible refine wr_done ?_)
    | ((with_reducible refine t_isDraw ?_); refine t_draw rfl (by kernel_rfl) ?_)
    | (with_reducible refine WD.done _ ?_)
    | (with_reducible refine wdp_done ?_)
    | (with_reducible refine tr_some ?_)
    | ((fail_if_success with_reducible refine t_bl ?_); (with_reducible refine t_block ?_))
    | (with_reducible refine t_inBlock ?_)
    | ((with_reducible refine t_isExit ?_); refine t_exit rfl ?_)
    | simp only [decide_eq_true_eq, decide_eq_false_iff_not, Bool.not_eq_true', Bool.not_eq_false'] at *
    | simp (disch := omega) only [go_sem, Nat.reduceLT, Nat.reduceEqDiff, Nat.reduceAdd, Nat.reduceLeDiff, Nat.reduceMul, Int.reduceLT, Int.reduceLE, Int.reduceAdd, Int.reduceSub, Int.reduceNeg, Int.reduceToNat, Int.reduceBEq, Int.reduceEq, reduceCtorEq, List.take_succ_cons, List.take_zero, List.take_nil, List.drop_succ_cons, List.drop_nil, List.cons_append, List.nil_append, List.set_cons_zero, List.set_cons_succ, ↓reduceIte, *]
    | (with_reducible refine tb_true ?_)
    | (with_reducible refine tb_false ?_)
    | (with_reducible refine tb_split (fun _ => ?_) (fun _ => ?_))
    | (with_reducible refine wg_f (fun _ => ?_) (fun _ => ?_))
    | (with_reducible refine wg_t (fun _ => ?_) (fun _ => ?_))
    | (with_reducible refine wd_f (fun _ => ?_) (fun _ => ?_))
    | (with_reducible refine wd_t (fun _ => ?_) (fun _ => ?_))
  all_goals first | (exfalso; omega) | skip
  refine t_while (I := fun (i : Nat) t h => i ≤ l.length ∧ (∃ n, h = ⟨[], n⟩) ∧ get t 0 = .isl false 2 R ∧ get t 13 = .isl false 2 R ∧ get t 14 = .i .i64 l.length ∧ get t 15 = .i .i64 i ∧ fstE (rgFlt l) i (l.length - i) = E) (m := fun i => l.length - i)
    (J := fun t h => E = 0) 0 ⟨by omega, ⟨0, rfl⟩, by simp [get], by simp [get], by simp [get, hlen], by simp [get], hE⟩ ?_ ?_
  · rintro i t h ⟨hi, ⟨n, rfl⟩, g0, g13, g14, g15, hE'⟩ hrec hex
    by_cases hi' : i < l.length
    · have hr := hrow i hi'
      have hc := lineCheck (m := m) ((rgR l).f i)
      have hN := ruleNameP (m := m) (rgN l i) (by have := hnm i hi'; omega)
      rw [show l.length - i = (l.length - i - 1) + 1 by omega] at hE'
      have hgo : rgFlt l i = 0 → fstE (rgFlt l) (i + 1) (l.length - (i + 1)) = E := fun h => by
        by_cases hz : rgFlt l i = 0
        · have e : fstE (rgFlt l) i (l.length - i - 1 + 1) = fstE (rgFlt l) (i + 1) (l.length - i - 1) := by
            show (if rgFlt l i ≠ 0 then rgFlt l i else _) = _
            rw [if_neg (by simp [hz])]
          rw [e] at hE'
          rwa [show l.length - i - 1 = l.length - (i + 1) by omega] at hE'
        · exact absurd h hz
      have hno : rgFlt l i ≠ 0 → rgFlt l i = E := fun h => by
        have e : fstE (rgFlt l) i (l.length - i - 1 + 1) = rgFlt l i := by
          show (if rgFlt l i ≠ 0 then rgFlt l i else _) = _
          rw [if_pos h]
        rwa [e] at hE'
      unfold rgFlt at hgo hno
      have hp := fun (h : 0 < i) => hrow (i - 1) (by omega)
      have hpi : 0 < i → ((i : Int) - 1).toNat = i - 1 := fun h => by omega
      clear hE'
      by_cases c0 : nameB (rgN l i) = false
      · have hq := hno (by rw [if_pos c0]; decide)
        rw [if_pos c0] at hq
        rw [c0] at hN
        clear hgo hno hp hpi
        subst hq
        repeat' first
          | ((with_reducible refine wr_isCall ?_); refine wr_P hN rfl ?_)
          | (with_reducible refine t_seq ?_)
          | (with_reducible refine t_skip ?_)
          | (with_reducible refine t_ret ?_)
          | (with_reducible refine t_end ?_)
          | (with_reducible refine t_cond ?_)
          | (with_reducible refine t_region ?_)
          | (with_reducible refine wr_done ?_)
          | ((with_reducible refine t_isDraw ?_); refine t_draw rfl (by kernel_rfl) ?_)
          | (with_reducible refine WD.done _ ?_)
          | (with_reducible refine wdp_done ?_)
          | (with_reducible refine tr_some ?_)
          | ((fail_if_success with_reducible refine t_bl ?_); (with_reducible refine t_block ?_))
          | (with_reducible refine t_inBlock ?_)
          | ((with_reducible refine t_isExit ?_); refine t_exit rfl ?_)
          | simp only [decide_eq_true_eq, decide_eq_false_iff_not, Bool.not_eq_true', Bool.not_eq_false'] at *
          | simp (disch := omega) only [go_sem, Nat.reduceLT, Nat.reduceEqDiff, Nat.reduceAdd, Nat.reduceLeDiff, Nat.reduceMul, Int.reduceLT, Int.reduceLE, Int.reduceAdd, Int.reduceSub, Int.reduceNeg, Int.reduceToNat, Int.reduceBEq, Int.reduceEq, reduceCtorEq, List.take_succ_cons, List.take_zero, List.take_nil, List.drop_succ_cons, List.drop_nil, List.cons_append, List.nil_append, List.set_cons_zero, List.set_cons_succ, ↓reduceIte, *]
          | (with_reducible refine tb_true ?_)
          | (with_reducible refine tb_false ?_)
          | (with_reducible refine tb_split (fun _ => ?_) (fun _ => ?_))
          | (with_reducible refine wg_f (fun _ => ?_) (fun _ => ?_))
          | (with_reducible refine wg_t (fun _ => ?_) (fun _ => ?_))
          | (with_reducible refine wd_f (fun _ => ?_) (fun _ => ?_))
          | (with_reducible refine wd_t (fun _ => ?_) (fun _ => ?_))
        all_goals first | (exfalso; omega) | exact ⟨rfl, rfl⟩
      · rw [if_neg c0] at hgo hno
        rw [show nameB (rgN l i) = true by simpa using c0] at hN
        by_cases c1 : chkDay ((rgR l).f i) = 0
        · rw [c1] at hc
          rw [if_neg (by simp [c1])] at hgo hno
          by_cases c2 : 0 < i ∧ (rgR l).f i ≤ (rgR l).f (i - 1)
          · have hq := hno (by rw [if_pos c2]; decide)
            rw [if_pos c2] at hq
            have hp' := hp c2.1
            have hpi' := hpi c2.1
            have ci : (0 : Int) < i := by omega
            have c22 := c2.2
            clear hgo hno hp hpi
            subst hq
            repeat' first
              | ((with_reducible refine wr_isCall ?_); refine wr_P hN rfl ?_)
              | ((with_reducible refine wr_isCall ?_); refine wr_P hc rfl ?_)
              | (with_reducible refine t_seq ?_)
              | (with_reducible refine t_skip ?_)
              | (with_reducible refine t_ret ?_)
              | (with_reducible refine t_end ?_)
              | (with_reducible refine t_cond ?_)
              | (with_reducible refine t_region ?_)
              | (with_reducible refine wr_done ?_)
              | ((with_reducible refine t_isDraw ?_); refine t_draw rfl (by kernel_rfl) ?_)
              | (with_reducible refine WD.done _ ?_)
              | (with_reducible refine wdp_done ?_)
              | (with_reducible refine tr_some ?_)
              | ((fail_if_success with_reducible refine t_bl ?_); (with_reducible refine t_block ?_))
              | (with_reducible refine t_inBlock ?_)
              | ((with_reducible refine t_isExit ?_); refine t_exit rfl ?_)
              | simp only [decide_eq_true_eq, decide_eq_false_iff_not, Bool.not_eq_true', Bool.not_eq_false'] at *
              | simp (disch := omega) only [go_sem, Nat.reduceLT, Nat.reduceEqDiff, Nat.reduceAdd, Nat.reduceLeDiff, Nat.reduceMul, Int.reduceLT, Int.reduceLE, Int.reduceAdd, Int.reduceSub, Int.reduceNeg, Int.reduceToNat, Int.reduceBEq, Int.reduceEq, reduceCtorEq, List.take_succ_cons, List.take_zero, List.take_nil, List.drop_succ_cons, List.drop_nil, List.cons_append, List.nil_append, List.set_cons_zero, List.set_cons_succ, ↓reduceIte, *]
              | (with_reducible refine tb_true ?_)
              | (with_reducible refine tb_false ?_)
              | (with_reducible refine tb_split (fun _ => ?_) (fun _ => ?_))
              | (with_reducible refine wg_f (fun _ => ?_) (fun _ => ?_))
              | (with_reducible refine wg_t (fun _ => ?_) (fun _ => ?_))
              | (with_reducible refine wd_f (fun _ => ?_) (fun _ => ?_))
              | (with_reducible refine wd_t (fun _ => ?_) (fun _ => ?_))
            all_goals first | (exfalso; omega) | exact ⟨rfl, rfl⟩
          · have hq := hgo (by rw [if_neg c2])
            clear hgo hno
            by_cases c4 : 0 < i
            · have hp' := hp c4
              have hpi' := hpi c4
              clear hp hpi
              repeat' first
                | ((with_reducible refine wr_isCall ?_); refine wr_P hN rfl ?_)
                | ((with_reducible refine wr_isCall ?_); refine wr_P hc rfl ?_)
                | (with_reducible refine t_seq ?_)
                | (with_reducible refine t_skip ?_)
                | (with_reducible refine t_ret ?_)
                | (with_reducible refine t_end ?_)
                | (with_reducible refine t_cond ?_)
                | (with_reducible refine t_region ?_)
                | (with_reducible refine wr_done ?_)
                | ((with_reducible refine t_isDraw ?_); refine t_draw rfl (by kernel_rfl) ?_)
                | (with_reducible refine WD.done _ ?_)
                | (with_reducible refine wdp_done ?_)
                | (with_reducible refine tr_some ?_)
                | ((fail_if_success with_reducible refine t_bl ?_); (with_reducible refine t_block ?_))
                | (with_reducible refine t_inBlock ?_)
                | ((with_reducible refine t_isExit ?_); refine t_exit rfl ?_)
                | simp only [decide_eq_true_eq, decide_eq_false_iff_not, Bool.not_eq_true', Bool.not_eq_false'] at *
                | simp (disch := omega) only [go_sem, Nat.reduceLT, Nat.reduceEqDiff, Nat.reduceAdd, Nat.reduceLeDiff, Nat.reduceMul, Int.reduceLT, Int.reduceLE, Int.reduceAdd, Int.reduceSub, Int.reduceNeg, Int.reduceToNat, Int.reduceBEq, Int.reduceEq, reduceCtorEq, List.take_succ_cons, List.take_zero, List.take_nil, List.drop_succ_cons, List.drop_nil, List.cons_append, List.nil_append, List.set_cons_zero, List.set_cons_succ, ↓reduceIte, *]
                | (with_reducible refine tb_true ?_)
                | (with_reducible refine tb_false ?_)
                | (with_reducible refine tb_split (fun _ => ?_) (fun _ => ?_))
                | (with_reducible refine wg_f (fun _ => ?_) (fun _ => ?_))
                | (with_reducible refine wg_t (fun _ => ?_) (fun _ => ?_))
                | (with_reducible refine wd_f (fun _ => ?_) (fun _ => ?_))
                | (with_reducible refine wd_t (fun _ => ?_) (fun _ => ?_))
              all_goals first | (exfalso; omega) | skip
              all_goals refine t_pop ?_
              all_goals exact hrec (i + 1) _ _ ⟨by omega, ⟨n + 1, rfl⟩, by simp [get, g0], by simp [get, g13], by simp [get, g14], by simp [get], hq⟩ (by omega)
            · clear hp hpi
              repeat' first
                | ((with_reducible refine wr_isCall ?_); refine wr_P hN rfl ?_)
                | ((with_reducible refine wr_isCall ?_); refine wr_P hc rfl ?_)
                | (with_reducible refine t_seq ?_)
                | (with_reducible refine t_skip ?_)
                | (with_reducible refine t_ret ?_)
                | (with_reducible refine t_end ?_)
                | (with_reducible refine t_cond ?_)
                | (with_reducible refine t_region ?_)
                | (with_reducible refine wr_done ?_)
                | ((with_reducible refine t_isDraw ?_); refine t_draw rfl (by kernel_rfl) ?_)
                | (with_reducible refine WD.done _ ?_)
                | (with_reducible refine wdp_done ?_)
                | (with_reducible refine tr_some ?_)
                | ((fail_if_success with_reducible refine t_bl ?_); (with_reducible refine t_block ?_))
                | (with_reducible refine t_inBlock ?_)
                | ((with_reducible refine t_isExit ?_); refine t_exit rfl ?_)
                | simp only [decide_eq_true_eq, decide_eq_false_iff_not, Bool.not_eq_true', Bool.not_eq_false'] at *
                | simp (disch := omega) only [go_sem, Nat.reduceLT, Nat.reduceEqDiff, Nat.reduceAdd, Nat.reduceLeDiff, Nat.reduceMul, Int.reduceLT, Int.reduceLE, Int.reduceAdd, Int.reduceSub, Int.reduceNeg, Int.reduceToNat, Int.reduceBEq, Int.reduceEq, reduceCtorEq, List.take_succ_cons, List.take_zero, List.take_nil, List.drop_succ_cons, List.drop_nil, List.cons_append, List.nil_append, List.set_cons_zero, List.set_cons_succ, ↓reduceIte, *]
                | (with_reducible refine tb_true ?_)
                | (with_reducible refine tb_false ?_)
                | (with_reducible refine tb_split (fun _ => ?_) (fun _ => ?_))
                | (with_reducible refine wg_f (fun _ => ?_) (fun _ => ?_))
                | (with_reducible refine wg_t (fun _ => ?_) (fun _ => ?_))
                | (with_reducible refine wd_f (fun _ => ?_) (fun _ => ?_))
                | (with_reducible refine wd_t (fun _ => ?_) (fun _ => ?_))
              all_goals first | (exfalso; omega) | skip
              all_goals refine t_pop ?_
              all_goals exact hrec (i + 1) _ _ ⟨by omega, ⟨n + 1, rfl⟩, by simp [get, g0], by simp [get, g13], by simp [get, g14], by simp [get], hq⟩ (by omega)
        · have hq := hno (by rw [if_pos c1]; decide)
          rw [if_pos c1] at hq
          have hc3 : chkDay ((rgR l).f i) = 3 := by unfold chkDay at c1 ⊢; split <;> simp_all
          rw [hc3] at hc
          clear hgo hno hp hpi
          subst hq
          repeat' first
            | ((with_reducible refine wr_isCall ?_); refine wr_P hN rfl ?_)
            | ((with_reducible refine wr_isCall ?_); refine wr_P hc rfl ?_)
            | (with_reducible refine t_seq ?_)
            | (with_reducible refine t_skip ?_)
            | (with_reducible refine t_ret ?_)
            | (with_reducible refine t_end ?_)
            | (with_reducible refine t_cond ?_)
            | (with_reducible refine t_region ?_)
            | (with_reducible refine wr_done ?_)
            | ((with_reducible refine t_isDraw ?_); refine t_draw rfl (by kernel_rfl) ?_)
            | (with_reducible refine WD.done _ ?_)
            | (with_reducible refine wdp_done ?_)
            | (with_reducible refine tr_some ?_)
            | ((fail_if_success with_reducible refine t_bl ?_); (with_reducible refine t_block ?_))
            | (with_reducible refine t_inBlock ?_)
            | ((with_reducible refine t_isExit ?_); refine t_exit rfl ?_)
            | simp only [decide_eq_true_eq, decide_eq_false_iff_not, Bool.not_eq_true', Bool.not_eq_false'] at *
            | simp (disch := omega) only [go_sem, Nat.reduceLT, Nat.reduceEqDiff, Nat.reduceAdd, Nat.reduceLeDiff, Nat.reduceMul, Int.reduceLT, Int.reduceLE, Int.reduceAdd, Int.reduceSub, Int.reduceNeg, Int.reduceToNat, Int.reduceBEq, Int.reduceEq, reduceCtorEq, List.take_succ_cons, List.take_zero, List.take_nil, List.drop_succ_cons, List.drop_nil, List.cons_append, List.nil_append, List.set_cons_zero, List.set_cons_succ, ↓reduceIte, *]
            | (with_reducible refine tb_true ?_)
            | (with_reducible refine tb_false ?_)
            | (with_reducible refine tb_split (fun _ => ?_) (fun _ => ?_))
            | (with_reducible refine wg_f (fun _ => ?_) (fun _ => ?_))
            | (with_reducible refine wg_t (fun _ => ?_) (fun _ => ?_))
            | (with_reducible refine wd_f (fun _ => ?_) (fun _ => ?_))
            | (with_reducible refine wd_t (fun _ => ?_) (fun _ => ?_))
          all_goals first | (exfalso; omega) | exact ⟨rfl, rfl⟩
    · have hz : l.length - i = 0 := by omega
      rw [hz] at hE'
      have hE0 : E = 0 := hE'.symm
      subst hE0
      repeat' first
        | (with_reducible refine t_seq ?_)
        | (with_reducible refine t_skip ?_)
        | (with_reducible refine t_ret ?_)
        | (with_reducible refine t_end ?_)
        | (with_reducible refine t_cond ?_)
        | (with_reducible refine t_region ?_)
        | (with_reducible refine wr_done ?_)
        | ((with_reducible refine t_isDraw ?_); refine t_draw rfl (by kernel_rfl) ?_)
        | (with_reducible refine WD.done _ ?_)
        | (with_reducible refine wdp_done ?_)
        | (with_reducible refine tr_some ?_)
        | ((fail_if_success with_reducible refine t_bl ?_); (with_reducible refine t_block ?_))
        | (with_reducible refine t_inBlock ?_)
        | ((with_reducible refine t_isExit ?_); refine t_exit rfl ?_)
        | simp only [decide_eq_true_eq, decide_eq_false_iff_not, Bool.not_eq_true', Bool.not_eq_false'] at *
        | simp (disch := omega) only [go_sem, Nat.reduceLT, Nat.reduceEqDiff, Nat.reduceAdd, Nat.reduceLeDiff, Nat.reduceMul, Int.reduceLT, Int.reduceLE, Int.reduceAdd, Int.reduceSub, Int.reduceNeg, Int.reduceToNat, Int.reduceBEq, Int.reduceEq, reduceCtorEq, List.take_succ_cons, List.take_zero, List.take_nil, List.drop_succ_cons, List.drop_nil, List.cons_append, List.nil_append, List.set_cons_zero, List.set_cons_succ, ↓reduceIte, *]
        | (with_reducible refine tb_true ?_)
        | (with_reducible refine tb_false ?_)
        | (with_reducible refine tb_split (fun _ => ?_) (fun _ => ?_))
        | (with_reducible refine wg_f (fun _ => ?_) (fun _ => ?_))
        | (with_reducible refine wg_t (fun _ => ?_) (fun _ => ?_))
        | (with_reducible refine wd_f (fun _ => ?_) (fun _ => ?_))
        | (with_reducible refine wd_t (fun _ => ?_) (fun _ => ?_))
      all_goals first | (exfalso; omega) | exact ⟨rfl, rfl⟩
  · rintro t h rfl
    repeat' first
      | (with_reducible refine t_seq ?_)
      | (with_reducible refine t_skip ?_)
      | (with_reducible refine t_ret ?_)
      | (with_reducible refine t_end ?_)
      | (with_reducible refine t_cond ?_)
      | (with_reducible refine t_region ?_)
      | (with_reducible refine wr_done ?_)
      | ((with_reducible refine t_isDraw ?_); refine t_draw rfl (by kernel_rfl) ?_)
      | (with_reducible refine WD.done _ ?_)
      | (with_reducible refine wdp_done ?_)
      | (with_reducible refine tr_some ?_)
      | ((fail_if_success with_reducible refine t_bl ?_); (with_reducible refine t_block ?_))
      | (with_reducible refine t_inBlock ?_)
      | ((with_reducible refine t_isExit ?_); refine t_exit rfl ?_)
      | simp only [decide_eq_true_eq, decide_eq_false_iff_not, Bool.not_eq_true', Bool.not_eq_false'] at *
      | simp (disch := omega) only [go_sem, Nat.reduceLT, Nat.reduceEqDiff, Nat.reduceAdd, Nat.reduceLeDiff, Nat.reduceMul, Int.reduceLT, Int.reduceLE, Int.reduceAdd, Int.reduceSub, Int.reduceNeg, Int.reduceToNat, Int.reduceBEq, Int.reduceEq, reduceCtorEq, List.take_succ_cons, List.take_zero, List.take_nil, List.drop_succ_cons, List.drop_nil, List.cons_append, List.nil_append, List.set_cons_zero, List.set_cons_succ, ↓reduceIte, *]
      | (with_reducible refine tb_true ?_)
      | (with_reducible refine tb_false ?_)
      | (with_reducible refine tb_split (fun _ => ?_) (fun _ => ?_))
      | (with_reducible refine wg_f (fun _ => ?_) (fun _ => ?_))
      | (with_reducible refine wg_t (fun _ => ?_) (fun _ => ?_))
      | (with_reducible refine wd_f (fun _ => ?_) (fun _ => ?_))
      | (with_reducible refine wd_t (fun _ => ?_) (fun _ => ?_))
    exact ⟨rfl, rfl⟩
theorem xtrP (mode : Int) : MeetsP Tryz.prog (glT m) 36 [.i .i64 mode] (.i .i64 (xtr mode)) := by
  unfold xtr
  refine meetsP (E := (EW m)) 5 [.tmp 2] (ew m) Tryz.func36 rfl (by decide) rfl rfl (by simp) ?_
  repeat' first
    | (with_reducible refine t_seq ?_)
    | (with_reducible refine t_skip ?_)
    | (with_reducible refine t_ret ?_)
    | (with_reducible refine t_end ?_)
    | (with_reducible refine t_cond ?_)
    | (with_reducible refine t_region ?_)
    | (with_reducible refine wr_done ?_)
    | ((with_reducible refine t_isDraw ?_); refine t_draw rfl (by kernel_rfl) ?_)
    | (with_reducible refine WD.done _ ?_)
    | (with_reducible refine wdp_done ?_)
    | (with_reducible refine tr_some ?_)
    | ((fail_if_success with_reducible refine t_bl ?_); (with_reducible refine t_block ?_))
    | (with_reducible refine t_inBlock ?_)
    | ((with_reducible refine t_isExit ?_); refine t_exit rfl ?_)
    | simp only [decide_eq_true_eq, decide_eq_false_iff_not, Bool.not_eq_true', Bool.not_eq_false'] at *
    | simp (disch := omega) only [go_sem, Nat.reduceLT, Nat.reduceEqDiff, Nat.reduceAdd, Nat.reduceLeDiff, Nat.reduceMul, Int.reduceLT, Int.reduceLE, Int.reduceAdd, Int.reduceSub, Int.reduceNeg, Int.reduceToNat, Int.reduceBEq, Int.reduceEq, reduceCtorEq, List.take_succ_cons, List.take_zero, List.take_nil, List.drop_succ_cons, List.drop_nil, List.cons_append, List.nil_append, List.set_cons_zero, List.set_cons_succ, ↓reduceIte, *]
    | (with_reducible refine tb_true ?_)
    | (with_reducible refine tb_false ?_)
    | (with_reducible refine tb_split (fun _ => ?_) (fun _ => ?_))
    | (with_reducible refine wg_f (fun _ => ?_) (fun _ => ?_))
    | (with_reducible refine wg_t (fun _ => ?_) (fun _ => ?_))
    | (with_reducible refine wd_f (fun _ => ?_) (fun _ => ?_))
    | (with_reducible refine wd_t (fun _ => ?_) (fun _ => ?_))
  all_goals exact ⟨rfl, rfl⟩
theorem rgA_no (l : Reigns) (s : List UInt8) (mode : Int) : [rgA l, .s s, .i .i64 mode].all (noid 12) = true := rfl
set_option maxRecDepth 100000 in
theorem eraBeginBad (l : Reigns) (hs : ∀ p ∈ l, p.1.length ≤ 140737488351232) (h : rgChk l ≠ 0) (s : List UInt8) (mode : Int) : MeetsP Tryz.prog (glT m) 35 [rgA l, .s s, .i .i64 mode] (.tup [cal0, .i .i64 (rgChk l)]) := by
  have hc := eraCheckP (m := m) l hs
  unfold rgA cal0 at *
  generalize rgChk l = e at *
  generalize rgRows l = R at *
  refine meetsP (E := (EW m)) 34 [.cell 6 62, .tmp 7] (ew m) Tryz.func35 rfl (by decide) rfl rfl (by simp) ?_
  repeat' first
    | ((with_reducible refine wr_isCall ?_); refine wr_P hc rfl ?_)
    | (with_reducible refine t_seq ?_)
    | (with_reducible refine t_skip ?_)
    | (with_reducible refine t_ret ?_)
    | (with_reducible refine t_end ?_)
    | (with_reducible refine t_cond ?_)
    | (with_reducible refine t_region ?_)
    | (with_reducible refine wr_done ?_)
    | ((with_reducible refine t_isDraw ?_); refine t_draw rfl (by kernel_rfl) ?_)
    | (with_reducible refine WD.done _ ?_)
    | (with_reducible refine wdp_done ?_)
    | (with_reducible refine tr_some ?_)
    | ((fail_if_success with_reducible refine t_bl ?_); (with_reducible refine t_block ?_))
    | (with_reducible refine t_inBlock ?_)
    | ((with_reducible refine t_isExit ?_); refine t_exit rfl ?_)
    | simp only [decide_eq_true_eq, decide_eq_false_iff_not, Bool.not_eq_true', Bool.not_eq_false'] at *
    | simp (disch := omega) only [go_sem, Nat.reduceLT, Nat.reduceEqDiff, Nat.reduceAdd, Nat.reduceLeDiff, Nat.reduceMul, Int.reduceLT, Int.reduceLE, Int.reduceAdd, Int.reduceSub, Int.reduceNeg, Int.reduceToNat, Int.reduceBEq, Int.reduceEq, reduceCtorEq, List.take_succ_cons, List.take_zero, List.take_nil, List.drop_succ_cons, List.drop_nil, List.cons_append, List.nil_append, List.set_cons_zero, List.set_cons_succ, ↓reduceIte, *]
    | (with_reducible refine tb_true ?_)
    | (with_reducible refine tb_false ?_)
    | (with_reducible refine tb_split (fun _ => ?_) (fun _ => ?_))
    | (with_reducible refine wg_f (fun _ => ?_) (fun _ => ?_))
    | (with_reducible refine wg_t (fun _ => ?_) (fun _ => ?_))
    | (with_reducible refine wd_f (fun _ => ?_) (fun _ => ?_))
    | (with_reducible refine wd_t (fun _ => ?_) (fun _ => ?_))
  all_goals first | (exfalso; omega) | exact ⟨rfl, rfl⟩
set_option maxRecDepth 100000 in
theorem eraBegin (l : Reigns) (hs : ∀ p ∈ l, p.1.length ≤ 140737488351232) (h : rgChk l = 0) {c : Cal} {s : List UInt8} {mode : Int} (hm : mode = 1 ∨ mode = 2) (hC : MeetsP Tryz.prog (glT m) 26 [.s s] (.tup [c.A, .i .i64 0])) : MeetsP Tryz.prog (glT m) 35 [rgA l, .s s, .i .i64 mode] (.tup [c.A, .i .i64 0]) := by
  have hc := eraCheckP (m := m) l hs
  rw [h] at hc
  unfold rgA at *
  generalize rgRows l = R at *
  obtain ⟨nm, ep, cy, ms, ls⟩ := c
  simp only [Cal.A, monF, intF] at *
  generalize (ms.map fun q => [AV.s q.1, AV.i .i64 q.2.1, AV.i .i64 q.2.2]) = ML at *
  generalize (ls.map fun y => [AV.i .i64 y]) = LL at *
  rcases hm with rfl | rfl
  · refine meetsP (E := (EW m)) 34 [.cell 6 62, .tmp 7] (ew m) Tryz.func35 rfl (by decide) rfl rfl (by simp) ?_
    repeat' first
      | ((with_reducible refine wr_isCall ?_); refine wr_P hc rfl ?_)
      | ((with_reducible refine wr_isCall ?_); refine wr_P hC rfl ?_)
      | (with_reducible refine t_seq ?_)
      | (with_reducible refine t_skip ?_)
      | (with_reducible refine t_ret ?_)
      | (with_reducible refine t_end ?_)
      | (with_reducible refine t_cond ?_)
      | (with_reducible refine t_region ?_)
      | (with_reducible refine wr_done ?_)
      | ((with_reducible refine t_isDraw ?_); refine t_draw rfl (by kernel_rfl) ?_)
      | (with_reducible refine WD.done _ ?_)
      | (with_reducible refine wdp_done ?_)
      | (with_reducible refine tr_some ?_)
      | ((fail_if_success with_reducible refine t_bl ?_); (with_reducible refine t_block ?_))
      | (with_reducible refine t_inBlock ?_)
      | ((with_reducible refine t_isExit ?_); refine t_exit rfl ?_)
      | simp only [decide_eq_true_eq, decide_eq_false_iff_not, Bool.not_eq_true', Bool.not_eq_false'] at *
      | simp (disch := omega) only [go_sem, Nat.reduceLT, Nat.reduceEqDiff, Nat.reduceAdd, Nat.reduceLeDiff, Nat.reduceMul, Int.reduceLT, Int.reduceLE, Int.reduceAdd, Int.reduceSub, Int.reduceNeg, Int.reduceToNat, Int.reduceBEq, Int.reduceEq, reduceCtorEq, List.take_succ_cons, List.take_zero, List.take_nil, List.drop_succ_cons, List.drop_nil, List.cons_append, List.nil_append, List.set_cons_zero, List.set_cons_succ, ↓reduceIte, *]
      | (with_reducible refine tb_true ?_)
      | (with_reducible refine tb_false ?_)
      | (with_reducible refine tb_split (fun _ => ?_) (fun _ => ?_))
      | (with_reducible refine wg_f (fun _ => ?_) (fun _ => ?_))
      | (with_reducible refine wg_t (fun _ => ?_) (fun _ => ?_))
      | (with_reducible refine wd_f (fun _ => ?_) (fun _ => ?_))
      | (with_reducible refine wd_t (fun _ => ?_) (fun _ => ?_))
    all_goals first | (exfalso; omega) | exact ⟨rfl, rfl⟩
  · refine meetsP (E := (EW m)) 34 [.cell 6 62, .tmp 7] (ew m) Tryz.func35 rfl (by decide) rfl rfl (by simp) ?_
    repeat' first
      | ((with_reducible refine wr_isCall ?_); refine wr_P hc rfl ?_)
      | ((with_reducible refine wr_isCall ?_); refine wr_P hC rfl ?_)
      | (with_reducible refine t_seq ?_)
      | (with_reducible refine t_skip ?_)
      | (with_reducible refine t_ret ?_)
      | (with_reducible refine t_end ?_)
      | (with_reducible refine t_cond ?_)
      | (with_reducible refine t_region ?_)
      | (with_reducible refine wr_done ?_)
      | ((with_reducible refine t_isDraw ?_); refine t_draw rfl (by kernel_rfl) ?_)
      | (with_reducible refine WD.done _ ?_)
      | (with_reducible refine wdp_done ?_)
      | (with_reducible refine tr_some ?_)
      | ((fail_if_success with_reducible refine t_bl ?_); (with_reducible refine t_block ?_))
      | (with_reducible refine t_inBlock ?_)
      | ((with_reducible refine t_isExit ?_); refine t_exit rfl ?_)
      | simp only [decide_eq_true_eq, decide_eq_false_iff_not, Bool.not_eq_true', Bool.not_eq_false'] at *
      | simp (disch := omega) only [go_sem, Nat.reduceLT, Nat.reduceEqDiff, Nat.reduceAdd, Nat.reduceLeDiff, Nat.reduceMul, Int.reduceLT, Int.reduceLE, Int.reduceAdd, Int.reduceSub, Int.reduceNeg, Int.reduceToNat, Int.reduceBEq, Int.reduceEq, reduceCtorEq, List.take_succ_cons, List.take_zero, List.take_nil, List.drop_succ_cons, List.drop_nil, List.cons_append, List.nil_append, List.set_cons_zero, List.set_cons_succ, ↓reduceIte, *]
      | (with_reducible refine tb_true ?_)
      | (with_reducible refine tb_false ?_)
      | (with_reducible refine tb_split (fun _ => ?_) (fun _ => ?_))
      | (with_reducible refine wg_f (fun _ => ?_) (fun _ => ?_))
      | (with_reducible refine wg_t (fun _ => ?_) (fun _ => ?_))
      | (with_reducible refine wd_f (fun _ => ?_) (fun _ => ?_))
      | (with_reducible refine wd_t (fun _ => ?_) (fun _ => ?_))
    all_goals first | (exfalso; omega) | exact ⟨rfl, rfl⟩
/-- What Say answers: the reign of the day is the k-th. -/
def sayA (s : List UInt8) (n e : Int) : AV := .tup [.s s, .i .i64 n, .i .i64 e]
theorem cal_gen (c : Cal) : ∃ y1 y2 y3 y4 y5, c.A = .agg [y1, y2, y3, y4, y5] ∧ (one y1 = true ∧ one y2 = true ∧ one y3 = true ∧ one y4 = true ∧ one y5 = true) ∧ ∀ a, [AV.agg [y1, y2, y3, y4, y5], a].all (noid 12) = noid 12 a :=
  let ⟨y1, y2, y3, y4, y5, hy, o, _, n2⟩ := c.A_parts; ⟨y1, y2, y3, y4, y5, hy, o, n2⟩
set_option maxRecDepth 100000 in
theorem sayBad (l : Reigns) (hs : ∀ p ∈ l, p.1.length ≤ 140737488351232) (h : rgChk l ≠ 0) (s : List UInt8) (mode day : Int) : MeetsP Tryz.prog (glT m) 18 [rgA l, .s s, .i .i64 mode, .i .i64 day] (sayA [] 0 (rgChk l)) := by
  have hc := eraBeginBad (m := m) l hs h s mode
  unfold rgA cal0 sayA at *
  generalize rgChk l = e at *
  generalize rgRows l = R at *
  refine meetsP (E := (EW m)) 87 [.tmp 8, .tmp 9, .tmp 10] (ew m) Tryz.func18 rfl (by decide) rfl rfl (by simp) ?_
  repeat' first
    | ((with_reducible refine wr_isCall ?_); refine wr_P hc rfl ?_)
    | (with_reducible refine t_seq ?_)
    | (with_reducible refine t_skip ?_)
    | (with_reducible refine t_ret ?_)
    | (with_reducible refine t_end ?_)
    | (with_reducible refine t_cond ?_)
    | (with_reducible refine t_region ?_)
    | (with_reducible refine wr_done ?_)
    | ((with_reducible refine t_isDraw ?_); refine t_draw rfl (by kernel_rfl) ?_)
    | (with_reducible refine WD.done _ ?_)
    | (with_reducible refine wdp_done ?_)
    | (with_reducible refine tr_some ?_)
    | ((fail_if_success with_reducible refine t_bl ?_); (with_reducible refine t_block ?_))
    | (with_reducible refine t_inBlock ?_)
    | ((with_reducible refine t_isExit ?_); refine t_exit rfl ?_)
    | simp only [decide_eq_true_eq, decide_eq_false_iff_not, Bool.not_eq_true', Bool.not_eq_false'] at *
    | simp (disch := omega) only [go_sem, Nat.reduceLT, Nat.reduceEqDiff, Nat.reduceAdd, Nat.reduceLeDiff, Nat.reduceMul, Int.reduceLT, Int.reduceLE, Int.reduceAdd, Int.reduceSub, Int.reduceNeg, Int.reduceToNat, Int.reduceBEq, Int.reduceEq, reduceCtorEq, List.take_succ_cons, List.take_zero, List.take_nil, List.drop_succ_cons, List.drop_nil, List.cons_append, List.nil_append, List.set_cons_zero, List.set_cons_succ, ↓reduceIte, *]
    | (with_reducible refine tb_true ?_)
    | (with_reducible refine tb_false ?_)
    | (with_reducible refine tb_split (fun _ => ?_) (fun _ => ?_))
    | (with_reducible refine wg_f (fun _ => ?_) (fun _ => ?_))
    | (with_reducible refine wg_t (fun _ => ?_) (fun _ => ?_))
    | (with_reducible refine wd_f (fun _ => ?_) (fun _ => ?_))
    | (with_reducible refine wd_t (fun _ => ?_) (fun _ => ?_))
  all_goals first | (exfalso; omega) | exact ⟨rfl, rfl⟩
set_option maxRecDepth 100000 in
set_option maxHeartbeats 2000000 in
theorem sayEarly (l : Reigns) (hs : ∀ p ∈ l, p.1.length ≤ 140737488351232) (h : rgChk l = 0) {c : Cal} {s : List UInt8} {mode day : Int} (hm : mode = 1 ∨ mode = 2) (hC : MeetsP Tryz.prog (glT m) 26 [.s s] (.tup [c.A, .i .i64 0]))
    (hd : chkDay day = 3 ∨ chkDay day = 0 ∧ day < (rgR l).f 0) : ∃ e, e ≠ 0 ∧ MeetsP Tryz.prog (glT m) 18 [rgA l, .s s, .i .i64 mode, .i .i64 day] (sayA [] 0 e) := by
  have hc := eraBegin (m := m) l hs h hm hC
  have hl := lineCheck (m := m) day
  have hrow := rg_row (l := l) (i := 0) (by have := (rgChk_ok h).l1; omega)
  have hlen := rgRows_len l
  have hl1 := (rgChk_ok h).l1
  unfold rgA sayA at *
  generalize rgRows l = R at *
  obtain ⟨y1, y2, y3, y4, y5, hy, ⟨o1, o2, o3, o4, o5⟩, n2⟩ := cal_gen c
  rw [hy] at hc
  rcases hd with hd | ⟨hd, hd2⟩
  · rw [hd] at hl
    refine ⟨3, by decide, ?_⟩
    refine meetsP (E := (EW m)) 87 [.tmp 8, .tmp 9, .tmp 10] (ew m) Tryz.func18 rfl (by decide) rfl rfl (by simp) ?_
    repeat' first
      | ((with_reducible refine wr_isCall ?_); refine wr_P hc rfl ?_)
      | ((with_reducible refine wr_isCall ?_); refine wr_P hl rfl ?_)
      | (with_reducible refine t_seq ?_)
      | (with_reducible refine t_skip ?_)
      | (with_reducible refine t_ret ?_)
      | (with_reducible refine t_end ?_)
      | (with_reducible refine t_cond ?_)
      | (with_reducible refine t_region ?_)
      | (with_reducible refine wr_done ?_)
      | ((with_reducible refine t_isDraw ?_); refine t_draw rfl (by kernel_rfl) ?_)
      | (with_reducible refine WD.done _ ?_)
      | (with_reducible refine wdp_done ?_)
      | (with_reducible refine tr_some ?_)
      | ((fail_if_success with_reducible refine t_bl ?_); (with_reducible refine t_block ?_))
      | (with_reducible refine t_inBlock ?_)
      | ((with_reducible refine t_isExit ?_); refine t_exit rfl ?_)
      | simp only [decide_eq_true_eq, decide_eq_false_iff_not, Bool.not_eq_true', Bool.not_eq_false'] at *
      | simp (disch := omega) only [go_sem, Nat.reduceLT, Nat.reduceEqDiff, Nat.reduceAdd, Nat.reduceLeDiff, Nat.reduceMul, Int.reduceLT, Int.reduceLE, Int.reduceAdd, Int.reduceSub, Int.reduceNeg, Int.reduceToNat, Int.reduceBEq, Int.reduceEq, reduceCtorEq, List.take_succ_cons, List.take_zero, List.take_nil, List.drop_succ_cons, List.drop_nil, List.cons_append, List.nil_append, List.set_cons_zero, List.set_cons_succ, ↓reduceIte, *]
      | (with_reducible refine tb_true ?_)
      | (with_reducible refine tb_false ?_)
      | (with_reducible refine tb_split (fun _ => ?_) (fun _ => ?_))
      | (with_reducible refine wg_f (fun _ => ?_) (fun _ => ?_))
      | (with_reducible refine wg_t (fun _ => ?_) (fun _ => ?_))
      | (with_reducible refine wd_f (fun _ => ?_) (fun _ => ?_))
      | (with_reducible refine wd_t (fun _ => ?_) (fun _ => ?_))
    all_goals first | (exfalso; omega) | exact ⟨rfl, rfl⟩
  · rw [hd] at hl
    refine ⟨6, by decide, ?_⟩
    refine meetsP (E := (EW m)) 87 [.tmp 8, .tmp 9, .tmp 10] (ew m) Tryz.func18 rfl (by decide) rfl rfl (by simp) ?_
    repeat' first
      | ((with_reducible refine wr_isCall ?_); refine wr_P hc rfl ?_)
      | ((with_reducible refine wr_isCall ?_); refine wr_P hl rfl ?_)
      | (with_reducible refine t_seq ?_)
      | (with_reducible refine t_skip ?_)
      | (with_reducible refine t_ret ?_)
      | (with_reducible refine t_end ?_)
      | (with_reducible refine t_cond ?_)
      | (with_reducible refine t_region ?_)
      | (with_reducible refine wr_done ?_)
      | ((with_reducible refine t_isDraw ?_); refine t_draw rfl (by kernel_rfl) ?_)
      | (with_reducible refine WD.done _ ?_)
      | (with_reducible refine wdp_done ?_)
      | (with_reducible refine tr_some ?_)
      | ((fail_if_success with_reducible refine t_bl ?_); (with_reducible refine t_block ?_))
      | (with_reducible refine t_inBlock ?_)
      | ((with_reducible refine t_isExit ?_); refine t_exit rfl ?_)
      | simp only [decide_eq_true_eq, decide_eq_false_iff_not, Bool.not_eq_true', Bool.not_eq_false'] at *
      | simp (disch := omega) only [go_sem, Nat.reduceLT, Nat.reduceEqDiff, Nat.reduceAdd, Nat.reduceLeDiff, Nat.reduceMul, Int.reduceLT, Int.reduceLE, Int.reduceAdd, Int.reduceSub, Int.reduceNeg, Int.reduceToNat, Int.reduceBEq, Int.reduceEq, reduceCtorEq, List.take_succ_cons, List.take_zero, List.take_nil, List.drop_succ_cons, List.drop_nil, List.cons_append, List.nil_append, List.set_cons_zero, List.set_cons_succ, ↓reduceIte, *]
      | (with_reducible refine tb_true ?_)
      | (with_reducible refine tb_false ?_)
      | (with_reducible refine tb_split (fun _ => ?_) (fun _ => ?_))
      | (with_reducible refine wg_f (fun _ => ?_) (fun _ => ?_))
      | (with_reducible refine wg_t (fun _ => ?_) (fun _ => ?_))
      | (with_reducible refine wd_f (fun _ => ?_) (fun _ => ?_))
      | (with_reducible refine wd_t (fun _ => ?_) (fun _ => ?_))
    all_goals first | (exfalso; omega) | exact ⟨rfl, rfl⟩
set_option maxRecDepth 100000 in
set_option maxHeartbeats 4000000 in
theorem sayIn (l : Reigns) (hs : ∀ p ∈ l, p.1.length ≤ 140737488351232) (h : rgChk l = 0) {c : Cal} {s : List UInt8} {mode day y mo d e fy fm fd fe : Int} {k : Nat} (hm : mode = 1 ∨ mode = 2) (hC : MeetsP Tryz.prog (glT m) 26 [.s s] (.tup [c.A, .i .i64 0]))
    (hd : chkDay day = 0) (hin : (rgR l).In day k) (hD : MeetsP Tryz.prog (glT m) 27 [c.A, .i .i64 day] (resD (dateA y mo d) e)) (hF : MeetsP Tryz.prog (glT m) 27 [c.A, .i .i64 ((rgR l).f k)] (resD (dateA fy fm fd) fe))
    (hb : -10000 ≤ y ∧ y ≤ 10000 ∧ -10000 ≤ fy ∧ fy ≤ 10000) :
    MeetsP Tryz.prog (glT m) 18 [rgA l, .s s, .i .i64 mode, .i .i64 day] (if e ≠ 0 then sayA [] 0 e else if fe ≠ 0 then sayA [] 0 fe else sayA (rgN l k) (y - fy + xtr mode) 0) := by
  have hc := eraBegin (m := m) l hs h hm hC
  have hl := lineCheck (m := m) day
  rw [hd] at hl
  have hok := rgChk_ok h
  have hrow := fun i hi => rg_row (l := l) (i := i) hi
  have hlen := rgRows_len l
  have hl1 := hok.l1
  have hl2 := hok.l2
  have hklt := hin.lt
  rw [rgR_len] at hklt
  have hnx := hin.nx
  rw [rgR_len] at hnx
  have hle : ∀ j, j < k → (rgR l).f (j + 1) ≤ day := fun j hj => by
    rcases Nat.lt_or_ge (j + 1) k with q | q
    · have := hok.mono q hklt; have := hin.le; omega
    · have : j + 1 = k := by omega
      rw [this]; exact hin.le
  have hx := xtrP (m := m) mode
  have hxb : 0 ≤ xtr mode ∧ xtr mode ≤ 1 := by unfold xtr; split <;> omega
  have h0 : ¬ day < (rgR l).f 0 := by
    rcases Nat.lt_or_ge 0 k with q | q
    · have := hok.mono q hklt; have := hin.le; omega
    · have : k = 0 := by omega
      subst this; have := hin.le; omega
  generalize xtr mode = X at *
  have r0 := hrow 0 (by omega)
  unfold rgA sayA resD dateA at *
  generalize rgRows l = R at *
  obtain ⟨y1, y2, y3, y4, y5, hy, ⟨o1, o2, o3, o4, o5⟩, n2⟩ := cal_gen c
  rw [hy] at hc hD hF
  generalize hres : (if e ≠ 0 then AV.tup [.s [], .i .i64 0, .i .i64 e] else if fe ≠ 0 then .tup [.s [], .i .i64 0, .i .i64 fe] else .tup [.s (rgN l k), .i .i64 (y - fy + X), .i .i64 0]) = Z
  refine meetsP (E := (EW m)) 87 [.tmp 8, .tmp 9, .tmp 10] (ew m) Tryz.func18 rfl (by decide) rfl rfl (by simp) ?_
  repeat' first
    | ((with_reducible refine wr_isCall ?_); refine wr_P hc rfl ?_)
    | ((with_reducible refine wr_isCall ?_); refine wr_P hl rfl ?_)
    | (with_reducible refine t_seq ?_)
    | (with_reducible refine t_skip ?_)
    | (with_reducible refine t_ret ?_)
    | (with_reducible refine t_end ?_)
    | (with_reducible refine t_cond ?_)
    | (with_reducible refine t_region ?_)
    | (with_reducible refine wr_done ?_)
    | ((with_reducible refine t_isDraw ?_); refine t_draw rfl (by kernel_rfl) ?_)
    | (with_reducible refine WD.done _ ?_)
    | (with_reducible refine wdp_done ?_)
    | (with_reducible refine tr_some ?_)
    | ((fail_if_success with_reducible refine t_bl ?_); (with_reducible refine t_block ?_))
    | (with_reducible refine t_inBlock ?_)
    | ((with_reducible refine t_isExit ?_); refine t_exit rfl ?_)
    | simp only [decide_eq_true_eq, decide_eq_false_iff_not, Bool.not_eq_true', Bool.not_eq_false'] at *
    | simp (disch := omega) only [go_sem, Nat.reduceLT, Nat.reduceEqDiff, Nat.reduceAdd, Nat.reduceLeDiff, Nat.reduceMul, Int.reduceLT, Int.reduceLE, Int.reduceAdd, Int.reduceSub, Int.reduceNeg, Int.reduceToNat, Int.reduceBEq, Int.reduceEq, reduceCtorEq, List.take_succ_cons, List.take_zero, List.take_nil, List.drop_succ_cons, List.drop_nil, List.cons_append, List.nil_append, List.set_cons_zero, List.set_cons_succ, ↓reduceIte, *]
    | (with_reducible refine tb_true ?_)
    | (with_reducible refine tb_false ?_)
    | (with_reducible refine tb_split (fun _ => ?_) (fun _ => ?_))
    | (with_reducible refine wg_f (fun _ => ?_) (fun _ => ?_))
    | (with_reducible refine wg_t (fun _ => ?_) (fun _ => ?_))
    | (with_reducible refine wd_f (fun _ => ?_) (fun _ => ?_))
    | (with_reducible refine wd_t (fun _ => ?_) (fun _ => ?_))
  all_goals first | (exfalso; omega) | skip
  clear r0
  refine t_while (I := fun (j : Nat) t h => j ≤ k ∧ h = ⟨[(0, .rows 5 [[y1, y2, y3, y4, y5]])], 1⟩ ∧ get t 0 = .isl false 2 R ∧ get t 2 = .i .i64 mode ∧ get t 3 = .i .i64 day ∧ get t 11 = .ptr 0 0 0 ∧ get t 13 = .i .i64 j) (m := fun j => k - j)
    (J := fun t h => h = ⟨[(0, .rows 5 [[y1, y2, y3, y4, y5]])], 1⟩ ∧ get t 0 = .isl false 2 R ∧ get t 2 = .i .i64 mode ∧ get t 3 = .i .i64 day ∧ get t 11 = .ptr 0 0 0 ∧ get t 13 = .i .i64 k) 0 ⟨by omega, rfl, by simp [get], by simp [get], by simp [get], by simp [get], by simp [get]⟩ ?_ ?_
  · rintro j t h ⟨hj, rfl, g0, g2, g3, g11, g13⟩ hrec hex
    by_cases hjk : j < k
    · have hrw := hrow (j + 1) (by omega)
      have hq := hle j hjk
      have e1 : ((j : Int) + 1).toNat = j + 1 := by omega
      have e2 : (j : Int) + 1 < l.length := by omega
      clear hrow hnx
      repeat' first
        | (with_reducible refine t_seq ?_)
        | (with_reducible refine t_skip ?_)
        | (with_reducible refine t_ret ?_)
        | (with_reducible refine t_end ?_)
        | (with_reducible refine t_cond ?_)
        | (with_reducible refine t_region ?_)
        | (with_reducible refine wr_done ?_)
        | ((with_reducible refine t_isDraw ?_); refine t_draw rfl (by kernel_rfl) ?_)
        | (with_reducible refine WD.done _ ?_)
        | (with_reducible refine wdp_done ?_)
        | (with_reducible refine tr_some ?_)
        | ((fail_if_success with_reducible refine t_bl ?_); (with_reducible refine t_block ?_))
        | (with_reducible refine t_inBlock ?_)
        | ((with_reducible refine t_isExit ?_); refine t_exit rfl ?_)
        | simp only [decide_eq_true_eq, decide_eq_false_iff_not, Bool.not_eq_true', Bool.not_eq_false'] at *
        | simp (disch := omega) only [go_sem, Nat.reduceLT, Nat.reduceEqDiff, Nat.reduceAdd, Nat.reduceLeDiff, Nat.reduceMul, Int.reduceLT, Int.reduceLE, Int.reduceAdd, Int.reduceSub, Int.reduceNeg, Int.reduceToNat, Int.reduceBEq, Int.reduceEq, reduceCtorEq, List.take_succ_cons, List.take_zero, List.take_nil, List.drop_succ_cons, List.drop_nil, List.cons_append, List.nil_append, List.set_cons_zero, List.set_cons_succ, ↓reduceIte, *]
        | (with_reducible refine tb_true ?_)
        | (with_reducible refine tb_false ?_)
        | (with_reducible refine tb_split (fun _ => ?_) (fun _ => ?_))
        | (with_reducible refine wg_f (fun _ => ?_) (fun _ => ?_))
        | (with_reducible refine wg_t (fun _ => ?_) (fun _ => ?_))
        | (with_reducible refine wd_f (fun _ => ?_) (fun _ => ?_))
        | (with_reducible refine wd_t (fun _ => ?_) (fun _ => ?_))
      all_goals first | (exfalso; omega) | skip
      exact hrec (j + 1) _ _ ⟨by omega, rfl, by simp [get, g0], by simp [get, g2], by simp [get, g3], by simp [get, g11], by simp [get]⟩ (by omega)
    · have hjk' : j = k := by omega
      subst hjk'
      by_cases hN : j + 1 < l.length
      · have hrw := hrow (j + 1) hN
        have hq := hnx hN
        have e1 : ((j : Int) + 1).toNat = j + 1 := by omega
        have e2 : (j : Int) + 1 < l.length := by omega
        clear hrow hnx
        repeat' first
          | refine hex _ _ ?_
          | (with_reducible refine t_seq ?_)
          | (with_reducible refine t_skip ?_)
          | (with_reducible refine t_ret ?_)
          | (with_reducible refine t_end ?_)
          | (with_reducible refine t_cond ?_)
          | (with_reducible refine t_region ?_)
          | (with_reducible refine wr_done ?_)
          | ((with_reducible refine t_isDraw ?_); refine t_draw rfl (by kernel_rfl) ?_)
          | (with_reducible refine WD.done _ ?_)
          | (with_reducible refine wdp_done ?_)
          | (with_reducible refine tr_some ?_)
          | ((fail_if_success with_reducible refine t_bl ?_); (with_reducible refine t_block ?_))
          | (with_reducible refine t_inBlock ?_)
          | ((with_reducible refine t_isExit ?_); refine t_exit rfl ?_)
          | simp only [decide_eq_true_eq, decide_eq_false_iff_not, Bool.not_eq_true', Bool.not_eq_false'] at *
          | simp (disch := omega) only [go_sem, Nat.reduceLT, Nat.reduceEqDiff, Nat.reduceAdd, Nat.reduceLeDiff, Nat.reduceMul, Int.reduceLT, Int.reduceLE, Int.reduceAdd, Int.reduceSub, Int.reduceNeg, Int.reduceToNat, Int.reduceBEq, Int.reduceEq, reduceCtorEq, List.take_succ_cons, List.take_zero, List.take_nil, List.drop_succ_cons, List.drop_nil, List.cons_append, List.nil_append, List.set_cons_zero, List.set_cons_succ, ↓reduceIte, *]
          | (with_reducible refine tb_true ?_)
          | (with_reducible refine tb_false ?_)
          | (with_reducible refine tb_split (fun _ => ?_) (fun _ => ?_))
          | (with_reducible refine wg_f (fun _ => ?_) (fun _ => ?_))
          | (with_reducible refine wg_t (fun _ => ?_) (fun _ => ?_))
          | (with_reducible refine wd_f (fun _ => ?_) (fun _ => ?_))
          | (with_reducible refine wd_t (fun _ => ?_) (fun _ => ?_))
        all_goals first | (exfalso; omega) | simp [get, g0, g2, g3, g11, g13]
      · have e2 : ¬ (j : Int) + 1 < l.length := by omega
        clear hrow hnx
        repeat' first
          | refine hex _ _ ?_
          | (with_reducible refine t_seq ?_)
          | (with_reducible refine t_skip ?_)
          | (with_reducible refine t_ret ?_)
          | (with_reducible refine t_end ?_)
          | (with_reducible refine t_cond ?_)
          | (with_reducible refine t_region ?_)
          | (with_reducible refine wr_done ?_)
          | ((with_reducible refine t_isDraw ?_); refine t_draw rfl (by kernel_rfl) ?_)
          | (with_reducible refine WD.done _ ?_)
          | (with_reducible refine wdp_done ?_)
          | (with_reducible refine tr_some ?_)
          | ((fail_if_success with_reducible refine t_bl ?_); (with_reducible refine t_block ?_))
          | (with_reducible refine t_inBlock ?_)
          | ((with_reducible refine t_isExit ?_); refine t_exit rfl ?_)
          | simp only [decide_eq_true_eq, decide_eq_false_iff_not, Bool.not_eq_true', Bool.not_eq_false'] at *
          | simp (disch := omega) only [go_sem, Nat.reduceLT, Nat.reduceEqDiff, Nat.reduceAdd, Nat.reduceLeDiff, Nat.reduceMul, Int.reduceLT, Int.reduceLE, Int.reduceAdd, Int.reduceSub, Int.reduceNeg, Int.reduceToNat, Int.reduceBEq, Int.reduceEq, reduceCtorEq, List.take_succ_cons, List.take_zero, List.take_nil, List.drop_succ_cons, List.drop_nil, List.cons_append, List.nil_append, List.set_cons_zero, List.set_cons_succ, ↓reduceIte, *]
          | (with_reducible refine tb_true ?_)
          | (with_reducible refine tb_false ?_)
          | (with_reducible refine tb_split (fun _ => ?_) (fun _ => ?_))
          | (with_reducible refine wg_f (fun _ => ?_) (fun _ => ?_))
          | (with_reducible refine wg_t (fun _ => ?_) (fun _ => ?_))
          | (with_reducible refine wd_f (fun _ => ?_) (fun _ => ?_))
          | (with_reducible refine wd_t (fun _ => ?_) (fun _ => ?_))
        all_goals first | (exfalso; omega) | simp [get, g0, g2, g3, g11, g13]
  rintro t h ⟨rfl, g0, g2, g3, g11, g13⟩
  have hrw := hrow k (by omega)
  clear hrow
  by_cases he : e = 0
  · subst he
    rw [if_neg (by simp)] at hres
    by_cases hfe : fe = 0
    · subst hfe
      rw [if_neg (by simp)] at hres
      subst hres
      repeat' first
        | ((with_reducible refine wr_isCall ?_); refine wr_P hD (n2 _) ?_)
        | ((with_reducible refine t_isDraw ?_); refine t_draw2 hF hx (by kernel_rfl) ?_)
        | (with_reducible refine t_seq ?_)
        | (with_reducible refine t_skip ?_)
        | (with_reducible refine t_ret ?_)
        | (with_reducible refine t_end ?_)
        | (with_reducible refine t_cond ?_)
        | (with_reducible refine t_region ?_)
        | (with_reducible refine wr_done ?_)
        | ((with_reducible refine t_isDraw ?_); refine t_draw rfl (by kernel_rfl) ?_)
        | (with_reducible refine WD.done _ ?_)
        | (with_reducible refine wdp_done ?_)
        | (with_reducible refine tr_some ?_)
        | ((fail_if_success with_reducible refine t_bl ?_); (with_reducible refine t_block ?_))
        | (with_reducible refine t_inBlock ?_)
        | ((with_reducible refine t_isExit ?_); refine t_exit rfl ?_)
        | simp only [decide_eq_true_eq, decide_eq_false_iff_not, Bool.not_eq_true', Bool.not_eq_false'] at *
        | simp (disch := omega) only [go_sem, Nat.reduceLT, Nat.reduceEqDiff, Nat.reduceAdd, Nat.reduceLeDiff, Nat.reduceMul, Int.reduceLT, Int.reduceLE, Int.reduceAdd, Int.reduceSub, Int.reduceNeg, Int.reduceToNat, Int.reduceBEq, Int.reduceEq, reduceCtorEq, List.take_succ_cons, List.take_zero, List.take_nil, List.drop_succ_cons, List.drop_nil, List.cons_append, List.nil_append, List.set_cons_zero, List.set_cons_succ, ↓reduceIte, *]
        | (with_reducible refine tb_true ?_)
        | (with_reducible refine tb_false ?_)
        | (with_reducible refine tb_split (fun _ => ?_) (fun _ => ?_))
        | (with_reducible refine wg_f (fun _ => ?_) (fun _ => ?_))
        | (with_reducible refine wg_t (fun _ => ?_) (fun _ => ?_))
        | (with_reducible refine wd_f (fun _ => ?_) (fun _ => ?_))
        | (with_reducible refine wd_t (fun _ => ?_) (fun _ => ?_))
      all_goals first | (exfalso; omega) | exact ⟨rfl, rfl⟩
    · rw [if_pos hfe] at hres
      subst hres
      repeat' first
        | ((with_reducible refine wr_isCall ?_); refine wr_P hD (n2 _) ?_)
        | ((with_reducible refine t_isDraw ?_); refine t_draw1 hF (by kernel_rfl) ?_)
        | (with_reducible refine t_seq ?_)
        | (with_reducible refine t_skip ?_)
        | (with_reducible refine t_ret ?_)
        | (with_reducible refine t_end ?_)
        | (with_reducible refine t_cond ?_)
        | (with_reducible refine t_region ?_)
        | (with_reducible refine wr_done ?_)
        | ((with_reducible refine t_isDraw ?_); refine t_draw rfl (by kernel_rfl) ?_)
        | (with_reducible refine WD.done _ ?_)
        | (with_reducible refine wdp_done ?_)
        | (with_reducible refine tr_some ?_)
        | ((fail_if_success with_reducible refine t_bl ?_); (with_reducible refine t_block ?_))
        | (with_reducible refine t_inBlock ?_)
        | ((with_reducible refine t_isExit ?_); refine t_exit rfl ?_)
        | simp only [decide_eq_true_eq, decide_eq_false_iff_not, Bool.not_eq_true', Bool.not_eq_false'] at *
        | simp (disch := omega) only [go_sem, Nat.reduceLT, Nat.reduceEqDiff, Nat.reduceAdd, Nat.reduceLeDiff, Nat.reduceMul, Int.reduceLT, Int.reduceLE, Int.reduceAdd, Int.reduceSub, Int.reduceNeg, Int.reduceToNat, Int.reduceBEq, Int.reduceEq, reduceCtorEq, List.take_succ_cons, List.take_zero, List.take_nil, List.drop_succ_cons, List.drop_nil, List.cons_append, List.nil_append, List.set_cons_zero, List.set_cons_succ, ↓reduceIte, *]
        | (with_reducible refine tb_true ?_)
        | (with_reducible refine tb_false ?_)
        | (with_reducible refine tb_split (fun _ => ?_) (fun _ => ?_))
        | (with_reducible refine wg_f (fun _ => ?_) (fun _ => ?_))
        | (with_reducible refine wg_t (fun _ => ?_) (fun _ => ?_))
        | (with_reducible refine wd_f (fun _ => ?_) (fun _ => ?_))
        | (with_reducible refine wd_t (fun _ => ?_) (fun _ => ?_))
      all_goals first | (exfalso; omega) | exact ⟨rfl, rfl⟩
  · rw [if_pos he] at hres
    subst hres
    repeat' first
      | ((with_reducible refine wr_isCall ?_); refine wr_P hD (n2 _) ?_)
      | (with_reducible refine t_seq ?_)
      | (with_reducible refine t_skip ?_)
      | (with_reducible refine t_ret ?_)
      | (with_reducible refine t_end ?_)
      | (with_reducible refine t_cond ?_)
      | (with_reducible refine t_region ?_)
      | (with_reducible refine wr_done ?_)
      | ((with_reducible refine t_isDraw ?_); refine t_draw rfl (by kernel_rfl) ?_)
      | (with_reducible refine WD.done _ ?_)
      | (with_reducible refine wdp_done ?_)
      | (with_reducible refine tr_some ?_)
      | ((fail_if_success with_reducible refine t_bl ?_); (with_reducible refine t_block ?_))
      | (with_reducible refine t_inBlock ?_)
      | ((with_reducible refine t_isExit ?_); refine t_exit rfl ?_)
      | simp only [decide_eq_true_eq, decide_eq_false_iff_not, Bool.not_eq_true', Bool.not_eq_false'] at *
      | simp (disch := omega) only [go_sem, Nat.reduceLT, Nat.reduceEqDiff, Nat.reduceAdd, Nat.reduceLeDiff, Nat.reduceMul, Int.reduceLT, Int.reduceLE, Int.reduceAdd, Int.reduceSub, Int.reduceNeg, Int.reduceToNat, Int.reduceBEq, Int.reduceEq, reduceCtorEq, List.take_succ_cons, List.take_zero, List.take_nil, List.drop_succ_cons, List.drop_nil, List.cons_append, List.nil_append, List.set_cons_zero, List.set_cons_succ, ↓reduceIte, *]
      | (with_reducible refine tb_true ?_)
      | (with_reducible refine tb_false ?_)
      | (with_reducible refine tb_split (fun _ => ?_) (fun _ => ?_))
      | (with_reducible refine wg_f (fun _ => ?_) (fun _ => ?_))
      | (with_reducible refine wg_t (fun _ => ?_) (fun _ => ?_))
      | (with_reducible refine wd_f (fun _ => ?_) (fun _ => ?_))
      | (with_reducible refine wd_t (fun _ => ?_) (fun _ => ?_))
    all_goals first | (exfalso; omega) | exact ⟨rfl, rfl⟩
end Go.Proofs.YtkokongbnemkhaaGreatDoorA
