import Derived.Test.YtkokongbnemkhaaGreatDoorPW1
set_option linter.unusedVariables false
set_option linter.unusedSimpArgs false
namespace Go.Proofs.YtkokongbnemkhaaGreatDoorA
open Go Go.RowKit Go.Proofs.YtkokongbnemkhaaGreatDoorFx Go.Proofs
/-- Where a run of bytes ends. -/
def runE' (p : Int → Bool) (s : List UInt8) (n : Nat) : Nat := n + ((s.drop n).takeWhile fun b => p b.toNat).length
theorem run_step {p : Int → Bool} {s : List UInt8} {n : Nat} (h : n < s.length) (h1 : p s[n].toNat = true) : runE' p s (n + 1) = runE' p s n := by
  unfold runE'
  rw [List.drop_eq_getElem_cons h, List.takeWhile_cons, if_pos h1, List.length_cons]
  omega
theorem run_stop {p : Int → Bool} {s : List UInt8} {n : Nat} (h1 : ∀ h : n < s.length, p s[n].toNat = false) : runE' p s n = n := by
  unfold runE'
  by_cases h : n < s.length
  · rw [List.drop_eq_getElem_cons h, List.takeWhile_cons, if_neg (by rw [h1 h]; simp)]; rfl
  · rw [List.drop_eq_nil_of_le (by omega)]; rfl
theorem run_ge {p : Int → Bool} {s : List UInt8} {n : Nat} : n ≤ runE' p s n := Nat.le_add_right ..
theorem run_le {p : Int → Bool} {s : List UInt8} {n : Nat} (h : n ≤ s.length) : runE' p s n ≤ s.length := by
  unfold runE'
  have := (List.takeWhile_sublist (l := s.drop n) (fun b => p b.toNat)).length_le
  rw [List.length_drop] at this
  omega
def wordE (s : List UInt8) (a : Nat) : Nat := if runE' letterB s a = a then (if runE' digitB s a = a then a + 1 else runE' digitB s a) else runE' letterB s a
def wordS (s : List UInt8) (n : Nat) : List UInt8 := if skipN s n = s.length then [] else (s.take (wordE s (skipN s n))).drop (skipN s n)
set_option maxRecDepth 100000 in
theorem word {c : List (Nat × Ent)} {id m n : Nat} {s : List UInt8} {o : Int} (hl : look c id = some (pars s n o)) (hn : n ≤ s.length) (hs : s.length ≤ 140737488355328) :
    MeetsH E1 102 [.ptr id 0 0] ⟨c, m⟩ (Is (.ret (.s (wordS s n))) ⟨upd c id (pars s (skipN s n) o), m⟩) := by
  refine meetsH (E := E1) 80 [.tmp 2] Tryz.func102 rfl (by decide) rfl rfl (by simp) ?_
  have hu : ∀ k l, look (upd c id (.rows k l)) id = some (.rows k l) := fun k l => look_updR k l hl
  have hb := blanks (m := m) hl hn hs
  have ha := skip_le hn
  have hw : wordS s n = if skipN s n = s.length then [] else (s.take (wordE s (skipN s n))).drop (skipN s n) := rfl
  rw [hw]
  clear hw
  generalize skipN s n = a at *
  simp only [pars] at *
  repeat' first
    | ((with_reducible refine wr_isCall ?_); refine wr_ret hb ?_)
    | (with_reducible refine t_seq ?_)
    | (with_reducible refine t_skip ?_)
    | (with_reducible refine t_ret ?_)
    | (with_reducible refine t_end ?_)
    | (with_reducible refine t_cond ?_)
    | (with_reducible refine t_region ?_)
    | (with_reducible refine wr_done ?_)
    | ((with_reducible refine t_isDraw ?_); refine t_draw rfl (by kernel_rfl) ?_)
    | (with_reducible refine WD.done _ ?_)
    | (with_reducible refine wdp_done ?_)
    | (with_reducible refine tr_some ?_)
    | ((fail_if_success with_reducible refine t_bl ?_); (with_reducible refine t_block ?_))
    | (with_reducible refine t_inBlock ?_)
    | ((with_reducible refine t_isExit ?_); refine t_exit rfl ?_)
    | simp only [decide_eq_true_eq, decide_eq_false_iff_not, Bool.not_eq_true', Bool.not_eq_false'] at *
    | simp (disch := omega) only [go_sem, Nat.reduceLT, Nat.reduceEqDiff, Nat.reduceAdd, Nat.reduceLeDiff, Nat.reduceMul, Int.reduceLT, Int.reduceLE, Int.reduceAdd, Int.reduceSub, Int.reduceNeg, Int.reduceToNat, Int.reduceBEq, Int.reduceEq, reduceCtorEq, List.take_succ_cons, List.take_zero, List.take_nil, List.drop_succ_cons, List.drop_nil, List.cons_append, List.nil_append, List.set_cons_zero, List.set_cons_succ, ↓reduceIte, *]
    | (with_reducible refine tb_true ?_)
    | (with_reducible refine tb_false ?_)
    | (with_reducible refine tb_split (fun _ => ?_) (fun _ => ?_))
    | (with_reducible refine wg_f (fun _ => ?_) (fun _ => ?_))
    | (with_reducible refine wg_t (fun _ => ?_) (fun _ => ?_))
    | (with_reducible refine wd_f (fun _ => ?_) (fun _ => ?_))
    | (with_reducible refine wd_t (fun _ => ?_) (fun _ => ?_))
  · rename_i q
    exact ⟨by rw [if_pos (by omega)], rfl⟩
  · rename_i q
    rw [if_neg (by omega)]
    refine t_while (I := fun (i : Nat) t h => a ≤ i ∧ i ≤ s.length ∧ runE' letterB s i = runE' letterB s a ∧ h = ⟨upd c id (pars s a o), m⟩ ∧ get t 0 = .ptr id 0 0 ∧ get t 3 = .i .i64 i) (m := fun i => s.length - i) (J := fun t h => h = ⟨upd c id (pars s a o), m⟩ ∧ get t 0 = .ptr id 0 0 ∧ get t 3 = .i .i64 (runE' letterB s a)) a ⟨by omega, by omega, rfl, rfl, by simp [get], by simp [get]⟩ ?_ ?_
    · rintro i t h ⟨hi, hi2, hk, rfl, h0, h3⟩ hrec hex
      simp only [pars] at *
      repeat' first
        | refine hex _ _ ?_
        | (with_reducible refine t_seq ?_)
        | (with_reducible refine t_skip ?_)
        | (with_reducible refine t_ret ?_)
        | (with_reducible refine t_end ?_)
        | (with_reducible refine t_cond ?_)
        | (with_reducible refine t_region ?_)
        | (with_reducible refine wr_done ?_)
        | ((with_reducible refine t_isDraw ?_); refine t_draw rfl (by kernel_rfl) ?_)
        | (with_reducible refine WD.done _ ?_)
        | (with_reducible refine wdp_done ?_)
        | (with_reducible refine tr_some ?_)
        | ((fail_if_success with_reducible refine t_bl ?_); (with_reducible refine t_block ?_))
        | (with_reducible refine t_inBlock ?_)
        | ((with_reducible refine t_isExit ?_); refine t_exit rfl ?_)
        | simp only [decide_eq_true_eq, decide_eq_false_iff_not, Bool.not_eq_true', Bool.not_eq_false'] at *
        | simp (disch := omega) only [go_sem, Nat.reduceLT, Nat.reduceEqDiff, Nat.reduceAdd, Nat.reduceLeDiff, Nat.reduceMul, Int.reduceLT, Int.reduceLE, Int.reduceAdd, Int.reduceSub, Int.reduceNeg, Int.reduceToNat, Int.reduceBEq, Int.reduceEq, reduceCtorEq, List.take_succ_cons, List.take_zero, List.take_nil, List.drop_succ_cons, List.drop_nil, List.cons_append, List.nil_append, List.set_cons_zero, List.set_cons_succ, ↓reduceIte, *]
        | (with_reducible refine tb_true ?_)
        | (with_reducible refine tb_false ?_)
        | (with_reducible refine tb_split (fun _ => ?_) (fun _ => ?_))
        | (with_reducible refine wg_f (fun _ => ?_) (fun _ => ?_))
        | (with_reducible refine wg_t (fun _ => ?_) (fun _ => ?_))
        | (with_reducible refine wd_f (fun _ => ?_) (fun _ => ?_))
        | (with_reducible refine wd_t (fun _ => ?_) (fun _ => ?_))
      · rename_i q1 q2
        exact hrec (i + 1) _ _ ⟨by omega, by omega, (run_step (by omega) q2).trans hk, rfl, by simp [get, h0], by simp [get]⟩ (by omega)
      · rename_i q1 q2
        exact ⟨by simp, by simp [get, h0], by simp [get, h3]; rw [← hk, run_stop (fun _ => q2)]⟩
      · rename_i q1
        exact ⟨by simp, by simp [get, h0], by simp [get, h3]; rw [← hk, run_stop (fun h => absurd h (by omega))]⟩
    · rintro t h ⟨rfl, h0, h3⟩
      simp only [pars] at *
      have g1 : a ≤ runE' letterB s a := run_ge
      have g2 := run_le (p := letterB) ha
      repeat' first
        | (with_reducible refine t_seq ?_)
        | (with_reducible refine t_skip ?_)
        | (with_reducible refine t_ret ?_)
        | (with_reducible refine t_end ?_)
        | (with_reducible refine t_cond ?_)
        | (with_reducible refine t_region ?_)
        | (with_reducible refine wr_done ?_)
        | ((with_reducible refine t_isDraw ?_); refine t_draw rfl (by kernel_rfl) ?_)
        | (with_reducible refine WD.done _ ?_)
        | (with_reducible refine wdp_done ?_)
        | (with_reducible refine tr_some ?_)
        | ((fail_if_success with_reducible refine t_bl ?_); (with_reducible refine t_block ?_))
        | (with_reducible refine t_inBlock ?_)
        | ((with_reducible refine t_isExit ?_); refine t_exit rfl ?_)
        | simp only [decide_eq_true_eq, decide_eq_false_iff_not, Bool.not_eq_true', Bool.not_eq_false'] at *
        | simp (disch := omega) only [go_sem, Nat.reduceLT, Nat.reduceEqDiff, Nat.reduceAdd, Nat.reduceLeDiff, Nat.reduceMul, Int.reduceLT, Int.reduceLE, Int.reduceAdd, Int.reduceSub, Int.reduceNeg, Int.reduceToNat, Int.reduceBEq, Int.reduceEq, reduceCtorEq, List.take_succ_cons, List.take_zero, List.take_nil, List.drop_succ_cons, List.drop_nil, List.cons_append, List.nil_append, List.set_cons_zero, List.set_cons_succ, ↓reduceIte, *]
        | (with_reducible refine tb_true ?_)
        | (with_reducible refine tb_false ?_)
        | (with_reducible refine tb_split (fun _ => ?_) (fun _ => ?_))
        | (with_reducible refine wg_f (fun _ => ?_) (fun _ => ?_))
        | (with_reducible refine wg_t (fun _ => ?_) (fun _ => ?_))
        | (with_reducible refine wd_f (fun _ => ?_) (fun _ => ?_))
        | (with_reducible refine wd_t (fun _ => ?_) (fun _ => ?_))
      · rename_i q
        refine t_while (I := fun (i : Nat) t h => a ≤ i ∧ i ≤ s.length ∧ runE' digitB s i = runE' digitB s a ∧ h = ⟨upd c id (pars s a o), m⟩ ∧ get t 0 = .ptr id 0 0 ∧ get t 3 = .i .i64 i) (m := fun i => s.length - i) (J := fun t h => h = ⟨upd c id (pars s a o), m⟩ ∧ get t 0 = .ptr id 0 0 ∧ get t 3 = .i .i64 (runE' digitB s a)) a ⟨by omega, by omega, rfl, rfl, by simp [get, h0], by simp [get, h3, q]⟩ ?_ ?_
        · rintro i t h ⟨hi, hi2, hk, rfl, h0, h3⟩ hrec hex
          simp only [pars] at *
          repeat' first
            | refine hex _ _ ?_
            | (with_reducible refine t_seq ?_)
            | (with_reducible refine t_skip ?_)
            | (with_reducible refine t_ret ?_)
            | (with_reducible refine t_end ?_)
            | (with_reducible refine t_cond ?_)
            | (with_reducible refine t_region ?_)
            | (with_reducible refine wr_done ?_)
            | ((with_reducible refine t_isDraw ?_); refine t_draw rfl (by kernel_rfl) ?_)
            | (with_reducible refine WD.done _ ?_)
            | (with_reducible refine wdp_done ?_)
            | (with_reducible refine tr_some ?_)
            | ((fail_if_success with_reducible refine t_bl ?_); (with_reducible refine t_block ?_))
            | (with_reducible refine t_inBlock ?_)
            | ((with_reducible refine t_isExit ?_); refine t_exit rfl ?_)
            | simp only [decide_eq_true_eq, decide_eq_false_iff_not, Bool.not_eq_true', Bool.not_eq_false'] at *
            | simp (disch := omega) only [go_sem, Nat.reduceLT, Nat.reduceEqDiff, Nat.reduceAdd, Nat.reduceLeDiff, Nat.reduceMul, Int.reduceLT, Int.reduceLE, Int.reduceAdd, Int.reduceSub, Int.reduceNeg, Int.reduceToNat, Int.reduceBEq, Int.reduceEq, reduceCtorEq, List.take_succ_cons, List.take_zero, List.take_nil, List.drop_succ_cons, List.drop_nil, List.cons_append, List.nil_append, List.set_cons_zero, List.set_cons_succ, ↓reduceIte, *]
            | (with_reducible refine tb_true ?_)
            | (with_reducible refine tb_false ?_)
            | (with_reducible refine tb_split (fun _ => ?_) (fun _ => ?_))
            | (with_reducible refine wg_f (fun _ => ?_) (fun _ => ?_))
            | (with_reducible refine wg_t (fun _ => ?_) (fun _ => ?_))
            | (with_reducible refine wd_f (fun _ => ?_) (fun _ => ?_))
            | (with_reducible refine wd_t (fun _ => ?_) (fun _ => ?_))
          · rename_i q1 q2
            exact hrec (i + 1) _ _ ⟨by omega, by omega, (run_step (by omega) q2).trans hk, rfl, by simp [get, h0], by simp [get]⟩ (by omega)
          · rename_i q1 q2
            exact ⟨by simp, by simp [get, h0], by simp [get, h3]; rw [← hk, run_stop (fun _ => q2)]⟩
          · rename_i q1
            exact ⟨by simp, by simp [get, h0], by simp [get, h3]; rw [← hk, run_stop (fun h => absurd h (by omega))]⟩
        · rintro t h ⟨rfl, h0, h3⟩
          simp only [pars] at *
          have g1 : a ≤ runE' digitB s a := run_ge
          have g2 := run_le (p := digitB) ha
          repeat' first
            | (with_reducible refine t_seq ?_)
            | (with_reducible refine t_skip ?_)
            | (with_reducible refine t_ret ?_)
            | (with_reducible refine t_end ?_)
            | (with_reducible refine t_cond ?_)
            | (with_reducible refine t_region ?_)
            | (with_reducible refine wr_done ?_)
            | ((with_reducible refine t_isDraw ?_); refine t_draw rfl (by kernel_rfl) ?_)
            | (with_reducible refine WD.done _ ?_)
            | (with_reducible refine wdp_done ?_)
            | (with_reducible refine tr_some ?_)
            | ((fail_if_success with_reducible refine t_bl ?_); (with_reducible refine t_block ?_))
            | (with_reducible refine t_inBlock ?_)
            | ((with_reducible refine t_isExit ?_); refine t_exit rfl ?_)
            | simp only [decide_eq_true_eq, decide_eq_false_iff_not, Bool.not_eq_true', Bool.not_eq_false'] at *
            | simp (disch := omega) only [go_sem, Nat.reduceLT, Nat.reduceEqDiff, Nat.reduceAdd, Nat.reduceLeDiff, Nat.reduceMul, Int.reduceLT, Int.reduceLE, Int.reduceAdd, Int.reduceSub, Int.reduceNeg, Int.reduceToNat, Int.reduceBEq, Int.reduceEq, reduceCtorEq, List.take_succ_cons, List.take_zero, List.take_nil, List.drop_succ_cons, List.drop_nil, List.cons_append, List.nil_append, List.set_cons_zero, List.set_cons_succ, ↓reduceIte, *]
            | (with_reducible refine tb_true ?_)
            | (with_reducible refine tb_false ?_)
            | (with_reducible refine tb_split (fun _ => ?_) (fun _ => ?_))
            | (with_reducible refine wg_f (fun _ => ?_) (fun _ => ?_))
            | (with_reducible refine wg_t (fun _ => ?_) (fun _ => ?_))
            | (with_reducible refine wd_f (fun _ => ?_) (fun _ => ?_))
            | (with_reducible refine wd_t (fun _ => ?_) (fun _ => ?_))
          · rename_i q1
            exact ⟨by rw [wordE, if_pos (by omega), if_pos (by omega)]; congr 2, rfl⟩
          · rename_i q1
            exact ⟨by rw [wordE, if_pos (by omega), if_neg (by omega)], rfl⟩
      · rename_i q
        exact ⟨by rw [wordE, if_neg (by omega)], rfl⟩
end Go.Proofs.YtkokongbnemkhaaGreatDoorA
