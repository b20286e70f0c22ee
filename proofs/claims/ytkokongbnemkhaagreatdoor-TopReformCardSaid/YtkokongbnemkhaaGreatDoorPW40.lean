/- TopReform as a contract. -/
import Derived.Test.YtkokongbnemkhaaGreatDoorPW33
import Derived.Test.YtkokongbnemkhaaGreatDoorPW15t
import Derived.Test.YtkokongbnemkhaaGreatDoorND
set_option linter.unusedVariables false
set_option linter.unusedSimpArgs false
namespace Go.Proofs.YtkokongbnemkhaaGreatDoorA
open Go Go.RowKit Go.Proofs.YtkokongbnemkhaaGreatDoorFx Go.Proofs
variable {m : Int}
set_option maxRecDepth 100000 in
theorem indexP {L : List Int} {v : Int} {z : Nat} (hz : z < L.length) (hv : L[z] = v) (hb : ∀ j (h : j < z), L[j] ≠ v) (hl : L.length ≤ 1000000) : MeetsP Tryz.prog (glT m) 54 [.isl true 1 (intR L), .i .i64 v] (.i .i64 z) := by
  have hdr : (intR L).length = L.length := intR_len _
  have hget : ∀ i (h : i < L.length), (intR L)[i]? = some [.i .i64 L[i]] := fun i h => by simp [intR, h]
  generalize intR L = DR at *
  refine meetsP (E := (EW m)) 19 [.tmp 4] (ew m) Tryz.func54 rfl (by decide) rfl rfl (by simp) ?_
  repeat' first
    | (with_reducible refine t_seq ?_)
    | (with_reducible refine t_skip ?_)
    | (with_reducible refine t_ret ?_)
    | (with_reducible refine t_end ?_)
    | (with_reducible refine t_cond ?_)
    | (with_reducible refine t_region ?_)
    | (with_reducible refine wr_done ?_)
    | ((with_reducible refine t_isDraw ?_); refine t_draw rfl (by kernel_rfl) ?_)
    | (with_reducible refine WD.done _ ?_)
    | (with_reducible refine wdp_done ?_)
    | (with_reducible refine tr_some ?_)
    | ((fail_if_success with_reducible refine t_bl ?_); (with_reducible refine t_block ?_))
    | (with_reducible refine t_inBlock ?_)
    | ((with_reducible refine t_isExit ?_); refine t_exit rfl ?_)
    | simp only [decide_eq_true_eq, decide_eq_false_iff_not, Bool.not_eq_true', Bool.not_eq_false'] at *
    | simp (disch := omega) only [go_sem, Nat.reduceLT, Nat.reduceEqDiff, Nat.reduceAdd, Nat.reduceLeDiff, Nat.reduceMul, Int.reduceLT, Int.reduceLE, Int.reduceAdd, Int.reduceSub, Int.reduceNeg, Int.reduceToNat, Int.reduceBEq, Int.reduceEq, reduceCtorEq, List.take_succ_cons, List.take_zero, List.take_nil, List.drop_succ_cons, List.drop_nil, List.cons_append, List.nil_append, List.set_cons_zero, List.set_cons_succ, ↓reduceIte, *]
    | (with_reducible refine tb_true ?_)
    | (with_reducible refine tb_false ?_)
    | (with_reducible refine tb_split (fun _ => ?_) (fun _ => ?_))
    | (with_reducible refine wg_f (fun _ => ?_) (fun _ => ?_))
    | (with_reducible refine wg_t (fun _ => ?_) (fun _ => ?_))
    | (with_reducible refine wd_f (fun _ => ?_) (fun _ => ?_))
    | (with_reducible refine wd_t (fun _ => ?_) (fun _ => ?_))
  refine t_while (I := fun (i : Nat) t h => i ≤ z ∧ get t 0 = .isl true 1 DR ∧ get t 1 = .i .i64 v ∧ get t 7 = .i .i64 L.length ∧ get t 8 = .i .i64 i) (m := fun i => z - i)
    (J := fun t h => False) 0 ⟨by omega, by simp [get], by simp [get], by simp [get, hdr], by simp [get]⟩ ?_ ?_
  · rintro i t h ⟨hi, g0, g1, g7, g8⟩ hrec hex
    obtain ⟨hc, n⟩ := h
    have hg := hget i (by omega)
    by_cases he : i = z
    · subst he
      rw [hv] at hg
      clear hget
      repeat' first
        | (with_reducible refine t_seq ?_)
        | (with_reducible refine t_skip ?_)
        | (with_reducible refine t_ret ?_)
        | (with_reducible refine t_end ?_)
        | (with_reducible refine t_cond ?_)
        | (with_reducible refine t_region ?_)
        | (with_reducible refine wr_done ?_)
        | ((with_reducible refine t_isDraw ?_); refine t_draw rfl (by kernel_rfl) ?_)
        | (with_reducible refine WD.done _ ?_)
        | (with_reducible refine wdp_done ?_)
        | (with_reducible refine tr_some ?_)
        | ((fail_if_success with_reducible refine t_bl ?_); (with_reducible refine t_block ?_))
        | (with_reducible refine t_inBlock ?_)
        | ((with_reducible refine t_isExit ?_); refine t_exit rfl ?_)
        | simp only [decide_eq_true_eq, decide_eq_false_iff_not, Bool.not_eq_true', Bool.not_eq_false'] at *
        | simp (disch := omega) only [go_sem, Nat.reduceLT, Nat.reduceEqDiff, Nat.reduceAdd, Nat.reduceLeDiff, Nat.reduceMul, Int.reduceLT, Int.reduceLE, Int.reduceAdd, Int.reduceSub, Int.reduceNeg, Int.reduceToNat, Int.reduceBEq, Int.reduceEq, reduceCtorEq, List.take_succ_cons, List.take_zero, List.take_nil, List.drop_succ_cons, List.drop_nil, List.cons_append, List.nil_append, List.set_cons_zero, List.set_cons_succ, ↓reduceIte, *]
        | (with_reducible refine tb_true ?_)
        | (with_reducible refine tb_false ?_)
        | (with_reducible refine tb_split (fun _ => ?_) (fun _ => ?_))
        | (with_reducible refine wg_f (fun _ => ?_) (fun _ => ?_))
        | (with_reducible refine wg_t (fun _ => ?_) (fun _ => ?_))
        | (with_reducible refine wd_f (fun _ => ?_) (fun _ => ?_))
        | (with_reducible refine wd_t (fun _ => ?_) (fun _ => ?_))
      all_goals first | (exfalso; omega) | exact ⟨rfl, rfl⟩
    · have hne := hb i (by omega)
      generalize L[i] = x at *
      have hne' : ¬ v = x := fun q => hne q.symm
      clear hget
      repeat' first
        | (with_reducible refine t_seq ?_)
        | (with_reducible refine t_skip ?_)
        | (with_reducible refine t_ret ?_)
        | (with_reducible refine t_end ?_)
        | (with_reducible refine t_cond ?_)
        | (with_reducible refine t_region ?_)
        | (with_reducible refine wr_done ?_)
        | ((with_reducible refine t_isDraw ?_); refine t_draw rfl (by kernel_rfl) ?_)
        | (with_reducible refine WD.done _ ?_)
        | (with_reducible refine wdp_done ?_)
        | (with_reducible refine tr_some ?_)
        | ((fail_if_success with_reducible refine t_bl ?_); (with_reducible refine t_block ?_))
        | (with_reducible refine t_inBlock ?_)
        | ((with_reducible refine t_isExit ?_); refine t_exit rfl ?_)
        | simp only [decide_eq_true_eq, decide_eq_false_iff_not, Bool.not_eq_true', Bool.not_eq_false'] at *
        | simp (disch := omega) only [go_sem, Nat.reduceLT, Nat.reduceEqDiff, Nat.reduceAdd, Nat.reduceLeDiff, Nat.reduceMul, Int.reduceLT, Int.reduceLE, Int.reduceAdd, Int.reduceSub, Int.reduceNeg, Int.reduceToNat, Int.reduceBEq, Int.reduceEq, reduceCtorEq, List.take_succ_cons, List.take_zero, List.take_nil, List.drop_succ_cons, List.drop_nil, List.cons_append, List.nil_append, List.set_cons_zero, List.set_cons_succ, ↓reduceIte, *]
        | (with_reducible refine tb_true ?_)
        | (with_reducible refine tb_false ?_)
        | (with_reducible refine tb_split (fun _ => ?_) (fun _ => ?_))
        | (with_reducible refine wg_f (fun _ => ?_) (fun _ => ?_))
        | (with_reducible refine wg_t (fun _ => ?_) (fun _ => ?_))
        | (with_reducible refine wd_f (fun _ => ?_) (fun _ => ?_))
        | (with_reducible refine wd_t (fun _ => ?_) (fun _ => ?_))
      all_goals first | (exfalso; omega) | skip
      all_goals exact hrec (i + 1) _ _ ⟨by omega, by simp [get, g0], by simp [get, g1], by simp [get, g7], by simp [get]⟩ (by omega)
  · rintro t h hF
    exact hF.elim
theorem containsP {L : List Int} {v : Int} {z : Nat} (hz : z < L.length) (hv : L[z] = v) (hb : ∀ j (h : j < z), L[j] ≠ v) (hl : L.length ≤ 1000000) : MeetsP Tryz.prog (glT m) 29 [.isl true 1 (intR L), .i .i64 v] (.b true) := by
  have h := indexP (m := m) hz hv hb hl
  refine meetsP (E := (EW m)) 9 [.tmp 4] (ew m) Tryz.func29 rfl (by decide) rfl rfl (by simp) ?_
  repeat' first
    | ((with_reducible refine wr_isCall ?_); refine wr_P h rfl ?_)
    | (with_reducible refine t_seq ?_)
    | (with_reducible refine t_skip ?_)
    | (with_reducible refine t_ret ?_)
    | (with_reducible refine t_end ?_)
    | (with_reducible refine t_cond ?_)
    | (with_reducible refine t_region ?_)
    | (with_reducible refine wr_done ?_)
    | ((with_reducible refine t_isDraw ?_); refine t_draw rfl (by kernel_rfl) ?_)
    | (with_reducible refine WD.done _ ?_)
    | (with_reducible refine wdp_done ?_)
    | (with_reducible refine tr_some ?_)
    | ((fail_if_success with_reducible refine t_bl ?_); (with_reducible refine t_block ?_))
    | (with_reducible refine t_inBlock ?_)
    | ((with_reducible refine t_isExit ?_); refine t_exit rfl ?_)
    | simp only [decide_eq_true_eq, decide_eq_false_iff_not, Bool.not_eq_true', Bool.not_eq_false'] at *
    | simp (disch := omega) only [go_sem, Nat.reduceLT, Nat.reduceEqDiff, Nat.reduceAdd, Nat.reduceLeDiff, Nat.reduceMul, Int.reduceLT, Int.reduceLE, Int.reduceAdd, Int.reduceSub, Int.reduceNeg, Int.reduceToNat, Int.reduceBEq, Int.reduceEq, reduceCtorEq, List.take_succ_cons, List.take_zero, List.take_nil, List.drop_succ_cons, List.drop_nil, List.cons_append, List.nil_append, List.set_cons_zero, List.set_cons_succ, ↓reduceIte, *]
    | (with_reducible refine tb_true ?_)
    | (with_reducible refine tb_false ?_)
    | (with_reducible refine tb_split (fun _ => ?_) (fun _ => ?_))
    | (with_reducible refine wg_f (fun _ => ?_) (fun _ => ?_))
    | (with_reducible refine wg_t (fun _ => ?_) (fun _ => ?_))
    | (with_reducible refine wd_f (fun _ => ?_) (fun _ => ?_))
    | (with_reducible refine wd_t (fun _ => ?_) (fun _ => ?_))
  all_goals first | (exfalso; omega) | exact ⟨rfl, rfl⟩ | skip
  all_goals (rw [show decide ((0 : Int) ≤ z) = true from decide_eq_true (by omega)]; exact ⟨rfl, rfl⟩)
set_option maxRecDepth 100000 in
/-- The part of a day. -/
theorem topPartP {r : Ref} (hr : r.Ok) {x : Int} {k : Nat} (hin : r.In x k) : MeetsP Tryz.prog (glT m) 30 [.i .i64 x, .ip [.s r.nm, .isl false 2 r.rows] 0] (.i .i64 k) := by
  have hrow := fun i h => Ref.row (r := r) (i := i) h
  have hlen := r.rows_len
  have hl2 := hr.l2
  have hklt := hin.lt
  have hnx := hin.nx
  have hle : ∀ j, j < k → r.f (j + 1) ≤ x := fun j hj => by
    rcases Nat.lt_or_ge (j + 1) k with q | q
    · have := hr.mono q hin.lt; have := hin.le; omega
    · have : j + 1 = k := by omega
      rw [this]; exact hin.le
  generalize r.rows = R at *
  refine meetsP (E := (EW m)) 25 [.tmp 3] (ew m) Tryz.func30 rfl (by decide) rfl rfl (by simp) ?_
  repeat' first
    | (with_reducible refine t_seq ?_)
    | (with_reducible refine t_skip ?_)
    | (with_reducible refine t_ret ?_)
    | (with_reducible refine t_end ?_)
    | (with_reducible refine t_cond ?_)
    | (with_reducible refine t_region ?_)
    | (with_reducible refine wr_done ?_)
    | ((with_reducible refine t_isDraw ?_); refine t_draw rfl (by kernel_rfl) ?_)
    | (with_reducible refine WD.done _ ?_)
    | (with_reducible refine wdp_done ?_)
    | (with_reducible refine tr_some ?_)
    | ((fail_if_success with_reducible refine t_bl ?_); (with_reducible refine t_block ?_))
    | (with_reducible refine t_inBlock ?_)
    | ((with_reducible refine t_isExit ?_); refine t_exit rfl ?_)
    | simp only [decide_eq_true_eq, decide_eq_false_iff_not, Bool.not_eq_true', Bool.not_eq_false'] at *
    | simp (disch := omega) only [go_sem, Nat.reduceLT, Nat.reduceEqDiff, Nat.reduceAdd, Nat.reduceLeDiff, Nat.reduceMul, Int.reduceLT, Int.reduceLE, Int.reduceAdd, Int.reduceSub, Int.reduceNeg, Int.reduceToNat, Int.reduceBEq, Int.reduceEq, reduceCtorEq, List.take_succ_cons, List.take_zero, List.take_nil, List.drop_succ_cons, List.drop_nil, List.cons_append, List.nil_append, List.set_cons_zero, List.set_cons_succ, ↓reduceIte, *]
    | (with_reducible refine tb_true ?_)
    | (with_reducible refine tb_false ?_)
    | (with_reducible refine tb_split (fun _ => ?_) (fun _ => ?_))
    | (with_reducible refine wg_f (fun _ => ?_) (fun _ => ?_))
    | (with_reducible refine wg_t (fun _ => ?_) (fun _ => ?_))
    | (with_reducible refine wd_f (fun _ => ?_) (fun _ => ?_))
    | (with_reducible refine wd_t (fun _ => ?_) (fun _ => ?_))
  refine t_while (I := fun (j : Nat) t h => j ≤ k ∧ get t 0 = .i .i64 x ∧ get t 1 = .ip [.s r.nm, .isl false 2 R] 0 ∧ get t 4 = .i .i64 j) (m := fun j => k - j)
    (J := fun t h => get t 4 = .i .i64 k) 0 ⟨by omega, by simp [get], by simp [get], by simp [get]⟩ ?_ ?_
  · rintro j t h ⟨hj, g0, g1, g4⟩ hrec hex
    obtain ⟨hc, n⟩ := h
    by_cases hjk : j < k
    · have hrw := hrow (j + 1) (by omega)
      have hq := hle j hjk
      have e1 : ((j : Int) + 1).toNat = j + 1 := by omega
      have e2 : (j : Int) + 1 < r.ps.length := by omega
      clear hrow hnx
      repeat' first
        | (with_reducible refine t_seq ?_)
        | (with_reducible refine t_skip ?_)
        | (with_reducible refine t_ret ?_)
        | (with_reducible refine t_end ?_)
        | (with_reducible refine t_cond ?_)
        | (with_reducible refine t_region ?_)
        | (with_reducible refine wr_done ?_)
        | ((with_reducible refine t_isDraw ?_); refine t_draw rfl (by kernel_rfl) ?_)
        | (with_reducible refine WD.done _ ?_)
        | (with_reducible refine wdp_done ?_)
        | (with_reducible refine tr_some ?_)
        | ((fail_if_success with_reducible refine t_bl ?_); (with_reducible refine t_block ?_))
        | (with_reducible refine t_inBlock ?_)
        | ((with_reducible refine t_isExit ?_); refine t_exit rfl ?_)
        | simp only [decide_eq_true_eq, decide_eq_false_iff_not, Bool.not_eq_true', Bool.not_eq_false'] at *
        | simp (disch := omega) only [go_sem, Nat.reduceLT, Nat.reduceEqDiff, Nat.reduceAdd, Nat.reduceLeDiff, Nat.reduceMul, Int.reduceLT, Int.reduceLE, Int.reduceAdd, Int.reduceSub, Int.reduceNeg, Int.reduceToNat, Int.reduceBEq, Int.reduceEq, reduceCtorEq, List.take_succ_cons, List.take_zero, List.take_nil, List.drop_succ_cons, List.drop_nil, List.cons_append, List.nil_append, List.set_cons_zero, List.set_cons_succ, ↓reduceIte, *]
        | (with_reducible refine tb_true ?_)
        | (with_reducible refine tb_false ?_)
        | (with_reducible refine tb_split (fun _ => ?_) (fun _ => ?_))
        | (with_reducible refine wg_f (fun _ => ?_) (fun _ => ?_))
        | (with_reducible refine wg_t (fun _ => ?_) (fun _ => ?_))
        | (with_reducible refine wd_f (fun _ => ?_) (fun _ => ?_))
        | (with_reducible refine wd_t (fun _ => ?_) (fun _ => ?_))
      all_goals first | (exfalso; omega) | skip
      all_goals exact hrec (j + 1) _ _ ⟨by omega, by simp [get, g0], by simp [get, g1], by simp [get]⟩ (by omega)
    · have hjk' : j = k := by omega
      subst hjk'
      by_cases hN : j + 1 < r.ps.length
      · have hrw := hrow (j + 1) hN
        have hq := hnx hN
        have e1 : ((j : Int) + 1).toNat = j + 1 := by omega
        have e2 : (j : Int) + 1 < r.ps.length := by omega
        clear hrow hnx
        repeat' first
          | refine hex _ _ ?_
          | (with_reducible refine t_seq ?_)
          | (with_reducible refine t_skip ?_)
          | (with_reducible refine t_ret ?_)
          | (with_reducible refine t_end ?_)
          | (with_reducible refine t_cond ?_)
          | (with_reducible refine t_region ?_)
          | (with_reducible refine wr_done ?_)
          | ((with_reducible refine t_isDraw ?_); refine t_draw rfl (by kernel_rfl) ?_)
          | (with_reducible refine WD.done _ ?_)
          | (with_reducible refine wdp_done ?_)
          | (with_reducible refine tr_some ?_)
          | ((fail_if_success with_reducible refine t_bl ?_); (with_reducible refine t_block ?_))
          | (with_reducible refine t_inBlock ?_)
          | ((with_reducible refine t_isExit ?_); refine t_exit rfl ?_)
          | simp only [decide_eq_true_eq, decide_eq_false_iff_not, Bool.not_eq_true', Bool.not_eq_false'] at *
          | simp (disch := omega) only [go_sem, Nat.reduceLT, Nat.reduceEqDiff, Nat.reduceAdd, Nat.reduceLeDiff, Nat.reduceMul, Int.reduceLT, Int.reduceLE, Int.reduceAdd, Int.reduceSub, Int.reduceNeg, Int.reduceToNat, Int.reduceBEq, Int.reduceEq, reduceCtorEq, List.take_succ_cons, List.take_zero, List.take_nil, List.drop_succ_cons, List.drop_nil, List.cons_append, List.nil_append, List.set_cons_zero, List.set_cons_succ, ↓reduceIte, *]
          | (with_reducible refine tb_true ?_)
          | (with_reducible refine tb_false ?_)
          | (with_reducible refine tb_split (fun _ => ?_) (fun _ => ?_))
          | (with_reducible refine wg_f (fun _ => ?_) (fun _ => ?_))
          | (with_reducible refine wg_t (fun _ => ?_) (fun _ => ?_))
          | (with_reducible refine wd_f (fun _ => ?_) (fun _ => ?_))
          | (with_reducible refine wd_t (fun _ => ?_) (fun _ => ?_))
        all_goals first | (exfalso; omega) | simp [get, g0, g1, g4] | exact ⟨rfl, rfl⟩
      · have e2 : ¬ (j : Int) + 1 < r.ps.length := by omega
        clear hrow hnx
        repeat' first
          | refine hex _ _ ?_
          | (with_reducible refine t_seq ?_)
          | (with_reducible refine t_skip ?_)
          | (with_reducible refine t_ret ?_)
          | (with_reducible refine t_end ?_)
          | (with_reducible refine t_cond ?_)
          | (with_reducible refine t_region ?_)
          | (with_reducible refine wr_done ?_)
          | ((with_reducible refine t_isDraw ?_); refine t_draw rfl (by kernel_rfl) ?_)
          | (with_reducible refine WD.done _ ?_)
          | (with_reducible refine wdp_done ?_)
          | (with_reducible refine tr_some ?_)
          | ((fail_if_success with_reducible refine t_bl ?_); (with_reducible refine t_block ?_))
          | (with_reducible refine t_inBlock ?_)
          | ((with_reducible refine t_isExit ?_); refine t_exit rfl ?_)
          | simp only [decide_eq_true_eq, decide_eq_false_iff_not, Bool.not_eq_true', Bool.not_eq_false'] at *
          | simp (disch := omega) only [go_sem, Nat.reduceLT, Nat.reduceEqDiff, Nat.reduceAdd, Nat.reduceLeDiff, Nat.reduceMul, Int.reduceLT, Int.reduceLE, Int.reduceAdd, Int.reduceSub, Int.reduceNeg, Int.reduceToNat, Int.reduceBEq, Int.reduceEq, reduceCtorEq, List.take_succ_cons, List.take_zero, List.take_nil, List.drop_succ_cons, List.drop_nil, List.cons_append, List.nil_append, List.set_cons_zero, List.set_cons_succ, ↓reduceIte, *]
          | (with_reducible refine tb_true ?_)
          | (with_reducible refine tb_false ?_)
          | (with_reducible refine tb_split (fun _ => ?_) (fun _ => ?_))
          | (with_reducible refine wg_f (fun _ => ?_) (fun _ => ?_))
          | (with_reducible refine wg_t (fun _ => ?_) (fun _ => ?_))
          | (with_reducible refine wd_f (fun _ => ?_) (fun _ => ?_))
          | (with_reducible refine wd_t (fun _ => ?_) (fun _ => ?_))
        all_goals first | (exfalso; omega) | simp [get, g0, g1, g4] | exact ⟨rfl, rfl⟩
  · rintro t h g4
    obtain ⟨hc, n⟩ := h
    repeat' first
      | (with_reducible refine t_seq ?_)
      | (with_reducible refine t_skip ?_)
      | (with_reducible refine t_ret ?_)
      | (with_reducible refine t_end ?_)
      | (with_reducible refine t_cond ?_)
      | (with_reducible refine t_region ?_)
      | (with_reducible refine wr_done ?_)
      | ((with_reducible refine t_isDraw ?_); refine t_draw rfl (by kernel_rfl) ?_)
      | (with_reducible refine WD.done _ ?_)
      | (with_reducible refine wdp_done ?_)
      | (with_reducible refine tr_some ?_)
      | ((fail_if_success with_reducible refine t_bl ?_); (with_reducible refine t_block ?_))
      | (with_reducible refine t_inBlock ?_)
      | ((with_reducible refine t_isExit ?_); refine t_exit rfl ?_)
      | simp only [decide_eq_true_eq, decide_eq_false_iff_not, Bool.not_eq_true', Bool.not_eq_false'] at *
      | simp (disch := omega) only [go_sem, Nat.reduceLT, Nat.reduceEqDiff, Nat.reduceAdd, Nat.reduceLeDiff, Nat.reduceMul, Int.reduceLT, Int.reduceLE, Int.reduceAdd, Int.reduceSub, Int.reduceNeg, Int.reduceToNat, Int.reduceBEq, Int.reduceEq, reduceCtorEq, List.take_succ_cons, List.take_zero, List.take_nil, List.drop_succ_cons, List.drop_nil, List.cons_append, List.nil_append, List.set_cons_zero, List.set_cons_succ, ↓reduceIte, *]
      | (with_reducible refine tb_true ?_)
      | (with_reducible refine tb_false ?_)
      | (with_reducible refine tb_split (fun _ => ?_) (fun _ => ?_))
      | (with_reducible refine wg_f (fun _ => ?_) (fun _ => ?_))
      | (with_reducible refine wg_t (fun _ => ?_) (fun _ => ?_))
      | (with_reducible refine wd_f (fun _ => ?_) (fun _ => ?_))
      | (with_reducible refine wd_t (fun _ => ?_) (fun _ => ?_))
    exact ⟨rfl, rfl⟩
end Go.Proofs.YtkokongbnemkhaaGreatDoorA
