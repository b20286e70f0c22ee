/- arith.FromDay, arith.ToDay. -/
import Derived.Test.YtkokongbnemkhaaGreatDoorPW8
import Derived.Test.YtkokongbnemkhaaGreatDoorPL1
set_option linter.unusedVariables false
set_option linter.unusedSimpArgs false
namespace Go.Proofs.YtkokongbnemkhaaGreatDoorA
open Go Go.RowKit Go.Proofs.YtkokongbnemkhaaGreatDoorFx Go.Proofs
variable {m : Int}
def dateA (y mo d : Int) : AV := .agg [.i .i64 y, .i .i64 mo, .i .i64 d]
def resD (v : AV) (e : Int) : AV := .tup [v, .i .i64 e]
section
variable {c : Cal} (hc : c.Good m)
include hc
set_option maxRecDepth 100000 in
theorem fromDay_far {day : Int} (h : chkDay day = 3) : MeetsP Tryz.prog (glT m) 27 [c.A, .i .i64 day] (resD (dateA 0 0 0) 3) := by
  have hk := hc.check
  have hd := lineCheck (m := m) day
  rw [h] at hd
  obtain ⟨nm, ep, cy, ms, ls⟩ := c
  simp only [Cal.A, resD, dateA] at *
  refine meetsP (E := (EW m)) 76 [.cell 4 32, .tmp 5] (ew m) Tryz.func27 rfl (by decide) rfl rfl (by simp) ?_
  repeat' first
    | ((with_reducible refine wr_isCall ?_); refine wr_P hk rfl ?_)
    | ((with_reducible refine wr_isCall ?_); refine wr_P hd rfl ?_)
    | (with_reducible refine t_seq ?_)
    | (with_reducible refine t_skip ?_)
    | (with_reducible refine t_ret ?_)
    | (with_reducible refine t_end ?_)
    | (with_reducible refine t_cond ?_)
    | (with_reducible refine t_region ?_)
    | (with_reducible refine wr_done ?_)
    | ((with_reducible refine t_isDraw ?_); refine t_draw rfl (by kernel_rfl) ?_)
    | (with_reducible refine WD.done _ ?_)
    | (with_reducible refine wdp_done ?_)
    | (with_reducible refine tr_some ?_)
    | ((fail_if_success with_reducible refine t_bl ?_); (with_reducible refine t_block ?_))
    | (with_reducible refine t_inBlock ?_)
    | ((with_reducible refine t_isExit ?_); refine t_exit rfl ?_)
    | simp only [decide_eq_true_eq, decide_eq_false_iff_not, Bool.not_eq_true', Bool.not_eq_false'] at *
    | simp (disch := omega) only [go_sem, Nat.reduceLT, Nat.reduceEqDiff, Nat.reduceAdd, Nat.reduceLeDiff, Nat.reduceMul, Int.reduceLT, Int.reduceLE, Int.reduceAdd, Int.reduceSub, Int.reduceNeg, Int.reduceToNat, Int.reduceBEq, Int.reduceEq, reduceCtorEq, List.take_succ_cons, List.take_zero, List.take_nil, List.drop_succ_cons, List.drop_nil, List.cons_append, List.nil_append, List.set_cons_zero, List.set_cons_succ, ↓reduceIte, *]
    | (with_reducible refine tb_true ?_)
    | (with_reducible refine tb_false ?_)
    | (with_reducible refine tb_split (fun _ => ?_) (fun _ => ?_))
    | (with_reducible refine wg_f (fun _ => ?_) (fun _ => ?_))
    | (with_reducible refine wg_t (fun _ => ?_) (fun _ => ?_))
    | (with_reducible refine wd_f (fun _ => ?_) (fun _ => ?_))
    | (with_reducible refine wd_t (fun _ => ?_) (fun _ => ?_))
  all_goals exact ⟨rfl, rfl⟩
set_option maxRecDepth 100000 in
theorem fromDay_out {day : Int} (h : chkDay day = 0) (ho : day < c.first (-10000) ∨ c.first 10001 ≤ day) : MeetsP Tryz.prog (glT m) 27 [c.A, .i .i64 day] (resD (dateA 0 0 0) 3) := by
  have hk := hc.check
  have hd := lineCheck (m := m) day
  rw [h] at hd
  have f1 := firstP (m := m) c hc.toOk (-10000) (by omega) (by omega)
  have f2 := firstP (m := m) c hc.toOk 10001 (by omega) (by omega)
  generalize c.first (-10000) = a at *
  generalize c.first 10001 = b at *
  obtain ⟨nm, ep, cy, ms, ls⟩ := c
  simp only [Cal.A, resD, dateA] at *
  refine meetsP (E := (EW m)) 76 [.cell 4 32, .tmp 5] (ew m) Tryz.func27 rfl (by decide) rfl rfl (by simp) ?_
  repeat' first
    | ((with_reducible refine wr_isCall ?_); refine wr_P hk rfl ?_)
    | ((with_reducible refine wr_isCall ?_); refine wr_P hd rfl ?_)
    | ((with_reducible refine wr_isCall ?_); refine wr_P f1 rfl ?_)
    | ((with_reducible refine wr_isCall ?_); refine wr_P f2 rfl ?_)
    | (with_reducible refine t_seq ?_)
    | (with_reducible refine t_skip ?_)
    | (with_reducible refine t_ret ?_)
    | (with_reducible refine t_end ?_)
    | (with_reducible refine t_cond ?_)
    | (with_reducible refine t_region ?_)
    | (with_reducible refine wr_done ?_)
    | ((with_reducible refine t_isDraw ?_); refine t_draw rfl (by kernel_rfl) ?_)
    | (with_reducible refine WD.done _ ?_)
    | (with_reducible refine wdp_done ?_)
    | (with_reducible refine tr_some ?_)
    | ((fail_if_success with_reducible refine t_bl ?_); (with_reducible refine t_block ?_))
    | (with_reducible refine t_inBlock ?_)
    | ((with_reducible refine t_isExit ?_); refine t_exit rfl ?_)
    | simp only [decide_eq_true_eq, decide_eq_false_iff_not, Bool.not_eq_true', Bool.not_eq_false'] at *
    | simp (disch := omega) only [go_sem, Nat.reduceLT, Nat.reduceEqDiff, Nat.reduceAdd, Nat.reduceLeDiff, Nat.reduceMul, Int.reduceLT, Int.reduceLE, Int.reduceAdd, Int.reduceSub, Int.reduceNeg, Int.reduceToNat, Int.reduceBEq, Int.reduceEq, reduceCtorEq, List.take_succ_cons, List.take_zero, List.take_nil, List.drop_succ_cons, List.drop_nil, List.cons_append, List.nil_append, List.set_cons_zero, List.set_cons_succ, ↓reduceIte, *]
    | (with_reducible refine tb_true ?_)
    | (with_reducible refine tb_false ?_)
    | (with_reducible refine tb_split (fun _ => ?_) (fun _ => ?_))
    | (with_reducible refine wg_f (fun _ => ?_) (fun _ => ?_))
    | (with_reducible refine wg_t (fun _ => ?_) (fun _ => ?_))
    | (with_reducible refine wd_f (fun _ => ?_) (fun _ => ?_))
    | (with_reducible refine wd_t (fun _ => ?_) (fun _ => ?_))
  all_goals try exact ⟨rfl, rfl⟩
  all_goals (exfalso; omega)
set_option maxRecDepth 100000 in
set_option maxHeartbeats 1000000 in
theorem fromDay_in {day y : Int} {mo : Nat} (h : chkDay day = 0) (hy1 : -10000 ≤ y) (hy2 : y ≤ 10000) (ha : c.first y ≤ day) (hb : day < c.first (y + 1)) (hmo : mo < c.ms.length) (hr1 : c.bef y mo < day - c.first y + 1) (hr2 : day - c.first y + 1 ≤ c.bef y (mo + 1)) :
    MeetsP Tryz.prog (glT m) 27 [c.A, .i .i64 day] (resD (dateA y (mo + 1) (day - c.first y + 1 - c.bef y mo)) 0) := by
  have hk := hc.check
  have hd := lineCheck (m := m) day
  have hday : -4000000 ≤ day ∧ day ≤ 4000000 := by unfold chkDay at h; split at h <;> omega
  rw [h] at hd
  have fp := fun z h1 h2 => firstP (m := m) c hc.toOk z h1 h2
  have mp := fun k h1 h2 => monthP (m := m) c hc.toOk y k (by omega) (by omega) h1 h2
  have mono := fun {a b : Int} (q : a ≤ b) => hc.toOk.first_mono q
  have fb := hc.toOk.first_bounds (show -20000 ≤ y by omega) (by omega)
  have bb := fun {a b : Nat} (q : a ≤ b) => hc.toOk.bef_mono y q
  have bd := hc.toOk.bef_bounds y
  have hl20 := hc.len2
  have mb := fun k => hc.toOk.mlen_bounds y k
  have bs : ∀ n, c.bef y (n + 1) = c.bef y n + c.mlen y (n + 1) := fun n => rfl
  have b0 : c.bef y 0 = 0 := rfl
  have q1 : ¬ day < c.first (-10000) := by have := mono hy1; omega
  have q2 : ¬ c.first 10001 ≤ day := by have := mono (show y + 1 ≤ 10001 by omega); omega
  generalize hF : c.first = F at *
  generalize hB : c.bef y = B at *
  generalize hM : c.mlen y = M at *
  obtain ⟨nm, ep, cy, ms, ls⟩ := c
  simp only [Cal.A, resD, dateA] at *
  have f1 := fp (-10000) (by omega) (by omega)
  have f2 := fp 10001 (by omega) (by omega)
  have f3 := fp y (by omega) (by omega)
  clear hF hB hM
  refine meetsP (E := (EW m)) 76 [.cell 4 32, .tmp 5] (ew m) Tryz.func27 rfl (by decide) rfl rfl (by simp) ?_
  repeat' first
    | ((with_reducible refine wr_isCall ?_); refine wr_P hk rfl ?_)
    | ((with_reducible refine wr_isCall ?_); refine wr_P hd rfl ?_)
    | ((with_reducible refine wr_isCall ?_); refine wr_P f1 rfl ?_)
    | ((with_reducible refine wr_isCall ?_); refine wr_P f2 rfl ?_)
    | (with_reducible refine t_seq ?_)
    | (with_reducible refine t_skip ?_)
    | (with_reducible refine t_ret ?_)
    | (with_reducible refine t_end ?_)
    | (with_reducible refine t_cond ?_)
    | (with_reducible refine t_region ?_)
    | (with_reducible refine wr_done ?_)
    | ((with_reducible refine t_isDraw ?_); refine t_draw rfl (by kernel_rfl) ?_)
    | (with_reducible refine WD.done _ ?_)
    | (with_reducible refine wdp_done ?_)
    | (with_reducible refine tr_some ?_)
    | ((fail_if_success with_reducible refine t_bl ?_); (with_reducible refine t_block ?_))
    | (with_reducible refine t_inBlock ?_)
    | ((with_reducible refine t_isExit ?_); refine t_exit rfl ?_)
    | simp only [decide_eq_true_eq, decide_eq_false_iff_not, Bool.not_eq_true', Bool.not_eq_false'] at *
    | simp (disch := omega) only [go_sem, Nat.reduceLT, Nat.reduceEqDiff, Nat.reduceAdd, Nat.reduceLeDiff, Nat.reduceMul, Int.reduceLT, Int.reduceLE, Int.reduceAdd, Int.reduceSub, Int.reduceNeg, Int.reduceToNat, Int.reduceBEq, Int.reduceEq, reduceCtorEq, List.take_succ_cons, List.take_zero, List.take_nil, List.drop_succ_cons, List.drop_nil, List.cons_append, List.nil_append, List.set_cons_zero, List.set_cons_succ, ↓reduceIte, *]
    | (with_reducible refine tb_true ?_)
    | (with_reducible refine tb_false ?_)
    | (with_reducible refine tb_split (fun _ => ?_) (fun _ => ?_))
    | (with_reducible refine wg_f (fun _ => ?_) (fun _ => ?_))
    | (with_reducible refine wg_t (fun _ => ?_) (fun _ => ?_))
    | (with_reducible refine wd_f (fun _ => ?_) (fun _ => ?_))
    | (with_reducible refine wd_t (fun _ => ?_) (fun _ => ?_))
  refine t_while (I := fun (p : Int × Int) t h => p.1 < p.2 ∧ -10000 ≤ p.1 ∧ p.2 ≤ 10001 ∧ p.1 ≤ y ∧ y < p.2 ∧ h = ⟨[(1, .rows 3 [[.i .i64 0, .i .i64 0, .i .i64 0]]), (0, .rows 5 [[.s nm, .i .i64 ep, .i .i64 cy, monF ms, intF ls]])], 2⟩ ∧ get t 2 = .ptr 0 0 0 ∧ get t 1 = .i .i64 day ∧ get t 4 = .ptr 1 0 0 ∧ get t 7 = .i .i64 p.1 ∧ get t 8 = .i .i64 p.2) (m := fun p => (p.2 - p.1).toNat)
    (J := fun t h => h = ⟨[(1, .rows 3 [[.i .i64 0, .i .i64 0, .i .i64 0]]), (0, .rows 5 [[.s nm, .i .i64 ep, .i .i64 cy, monF ms, intF ls]])], 2⟩ ∧ get t 2 = .ptr 0 0 0 ∧ get t 1 = .i .i64 day ∧ get t 4 = .ptr 1 0 0 ∧ get t 7 = .i .i64 y) (-10000, 10001) ⟨by omega, by omega, by omega, hy1, by omega, rfl, by simp [get], by simp [get], by simp [get], by simp [get], by simp [get]⟩ ?_ ?_
  · rintro ⟨lo, hi⟩ t h ⟨i1, i2, i3, i4, i5, rfl, h2, h1, h4, h7, h8⟩ hrec hex
    simp only at i1 i2 i3 i4 i5 h7 h8
    have e2 : (hi - lo).tdiv 2 = (hi - lo) / 2 := by rw [Int.tdiv_eq_ediv, if_pos (.inl (by omega))]; simp
    have fm := fp (lo + (hi - lo) / 2) (by omega) (by omega)
    repeat' first
      | refine hex _ _ ?_
      | ((with_reducible refine wr_isCall ?_); refine wr_P fm rfl ?_)
      | (with_reducible refine t_seq ?_)
      | (with_reducible refine t_skip ?_)
      | (with_reducible refine t_ret ?_)
      | (with_reducible refine t_end ?_)
      | (with_reducible refine t_cond ?_)
      | (with_reducible refine t_region ?_)
      | (with_reducible refine wr_done ?_)
      | ((with_reducible refine t_isDraw ?_); refine t_draw rfl (by kernel_rfl) ?_)
      | (with_reducible refine WD.done _ ?_)
      | (with_reducible refine wdp_done ?_)
      | (with_reducible refine tr_some ?_)
      | ((fail_if_success with_reducible refine t_bl ?_); (with_reducible refine t_block ?_))
      | (with_reducible refine t_inBlock ?_)
      | ((with_reducible refine t_isExit ?_); refine t_exit rfl ?_)
      | simp only [decide_eq_true_eq, decide_eq_false_iff_not, Bool.not_eq_true', Bool.not_eq_false'] at *
      | simp (disch := omega) only [go_sem, Nat.reduceLT, Nat.reduceEqDiff, Nat.reduceAdd, Nat.reduceLeDiff, Nat.reduceMul, Int.reduceLT, Int.reduceLE, Int.reduceAdd, Int.reduceSub, Int.reduceNeg, Int.reduceToNat, Int.reduceBEq, Int.reduceEq, reduceCtorEq, List.take_succ_cons, List.take_zero, List.take_nil, List.drop_succ_cons, List.drop_nil, List.cons_append, List.nil_append, List.set_cons_zero, List.set_cons_succ, ↓reduceIte, *]
      | (with_reducible refine tb_true ?_)
      | (with_reducible refine tb_false ?_)
      | (with_reducible refine tb_split (fun _ => ?_) (fun _ => ?_))
      | (with_reducible refine wg_f (fun _ => ?_) (fun _ => ?_))
      | (with_reducible refine wg_t (fun _ => ?_) (fun _ => ?_))
      | (with_reducible refine wd_f (fun _ => ?_) (fun _ => ?_))
      | (with_reducible refine wd_t (fun _ => ?_) (fun _ => ?_))
    · rename_i q3 q4
      have : lo + (hi - lo) / 2 ≤ y := by
        rcases Int.lt_or_le y (lo + (hi - lo) / 2) with q | q
        · have := mono (show y + 1 ≤ lo + (hi - lo) / 2 by omega); omega
        · exact q
      exact hrec (lo + (hi - lo) / 2, hi) _ _ ⟨by simp only; omega, by simp only; omega, i3, this, i5, rfl, by simp [get, h2], by simp [get, h1], by simp [get, h4], by simp [get], by simp [get, h8]⟩ (by simp only; omega)
    · rename_i q3 q4
      have : y < lo + (hi - lo) / 2 := by
        rcases Int.lt_or_le y (lo + (hi - lo) / 2) with q | q
        · exact q
        · have := mono q; omega
      exact hrec (lo, lo + (hi - lo) / 2) _ _ ⟨by simp only; omega, i2, by simp only; omega, i4, this, rfl, by simp [get, h2], by simp [get, h1], by simp [get, h4], by simp [get, h7], by simp [get]⟩ (by simp only; omega)
    · have : lo = y := by omega
      exact ⟨trivial, trivial, trivial, trivial, by rw [this]⟩
  · rintro t h ⟨rfl, h2, h1, h4, h7⟩
    repeat' first
      | ((with_reducible refine wr_isCall ?_); refine wr_P f3 rfl ?_)
      | (with_reducible refine t_seq ?_)
      | (with_reducible refine t_skip ?_)
      | (with_reducible refine t_ret ?_)
      | (with_reducible refine t_end ?_)
      | (with_reducible refine t_cond ?_)
      | (with_reducible refine t_region ?_)
      | (with_reducible refine wr_done ?_)
      | ((with_reducible refine t_isDraw ?_); refine t_draw rfl (by kernel_rfl) ?_)
      | (with_reducible refine WD.done _ ?_)
      | (with_reducible refine wdp_done ?_)
      | (with_reducible refine tr_some ?_)
      | ((fail_if_success with_reducible refine t_bl ?_); (with_reducible refine t_block ?_))
      | (with_reducible refine t_inBlock ?_)
      | ((with_reducible refine t_isExit ?_); refine t_exit rfl ?_)
      | simp only [decide_eq_true_eq, decide_eq_false_iff_not, Bool.not_eq_true', Bool.not_eq_false'] at *
      | simp (disch := omega) only [go_sem, Nat.reduceLT, Nat.reduceEqDiff, Nat.reduceAdd, Nat.reduceLeDiff, Nat.reduceMul, Int.reduceLT, Int.reduceLE, Int.reduceAdd, Int.reduceSub, Int.reduceNeg, Int.reduceToNat, Int.reduceBEq, Int.reduceEq, reduceCtorEq, List.take_succ_cons, List.take_zero, List.take_nil, List.drop_succ_cons, List.drop_nil, List.cons_append, List.nil_append, List.set_cons_zero, List.set_cons_succ, ↓reduceIte, *]
      | (with_reducible refine tb_true ?_)
      | (with_reducible refine tb_false ?_)
      | (with_reducible refine tb_split (fun _ => ?_) (fun _ => ?_))
      | (with_reducible refine wg_f (fun _ => ?_) (fun _ => ?_))
      | (with_reducible refine wg_t (fun _ => ?_) (fun _ => ?_))
      | (with_reducible refine wd_f (fun _ => ?_) (fun _ => ?_))
      | (with_reducible refine wd_t (fun _ => ?_) (fun _ => ?_))
    refine t_while (I := fun (k : Nat) t h => k ≤ mo ∧ h = ⟨[(1, .rows 3 [[.i .i64 0, .i .i64 0, .i .i64 0]]), (0, .rows 5 [[.s nm, .i .i64 ep, .i .i64 cy, monF ms, intF ls]])], 2⟩ ∧ get t 2 = .ptr 0 0 0 ∧ get t 4 = .ptr 1 0 0 ∧ get t 7 = .i .i64 y ∧ get t 10 = .i .i64 (day - F y + 1 - B k) ∧ get t 11 = .i .i64 (k + 1)) (m := fun k => mo - k)
      (J := fun t h => h = ⟨[(1, .rows 3 [[.i .i64 0, .i .i64 0, .i .i64 0]]), (0, .rows 5 [[.s nm, .i .i64 ep, .i .i64 cy, monF ms, intF ls]])], 2⟩ ∧ get t 4 = .ptr 1 0 0 ∧ get t 7 = .i .i64 y ∧ get t 10 = .i .i64 (day - F y + 1 - B mo) ∧ get t 11 = .i .i64 (mo + 1)) 0 ⟨by omega, rfl, by simp [get, h2], by simp [get, h4], by simp [get, h7], by simp [get, b0], by simp [get]⟩ ?_ ?_
    · rintro k t h ⟨hk', rfl, h2, h4, h7, h10, h11⟩ hrec hex
      have mk := mp ((k : Int) + 1) (by omega) (by omega)
      have e1 := bs k
      have e2 := bb hk'
      have e3 := bd k
      have e4 := bb (show k ≤ mo + 1 by omega)
      have e5 := bd mo
      have e6 := mb (k + 1)
      repeat' first
        | refine hex _ _ ?_
        | ((with_reducible refine wr_isCall ?_); refine wr_P mk rfl ?_)
        | (with_reducible refine t_seq ?_)
        | (with_reducible refine t_skip ?_)
        | (with_reducible refine t_ret ?_)
        | (with_reducible refine t_end ?_)
        | (with_reducible refine t_cond ?_)
        | (with_reducible refine t_region ?_)
        | (with_reducible refine wr_done ?_)
        | ((with_reducible refine t_isDraw ?_); refine t_draw rfl (by kernel_rfl) ?_)
        | (with_reducible refine WD.done _ ?_)
        | (with_reducible refine wdp_done ?_)
        | (with_reducible refine tr_some ?_)
        | ((fail_if_success with_reducible refine t_bl ?_); (with_reducible refine t_block ?_))
        | (with_reducible refine t_inBlock ?_)
        | ((with_reducible refine t_isExit ?_); refine t_exit rfl ?_)
        | simp only [decide_eq_true_eq, decide_eq_false_iff_not, Bool.not_eq_true', Bool.not_eq_false'] at *
        | simp (disch := omega) only [go_sem, Nat.reduceLT, Nat.reduceEqDiff, Nat.reduceAdd, Nat.reduceLeDiff, Nat.reduceMul, Int.reduceLT, Int.reduceLE, Int.reduceAdd, Int.reduceSub, Int.reduceNeg, Int.reduceToNat, Int.reduceBEq, Int.reduceEq, reduceCtorEq, List.take_succ_cons, List.take_zero, List.take_nil, List.drop_succ_cons, List.drop_nil, List.cons_append, List.nil_append, List.set_cons_zero, List.set_cons_succ, ↓reduceIte, *]
        | (with_reducible refine tb_true ?_)
        | (with_reducible refine tb_false ?_)
        | (with_reducible refine tb_split (fun _ => ?_) (fun _ => ?_))
        | (with_reducible refine wg_f (fun _ => ?_) (fun _ => ?_))
        | (with_reducible refine wg_t (fun _ => ?_) (fun _ => ?_))
        | (with_reducible refine wd_f (fun _ => ?_) (fun _ => ?_))
        | (with_reducible refine wd_t (fun _ => ?_) (fun _ => ?_))
      · rename_i q
        have hlt : k < mo := by
          rcases Nat.lt_or_ge k mo with q2 | q2
          · exact q2
          · have : k = mo := by omega
            subst this; omega
        exact hrec (k + 1) _ _ ⟨by omega, rfl, by simp [get, h2], by simp [get, h4], by simp [get, h7], by simp [get]; omega, by simp [get]⟩ (by omega)
      · rename_i q
        have : k = mo := by
          rcases Nat.lt_or_ge k mo with q2 | q2
          · have := bb (show k + 1 ≤ mo by omega); omega
          · omega
        subst this
        simp
    · rintro t h ⟨rfl, h4, h7, h10, h11⟩
      repeat' first
        | (with_reducible refine t_seq ?_)
        | (with_reducible refine t_skip ?_)
        | (with_reducible refine t_ret ?_)
        | (with_reducible refine t_end ?_)
        | (with_reducible refine t_cond ?_)
        | (with_reducible refine t_region ?_)
        | (with_reducible refine wr_done ?_)
        | ((with_reducible refine t_isDraw ?_); refine t_draw rfl (by kernel_rfl) ?_)
        | (with_reducible refine WD.done _ ?_)
        | (with_reducible refine wdp_done ?_)
        | (with_reducible refine tr_some ?_)
        | ((fail_if_success with_reducible refine t_bl ?_); (with_reducible refine t_block ?_))
        | (with_reducible refine t_inBlock ?_)
        | ((with_reducible refine t_isExit ?_); refine t_exit rfl ?_)
        | simp only [decide_eq_true_eq, decide_eq_false_iff_not, Bool.not_eq_true', Bool.not_eq_false'] at *
        | simp (disch := omega) only [go_sem, Nat.reduceLT, Nat.reduceEqDiff, Nat.reduceAdd, Nat.reduceLeDiff, Nat.reduceMul, Int.reduceLT, Int.reduceLE, Int.reduceAdd, Int.reduceSub, Int.reduceNeg, Int.reduceToNat, Int.reduceBEq, Int.reduceEq, reduceCtorEq, List.take_succ_cons, List.take_zero, List.take_nil, List.drop_succ_cons, List.drop_nil, List.cons_append, List.nil_append, List.set_cons_zero, List.set_cons_succ, ↓reduceIte, *]
        | (with_reducible refine tb_true ?_)
        | (with_reducible refine tb_false ?_)
        | (with_reducible refine tb_split (fun _ => ?_) (fun _ => ?_))
        | (with_reducible refine wg_f (fun _ => ?_) (fun _ => ?_))
        | (with_reducible refine wg_t (fun _ => ?_) (fun _ => ?_))
        | (with_reducible refine wd_f (fun _ => ?_) (fun _ => ?_))
        | (with_reducible refine wd_t (fun _ => ?_) (fun _ => ?_))
      exact ⟨by simp [fz], rfl⟩
set_option maxRecDepth 100000 in
set_option maxHeartbeats 1000000 in
theorem toDayP {y d : Int} {mo : Nat} (hy1 : -10000 ≤ y) (hy2 : y ≤ 10000) (hmo : mo < c.ms.length) (hd1 : 1 ≤ d) (hd2 : d ≤ c.mlen y (mo + 1)) :
    MeetsP Tryz.prog (glT m) 37 [c.A, dateA y (mo + 1) d] (if chkDay (c.first y + d - 1 + c.bef y mo) = 0 then resD (.i .i64 (c.first y + d - 1 + c.bef y mo)) 0 else resD (.i .i64 0) 3) := by
  have hb := beginP hc y
  rw [show chkYear y = 0 from if_neg (by omega)] at hb
  have fp := firstP (m := m) c hc.toOk y (by omega) (by omega)
  have mp := fun k h1 h2 => monthP (m := m) c hc.toOk y k (by omega) (by omega) h1 h2
  have fb := hc.toOk.first_bounds (show -20000 ≤ y by omega) (by omega)
  have bd := hc.toOk.bef_bounds y
  have hl20 := hc.len2
  have mb := fun k => hc.toOk.mlen_bounds y k
  have mb1 := mb (mo + 1)
  have bs : ∀ n, c.bef y (n + 1) = c.bef y n + c.mlen y (n + 1) := fun n => rfl
  have b0 : c.bef y 0 = 0 := rfl
  have hd := lineCheck (m := m) (c.first y + d - 1 + c.bef y mo)
  generalize hD : chkDay (c.first y + d - 1 + c.bef y mo) = D at *
  generalize hF : c.first y = F at *
  generalize hB : c.bef y = B at *
  generalize hM : c.mlen y = M at *
  obtain ⟨nm, ep, cy, ms, ls⟩ := c
  simp only [Cal.A, resD, dateA] at *
  have k1 : ¬ (mo : Int) + 1 < 1 := by omega
  have k2 : ¬ (ms.length : Int) < mo + 1 := by omega
  have k3 : ¬ d < 1 := by omega
  have m0 := mp ((mo : Int) + 1) (by omega) (by omega)
  have k4 : ¬ M (mo + 1) < d := by omega
  clear hF hB hM hD
  refine meetsP (E := (EW m)) 68 [.tmp 4, .tmp 5] (ew m) Tryz.func37 rfl (by decide) rfl rfl (by simp) ?_
  repeat' first
    | ((with_reducible refine wr_isCall ?_); refine wr_P hb rfl ?_)
    | ((with_reducible refine t_isDraw ?_); refine t_draw2 m0 fp (by kernel_rfl) ?_)
    | (with_reducible refine t_seq ?_)
    | (with_reducible refine t_skip ?_)
    | (with_reducible refine t_ret ?_)
    | (with_reducible refine t_end ?_)
    | (with_reducible refine t_cond ?_)
    | (with_reducible refine t_region ?_)
    | (with_reducible refine wr_done ?_)
    | ((with_reducible refine t_isDraw ?_); refine t_draw rfl (by kernel_rfl) ?_)
    | (with_reducible refine WD.done _ ?_)
    | (with_reducible refine wdp_done ?_)
    | (with_reducible refine tr_some ?_)
    | ((fail_if_success with_reducible refine t_bl ?_); (with_reducible refine t_block ?_))
    | (with_reducible refine t_inBlock ?_)
    | ((with_reducible refine t_isExit ?_); refine t_exit rfl ?_)
    | simp only [decide_eq_true_eq, decide_eq_false_iff_not, Bool.not_eq_true', Bool.not_eq_false'] at *
    | simp (disch := omega) only [go_sem, Nat.reduceLT, Nat.reduceEqDiff, Nat.reduceAdd, Nat.reduceLeDiff, Nat.reduceMul, Int.reduceLT, Int.reduceLE, Int.reduceAdd, Int.reduceSub, Int.reduceNeg, Int.reduceToNat, Int.reduceBEq, Int.reduceEq, reduceCtorEq, List.take_succ_cons, List.take_zero, List.take_nil, List.drop_succ_cons, List.drop_nil, List.cons_append, List.nil_append, List.set_cons_zero, List.set_cons_succ, ↓reduceIte, *]
    | (with_reducible refine tb_true ?_)
    | (with_reducible refine tb_false ?_)
    | (with_reducible refine tb_split (fun _ => ?_) (fun _ => ?_))
    | (with_reducible refine wg_f (fun _ => ?_) (fun _ => ?_))
    | (with_reducible refine wg_t (fun _ => ?_) (fun _ => ?_))
    | (with_reducible refine wd_f (fun _ => ?_) (fun _ => ?_))
    | (with_reducible refine wd_t (fun _ => ?_) (fun _ => ?_))
  refine t_while (I := fun (k : Nat) t h => k ≤ mo ∧ h = ⟨[(1, .rows 3 [[.i .i64 y, .i .i64 (mo + 1), .i .i64 d]]), (0, .rows 5 [[.s nm, .i .i64 ep, .i .i64 cy, monF ms, intF ls]])], 2⟩ ∧ get t 2 = .ptr 0 0 0 ∧ get t 3 = .ptr 1 0 0 ∧ get t 7 = .i .i64 (F + d - 1 + B k) ∧ get t 8 = .i .i64 (k + 1)) (m := fun k => mo - k)
    (J := fun t h => get t 7 = .i .i64 (F + d - 1 + B mo)) 0 ⟨by omega, rfl, by simp [get], by simp [get], by simp [get, b0], by simp [get]⟩ ?_ ?_
  · rintro k t h ⟨hk', rfl, h2, h3, h7, h8⟩ hrec hex
    have mk := mp ((k : Int) + 1) (by omega) (by omega)
    have e1 := bs k
    have e3 := bd k
    have e4 := mb (k + 1)
    repeat' first
      | refine hex _ _ ?_
      | ((with_reducible refine wr_isCall ?_); refine wr_P mk rfl ?_)
      | (with_reducible refine t_seq ?_)
      | (with_reducible refine t_skip ?_)
      | (with_reducible refine t_ret ?_)
      | (with_reducible refine t_end ?_)
      | (with_reducible refine t_cond ?_)
      | (with_reducible refine t_region ?_)
      | (with_reducible refine wr_done ?_)
      | ((with_reducible refine t_isDraw ?_); refine t_draw rfl (by kernel_rfl) ?_)
      | (with_reducible refine WD.done _ ?_)
      | (with_reducible refine wdp_done ?_)
      | (with_reducible refine tr_some ?_)
      | ((fail_if_success with_reducible refine t_bl ?_); (with_reducible refine t_block ?_))
      | (with_reducible refine t_inBlock ?_)
      | ((with_reducible refine t_isExit ?_); refine t_exit rfl ?_)
      | simp only [decide_eq_true_eq, decide_eq_false_iff_not, Bool.not_eq_true', Bool.not_eq_false'] at *
      | simp (disch := omega) only [go_sem, Nat.reduceLT, Nat.reduceEqDiff, Nat.reduceAdd, Nat.reduceLeDiff, Nat.reduceMul, Int.reduceLT, Int.reduceLE, Int.reduceAdd, Int.reduceSub, Int.reduceNeg, Int.reduceToNat, Int.reduceBEq, Int.reduceEq, reduceCtorEq, List.take_succ_cons, List.take_zero, List.take_nil, List.drop_succ_cons, List.drop_nil, List.cons_append, List.nil_append, List.set_cons_zero, List.set_cons_succ, ↓reduceIte, *]
      | (with_reducible refine tb_true ?_)
      | (with_reducible refine tb_false ?_)
      | (with_reducible refine tb_split (fun _ => ?_) (fun _ => ?_))
      | (with_reducible refine wg_f (fun _ => ?_) (fun _ => ?_))
      | (with_reducible refine wg_t (fun _ => ?_) (fun _ => ?_))
      | (with_reducible refine wd_f (fun _ => ?_) (fun _ => ?_))
      | (with_reducible refine wd_t (fun _ => ?_) (fun _ => ?_))
    · rename_i q
      have e5 := bd k
      exact hrec (k + 1) _ _ ⟨by omega, rfl, by simp [get, h2], by simp [get, h3], by simp [get]; omega, by simp [get]⟩ (by omega)
    · have : k = mo := by omega
      rw [this]
  · rintro t h h7
    repeat' first
      | ((with_reducible refine wr_isCall ?_); refine wr_P hd rfl ?_)
      | (with_reducible refine t_seq ?_)
      | (with_reducible refine t_skip ?_)
      | (with_reducible refine t_ret ?_)
      | (with_reducible refine t_end ?_)
      | (with_reducible refine t_cond ?_)
      | (with_reducible refine t_region ?_)
      | (with_reducible refine wr_done ?_)
      | ((with_reducible refine t_isDraw ?_); refine t_draw rfl (by kernel_rfl) ?_)
      | (with_reducible refine WD.done _ ?_)
      | (with_reducible refine wdp_done ?_)
      | (with_reducible refine tr_some ?_)
      | ((fail_if_success with_reducible refine t_bl ?_); (with_reducible refine t_block ?_))
      | (with_reducible refine t_inBlock ?_)
      | ((with_reducible refine t_isExit ?_); refine t_exit rfl ?_)
      | simp only [decide_eq_true_eq, decide_eq_false_iff_not, Bool.not_eq_true', Bool.not_eq_false'] at *
      | simp (disch := omega) only [go_sem, Nat.reduceLT, Nat.reduceEqDiff, Nat.reduceAdd, Nat.reduceLeDiff, Nat.reduceMul, Int.reduceLT, Int.reduceLE, Int.reduceAdd, Int.reduceSub, Int.reduceNeg, Int.reduceToNat, Int.reduceBEq, Int.reduceEq, reduceCtorEq, List.take_succ_cons, List.take_zero, List.take_nil, List.drop_succ_cons, List.drop_nil, List.cons_append, List.nil_append, List.set_cons_zero, List.set_cons_succ, ↓reduceIte, *]
      | (with_reducible refine tb_true ?_)
      | (with_reducible refine tb_false ?_)
      | (with_reducible refine tb_split (fun _ => ?_) (fun _ => ?_))
      | (with_reducible refine wg_f (fun _ => ?_) (fun _ => ?_))
      | (with_reducible refine wg_t (fun _ => ?_) (fun _ => ?_))
      | (with_reducible refine wd_f (fun _ => ?_) (fun _ => ?_))
      | (with_reducible refine wd_t (fun _ => ?_) (fun _ => ?_))
    all_goals exact ⟨rfl, rfl⟩
end
end Go.Proofs.YtkokongbnemkhaaGreatDoorA
