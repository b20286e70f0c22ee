/- rule's evaluation of expressions. -/
import Derived.Test.YthahgmncnbeddaaGreatDoorNC
import Derived.Test.YthahgmncnbeddaaGreatDoorKA
set_option linter.unusedVariables false
set_option linter.unusedSimpArgs false
namespace Go.Proofs.YthahgmncnbeddaaGreatDoorA
open Go Go.RowKit Go.Proofs.YthahgmncnbeddaaGreatDoorFx Go.Proofs
attribute [local go_sem] List.take_succ_cons List.take_zero List.take_nil List.drop_succ_cons List.drop_nil List.cons_append List.nil_append List.set_cons_zero List.set_cons_succ
variable {m : Int}
@[go_sem] theorem if_ne_nat {α : Type} {a b : Nat} {x y : α} (h : ¬ a = b) : (if a = b then x else y) = y := if_neg h
def numOk (v : Int) : Option Int := if -2147483647 ≤ v ∧ v ≤ 2147483647 then some v else none
def boolI (b : Bool) : Int := if b then 1 else 0
/-- The value of an expression in a year. -/
def evS (y : Int) : RExpr → Option Int
  | .num n => numOk n
  | .year => numOk y
  | .un k a => (match evS y a with
    | some v => if k = 3 then numOk (-v) else if k = 11 then some (boolI (decide (v = 0))) else none
    | none => none)
  | .bin k a b => (match evS y a, evS y b with
    | some v, some u => if k = 4 then numOk (v + u) else if k = 5 then numOk (v - u) else if k = 6 then numOk (v * u)
      else if k = 7 then (if 0 < u then numOk (v / u) else none) else if k = 8 then (if 0 < u then numOk (v % u) else none)
      else if k = 9 then some (boolI (decide (v < u))) else if k = 10 then some (boolI (decide (v = u)))
      else if k = 12 then some (boolI (decide (v ≠ 0) && decide (u ≠ 0))) else if k = 13 then some (boolI (decide (v ≠ 0) || decide (u ≠ 0))) else none
    | _, _ => none)
theorem numOk_eq {v u : Int} (h : numOk v = some u) : u = v ∧ -2147483647 ≤ v ∧ v ≤ 2147483647 := by
  unfold numOk at h
  split at h
  · rename_i q; cases h; exact ⟨rfl, q⟩
  · cases h
/-- New blocks that nobody needs. -/
def Gr (c : List (Nat × Ent)) (n : Nat) (h : Hp) : Prop := ∃ k, h.c.drop k = c ∧ n ≤ h.n
def RetG (v : AV) (c : List (Nat × Ent)) (n : Nat) : Out → Hp → Prop := fun o h => o = .ret v ∧ ∃ n', n ≤ n' ∧ h = ⟨c, n'⟩
theorem grow_forget {E : Env} {f : FuncId} {args : List AV} {h : Hp} {v : AV} {c : List (Nat × Ent)} {n : Nat} (hm : MeetsH E f args h fun o h' => o = .ret v ∧ Gr c n h') : MeetsH E f args h (RetG v c n) :=
  hm.forget fun o h0 ⟨e, k, hk, hn⟩ => ⟨⟨c, h0.n⟩, by subst hk; exact Sub.drop k h0.c h0.n h0.n (Nat.le_refl _), e, h0.n, hn, rfl⟩
theorem wr_grow {E : Env} {f : FuncId} {all os : List Oper} {K : List Item} {X : Ex → St → Prop} {g : FuncId} {args : List AV} {d : Option Nat} {t : List (Nat × AV)} {N n : Nat} {c c' : List (Nat × Ent)} {v : AV} (hm : MeetsH E g args ⟨c, n⟩ (RetG v c' n))
    (h : ∀ n', n ≤ n' → WR E f all K X (runA E all os (St.put ⟨t, N, ⟨c', n'⟩⟩ d v))) : WR E f all K X (.call g args d os ⟨t, N, ⟨c, n⟩⟩) :=
  .call _ _ _ _ _ _ hm (fun r h' q => by obtain ⟨e, n', hn, rfl⟩ := q; cases e; exact h n' hn) (fun r h' q => by obtain ⟨e, _⟩ := q; cases e)
set_option maxRecDepth 100000 in
theorem booleanP (b : Bool) : MeetsP Tryz.prog (glT m) 120 [.b b] (.i .i64 (boolI b)) := by
  refine meetsP (E := (EW m)) 4 [.tmp 2] (ew m) Tryz.func120 rfl (by decide) rfl rfl (by simp) ?_
  repeat' first | (with_reducible first | refine t_seq ?_ | refine t_skip ?_ | refine t_ret ?_ | refine t_end ?_ | refine t_cond ?_ | refine t_region ?_ | refine wr_done ?_ | refine WD.done _ ?_ | refine wdp_done ?_ | refine tr_some ?_ | refine t_inBlock ?_) | ((with_reducible refine t_isDraw ?_); refine t_draw rfl (by kernel_rfl) ?_) | ((fail_if_success with_reducible refine t_bl ?_); (with_reducible refine t_block ?_)) | ((with_reducible refine t_isExit ?_); refine t_exit rfl ?_) | simp only [decide_eq_true_eq, decide_eq_false_iff_not, Bool.not_eq_true', Bool.not_eq_false'] at * | simp (disch := omega) only [go_sem, Nat.reduceLT, Nat.reduceEqDiff, Nat.reduceAdd, Nat.reduceLeDiff, Nat.reduceMul, Int.reduceLT, Int.reduceLE, Int.reduceAdd, Int.reduceSub, Int.reduceNeg, Int.reduceToNat, Int.reduceBEq, Int.reduceEq, reduceCtorEq, ↓reduceIte, *] | (with_reducible first | refine tb_true ?_ | refine tb_false ?_) | ((with_reducible first | refine tb_split ?_ ?_ | refine wg_f ?_ ?_ | refine wg_t ?_ ?_ | refine wd_f ?_ ?_ | refine wd_t ?_ ?_) <;> intro _)
  all_goals exact ⟨by simp [fz, boolI, *], rfl⟩
@[go_sem] theorem rcells_len (a : RExpr) : a.cells.length = 3 := by cases a <;> rfl
@[go_sem] theorem rcells_take (a : RExpr) : a.cells.take 3 = a.cells := List.take_of_length_le (by rw [rcells_len]; omega)
@[go_sem] theorem rcells_drop (a : RExpr) : a.cells.drop 3 = [] := List.drop_eq_nil_of_le (by rw [rcells_len]; omega)
@[go_sem] theorem rcells_one (a : RExpr) : a.cells.all one = true := by cases a <;> rfl
attribute [go_sem] List.append_nil List.take_zero List.getElem_cons_zero List.getElem_cons_succ
@[go_sem] theorem cast0 : ((0 : Nat) : Int) = 0 := rfl
@[go_sem] theorem cast1 : ((1 : Nat) : Int) = 1 := rfl
@[go_sem] theorem cast2 : ((2 : Nat) : Int) = 2 := rfl
@[go_sem] theorem tonat1 : (1 : Int).toNat = 1 := rfl
@[go_sem] theorem tonat0 : (0 : Int).toNat = 0 := rfl
theorem numOk_out {v : Int} (h1 : -2147483647 ≤ v) (h2 : v ≤ 2147483647) : ¬ v < -2147483647 ∧ ¬ 2147483647 < v := by omega
theorem boolI_ok (b : Bool) : ¬ boolI b < -2147483647 ∧ ¬ 2147483647 < boolI b ∧ -2147483647 ≤ boolI b ∧ boolI b ≤ 2147483647 := by cases b <;> decide
theorem evS_ok {y : Int} : ∀ {t : RExpr} {v : Int}, evS y t = some v → -2147483647 ≤ v ∧ v ≤ 2147483647
  | .num n, v, h => by obtain ⟨rfl, q⟩ := numOk_eq h; exact q
  | .year, v, h => by obtain ⟨rfl, q⟩ := numOk_eq h; exact q
  | .un k a, v, h => by
    simp only [evS] at h
    (repeat' (split at h)) <;> first
      | (cases h; done)
      | (obtain ⟨rfl, q⟩ := numOk_eq h; exact q)
      | (cases h; exact (boolI_ok _).2.2)
  | .bin k a b, v, h => by
    simp only [evS] at h
    (repeat' (split at h)) <;> first
      | (cases h; done)
      | (obtain ⟨rfl, q⟩ := numOk_eq h; exact q)
      | (cases h; exact (boolI_ok _).2.2)
/-- The value of an expression, as the machine at id finds it. -/
def ValOk (m y : Int) (t : RExpr) : Prop := ∀ v, evS y t = some v → ∀ (c : List (Nat × Ent)) (id n : Nat), look c id = some (.rows 2 [[.i .i64 y, .i .i64 0]]) → id < n → MeetsH (EW m) 103 [.ptr id 0 0, .agg t.cells] ⟨c, n⟩ (RetG (.i .i64 v) c n)
set_option maxRecDepth 100000 in
set_option maxHeartbeats 1000000 in
theorem value_leaf {y : Int} {t : RExpr} (ht : (∃ n, t = .num n) ∨ t = .year) : ValOk m y t := by
  intro v hv c id n hl hid
  refine grow_forget ?_
  rcases ht with ⟨k, rfl⟩ | rfl
  all_goals (obtain ⟨rfl, h1, h2⟩ := numOk_eq hv; simp only [RExpr.cells]; obtain ⟨k1, k2⟩ := numOk_out h1 h2)
  · refine meetsH (E := (EW m)) 146 [.tmp 4] Tryz.func103 rfl (by decide) rfl rfl (by simp) ?_
    repeat' first | (with_reducible first | refine t_seq ?_ | refine t_skip ?_ | refine t_ret ?_ | refine t_end ?_ | refine t_cond ?_ | refine t_region ?_ | refine wr_done ?_ | refine WD.done _ ?_ | refine wdp_done ?_ | refine tr_some ?_ | refine t_block ?_ | refine t_loop ?_ | refine t_inLoop ?_ | refine t_inBlock ?_) | ((with_reducible refine t_isDraw ?_); refine t_draw rfl (by kernel_rfl) ?_) | ((with_reducible refine t_isExit ?_); refine t_exit rfl ?_) | simp only [decide_eq_true_eq, decide_eq_false_iff_not, Bool.not_eq_true', Bool.not_eq_false'] at * | simp (disch := omega) only [go_sem, Nat.reduceLT, Nat.reduceEqDiff, Nat.reduceAdd, Nat.reduceLeDiff, Nat.reduceMul, Int.reduceLT, Int.reduceLE, Int.reduceAdd, Int.reduceSub, Int.reduceNeg, Int.reduceToNat, Int.reduceBEq, Int.reduceEq, reduceCtorEq, ↓reduceIte, *] | (with_reducible first | refine tb_true ?_ | refine tb_false ?_) | ((with_reducible first | refine tb_split ?_ ?_ | refine wg_f ?_ ?_ | refine wg_t ?_ ?_ | refine wd_f ?_ ?_ | refine wd_t ?_ ?_) <;> intro _)
    exact ⟨trivial, 2, rfl, by simp only; omega⟩
  · refine meetsH (E := (EW m)) 146 [.tmp 4] Tryz.func103 rfl (by decide) rfl rfl (by simp) ?_
    repeat' first | (with_reducible first | refine t_seq ?_ | refine t_skip ?_ | refine t_ret ?_ | refine t_end ?_ | refine t_cond ?_ | refine t_region ?_ | refine wr_done ?_ | refine WD.done _ ?_ | refine wdp_done ?_ | refine tr_some ?_ | refine t_block ?_ | refine t_loop ?_ | refine t_inLoop ?_ | refine t_inBlock ?_) | ((with_reducible refine t_isDraw ?_); refine t_draw rfl (by kernel_rfl) ?_) | ((with_reducible refine t_isExit ?_); refine t_exit rfl ?_) | simp only [decide_eq_true_eq, decide_eq_false_iff_not, Bool.not_eq_true', Bool.not_eq_false'] at * | simp (disch := omega) only [go_sem, Nat.reduceLT, Nat.reduceEqDiff, Nat.reduceAdd, Nat.reduceLeDiff, Nat.reduceMul, Int.reduceLT, Int.reduceLE, Int.reduceAdd, Int.reduceSub, Int.reduceNeg, Int.reduceToNat, Int.reduceBEq, Int.reduceEq, reduceCtorEq, ↓reduceIte, *] | (with_reducible first | refine tb_true ?_ | refine tb_false ?_) | ((with_reducible first | refine tb_split ?_ ?_ | refine wg_f ?_ ?_ | refine wg_t ?_ ?_ | refine wd_f ?_ ?_ | refine wd_t ?_ ?_) <;> intro _)
    exact ⟨trivial, 2, rfl, by simp only; omega⟩
set_option maxRecDepth 100000 in
set_option maxHeartbeats 1000000 in
theorem value_un {y k va : Int} {a : RExpr} (ha : evS y a = some va) (ih : ValOk m y a) : ValOk m y (.un k a) := by
  intro v hv c id n hl hid
  refine grow_forget ?_
  have hva := evS_ok ha
  simp only [evS, ha] at hv
  simp only [RExpr.cells]
  by_cases k3 : k = 3
  · subst k3
    rw [if_pos rfl, show -va = 0 - va by omega] at hv
    obtain ⟨rfl, h1, h2⟩ := numOk_eq hv
    obtain ⟨k1, k2⟩ := numOk_out h1 h2
    refine meetsH (E := (EW m)) 146 [.tmp 4] Tryz.func103 rfl (by decide) rfl rfl (by simp) ?_
    repeat' first | ((with_reducible refine wr_isCall ?_); refine wr_grow (ih va ha _ _ _ (by simp (disch := omega) only [go_sem]; exact hl) (by omega)) (fun n' hn' => ?_)) | (with_reducible first | refine t_seq ?_ | refine t_skip ?_ | refine t_ret ?_ | refine t_end ?_ | refine t_cond ?_ | refine t_region ?_ | refine wr_done ?_ | refine WD.done _ ?_ | refine wdp_done ?_ | refine tr_some ?_ | refine t_block ?_ | refine t_loop ?_ | refine t_inLoop ?_ | refine t_inBlock ?_) | ((with_reducible refine t_isDraw ?_); refine t_draw rfl (by kernel_rfl) ?_) | ((with_reducible refine t_isExit ?_); refine t_exit rfl ?_) | simp only [decide_eq_true_eq, decide_eq_false_iff_not, Bool.not_eq_true', Bool.not_eq_false'] at * | simp (disch := omega) only [go_sem, Nat.reduceLT, Nat.reduceEqDiff, Nat.reduceAdd, Nat.reduceLeDiff, Nat.reduceMul, Int.reduceLT, Int.reduceLE, Int.reduceAdd, Int.reduceSub, Int.reduceNeg, Int.reduceToNat, Int.reduceBEq, Int.reduceEq, reduceCtorEq, ↓reduceIte, *] | (with_reducible first | refine tb_true ?_ | refine tb_false ?_) | ((with_reducible first | refine tb_split ?_ ?_ | refine wg_f ?_ ?_ | refine wg_t ?_ ?_ | refine wd_f ?_ ?_ | refine wd_t ?_ ?_) <;> intro _)
    exact ⟨by first | rfl | trivial, 3, rfl, by simp only; omega⟩
  · rw [if_neg k3] at hv
    by_cases k11 : k = 11
    · subst k11
      rw [if_pos rfl] at hv
      cases hv
      obtain ⟨k1, k2, k4, k5⟩ := boolI_ok (decide (va = 0))
      have hb := booleanP (m := m) (decide (va = 0))
      refine meetsH (E := (EW m)) 146 [.tmp 4] Tryz.func103 rfl (by decide) rfl rfl (by simp) ?_
      repeat' first | ((with_reducible refine wr_isCall ?_); first | refine wr_grow (ih va ha _ _ _ (by simp (disch := omega) only [go_sem]; exact hl) (by omega)) (fun n' hn' => ?_) | refine wr_P hb rfl ?_) | (with_reducible first | refine t_seq ?_ | refine t_skip ?_ | refine t_ret ?_ | refine t_end ?_ | refine t_cond ?_ | refine t_region ?_ | refine wr_done ?_ | refine WD.done _ ?_ | refine wdp_done ?_ | refine tr_some ?_ | refine t_block ?_ | refine t_loop ?_ | refine t_inLoop ?_ | refine t_inBlock ?_) | ((with_reducible refine t_isDraw ?_); refine t_draw rfl (by kernel_rfl) ?_) | ((with_reducible refine t_isExit ?_); refine t_exit rfl ?_) | simp only [decide_eq_true_eq, decide_eq_false_iff_not, Bool.not_eq_true', Bool.not_eq_false'] at * | simp (disch := omega) only [go_sem, Nat.reduceLT, Nat.reduceEqDiff, Nat.reduceAdd, Nat.reduceLeDiff, Nat.reduceMul, Int.reduceLT, Int.reduceLE, Int.reduceAdd, Int.reduceSub, Int.reduceNeg, Int.reduceToNat, Int.reduceBEq, Int.reduceEq, reduceCtorEq, ↓reduceIte, *] | (with_reducible first | refine tb_true ?_ | refine tb_false ?_) | ((with_reducible first | refine tb_split ?_ ?_ | refine wg_f ?_ ?_ | refine wg_t ?_ ?_ | refine wd_f ?_ ?_ | refine wd_t ?_ ?_) <;> intro _)
      exact ⟨by first | rfl | trivial, 3, rfl, by simp only; omega⟩
    · rw [if_neg k11] at hv; cases hv
set_option maxRecDepth 100000 in
set_option maxHeartbeats 4000000 in
theorem value_bin {y k va vb : Int} {a b : RExpr} (ha : evS y a = some va) (hb : evS y b = some vb) (ih : ValOk m y a) (jh : ValOk m y b) : ValOk m y (.bin k a b) := by
  intro v hv c id n hl hid
  refine grow_forget ?_
  have hva := evS_ok ha
  have hvb := evS_ok hb
  simp only [evS, ha, hb] at hv
  simp only [RExpr.cells]
  by_cases k4 : k = 4
  · subst k4
    simp only [Int.reduceEq, if_true, if_false, ↓reduceIte] at hv
    obtain ⟨rfl, h1, h2⟩ := numOk_eq hv
    obtain ⟨k1, k2⟩ := numOk_out h1 h2
    refine meetsH (E := (EW m)) 146 [.tmp 4] Tryz.func103 rfl (by decide) rfl rfl (by simp) ?_
    repeat' first | ((with_reducible refine wr_isCall ?_); first | refine wr_grow (ih va ha _ _ _ (by simp (disch := omega) only [go_sem]; exact hl) (by omega)) (fun n' hn' => ?_) | refine wr_grow (jh vb hb _ _ _ (by simp (disch := omega) only [go_sem]; exact hl) (by omega)) (fun n' hn' => ?_)) | (with_reducible first | refine t_seq ?_ | refine t_skip ?_ | refine t_ret ?_ | refine t_end ?_ | refine t_cond ?_ | refine t_region ?_ | refine wr_done ?_ | refine WD.done _ ?_ | refine wdp_done ?_ | refine tr_some ?_ | refine t_block ?_ | refine t_loop ?_ | refine t_inLoop ?_ | refine t_inBlock ?_) | ((with_reducible refine t_isDraw ?_); refine t_draw rfl (by kernel_rfl) ?_) | ((with_reducible refine t_isExit ?_); refine t_exit rfl ?_) | simp only [decide_eq_true_eq, decide_eq_false_iff_not, Bool.not_eq_true', Bool.not_eq_false'] at * | simp (disch := omega) only [go_sem, Nat.reduceLT, Nat.reduceEqDiff, Nat.reduceAdd, Nat.reduceLeDiff, Nat.reduceMul, Int.reduceLT, Int.reduceLE, Int.reduceAdd, Int.reduceSub, Int.reduceNeg, Int.reduceToNat, Int.reduceBEq, Int.reduceEq, reduceCtorEq, ↓reduceIte, *] | (with_reducible first | refine tb_true ?_ | refine tb_false ?_) | ((with_reducible first | refine tb_split ?_ ?_ | refine wg_f ?_ ?_ | refine wg_t ?_ ?_ | refine wd_f ?_ ?_ | refine wd_t ?_ ?_) <;> intro _)
    exact ⟨by first | rfl | trivial, 4, rfl, by simp only; omega⟩
  by_cases k5 : k = 5
  · subst k5
    simp only [Int.reduceEq, if_true, if_false, ↓reduceIte] at hv
    obtain ⟨rfl, h1, h2⟩ := numOk_eq hv
    obtain ⟨k1, k2⟩ := numOk_out h1 h2
    refine meetsH (E := (EW m)) 146 [.tmp 4] Tryz.func103 rfl (by decide) rfl rfl (by simp) ?_
    repeat' first | ((with_reducible refine wr_isCall ?_); first | refine wr_grow (ih va ha _ _ _ (by simp (disch := omega) only [go_sem]; exact hl) (by omega)) (fun n' hn' => ?_) | refine wr_grow (jh vb hb _ _ _ (by simp (disch := omega) only [go_sem]; exact hl) (by omega)) (fun n' hn' => ?_)) | (with_reducible first | refine t_seq ?_ | refine t_skip ?_ | refine t_ret ?_ | refine t_end ?_ | refine t_cond ?_ | refine t_region ?_ | refine wr_done ?_ | refine WD.done _ ?_ | refine wdp_done ?_ | refine tr_some ?_ | refine t_block ?_ | refine t_loop ?_ | refine t_inLoop ?_ | refine t_inBlock ?_) | ((with_reducible refine t_isDraw ?_); refine t_draw rfl (by kernel_rfl) ?_) | ((with_reducible refine t_isExit ?_); refine t_exit rfl ?_) | simp only [decide_eq_true_eq, decide_eq_false_iff_not, Bool.not_eq_true', Bool.not_eq_false'] at * | simp (disch := omega) only [go_sem, Nat.reduceLT, Nat.reduceEqDiff, Nat.reduceAdd, Nat.reduceLeDiff, Nat.reduceMul, Int.reduceLT, Int.reduceLE, Int.reduceAdd, Int.reduceSub, Int.reduceNeg, Int.reduceToNat, Int.reduceBEq, Int.reduceEq, reduceCtorEq, ↓reduceIte, *] | (with_reducible first | refine tb_true ?_ | refine tb_false ?_) | ((with_reducible first | refine tb_split ?_ ?_ | refine wg_f ?_ ?_ | refine wg_t ?_ ?_ | refine wd_f ?_ ?_ | refine wd_t ?_ ?_) <;> intro _)
    exact ⟨by first | rfl | trivial, 4, rfl, by simp only; omega⟩
  by_cases k6 : k = 6
  · subst k6
    simp only [Int.reduceEq, if_true, if_false, ↓reduceIte] at hv
    obtain ⟨rfl, h1, h2⟩ := numOk_eq hv
    obtain ⟨k1, k2⟩ := numOk_out h1 h2
    refine meetsH (E := (EW m)) 146 [.tmp 4] Tryz.func103 rfl (by decide) rfl rfl (by simp) ?_
    repeat' first | ((with_reducible refine wr_isCall ?_); first | refine wr_grow (ih va ha _ _ _ (by simp (disch := omega) only [go_sem]; exact hl) (by omega)) (fun n' hn' => ?_) | refine wr_grow (jh vb hb _ _ _ (by simp (disch := omega) only [go_sem]; exact hl) (by omega)) (fun n' hn' => ?_)) | (with_reducible first | refine t_seq ?_ | refine t_skip ?_ | refine t_ret ?_ | refine t_end ?_ | refine t_cond ?_ | refine t_region ?_ | refine wr_done ?_ | refine WD.done _ ?_ | refine wdp_done ?_ | refine tr_some ?_ | refine t_block ?_ | refine t_loop ?_ | refine t_inLoop ?_ | refine t_inBlock ?_) | ((with_reducible refine t_isDraw ?_); refine t_draw rfl (by kernel_rfl) ?_) | ((with_reducible refine t_isExit ?_); refine t_exit rfl ?_) | simp only [decide_eq_true_eq, decide_eq_false_iff_not, Bool.not_eq_true', Bool.not_eq_false'] at * | simp (disch := omega) only [go_sem, Nat.reduceLT, Nat.reduceEqDiff, Nat.reduceAdd, Nat.reduceLeDiff, Nat.reduceMul, Int.reduceLT, Int.reduceLE, Int.reduceAdd, Int.reduceSub, Int.reduceNeg, Int.reduceToNat, Int.reduceBEq, Int.reduceEq, reduceCtorEq, ↓reduceIte, *] | (with_reducible first | refine tb_true ?_ | refine tb_false ?_) | ((with_reducible first | refine tb_split ?_ ?_ | refine wg_f ?_ ?_ | refine wg_t ?_ ?_ | refine wd_f ?_ ?_ | refine wd_t ?_ ?_) <;> intro _)
    exact ⟨by first | rfl | trivial, 4, rfl, by simp only; omega⟩
  by_cases k7 : k = 7
  · subst k7
    simp only [Int.reduceEq, if_true, if_false, ↓reduceIte] at hv
    split at hv
    rotate_left
    · cases hv
    rename_i hpos
    obtain ⟨rfl, h1, h2⟩ := numOk_eq hv
    obtain ⟨k1, k2⟩ := numOk_out h1 h2
    have hD := divP (m := m) (a := va) (b := vb) (by omega) (by omega) hpos (by omega)
    refine meetsH (E := (EW m)) 146 [.tmp 4] Tryz.func103 rfl (by decide) rfl rfl (by simp) ?_
    repeat' first | ((with_reducible refine wr_isCall ?_); first | refine wr_grow (ih va ha _ _ _ (by simp (disch := omega) only [go_sem]; exact hl) (by omega)) (fun n' hn' => ?_) | refine wr_grow (jh vb hb _ _ _ (by simp (disch := omega) only [go_sem]; exact hl) (by omega)) (fun n' hn' => ?_) | refine wr_P hD rfl ?_) | (with_reducible first | refine t_seq ?_ | refine t_skip ?_ | refine t_ret ?_ | refine t_end ?_ | refine t_cond ?_ | refine t_region ?_ | refine wr_done ?_ | refine WD.done _ ?_ | refine wdp_done ?_ | refine tr_some ?_ | refine t_block ?_ | refine t_loop ?_ | refine t_inLoop ?_ | refine t_inBlock ?_) | ((with_reducible refine t_isDraw ?_); refine t_draw rfl (by kernel_rfl) ?_) | ((with_reducible refine t_isExit ?_); refine t_exit rfl ?_) | simp only [decide_eq_true_eq, decide_eq_false_iff_not, Bool.not_eq_true', Bool.not_eq_false'] at * | simp (disch := omega) only [go_sem, Nat.reduceLT, Nat.reduceEqDiff, Nat.reduceAdd, Nat.reduceLeDiff, Nat.reduceMul, Int.reduceLT, Int.reduceLE, Int.reduceAdd, Int.reduceSub, Int.reduceNeg, Int.reduceToNat, Int.reduceBEq, Int.reduceEq, reduceCtorEq, ↓reduceIte, *] | (with_reducible first | refine tb_true ?_ | refine tb_false ?_) | ((with_reducible first | refine tb_split ?_ ?_ | refine wg_f ?_ ?_ | refine wg_t ?_ ?_ | refine wd_f ?_ ?_ | refine wd_t ?_ ?_) <;> intro _)
    exact ⟨by first | rfl | trivial, 4, rfl, by simp only; omega⟩
  by_cases k8 : k = 8
  · subst k8
    simp only [Int.reduceEq, if_true, if_false, ↓reduceIte] at hv
    split at hv
    rotate_left
    · cases hv
    rename_i hpos
    obtain ⟨rfl, h1, h2⟩ := numOk_eq hv
    obtain ⟨k1, k2⟩ := numOk_out h1 h2
    have hD := divP (m := m) (a := va) (b := vb) (by omega) (by omega) hpos (by omega)
    refine meetsH (E := (EW m)) 146 [.tmp 4] Tryz.func103 rfl (by decide) rfl rfl (by simp) ?_
    repeat' first | ((with_reducible refine wr_isCall ?_); first | refine wr_grow (ih va ha _ _ _ (by simp (disch := omega) only [go_sem]; exact hl) (by omega)) (fun n' hn' => ?_) | refine wr_grow (jh vb hb _ _ _ (by simp (disch := omega) only [go_sem]; exact hl) (by omega)) (fun n' hn' => ?_) | refine wr_P hD rfl ?_) | (with_reducible first | refine t_seq ?_ | refine t_skip ?_ | refine t_ret ?_ | refine t_end ?_ | refine t_cond ?_ | refine t_region ?_ | refine wr_done ?_ | refine WD.done _ ?_ | refine wdp_done ?_ | refine tr_some ?_ | refine t_block ?_ | refine t_loop ?_ | refine t_inLoop ?_ | refine t_inBlock ?_) | ((with_reducible refine t_isDraw ?_); refine t_draw rfl (by kernel_rfl) ?_) | ((with_reducible refine t_isExit ?_); refine t_exit rfl ?_) | simp only [decide_eq_true_eq, decide_eq_false_iff_not, Bool.not_eq_true', Bool.not_eq_false'] at * | simp (disch := omega) only [go_sem, Nat.reduceLT, Nat.reduceEqDiff, Nat.reduceAdd, Nat.reduceLeDiff, Nat.reduceMul, Int.reduceLT, Int.reduceLE, Int.reduceAdd, Int.reduceSub, Int.reduceNeg, Int.reduceToNat, Int.reduceBEq, Int.reduceEq, reduceCtorEq, ↓reduceIte, *] | (with_reducible first | refine tb_true ?_ | refine tb_false ?_) | ((with_reducible first | refine tb_split ?_ ?_ | refine wg_f ?_ ?_ | refine wg_t ?_ ?_ | refine wd_f ?_ ?_ | refine wd_t ?_ ?_) <;> intro _)
    exact ⟨by first | rfl | trivial, 4, rfl, by simp only; omega⟩
  by_cases k9 : k = 9
  · subst k9
    simp only [Int.reduceEq, if_true, if_false, ↓reduceIte] at hv
    cases hv
    obtain ⟨k1, k2, k4, k5⟩ := boolI_ok (decide (va < vb))
    have hB := booleanP (m := m) (decide (va < vb))
    refine meetsH (E := (EW m)) 146 [.tmp 4] Tryz.func103 rfl (by decide) rfl rfl (by simp) ?_
    repeat' first | ((with_reducible refine wr_isCall ?_); first | refine wr_grow (ih va ha _ _ _ (by simp (disch := omega) only [go_sem]; exact hl) (by omega)) (fun n' hn' => ?_) | refine wr_grow (jh vb hb _ _ _ (by simp (disch := omega) only [go_sem]; exact hl) (by omega)) (fun n' hn' => ?_) | refine wr_P hB rfl ?_) | (with_reducible first | refine t_seq ?_ | refine t_skip ?_ | refine t_ret ?_ | refine t_end ?_ | refine t_cond ?_ | refine t_region ?_ | refine wr_done ?_ | refine WD.done _ ?_ | refine wdp_done ?_ | refine tr_some ?_ | refine t_block ?_ | refine t_loop ?_ | refine t_inLoop ?_ | refine t_inBlock ?_) | ((with_reducible refine t_isDraw ?_); refine t_draw rfl (by kernel_rfl) ?_) | ((with_reducible refine t_isExit ?_); refine t_exit rfl ?_) | simp only [decide_eq_true_eq, decide_eq_false_iff_not, Bool.not_eq_true', Bool.not_eq_false'] at * | simp (disch := omega) only [go_sem, Nat.reduceLT, Nat.reduceEqDiff, Nat.reduceAdd, Nat.reduceLeDiff, Nat.reduceMul, Int.reduceLT, Int.reduceLE, Int.reduceAdd, Int.reduceSub, Int.reduceNeg, Int.reduceToNat, Int.reduceBEq, Int.reduceEq, reduceCtorEq, ↓reduceIte, *] | (with_reducible first | refine tb_true ?_ | refine tb_false ?_) | ((with_reducible first | refine tb_split ?_ ?_ | refine wg_f ?_ ?_ | refine wg_t ?_ ?_ | refine wd_f ?_ ?_ | refine wd_t ?_ ?_) <;> intro _)
    exact ⟨by first | rfl | trivial, 4, rfl, by simp only; omega⟩
  by_cases k10 : k = 10
  · subst k10
    simp only [Int.reduceEq, if_true, if_false, ↓reduceIte] at hv
    cases hv
    obtain ⟨k1, k2, k4, k5⟩ := boolI_ok (decide (va = vb))
    have hB := booleanP (m := m) (decide (va = vb))
    refine meetsH (E := (EW m)) 146 [.tmp 4] Tryz.func103 rfl (by decide) rfl rfl (by simp) ?_
    repeat' first | ((with_reducible refine wr_isCall ?_); first | refine wr_grow (ih va ha _ _ _ (by simp (disch := omega) only [go_sem]; exact hl) (by omega)) (fun n' hn' => ?_) | refine wr_grow (jh vb hb _ _ _ (by simp (disch := omega) only [go_sem]; exact hl) (by omega)) (fun n' hn' => ?_) | refine wr_P hB rfl ?_) | (with_reducible first | refine t_seq ?_ | refine t_skip ?_ | refine t_ret ?_ | refine t_end ?_ | refine t_cond ?_ | refine t_region ?_ | refine wr_done ?_ | refine WD.done _ ?_ | refine wdp_done ?_ | refine tr_some ?_ | refine t_block ?_ | refine t_loop ?_ | refine t_inLoop ?_ | refine t_inBlock ?_) | ((with_reducible refine t_isDraw ?_); refine t_draw rfl (by kernel_rfl) ?_) | ((with_reducible refine t_isExit ?_); refine t_exit rfl ?_) | simp only [decide_eq_true_eq, decide_eq_false_iff_not, Bool.not_eq_true', Bool.not_eq_false'] at * | simp (disch := omega) only [go_sem, Nat.reduceLT, Nat.reduceEqDiff, Nat.reduceAdd, Nat.reduceLeDiff, Nat.reduceMul, Int.reduceLT, Int.reduceLE, Int.reduceAdd, Int.reduceSub, Int.reduceNeg, Int.reduceToNat, Int.reduceBEq, Int.reduceEq, reduceCtorEq, ↓reduceIte, *] | (with_reducible first | refine tb_true ?_ | refine tb_false ?_) | ((with_reducible first | refine tb_split ?_ ?_ | refine wg_f ?_ ?_ | refine wg_t ?_ ?_ | refine wd_f ?_ ?_ | refine wd_t ?_ ?_) <;> intro _)
    exact ⟨by first | rfl | trivial, 4, rfl, by simp only; omega⟩
  by_cases k12 : k = 12
  · subst k12
    simp only [Int.reduceEq, if_true, if_false, ↓reduceIte] at hv
    cases hv
    by_cases z : va = 0
    · have hB := booleanP (m := m) (false)
      obtain ⟨k1, k2, k4, k5⟩ := boolI_ok (false)
      refine meetsH (E := (EW m)) 146 [.tmp 4] Tryz.func103 rfl (by decide) rfl rfl (by simp) ?_
      repeat' first | ((with_reducible refine wr_isCall ?_); first | refine wr_grow (ih va ha _ _ _ (by simp (disch := omega) only [go_sem]; exact hl) (by omega)) (fun n' hn' => ?_) | refine wr_grow (jh vb hb _ _ _ (by simp (disch := omega) only [go_sem]; exact hl) (by omega)) (fun n' hn' => ?_) | refine wr_P hB rfl ?_) | (with_reducible first | refine t_seq ?_ | refine t_skip ?_ | refine t_ret ?_ | refine t_end ?_ | refine t_cond ?_ | refine t_region ?_ | refine wr_done ?_ | refine WD.done _ ?_ | refine wdp_done ?_ | refine tr_some ?_ | refine t_block ?_ | refine t_loop ?_ | refine t_inLoop ?_ | refine t_inBlock ?_) | ((with_reducible refine t_isDraw ?_); refine t_draw rfl (by kernel_rfl) ?_) | ((with_reducible refine t_isExit ?_); refine t_exit rfl ?_) | simp only [decide_eq_true_eq, decide_eq_false_iff_not, Bool.not_eq_true', Bool.not_eq_false'] at * | simp (disch := omega) only [go_sem, Nat.reduceLT, Nat.reduceEqDiff, Nat.reduceAdd, Nat.reduceLeDiff, Nat.reduceMul, Int.reduceLT, Int.reduceLE, Int.reduceAdd, Int.reduceSub, Int.reduceNeg, Int.reduceToNat, Int.reduceBEq, Int.reduceEq, reduceCtorEq, ↓reduceIte, *] | (with_reducible first | refine tb_true ?_ | refine tb_false ?_) | ((with_reducible first | refine tb_split ?_ ?_ | refine wg_f ?_ ?_ | refine wg_t ?_ ?_ | refine wd_f ?_ ?_ | refine wd_t ?_ ?_) <;> intro _)
      exact ⟨by simp [z, boolI], 4, rfl, by simp only; omega⟩
    · have hB := booleanP (m := m) (!decide (vb = 0))
      obtain ⟨k1, k2, k4, k5⟩ := boolI_ok (!decide (vb = 0))
      refine meetsH (E := (EW m)) 146 [.tmp 4] Tryz.func103 rfl (by decide) rfl rfl (by simp) ?_
      repeat' first | ((with_reducible refine wr_isCall ?_); first | refine wr_grow (ih va ha _ _ _ (by simp (disch := omega) only [go_sem]; exact hl) (by omega)) (fun n' hn' => ?_) | refine wr_grow (jh vb hb _ _ _ (by simp (disch := omega) only [go_sem]; exact hl) (by omega)) (fun n' hn' => ?_) | refine wr_P hB rfl ?_) | (with_reducible first | refine t_seq ?_ | refine t_skip ?_ | refine t_ret ?_ | refine t_end ?_ | refine t_cond ?_ | refine t_region ?_ | refine wr_done ?_ | refine WD.done _ ?_ | refine wdp_done ?_ | refine tr_some ?_ | refine t_block ?_ | refine t_loop ?_ | refine t_inLoop ?_ | refine t_inBlock ?_) | ((with_reducible refine t_isDraw ?_); refine t_draw rfl (by kernel_rfl) ?_) | ((with_reducible refine t_isExit ?_); refine t_exit rfl ?_) | simp only [decide_eq_true_eq, decide_eq_false_iff_not, Bool.not_eq_true', Bool.not_eq_false'] at * | simp (disch := omega) only [go_sem, Nat.reduceLT, Nat.reduceEqDiff, Nat.reduceAdd, Nat.reduceLeDiff, Nat.reduceMul, Int.reduceLT, Int.reduceLE, Int.reduceAdd, Int.reduceSub, Int.reduceNeg, Int.reduceToNat, Int.reduceBEq, Int.reduceEq, reduceCtorEq, ↓reduceIte, *] | (with_reducible first | refine tb_true ?_ | refine tb_false ?_) | ((with_reducible first | refine tb_split ?_ ?_ | refine wg_f ?_ ?_ | refine wg_t ?_ ?_ | refine wd_f ?_ ?_ | refine wd_t ?_ ?_) <;> intro _)
      exact ⟨by simp [z, boolI], 4, rfl, by simp only; omega⟩
  by_cases k13 : k = 13
  · subst k13
    simp only [Int.reduceEq, if_true, if_false, ↓reduceIte] at hv
    cases hv
    by_cases z : va = 0
    · have hB := booleanP (m := m) (!decide (vb = 0))
      obtain ⟨k1, k2, k4, k5⟩ := boolI_ok (!decide (vb = 0))
      refine meetsH (E := (EW m)) 146 [.tmp 4] Tryz.func103 rfl (by decide) rfl rfl (by simp) ?_
      repeat' first | ((with_reducible refine wr_isCall ?_); first | refine wr_grow (ih va ha _ _ _ (by simp (disch := omega) only [go_sem]; exact hl) (by omega)) (fun n' hn' => ?_) | refine wr_grow (jh vb hb _ _ _ (by simp (disch := omega) only [go_sem]; exact hl) (by omega)) (fun n' hn' => ?_) | refine wr_P hB rfl ?_) | (with_reducible first | refine t_seq ?_ | refine t_skip ?_ | refine t_ret ?_ | refine t_end ?_ | refine t_cond ?_ | refine t_region ?_ | refine wr_done ?_ | refine WD.done _ ?_ | refine wdp_done ?_ | refine tr_some ?_ | refine t_block ?_ | refine t_loop ?_ | refine t_inLoop ?_ | refine t_inBlock ?_) | ((with_reducible refine t_isDraw ?_); refine t_draw rfl (by kernel_rfl) ?_) | ((with_reducible refine t_isExit ?_); refine t_exit rfl ?_) | simp only [decide_eq_true_eq, decide_eq_false_iff_not, Bool.not_eq_true', Bool.not_eq_false'] at * | simp (disch := omega) only [go_sem, Nat.reduceLT, Nat.reduceEqDiff, Nat.reduceAdd, Nat.reduceLeDiff, Nat.reduceMul, Int.reduceLT, Int.reduceLE, Int.reduceAdd, Int.reduceSub, Int.reduceNeg, Int.reduceToNat, Int.reduceBEq, Int.reduceEq, reduceCtorEq, ↓reduceIte, *] | (with_reducible first | refine tb_true ?_ | refine tb_false ?_) | ((with_reducible first | refine tb_split ?_ ?_ | refine wg_f ?_ ?_ | refine wg_t ?_ ?_ | refine wd_f ?_ ?_ | refine wd_t ?_ ?_) <;> intro _)
      exact ⟨by simp [z, boolI], 4, rfl, by simp only; omega⟩
    · have hB := booleanP (m := m) (true)
      obtain ⟨k1, k2, k4, k5⟩ := boolI_ok (true)
      refine meetsH (E := (EW m)) 146 [.tmp 4] Tryz.func103 rfl (by decide) rfl rfl (by simp) ?_
      repeat' first | ((with_reducible refine wr_isCall ?_); first | refine wr_grow (ih va ha _ _ _ (by simp (disch := omega) only [go_sem]; exact hl) (by omega)) (fun n' hn' => ?_) | refine wr_grow (jh vb hb _ _ _ (by simp (disch := omega) only [go_sem]; exact hl) (by omega)) (fun n' hn' => ?_) | refine wr_P hB rfl ?_) | (with_reducible first | refine t_seq ?_ | refine t_skip ?_ | refine t_ret ?_ | refine t_end ?_ | refine t_cond ?_ | refine t_region ?_ | refine wr_done ?_ | refine WD.done _ ?_ | refine wdp_done ?_ | refine tr_some ?_ | refine t_block ?_ | refine t_loop ?_ | refine t_inLoop ?_ | refine t_inBlock ?_) | ((with_reducible refine t_isDraw ?_); refine t_draw rfl (by kernel_rfl) ?_) | ((with_reducible refine t_isExit ?_); refine t_exit rfl ?_) | simp only [decide_eq_true_eq, decide_eq_false_iff_not, Bool.not_eq_true', Bool.not_eq_false'] at * | simp (disch := omega) only [go_sem, Nat.reduceLT, Nat.reduceEqDiff, Nat.reduceAdd, Nat.reduceLeDiff, Nat.reduceMul, Int.reduceLT, Int.reduceLE, Int.reduceAdd, Int.reduceSub, Int.reduceNeg, Int.reduceToNat, Int.reduceBEq, Int.reduceEq, reduceCtorEq, ↓reduceIte, *] | (with_reducible first | refine tb_true ?_ | refine tb_false ?_) | ((with_reducible first | refine tb_split ?_ ?_ | refine wg_f ?_ ?_ | refine wg_t ?_ ?_ | refine wd_f ?_ ?_ | refine wd_t ?_ ?_) <;> intro _)
      exact ⟨by simp [z, boolI], 4, rfl, by simp only; omega⟩
  rw [if_neg k4, if_neg k5, if_neg k6, if_neg k7, if_neg k8, if_neg k9, if_neg k10, if_neg k12, if_neg k13] at hv
  cases hv
theorem value_ok (m y : Int) : ∀ t : RExpr, ValOk m y t
  | .num n => value_leaf (.inl ⟨n, rfl⟩)
  | .year => value_leaf (.inr rfl)
  | .un k a => by
    intro v hv
    cases ha : evS y a with
    | none => simp only [evS, ha] at hv; cases hv
    | some va => exact value_un ha (value_ok m y a) v hv
  | .bin k a b => by
    intro v hv
    cases ha : evS y a with
    | none => simp only [evS, ha] at hv; cases hv
    | some va =>
      cases hb : evS y b with
      | none => simp only [evS, ha, hb] at hv; cases hv
      | some vb => exact value_bin ha hb (value_ok m y a) (value_ok m y b) v hv
end Go.Proofs.YthahgmncnbeddaaGreatDoorA
