/- rule.walk, rule.Eval. -/
import Derived.Test.YthahgmncnbeddaaGreatDoorPW10
set_option linter.unusedVariables false
set_option linter.unusedSimpArgs false
namespace Go.Proofs.YthahgmncnbeddaaGreatDoorA
open Go Go.RowKit Go.Proofs.YthahgmncnbeddaaGreatDoorFx Go.Proofs
attribute [local go_sem] List.take_succ_cons List.take_zero List.take_nil List.drop_succ_cons List.drop_nil List.cons_append List.nil_append List.set_cons_zero List.set_cons_succ
variable {m : Int}
def RExpr.size : RExpr → Nat
  | .num _ => 1
  | .year => 1
  | .un _ a => a.size + 1
  | .bin _ a b => a.size + b.size + 1
def RExpr.depth : RExpr → Nat
  | .num _ => 1
  | .year => 1
  | .un _ a => a.depth + 1
  | .bin _ a b => max a.depth b.depth + 1
def RExpr.wf : RExpr → Bool
  | .num n => decide (0 ≤ n) && decide (n ≤ 2147483647)
  | .year => true
  | .un k a => (decide (k = 3) || decide (k = 11)) && a.wf
  | .bin k a b => ((decide (4 ≤ k) && decide (k ≤ 10)) || decide (k = 12) || decide (k = 13)) && a.wf && b.wf
@[go_sem] theorem gl_kids : glT m 5 = some kidT := rfl
attribute [go_sem] upd_upd Nat.mul_one
@[go_sem] theorem kid1 : kidT[1]? = some (.i .i64 0) := rfl
@[go_sem] theorem kid2 : kidT[2]? = some (.i .i64 0) := rfl
theorem kid_un {k : Int} (h : k = 3 ∨ k = 11) : kidT[k.toNat]? = some (.i .i64 1) := by rcases h with rfl | rfl <;> rfl
theorem kid_bin {k : Int} (h : (4 ≤ k ∧ k ≤ 10) ∨ k = 12 ∨ k = 13) : kidT[k.toNat]? = some (.i .i64 2) := by
  rcases h with ⟨h1, h2⟩ | rfl | rfl
  · have : k = 4 ∨ k = 5 ∨ k = 6 ∨ k = 7 ∨ k = 8 ∨ k = 9 ∨ k = 10 := by omega
    rcases this with rfl | rfl | rfl | rfl | rfl | rfl | rfl <;> rfl
  · rfl
  · rfl
def WalkOk (m : Int) (t : RExpr) : Prop := t.wf = true → ∀ (c : List (Nat × Ent)) (id n : Nat) (d q : Int), look c id = some (.rows 1 [[.i .i64 q]]) → id < n → 1 ≤ d → d + t.depth ≤ 13 → 0 ≤ q → q + t.size ≤ 60 →
  MeetsH (EW m) 102 [.agg t.cells, .i .i64 d, .ptr id 0 0] ⟨c, n⟩ (RetG (.i .i64 0) (upd c id (.rows 1 [[.i .i64 (q + t.size)]])) n)
theorem RExpr.pos : ∀ t : RExpr, 1 ≤ t.size ∧ 1 ≤ t.depth
  | .num _ => by simp [size, depth]
  | .year => by simp [size, depth]
  | .un _ a => by simp [size, depth]
  | .bin _ a b => by simp [size, depth]
set_option maxRecDepth 100000 in
set_option maxHeartbeats 1000000 in
theorem walk_leaf {t : RExpr} (ht : (∃ n, t = .num n) ∨ t = .year) : WalkOk m t := by
  intro hw c id n d q hl hid hd1 hd2 hq1 hq2
  refine grow_forget ?_
  have hu : ∀ k l, look (upd c id (.rows k l)) id = some (.rows k l) := fun k l => look_updR k l hl
  rcases ht with ⟨k, rfl⟩ | rfl
  all_goals (simp only [RExpr.cells, RExpr.wf, RExpr.size, RExpr.depth, Bool.and_eq_true, decide_eq_true_eq] at *)
  · have k1 : ¬ k < 0 := by omega
    have k2 : ¬ 2147483647 < k := by omega
    have k3 : ¬ 60 < q + 1 := by omega
    have k4 : ¬ 12 < d := by omega
    refine meetsH (E := (EW m)) 80 [.tmp 6] Tryz.func102 rfl (by decide) rfl rfl (by simp) ?_
    repeat' first | (with_reducible first | refine t_seq ?_ | refine t_skip ?_ | refine t_ret ?_ | refine t_end ?_ | refine t_cond ?_ | refine t_region ?_ | refine wr_done ?_ | refine WD.done _ ?_ | refine wdp_done ?_ | refine tr_some ?_ | refine t_block ?_ | refine t_loop ?_ | refine t_inLoop ?_ | refine t_inBlock ?_) | ((with_reducible refine t_isDraw ?_); refine t_draw rfl (by kernel_rfl) ?_) | ((with_reducible refine t_isExit ?_); refine t_exit rfl ?_) | simp only [decide_eq_true_eq, decide_eq_false_iff_not, Bool.not_eq_true', Bool.not_eq_false'] at * | simp (disch := omega) only [go_sem, Nat.reduceLT, Nat.reduceEqDiff, Nat.reduceAdd, Nat.reduceLeDiff, Nat.reduceMul, Int.reduceLT, Int.reduceLE, Int.reduceAdd, Int.reduceSub, Int.reduceNeg, Int.reduceToNat, Int.reduceBEq, Int.reduceEq, reduceCtorEq, ↓reduceIte, *] | (with_reducible first | refine tb_true ?_ | refine tb_false ?_) | ((with_reducible first | refine tb_split ?_ ?_ | refine wg_f ?_ ?_ | refine wg_t ?_ ?_ | refine wd_f ?_ ?_ | refine wd_t ?_ ?_) <;> intro _)
    exact ⟨by first | rfl | trivial, 1, rfl, by simp only; omega⟩
  · have k3 : ¬ 60 < q + 1 := by omega
    have k4 : ¬ 12 < d := by omega
    refine meetsH (E := (EW m)) 80 [.tmp 6] Tryz.func102 rfl (by decide) rfl rfl (by simp) ?_
    repeat' first | (with_reducible first | refine t_seq ?_ | refine t_skip ?_ | refine t_ret ?_ | refine t_end ?_ | refine t_cond ?_ | refine t_region ?_ | refine wr_done ?_ | refine WD.done _ ?_ | refine wdp_done ?_ | refine tr_some ?_ | refine t_block ?_ | refine t_loop ?_ | refine t_inLoop ?_ | refine t_inBlock ?_) | ((with_reducible refine t_isDraw ?_); refine t_draw rfl (by kernel_rfl) ?_) | ((with_reducible refine t_isExit ?_); refine t_exit rfl ?_) | simp only [decide_eq_true_eq, decide_eq_false_iff_not, Bool.not_eq_true', Bool.not_eq_false'] at * | simp (disch := omega) only [go_sem, Nat.reduceLT, Nat.reduceEqDiff, Nat.reduceAdd, Nat.reduceLeDiff, Nat.reduceMul, Int.reduceLT, Int.reduceLE, Int.reduceAdd, Int.reduceSub, Int.reduceNeg, Int.reduceToNat, Int.reduceBEq, Int.reduceEq, reduceCtorEq, ↓reduceIte, *] | (with_reducible first | refine tb_true ?_ | refine tb_false ?_) | ((with_reducible first | refine tb_split ?_ ?_ | refine wg_f ?_ ?_ | refine wg_t ?_ ?_ | refine wd_f ?_ ?_ | refine wd_t ?_ ?_) <;> intro _)
    exact ⟨by first | rfl | trivial, 1, rfl, by simp only; omega⟩
set_option maxRecDepth 100000 in
set_option maxHeartbeats 1000000 in
theorem walk_un {k : Int} {a : RExpr} (ih : WalkOk m a) : WalkOk m (.un k a) := by
  intro hw c id n d q hl hid hd1 hd2 hq1 hq2
  refine grow_forget ?_
  have hu : ∀ k l, look (upd c id (.rows k l)) id = some (.rows k l) := fun k l => look_updR k l hl
  simp only [RExpr.cells, RExpr.wf, RExpr.size, RExpr.depth, Bool.and_eq_true, Bool.or_eq_true, decide_eq_true_eq] at *
  obtain ⟨hk, hwa⟩ := hw
  have hkid := kid_un hk
  have hap := a.pos
  have k1 : ¬ k < 1 := by omega
  have k2 : ¬ 13 < k := by omega
  have k5 : ¬ k = 1 := by omega
  have k6 : 0 ≤ k := by omega
  have k7 : k < 14 := by omega
  have k3 : ¬ 60 < q + 1 := by omega
  have k4 : ¬ 12 < d := by omega
  have ih' := ih hwa
  refine meetsH (E := (EW m)) 80 [.tmp 6] Tryz.func102 rfl (by decide) rfl rfl (by simp) ?_
  repeat' first | ((with_reducible refine wr_isCall ?_); refine wr_grow (ih' _ _ _ (d + 1) (q + 1) (by simp (disch := omega) only [go_sem, *]) (by omega) (by omega) (by omega) (by omega) (by omega)) (fun n' hn' => ?_)) | (with_reducible first | refine t_seq ?_ | refine t_skip ?_ | refine t_ret ?_ | refine t_end ?_ | refine t_cond ?_ | refine t_region ?_ | refine wr_done ?_ | refine WD.done _ ?_ | refine wdp_done ?_ | refine tr_some ?_ | refine t_block ?_ | refine t_loop ?_ | refine t_inLoop ?_ | refine t_inBlock ?_) | ((with_reducible refine t_isDraw ?_); refine t_draw rfl (by kernel_rfl) ?_) | ((with_reducible refine t_isExit ?_); refine t_exit rfl ?_) | simp only [decide_eq_true_eq, decide_eq_false_iff_not, Bool.not_eq_true', Bool.not_eq_false'] at * | simp (disch := omega) only [go_sem, Nat.reduceLT, Nat.reduceEqDiff, Nat.reduceAdd, Nat.reduceLeDiff, Nat.reduceMul, Int.reduceLT, Int.reduceLE, Int.reduceAdd, Int.reduceSub, Int.reduceNeg, Int.reduceToNat, Int.reduceBEq, Int.reduceEq, reduceCtorEq, ↓reduceIte, *] | (with_reducible first | refine tb_true ?_ | refine tb_false ?_) | ((with_reducible first | refine tb_split ?_ ?_ | refine wg_f ?_ ?_ | refine wg_t ?_ ?_ | refine wd_f ?_ ?_ | refine wd_t ?_ ?_) <;> intro _)
  exact ⟨by first | rfl | trivial, 2, by simp only [List.drop_succ_cons, List.drop_zero]; rw [show q + 1 + (a.size : Int) = q + ((a.size + 1 : Nat) : Int) by omega], by simp only; omega⟩
set_option maxRecDepth 100000 in
set_option maxHeartbeats 1000000 in
theorem walk_bin {k : Int} {a b : RExpr} (ih : WalkOk m a) (jh : WalkOk m b) : WalkOk m (.bin k a b) := by
  intro hw c id n d q hl hid hd1 hd2 hq1 hq2
  refine grow_forget ?_
  have hu : ∀ k l, look (upd c id (.rows k l)) id = some (.rows k l) := fun k l => look_updR k l hl
  simp only [RExpr.cells, RExpr.wf, RExpr.size, RExpr.depth, Bool.and_eq_true, Bool.or_eq_true, decide_eq_true_eq] at *
  obtain ⟨⟨hk, hwa⟩, hwb⟩ := hw
  have hk' : (4 ≤ k ∧ k ≤ 10) ∨ k = 12 ∨ k = 13 := by omega
  have hkid := kid_bin hk'
  have hap := a.pos
  have hbp := b.pos
  have k1 : ¬ k < 1 := by omega
  have k2 : ¬ 13 < k := by omega
  have k5 : ¬ k = 1 := by omega
  have k6 : 0 ≤ k := by omega
  have k7 : k < 14 := by omega
  have k3 : ¬ 60 < q + 1 := by omega
  have k4 : ¬ 12 < d := by omega
  have ih' := ih hwa
  have jh' := jh hwb
  clear hk hk'
  refine meetsH (E := (EW m)) 80 [.tmp 6] Tryz.func102 rfl (by decide) rfl rfl (by simp) ?_
  repeat' first | ((with_reducible refine wr_isCall ?_); first | refine wr_grow (ih' _ _ _ (d + 1) (q + 1) (by simp (disch := omega) only [go_sem, *]) (by omega) (by omega) (by omega) (by omega) (by omega)) (fun n' hn' => ?_) | refine wr_grow (jh' _ _ _ (d + 1) (q + 1 + a.size) (by simp (disch := omega) only [go_sem, *]) (by omega) (by omega) (by omega) (by omega) (by omega)) (fun n' hn' => ?_)) | (with_reducible first | refine t_seq ?_ | refine t_skip ?_ | refine t_ret ?_ | refine t_end ?_ | refine t_cond ?_ | refine t_region ?_ | refine wr_done ?_ | refine WD.done _ ?_ | refine wdp_done ?_ | refine tr_some ?_ | refine t_block ?_ | refine t_loop ?_ | refine t_inLoop ?_ | refine t_inBlock ?_) | ((with_reducible refine t_isDraw ?_); refine t_draw rfl (by kernel_rfl) ?_) | ((with_reducible refine t_isExit ?_); refine t_exit rfl ?_) | simp only [decide_eq_true_eq, decide_eq_false_iff_not, Bool.not_eq_true', Bool.not_eq_false'] at * | simp (disch := omega) only [go_sem, Nat.reduceLT, Nat.reduceEqDiff, Nat.reduceAdd, Nat.reduceLeDiff, Nat.reduceMul, Int.reduceLT, Int.reduceLE, Int.reduceAdd, Int.reduceSub, Int.reduceNeg, Int.reduceToNat, Int.reduceBEq, Int.reduceEq, reduceCtorEq, ↓reduceIte, *] | (with_reducible first | refine tb_true ?_ | refine tb_false ?_) | ((with_reducible first | refine tb_split ?_ ?_ | refine wg_f ?_ ?_ | refine wg_t ?_ ?_ | refine wd_f ?_ ?_ | refine wd_t ?_ ?_) <;> intro _)
  exact ⟨by first | rfl | trivial, 3, by simp only [List.drop_succ_cons, List.drop_zero]; rw [show q + 1 + (a.size : Int) + (b.size : Int) = q + ((a.size + b.size + 1 : Nat) : Int) by omega], by simp only; omega⟩
theorem walk_ok (m : Int) : ∀ t : RExpr, WalkOk m t
  | .num n => walk_leaf (.inl ⟨n, rfl⟩)
  | .year => walk_leaf (.inr rfl)
  | .un k a => walk_un (walk_ok m a)
  | .bin k a b => walk_bin (walk_ok m a) (walk_ok m b)
set_option maxRecDepth 100000 in
theorem evalP {t : RExpr} (hw : t.wf = true) (hs : t.size ≤ 60) (hd : t.depth ≤ 12) {y v : Int} (hy1 : -10000 ≤ y) (hy2 : y ≤ 10000) (hv : evS y t = some v) : MeetsP Tryz.prog (glT m) 79 [.agg t.cells, .i .i64 y] (.tup [.i .i64 v, .i .i64 0]) := by
  have wk := walk_ok m t hw
  have vk := value_ok m y t v hv
  have k1 : ¬ y < -10000 := by omega
  have k2 : ¬ 10000 < y := by omega
  refine meetsP (E := (EW m)) 28 [.tmp 4, .tmp 5] (ew m) Tryz.func79 rfl (by decide) rfl rfl (by simp) ?_
  repeat' first | ((with_reducible refine wr_isCall ?_); first | refine wr_grow (wk _ _ _ 1 0 (by simp (disch := omega) only [go_sem, ↓reduceIte]) (by omega) (by omega) (by omega) (by omega) (by omega)) (fun n' hn' => ?_) | refine wr_grow (vk _ _ _ (by simp (disch := omega) only [go_sem, ↓reduceIte]) (by omega)) (fun n' hn' => ?_)) | (with_reducible first | refine t_seq ?_ | refine t_skip ?_ | refine t_ret ?_ | refine t_end ?_ | refine t_cond ?_ | refine t_region ?_ | refine wr_done ?_ | refine WD.done _ ?_ | refine wdp_done ?_ | refine tr_some ?_ | refine t_inBlock ?_) | ((with_reducible refine t_isDraw ?_); refine t_draw rfl (by kernel_rfl) ?_) | ((fail_if_success with_reducible refine t_bl ?_); (with_reducible refine t_block ?_)) | ((with_reducible refine t_isExit ?_); refine t_exit rfl ?_) | simp only [decide_eq_true_eq, decide_eq_false_iff_not, Bool.not_eq_true', Bool.not_eq_false'] at * | simp (disch := omega) only [go_sem, Nat.reduceLT, Nat.reduceEqDiff, Nat.reduceAdd, Nat.reduceLeDiff, Nat.reduceMul, Int.reduceLT, Int.reduceLE, Int.reduceAdd, Int.reduceSub, Int.reduceNeg, Int.reduceToNat, Int.reduceBEq, Int.reduceEq, reduceCtorEq, ↓reduceIte, *] | (with_reducible first | refine tb_true ?_ | refine tb_false ?_) | ((with_reducible first | refine tb_split ?_ ?_ | refine wg_f ?_ ?_ | refine wg_t ?_ ?_ | refine wd_f ?_ ?_ | refine wd_t ?_ ?_) <;> intro _)
  exact ⟨rfl, rfl⟩
end Go.Proofs.YthahgmncnbeddaaGreatDoorA
