/- feast.Check: kinds with kids (9, 10, 11). -/
import Derived.Test.YthahgmncnbeddaaGreatDoorPS17
set_option linter.unusedVariables false
set_option linter.unusedSimpArgs false
namespace Go.Proofs.YthahgmncnbeddaaGreatDoorA
open Go Go.RowKit Go.Proofs.YthahgmncnbeddaaGreatDoorFx Go.Proofs
attribute [local go_sem] List.take_succ_cons List.take_zero List.take_nil List.drop_succ_cons List.drop_nil List.cons_append List.nil_append List.set_cons_zero List.set_cons_succ
variable {m : Int} {a b xk xa xb yk ya yb : Int} {nm xn yn : List UInt8} {xs ys : List (List AV)}
set_option maxRecDepth 100000 in
set_option maxHeartbeats 16000000 in
theorem ckN9 (ih : CkOk m [.i .i64 xk, .i .i64 xa, .i .i64 xb, .s xn, .isl false 5 xs]) (jh : CkOk m [.i .i64 yk, .i .i64 ya, .i .i64 yb, .s yn, .isl false 5 ys]) {d ab q : Int} (h1 : 1 ≤ d) (h2 : d ≤ 10) (h3 : 0 ≤ q) (h4 : q ≤ 39) (h5 : 0 ≤ ab) (h6 : ab ≤ 2) : ∃ e q' : Int, 0 ≤ q' ∧ q' ≤ 41 ∧ (e = 0 → q' ≤ 40 ∧ ∃ t : Fs, t.row = [.i .i64 9, .i .i64 a, .i .i64 b, .s nm, .isl false 5 [[.i .i64 xk, .i .i64 xa, .i .i64 xb, .s xn, .isl false 5 xs], [.i .i64 yk, .i .i64 ya, .i .i64 yb, .s yn, .isl false 5 ys]]] ∧ t.st m ab ∧ q' = q + t.size ∧ d + t.depth ≤ 11) ∧ CkUp m [.i .i64 9, .i .i64 a, .i .i64 b, .s nm, .isl false 5 [[.i .i64 xk, .i .i64 xa, .i .i64 xb, .s xn, .isl false 5 xs], [.i .i64 yk, .i .i64 ya, .i .i64 yb, .s yn, .isl false 5 ys]]] d ab q e ∧
  ∀ (c : List (Nat × Ent)) (id n : Nat), look c id = some (.rows 1 [[.i .i64 q]]) → id < n → MeetsH (EG (glF m)) 34 [.ptr id 0 0, .agg [.i .i64 9, .i .i64 a, .i .i64 b, .s nm, .isl false 5 [[.i .i64 xk, .i .i64 xa, .i .i64 xb, .s xn, .isl false 5 xs], [.i .i64 yk, .i .i64 ya, .i .i64 yb, .s yn, .isl false 5 ys]]], .i .i64 d, .i .i64 ab] ⟨c, n⟩ (RetG (.i .i64 e) (upd c id (.rows 1 [[.i .i64 q']])) n) := by
  have hv := heavyP (m := m) 9
  rw [show (decide ((9 : Int) = 8) || decide ((9 : Int) = 12)) = false by decide] at hv
  have hkid : fkT[9]? = some (.i .i64 2) := rfl
  have c1 : ¬ 40 < q + 1 := by omega
  have c2 : ¬ 10 < d := by omega
  have hst : ∀ x y : Fs, (Fs.two 9 a b nm x y).st m ab ↔ (nm = [] ∧ a = 0 ∧ b = 0 ∧ x.st m ab ∧ y.st m ab) := fun x y => by simp [Fs.st]
  by_cases f1 : nm = []
  case neg =>
    refine ⟨8, q + 1, by omega, by omega, (fun h => absurd h (by decide)), (fun ⟨t, ht, hs, _, _⟩ => by obtain ⟨t1, t2, rfl, r1, r2⟩ := row_two ht; have hs := (hst t1 t2).1 hs; exact absurd hs.1 f1), fun c id n hl hid => grow_forget ?_⟩
    clear ih hst jh
    have hu : ∀ k l, look (upd c id (.rows k l)) id = some (.rows k l) := fun k l => look_updR k l hl
    have hne : ¬ n = id := by omega
    refine meetsH (E := (EG (glF m))) 280 [.tmp 8] Tryz.func34 rfl (by decide) rfl rfl (by simp) ?_
    repeat' first | ((with_reducible refine wr_isCall ?_); refine wr_P hv rfl ?_) | (with_reducible first | refine t_seq ?_ | refine t_skip ?_ | refine t_ret ?_ | refine t_end ?_ | refine t_cond ?_ | refine t_region ?_ | refine wr_done ?_ | refine WD.done _ ?_ | refine wdp_done ?_ | refine wdg_done ?_ | refine tr_some ?_ | refine t_block ?_ | refine t_loop ?_ | refine t_inLoop ?_ | refine t_inBlock ?_) | ((with_reducible refine t_isDraw ?_); refine t_draw rfl (by kernel_rfl) ?_) | ((with_reducible refine t_isExit ?_); refine t_exit rfl ?_) | simp only [decide_eq_true_eq, decide_eq_false_iff_not, Bool.not_eq_true', Bool.not_eq_false'] at * | simp (disch := omega) only [go_sem, Nat.reduceLT, Nat.reduceEqDiff, Nat.reduceAdd, Nat.reduceLeDiff, Nat.reduceMul, Int.reduceLT, Int.reduceLE, Int.reduceAdd, Int.reduceSub, Int.reduceNeg, Int.reduceToNat, Int.reduceBEq, Int.reduceEq, reduceCtorEq, ↓reduceIte, *] | (with_reducible first | refine tb_true ?_ | refine tb_false ?_) | ((with_reducible first | refine tb_split ?_ ?_ | refine wg_f ?_ ?_ | refine wg_t ?_ ?_ | refine wd_f ?_ ?_ | refine wd_t ?_ ?_) <;> intro _)
    all_goals first | (exfalso; omega) | exact ⟨1, rfl, by simp only; omega⟩
  by_cases f2 : a = 0
  case neg =>
    refine ⟨8, q + 1, by omega, by omega, (fun h => absurd h (by decide)), (fun ⟨t, ht, hs, _, _⟩ => by obtain ⟨t1, t2, rfl, r1, r2⟩ := row_two ht; have hs := (hst t1 t2).1 hs; exact absurd hs.2.1 f2), fun c id n hl hid => grow_forget ?_⟩
    clear ih hst jh
    have hu : ∀ k l, look (upd c id (.rows k l)) id = some (.rows k l) := fun k l => look_updR k l hl
    have hne : ¬ n = id := by omega
    refine meetsH (E := (EG (glF m))) 280 [.tmp 8] Tryz.func34 rfl (by decide) rfl rfl (by simp) ?_
    repeat' first | ((with_reducible refine wr_isCall ?_); refine wr_P hv rfl ?_) | (with_reducible first | refine t_seq ?_ | refine t_skip ?_ | refine t_ret ?_ | refine t_end ?_ | refine t_cond ?_ | refine t_region ?_ | refine wr_done ?_ | refine WD.done _ ?_ | refine wdp_done ?_ | refine wdg_done ?_ | refine tr_some ?_ | refine t_block ?_ | refine t_loop ?_ | refine t_inLoop ?_ | refine t_inBlock ?_) | ((with_reducible refine t_isDraw ?_); refine t_draw rfl (by kernel_rfl) ?_) | ((with_reducible refine t_isExit ?_); refine t_exit rfl ?_) | simp only [decide_eq_true_eq, decide_eq_false_iff_not, Bool.not_eq_true', Bool.not_eq_false'] at * | simp (disch := omega) only [go_sem, Nat.reduceLT, Nat.reduceEqDiff, Nat.reduceAdd, Nat.reduceLeDiff, Nat.reduceMul, Int.reduceLT, Int.reduceLE, Int.reduceAdd, Int.reduceSub, Int.reduceNeg, Int.reduceToNat, Int.reduceBEq, Int.reduceEq, reduceCtorEq, ↓reduceIte, *] | (with_reducible first | refine tb_true ?_ | refine tb_false ?_) | ((with_reducible first | refine tb_split ?_ ?_ | refine wg_f ?_ ?_ | refine wg_t ?_ ?_ | refine wd_f ?_ ?_ | refine wd_t ?_ ?_) <;> intro _)
    all_goals first | (exfalso; omega) | exact ⟨1, rfl, by simp only; omega⟩
  by_cases f3 : b = 0
  case neg =>
    refine ⟨8, q + 1, by omega, by omega, (fun h => absurd h (by decide)), (fun ⟨t, ht, hs, _, _⟩ => by obtain ⟨t1, t2, rfl, r1, r2⟩ := row_two ht; have hs := (hst t1 t2).1 hs; exact absurd hs.2.2.1 f3), fun c id n hl hid => grow_forget ?_⟩
    clear ih hst jh
    have hu : ∀ k l, look (upd c id (.rows k l)) id = some (.rows k l) := fun k l => look_updR k l hl
    have hne : ¬ n = id := by omega
    refine meetsH (E := (EG (glF m))) 280 [.tmp 8] Tryz.func34 rfl (by decide) rfl rfl (by simp) ?_
    repeat' first | ((with_reducible refine wr_isCall ?_); refine wr_P hv rfl ?_) | (with_reducible first | refine t_seq ?_ | refine t_skip ?_ | refine t_ret ?_ | refine t_end ?_ | refine t_cond ?_ | refine t_region ?_ | refine wr_done ?_ | refine WD.done _ ?_ | refine wdp_done ?_ | refine wdg_done ?_ | refine tr_some ?_ | refine t_block ?_ | refine t_loop ?_ | refine t_inLoop ?_ | refine t_inBlock ?_) | ((with_reducible refine t_isDraw ?_); refine t_draw rfl (by kernel_rfl) ?_) | ((with_reducible refine t_isExit ?_); refine t_exit rfl ?_) | simp only [decide_eq_true_eq, decide_eq_false_iff_not, Bool.not_eq_true', Bool.not_eq_false'] at * | simp (disch := omega) only [go_sem, Nat.reduceLT, Nat.reduceEqDiff, Nat.reduceAdd, Nat.reduceLeDiff, Nat.reduceMul, Int.reduceLT, Int.reduceLE, Int.reduceAdd, Int.reduceSub, Int.reduceNeg, Int.reduceToNat, Int.reduceBEq, Int.reduceEq, reduceCtorEq, ↓reduceIte, *] | (with_reducible first | refine tb_true ?_ | refine tb_false ?_) | ((with_reducible first | refine tb_split ?_ ?_ | refine wg_f ?_ ?_ | refine wg_t ?_ ?_ | refine wd_f ?_ ?_ | refine wd_t ?_ ?_) <;> intro _)
    all_goals first | (exfalso; omega) | exact ⟨1, rfl, by simp only; omega⟩
  obtain ⟨e1, q1, u1, u2, u3, u5, u4⟩ := ih (d + 1) ab (q + 1) (by omega) (by omega) (by omega) (by omega) (by omega) (by omega)
  clear ih
  by_cases he : e1 = 0
  case neg =>
    refine ⟨e1, q1, u1, u2, (fun h => absurd h he), (fun ⟨t, ht, hs, hq, hd⟩ => by obtain ⟨t1, t2, rfl, r1, r2⟩ := row_two ht; have hs := (hst t1 t2).1 hs; exact absurd (u5 ⟨t1, r1, hs.2.2.2.1, by simp only [Fs.size] at hq; omega, by simp only [Fs.depth] at hd; omega⟩) he), fun c id n hl hid => grow_forget ?_⟩
    clear u3 u5 jh hst
    have hu : ∀ k l, look (upd c id (.rows k l)) id = some (.rows k l) := fun k l => look_updR k l hl
    have hne : ¬ n = id := by omega
    refine meetsH (E := (EG (glF m))) 280 [.tmp 8] Tryz.func34 rfl (by decide) rfl rfl (by simp) ?_
    repeat' first | ((with_reducible refine wr_isCall ?_); first | refine wr_P hv rfl ?_ | refine wr_grow (u4 _ _ _ (by simp (disch := omega) only [go_sem, ↓reduceIte, *]) (by omega)) (fun n1 hn1 => ?_)) | (with_reducible first | refine t_seq ?_ | refine t_skip ?_ | refine t_ret ?_ | refine t_end ?_ | refine t_cond ?_ | refine t_region ?_ | refine wr_done ?_ | refine WD.done _ ?_ | refine wdp_done ?_ | refine wdg_done ?_ | refine tr_some ?_ | refine t_block ?_ | refine t_loop ?_ | refine t_inLoop ?_ | refine t_inBlock ?_) | ((with_reducible refine t_isDraw ?_); refine t_draw rfl (by kernel_rfl) ?_) | ((with_reducible refine t_isExit ?_); refine t_exit rfl ?_) | simp only [decide_eq_true_eq, decide_eq_false_iff_not, Bool.not_eq_true', Bool.not_eq_false'] at * | simp (disch := omega) only [go_sem, Nat.reduceLT, Nat.reduceEqDiff, Nat.reduceAdd, Nat.reduceLeDiff, Nat.reduceMul, Int.reduceLT, Int.reduceLE, Int.reduceAdd, Int.reduceSub, Int.reduceNeg, Int.reduceToNat, Int.reduceBEq, Int.reduceEq, reduceCtorEq, ↓reduceIte, *] | (with_reducible first | refine tb_true ?_ | refine tb_false ?_) | ((with_reducible first | refine tb_split ?_ ?_ | refine wg_f ?_ ?_ | refine wg_t ?_ ?_ | refine wd_f ?_ ?_ | refine wd_t ?_ ?_) <;> intro _)
    all_goals first | (exfalso; omega) | skip
    all_goals exact ⟨2, by simp only [List.drop_succ_cons, List.drop_zero], by first | omega | (simp only; omega)⟩
  subst he
  obtain ⟨w0, t1, w3, w1, w4, w5⟩ := u3 rfl
  clear u3 u5
  obtain ⟨e2, q2, v1, v2, v3, v5, v4⟩ := jh (d + 1) ab q1 (by omega) (by omega) (by omega) (by omega) (by omega) (by omega)
  clear jh
  by_cases he : e2 = 0
  · subst he
    obtain ⟨x0, t2, x3, w2, x4, x5⟩ := v3 rfl
    refine ⟨0, q2, by omega, by omega, fun _ => ⟨x0, (.two 9 a b nm t1 t2), by simp only [Fs.row, w3, x3], (hst t1 t2).2 ⟨f1, f2, f3, w1, w2⟩, by simp only [Fs.size]; omega, by simp only [Fs.depth]; omega⟩, fun _ => rfl, fun c id n hl hid => grow_forget ?_⟩
    clear v3 v5 x0 w1 w2 w3 w4 w5 x3 x4 x5 hst
    have hu : ∀ k l, look (upd c id (.rows k l)) id = some (.rows k l) := fun k l => look_updR k l hl
    have hne : ¬ n = id := by omega
    refine meetsH (E := (EG (glF m))) 280 [.tmp 8] Tryz.func34 rfl (by decide) rfl rfl (by simp) ?_
    repeat' first | ((with_reducible refine wr_isCall ?_); first | refine wr_P hv rfl ?_ | refine wr_grow (u4 _ _ _ (by simp (disch := omega) only [go_sem, ↓reduceIte, *]) (by omega)) (fun n1 hn1 => ?_) | refine wr_grow (v4 _ _ _ (by simp (disch := omega) only [go_sem, ↓reduceIte, *]) (by omega)) (fun n2 hn2 => ?_)) | (with_reducible first | refine t_seq ?_ | refine t_skip ?_ | refine t_ret ?_ | refine t_end ?_ | refine t_cond ?_ | refine t_region ?_ | refine wr_done ?_ | refine WD.done _ ?_ | refine wdp_done ?_ | refine wdg_done ?_ | refine tr_some ?_ | refine t_block ?_ | refine t_loop ?_ | refine t_inLoop ?_ | refine t_inBlock ?_) | ((with_reducible refine t_isDraw ?_); refine t_draw rfl (by kernel_rfl) ?_) | ((with_reducible refine t_isExit ?_); refine t_exit rfl ?_) | simp only [decide_eq_true_eq, decide_eq_false_iff_not, Bool.not_eq_true', Bool.not_eq_false'] at * | simp (disch := omega) only [go_sem, Nat.reduceLT, Nat.reduceEqDiff, Nat.reduceAdd, Nat.reduceLeDiff, Nat.reduceMul, Int.reduceLT, Int.reduceLE, Int.reduceAdd, Int.reduceSub, Int.reduceNeg, Int.reduceToNat, Int.reduceBEq, Int.reduceEq, reduceCtorEq, ↓reduceIte, *] | (with_reducible first | refine tb_true ?_ | refine tb_false ?_) | ((with_reducible first | refine tb_split ?_ ?_ | refine wg_f ?_ ?_ | refine wg_t ?_ ?_ | refine wd_f ?_ ?_ | refine wd_t ?_ ?_) <;> intro _)
    all_goals first | (exfalso; omega) | skip
    all_goals exact ⟨3, by simp only [List.drop_succ_cons, List.drop_zero], by first | omega | (simp only; omega)⟩
  · refine ⟨e2, q2, v1, v2, (fun h => absurd h he), (fun ⟨t, ht, hs, hq, hd⟩ => by obtain ⟨s1, s2, rfl, r1, r2⟩ := row_two ht; have hs := (hst s1 s2).1 hs; obtain rfl := Fs.row_inj s1 t1 (r1.trans w3.symm); exact absurd (v5 ⟨s2, r2, hs.2.2.2.2, by simp only [Fs.size] at hq; omega, by simp only [Fs.depth] at hd; omega⟩) he), fun c id n hl hid => grow_forget ?_⟩
    clear v3 v5 w1 w3 w4 w5 hst
    have hu : ∀ k l, look (upd c id (.rows k l)) id = some (.rows k l) := fun k l => look_updR k l hl
    have hne : ¬ n = id := by omega
    refine meetsH (E := (EG (glF m))) 280 [.tmp 8] Tryz.func34 rfl (by decide) rfl rfl (by simp) ?_
    repeat' first | ((with_reducible refine wr_isCall ?_); first | refine wr_P hv rfl ?_ | refine wr_grow (u4 _ _ _ (by simp (disch := omega) only [go_sem, ↓reduceIte, *]) (by omega)) (fun n1 hn1 => ?_) | refine wr_grow (v4 _ _ _ (by simp (disch := omega) only [go_sem, ↓reduceIte, *]) (by omega)) (fun n2 hn2 => ?_)) | (with_reducible first | refine t_seq ?_ | refine t_skip ?_ | refine t_ret ?_ | refine t_end ?_ | refine t_cond ?_ | refine t_region ?_ | refine wr_done ?_ | refine WD.done _ ?_ | refine wdp_done ?_ | refine wdg_done ?_ | refine tr_some ?_ | refine t_block ?_ | refine t_loop ?_ | refine t_inLoop ?_ | refine t_inBlock ?_) | ((with_reducible refine t_isDraw ?_); refine t_draw rfl (by kernel_rfl) ?_) | ((with_reducible refine t_isExit ?_); refine t_exit rfl ?_) | simp only [decide_eq_true_eq, decide_eq_false_iff_not, Bool.not_eq_true', Bool.not_eq_false'] at * | simp (disch := omega) only [go_sem, Nat.reduceLT, Nat.reduceEqDiff, Nat.reduceAdd, Nat.reduceLeDiff, Nat.reduceMul, Int.reduceLT, Int.reduceLE, Int.reduceAdd, Int.reduceSub, Int.reduceNeg, Int.reduceToNat, Int.reduceBEq, Int.reduceEq, reduceCtorEq, ↓reduceIte, *] | (with_reducible first | refine tb_true ?_ | refine tb_false ?_) | ((with_reducible first | refine tb_split ?_ ?_ | refine wg_f ?_ ?_ | refine wg_t ?_ ?_ | refine wd_f ?_ ?_ | refine wd_t ?_ ?_) <;> intro _)
    all_goals first | (exfalso; omega) | skip
    all_goals exact ⟨3, by simp only [List.drop_succ_cons, List.drop_zero], by first | omega | (simp only; omega)⟩
set_option maxRecDepth 100000 in
set_option maxHeartbeats 16000000 in
theorem ckN10 (ih : CkOk m [.i .i64 xk, .i .i64 xa, .i .i64 xb, .s xn, .isl false 5 xs]) (jh : CkOk m [.i .i64 yk, .i .i64 ya, .i .i64 yb, .s yn, .isl false 5 ys]) {d ab q : Int} (h1 : 1 ≤ d) (h2 : d ≤ 10) (h3 : 0 ≤ q) (h4 : q ≤ 39) (h5 : 0 ≤ ab) (h6 : ab ≤ 2) : ∃ e q' : Int, 0 ≤ q' ∧ q' ≤ 41 ∧ (e = 0 → q' ≤ 40 ∧ ∃ t : Fs, t.row = [.i .i64 10, .i .i64 a, .i .i64 b, .s nm, .isl false 5 [[.i .i64 xk, .i .i64 xa, .i .i64 xb, .s xn, .isl false 5 xs], [.i .i64 yk, .i .i64 ya, .i .i64 yb, .s yn, .isl false 5 ys]]] ∧ t.st m ab ∧ q' = q + t.size ∧ d + t.depth ≤ 11) ∧ CkUp m [.i .i64 10, .i .i64 a, .i .i64 b, .s nm, .isl false 5 [[.i .i64 xk, .i .i64 xa, .i .i64 xb, .s xn, .isl false 5 xs], [.i .i64 yk, .i .i64 ya, .i .i64 yb, .s yn, .isl false 5 ys]]] d ab q e ∧
  ∀ (c : List (Nat × Ent)) (id n : Nat), look c id = some (.rows 1 [[.i .i64 q]]) → id < n → MeetsH (EG (glF m)) 34 [.ptr id 0 0, .agg [.i .i64 10, .i .i64 a, .i .i64 b, .s nm, .isl false 5 [[.i .i64 xk, .i .i64 xa, .i .i64 xb, .s xn, .isl false 5 xs], [.i .i64 yk, .i .i64 ya, .i .i64 yb, .s yn, .isl false 5 ys]]], .i .i64 d, .i .i64 ab] ⟨c, n⟩ (RetG (.i .i64 e) (upd c id (.rows 1 [[.i .i64 q']])) n) := by
  have hv := heavyP (m := m) 10
  rw [show (decide ((10 : Int) = 8) || decide ((10 : Int) = 12)) = false by decide] at hv
  have hkid : fkT[10]? = some (.i .i64 2) := rfl
  have c1 : ¬ 40 < q + 1 := by omega
  have c2 : ¬ 10 < d := by omega
  have hst : ∀ x y : Fs, (Fs.two 10 a b nm x y).st m ab ↔ (nm = [] ∧ a = 0 ∧ b = 0 ∧ x.st m ab ∧ y.st m ab) := fun x y => by simp [Fs.st]
  by_cases f1 : nm = []
  case neg =>
    refine ⟨8, q + 1, by omega, by omega, (fun h => absurd h (by decide)), (fun ⟨t, ht, hs, _, _⟩ => by obtain ⟨t1, t2, rfl, r1, r2⟩ := row_two ht; have hs := (hst t1 t2).1 hs; exact absurd hs.1 f1), fun c id n hl hid => grow_forget ?_⟩
    clear ih hst jh
    have hu : ∀ k l, look (upd c id (.rows k l)) id = some (.rows k l) := fun k l => look_updR k l hl
    have hne : ¬ n = id := by omega
    refine meetsH (E := (EG (glF m))) 280 [.tmp 8] Tryz.func34 rfl (by decide) rfl rfl (by simp) ?_
    repeat' first | ((with_reducible refine wr_isCall ?_); refine wr_P hv rfl ?_) | (with_reducible first | refine t_seq ?_ | refine t_skip ?_ | refine t_ret ?_ | refine t_end ?_ | refine t_cond ?_ | refine t_region ?_ | refine wr_done ?_ | refine WD.done _ ?_ | refine wdp_done ?_ | refine wdg_done ?_ | refine tr_some ?_ | refine t_block ?_ | refine t_loop ?_ | refine t_inLoop ?_ | refine t_inBlock ?_) | ((with_reducible refine t_isDraw ?_); refine t_draw rfl (by kernel_rfl) ?_) | ((with_reducible refine t_isExit ?_); refine t_exit rfl ?_) | simp only [decide_eq_true_eq, decide_eq_false_iff_not, Bool.not_eq_true', Bool.not_eq_false'] at * | simp (disch := omega) only [go_sem, Nat.reduceLT, Nat.reduceEqDiff, Nat.reduceAdd, Nat.reduceLeDiff, Nat.reduceMul, Int.reduceLT, Int.reduceLE, Int.reduceAdd, Int.reduceSub, Int.reduceNeg, Int.reduceToNat, Int.reduceBEq, Int.reduceEq, reduceCtorEq, ↓reduceIte, *] | (with_reducible first | refine tb_true ?_ | refine tb_false ?_) | ((with_reducible first | refine tb_split ?_ ?_ | refine wg_f ?_ ?_ | refine wg_t ?_ ?_ | refine wd_f ?_ ?_ | refine wd_t ?_ ?_) <;> intro _)
    all_goals first | (exfalso; omega) | exact ⟨1, rfl, by simp only; omega⟩
  by_cases f2 : a = 0
  case neg =>
    refine ⟨8, q + 1, by omega, by omega, (fun h => absurd h (by decide)), (fun ⟨t, ht, hs, _, _⟩ => by obtain ⟨t1, t2, rfl, r1, r2⟩ := row_two ht; have hs := (hst t1 t2).1 hs; exact absurd hs.2.1 f2), fun c id n hl hid => grow_forget ?_⟩
    clear ih hst jh
    have hu : ∀ k l, look (upd c id (.rows k l)) id = some (.rows k l) := fun k l => look_updR k l hl
    have hne : ¬ n = id := by omega
    refine meetsH (E := (EG (glF m))) 280 [.tmp 8] Tryz.func34 rfl (by decide) rfl rfl (by simp) ?_
    repeat' first | ((with_reducible refine wr_isCall ?_); refine wr_P hv rfl ?_) | (with_reducible first | refine t_seq ?_ | refine t_skip ?_ | refine t_ret ?_ | refine t_end ?_ | refine t_cond ?_ | refine t_region ?_ | refine wr_done ?_ | refine WD.done _ ?_ | refine wdp_done ?_ | refine wdg_done ?_ | refine tr_some ?_ | refine t_block ?_ | refine t_loop ?_ | refine t_inLoop ?_ | refine t_inBlock ?_) | ((with_reducible refine t_isDraw ?_); refine t_draw rfl (by kernel_rfl) ?_) | ((with_reducible refine t_isExit ?_); refine t_exit rfl ?_) | simp only [decide_eq_true_eq, decide_eq_false_iff_not, Bool.not_eq_true', Bool.not_eq_false'] at * | simp (disch := omega) only [go_sem, Nat.reduceLT, Nat.reduceEqDiff, Nat.reduceAdd, Nat.reduceLeDiff, Nat.reduceMul, Int.reduceLT, Int.reduceLE, Int.reduceAdd, Int.reduceSub, Int.reduceNeg, Int.reduceToNat, Int.reduceBEq, Int.reduceEq, reduceCtorEq, ↓reduceIte, *] | (with_reducible first | refine tb_true ?_ | refine tb_false ?_) | ((with_reducible first | refine tb_split ?_ ?_ | refine wg_f ?_ ?_ | refine wg_t ?_ ?_ | refine wd_f ?_ ?_ | refine wd_t ?_ ?_) <;> intro _)
    all_goals first | (exfalso; omega) | exact ⟨1, rfl, by simp only; omega⟩
  by_cases f3 : b = 0
  case neg =>
    refine ⟨8, q + 1, by omega, by omega, (fun h => absurd h (by decide)), (fun ⟨t, ht, hs, _, _⟩ => by obtain ⟨t1, t2, rfl, r1, r2⟩ := row_two ht; have hs := (hst t1 t2).1 hs; exact absurd hs.2.2.1 f3), fun c id n hl hid => grow_forget ?_⟩
    clear ih hst jh
    have hu : ∀ k l, look (upd c id (.rows k l)) id = some (.rows k l) := fun k l => look_updR k l hl
    have hne : ¬ n = id := by omega
    refine meetsH (E := (EG (glF m))) 280 [.tmp 8] Tryz.func34 rfl (by decide) rfl rfl (by simp) ?_
    repeat' first | ((with_reducible refine wr_isCall ?_); refine wr_P hv rfl ?_) | (with_reducible first | refine t_seq ?_ | refine t_skip ?_ | refine t_ret ?_ | refine t_end ?_ | refine t_cond ?_ | refine t_region ?_ | refine wr_done ?_ | refine WD.done _ ?_ | refine wdp_done ?_ | refine wdg_done ?_ | refine tr_some ?_ | refine t_block ?_ | refine t_loop ?_ | refine t_inLoop ?_ | refine t_inBlock ?_) | ((with_reducible refine t_isDraw ?_); refine t_draw rfl (by kernel_rfl) ?_) | ((with_reducible refine t_isExit ?_); refine t_exit rfl ?_) | simp only [decide_eq_true_eq, decide_eq_false_iff_not, Bool.not_eq_true', Bool.not_eq_false'] at * | simp (disch := omega) only [go_sem, Nat.reduceLT, Nat.reduceEqDiff, Nat.reduceAdd, Nat.reduceLeDiff, Nat.reduceMul, Int.reduceLT, Int.reduceLE, Int.reduceAdd, Int.reduceSub, Int.reduceNeg, Int.reduceToNat, Int.reduceBEq, Int.reduceEq, reduceCtorEq, ↓reduceIte, *] | (with_reducible first | refine tb_true ?_ | refine tb_false ?_) | ((with_reducible first | refine tb_split ?_ ?_ | refine wg_f ?_ ?_ | refine wg_t ?_ ?_ | refine wd_f ?_ ?_ | refine wd_t ?_ ?_) <;> intro _)
    all_goals first | (exfalso; omega) | exact ⟨1, rfl, by simp only; omega⟩
  obtain ⟨e1, q1, u1, u2, u3, u5, u4⟩ := ih (d + 1) ab (q + 1) (by omega) (by omega) (by omega) (by omega) (by omega) (by omega)
  clear ih
  by_cases he : e1 = 0
  case neg =>
    refine ⟨e1, q1, u1, u2, (fun h => absurd h he), (fun ⟨t, ht, hs, hq, hd⟩ => by obtain ⟨t1, t2, rfl, r1, r2⟩ := row_two ht; have hs := (hst t1 t2).1 hs; exact absurd (u5 ⟨t1, r1, hs.2.2.2.1, by simp only [Fs.size] at hq; omega, by simp only [Fs.depth] at hd; omega⟩) he), fun c id n hl hid => grow_forget ?_⟩
    clear u3 u5 jh hst
    have hu : ∀ k l, look (upd c id (.rows k l)) id = some (.rows k l) := fun k l => look_updR k l hl
    have hne : ¬ n = id := by omega
    refine meetsH (E := (EG (glF m))) 280 [.tmp 8] Tryz.func34 rfl (by decide) rfl rfl (by simp) ?_
    repeat' first | ((with_reducible refine wr_isCall ?_); first | refine wr_P hv rfl ?_ | refine wr_grow (u4 _ _ _ (by simp (disch := omega) only [go_sem, ↓reduceIte, *]) (by omega)) (fun n1 hn1 => ?_)) | (with_reducible first | refine t_seq ?_ | refine t_skip ?_ | refine t_ret ?_ | refine t_end ?_ | refine t_cond ?_ | refine t_region ?_ | refine wr_done ?_ | refine WD.done _ ?_ | refine wdp_done ?_ | refine wdg_done ?_ | refine tr_some ?_ | refine t_block ?_ | refine t_loop ?_ | refine t_inLoop ?_ | refine t_inBlock ?_) | ((with_reducible refine t_isDraw ?_); refine t_draw rfl (by kernel_rfl) ?_) | ((with_reducible refine t_isExit ?_); refine t_exit rfl ?_) | simp only [decide_eq_true_eq, decide_eq_false_iff_not, Bool.not_eq_true', Bool.not_eq_false'] at * | simp (disch := omega) only [go_sem, Nat.reduceLT, Nat.reduceEqDiff, Nat.reduceAdd, Nat.reduceLeDiff, Nat.reduceMul, Int.reduceLT, Int.reduceLE, Int.reduceAdd, Int.reduceSub, Int.reduceNeg, Int.reduceToNat, Int.reduceBEq, Int.reduceEq, reduceCtorEq, ↓reduceIte, *] | (with_reducible first | refine tb_true ?_ | refine tb_false ?_) | ((with_reducible first | refine tb_split ?_ ?_ | refine wg_f ?_ ?_ | refine wg_t ?_ ?_ | refine wd_f ?_ ?_ | refine wd_t ?_ ?_) <;> intro _)
    all_goals first | (exfalso; omega) | skip
    all_goals exact ⟨2, by simp only [List.drop_succ_cons, List.drop_zero], by first | omega | (simp only; omega)⟩
  subst he
  obtain ⟨w0, t1, w3, w1, w4, w5⟩ := u3 rfl
  clear u3 u5
  obtain ⟨e2, q2, v1, v2, v3, v5, v4⟩ := jh (d + 1) ab q1 (by omega) (by omega) (by omega) (by omega) (by omega) (by omega)
  clear jh
  by_cases he : e2 = 0
  · subst he
    obtain ⟨x0, t2, x3, w2, x4, x5⟩ := v3 rfl
    refine ⟨0, q2, by omega, by omega, fun _ => ⟨x0, (.two 10 a b nm t1 t2), by simp only [Fs.row, w3, x3], (hst t1 t2).2 ⟨f1, f2, f3, w1, w2⟩, by simp only [Fs.size]; omega, by simp only [Fs.depth]; omega⟩, fun _ => rfl, fun c id n hl hid => grow_forget ?_⟩
    clear v3 v5 x0 w1 w2 w3 w4 w5 x3 x4 x5 hst
    have hu : ∀ k l, look (upd c id (.rows k l)) id = some (.rows k l) := fun k l => look_updR k l hl
    have hne : ¬ n = id := by omega
    refine meetsH (E := (EG (glF m))) 280 [.tmp 8] Tryz.func34 rfl (by decide) rfl rfl (by simp) ?_
    repeat' first | ((with_reducible refine wr_isCall ?_); first | refine wr_P hv rfl ?_ | refine wr_grow (u4 _ _ _ (by simp (disch := omega) only [go_sem, ↓reduceIte, *]) (by omega)) (fun n1 hn1 => ?_) | refine wr_grow (v4 _ _ _ (by simp (disch := omega) only [go_sem, ↓reduceIte, *]) (by omega)) (fun n2 hn2 => ?_)) | (with_reducible first | refine t_seq ?_ | refine t_skip ?_ | refine t_ret ?_ | refine t_end ?_ | refine t_cond ?_ | refine t_region ?_ | refine wr_done ?_ | refine WD.done _ ?_ | refine wdp_done ?_ | refine wdg_done ?_ | refine tr_some ?_ | refine t_block ?_ | refine t_loop ?_ | refine t_inLoop ?_ | refine t_inBlock ?_) | ((with_reducible refine t_isDraw ?_); refine t_draw rfl (by kernel_rfl) ?_) | ((with_reducible refine t_isExit ?_); refine t_exit rfl ?_) | simp only [decide_eq_true_eq, decide_eq_false_iff_not, Bool.not_eq_true', Bool.not_eq_false'] at * | simp (disch := omega) only [go_sem, Nat.reduceLT, Nat.reduceEqDiff, Nat.reduceAdd, Nat.reduceLeDiff, Nat.reduceMul, Int.reduceLT, Int.reduceLE, Int.reduceAdd, Int.reduceSub, Int.reduceNeg, Int.reduceToNat, Int.reduceBEq, Int.reduceEq, reduceCtorEq, ↓reduceIte, *] | (with_reducible first | refine tb_true ?_ | refine tb_false ?_) | ((with_reducible first | refine tb_split ?_ ?_ | refine wg_f ?_ ?_ | refine wg_t ?_ ?_ | refine wd_f ?_ ?_ | refine wd_t ?_ ?_) <;> intro _)
    all_goals first | (exfalso; omega) | skip
    all_goals exact ⟨3, by simp only [List.drop_succ_cons, List.drop_zero], by first | omega | (simp only; omega)⟩
  · refine ⟨e2, q2, v1, v2, (fun h => absurd h he), (fun ⟨t, ht, hs, hq, hd⟩ => by obtain ⟨s1, s2, rfl, r1, r2⟩ := row_two ht; have hs := (hst s1 s2).1 hs; obtain rfl := Fs.row_inj s1 t1 (r1.trans w3.symm); exact absurd (v5 ⟨s2, r2, hs.2.2.2.2, by simp only [Fs.size] at hq; omega, by simp only [Fs.depth] at hd; omega⟩) he), fun c id n hl hid => grow_forget ?_⟩
    clear v3 v5 w1 w3 w4 w5 hst
    have hu : ∀ k l, look (upd c id (.rows k l)) id = some (.rows k l) := fun k l => look_updR k l hl
    have hne : ¬ n = id := by omega
    refine meetsH (E := (EG (glF m))) 280 [.tmp 8] Tryz.func34 rfl (by decide) rfl rfl (by simp) ?_
    repeat' first | ((with_reducible refine wr_isCall ?_); first | refine wr_P hv rfl ?_ | refine wr_grow (u4 _ _ _ (by simp (disch := omega) only [go_sem, ↓reduceIte, *]) (by omega)) (fun n1 hn1 => ?_) | refine wr_grow (v4 _ _ _ (by simp (disch := omega) only [go_sem, ↓reduceIte, *]) (by omega)) (fun n2 hn2 => ?_)) | (with_reducible first | refine t_seq ?_ | refine t_skip ?_ | refine t_ret ?_ | refine t_end ?_ | refine t_cond ?_ | refine t_region ?_ | refine wr_done ?_ | refine WD.done _ ?_ | refine wdp_done ?_ | refine wdg_done ?_ | refine tr_some ?_ | refine t_block ?_ | refine t_loop ?_ | refine t_inLoop ?_ | refine t_inBlock ?_) | ((with_reducible refine t_isDraw ?_); refine t_draw rfl (by kernel_rfl) ?_) | ((with_reducible refine t_isExit ?_); refine t_exit rfl ?_) | simp only [decide_eq_true_eq, decide_eq_false_iff_not, Bool.not_eq_true', Bool.not_eq_false'] at * | simp (disch := omega) only [go_sem, Nat.reduceLT, Nat.reduceEqDiff, Nat.reduceAdd, Nat.reduceLeDiff, Nat.reduceMul, Int.reduceLT, Int.reduceLE, Int.reduceAdd, Int.reduceSub, Int.reduceNeg, Int.reduceToNat, Int.reduceBEq, Int.reduceEq, reduceCtorEq, ↓reduceIte, *] | (with_reducible first | refine tb_true ?_ | refine tb_false ?_) | ((with_reducible first | refine tb_split ?_ ?_ | refine wg_f ?_ ?_ | refine wg_t ?_ ?_ | refine wd_f ?_ ?_ | refine wd_t ?_ ?_) <;> intro _)
    all_goals first | (exfalso; omega) | skip
    all_goals exact ⟨3, by simp only [List.drop_succ_cons, List.drop_zero], by first | omega | (simp only; omega)⟩
set_option maxRecDepth 100000 in
set_option maxHeartbeats 16000000 in
theorem ckN11 (ih : CkOk m [.i .i64 xk, .i .i64 xa, .i .i64 xb, .s xn, .isl false 5 xs]) (jh : CkOk m [.i .i64 yk, .i .i64 ya, .i .i64 yb, .s yn, .isl false 5 ys]) {d ab q : Int} (h1 : 1 ≤ d) (h2 : d ≤ 10) (h3 : 0 ≤ q) (h4 : q ≤ 39) (h5 : 0 ≤ ab) (h6 : ab ≤ 2) : ∃ e q' : Int, 0 ≤ q' ∧ q' ≤ 41 ∧ (e = 0 → q' ≤ 40 ∧ ∃ t : Fs, t.row = [.i .i64 11, .i .i64 a, .i .i64 b, .s nm, .isl false 5 [[.i .i64 xk, .i .i64 xa, .i .i64 xb, .s xn, .isl false 5 xs], [.i .i64 yk, .i .i64 ya, .i .i64 yb, .s yn, .isl false 5 ys]]] ∧ t.st m ab ∧ q' = q + t.size ∧ d + t.depth ≤ 11) ∧ CkUp m [.i .i64 11, .i .i64 a, .i .i64 b, .s nm, .isl false 5 [[.i .i64 xk, .i .i64 xa, .i .i64 xb, .s xn, .isl false 5 xs], [.i .i64 yk, .i .i64 ya, .i .i64 yb, .s yn, .isl false 5 ys]]] d ab q e ∧
  ∀ (c : List (Nat × Ent)) (id n : Nat), look c id = some (.rows 1 [[.i .i64 q]]) → id < n → MeetsH (EG (glF m)) 34 [.ptr id 0 0, .agg [.i .i64 11, .i .i64 a, .i .i64 b, .s nm, .isl false 5 [[.i .i64 xk, .i .i64 xa, .i .i64 xb, .s xn, .isl false 5 xs], [.i .i64 yk, .i .i64 ya, .i .i64 yb, .s yn, .isl false 5 ys]]], .i .i64 d, .i .i64 ab] ⟨c, n⟩ (RetG (.i .i64 e) (upd c id (.rows 1 [[.i .i64 q']])) n) := by
  have hv := heavyP (m := m) 11
  rw [show (decide ((11 : Int) = 8) || decide ((11 : Int) = 12)) = false by decide] at hv
  have hkid : fkT[11]? = some (.i .i64 2) := rfl
  have c1 : ¬ 40 < q + 1 := by omega
  have c2 : ¬ 10 < d := by omega
  have hst : ∀ x y : Fs, (Fs.two 11 a b nm x y).st m ab ↔ (nm = [] ∧ a = 0 ∧ b = 0 ∧ x.st m ab ∧ y.st m ab) := fun x y => by simp [Fs.st]
  by_cases f1 : nm = []
  case neg =>
    refine ⟨8, q + 1, by omega, by omega, (fun h => absurd h (by decide)), (fun ⟨t, ht, hs, _, _⟩ => by obtain ⟨t1, t2, rfl, r1, r2⟩ := row_two ht; have hs := (hst t1 t2).1 hs; exact absurd hs.1 f1), fun c id n hl hid => grow_forget ?_⟩
    clear ih hst jh
    have hu : ∀ k l, look (upd c id (.rows k l)) id = some (.rows k l) := fun k l => look_updR k l hl
    have hne : ¬ n = id := by omega
    refine meetsH (E := (EG (glF m))) 280 [.tmp 8] Tryz.func34 rfl (by decide) rfl rfl (by simp) ?_
    repeat' first | ((with_reducible refine wr_isCall ?_); refine wr_P hv rfl ?_) | (with_reducible first | refine t_seq ?_ | refine t_skip ?_ | refine t_ret ?_ | refine t_end ?_ | refine t_cond ?_ | refine t_region ?_ | refine wr_done ?_ | refine WD.done _ ?_ | refine wdp_done ?_ | refine wdg_done ?_ | refine tr_some ?_ | refine t_block ?_ | refine t_loop ?_ | refine t_inLoop ?_ | refine t_inBlock ?_) | ((with_reducible refine t_isDraw ?_); refine t_draw rfl (by kernel_rfl) ?_) | ((with_reducible refine t_isExit ?_); refine t_exit rfl ?_) | simp only [decide_eq_true_eq, decide_eq_false_iff_not, Bool.not_eq_true', Bool.not_eq_false'] at * | simp (disch := omega) only [go_sem, Nat.reduceLT, Nat.reduceEqDiff, Nat.reduceAdd, Nat.reduceLeDiff, Nat.reduceMul, Int.reduceLT, Int.reduceLE, Int.reduceAdd, Int.reduceSub, Int.reduceNeg, Int.reduceToNat, Int.reduceBEq, Int.reduceEq, reduceCtorEq, ↓reduceIte, *] | (with_reducible first | refine tb_true ?_ | refine tb_false ?_) | ((with_reducible first | refine tb_split ?_ ?_ | refine wg_f ?_ ?_ | refine wg_t ?_ ?_ | refine wd_f ?_ ?_ | refine wd_t ?_ ?_) <;> intro _)
    all_goals first | (exfalso; omega) | exact ⟨1, rfl, by simp only; omega⟩
  by_cases f2 : a = 0
  case neg =>
    refine ⟨8, q + 1, by omega, by omega, (fun h => absurd h (by decide)), (fun ⟨t, ht, hs, _, _⟩ => by obtain ⟨t1, t2, rfl, r1, r2⟩ := row_two ht; have hs := (hst t1 t2).1 hs; exact absurd hs.2.1 f2), fun c id n hl hid => grow_forget ?_⟩
    clear ih hst jh
    have hu : ∀ k l, look (upd c id (.rows k l)) id = some (.rows k l) := fun k l => look_updR k l hl
    have hne : ¬ n = id := by omega
    refine meetsH (E := (EG (glF m))) 280 [.tmp 8] Tryz.func34 rfl (by decide) rfl rfl (by simp) ?_
    repeat' first | ((with_reducible refine wr_isCall ?_); refine wr_P hv rfl ?_) | (with_reducible first | refine t_seq ?_ | refine t_skip ?_ | refine t_ret ?_ | refine t_end ?_ | refine t_cond ?_ | refine t_region ?_ | refine wr_done ?_ | refine WD.done _ ?_ | refine wdp_done ?_ | refine wdg_done ?_ | refine tr_some ?_ | refine t_block ?_ | refine t_loop ?_ | refine t_inLoop ?_ | refine t_inBlock ?_) | ((with_reducible refine t_isDraw ?_); refine t_draw rfl (by kernel_rfl) ?_) | ((with_reducible refine t_isExit ?_); refine t_exit rfl ?_) | simp only [decide_eq_true_eq, decide_eq_false_iff_not, Bool.not_eq_true', Bool.not_eq_false'] at * | simp (disch := omega) only [go_sem, Nat.reduceLT, Nat.reduceEqDiff, Nat.reduceAdd, Nat.reduceLeDiff, Nat.reduceMul, Int.reduceLT, Int.reduceLE, Int.reduceAdd, Int.reduceSub, Int.reduceNeg, Int.reduceToNat, Int.reduceBEq, Int.reduceEq, reduceCtorEq, ↓reduceIte, *] | (with_reducible first | refine tb_true ?_ | refine tb_false ?_) | ((with_reducible first | refine tb_split ?_ ?_ | refine wg_f ?_ ?_ | refine wg_t ?_ ?_ | refine wd_f ?_ ?_ | refine wd_t ?_ ?_) <;> intro _)
    all_goals first | (exfalso; omega) | exact ⟨1, rfl, by simp only; omega⟩
  by_cases f3 : b = 0
  case neg =>
    refine ⟨8, q + 1, by omega, by omega, (fun h => absurd h (by decide)), (fun ⟨t, ht, hs, _, _⟩ => by obtain ⟨t1, t2, rfl, r1, r2⟩ := row_two ht; have hs := (hst t1 t2).1 hs; exact absurd hs.2.2.1 f3), fun c id n hl hid => grow_forget ?_⟩
    clear ih hst jh
    have hu : ∀ k l, look (upd c id (.rows k l)) id = some (.rows k l) := fun k l => look_updR k l hl
    have hne : ¬ n = id := by omega
    refine meetsH (E := (EG (glF m))) 280 [.tmp 8] Tryz.func34 rfl (by decide) rfl rfl (by simp) ?_
    repeat' first | ((with_reducible refine wr_isCall ?_); refine wr_P hv rfl ?_) | (with_reducible first | refine t_seq ?_ | refine t_skip ?_ | refine t_ret ?_ | refine t_end ?_ | refine t_cond ?_ | refine t_region ?_ | refine wr_done ?_ | refine WD.done _ ?_ | refine wdp_done ?_ | refine wdg_done ?_ | refine tr_some ?_ | refine t_block ?_ | refine t_loop ?_ | refine t_inLoop ?_ | refine t_inBlock ?_) | ((with_reducible refine t_isDraw ?_); refine t_draw rfl (by kernel_rfl) ?_) | ((with_reducible refine t_isExit ?_); refine t_exit rfl ?_) | simp only [decide_eq_true_eq, decide_eq_false_iff_not, Bool.not_eq_true', Bool.not_eq_false'] at * | simp (disch := omega) only [go_sem, Nat.reduceLT, Nat.reduceEqDiff, Nat.reduceAdd, Nat.reduceLeDiff, Nat.reduceMul, Int.reduceLT, Int.reduceLE, Int.reduceAdd, Int.reduceSub, Int.reduceNeg, Int.reduceToNat, Int.reduceBEq, Int.reduceEq, reduceCtorEq, ↓reduceIte, *] | (with_reducible first | refine tb_true ?_ | refine tb_false ?_) | ((with_reducible first | refine tb_split ?_ ?_ | refine wg_f ?_ ?_ | refine wg_t ?_ ?_ | refine wd_f ?_ ?_ | refine wd_t ?_ ?_) <;> intro _)
    all_goals first | (exfalso; omega) | exact ⟨1, rfl, by simp only; omega⟩
  obtain ⟨e1, q1, u1, u2, u3, u5, u4⟩ := ih (d + 1) ab (q + 1) (by omega) (by omega) (by omega) (by omega) (by omega) (by omega)
  clear ih
  by_cases he : e1 = 0
  case neg =>
    refine ⟨e1, q1, u1, u2, (fun h => absurd h he), (fun ⟨t, ht, hs, hq, hd⟩ => by obtain ⟨t1, t2, rfl, r1, r2⟩ := row_two ht; have hs := (hst t1 t2).1 hs; exact absurd (u5 ⟨t1, r1, hs.2.2.2.1, by simp only [Fs.size] at hq; omega, by simp only [Fs.depth] at hd; omega⟩) he), fun c id n hl hid => grow_forget ?_⟩
    clear u3 u5 jh hst
    have hu : ∀ k l, look (upd c id (.rows k l)) id = some (.rows k l) := fun k l => look_updR k l hl
    have hne : ¬ n = id := by omega
    refine meetsH (E := (EG (glF m))) 280 [.tmp 8] Tryz.func34 rfl (by decide) rfl rfl (by simp) ?_
    repeat' first | ((with_reducible refine wr_isCall ?_); first | refine wr_P hv rfl ?_ | refine wr_grow (u4 _ _ _ (by simp (disch := omega) only [go_sem, ↓reduceIte, *]) (by omega)) (fun n1 hn1 => ?_)) | (with_reducible first | refine t_seq ?_ | refine t_skip ?_ | refine t_ret ?_ | refine t_end ?_ | refine t_cond ?_ | refine t_region ?_ | refine wr_done ?_ | refine WD.done _ ?_ | refine wdp_done ?_ | refine wdg_done ?_ | refine tr_some ?_ | refine t_block ?_ | refine t_loop ?_ | refine t_inLoop ?_ | refine t_inBlock ?_) | ((with_reducible refine t_isDraw ?_); refine t_draw rfl (by kernel_rfl) ?_) | ((with_reducible refine t_isExit ?_); refine t_exit rfl ?_) | simp only [decide_eq_true_eq, decide_eq_false_iff_not, Bool.not_eq_true', Bool.not_eq_false'] at * | simp (disch := omega) only [go_sem, Nat.reduceLT, Nat.reduceEqDiff, Nat.reduceAdd, Nat.reduceLeDiff, Nat.reduceMul, Int.reduceLT, Int.reduceLE, Int.reduceAdd, Int.reduceSub, Int.reduceNeg, Int.reduceToNat, Int.reduceBEq, Int.reduceEq, reduceCtorEq, ↓reduceIte, *] | (with_reducible first | refine tb_true ?_ | refine tb_false ?_) | ((with_reducible first | refine tb_split ?_ ?_ | refine wg_f ?_ ?_ | refine wg_t ?_ ?_ | refine wd_f ?_ ?_ | refine wd_t ?_ ?_) <;> intro _)
    all_goals first | (exfalso; omega) | skip
    all_goals exact ⟨2, by simp only [List.drop_succ_cons, List.drop_zero], by first | omega | (simp only; omega)⟩
  subst he
  obtain ⟨w0, t1, w3, w1, w4, w5⟩ := u3 rfl
  clear u3 u5
  obtain ⟨e2, q2, v1, v2, v3, v5, v4⟩ := jh (d + 1) ab q1 (by omega) (by omega) (by omega) (by omega) (by omega) (by omega)
  clear jh
  by_cases he : e2 = 0
  · subst he
    obtain ⟨x0, t2, x3, w2, x4, x5⟩ := v3 rfl
    refine ⟨0, q2, by omega, by omega, fun _ => ⟨x0, (.two 11 a b nm t1 t2), by simp only [Fs.row, w3, x3], (hst t1 t2).2 ⟨f1, f2, f3, w1, w2⟩, by simp only [Fs.size]; omega, by simp only [Fs.depth]; omega⟩, fun _ => rfl, fun c id n hl hid => grow_forget ?_⟩
    clear v3 v5 x0 w1 w2 w3 w4 w5 x3 x4 x5 hst
    have hu : ∀ k l, look (upd c id (.rows k l)) id = some (.rows k l) := fun k l => look_updR k l hl
    have hne : ¬ n = id := by omega
    refine meetsH (E := (EG (glF m))) 280 [.tmp 8] Tryz.func34 rfl (by decide) rfl rfl (by simp) ?_
    repeat' first | ((with_reducible refine wr_isCall ?_); first | refine wr_P hv rfl ?_ | refine wr_grow (u4 _ _ _ (by simp (disch := omega) only [go_sem, ↓reduceIte, *]) (by omega)) (fun n1 hn1 => ?_) | refine wr_grow (v4 _ _ _ (by simp (disch := omega) only [go_sem, ↓reduceIte, *]) (by omega)) (fun n2 hn2 => ?_)) | (with_reducible first | refine t_seq ?_ | refine t_skip ?_ | refine t_ret ?_ | refine t_end ?_ | refine t_cond ?_ | refine t_region ?_ | refine wr_done ?_ | refine WD.done _ ?_ | refine wdp_done ?_ | refine wdg_done ?_ | refine tr_some ?_ | refine t_block ?_ | refine t_loop ?_ | refine t_inLoop ?_ | refine t_inBlock ?_) | ((with_reducible refine t_isDraw ?_); refine t_draw rfl (by kernel_rfl) ?_) | ((with_reducible refine t_isExit ?_); refine t_exit rfl ?_) | simp only [decide_eq_true_eq, decide_eq_false_iff_not, Bool.not_eq_true', Bool.not_eq_false'] at * | simp (disch := omega) only [go_sem, Nat.reduceLT, Nat.reduceEqDiff, Nat.reduceAdd, Nat.reduceLeDiff, Nat.reduceMul, Int.reduceLT, Int.reduceLE, Int.reduceAdd, Int.reduceSub, Int.reduceNeg, Int.reduceToNat, Int.reduceBEq, Int.reduceEq, reduceCtorEq, ↓reduceIte, *] | (with_reducible first | refine tb_true ?_ | refine tb_false ?_) | ((with_reducible first | refine tb_split ?_ ?_ | refine wg_f ?_ ?_ | refine wg_t ?_ ?_ | refine wd_f ?_ ?_ | refine wd_t ?_ ?_) <;> intro _)
    all_goals first | (exfalso; omega) | skip
    all_goals exact ⟨3, by simp only [List.drop_succ_cons, List.drop_zero], by first | omega | (simp only; omega)⟩
  · refine ⟨e2, q2, v1, v2, (fun h => absurd h he), (fun ⟨t, ht, hs, hq, hd⟩ => by obtain ⟨s1, s2, rfl, r1, r2⟩ := row_two ht; have hs := (hst s1 s2).1 hs; obtain rfl := Fs.row_inj s1 t1 (r1.trans w3.symm); exact absurd (v5 ⟨s2, r2, hs.2.2.2.2, by simp only [Fs.size] at hq; omega, by simp only [Fs.depth] at hd; omega⟩) he), fun c id n hl hid => grow_forget ?_⟩
    clear v3 v5 w1 w3 w4 w5 hst
    have hu : ∀ k l, look (upd c id (.rows k l)) id = some (.rows k l) := fun k l => look_updR k l hl
    have hne : ¬ n = id := by omega
    refine meetsH (E := (EG (glF m))) 280 [.tmp 8] Tryz.func34 rfl (by decide) rfl rfl (by simp) ?_
    repeat' first | ((with_reducible refine wr_isCall ?_); first | refine wr_P hv rfl ?_ | refine wr_grow (u4 _ _ _ (by simp (disch := omega) only [go_sem, ↓reduceIte, *]) (by omega)) (fun n1 hn1 => ?_) | refine wr_grow (v4 _ _ _ (by simp (disch := omega) only [go_sem, ↓reduceIte, *]) (by omega)) (fun n2 hn2 => ?_)) | (with_reducible first | refine t_seq ?_ | refine t_skip ?_ | refine t_ret ?_ | refine t_end ?_ | refine t_cond ?_ | refine t_region ?_ | refine wr_done ?_ | refine WD.done _ ?_ | refine wdp_done ?_ | refine wdg_done ?_ | refine tr_some ?_ | refine t_block ?_ | refine t_loop ?_ | refine t_inLoop ?_ | refine t_inBlock ?_) | ((with_reducible refine t_isDraw ?_); refine t_draw rfl (by kernel_rfl) ?_) | ((with_reducible refine t_isExit ?_); refine t_exit rfl ?_) | simp only [decide_eq_true_eq, decide_eq_false_iff_not, Bool.not_eq_true', Bool.not_eq_false'] at * | simp (disch := omega) only [go_sem, Nat.reduceLT, Nat.reduceEqDiff, Nat.reduceAdd, Nat.reduceLeDiff, Nat.reduceMul, Int.reduceLT, Int.reduceLE, Int.reduceAdd, Int.reduceSub, Int.reduceNeg, Int.reduceToNat, Int.reduceBEq, Int.reduceEq, reduceCtorEq, ↓reduceIte, *] | (with_reducible first | refine tb_true ?_ | refine tb_false ?_) | ((with_reducible first | refine tb_split ?_ ?_ | refine wg_f ?_ ?_ | refine wg_t ?_ ?_ | refine wd_f ?_ ?_ | refine wd_t ?_ ?_) <;> intro _)
    all_goals first | (exfalso; omega) | skip
    all_goals exact ⟨3, by simp only [List.drop_succ_cons, List.drop_zero], by first | omega | (simp only; omega)⟩
end Go.Proofs.YthahgmncnbeddaaGreatDoorA
