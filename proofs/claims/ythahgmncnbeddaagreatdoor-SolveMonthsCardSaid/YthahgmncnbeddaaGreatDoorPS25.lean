/- SolveShifts as a contract. -/
import Derived.Test.YthahgmncnbeddaaGreatDoorPS23
set_option linter.unusedVariables false
set_option linter.unusedSimpArgs false
namespace Go.Proofs.YthahgmncnbeddaaGreatDoorA
open Go Go.RowKit Go.Proofs.YthahgmncnbeddaaGreatDoorFx Go.Proofs
attribute [local go_sem] List.take_succ_cons List.take_zero List.take_nil List.drop_succ_cons List.drop_nil List.cons_append List.nil_append List.set_cons_zero List.set_cons_succ
variable {m : Int}
theorem wf64 {n : Int} (h1 : -9000000000000000000 ≤ n) (h2 : n ≤ 9000000000000000000) : (Lit.int .i64 n).wf = true := by
  have e1 : IntKind.i64.min = -9223372036854775808 := rfl
  have e2 : IntKind.i64.max = 9223372036854775807 := rfl
  simp only [Lit.wf]
  simp
  omega
theorem feR_shift {r : List AV} {a : Int} (ha : (Lit.int .i64 a).wf = true) (hr : FeR r) : FeR [.i .i64 7, .i .i64 a, .i .i64 0, .s [], .isl false 5 [r]] :=
  .mk _ _ _ _ _ (by decide) ha (by decide) (fun x hx => by
    simp only [List.mem_cons, List.not_mem_nil, or_false] at hx
    rw [hx]; exact hr) (by simp)
set_option maxRecDepth 100000 in
set_option maxHeartbeats 8000000 in
theorem solveShiftsP {r : List AV} (hr : FeR r) (day a b : Int) : MeetsP Tryz.prog (glF m) 4 [.agg r, .i .i64 day, .i .i64 a, .i .i64 b] (.b true) := by
  have hsv := solvesP (m := m)
  have hct := weakP (glF_of m) (kcutP (m := m) (a := day) (lo := -1000000) (n := 2000000) (by omega) (by omega) (by omega) (by omega))
  have hca := weakP (glF_of m) (kcutP (m := m) (a := a) (lo := -200) (n := 401) (by omega) (by omega) (by omega) (by omega))
  have hcb := weakP (glF_of m) (kcutP (m := m) (a := b) (lo := -200) (n := 401) (by omega) (by omega) (by omega) (by omega))
  have hm1 := Int.emod_nonneg day (show (2000000 : Int) ≠ 0 by omega)
  have hm2 := Int.emod_lt_of_pos day (show (0 : Int) < 2000000 by omega)
  have b1 : -200 ≤ -200 + a % 401 ∧ -200 + a % 401 ≤ 200 := by omega
  have b2 : -200 ≤ -200 + b % 401 ∧ -200 + b % 401 ≤ 200 := by omega
  generalize hY : -1000000 + day % 2000000 = D at hct
  have hDb : -1000000 ≤ D ∧ D ≤ 1000000 := by omega
  generalize -200 + a % 401 = x at *
  generalize -200 + b % 401 = y at *
  have hD : chkDay D = 0 := chkDay_ok (by omega) (by omega)
  clear hY hm1 hm2
  have hsh : ∀ (nn : Bool) (xk xa xb : Int) (xn : List UInt8) (ks : List (List AV)) (n : Int), MeetsP Tryz.prog (glF m) 16 [.agg [.i .i64 xk, .i .i64 xa, .i .i64 xb, .s xn, .isl nn 5 ks], .i .i64 n] (.agg [.i .i64 7, .i .i64 n, .i .i64 0, .s [], .isl true 5 [[.i .i64 xk, .i .i64 xa, .i .i64 xb, .s xn, .isl nn 5 ks]]]) := fun nn xk xa xb xn xs n => by
    refine meetsP (E := (EG (glF m))) 9 [.cell 4 24] (eg (glF m)) Tryz.func16 rfl (by decide) rfl rfl (by simp) ?_
    repeat' first
      | with_reducible first | refine t_seq ?_ | refine t_skip ?_ | refine t_ret ?_ | refine t_end ?_ | refine t_cond ?_ | refine t_region ?_ | refine wr_done ?_ | refine WD.done _ ?_ | refine wdp_done ?_ | refine wdg_done ?_ | refine tr_some ?_ | refine t_inBlock ?_
      | ((with_reducible refine t_isDraw ?_); refine t_draw rfl (by kernel_rfl) ?_)
      | ((fail_if_success with_reducible refine t_bl ?_); (with_reducible refine t_block ?_))
      | ((with_reducible refine t_isExit ?_); refine t_exit rfl ?_)
      | simp only [decide_eq_true_eq, decide_eq_false_iff_not, Bool.not_eq_true', Bool.not_eq_false'] at *
      | simp (disch := omega) only [go_sem, Nat.reduceLT, Nat.reduceEqDiff, Nat.reduceAdd, Nat.reduceLeDiff, Nat.reduceMul, Int.reduceLT, Int.reduceLE, Int.reduceAdd, Int.reduceSub, Int.reduceNeg, Int.reduceToNat, Int.reduceBEq, Int.reduceEq, reduceCtorEq, ↓reduceIte, *]
      | with_reducible first | refine tb_true ?_ | refine tb_false ?_
      | ((with_reducible first | refine tb_split ?_ ?_ | refine wg_f ?_ ?_ | refine wg_t ?_ ?_ | refine wd_f ?_ ?_ | refine wd_t ?_ ?_) <;> intro _)
    exact ⟨rfl, rfl⟩
  obtain ⟨e1, g1, _, t1, _, H1⟩ := hasAny (m := m) hr
  have h1 := H1 D hD
  by_cases he1 : e1 = 0
  case neg =>
    rw [if_neg he1] at h1
    obtain ⟨xk, xa, xb, xn, xs, rfl⟩ := hr.row
    have s1 := hsh false xk xa xb xn xs x
    have s2 := hsh true 7 x 0 [] [[.i .i64 xk, .i .i64 xa, .i .i64 xb, .s xn, .isl false 5 xs]] y
    clear hr t1 hD hsh H1
    refine meetsP (E := (EG (glF m))) 81 [.tmp 8] (eg (glF m)) Tryz.func4 rfl (by decide) rfl rfl (by simp) ?_
    repeat' first
      | ((with_reducible refine wr_isCall ?_); first | refine wr_P hsv rfl ?_ | refine wr_P hct rfl ?_ | refine wr_P hca rfl ?_ | refine wr_P hcb rfl ?_ | refine wr_P h1 rfl ?_ | refine wr_P s1 rfl ?_ | refine wr_P s2 rfl ?_)
      | with_reducible first | refine t_seq ?_ | refine t_skip ?_ | refine t_ret ?_ | refine t_end ?_ | refine t_cond ?_ | refine t_region ?_ | refine wr_done ?_ | refine WD.done _ ?_ | refine wdp_done ?_ | refine wdg_done ?_ | refine tr_some ?_ | refine t_inBlock ?_
      | ((with_reducible refine t_isDraw ?_); refine t_draw rfl (by kernel_rfl) ?_)
      | ((fail_if_success with_reducible refine t_bl ?_); (with_reducible refine t_block ?_))
      | ((with_reducible refine t_isExit ?_); refine t_exit rfl ?_)
      | simp only [decide_eq_true_eq, decide_eq_false_iff_not, Bool.not_eq_true', Bool.not_eq_false'] at *
      | simp (disch := omega) only [go_sem, Nat.reduceLT, Nat.reduceEqDiff, Nat.reduceAdd, Nat.reduceLeDiff, Nat.reduceMul, Int.reduceLT, Int.reduceLE, Int.reduceAdd, Int.reduceSub, Int.reduceNeg, Int.reduceToNat, Int.reduceBEq, Int.reduceEq, reduceCtorEq, ↓reduceIte, *]
      | with_reducible first | refine tb_true ?_ | refine tb_false ?_
      | ((with_reducible first | refine tb_split ?_ ?_ | refine wg_f ?_ ?_ | refine wg_t ?_ ?_ | refine wd_f ?_ ?_ | refine wd_t ?_ ?_) <;> intro _)
    all_goals first | (exfalso; omega) | exact ⟨rfl, rfl⟩
  rw [if_pos he1, he1] at h1
  obtain ⟨t1, a1, a3, a4, a5, a2⟩ := t1 he1
  obtain ⟨e2, g2, c2, t2, _, H2⟩ := hasAny (m := m) (feR_shift (a := y) (wf64 (by omega) (by omega)) (feR_shift (a := x) (wf64 (by omega) (by omega)) hr))
  have w2 : Wk (.agg [.i .i64 7, .i .i64 y, .i .i64 0, .s [], .isl true 5 [[.i .i64 7, .i .i64 x, .i .i64 0, .s [], .isl true 5 [r]]]]) (.agg [.i .i64 7, .i .i64 y, .i .i64 0, .s [], .isl false 5 [[.i .i64 7, .i .i64 x, .i .i64 0, .s [], .isl false 5 [r]]]]) :=
    (WkR.feast (Wk.kids1 (WkR.feast (Wk.kids1 (WkR.refl r))))).agg
  have h2 := (H2 (D + x + y) (chkDay_ok (by omega) (by omega))).nar1 w2
  have c2 := c2.nar1 w2
  by_cases he2 : e2 = 0
  case neg =>
    obtain ⟨xk, xa, xb, xn, xs, rfl⟩ := hr.row
    have s1 := hsh false xk xa xb xn xs x
    have s2 := hsh true 7 x 0 [] [[.i .i64 xk, .i .i64 xa, .i .i64 xb, .s xn, .isl false 5 xs]] y
    generalize g1 D = v1 at *
    clear hr t2 hD hsh H1 h2 w2 H2 a1 a2 a3 a4 a5 t1
    refine meetsP (E := (EG (glF m))) 81 [.tmp 8] (eg (glF m)) Tryz.func4 rfl (by decide) rfl rfl (by simp) ?_
    repeat' first
      | ((with_reducible refine wr_isCall ?_); first | refine wr_P hsv rfl ?_ | refine wr_P hct rfl ?_ | refine wr_P hca rfl ?_ | refine wr_P hcb rfl ?_ | refine wr_P h1 rfl ?_ | refine wr_P s1 rfl ?_ | refine wr_P s2 rfl ?_ | refine wr_P c2 rfl ?_)
      | with_reducible first | refine t_seq ?_ | refine t_skip ?_ | refine t_ret ?_ | refine t_end ?_ | refine t_cond ?_ | refine t_region ?_ | refine wr_done ?_ | refine WD.done _ ?_ | refine wdp_done ?_ | refine wdg_done ?_ | refine tr_some ?_ | refine t_inBlock ?_
      | ((with_reducible refine t_isDraw ?_); refine t_draw rfl (by kernel_rfl) ?_)
      | ((fail_if_success with_reducible refine t_bl ?_); (with_reducible refine t_block ?_))
      | ((with_reducible refine t_isExit ?_); refine t_exit rfl ?_)
      | simp only [decide_eq_true_eq, decide_eq_false_iff_not, Bool.not_eq_true', Bool.not_eq_false'] at *
      | simp (disch := omega) only [go_sem, Nat.reduceLT, Nat.reduceEqDiff, Nat.reduceAdd, Nat.reduceLeDiff, Nat.reduceMul, Int.reduceLT, Int.reduceLE, Int.reduceAdd, Int.reduceSub, Int.reduceNeg, Int.reduceToNat, Int.reduceBEq, Int.reduceEq, reduceCtorEq, ↓reduceIte, *]
      | with_reducible first | refine tb_true ?_ | refine tb_false ?_
      | ((with_reducible first | refine tb_split ?_ ?_ | refine wg_f ?_ ?_ | refine wg_t ?_ ?_ | refine wd_f ?_ ?_ | refine wd_t ?_ ?_) <;> intro _)
    all_goals first | (exfalso; omega) | exact ⟨rfl, rfl⟩
  rw [if_pos he2, he2] at h2
  obtain ⟨t2, b1, b3, b4, b5, b2⟩ := t2 he2
  obtain ⟨u, rfl, k1⟩ := row_one b1
  obtain ⟨v, rfl, k2⟩ := row_one k1
  obtain rfl := Fs.row_inj v t1 (k2.trans a1.symm)
  obtain ⟨e3, g3, c3, t3, u3, H3⟩ := hasAny (m := m) (feR_shift (a := x + y) (wf64 (by omega) (by omega)) hr)
  have st3 : (Fs.one 7 (x + y) 0 [] v).st m 0 := by
    simp only [Fs.st] at b3 ⊢
    exact .inl ⟨trivial, trivial, trivial, by omega, by omega, a3⟩
  have he3 := u3 (.one 7 (x + y) 0 [] v) (by simp only [Fs.row, a1]) st3 (by simp only [Fs.depth] at b4 ⊢; omega) (by simp only [Fs.size] at b5 ⊢; omega)
  have w3 : Wk (.agg [.i .i64 7, .i .i64 (x + y), .i .i64 0, .s [], .isl true 5 [r]]) (.agg [.i .i64 7, .i .i64 (x + y), .i .i64 0, .s [], .isl false 5 [r]]) := (WkR.feast (Wk.kids1 (WkR.refl r))).agg
  have h3 := (H3 (D + x + y) (chkDay_ok (by omega) (by omega))).nar1 w3
  rw [if_pos he3, he3] at h3
  obtain ⟨t3, d1, _, _, _, d2⟩ := t3 he3
  obtain ⟨z, rfl, k3⟩ := row_one d1
  obtain rfl := Fs.row_inj z v (k3.trans a1.symm)
  have q2 : g2 (D + x + y) = g1 D := by
    rw [b2, a2]
    simp only [Fs.on]
    rw [chkDay_ok (by omega) (by omega), chkDay_ok (d := D + x + y - y) (by omega) (by omega), show D + x + y - y - x = D by omega]
    simp
  have q3 : g3 (D + x + y) = g1 D := by
    rw [d2, a2]
    simp only [Fs.on]
    rw [chkDay_ok (by omega) (by omega), show D + x + y - (x + y) = D by omega]
    simp
  rw [q2] at h2
  rw [q3] at h3
  generalize g1 D = v1 at *
  obtain ⟨xk, xa, xb, xn, xs, rfl⟩ := hr.row
  have s1 := hsh false xk xa xb xn xs x
  have s2 := hsh true 7 x 0 [] [[.i .i64 xk, .i .i64 xa, .i .i64 xb, .s xn, .isl false 5 xs]] y
  have s3 := hsh false xk xa xb xn xs (x + y)
  rw [he2] at c2
  clear hr hD hsh H1 H2 H3 a1 a2 a3 a4 a5 b1 b2 b3 b4 b5 k1 k2 k3 c3 u3 st3 w2 w3 d1 d2 q2 q3
  refine meetsP (E := (EG (glF m))) 81 [.tmp 8] (eg (glF m)) Tryz.func4 rfl (by decide) rfl rfl (by simp) ?_
  repeat' first
    | ((with_reducible refine wr_isCall ?_); first | refine wr_P hsv rfl ?_ | refine wr_P hct rfl ?_ | refine wr_P hca rfl ?_ | refine wr_P hcb rfl ?_ | refine wr_P h1 rfl ?_ | refine wr_P s1 rfl ?_ | refine wr_P s2 rfl ?_ | refine wr_P s3 rfl ?_ | refine wr_P c2 rfl ?_ | refine wr_P h2 rfl ?_ | refine wr_P h3 rfl ?_)
    | with_reducible first | refine t_seq ?_ | refine t_skip ?_ | refine t_ret ?_ | refine t_end ?_ | refine t_cond ?_ | refine t_region ?_ | refine wr_done ?_ | refine WD.done _ ?_ | refine wdp_done ?_ | refine wdg_done ?_ | refine tr_some ?_ | refine t_inBlock ?_
    | ((with_reducible refine t_isDraw ?_); refine t_draw rfl (by kernel_rfl) ?_)
    | ((fail_if_success with_reducible refine t_bl ?_); (with_reducible refine t_block ?_))
    | ((with_reducible refine t_isExit ?_); refine t_exit rfl ?_)
    | simp only [decide_eq_true_eq, decide_eq_false_iff_not, Bool.not_eq_true', Bool.not_eq_false'] at *
    | simp (disch := omega) only [go_sem, Nat.reduceLT, Nat.reduceEqDiff, Nat.reduceAdd, Nat.reduceLeDiff, Nat.reduceMul, Int.reduceLT, Int.reduceLE, Int.reduceAdd, Int.reduceSub, Int.reduceNeg, Int.reduceToNat, Int.reduceBEq, Int.reduceEq, reduceCtorEq, ↓reduceIte, *]
    | with_reducible first | refine tb_true ?_ | refine tb_false ?_
    | ((with_reducible first | refine tb_split ?_ ?_ | refine wg_f ?_ ?_ | refine wg_t ?_ ?_ | refine wd_f ?_ ?_ | refine wd_t ?_ ?_) <;> intro _)
  all_goals first | (exfalso; omega) | exact ⟨rfl, rfl⟩
end Go.Proofs.YthahgmncnbeddaaGreatDoorA
