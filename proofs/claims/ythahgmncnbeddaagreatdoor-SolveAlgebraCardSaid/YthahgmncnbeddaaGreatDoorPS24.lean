/- SolveAlgebra as a contract. -/
import Derived.Test.YthahgmncnbeddaaGreatDoorPS23
set_option linter.unusedVariables false
set_option linter.unusedSimpArgs false
namespace Go.Proofs.YthahgmncnbeddaaGreatDoorA
open Go Go.RowKit Go.Proofs.YthahgmncnbeddaaGreatDoorFx Go.Proofs
attribute [local go_sem] List.take_succ_cons List.take_zero List.take_nil List.drop_succ_cons List.drop_nil List.cons_append List.nil_append List.set_cons_zero List.set_cons_succ
variable {m : Int}
/-- What or, and, not make of two truths. -/
def want3 (k : Int) (a b : Bool) : Bool := if k = 9 then a || b else if k = 10 then a && b else a && !b
theorem two_on {r s : List AV} {k : Int} {t1 t2 t : Fs} (h1 : t1.row = r) (h2 : t2.row = s) (ht : t.row = [.i .i64 k, .i .i64 0, .i .i64 0, .s [], .isl false 5 [r, s]]) (D : Int) : t.on dN D = want3 k (t1.on dN D) (t2.on dN D) := by
  obtain ⟨x, y, rfl, e1, e2⟩ := row_two ht
  obtain rfl := Fs.row_inj x t1 (e1.trans h1.symm)
  obtain rfl := Fs.row_inj y t2 (e2.trans h2.symm)
  rfl
theorem feR_two {r s : List AV} {k : Int} (hk : (Lit.int .i64 k).wf = true) (hr : FeR r) (hs : FeR s) : FeR [.i .i64 k, .i .i64 0, .i .i64 0, .s [], .isl false 5 [r, s]] :=
  .mk _ _ _ _ _ hk (by decide) (by decide) (fun x hx => by
    simp only [List.mem_cons, List.not_mem_nil, or_false] at hx
    rcases hx with rfl | rfl
    · exact hr
    · exact hs) (by simp)
theorem algOf {r s : List AV} (hr : FeR r) (hs : FeR s) {D : Int} (hD : chkDay D = 0) {k : Int} (hk : (Lit.int .i64 k).wf = true) {g1 g2 : Int → Bool} (h1 : ∃ t : Fs, t.row = r ∧ g1 = t.on dN) (h2 : ∃ t : Fs, t.row = s ∧ g2 = t.on dN) :
    ∃ e : Int, MeetsP Tryz.prog (glF m) 15 [.agg [.i .i64 k, .i .i64 0, .i .i64 0, .s [], .isl true 5 [r, s]]] (.i .i64 e) ∧
      (e = 0 → MeetsP Tryz.prog (glF m) 13 [.agg [.i .i64 k, .i .i64 0, .i .i64 0, .s [], .isl true 5 [r, s]], .i .i64 D] (.tup [.b (want3 k (g1 D) (g2 D)), .i .i64 0])) := by
  obtain ⟨e, g, hc, ht, _, hh⟩ := hasAny (m := m) (feR_two hk hr hs)
  have w : Wk (.agg [.i .i64 k, .i .i64 0, .i .i64 0, .s [], .isl true 5 [r, s]]) (.agg [.i .i64 k, .i .i64 0, .i .i64 0, .s [], .isl false 5 [r, s]]) := (WkR.feast (Wk.kids2 (WkR.refl r) (WkR.refl s))).agg
  refine ⟨e, hc.nar1 w, fun he => ?_⟩
  obtain ⟨t, e1, _, _, _, rfl⟩ := ht he
  obtain ⟨t1, e2, rfl⟩ := h1
  obtain ⟨t2, e3, rfl⟩ := h2
  have h := (hh D hD).nar1 w
  rw [if_pos he, two_on e2 e3 e1, he] at h
  exact h
set_option maxRecDepth 100000 in
set_option maxHeartbeats 8000000 in
theorem solveAlgebraP {r s : List AV} (hr : FeR r) (hs : FeR s) (day : Int) : MeetsP Tryz.prog (glF m) 3 [.agg r, .agg s, .i .i64 day] (.b true) := by
  have hsv := solvesP (m := m)
  have hct := weakP (glF_of m) (kcutP (m := m) (a := day) (lo := -1000000) (n := 2000000) (by omega) (by omega) (by omega) (by omega))
  have hm1 := Int.emod_nonneg day (show (2000000 : Int) ≠ 0 by omega)
  have hm2 := Int.emod_lt_of_pos day (show (0 : Int) < 2000000 by omega)
  generalize hY : -1000000 + day % 2000000 = D at hct
  have hD : chkDay D = 0 := chkDay_ok (by omega) (by omega)
  clear hY hm1 hm2
  obtain ⟨e1, g1, _, t1, _, H1⟩ := hasAny (m := m) hr
  obtain ⟨e2, g2, _, t2, _, H2⟩ := hasAny (m := m) hs
  have h1 := H1 D hD
  have h2 := H2 D hD
  clear H1 H2
  have hm3 : ∀ a b : Bool, MeetsP Tryz.prog (glF m) 14 [.b a, .b b] (.agg [.b (a || b), .b (a && b), .b (a && !b)]) := fun a b => by
    cases a <;> cases b
    all_goals
      refine meetsP (E := (EG (glF m))) 19 [.cell 4 30] (eg (glF m)) Tryz.func14 rfl (by decide) rfl rfl (by simp) ?_
      repeat' first
        | with_reducible first | refine t_seq ?_ | refine t_skip ?_ | refine t_ret ?_ | refine t_end ?_ | refine t_cond ?_ | refine t_region ?_ | refine wr_done ?_ | refine WD.done _ ?_ | refine wdp_done ?_ | refine wdg_done ?_ | refine tr_some ?_ | refine t_inBlock ?_
        | ((with_reducible refine t_isDraw ?_); refine t_draw rfl (by kernel_rfl) ?_)
        | ((fail_if_success with_reducible refine t_bl ?_); (with_reducible refine t_block ?_))
        | ((with_reducible refine t_isExit ?_); refine t_exit rfl ?_)
        | simp only [decide_eq_true_eq, decide_eq_false_iff_not, Bool.not_eq_true', Bool.not_eq_false'] at *
        | simp (disch := omega) only [go_sem, Nat.reduceLT, Nat.reduceEqDiff, Nat.reduceAdd, Nat.reduceLeDiff, Nat.reduceMul, Int.reduceLT, Int.reduceLE, Int.reduceAdd, Int.reduceSub, Int.reduceNeg, Int.reduceToNat, Int.reduceBEq, Int.reduceEq, reduceCtorEq, ↓reduceIte, *]
        | with_reducible first | refine tb_true ?_ | refine tb_false ?_
        | ((with_reducible first | refine tb_split ?_ ?_ | refine wg_f ?_ ?_ | refine wg_t ?_ ?_ | refine wd_f ?_ ?_ | refine wd_t ?_ ?_) <;> intro _)
      exact ⟨rfl, rfl⟩
  by_cases he1 : e1 = 0
  case neg =>
    rw [if_neg he1] at h1
    obtain ⟨xk, xa, xb, xn, xs, rfl⟩ := hr.row
    obtain ⟨yk, ya, yb, yn, ys, rfl⟩ := hs.row
    generalize (if e2 = 0 then g2 D else false) = v2 at *
    clear hr hs t1 t2 hD
    refine meetsP (E := (EG (glF m))) 68 [.tmp 6] (eg (glF m)) Tryz.func3 rfl (by decide) rfl rfl (by simp) ?_
    repeat' first
      | ((with_reducible refine wr_isCall ?_); first | refine wr_P hsv rfl ?_ | refine wr_P hct rfl ?_ | refine wr_P h1 rfl ?_ | refine wr_P h2 rfl ?_)
      | with_reducible first | refine t_seq ?_ | refine t_skip ?_ | refine t_ret ?_ | refine t_end ?_ | refine t_cond ?_ | refine t_region ?_ | refine wr_done ?_ | refine WD.done _ ?_ | refine wdp_done ?_ | refine wdg_done ?_ | refine tr_some ?_ | refine t_inBlock ?_
      | ((with_reducible refine t_isDraw ?_); refine t_draw rfl (by kernel_rfl) ?_)
      | ((fail_if_success with_reducible refine t_bl ?_); (with_reducible refine t_block ?_))
      | ((with_reducible refine t_isExit ?_); refine t_exit rfl ?_)
      | simp only [decide_eq_true_eq, decide_eq_false_iff_not, Bool.not_eq_true', Bool.not_eq_false'] at *
      | simp (disch := omega) only [go_sem, Nat.reduceLT, Nat.reduceEqDiff, Nat.reduceAdd, Nat.reduceLeDiff, Nat.reduceMul, Int.reduceLT, Int.reduceLE, Int.reduceAdd, Int.reduceSub, Int.reduceNeg, Int.reduceToNat, Int.reduceBEq, Int.reduceEq, reduceCtorEq, ↓reduceIte, *]
      | with_reducible first | refine tb_true ?_ | refine tb_false ?_
      | ((with_reducible first | refine tb_split ?_ ?_ | refine wg_f ?_ ?_ | refine wg_t ?_ ?_ | refine wd_f ?_ ?_ | refine wd_t ?_ ?_) <;> intro _)
    all_goals first | (exfalso; omega) | exact ⟨rfl, rfl⟩
  by_cases he2 : e2 = 0
  case neg =>
    rw [if_neg he2] at h2
    obtain ⟨xk, xa, xb, xn, xs, rfl⟩ := hr.row
    obtain ⟨yk, ya, yb, yn, ys, rfl⟩ := hs.row
    generalize (if e1 = 0 then g1 D else false) = v1 at *
    subst he1
    clear hr hs t1 t2 hD
    refine meetsP (E := (EG (glF m))) 68 [.tmp 6] (eg (glF m)) Tryz.func3 rfl (by decide) rfl rfl (by simp) ?_
    repeat' first
      | ((with_reducible refine wr_isCall ?_); first | refine wr_P hsv rfl ?_ | refine wr_P hct rfl ?_ | refine wr_P h1 rfl ?_ | refine wr_P h2 rfl ?_)
      | with_reducible first | refine t_seq ?_ | refine t_skip ?_ | refine t_ret ?_ | refine t_end ?_ | refine t_cond ?_ | refine t_region ?_ | refine wr_done ?_ | refine WD.done _ ?_ | refine wdp_done ?_ | refine wdg_done ?_ | refine tr_some ?_ | refine t_inBlock ?_
      | ((with_reducible refine t_isDraw ?_); refine t_draw rfl (by kernel_rfl) ?_)
      | ((fail_if_success with_reducible refine t_bl ?_); (with_reducible refine t_block ?_))
      | ((with_reducible refine t_isExit ?_); refine t_exit rfl ?_)
      | simp only [decide_eq_true_eq, decide_eq_false_iff_not, Bool.not_eq_true', Bool.not_eq_false'] at *
      | simp (disch := omega) only [go_sem, Nat.reduceLT, Nat.reduceEqDiff, Nat.reduceAdd, Nat.reduceLeDiff, Nat.reduceMul, Int.reduceLT, Int.reduceLE, Int.reduceAdd, Int.reduceSub, Int.reduceNeg, Int.reduceToNat, Int.reduceBEq, Int.reduceEq, reduceCtorEq, ↓reduceIte, *]
      | with_reducible first | refine tb_true ?_ | refine tb_false ?_
      | ((with_reducible first | refine tb_split ?_ ?_ | refine wg_f ?_ ?_ | refine wg_t ?_ ?_ | refine wd_f ?_ ?_ | refine wd_t ?_ ?_) <;> intro _)
    all_goals first | (exfalso; omega) | exact ⟨rfl, rfl⟩
  rw [if_pos he1, he1] at h1
  rw [if_pos he2, he2] at h2
  obtain ⟨t1, a1, _, _, _, a2⟩ := t1 he1
  obtain ⟨t2, b1, _, _, _, b2⟩ := t2 he2
  obtain ⟨e9, c9, k9⟩ := algOf (m := m) hr hs hD (k := 9) (by decide) ⟨t1, a1, a2⟩ ⟨t2, b1, b2⟩
  obtain ⟨e10, c10, k10⟩ := algOf (m := m) hr hs hD (k := 10) (by decide) ⟨t1, a1, a2⟩ ⟨t2, b1, b2⟩
  obtain ⟨e11, c11, k11⟩ := algOf (m := m) hr hs hD (k := 11) (by decide) ⟨t1, a1, a2⟩ ⟨t2, b1, b2⟩
  have hm := hm3 (g1 D) (g2 D)
  rw [show want3 9 (g1 D) (g2 D) = (g1 D || g2 D) from rfl] at k9
  rw [show want3 10 (g1 D) (g2 D) = (g1 D && g2 D) from rfl] at k10
  rw [show want3 11 (g1 D) (g2 D) = (g1 D && !g2 D) from rfl] at k11
  generalize (g1 D || g2 D) = v9 at *
  generalize (g1 D && g2 D) = v10 at *
  generalize (g1 D && !g2 D) = v11 at *
  generalize g1 D = v1 at *
  generalize g2 D = v2 at *
  obtain ⟨xk, xa, xb, xn, xs, rfl⟩ := hr.row
  obtain ⟨yk, ya, yb, yn, ys, rfl⟩ := hs.row
  clear hr hs a1 a2 b1 b2 hD hm3 he1 he2 t1 t2
  by_cases z9 : e9 = 0
  case neg =>
    clear k9 c10 k10 c11 k11
    refine meetsP (E := (EG (glF m))) 68 [.tmp 6] (eg (glF m)) Tryz.func3 rfl (by decide) rfl rfl (by simp) ?_
    repeat' first
      | ((with_reducible refine wr_isCall ?_); first | refine wr_P hsv rfl ?_ | refine wr_P hct rfl ?_ | refine wr_P h1 rfl ?_ | refine wr_P h2 rfl ?_ | refine wr_P hm rfl ?_ | refine wr_lent c9 rfl rfl rfl ?_)
      | with_reducible first | refine t_seq ?_ | refine t_skip ?_ | refine t_ret ?_ | refine t_end ?_ | refine t_cond ?_ | refine t_region ?_ | refine wr_done ?_ | refine WD.done _ ?_ | refine wdp_done ?_ | refine wdg_done ?_ | refine tr_some ?_ | refine t_block ?_ | refine t_loop ?_ | refine t_inLoop ?_ | refine t_inBlock ?_
      | ((with_reducible refine t_isDraw ?_); refine t_draw rfl (by kernel_rfl) ?_)
      | ((with_reducible refine t_isExit ?_); refine t_exit rfl ?_)
      | simp only [decide_eq_true_eq, decide_eq_false_iff_not, Bool.not_eq_true', Bool.not_eq_false'] at *
      | simp (disch := omega) only [go_sem, Nat.reduceLT, Nat.reduceEqDiff, Nat.reduceAdd, Nat.reduceLeDiff, Nat.reduceMul, Int.reduceLT, Int.reduceLE, Int.reduceAdd, Int.reduceSub, Int.reduceNeg, Int.reduceToNat, Int.reduceBEq, Int.reduceEq, reduceCtorEq, ↓reduceIte, *]
      | with_reducible first | refine tb_true ?_ | refine tb_false ?_
      | ((with_reducible first | refine tb_split ?_ ?_ | refine wg_f ?_ ?_ | refine wg_t ?_ ?_ | refine wd_f ?_ ?_ | refine wd_t ?_ ?_) <;> intro _)
    all_goals first | (exfalso; omega) | exact ⟨rfl, rfl⟩
  replace k9 := k9 z9
  subst z9
  by_cases z10 : e10 = 0
  case neg =>
    clear k10 c11 k11
    refine meetsP (E := (EG (glF m))) 68 [.tmp 6] (eg (glF m)) Tryz.func3 rfl (by decide) rfl rfl (by simp) ?_
    repeat' first
      | ((with_reducible refine wr_isCall ?_); first | refine wr_P hsv rfl ?_ | refine wr_P hct rfl ?_ | refine wr_P h1 rfl ?_ | refine wr_P h2 rfl ?_ | refine wr_P hm rfl ?_ | refine wr_lent c9 rfl rfl rfl ?_ | refine wr_lent k9 rfl rfl rfl ?_ | refine wr_lent c10 rfl rfl rfl ?_)
      | with_reducible first | refine t_seq ?_ | refine t_skip ?_ | refine t_ret ?_ | refine t_end ?_ | refine t_cond ?_ | refine t_region ?_ | refine wr_done ?_ | refine WD.done _ ?_ | refine wdp_done ?_ | refine wdg_done ?_ | refine tr_some ?_ | refine t_block ?_ | refine t_loop ?_ | refine t_inLoop ?_ | refine t_inBlock ?_
      | ((with_reducible refine t_isDraw ?_); refine t_draw rfl (by kernel_rfl) ?_)
      | ((with_reducible refine t_isExit ?_); refine t_exit rfl ?_)
      | simp only [decide_eq_true_eq, decide_eq_false_iff_not, Bool.not_eq_true', Bool.not_eq_false'] at *
      | simp (disch := omega) only [go_sem, Nat.reduceLT, Nat.reduceEqDiff, Nat.reduceAdd, Nat.reduceLeDiff, Nat.reduceMul, Int.reduceLT, Int.reduceLE, Int.reduceAdd, Int.reduceSub, Int.reduceNeg, Int.reduceToNat, Int.reduceBEq, Int.reduceEq, reduceCtorEq, ↓reduceIte, *]
      | with_reducible first | refine tb_true ?_ | refine tb_false ?_
      | ((with_reducible first | refine tb_split ?_ ?_ | refine wg_f ?_ ?_ | refine wg_t ?_ ?_ | refine wd_f ?_ ?_ | refine wd_t ?_ ?_) <;> intro _)
    all_goals first | (exfalso; omega) | exact ⟨rfl, rfl⟩
  replace k10 := k10 z10
  subst z10
  by_cases z11 : e11 = 0
  case neg =>
    clear k11
    refine meetsP (E := (EG (glF m))) 68 [.tmp 6] (eg (glF m)) Tryz.func3 rfl (by decide) rfl rfl (by simp) ?_
    repeat' first
      | ((with_reducible refine wr_isCall ?_); first | refine wr_P hsv rfl ?_ | refine wr_P hct rfl ?_ | refine wr_P h1 rfl ?_ | refine wr_P h2 rfl ?_ | refine wr_P hm rfl ?_ | refine wr_lent c9 rfl rfl rfl ?_ | refine wr_lent k9 rfl rfl rfl ?_ | refine wr_lent c10 rfl rfl rfl ?_ | refine wr_lent k10 rfl rfl rfl ?_ | refine wr_lent c11 rfl rfl rfl ?_)
      | with_reducible first | refine t_seq ?_ | refine t_skip ?_ | refine t_ret ?_ | refine t_end ?_ | refine t_cond ?_ | refine t_region ?_ | refine wr_done ?_ | refine WD.done _ ?_ | refine wdp_done ?_ | refine wdg_done ?_ | refine tr_some ?_ | refine t_block ?_ | refine t_loop ?_ | refine t_inLoop ?_ | refine t_inBlock ?_
      | ((with_reducible refine t_isDraw ?_); refine t_draw rfl (by kernel_rfl) ?_)
      | ((with_reducible refine t_isExit ?_); refine t_exit rfl ?_)
      | simp only [decide_eq_true_eq, decide_eq_false_iff_not, Bool.not_eq_true', Bool.not_eq_false'] at *
      | simp (disch := omega) only [go_sem, Nat.reduceLT, Nat.reduceEqDiff, Nat.reduceAdd, Nat.reduceLeDiff, Nat.reduceMul, Int.reduceLT, Int.reduceLE, Int.reduceAdd, Int.reduceSub, Int.reduceNeg, Int.reduceToNat, Int.reduceBEq, Int.reduceEq, reduceCtorEq, ↓reduceIte, *]
      | with_reducible first | refine tb_true ?_ | refine tb_false ?_
      | ((with_reducible first | refine tb_split ?_ ?_ | refine wg_f ?_ ?_ | refine wg_t ?_ ?_ | refine wd_f ?_ ?_ | refine wd_t ?_ ?_) <;> intro _)
    all_goals first | (exfalso; omega) | exact ⟨rfl, rfl⟩
  replace k11 := k11 z11
  subst z11
  refine meetsP (E := (EG (glF m))) 68 [.tmp 6] (eg (glF m)) Tryz.func3 rfl (by decide) rfl rfl (by simp) ?_
  repeat' first
    | ((with_reducible refine wr_isCall ?_); first | refine wr_P hsv rfl ?_ | refine wr_P hct rfl ?_ | refine wr_P h1 rfl ?_ | refine wr_P h2 rfl ?_ | refine wr_P hm rfl ?_ | refine wr_lent c9 rfl rfl rfl ?_ | refine wr_lent k9 rfl rfl rfl ?_ | refine wr_lent c10 rfl rfl rfl ?_ | refine wr_lent k10 rfl rfl rfl ?_ | refine wr_lent c11 rfl rfl rfl ?_ | refine wr_lent k11 rfl rfl rfl ?_)
    | with_reducible first | refine t_seq ?_ | refine t_skip ?_ | refine t_ret ?_ | refine t_end ?_ | refine t_cond ?_ | refine t_region ?_ | refine wr_done ?_ | refine WD.done _ ?_ | refine wdp_done ?_ | refine wdg_done ?_ | refine tr_some ?_ | refine t_block ?_ | refine t_loop ?_ | refine t_inLoop ?_ | refine t_inBlock ?_
    | ((with_reducible refine t_isDraw ?_); refine t_draw rfl (by kernel_rfl) ?_)
    | ((with_reducible refine t_isExit ?_); refine t_exit rfl ?_)
    | simp only [decide_eq_true_eq, decide_eq_false_iff_not, Bool.not_eq_true', Bool.not_eq_false'] at *
    | simp (disch := omega) only [go_sem, Nat.reduceLT, Nat.reduceEqDiff, Nat.reduceAdd, Nat.reduceLeDiff, Nat.reduceMul, Int.reduceLT, Int.reduceLE, Int.reduceAdd, Int.reduceSub, Int.reduceNeg, Int.reduceToNat, Int.reduceBEq, Int.reduceEq, reduceCtorEq, ↓reduceIte, *]
    | with_reducible first | refine tb_true ?_ | refine tb_false ?_
    | ((with_reducible first | refine tb_split ?_ ?_ | refine wg_f ?_ ?_ | refine wg_t ?_ ?_ | refine wd_f ?_ ?_ | refine wd_t ?_ ?_) <;> intro _)
  all_goals first | (exfalso; omega) | exact ⟨rfl, rfl⟩
end Go.Proofs.YthahgmncnbeddaaGreatDoorA
