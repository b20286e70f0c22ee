/- SolveMonths as a contract. -/
import Derived.Test.YthahgmncnbeddaaGreatDoorPS23
import Derived.Test.YthahgmncnbeddaaGreatDoorPS27
import Derived.Test.YthahgmncnbeddaaGreatDoorPS25
set_option linter.unusedVariables false
set_option linter.unusedSimpArgs false
namespace Go.Proofs.YthahgmncnbeddaaGreatDoorA
open Go Go.RowKit Go.Proofs.YthahgmncnbeddaaGreatDoorFx Go.Proofs
attribute [local go_sem] List.take_succ_cons List.take_zero List.take_nil List.drop_succ_cons List.drop_nil List.cons_append List.nil_append List.set_cons_zero List.set_cons_succ
variable {m : Int}
set_option maxRecDepth 10000000 in
theorem sevenOk : (catT.zipIdx.all fun p => decide (sumS (calOf p.2 p.1).ms ≤ 1000) && decide (sumL (calOf p.2 p.1).ms ≤ 1000) && decide (7 ≤ (((calOf p.2 p.1).ms[0]?).getD (([], 0, 0) : List UInt8 × Int × Int)).2.1) && decide (7 ≤ (((calOf p.2 p.1).ms[0]?).getD (([], 0, 0) : List UInt8 × Int × Int)).2.2)) = true := by kernel_rfl
theorem calN_seven {s : List UInt8} (h : ¬ Unknown s) : (calN s).Seven := by
  have hf := calN_far h
  obtain ⟨r, k, hm, _, e⟩ := calN_spec h
  have := List.all_eq_true.1 sevenOk (r, k) hm
  simp only [Bool.and_eq_true, decide_eq_true_eq] at this
  obtain ⟨⟨⟨h1, h2⟩, h3⟩, h4⟩ := this
  rw [← e] at h1 h2 h3 h4
  refine ⟨h1, h2, fun y => ?_, hf⟩
  unfold Cal.mlen
  split
  · exact h4
  · exact h3
set_option maxRecDepth 100000 in
theorem weekdayP {d : Int} (hd : chkDay d = 0) : MeetsP Tryz.prog (glT m) 21 [.i .i64 d] (.tup [.i .i64 ((d - 1) % 7), .i .i64 0]) := by
  have bd := chkDay_bb hd
  have hc := lineCheck (m := m) d
  rw [hd] at hc
  have hm := modP (m := m) (a := d - 1) (b := 7) (by omega) (by omega) (by omega) (by omega)
  refine meetsP (E := (EW m)) 13 [.tmp 2, .tmp 3] (ew m) Tryz.func21 rfl (by decide) rfl rfl (by simp) ?_
  repeat' first
    | ((with_reducible refine wr_isCall ?_); first | refine wr_P hc rfl ?_ | refine wr_P hm rfl ?_)
    | with_reducible first | refine t_seq ?_ | refine t_skip ?_ | refine t_ret ?_ | refine t_end ?_ | refine t_cond ?_ | refine t_region ?_ | refine wr_done ?_ | refine WD.done _ ?_ | refine wdp_done ?_ | refine wdg_done ?_ | refine tr_some ?_ | refine t_inBlock ?_
    | ((with_reducible refine t_isDraw ?_); refine t_draw rfl (by kernel_rfl) ?_)
    | ((fail_if_success with_reducible refine t_bl ?_); (with_reducible refine t_block ?_))
    | ((with_reducible refine t_isExit ?_); refine t_exit rfl ?_)
    | simp only [decide_eq_true_eq, decide_eq_false_iff_not, Bool.not_eq_true', Bool.not_eq_false'] at *
    | simp (disch := omega) only [go_sem, Nat.reduceLT, Nat.reduceEqDiff, Nat.reduceAdd, Nat.reduceLeDiff, Nat.reduceMul, Int.reduceLT, Int.reduceLE, Int.reduceAdd, Int.reduceSub, Int.reduceNeg, Int.reduceToNat, Int.reduceBEq, Int.reduceEq, reduceCtorEq, ↓reduceIte, *]
    | with_reducible first | refine tb_true ?_ | refine tb_false ?_
    | ((with_reducible first | refine tb_split ?_ ?_ | refine wg_f ?_ ?_ | refine wg_t ?_ ?_ | refine wd_f ?_ ?_ | refine wd_t ?_ ?_) <;> intro _)
  exact ⟨rfl, rfl⟩
/-- The n-th weekdays of months, as the law builds them. -/
def wkT (A W : Int) (nm : List UInt8) : Fs := .one 12 A 0 nm (.leaf 3 W 0 [])
def wkA (A W : Int) (nm : List UInt8) : AV := .agg [.i .i64 12, .i .i64 A, .i .i64 0, .s nm, .isl true 5 [[.i .i64 3, .i .i64 W, .i .i64 0, .s [], .nils]]]
theorem wk_wk (A W : Int) (nm : List UInt8) : Wk (wkA A W nm) (.agg (wkT A W nm).row) := (WkR.feast (Wk.kids1 (WkR.feast (Wk.nils 5)))).agg
theorem wk_on (A W : Int) (nm : List UInt8) : (wkT A W nm).on dN = nthS (moD (calN nm)) (wkd W) A 0 := by
  have e : (Fs.leaf 3 W 0 []).on dN = wkd W := by
    funext x
    simp only [Fs.on, wkd]
    rfl
  funext x
  show nthS (fun z => ((dN nm z).1, (dN nm z).2.1)) ((Fs.leaf 3 W 0 []).on dN) A 0 x = _
  rw [e]
  rfl
theorem wk_next {A W : Int} {nm : List UInt8} (hk : ¬ Unknown nm) (hA : A = 1 ∨ A = -1) (hW : 0 ≤ W ∧ W ≤ 6) {day : Int} (hd : chkDay day = 0) :
    MeetsP Tryz.prog (glF m) 19 [wkA A W nm, .i .i64 day] (nxR (fil (nthS (moD (calN nm)) (wkd W) A 0) day 3001)) := by
  have hm := (monF_ok m nm).2.2 hk
  have hr : FeR (wkT A W nm).row := .mk _ _ _ _ _ (by decide) (wf64 (by omega) (by omega)) (by decide) (fun x hx => by
    simp only [List.mem_cons, List.not_mem_nil, or_false] at hx
    rw [hx]
    exact .mk _ _ _ _ _ (by decide) (wf64 (by omega) (by omega)) (by decide) (fun x hx => by cases hx) (by simp)) (by simp)
  have hst : (wkT A W nm).st m 0 := by
    unfold wkT
    simp only [Fs.st]
    exact .inr (.inr ⟨trivial, by omega, hm.1, by omega, by omega, by omega, by omega, hm.2, .inr (.inr (.inl ⟨trivial, trivial, trivial, hW.1, hW.2⟩))⟩)
  obtain ⟨e, hc, _, hu⟩ := checkF (m := m) hr
  have he := hu _ rfl hst (by show max 0 1 + 1 ≤ 10; omega) (by show 1 + 1 ≤ 40; omega)
  subst he
  have h := nextP (m := m) ((wkT A W nm).st_wf 0 hst) (by show max 0 1 + 1 ≤ 10; omega) (by show 1 + 1 ≤ 40; omega) hc hd
  rw [wk_on] at h
  exact h.nar1 (wk_wk A W nm)
set_option maxRecDepth 100000 in
set_option maxHeartbeats 8000000 in
theorem solveMonthsP (k w day : Int) : MeetsP Tryz.prog (glF m) 5 [.i .i64 k, .i .i64 w, .i .i64 day] (.b true) := by
  have hsv := solvesP (m := m)
  have hn := weakP (glF_of m) (nameP (m := m) k)
  have hk := rowAt_known k
  have hct := weakP (glF_of m) (kcutP (m := m) (a := day) (lo := 1) (n := 700000) (by omega) (by omega) (by omega) (by omega))
  have hw := weakP (glF_of m) (kmodP (m := m) (a := w) (b := 7) (by omega) (by omega))
  have hW : 0 ≤ w % 7 ∧ w % 7 ≤ 6 := by omega
  have hD : 1 ≤ 1 + day % 700000 ∧ 1 + day % 700000 ≤ 700000 := by omega
  generalize 1 + day % 700000 = D at *
  generalize w % 7 = W at *
  generalize (rowAt k).name = nm at *
  have hg := calN_good (m := m) hk
  obtain ⟨n, l, R1, R2, y, mo, e1, e2, b1, b2, b3, b4, w1, w2, hat, hat', hd7, hno⟩ := months_law hg.toOk (calN_seven hk) hD.1 hD.2 hW
  have x1 := wk_next (m := m) hk (A := 1) (.inl rfl) hW (day := D) (chkDay_ok (by omega) (by omega))
  have x2 := wk_next (m := m) hk (A := -1) (.inr rfl) hW (day := n) (chkDay_ok (by omega) (by omega))
  rw [e1] at x1
  rw [e2] at x2
  have d1 := weakP (glF_of m) (calN_date (m := m) hk (hat.run hg))
  have d2 := weakP (glF_of m) (calN_date (m := m) hk (hat'.run hg))
  have hwd := weakP (glF_of m) (weekdayP (m := m) (d := n) (chkDay_ok (by omega) (by omega)))
  rw [w1] at hwd
  have hln : (l - n).tmod 7 = 0 := by rw [Int.tmod_eq_emod_of_nonneg (by omega)]; omega
  obtain ⟨y', mo', dd, e, d3, h3⟩ : ∃ y' mo' dd e : Int, MeetsP Tryz.prog (glF m) 20 [.s nm, .i .i64 (l + 7)] (resD (dateA y' mo' dd) e) ∧ (e = 0 → ¬ (mo' = (mo : Int) + 1 ∧ y' = y)) := by
    rcases fromDay_all hg (l + 7) with h | ⟨y', mo', h⟩
    · exact ⟨0, 0, 0, 3, weakP (glF_of m) (calN_date (m := m) hk h), fun q => absurd q (by decide)⟩
    · exact ⟨y', _, _, 0, weakP (glF_of m) (calN_date (m := m) hk (h.run hg)), fun _ q => hno y' mo' h ⟨q.2, by omega⟩⟩
  generalize n - (calN nm).first y + 1 - (calN nm).bef y mo = D1 at *
  generalize l - (calN nm).first y + 1 - (calN nm).bef y mo = D2 at *
  generalize ((mo : Int) + 1) = M at *
  unfold nxR at x1 x2
  unfold wkA at x1 x2
  unfold resD dateA at *
  clear e1 e2 hat hat' hno hg hk
  by_cases he : e = 0
  · replace h3 := h3 he
    subst he
    by_cases hM : mo' = M
    · have hy : ¬ y' = y := fun q => h3 ⟨hM, q⟩
      subst hM
      clear h3
      refine meetsP (E := (EG (glF m))) 117 [.tmp 6] (eg (glF m)) Tryz.func5 rfl (by decide) rfl rfl (by simp) ?_
      repeat' first
        | ((with_reducible refine wr_isCall ?_); first | refine wr_P hsv rfl ?_ | refine wr_P hct rfl ?_ | refine wr_P hn rfl ?_ | refine wr_P hw rfl ?_ | refine wr_lent x1 rfl rfl rfl ?_ | refine wr_lent x2 rfl rfl rfl ?_ | refine wr_P d1 rfl ?_ | refine wr_P d2 rfl ?_ | refine wr_P d3 rfl ?_ | refine wr_P hwd rfl ?_)
        | with_reducible first | refine t_seq ?_ | refine t_skip ?_ | refine t_ret ?_ | refine t_end ?_ | refine t_cond ?_ | refine t_region ?_ | refine wr_done ?_ | refine WD.done _ ?_ | refine wdp_done ?_ | refine wdg_done ?_ | refine tr_some ?_ | refine t_inBlock ?_
        | ((with_reducible refine t_isDraw ?_); refine t_draw rfl (by kernel_rfl) ?_)
        | ((fail_if_success with_reducible refine t_bl ?_); (with_reducible refine t_block ?_))
        | ((with_reducible refine t_isExit ?_); refine t_exit rfl ?_)
        | simp only [decide_eq_true_eq, decide_eq_false_iff_not, Bool.not_eq_true', Bool.not_eq_false'] at *
        | simp (disch := omega) only [go_sem, Nat.reduceLT, Nat.reduceEqDiff, Nat.reduceAdd, Nat.reduceLeDiff, Nat.reduceMul, Int.reduceLT, Int.reduceLE, Int.reduceAdd, Int.reduceSub, Int.reduceNeg, Int.reduceToNat, Int.reduceBEq, Int.reduceEq, reduceCtorEq, ↓reduceIte, *]
        | with_reducible first | refine tb_true ?_ | refine tb_false ?_
        | ((with_reducible first | refine tb_split ?_ ?_ | refine wg_f ?_ ?_ | refine wg_t ?_ ?_ | refine wd_f ?_ ?_ | refine wd_t ?_ ?_) <;> intro _)
      all_goals first | (exfalso; omega) | exact ⟨rfl, rfl⟩
    · clear h3
      refine meetsP (E := (EG (glF m))) 117 [.tmp 6] (eg (glF m)) Tryz.func5 rfl (by decide) rfl rfl (by simp) ?_
      repeat' first
        | ((with_reducible refine wr_isCall ?_); first | refine wr_P hsv rfl ?_ | refine wr_P hct rfl ?_ | refine wr_P hn rfl ?_ | refine wr_P hw rfl ?_ | refine wr_lent x1 rfl rfl rfl ?_ | refine wr_lent x2 rfl rfl rfl ?_ | refine wr_P d1 rfl ?_ | refine wr_P d2 rfl ?_ | refine wr_P d3 rfl ?_ | refine wr_P hwd rfl ?_)
        | with_reducible first | refine t_seq ?_ | refine t_skip ?_ | refine t_ret ?_ | refine t_end ?_ | refine t_cond ?_ | refine t_region ?_ | refine wr_done ?_ | refine WD.done _ ?_ | refine wdp_done ?_ | refine wdg_done ?_ | refine tr_some ?_ | refine t_inBlock ?_
        | ((with_reducible refine t_isDraw ?_); refine t_draw rfl (by kernel_rfl) ?_)
        | ((fail_if_success with_reducible refine t_bl ?_); (with_reducible refine t_block ?_))
        | ((with_reducible refine t_isExit ?_); refine t_exit rfl ?_)
        | simp only [decide_eq_true_eq, decide_eq_false_iff_not, Bool.not_eq_true', Bool.not_eq_false'] at *
        | simp (disch := omega) only [go_sem, Nat.reduceLT, Nat.reduceEqDiff, Nat.reduceAdd, Nat.reduceLeDiff, Nat.reduceMul, Int.reduceLT, Int.reduceLE, Int.reduceAdd, Int.reduceSub, Int.reduceNeg, Int.reduceToNat, Int.reduceBEq, Int.reduceEq, reduceCtorEq, ↓reduceIte, *]
        | with_reducible first | refine tb_true ?_ | refine tb_false ?_
        | ((with_reducible first | refine tb_split ?_ ?_ | refine wg_f ?_ ?_ | refine wg_t ?_ ?_ | refine wd_f ?_ ?_ | refine wd_t ?_ ?_) <;> intro _)
      all_goals first | (exfalso; omega) | exact ⟨rfl, rfl⟩
  · clear h3
    refine meetsP (E := (EG (glF m))) 117 [.tmp 6] (eg (glF m)) Tryz.func5 rfl (by decide) rfl rfl (by simp) ?_
    repeat' first
      | ((with_reducible refine wr_isCall ?_); first | refine wr_P hsv rfl ?_ | refine wr_P hct rfl ?_ | refine wr_P hn rfl ?_ | refine wr_P hw rfl ?_ | refine wr_lent x1 rfl rfl rfl ?_ | refine wr_lent x2 rfl rfl rfl ?_ | refine wr_P d1 rfl ?_ | refine wr_P d2 rfl ?_ | refine wr_P d3 rfl ?_ | refine wr_P hwd rfl ?_)
      | with_reducible first | refine t_seq ?_ | refine t_skip ?_ | refine t_ret ?_ | refine t_end ?_ | refine t_cond ?_ | refine t_region ?_ | refine wr_done ?_ | refine WD.done _ ?_ | refine wdp_done ?_ | refine wdg_done ?_ | refine tr_some ?_ | refine t_inBlock ?_
      | ((with_reducible refine t_isDraw ?_); refine t_draw rfl (by kernel_rfl) ?_)
      | ((fail_if_success with_reducible refine t_bl ?_); (with_reducible refine t_block ?_))
      | ((with_reducible refine t_isExit ?_); refine t_exit rfl ?_)
      | simp only [decide_eq_true_eq, decide_eq_false_iff_not, Bool.not_eq_true', Bool.not_eq_false'] at *
      | simp (disch := omega) only [go_sem, Nat.reduceLT, Nat.reduceEqDiff, Nat.reduceAdd, Nat.reduceLeDiff, Nat.reduceMul, Int.reduceLT, Int.reduceLE, Int.reduceAdd, Int.reduceSub, Int.reduceNeg, Int.reduceToNat, Int.reduceBEq, Int.reduceEq, reduceCtorEq, ↓reduceIte, *]
      | with_reducible first | refine tb_true ?_ | refine tb_false ?_
      | ((with_reducible first | refine tb_split ?_ ?_ | refine wg_f ?_ ?_ | refine wg_t ?_ ?_ | refine wd_f ?_ ?_ | refine wd_t ?_ ?_) <;> intro _)
    all_goals first | (exfalso; omega) | exact ⟨rfl, rfl⟩
end Go.Proofs.YthahgmncnbeddaaGreatDoorA
