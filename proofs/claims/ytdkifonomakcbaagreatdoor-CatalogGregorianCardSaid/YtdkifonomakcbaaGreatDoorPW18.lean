/- ArithNext as a contract. -/
import Derived.Test.YtdkifonomakcbaaGreatDoorPL2
import Derived.Test.YtdkifonomakcbaaGreatDoorPW17
set_option linter.unusedVariables false
set_option linter.unusedSimpArgs false
namespace Go.Proofs.YtdkifonomakcbaaGreatDoorA
open Go Go.RowKit Go.Proofs.YtdkifonomakcbaaGreatDoorFx Go.Proofs
variable {m : Int}
set_option maxRecDepth 100000 in
set_option maxHeartbeats 2000000 in
theorem arithNextP (k day : Int) : MeetsP Tryz.prog (glT m) 3 [.i .i64 k, .i .i64 day] (.b true) := by
  have hk := knownP (m := m)
  have hn := nameP (m := m) k
  have hc := calAtP (m := m) k
  have hct := kcutP (m := m) (a := day) (lo := -500000) (n := 1500000) (by omega) (by omega) (by omega) (by omega)
  have hg := calAt_good (m := m) k
  have hm1 := Int.emod_nonneg day (show (1500000 : Int) ≠ 0 by omega)
  have hm2 := Int.emod_lt_of_pos day (show (0 : Int) < 1500000 by omega)
  generalize hY : -500000 + day % 1500000 = D at hct
  have hD1 : -500000 ≤ D := by omega
  have hD2 : D < 1000000 := by omega
  clear hY hm1 hm2
  have hfar := first_far (pick_mem k)
  have hpos := ylen_pos (pick_mem k)
  rw [show calOf (pick k) (rowAt k) = calAt k from rfl] at hfar
  simp only [show calOf (pick k) (rowAt k) = calAt k from rfl] at hpos
  rcases fromDay_all hg D with hf | ⟨y, mo, hat⟩
  · obtain ⟨y1, y2, y3, y4, y5, hy, ⟨o1, o2, o3, o4, o5⟩, n1, n2⟩ := (calAt k).A_parts
    rw [hy] at hc hf
    unfold resD dateA at *
    refine meetsP (E := (EW m)) 140 [.tmp 4] (ew m) Tryz.func3 rfl (by decide) rfl rfl (by simp) ?_
    repeat' first
      | ((with_reducible refine wr_isCall ?_); refine wr_P hk rfl ?_)
      | ((with_reducible refine wr_isCall ?_); refine wr_P hn rfl ?_)
      | ((with_reducible refine wr_isCall ?_); refine wr_P hc rfl ?_)
      | ((with_reducible refine wr_isCall ?_); refine wr_P hct rfl ?_)
      | ((with_reducible refine wr_isCall ?_); refine wr_P hf (n2 _) ?_)
      | (with_reducible refine t_seq ?_)
      | (with_reducible refine t_skip ?_)
      | (with_reducible refine t_ret ?_)
      | (with_reducible refine t_end ?_)
      | (with_reducible refine t_cond ?_)
      | (with_reducible refine t_region ?_)
      | (with_reducible refine wr_done ?_)
      | ((with_reducible refine t_isDraw ?_); refine t_draw rfl (by kernel_rfl) ?_)
      | (with_reducible refine WD.done _ ?_)
      | (with_reducible refine wdp_done ?_)
      | (with_reducible refine tr_some ?_)
      | ((fail_if_success with_reducible refine t_bl ?_); (with_reducible refine t_block ?_))
      | (with_reducible refine t_inBlock ?_)
      | ((with_reducible refine t_isExit ?_); refine t_exit rfl ?_)
      | simp only [decide_eq_true_eq, decide_eq_false_iff_not, Bool.not_eq_true', Bool.not_eq_false'] at *
      | simp (disch := omega) only [go_sem, Nat.reduceLT, Nat.reduceEqDiff, Nat.reduceAdd, Nat.reduceLeDiff, Nat.reduceMul, Int.reduceLT, Int.reduceLE, Int.reduceAdd, Int.reduceSub, Int.reduceNeg, Int.reduceToNat, Int.reduceBEq, Int.reduceEq, reduceCtorEq, List.take_succ_cons, List.take_zero, List.take_nil, List.drop_succ_cons, List.drop_nil, List.cons_append, List.nil_append, List.set_cons_zero, List.set_cons_succ, ↓reduceIte, *]
      | (with_reducible refine tb_true ?_)
      | (with_reducible refine tb_false ?_)
      | (with_reducible refine tb_split (fun _ => ?_) (fun _ => ?_))
      | (with_reducible refine wg_f (fun _ => ?_) (fun _ => ?_))
      | (with_reducible refine wg_t (fun _ => ?_) (fun _ => ?_))
      | (with_reducible refine wd_f (fun _ => ?_) (fun _ => ?_))
      | (with_reducible refine wd_t (fun _ => ?_) (fun _ => ?_))
    exact ⟨rfl, rfl⟩
  have hf := hat.run hg
  have hch : chkDay (D + 1) = 0 := if_neg (by omega)
  obtain ⟨y', mo', hat'⟩ : ∃ y' mo', (calAt k).At (D + 1) y' mo' := by
    rcases hg.toOk.at_or (D + 1) with h | ⟨_, h⟩ | h
    · rw [hch] at h; cases h
    · exfalso; omega
    · exact h
  have hf' := hat'.run hg
  have hml := monthLenP (m := m) hg y ((mo : Int) + 1) (by omega) (by have := hat.hmo; omega)
  have q1 := hat.y1
  have q2 := hat.y2
  rw [if_pos (show chkYear y = 0 from if_neg (by omega))] at hml
  have hmj := fun (j : Int) (h1 : 1 ≤ j) (h2 : j ≤ (calAt k).ms.length) => monthLenP (m := m) hg y j h1 h2
  simp only [if_pos (show chkYear y = 0 from if_neg (by omega))] at hmj
  by_cases hlt : D - (calAt k).first y + 1 - (calAt k).bef y mo < (calAt k).mlen y (mo + 1)
  · have hst := (hat.stay hg.toOk hlt hch).run hg
    rw [show D + 1 - (calAt k).first y + 1 - (calAt k).bef y mo = D - (calAt k).first y + 1 - (calAt k).bef y mo + 1 by omega] at hst
    have bd : -1000000000 ≤ D - (calAt k).first y + 1 - (calAt k).bef y mo ∧ D - (calAt k).first y + 1 - (calAt k).bef y mo ≤ 1000 := by
      have := (hg.toOk.mlen_bounds y (mo + 1)).2
      have := hat.r1
      omega
    generalize D - (calAt k).first y + 1 - (calAt k).bef y mo = Dd at *
    generalize (calAt k).mlen y (mo + 1) = ML at *
    generalize ((mo : Int) + 1) = M at *
    obtain ⟨y1, y2, y3, y4, y5, hy, ⟨o1, o2, o3, o4, o5⟩, n1, n2⟩ := (calAt k).A_parts
    have n3 : ∀ a b, [AV.agg [y1, y2, y3, y4, y5], a, b].all (noid 12) = (noid 12 a && noid 12 b) := fun a b => by
      have := n2 (.b true)
      simp only [List.all_cons, List.all_nil, Bool.and_true] at this n1 ⊢
      rw [n1, Bool.true_and]
    rw [hy] at hc hf hst hml
    unfold resD dateA at *
    refine meetsP (E := (EW m)) 140 [.tmp 4] (ew m) Tryz.func3 rfl (by decide) rfl rfl (by simp) ?_
    repeat' first
      | ((with_reducible refine wr_isCall ?_); refine wr_P hk rfl ?_)
      | ((with_reducible refine wr_isCall ?_); refine wr_P hn rfl ?_)
      | ((with_reducible refine wr_isCall ?_); refine wr_P hc rfl ?_)
      | ((with_reducible refine wr_isCall ?_); refine wr_P hct rfl ?_)
      | ((with_reducible refine wr_isCall ?_); refine wr_P hf (n2 _) ?_)
      | ((with_reducible refine wr_isCall ?_); refine wr_P hst (n2 _) ?_)
      | ((with_reducible refine wr_isCall ?_); refine wr_P hml (n3 _ _) ?_)
      | (with_reducible refine t_seq ?_)
      | (with_reducible refine t_skip ?_)
      | (with_reducible refine t_ret ?_)
      | (with_reducible refine t_end ?_)
      | (with_reducible refine t_cond ?_)
      | (with_reducible refine t_region ?_)
      | (with_reducible refine wr_done ?_)
      | ((with_reducible refine t_isDraw ?_); refine t_draw rfl (by kernel_rfl) ?_)
      | (with_reducible refine WD.done _ ?_)
      | (with_reducible refine wdp_done ?_)
      | (with_reducible refine tr_some ?_)
      | ((fail_if_success with_reducible refine t_bl ?_); (with_reducible refine t_block ?_))
      | (with_reducible refine t_inBlock ?_)
      | ((with_reducible refine t_isExit ?_); refine t_exit rfl ?_)
      | simp only [decide_eq_true_eq, decide_eq_false_iff_not, Bool.not_eq_true', Bool.not_eq_false'] at *
      | simp (disch := omega) only [go_sem, Nat.reduceLT, Nat.reduceEqDiff, Nat.reduceAdd, Nat.reduceLeDiff, Nat.reduceMul, Int.reduceLT, Int.reduceLE, Int.reduceAdd, Int.reduceSub, Int.reduceNeg, Int.reduceToNat, Int.reduceBEq, Int.reduceEq, reduceCtorEq, List.take_succ_cons, List.take_zero, List.take_nil, List.drop_succ_cons, List.drop_nil, List.cons_append, List.nil_append, List.set_cons_zero, List.set_cons_succ, ↓reduceIte, *]
      | (with_reducible refine tb_true ?_)
      | (with_reducible refine tb_false ?_)
      | (with_reducible refine tb_split (fun _ => ?_) (fun _ => ?_))
      | (with_reducible refine wg_f (fun _ => ?_) (fun _ => ?_))
      | (with_reducible refine wg_t (fun _ => ?_) (fun _ => ?_))
      | (with_reducible refine wd_f (fun _ => ?_) (fun _ => ?_))
      | (with_reducible refine wd_t (fun _ => ?_) (fun _ => ?_))
    exact ⟨rfl, rfl⟩
  · obtain ⟨hone, hnx⟩ := hat.next hg.toOk hpos hlt hat'
    rw [hone] at hf'
    have hz : ∀ mm : Int, (mo : Int) + 2 ≤ mm → mm ≤ (calAt k).ms.length → (y < y' ∨ mm < (mo' : Int) + 1) → MeetsP Tryz.prog (glT m) 14 [(calAt k).A, .i .i64 y, .i .i64 mm] (.tup [.i .i64 0, .i .i64 0]) := fun mm h1 h2 h3 => by
      have p := hmj mm (by omega) h2
      have e : (calAt k).mlen y mm = 0 := by
        have ee : ((mm.toNat - 1 : Nat) : Int) + 1 = mm := by omega
        rcases hnx with ⟨e0, _, hj⟩ | ⟨e0, hj⟩
        · have := hj (mm.toNat - 1) (by omega) (by omega)
          rwa [ee] at this
        · have := hj (mm.toNat - 1) (by omega) (by omega)
          rwa [ee] at this
      rwa [e] at p
    have hyy : y' = y ∧ (mo : Int) + 1 < (mo' : Int) + 1 ∨ y' = y + 1 := by
      rcases hnx with ⟨e0, e1, _⟩ | ⟨e0, _⟩
      · exact .inl ⟨e0, by omega⟩
      · exact .inr e0
    have hmo := hat.hmo
    have h20 := hg.toOk.len2
    have bd : -1000000000 ≤ D - (calAt k).first y + 1 - (calAt k).bef y mo ∧ D - (calAt k).first y + 1 - (calAt k).bef y mo ≤ 1000000000 := by
      have := hg.toOk.bef_bounds y mo
      have := hg.toOk.first_bounds (y := y) (by omega) (by omega)
      have := hat.r1
      have := hat.b
      have := hg.toOk.first_succ y
      have := hg.toOk.ylen_nonneg y
      omega
    clear hnx hmj hone hfar hpos hch
    generalize D - (calAt k).first y + 1 - (calAt k).bef y mo = Dd at *
    generalize (calAt k).mlen y (mo + 1) = ML at *
    generalize hM : ((mo : Int) + 1) = M at *
    generalize hM' : ((mo' : Int) + 1) = M' at *
    have hM1 : 1 ≤ M := by omega
    have hM2 : M ≤ (calAt k).ms.length := by omega
    replace hz : ∀ mm : Int, M + 1 ≤ mm → mm ≤ (calAt k).ms.length → (y < y' ∨ mm < M') → MeetsP Tryz.prog (glT m) 14 [(calAt k).A, .i .i64 y, .i .i64 mm] (.tup [.i .i64 0, .i .i64 0]) := fun mm h1 h2 h3 => hz mm (by omega) h2 h3
    clear hmo hat hat' hM hM'
    obtain ⟨y1, y2, y3, y5, L, hy, hL, ⟨o1, o2, o3, o5⟩, n1, n2, n3⟩ := (calAt k).A_parts2
    rw [hy] at hc hf hf' hml
    simp only [hy] at hz
    rw [← hL] at hM2 hz h20
    unfold resD dateA at *
    clear hy hL
    rcases hyy with ⟨e0, hMM⟩ | e0
    · subst y'
      refine meetsP (E := (EW m)) 140 [.tmp 4] (ew m) Tryz.func3 rfl (by decide) rfl rfl (by simp) ?_
      repeat' first
        | ((with_reducible refine wr_isCall ?_); refine wr_P hk rfl ?_)
        | ((with_reducible refine wr_isCall ?_); refine wr_P hn rfl ?_)
        | ((with_reducible refine wr_isCall ?_); refine wr_P hc rfl ?_)
        | ((with_reducible refine wr_isCall ?_); refine wr_P hct rfl ?_)
        | ((with_reducible refine wr_isCall ?_); refine wr_P hf (n2 _) ?_)
        | ((with_reducible refine wr_isCall ?_); refine wr_P hf' (n2 _) ?_)
        | ((with_reducible refine wr_isCall ?_); refine wr_P hml (n3 _ _) ?_)
        | (with_reducible refine t_seq ?_)
        | (with_reducible refine t_skip ?_)
        | (with_reducible refine t_ret ?_)
        | (with_reducible refine t_end ?_)
        | (with_reducible refine t_cond ?_)
        | (with_reducible refine t_region ?_)
        | (with_reducible refine wr_done ?_)
        | ((with_reducible refine t_isDraw ?_); refine t_draw rfl (by kernel_rfl) ?_)
        | (with_reducible refine WD.done _ ?_)
        | (with_reducible refine wdp_done ?_)
        | (with_reducible refine tr_some ?_)
        | ((fail_if_success with_reducible refine t_bl ?_); (with_reducible refine t_block ?_))
        | (with_reducible refine t_inBlock ?_)
        | ((with_reducible refine t_isExit ?_); refine t_exit rfl ?_)
        | simp only [decide_eq_true_eq, decide_eq_false_iff_not, Bool.not_eq_true', Bool.not_eq_false'] at *
        | simp (disch := omega) only [go_sem, Nat.reduceLT, Nat.reduceEqDiff, Nat.reduceAdd, Nat.reduceLeDiff, Nat.reduceMul, Int.reduceLT, Int.reduceLE, Int.reduceAdd, Int.reduceSub, Int.reduceNeg, Int.reduceToNat, Int.reduceBEq, Int.reduceEq, reduceCtorEq, List.take_succ_cons, List.take_zero, List.take_nil, List.drop_succ_cons, List.drop_nil, List.cons_append, List.nil_append, List.set_cons_zero, List.set_cons_succ, ↓reduceIte, *]
        | (with_reducible refine tb_true ?_)
        | (with_reducible refine tb_false ?_)
        | (with_reducible refine tb_split (fun _ => ?_) (fun _ => ?_))
        | (with_reducible refine wg_f (fun _ => ?_) (fun _ => ?_))
        | (with_reducible refine wg_t (fun _ => ?_) (fun _ => ?_))
        | (with_reducible refine wd_f (fun _ => ?_) (fun _ => ?_))
        | (with_reducible refine wd_t (fun _ => ?_) (fun _ => ?_))
      all_goals first | (exfalso; omega) | skip
      refine t_while (I := fun (i : Nat) t h => M + 1 + i ≤ L.length + 1 ∧ h = ⟨[(2, .rows 3 [[.i .i64 y, .i .i64 M', .i .i64 1]]), (1, .rows 3 [[.i .i64 y, .i .i64 M, .i .i64 Dd]]), (0, .rows 5 [[y1, y2, y3, .isl false 3 L, y5]])], 3⟩ ∧ get t 12 = .i .i64 (M + 1 + i) ∧ get t 5 = .ptr 0 0 0 ∧ get t 7 = .ptr 1 0 0 ∧ get t 9 = .ptr 2 0 0) (m := fun i => L.length + 1 - i)
        (J := fun t h => True) 0 ⟨by omega, rfl, by simp [get], by simp [get], by simp [get], by simp [get]⟩ ?_ ?_
      · rintro i t h ⟨hi, rfl, g12, g5, g7, g9⟩ hrec hex
        by_cases c1 : M + 1 + (i : Int) ≤ (L.length : Int)
        · by_cases c2 : M + 1 + (i : Int) < M'
          · have hM := hz (M + 1 + i) (by omega) c1 (.inr c2)
            repeat' first
              | ((with_reducible refine wr_isCall ?_); refine wr_P hM (n3 _ _) ?_)
              | (with_reducible refine t_seq ?_)
              | (with_reducible refine t_skip ?_)
              | (with_reducible refine t_ret ?_)
              | (with_reducible refine t_end ?_)
              | (with_reducible refine t_cond ?_)
              | (with_reducible refine t_region ?_)
              | (with_reducible refine wr_done ?_)
              | ((with_reducible refine t_isDraw ?_); refine t_draw rfl (by kernel_rfl) ?_)
              | (with_reducible refine WD.done _ ?_)
              | (with_reducible refine wdp_done ?_)
              | (with_reducible refine tr_some ?_)
              | ((fail_if_success with_reducible refine t_bl ?_); (with_reducible refine t_block ?_))
              | (with_reducible refine t_inBlock ?_)
              | ((with_reducible refine t_isExit ?_); refine t_exit rfl ?_)
              | simp only [decide_eq_true_eq, decide_eq_false_iff_not, Bool.not_eq_true', Bool.not_eq_false'] at *
              | simp (disch := omega) only [go_sem, Nat.reduceLT, Nat.reduceEqDiff, Nat.reduceAdd, Nat.reduceLeDiff, Nat.reduceMul, Int.reduceLT, Int.reduceLE, Int.reduceAdd, Int.reduceSub, Int.reduceNeg, Int.reduceToNat, Int.reduceBEq, Int.reduceEq, reduceCtorEq, List.take_succ_cons, List.take_zero, List.take_nil, List.drop_succ_cons, List.drop_nil, List.cons_append, List.nil_append, List.set_cons_zero, List.set_cons_succ, ↓reduceIte, *]
              | (with_reducible refine tb_true ?_)
              | (with_reducible refine tb_false ?_)
              | (with_reducible refine tb_split (fun _ => ?_) (fun _ => ?_))
              | (with_reducible refine wg_f (fun _ => ?_) (fun _ => ?_))
              | (with_reducible refine wg_t (fun _ => ?_) (fun _ => ?_))
              | (with_reducible refine wd_f (fun _ => ?_) (fun _ => ?_))
              | (with_reducible refine wd_t (fun _ => ?_) (fun _ => ?_))
            all_goals first | (exfalso; omega) | skip
            refine hrec (i + 1) _ _ ⟨by omega, rfl, by simp [get]; omega, by simp [get, g5], by simp [get, g7], by simp [get, g9]⟩ (by omega)
          · repeat' first
              | refine hex _ _ trivial
              | (with_reducible refine t_seq ?_)
              | (with_reducible refine t_skip ?_)
              | (with_reducible refine t_ret ?_)
              | (with_reducible refine t_end ?_)
              | (with_reducible refine t_cond ?_)
              | (with_reducible refine t_region ?_)
              | (with_reducible refine wr_done ?_)
              | ((with_reducible refine t_isDraw ?_); refine t_draw rfl (by kernel_rfl) ?_)
              | (with_reducible refine WD.done _ ?_)
              | (with_reducible refine wdp_done ?_)
              | (with_reducible refine tr_some ?_)
              | ((fail_if_success with_reducible refine t_bl ?_); (with_reducible refine t_block ?_))
              | (with_reducible refine t_inBlock ?_)
              | ((with_reducible refine t_isExit ?_); refine t_exit rfl ?_)
              | simp only [decide_eq_true_eq, decide_eq_false_iff_not, Bool.not_eq_true', Bool.not_eq_false'] at *
              | simp (disch := omega) only [go_sem, Nat.reduceLT, Nat.reduceEqDiff, Nat.reduceAdd, Nat.reduceLeDiff, Nat.reduceMul, Int.reduceLT, Int.reduceLE, Int.reduceAdd, Int.reduceSub, Int.reduceNeg, Int.reduceToNat, Int.reduceBEq, Int.reduceEq, reduceCtorEq, List.take_succ_cons, List.take_zero, List.take_nil, List.drop_succ_cons, List.drop_nil, List.cons_append, List.nil_append, List.set_cons_zero, List.set_cons_succ, ↓reduceIte, *]
              | (with_reducible refine tb_true ?_)
              | (with_reducible refine tb_false ?_)
              | (with_reducible refine tb_split (fun _ => ?_) (fun _ => ?_))
              | (with_reducible refine wg_f (fun _ => ?_) (fun _ => ?_))
              | (with_reducible refine wg_t (fun _ => ?_) (fun _ => ?_))
              | (with_reducible refine wd_f (fun _ => ?_) (fun _ => ?_))
              | (with_reducible refine wd_t (fun _ => ?_) (fun _ => ?_))
            all_goals first | (exfalso; omega) | skip
        · repeat' first
            | refine hex _ _ trivial
            | (with_reducible refine t_seq ?_)
            | (with_reducible refine t_skip ?_)
            | (with_reducible refine t_ret ?_)
            | (with_reducible refine t_end ?_)
            | (with_reducible refine t_cond ?_)
            | (with_reducible refine t_region ?_)
            | (with_reducible refine wr_done ?_)
            | ((with_reducible refine t_isDraw ?_); refine t_draw rfl (by kernel_rfl) ?_)
            | (with_reducible refine WD.done _ ?_)
            | (with_reducible refine wdp_done ?_)
            | (with_reducible refine tr_some ?_)
            | ((fail_if_success with_reducible refine t_bl ?_); (with_reducible refine t_block ?_))
            | (with_reducible refine t_inBlock ?_)
            | ((with_reducible refine t_isExit ?_); refine t_exit rfl ?_)
            | simp only [decide_eq_true_eq, decide_eq_false_iff_not, Bool.not_eq_true', Bool.not_eq_false'] at *
            | simp (disch := omega) only [go_sem, Nat.reduceLT, Nat.reduceEqDiff, Nat.reduceAdd, Nat.reduceLeDiff, Nat.reduceMul, Int.reduceLT, Int.reduceLE, Int.reduceAdd, Int.reduceSub, Int.reduceNeg, Int.reduceToNat, Int.reduceBEq, Int.reduceEq, reduceCtorEq, List.take_succ_cons, List.take_zero, List.take_nil, List.drop_succ_cons, List.drop_nil, List.cons_append, List.nil_append, List.set_cons_zero, List.set_cons_succ, ↓reduceIte, *]
            | (with_reducible refine tb_true ?_)
            | (with_reducible refine tb_false ?_)
            | (with_reducible refine tb_split (fun _ => ?_) (fun _ => ?_))
            | (with_reducible refine wg_f (fun _ => ?_) (fun _ => ?_))
            | (with_reducible refine wg_t (fun _ => ?_) (fun _ => ?_))
            | (with_reducible refine wd_f (fun _ => ?_) (fun _ => ?_))
            | (with_reducible refine wd_t (fun _ => ?_) (fun _ => ?_))
          all_goals first | (exfalso; omega) | skip
      · rintro t h -
        repeat' first
          | (with_reducible refine t_seq ?_)
          | (with_reducible refine t_skip ?_)
          | (with_reducible refine t_ret ?_)
          | (with_reducible refine t_end ?_)
          | (with_reducible refine t_cond ?_)
          | (with_reducible refine t_region ?_)
          | (with_reducible refine wr_done ?_)
          | ((with_reducible refine t_isDraw ?_); refine t_draw rfl (by kernel_rfl) ?_)
          | (with_reducible refine WD.done _ ?_)
          | (with_reducible refine wdp_done ?_)
          | (with_reducible refine tr_some ?_)
          | ((fail_if_success with_reducible refine t_bl ?_); (with_reducible refine t_block ?_))
          | (with_reducible refine t_inBlock ?_)
          | ((with_reducible refine t_isExit ?_); refine t_exit rfl ?_)
          | simp only [decide_eq_true_eq, decide_eq_false_iff_not, Bool.not_eq_true', Bool.not_eq_false'] at *
          | simp (disch := omega) only [go_sem, Nat.reduceLT, Nat.reduceEqDiff, Nat.reduceAdd, Nat.reduceLeDiff, Nat.reduceMul, Int.reduceLT, Int.reduceLE, Int.reduceAdd, Int.reduceSub, Int.reduceNeg, Int.reduceToNat, Int.reduceBEq, Int.reduceEq, reduceCtorEq, List.take_succ_cons, List.take_zero, List.take_nil, List.drop_succ_cons, List.drop_nil, List.cons_append, List.nil_append, List.set_cons_zero, List.set_cons_succ, ↓reduceIte, *]
          | (with_reducible refine tb_true ?_)
          | (with_reducible refine tb_false ?_)
          | (with_reducible refine tb_split (fun _ => ?_) (fun _ => ?_))
          | (with_reducible refine wg_f (fun _ => ?_) (fun _ => ?_))
          | (with_reducible refine wg_t (fun _ => ?_) (fun _ => ?_))
          | (with_reducible refine wd_f (fun _ => ?_) (fun _ => ?_))
          | (with_reducible refine wd_t (fun _ => ?_) (fun _ => ?_))
        exact ⟨rfl, rfl⟩
    · subst y'
      refine meetsP (E := (EW m)) 140 [.tmp 4] (ew m) Tryz.func3 rfl (by decide) rfl rfl (by simp) ?_
      repeat' first
        | ((with_reducible refine wr_isCall ?_); refine wr_P hk rfl ?_)
        | ((with_reducible refine wr_isCall ?_); refine wr_P hn rfl ?_)
        | ((with_reducible refine wr_isCall ?_); refine wr_P hc rfl ?_)
        | ((with_reducible refine wr_isCall ?_); refine wr_P hct rfl ?_)
        | ((with_reducible refine wr_isCall ?_); refine wr_P hf (n2 _) ?_)
        | ((with_reducible refine wr_isCall ?_); refine wr_P hf' (n2 _) ?_)
        | ((with_reducible refine wr_isCall ?_); refine wr_P hml (n3 _ _) ?_)
        | (with_reducible refine t_seq ?_)
        | (with_reducible refine t_skip ?_)
        | (with_reducible refine t_ret ?_)
        | (with_reducible refine t_end ?_)
        | (with_reducible refine t_cond ?_)
        | (with_reducible refine t_region ?_)
        | (with_reducible refine wr_done ?_)
        | ((with_reducible refine t_isDraw ?_); refine t_draw rfl (by kernel_rfl) ?_)
        | (with_reducible refine WD.done _ ?_)
        | (with_reducible refine wdp_done ?_)
        | (with_reducible refine tr_some ?_)
        | ((fail_if_success with_reducible refine t_bl ?_); (with_reducible refine t_block ?_))
        | (with_reducible refine t_inBlock ?_)
        | ((with_reducible refine t_isExit ?_); refine t_exit rfl ?_)
        | simp only [decide_eq_true_eq, decide_eq_false_iff_not, Bool.not_eq_true', Bool.not_eq_false'] at *
        | simp (disch := omega) only [go_sem, Nat.reduceLT, Nat.reduceEqDiff, Nat.reduceAdd, Nat.reduceLeDiff, Nat.reduceMul, Int.reduceLT, Int.reduceLE, Int.reduceAdd, Int.reduceSub, Int.reduceNeg, Int.reduceToNat, Int.reduceBEq, Int.reduceEq, reduceCtorEq, List.take_succ_cons, List.take_zero, List.take_nil, List.drop_succ_cons, List.drop_nil, List.cons_append, List.nil_append, List.set_cons_zero, List.set_cons_succ, ↓reduceIte, *]
        | (with_reducible refine tb_true ?_)
        | (with_reducible refine tb_false ?_)
        | (with_reducible refine tb_split (fun _ => ?_) (fun _ => ?_))
        | (with_reducible refine wg_f (fun _ => ?_) (fun _ => ?_))
        | (with_reducible refine wg_t (fun _ => ?_) (fun _ => ?_))
        | (with_reducible refine wd_f (fun _ => ?_) (fun _ => ?_))
        | (with_reducible refine wd_t (fun _ => ?_) (fun _ => ?_))
      all_goals first | (exfalso; omega) | skip
      refine t_while (I := fun (i : Nat) t h => M + 1 + i ≤ L.length + 1 ∧ h = ⟨[(2, .rows 3 [[.i .i64 (y + 1), .i .i64 M', .i .i64 1]]), (1, .rows 3 [[.i .i64 y, .i .i64 M, .i .i64 Dd]]), (0, .rows 5 [[y1, y2, y3, .isl false 3 L, y5]])], 3⟩ ∧ get t 12 = .i .i64 (M + 1 + i) ∧ get t 5 = .ptr 0 0 0 ∧ get t 7 = .ptr 1 0 0 ∧ get t 9 = .ptr 2 0 0) (m := fun i => L.length + 1 - i)
        (J := fun t h => True) 0 ⟨by omega, rfl, by simp [get], by simp [get], by simp [get], by simp [get]⟩ ?_ ?_
      · rintro i t h ⟨hi, rfl, g12, g5, g7, g9⟩ hrec hex
        by_cases c1 : M + 1 + (i : Int) ≤ (L.length : Int)
        · have hM := hz (M + 1 + i) (by omega) c1 (.inl (by omega))
          repeat' first
            | ((with_reducible refine wr_isCall ?_); refine wr_P hM (n3 _ _) ?_)
            | (with_reducible refine t_seq ?_)
            | (with_reducible refine t_skip ?_)
            | (with_reducible refine t_ret ?_)
            | (with_reducible refine t_end ?_)
            | (with_reducible refine t_cond ?_)
            | (with_reducible refine t_region ?_)
            | (with_reducible refine wr_done ?_)
            | ((with_reducible refine t_isDraw ?_); refine t_draw rfl (by kernel_rfl) ?_)
            | (with_reducible refine WD.done _ ?_)
            | (with_reducible refine wdp_done ?_)
            | (with_reducible refine tr_some ?_)
            | ((fail_if_success with_reducible refine t_bl ?_); (with_reducible refine t_block ?_))
            | (with_reducible refine t_inBlock ?_)
            | ((with_reducible refine t_isExit ?_); refine t_exit rfl ?_)
            | simp only [decide_eq_true_eq, decide_eq_false_iff_not, Bool.not_eq_true', Bool.not_eq_false'] at *
            | simp (disch := omega) only [go_sem, Nat.reduceLT, Nat.reduceEqDiff, Nat.reduceAdd, Nat.reduceLeDiff, Nat.reduceMul, Int.reduceLT, Int.reduceLE, Int.reduceAdd, Int.reduceSub, Int.reduceNeg, Int.reduceToNat, Int.reduceBEq, Int.reduceEq, reduceCtorEq, List.take_succ_cons, List.take_zero, List.take_nil, List.drop_succ_cons, List.drop_nil, List.cons_append, List.nil_append, List.set_cons_zero, List.set_cons_succ, ↓reduceIte, *]
            | (with_reducible refine tb_true ?_)
            | (with_reducible refine tb_false ?_)
            | (with_reducible refine tb_split (fun _ => ?_) (fun _ => ?_))
            | (with_reducible refine wg_f (fun _ => ?_) (fun _ => ?_))
            | (with_reducible refine wg_t (fun _ => ?_) (fun _ => ?_))
            | (with_reducible refine wd_f (fun _ => ?_) (fun _ => ?_))
            | (with_reducible refine wd_t (fun _ => ?_) (fun _ => ?_))
          all_goals first | (exfalso; omega) | skip
          refine hrec (i + 1) _ _ ⟨by omega, rfl, by simp [get]; omega, by simp [get, g5], by simp [get, g7], by simp [get, g9]⟩ (by omega)
        · repeat' first
            | refine hex _ _ trivial
            | (with_reducible refine t_seq ?_)
            | (with_reducible refine t_skip ?_)
            | (with_reducible refine t_ret ?_)
            | (with_reducible refine t_end ?_)
            | (with_reducible refine t_cond ?_)
            | (with_reducible refine t_region ?_)
            | (with_reducible refine wr_done ?_)
            | ((with_reducible refine t_isDraw ?_); refine t_draw rfl (by kernel_rfl) ?_)
            | (with_reducible refine WD.done _ ?_)
            | (with_reducible refine wdp_done ?_)
            | (with_reducible refine tr_some ?_)
            | ((fail_if_success with_reducible refine t_bl ?_); (with_reducible refine t_block ?_))
            | (with_reducible refine t_inBlock ?_)
            | ((with_reducible refine t_isExit ?_); refine t_exit rfl ?_)
            | simp only [decide_eq_true_eq, decide_eq_false_iff_not, Bool.not_eq_true', Bool.not_eq_false'] at *
            | simp (disch := omega) only [go_sem, Nat.reduceLT, Nat.reduceEqDiff, Nat.reduceAdd, Nat.reduceLeDiff, Nat.reduceMul, Int.reduceLT, Int.reduceLE, Int.reduceAdd, Int.reduceSub, Int.reduceNeg, Int.reduceToNat, Int.reduceBEq, Int.reduceEq, reduceCtorEq, List.take_succ_cons, List.take_zero, List.take_nil, List.drop_succ_cons, List.drop_nil, List.cons_append, List.nil_append, List.set_cons_zero, List.set_cons_succ, ↓reduceIte, *]
            | (with_reducible refine tb_true ?_)
            | (with_reducible refine tb_false ?_)
            | (with_reducible refine tb_split (fun _ => ?_) (fun _ => ?_))
            | (with_reducible refine wg_f (fun _ => ?_) (fun _ => ?_))
            | (with_reducible refine wg_t (fun _ => ?_) (fun _ => ?_))
            | (with_reducible refine wd_f (fun _ => ?_) (fun _ => ?_))
            | (with_reducible refine wd_t (fun _ => ?_) (fun _ => ?_))
          all_goals first | (exfalso; omega) | skip
      · rintro t h -
        repeat' first
          | (with_reducible refine t_seq ?_)
          | (with_reducible refine t_skip ?_)
          | (with_reducible refine t_ret ?_)
          | (with_reducible refine t_end ?_)
          | (with_reducible refine t_cond ?_)
          | (with_reducible refine t_region ?_)
          | (with_reducible refine wr_done ?_)
          | ((with_reducible refine t_isDraw ?_); refine t_draw rfl (by kernel_rfl) ?_)
          | (with_reducible refine WD.done _ ?_)
          | (with_reducible refine wdp_done ?_)
          | (with_reducible refine tr_some ?_)
          | ((fail_if_success with_reducible refine t_bl ?_); (with_reducible refine t_block ?_))
          | (with_reducible refine t_inBlock ?_)
          | ((with_reducible refine t_isExit ?_); refine t_exit rfl ?_)
          | simp only [decide_eq_true_eq, decide_eq_false_iff_not, Bool.not_eq_true', Bool.not_eq_false'] at *
          | simp (disch := omega) only [go_sem, Nat.reduceLT, Nat.reduceEqDiff, Nat.reduceAdd, Nat.reduceLeDiff, Nat.reduceMul, Int.reduceLT, Int.reduceLE, Int.reduceAdd, Int.reduceSub, Int.reduceNeg, Int.reduceToNat, Int.reduceBEq, Int.reduceEq, reduceCtorEq, List.take_succ_cons, List.take_zero, List.take_nil, List.drop_succ_cons, List.drop_nil, List.cons_append, List.nil_append, List.set_cons_zero, List.set_cons_succ, ↓reduceIte, *]
          | (with_reducible refine tb_true ?_)
          | (with_reducible refine tb_false ?_)
          | (with_reducible refine tb_split (fun _ => ?_) (fun _ => ?_))
          | (with_reducible refine wg_f (fun _ => ?_) (fun _ => ?_))
          | (with_reducible refine wg_t (fun _ => ?_) (fun _ => ?_))
          | (with_reducible refine wd_f (fun _ => ?_) (fun _ => ?_))
          | (with_reducible refine wd_t (fun _ => ?_) (fun _ => ?_))
        exact ⟨rfl, rfl⟩
end Go.Proofs.YtdkifonomakcbaaGreatDoorA
