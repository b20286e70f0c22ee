/- The finder's calendar, where it holds some. -/
import Derived.Test.YthahgmncnbeddaaGreatDoorSA
set_option linter.unusedVariables false
set_option linter.unusedSimpArgs false
namespace Go.Proofs.YthahgmncnbeddaaGreatDoorA
open Go Go.RowKit Go.Proofs.YthahgmncnbeddaaGreatDoorFx Go.Proofs
attribute [local go_sem] List.take_succ_cons List.take_zero List.take_nil List.drop_succ_cons List.drop_nil List.cons_append List.nil_append List.set_cons_zero List.set_cons_succ
variable {m : Int}
theorem nmR_len (L : List (List UInt8)) : (nmR L).length = L.length := by simp [nmR]
theorem caR_len (L : List (List UInt8)) : (caR L).length = L.length := by simp [caR]
theorem nmR_at {L : List (List UInt8)} {i : Nat} (h : i < L.length) : (nmR L)[i]? = some [.s L[i]] := by simp [nmR, h]
theorem caR_at {L : List (List UInt8)} {i : Nat} (h : i < L.length) : (caR L)[i]? = some (calN L[i]).row := by simp [caR, h]
theorem finI_ne {L : List (List UInt8)} (h : L ≠ []) (fid i j : Nat) : finI fid L i j = [(j, .rows 5 (caR L)), (i, .rows 1 (nmR L)), (fid, .rows 2 [[.osl i 0 L.length, .osl j 0 L.length]])] := if_neg h
set_option maxRecDepth 100000 in
set_option maxHeartbeats 4000000 in
theorem calendarIn {s : List UInt8} {L : List (List UInt8)} (hin : s ∈ L) (hlen : L.length ≤ 10000) {fid b n : Nat} (hb : fid < b) (hn : b + 2 ≤ n) : MeetsH (EW m) 67 [.ptr fid 0 0, .s s] ⟨finI fid L b (b + 1), n⟩ (Is (.ret (calN s).A) ⟨finI fid L (n + 6) (n + 7), n + 8⟩) := by
  refine MeetsH.canon (v := (calN s).A) (o1 := []) (fid := fid) (nb := n + 6) (L := L) ?_
  have hL : L ≠ [] := fun q => by rw [q] at hin; cases hin
  simp only [finI_ne hL, List.nil_append]
  have g1 := fun i (h : i < L.length) => nmR_at h
  have g2 := fun i (h : i < L.length) => caR_at h
  have l1 := nmR_len L
  have l2 := caR_len L
  obtain ⟨k0, hk0, hks⟩ := List.mem_iff_getElem.1 hin
  generalize hNR : nmR L = NR at *
  generalize hCR : caR L = CR at *
  have q1 : ¬ n = fid := by omega
  have q2 : ¬ n = b := by omega
  have q3 : ¬ n = b + 1 := by omega
  have q4 : ¬ b = fid := by omega
  have q5 : ¬ b + 1 = fid := by omega
  refine meetsH (E := (EW m)) 56 [.cell 4 71] Tryz.func67 rfl (by decide) rfl rfl (by simp) ?_
  repeat' first
    | with_reducible first | refine t_seq ?_ | refine t_skip ?_ | refine t_ret ?_ | refine t_end ?_ | refine t_cond ?_ | refine t_region ?_ | refine wr_done ?_ | refine WD.done _ ?_ | refine wdp_done ?_ | refine tr_some ?_ | refine t_inBlock ?_
    | ((fail_if_success with_reducible refine t_bl ?_); (with_reducible refine t_block ?_))
    | ((with_reducible refine t_isExit ?_); refine t_exit rfl ?_)
    | simp only [decide_eq_true_eq, decide_eq_false_iff_not, Bool.not_eq_true', Bool.not_eq_false'] at *
    | simp (disch := omega) only [go_sem, Nat.reduceLT, Nat.reduceEqDiff, Nat.reduceAdd, Nat.reduceLeDiff, Nat.reduceMul, Int.reduceLT, Int.reduceLE, Int.reduceAdd, Int.reduceSub, Int.reduceNeg, Int.reduceToNat, Int.reduceBEq, Int.reduceEq, reduceCtorEq, ↓reduceIte, *]
    | with_reducible first | refine tb_true ?_ | refine tb_false ?_
    | ((with_reducible first | refine tb_split ?_ ?_ | refine wg_f ?_ ?_ | refine wg_t ?_ ?_ | refine wd_f ?_ ?_ | refine wd_t ?_ ?_) <;> intro _)
  refine t_while (I := fun (i : Nat) t h => i ≤ L.length ∧ (∀ j (hj : j < L.length), j < i → L[j] ≠ s) ∧ h = ⟨[(n, .rows 5 [[.s [], .i .i64 0, .i .i64 0, .nils, .nils]]), (b + 1, .rows 5 CR), (b, .rows 1 NR), (fid, .rows 2 [[.osl b 0 L.length, .osl (b + 1) 0 L.length]])], n + 1⟩ ∧ get t 0 = .ptr fid 0 0 ∧ get t 1 = .s s ∧ get t 4 = .ptr n 0 0 ∧ get t 12 = .osl b 0 L.length ∧ get t 13 = .i .i64 L.length ∧ get t 14 = .i .i64 i) (m := fun i => L.length - i)
    (J := fun t h => False) 0 ⟨by omega, fun j hj h => by omega, rfl, by simp [get], by simp [get], by simp [get], by simp [get], by simp [get], by simp [get]⟩ ?_ ?_
  · rintro i t h ⟨hi, hne, rfl, t0, t1, t4, t12, t13, t14⟩ hrec hex
    by_cases hi' : i < L.length
    · have hx1 := g1 i (by omega)
      have hx2 := g2 i (by omega)
      obtain ⟨y1, y2, y3, y4, y5, hy, hr, ⟨o1, o2, o3, o4, o5⟩, ⟨n1, n2, n3, n4, n5⟩⟩ := cal_row (calN (L[i]'(by omega)))
      have hne' : (∀ j (hj : j < L.length), j < i + 1 → L[j] ≠ s) ∨ L[i]'(by omega) = s := by
        by_cases q : L[i]'(by omega) = s
        · exact .inr q
        · refine .inl fun j hj hji => ?_
          by_cases e : j = i
          · subst e; exact q
          · exact hne j hj (by omega)
      rw [hr] at hx2
      by_cases hs : L[i]'(by omega) = s
      · rw [hs] at hx1 hy
        rw [hy]
        clear hs hne' g1 g2 hne hks hr hin hNR hCR
        repeat' first
          | with_reducible first | refine t_seq ?_ | refine t_skip ?_ | refine t_ret ?_ | refine t_end ?_ | refine t_cond ?_ | refine t_region ?_ | refine wr_done ?_ | refine WD.done _ ?_ | refine wdp_done ?_ | refine tr_some ?_ | refine t_inBlock ?_
          | ((with_reducible refine t_isDraw ?_); refine t_draw rfl (by kernel_rfl) ?_)
          | ((fail_if_success with_reducible refine t_bl ?_); (with_reducible refine t_block ?_))
          | ((with_reducible refine t_isExit ?_); refine t_exit rfl ?_)
          | simp only [decide_eq_true_eq, decide_eq_false_iff_not, Bool.not_eq_true', Bool.not_eq_false'] at *
          | simp (disch := omega) only [go_sem, Nat.reduceLT, Nat.reduceEqDiff, Nat.reduceAdd, Nat.reduceLeDiff, Nat.reduceMul, Int.reduceLT, Int.reduceLE, Int.reduceAdd, Int.reduceSub, Int.reduceNeg, Int.reduceToNat, Int.reduceBEq, Int.reduceEq, reduceCtorEq, ↓reduceIte, *]
          | with_reducible first | refine tb_true ?_ | refine tb_false ?_
          | ((with_reducible first | refine tb_split ?_ ?_ | refine wg_f ?_ ?_ | refine wg_t ?_ ?_ | refine wd_f ?_ ?_ | refine wd_t ?_ ?_) <;> intro _)
        all_goals first | (exfalso; omega) | skip
        exact ⟨_, _, Sub.of (.cons _ (.cons_cons _ (.cons_cons _ (.cons_cons _ .slnil)))) (by omega)⟩
      · have hne'' := hne'.resolve_right hs
        generalize L[i]'(by omega) = x at hx1 hs
        clear hne' g1 g2 hne hr hNR hCR hks
        repeat' first
          | with_reducible first | refine t_seq ?_ | refine t_skip ?_ | refine t_ret ?_ | refine t_end ?_ | refine t_cond ?_ | refine t_region ?_ | refine wr_done ?_ | refine WD.done _ ?_ | refine wdp_done ?_ | refine tr_some ?_ | refine t_inBlock ?_
          | ((with_reducible refine t_isDraw ?_); refine t_draw rfl (by kernel_rfl) ?_)
          | ((fail_if_success with_reducible refine t_bl ?_); (with_reducible refine t_block ?_))
          | ((with_reducible refine t_isExit ?_); refine t_exit rfl ?_)
          | simp only [decide_eq_true_eq, decide_eq_false_iff_not, Bool.not_eq_true', Bool.not_eq_false'] at *
          | simp (disch := omega) only [go_sem, Nat.reduceLT, Nat.reduceEqDiff, Nat.reduceAdd, Nat.reduceLeDiff, Nat.reduceMul, Int.reduceLT, Int.reduceLE, Int.reduceAdd, Int.reduceSub, Int.reduceNeg, Int.reduceToNat, Int.reduceBEq, Int.reduceEq, reduceCtorEq, ↓reduceIte, *]
          | with_reducible first | refine tb_true ?_ | refine tb_false ?_
          | ((with_reducible first | refine tb_split ?_ ?_ | refine wg_f ?_ ?_ | refine wg_t ?_ ?_ | refine wd_f ?_ ?_ | refine wd_t ?_ ?_) <;> intro _)
        all_goals first | (exfalso; omega) | skip
        exact hrec (i + 1) _ _ ⟨by omega, hne'', rfl, by simp [get, t0], by simp [get, t1], by simp [get, t4], by simp [get, t12], by simp [get, t13], by simp [get]⟩ (by omega)
    · exact absurd hks (hne k0 (by omega) (by omega))
  · rintro t h hf
    exact hf.elim
set_option maxRecDepth 100000 in
set_option maxHeartbeats 4000000 in
theorem calendarOut {s : List UInt8} (hs : ¬ Unknown s) {L : List (List UInt8)} (hL : L ≠ []) (hin : s ∉ L) (hlen : L.length ≤ 10000) {fid b n : Nat} (hb : fid < b) (hn : b + 2 ≤ n) : MeetsH (EW m) 67 [.ptr fid 0 0, .s s] ⟨finI fid L b (b + 1), n⟩ (Is (.ret (calN s).A) ⟨finI fid (L ++ [s]) (n + 6) (n + 7), n + 8⟩) := by
  refine MeetsH.canon (v := (calN s).A) (o1 := []) (fid := fid) (nb := n + 6) (L := L ++ [s]) ?_
  have hC := calN_P (m := m) hs
  have e1 : nmR (L ++ [s]) = nmR L ++ [[.s s]] := by simp [nmR]
  have e2 : caR (L ++ [s]) = caR L ++ [(calN s).row] := by simp [caR]
  have e3 : (L ++ [s]).length = L.length + 1 := by simp
  simp only [finI_ne hL, finI_ne (show L ++ [s] ≠ [] by simp), List.nil_append, e1, e2, e3]
  clear e1 e2 e3
  have g1 := fun i (h : i < L.length) => nmR_at h
  have l1 := nmR_len L
  have l2 := caR_len L
  have hne : ∀ i (h : i < L.length), L[i] ≠ s := fun i h q => hin (q ▸ List.getElem_mem h)
  obtain ⟨y1, y2, y3, y4, y5, hy, hr, ⟨o1, o2, o3, o4, o5⟩, ⟨n1, n2, n3, n4, n5⟩⟩ := cal_row (calN s)
  rw [hy] at hC
  rw [hy, hr]
  obtain ⟨i1, hi1, hb1⟩ := Option.map_eq_some_iff.1 (show (Tryz.prog.info? 71).map (·.bytes) = some 80 by kernel_rfl)
  obtain ⟨i2, hi2, hb2⟩ := Option.map_eq_some_iff.1 (show (Tryz.prog.info? 9).map (·.bytes) = some 16 by kernel_rfl)
  have q1 : ¬ n = fid := by omega
  have q2 : ¬ n = b := by omega
  have q3 : ¬ n = b + 1 := by omega
  have q4 : ¬ b = fid := by omega
  have q5 : ¬ b + 1 = fid := by omega
  have q6 : ¬ n + 1 = fid := by omega
  have q7 : ¬ n + 1 = b := by omega
  have q8 : ¬ n + 1 = b + 1 := by omega
  have w1 : (L.length + 1) * 80 ≤ 70368744177664 := by omega
  have w2 : (L.length + 1) * 16 ≤ 70368744177664 := by omega
  refine meetsH (E := (EW m)) 56 [.cell 4 71] Tryz.func67 rfl (by decide) rfl rfl (by simp) ?_
  repeat' first
    | with_reducible first | refine t_seq ?_ | refine t_skip ?_ | refine t_ret ?_ | refine t_end ?_ | refine t_cond ?_ | refine t_region ?_ | refine wr_done ?_ | refine WD.done _ ?_ | refine wdp_done ?_ | refine tr_some ?_ | refine t_inBlock ?_
    | ((fail_if_success with_reducible refine t_bl ?_); (with_reducible refine t_block ?_))
    | ((with_reducible refine t_isExit ?_); refine t_exit rfl ?_)
    | simp only [decide_eq_true_eq, decide_eq_false_iff_not, Bool.not_eq_true', Bool.not_eq_false'] at *
    | simp (disch := omega) only [go_sem, Nat.reduceLT, Nat.reduceEqDiff, Nat.reduceAdd, Nat.reduceLeDiff, Nat.reduceMul, Int.reduceLT, Int.reduceLE, Int.reduceAdd, Int.reduceSub, Int.reduceNeg, Int.reduceToNat, Int.reduceBEq, Int.reduceEq, reduceCtorEq, ↓reduceIte, *]
    | with_reducible first | refine tb_true ?_ | refine tb_false ?_
    | ((with_reducible first | refine tb_split ?_ ?_ | refine wg_f ?_ ?_ | refine wg_t ?_ ?_ | refine wd_f ?_ ?_ | refine wd_t ?_ ?_) <;> intro _)
  refine t_while (I := fun (i : Nat) t h => i ≤ L.length ∧ h = ⟨[(n, .rows 5 [[.s [], .i .i64 0, .i .i64 0, .nils, .nils]]), (b + 1, .rows 5 (caR L)), (b, .rows 1 (nmR L)), (fid, .rows 2 [[.osl b 0 L.length, .osl (b + 1) 0 L.length]])], n + 1⟩ ∧ get t 0 = .ptr fid 0 0 ∧ get t 1 = .s s ∧ get t 4 = .ptr n 0 0 ∧ get t 12 = .osl b 0 L.length ∧ get t 13 = .i .i64 L.length ∧ get t 14 = .i .i64 i) (m := fun i => L.length - i)
    (J := fun t h => h = ⟨[(n, .rows 5 [[.s [], .i .i64 0, .i .i64 0, .nils, .nils]]), (b + 1, .rows 5 (caR L)), (b, .rows 1 (nmR L)), (fid, .rows 2 [[.osl b 0 L.length, .osl (b + 1) 0 L.length]])], n + 1⟩ ∧ get t 0 = .ptr fid 0 0 ∧ get t 1 = .s s ∧ get t 4 = .ptr n 0 0) 0 ⟨by omega, rfl, by simp [get], by simp [get], by simp [get], by simp [get], by simp [get], by simp [get]⟩ ?_ ?_
  · rintro i t h ⟨hi, rfl, t0, t1, t4, t12, t13, t14⟩ hrec hex
    clear hC
    by_cases hi' : i < L.length
    · have hx1 := g1 i hi'
      have hx := hne i hi'
      generalize L[i] = x at hx1 hx
      generalize nmR L = NR at *
      generalize caR L = CR at *
      clear g1 hne
      repeat' first
        | with_reducible first | refine t_seq ?_ | refine t_skip ?_ | refine t_ret ?_ | refine t_end ?_ | refine t_cond ?_ | refine t_region ?_ | refine wr_done ?_ | refine WD.done _ ?_ | refine wdp_done ?_ | refine tr_some ?_ | refine t_inBlock ?_
        | ((with_reducible refine t_isDraw ?_); refine t_draw rfl (by kernel_rfl) ?_)
        | ((fail_if_success with_reducible refine t_bl ?_); (with_reducible refine t_block ?_))
        | ((with_reducible refine t_isExit ?_); refine t_exit rfl ?_)
        | simp only [decide_eq_true_eq, decide_eq_false_iff_not, Bool.not_eq_true', Bool.not_eq_false'] at *
        | simp (disch := omega) only [go_sem, Nat.reduceLT, Nat.reduceEqDiff, Nat.reduceAdd, Nat.reduceLeDiff, Nat.reduceMul, Int.reduceLT, Int.reduceLE, Int.reduceAdd, Int.reduceSub, Int.reduceNeg, Int.reduceToNat, Int.reduceBEq, Int.reduceEq, reduceCtorEq, ↓reduceIte, *]
        | with_reducible first | refine tb_true ?_ | refine tb_false ?_
        | ((with_reducible first | refine tb_split ?_ ?_ | refine wg_f ?_ ?_ | refine wg_t ?_ ?_ | refine wd_f ?_ ?_ | refine wd_t ?_ ?_) <;> intro _)
      all_goals first | (exfalso; omega) | skip
      exact hrec (i + 1) _ _ ⟨by omega, rfl, by simp [get, t0], by simp [get, t1], by simp [get, t4], by simp [get, t12], by simp [get, t13], by simp [get]⟩ (by omega)
    · clear g1 hne
      repeat' first
        | refine hex _ _ ?_
        | with_reducible first | refine t_seq ?_ | refine t_skip ?_ | refine t_ret ?_ | refine t_end ?_ | refine t_cond ?_ | refine t_region ?_ | refine wr_done ?_ | refine WD.done _ ?_ | refine wdp_done ?_ | refine tr_some ?_ | refine t_inBlock ?_
        | ((with_reducible refine t_isDraw ?_); refine t_draw rfl (by kernel_rfl) ?_)
        | ((fail_if_success with_reducible refine t_bl ?_); (with_reducible refine t_block ?_))
        | ((with_reducible refine t_isExit ?_); refine t_exit rfl ?_)
        | simp only [decide_eq_true_eq, decide_eq_false_iff_not, Bool.not_eq_true', Bool.not_eq_false'] at *
        | simp (disch := omega) only [go_sem, Nat.reduceLT, Nat.reduceEqDiff, Nat.reduceAdd, Nat.reduceLeDiff, Nat.reduceMul, Int.reduceLT, Int.reduceLE, Int.reduceAdd, Int.reduceSub, Int.reduceNeg, Int.reduceToNat, Int.reduceBEq, Int.reduceEq, reduceCtorEq, ↓reduceIte, *]
        | with_reducible first | refine tb_true ?_ | refine tb_false ?_
        | ((with_reducible first | refine tb_split ?_ ?_ | refine wg_f ?_ ?_ | refine wg_t ?_ ?_ | refine wd_f ?_ ?_ | refine wd_t ?_ ?_) <;> intro _)
      all_goals first | (exfalso; omega) | skip
      done
  · rintro t h ⟨rfl, t0, t1, t4⟩
    clear g1 hne
    repeat' first
      | ((with_reducible refine wr_isCall ?_); refine wr_P hC rfl ?_)
      | with_reducible first | refine t_seq ?_ | refine t_skip ?_ | refine t_ret ?_ | refine t_end ?_ | refine t_cond ?_ | refine t_region ?_ | refine wr_done ?_ | refine WD.done _ ?_ | refine wdp_done ?_ | refine tr_some ?_ | refine t_inBlock ?_
      | ((fail_if_success with_reducible refine t_bl ?_); (with_reducible refine t_block ?_))
      | ((with_reducible refine t_isExit ?_); refine t_exit rfl ?_)
      | simp only [decide_eq_true_eq, decide_eq_false_iff_not, Bool.not_eq_true', Bool.not_eq_false'] at *
      | simp (disch := omega) only [go_sem, Nat.reduceLT, Nat.reduceEqDiff, Nat.reduceAdd, Nat.reduceLeDiff, Nat.reduceMul, Int.reduceLT, Int.reduceLE, Int.reduceAdd, Int.reduceSub, Int.reduceNeg, Int.reduceToNat, Int.reduceBEq, Int.reduceEq, reduceCtorEq, ↓reduceIte, *]
      | with_reducible first | refine tb_true ?_ | refine tb_false ?_
      | ((with_reducible first | refine tb_split ?_ ?_ | refine wg_f ?_ ?_ | refine wg_t ?_ ?_ | refine wd_f ?_ ?_ | refine wd_t ?_ ?_) <;> intro _)
    refine t_paths 56 [7, 8, 14, 15, 18, 21] [(⟨[(35, .ptr fid 0 0), (36, .ptr fid 0 0), (37, .ptr fid 0 0), (38, .ptr fid 0 0), (39, .ptr fid 0 0), (40, .osl b 0 L.length), (41, .s s), (42, .osl (n + 1 + 1) 0 1), (43, .osl (n + 1 + 1 + 1) 0 (L.length + 1)), (44, .ptr fid 0 0), (45, .ptr fid 0 0), (46, .ptr fid 0 1), (47, .osl (b + 1) 0 L.length), (48, .agg [y1, y2, y3, y4, y5]), (49, .osl (n + 1 + 1 + 1 + 1) 0 1), (50, .osl (n + 1 + 1 + 1 + 1 + 1) 0 (L.length + 1)), (51, .ptr fid 0 0), (52, .ptr fid 0 0), (53, .ptr fid 0 0), (54, .ptr fid 0 1)], [⟨[(n + 1, .rows 5 [[y1, y2, y3, y4, y5]]), (n, .rows 5 [[.s [], .i .i64 0, .i .i64 0, .nils, .nils]]), (b + 1, .rows 5 (caR L)), (b, .rows 1 (nmR L)), (fid, .rows 2 [[.osl b 0 L.length, .osl (b + 1) 0 L.length]])], n + 1 + 1⟩, ⟨[(n + 1 + 1, .rows 1 [[.s s]]), (n + 1, .rows 5 [[y1, y2, y3, y4, y5]]), (n, .rows 5 [[.s [], .i .i64 0, .i .i64 0, .nils, .nils]]), (b + 1, .rows 5 (caR L)), (b, .rows 1 (nmR L)), (fid, .rows 2 [[.osl b 0 L.length, .osl (b + 1) 0 L.length]])], n + 1 + 1 + 1⟩, ⟨[(n + 1 + 1 + 1, .rows 1 (nmR L ++ [[.s s]])), (n + 1 + 1, .rows 1 [[.s s]]), (n + 1, .rows 5 [[y1, y2, y3, y4, y5]]), (n, .rows 5 [[.s [], .i .i64 0, .i .i64 0, .nils, .nils]]), (b + 1, .rows 5 (caR L)), (fid, .rows 2 [[.osl b 0 L.length, .osl (b + 1) 0 L.length]])], n + 1 + 1 + 1 + 1⟩, ⟨[(n + 1 + 1 + 1 + 1, .rows 5 [[y1, y2, y3, y4, y5]]), (n + 1 + 1 + 1, .rows 1 (nmR L ++ [[.s s]])), (n + 1 + 1, .rows 1 [[.s s]]), (n + 1, .rows 5 [[y1, y2, y3, y4, y5]]), (n, .rows 5 [[.s [], .i .i64 0, .i .i64 0, .nils, .nils]]), (b + 1, .rows 5 (caR L)), (fid, .rows 2 [[.osl b 0 L.length, .osl (b + 1) 0 L.length]])], n + 1 + 1 + 1 + 1 + 1⟩, ⟨[(n + 1 + 1 + 1 + 1 + 1, .rows 5 (caR L ++ [[y1, y2, y3, y4, y5]])), (n + 1 + 1 + 1 + 1, .rows 5 [[y1, y2, y3, y4, y5]]), (n + 1 + 1 + 1, .rows 1 (nmR L ++ [[.s s]])), (n + 1 + 1, .rows 1 [[.s s]]), (n + 1, .rows 5 [[y1, y2, y3, y4, y5]]), (n, .rows 5 [[.s [], .i .i64 0, .i .i64 0, .nils, .nils]]), (fid, .rows 2 [[.osl b 0 L.length, .osl (b + 1) 0 L.length]])], n + 1 + 1 + 1 + 1 + 1 + 1⟩, ⟨[(n + 1 + 1 + 1 + 1 + 1, .rows 5 (caR L ++ [[y1, y2, y3, y4, y5]])), (n + 1 + 1 + 1 + 1, .rows 5 [[y1, y2, y3, y4, y5]]), (n + 1 + 1 + 1, .rows 1 (nmR L ++ [[.s s]])), (n + 1 + 1, .rows 1 [[.s s]]), (n + 1, .rows 5 [[y1, y2, y3, y4, y5]]), (n, .rows 5 [[.s [], .i .i64 0, .i .i64 0, .nils, .nils]]), (fid, .rows 2 [[.osl (n + 1 + 1 + 1) 0 (L.length + 1), .osl (b + 1) 0 L.length]])], n + 1 + 1 + 1 + 1 + 1 + 1⟩, ⟨[(n + 1 + 1 + 1 + 1 + 1, .rows 5 (caR L ++ [[y1, y2, y3, y4, y5]])), (n + 1 + 1 + 1 + 1, .rows 5 [[y1, y2, y3, y4, y5]]), (n + 1 + 1 + 1, .rows 1 (nmR L ++ [[.s s]])), (n + 1 + 1, .rows 1 [[.s s]]), (n + 1, .rows 5 [[y1, y2, y3, y4, y5]]), (n, .rows 5 [[.s [], .i .i64 0, .i .i64 0, .nils, .nils]]), (fid, .rows 2 [[.osl (n + 1 + 1 + 1) 0 (L.length + 1), .osl (n + 1 + 1 + 1 + 1 + 1) 0 (L.length + 1)]])], n + 1 + 1 + 1 + 1 + 1 + 1⟩], [7, 8, 14, 15, 18, 21]⟩, [(6, 6), (6, 6), (6, 6), (6, 6), (6, 6), (0, 1), (6, 6), (1, 0), (1, 0), (6, 6), (6, 6), (6, 6), (0, 3), (0, 2), (1, 0), (1, 0), (6, 6), (6, 6), (1, 0), (6, 6), (6, 6), (1, 0)]), (⟨[(35, .ptr fid 0 0), (36, .ptr fid 0 0), (37, .ptr fid 0 0), (38, .ptr fid 0 0), (39, .ptr fid 0 0), (40, .osl b 0 L.length), (41, .s s), (42, .osl (n + 1 + 1) 0 1), (43, .osl (n + 1 + 1 + 1 + 1) 0 (L.length + 1)), (44, .ptr fid 0 0), (45, .ptr fid 0 0), (46, .ptr fid 0 1), (47, .osl (b + 1) 0 L.length), (48, .agg [y1, y2, y3, y4, y5]), (49, .osl (n + 1 + 1 + 1) 0 1), (50, .osl (n + 1 + 1 + 1 + 1 + 1) 0 (L.length + 1)), (51, .ptr fid 0 0), (52, .ptr fid 0 0), (53, .ptr fid 0 0), (54, .ptr fid 0 1)], [⟨[(n + 1, .rows 5 [[y1, y2, y3, y4, y5]]), (n, .rows 5 [[.s [], .i .i64 0, .i .i64 0, .nils, .nils]]), (b + 1, .rows 5 (caR L)), (b, .rows 1 (nmR L)), (fid, .rows 2 [[.osl b 0 L.length, .osl (b + 1) 0 L.length]])], n + 1 + 1⟩, ⟨[(n + 1 + 1, .rows 1 [[.s s]]), (n + 1, .rows 5 [[y1, y2, y3, y4, y5]]), (n, .rows 5 [[.s [], .i .i64 0, .i .i64 0, .nils, .nils]]), (b + 1, .rows 5 (caR L)), (b, .rows 1 (nmR L)), (fid, .rows 2 [[.osl b 0 L.length, .osl (b + 1) 0 L.length]])], n + 1 + 1 + 1⟩, ⟨[(n + 1 + 1 + 1, .rows 5 [[y1, y2, y3, y4, y5]]), (n + 1 + 1, .rows 1 [[.s s]]), (n + 1, .rows 5 [[y1, y2, y3, y4, y5]]), (n, .rows 5 [[.s [], .i .i64 0, .i .i64 0, .nils, .nils]]), (b + 1, .rows 5 (caR L)), (b, .rows 1 (nmR L)), (fid, .rows 2 [[.osl b 0 L.length, .osl (b + 1) 0 L.length]])], n + 1 + 1 + 1 + 1⟩, ⟨[(n + 1 + 1 + 1 + 1, .rows 1 (nmR L ++ [[.s s]])), (n + 1 + 1 + 1, .rows 5 [[y1, y2, y3, y4, y5]]), (n + 1 + 1, .rows 1 [[.s s]]), (n + 1, .rows 5 [[y1, y2, y3, y4, y5]]), (n, .rows 5 [[.s [], .i .i64 0, .i .i64 0, .nils, .nils]]), (b + 1, .rows 5 (caR L)), (fid, .rows 2 [[.osl b 0 L.length, .osl (b + 1) 0 L.length]])], n + 1 + 1 + 1 + 1 + 1⟩, ⟨[(n + 1 + 1 + 1 + 1 + 1, .rows 5 (caR L ++ [[y1, y2, y3, y4, y5]])), (n + 1 + 1 + 1 + 1, .rows 1 (nmR L ++ [[.s s]])), (n + 1 + 1 + 1, .rows 5 [[y1, y2, y3, y4, y5]]), (n + 1 + 1, .rows 1 [[.s s]]), (n + 1, .rows 5 [[y1, y2, y3, y4, y5]]), (n, .rows 5 [[.s [], .i .i64 0, .i .i64 0, .nils, .nils]]), (fid, .rows 2 [[.osl b 0 L.length, .osl (b + 1) 0 L.length]])], n + 1 + 1 + 1 + 1 + 1 + 1⟩, ⟨[(n + 1 + 1 + 1 + 1 + 1, .rows 5 (caR L ++ [[y1, y2, y3, y4, y5]])), (n + 1 + 1 + 1 + 1, .rows 1 (nmR L ++ [[.s s]])), (n + 1 + 1 + 1, .rows 5 [[y1, y2, y3, y4, y5]]), (n + 1 + 1, .rows 1 [[.s s]]), (n + 1, .rows 5 [[y1, y2, y3, y4, y5]]), (n, .rows 5 [[.s [], .i .i64 0, .i .i64 0, .nils, .nils]]), (fid, .rows 2 [[.osl (n + 1 + 1 + 1 + 1) 0 (L.length + 1), .osl (b + 1) 0 L.length]])], n + 1 + 1 + 1 + 1 + 1 + 1⟩, ⟨[(n + 1 + 1 + 1 + 1 + 1, .rows 5 (caR L ++ [[y1, y2, y3, y4, y5]])), (n + 1 + 1 + 1 + 1, .rows 1 (nmR L ++ [[.s s]])), (n + 1 + 1 + 1, .rows 5 [[y1, y2, y3, y4, y5]]), (n + 1 + 1, .rows 1 [[.s s]]), (n + 1, .rows 5 [[y1, y2, y3, y4, y5]]), (n, .rows 5 [[.s [], .i .i64 0, .i .i64 0, .nils, .nils]]), (fid, .rows 2 [[.osl (n + 1 + 1 + 1 + 1) 0 (L.length + 1), .osl (n + 1 + 1 + 1 + 1 + 1) 0 (L.length + 1)]])], n + 1 + 1 + 1 + 1 + 1 + 1⟩], [7, 14, 8, 15, 18, 21]⟩, [(6, 6), (6, 6), (6, 6), (6, 6), (6, 6), (0, 2), (6, 6), (1, 0), (1, 0), (6, 6), (6, 6), (6, 6), (0, 3), (0, 1), (1, 0), (1, 0), (6, 6), (6, 6), (1, 0), (6, 6), (6, 6), (1, 0)]), (⟨[(35, .ptr fid 0 0), (36, .ptr fid 0 0), (37, .ptr fid 0 0), (38, .ptr fid 0 0), (39, .ptr fid 0 0), (40, .osl b 0 L.length), (41, .s s), (42, .osl (n + 1 + 1 + 1) 0 1), (43, .osl (n + 1 + 1 + 1 + 1) 0 (L.length + 1)), (44, .ptr fid 0 0), (45, .ptr fid 0 0), (46, .ptr fid 0 1), (47, .osl (b + 1) 0 L.length), (48, .agg [y1, y2, y3, y4, y5]), (49, .osl (n + 1 + 1) 0 1), (50, .osl (n + 1 + 1 + 1 + 1 + 1) 0 (L.length + 1)), (51, .ptr fid 0 0), (52, .ptr fid 0 0), (53, .ptr fid 0 0), (54, .ptr fid 0 1)], [⟨[(n + 1, .rows 5 [[y1, y2, y3, y4, y5]]), (n, .rows 5 [[.s [], .i .i64 0, .i .i64 0, .nils, .nils]]), (b + 1, .rows 5 (caR L)), (b, .rows 1 (nmR L)), (fid, .rows 2 [[.osl b 0 L.length, .osl (b + 1) 0 L.length]])], n + 1 + 1⟩, ⟨[(n + 1 + 1, .rows 5 [[y1, y2, y3, y4, y5]]), (n + 1, .rows 5 [[y1, y2, y3, y4, y5]]), (n, .rows 5 [[.s [], .i .i64 0, .i .i64 0, .nils, .nils]]), (b + 1, .rows 5 (caR L)), (b, .rows 1 (nmR L)), (fid, .rows 2 [[.osl b 0 L.length, .osl (b + 1) 0 L.length]])], n + 1 + 1 + 1⟩, ⟨[(n + 1 + 1 + 1, .rows 1 [[.s s]]), (n + 1 + 1, .rows 5 [[y1, y2, y3, y4, y5]]), (n + 1, .rows 5 [[y1, y2, y3, y4, y5]]), (n, .rows 5 [[.s [], .i .i64 0, .i .i64 0, .nils, .nils]]), (b + 1, .rows 5 (caR L)), (b, .rows 1 (nmR L)), (fid, .rows 2 [[.osl b 0 L.length, .osl (b + 1) 0 L.length]])], n + 1 + 1 + 1 + 1⟩, ⟨[(n + 1 + 1 + 1 + 1, .rows 1 (nmR L ++ [[.s s]])), (n + 1 + 1 + 1, .rows 1 [[.s s]]), (n + 1 + 1, .rows 5 [[y1, y2, y3, y4, y5]]), (n + 1, .rows 5 [[y1, y2, y3, y4, y5]]), (n, .rows 5 [[.s [], .i .i64 0, .i .i64 0, .nils, .nils]]), (b + 1, .rows 5 (caR L)), (fid, .rows 2 [[.osl b 0 L.length, .osl (b + 1) 0 L.length]])], n + 1 + 1 + 1 + 1 + 1⟩, ⟨[(n + 1 + 1 + 1 + 1 + 1, .rows 5 (caR L ++ [[y1, y2, y3, y4, y5]])), (n + 1 + 1 + 1 + 1, .rows 1 (nmR L ++ [[.s s]])), (n + 1 + 1 + 1, .rows 1 [[.s s]]), (n + 1 + 1, .rows 5 [[y1, y2, y3, y4, y5]]), (n + 1, .rows 5 [[y1, y2, y3, y4, y5]]), (n, .rows 5 [[.s [], .i .i64 0, .i .i64 0, .nils, .nils]]), (fid, .rows 2 [[.osl b 0 L.length, .osl (b + 1) 0 L.length]])], n + 1 + 1 + 1 + 1 + 1 + 1⟩, ⟨[(n + 1 + 1 + 1 + 1 + 1, .rows 5 (caR L ++ [[y1, y2, y3, y4, y5]])), (n + 1 + 1 + 1 + 1, .rows 1 (nmR L ++ [[.s s]])), (n + 1 + 1 + 1, .rows 1 [[.s s]]), (n + 1 + 1, .rows 5 [[y1, y2, y3, y4, y5]]), (n + 1, .rows 5 [[y1, y2, y3, y4, y5]]), (n, .rows 5 [[.s [], .i .i64 0, .i .i64 0, .nils, .nils]]), (fid, .rows 2 [[.osl (n + 1 + 1 + 1 + 1) 0 (L.length + 1), .osl (b + 1) 0 L.length]])], n + 1 + 1 + 1 + 1 + 1 + 1⟩, ⟨[(n + 1 + 1 + 1 + 1 + 1, .rows 5 (caR L ++ [[y1, y2, y3, y4, y5]])), (n + 1 + 1 + 1 + 1, .rows 1 (nmR L ++ [[.s s]])), (n + 1 + 1 + 1, .rows 1 [[.s s]]), (n + 1 + 1, .rows 5 [[y1, y2, y3, y4, y5]]), (n + 1, .rows 5 [[y1, y2, y3, y4, y5]]), (n, .rows 5 [[.s [], .i .i64 0, .i .i64 0, .nils, .nils]]), (fid, .rows 2 [[.osl (n + 1 + 1 + 1 + 1) 0 (L.length + 1), .osl (n + 1 + 1 + 1 + 1 + 1) 0 (L.length + 1)]])], n + 1 + 1 + 1 + 1 + 1 + 1⟩], [14, 7, 8, 15, 18, 21]⟩, [(6, 6), (6, 6), (6, 6), (6, 6), (6, 6), (0, 2), (6, 6), (1, 0), (1, 0), (6, 6), (6, 6), (6, 6), (0, 3), (0, 0), (1, 0), (1, 0), (6, 6), (6, 6), (1, 0), (6, 6), (6, 6), (1, 0)])] [[7, 8, 14, 15, 18, 21], [7, 14, 8, 15, 18, 21], [14, 7, 8, 15, 18, 21]] [[(6, 6), (6, 6), (6, 6), (6, 6), (6, 6), (0, 1), (6, 6), (1, 0), (1, 0), (6, 6), (6, 6), (6, 6), (0, 3), (0, 2), (1, 0), (1, 0), (6, 6), (6, 6), (1, 0), (6, 6), (6, 6), (1, 0)], [(6, 6), (6, 6), (6, 6), (6, 6), (6, 6), (0, 2), (6, 6), (1, 0), (1, 0), (6, 6), (6, 6), (6, 6), (0, 3), (0, 1), (1, 0), (1, 0), (6, 6), (6, 6), (1, 0), (6, 6), (6, 6), (1, 0)], [(6, 6), (6, 6), (6, 6), (6, 6), (6, 6), (0, 2), (6, 6), (1, 0), (1, 0), (6, 6), (6, 6), (6, 6), (0, 3), (0, 0), (1, 0), (1, 0), (6, 6), (6, 6), (1, 0), (6, 6), (6, 6), (1, 0)]] [[35, 36, 37, 38, 39, 40, 41, 42, 43, 44, 45, 46, 47, 48, 49, 50, 51, 52, 53, 54], [35, 36, 37, 38, 39, 40, 41, 42, 43, 44, 45, 46, 47, 48, 49, 50, 51, 52, 53, 54], [35, 36, 37, 38, 39, 40, 41, 42, 43, 44, 45, 46, 47, 48, 49, 50, 51, 52, 53, 54]] rfl (by kernel_rfl) rfl rfl rfl rfl ?_ ?_ ?_ ?_ ?_
    · intro p hp; simp only [List.mem_cons, List.not_mem_nil, or_false] at hp; rcases hp with rfl | rfl | rfl <;> rfl
    · intro p hp; simp only [List.mem_cons, List.not_mem_nil, or_false] at hp; rcases hp with rfl | rfl | rfl <;> rfl
    · intro p hp; simp only [List.mem_cons, List.not_mem_nil, or_false] at hp
      rcases hp with rfl | rfl | rfl
      all_goals simp (disch := omega) only [freeN, effN, FreeM, EffM, dstM, DP.st, get_cons, List.forall_mem_cons, List.forall_mem_nil, List.getElem?_cons_zero, List.getElem?_cons_succ, List.mem_cons, List.not_mem_nil, false_implies, implies_true, and_true, true_and, forall_eq, forall_eq_or_imp, or_false, OR.val.injEq, go_sem, Nat.reduceLT, Nat.reduceEqDiff, Nat.reduceAdd, Nat.reduceSub, Nat.reduceLeDiff, Nat.reduceMul, Int.reduceLT, Int.reduceLE, Int.reduceAdd, Int.reduceSub, Int.reduceNeg, Int.reduceToNat, Int.reduceBEq, Int.reduceEq, reduceCtorEq, List.take_succ_cons, List.take_zero, List.take_nil, List.drop_succ_cons, List.drop_zero, List.drop_nil, List.cons_append, List.nil_append, List.set_cons_zero, List.set_cons_succ, ↓reduceIte, *]
    · intro p hp; simp only [List.mem_cons, List.not_mem_nil, or_false] at hp
      rcases hp with rfl | rfl | rfl
      all_goals simp (disch := omega) only [freeN, effN, FreeM, EffM, dstM, DP.st, get_cons, List.forall_mem_cons, List.forall_mem_nil, List.getElem?_cons_zero, List.getElem?_cons_succ, List.mem_cons, List.not_mem_nil, false_implies, implies_true, and_true, true_and, forall_eq, forall_eq_or_imp, or_false, OR.val.injEq, go_sem, Nat.reduceLT, Nat.reduceEqDiff, Nat.reduceAdd, Nat.reduceSub, Nat.reduceLeDiff, Nat.reduceMul, Int.reduceLT, Int.reduceLE, Int.reduceAdd, Int.reduceSub, Int.reduceNeg, Int.reduceToNat, Int.reduceBEq, Int.reduceEq, reduceCtorEq, List.take_succ_cons, List.take_zero, List.take_nil, List.drop_succ_cons, List.drop_zero, List.drop_nil, List.cons_append, List.nil_append, List.set_cons_zero, List.set_cons_succ, ↓reduceIte, *]
    · intro p hp; simp only [List.mem_cons, List.not_mem_nil, or_false] at hp
      rcases hp with rfl | rfl | rfl
      all_goals intro g hg
      all_goals simp only [List.length_cons, List.length_nil, Nat.reduceAdd, List.getElem?_cons_zero, List.getElem?_cons_succ, Option.some.injEq] at hg
      all_goals subst hg
      all_goals unfold DP.st
      all_goals simp only [List.cons_append, List.nil_append]
      · repeat' first
          | with_reducible first | refine t_seq ?_ | refine t_skip ?_ | refine t_ret ?_ | refine t_end ?_ | refine t_cond ?_ | refine t_region ?_ | refine wr_done ?_ | refine WD.done _ ?_ | refine wdp_done ?_ | refine tr_some ?_ | refine t_inBlock ?_
          | ((with_reducible refine t_isDraw ?_); refine t_draw rfl (by kernel_rfl) ?_)
          | ((fail_if_success with_reducible refine t_bl ?_); (with_reducible refine t_block ?_))
          | ((with_reducible refine t_isExit ?_); refine t_exit rfl ?_)
          | simp only [decide_eq_true_eq, decide_eq_false_iff_not, Bool.not_eq_true', Bool.not_eq_false'] at *
          | simp (disch := omega) only [go_sem, Nat.reduceLT, Nat.reduceEqDiff, Nat.reduceAdd, Nat.reduceLeDiff, Nat.reduceMul, Int.reduceLT, Int.reduceLE, Int.reduceAdd, Int.reduceSub, Int.reduceNeg, Int.reduceToNat, Int.reduceBEq, Int.reduceEq, reduceCtorEq, ↓reduceIte, *]
          | with_reducible first | refine tb_true ?_ | refine tb_false ?_
          | ((with_reducible first | refine tb_split ?_ ?_ | refine wg_f ?_ ?_ | refine wg_t ?_ ?_ | refine wd_f ?_ ?_ | refine wd_t ?_ ?_) <;> intro _)
        exact ⟨_, _, Sub.of (.cons_cons _ (.cons _ (.cons_cons _ (.cons _ (.cons _ (.cons _ (.cons_cons _ .slnil))))))) (by omega)⟩
      · repeat' first
          | with_reducible first | refine t_seq ?_ | refine t_skip ?_ | refine t_ret ?_ | refine t_end ?_ | refine t_cond ?_ | refine t_region ?_ | refine wr_done ?_ | refine WD.done _ ?_ | refine wdp_done ?_ | refine tr_some ?_ | refine t_inBlock ?_
          | ((with_reducible refine t_isDraw ?_); refine t_draw rfl (by kernel_rfl) ?_)
          | ((fail_if_success with_reducible refine t_bl ?_); (with_reducible refine t_block ?_))
          | ((with_reducible refine t_isExit ?_); refine t_exit rfl ?_)
          | simp only [decide_eq_true_eq, decide_eq_false_iff_not, Bool.not_eq_true', Bool.not_eq_false'] at *
          | simp (disch := omega) only [go_sem, Nat.reduceLT, Nat.reduceEqDiff, Nat.reduceAdd, Nat.reduceLeDiff, Nat.reduceMul, Int.reduceLT, Int.reduceLE, Int.reduceAdd, Int.reduceSub, Int.reduceNeg, Int.reduceToNat, Int.reduceBEq, Int.reduceEq, reduceCtorEq, ↓reduceIte, *]
          | with_reducible first | refine tb_true ?_ | refine tb_false ?_
          | ((with_reducible first | refine tb_split ?_ ?_ | refine wg_f ?_ ?_ | refine wg_t ?_ ?_ | refine wd_f ?_ ?_ | refine wd_t ?_ ?_) <;> intro _)
        exact ⟨_, _, Sub.of (.cons_cons _ (.cons_cons _ (.cons _ (.cons _ (.cons _ (.cons _ (.cons_cons _ .slnil))))))) (by omega)⟩
      · repeat' first
          | with_reducible first | refine t_seq ?_ | refine t_skip ?_ | refine t_ret ?_ | refine t_end ?_ | refine t_cond ?_ | refine t_region ?_ | refine wr_done ?_ | refine WD.done _ ?_ | refine wdp_done ?_ | refine tr_some ?_ | refine t_inBlock ?_
          | ((with_reducible refine t_isDraw ?_); refine t_draw rfl (by kernel_rfl) ?_)
          | ((fail_if_success with_reducible refine t_bl ?_); (with_reducible refine t_block ?_))
          | ((with_reducible refine t_isExit ?_); refine t_exit rfl ?_)
          | simp only [decide_eq_true_eq, decide_eq_false_iff_not, Bool.not_eq_true', Bool.not_eq_false'] at *
          | simp (disch := omega) only [go_sem, Nat.reduceLT, Nat.reduceEqDiff, Nat.reduceAdd, Nat.reduceLeDiff, Nat.reduceMul, Int.reduceLT, Int.reduceLE, Int.reduceAdd, Int.reduceSub, Int.reduceNeg, Int.reduceToNat, Int.reduceBEq, Int.reduceEq, reduceCtorEq, ↓reduceIte, *]
          | with_reducible first | refine tb_true ?_ | refine tb_false ?_
          | ((with_reducible first | refine tb_split ?_ ?_ | refine wg_f ?_ ?_ | refine wg_t ?_ ?_ | refine wd_f ?_ ?_ | refine wd_t ?_ ?_) <;> intro _)
        exact ⟨_, _, Sub.of (.cons_cons _ (.cons_cons _ (.cons _ (.cons _ (.cons _ (.cons _ (.cons_cons _ .slnil))))))) (by omega)⟩
theorem calendarP {s : List UInt8} (hs : ¬ Unknown s) {L : List (List UInt8)} (hlen : L.length ≤ 10000) {fid b n : Nat} (hb : fid < b) (hn : b + 2 ≤ n) : MeetsH (EW m) 67 [.ptr fid 0 0, .s s] ⟨finI fid L b (b + 1), n⟩ (Is (.ret (calN s).A) ⟨finI fid (addN L s) (n + 6) (n + 7), n + 8⟩) := by
  unfold addN
  by_cases hin : s ∈ L
  · rw [if_pos hin]; exact calendarIn hin hlen hb hn
  · rw [if_neg hin]
    by_cases hL : L = []
    · subst hL; exact calendar0 hs hb hn
    · exact calendarOut hs hL hin hlen hb hn
end Go.Proofs.YthahgmncnbeddaaGreatDoorA
