/- solve.Between, solve.Count. -/
import Derived.Test.YthahgmncnbeddaaGreatDoorSF
import Derived.Test.YthahgmncnbeddaaGreatDoorNA
set_option linter.unusedVariables false
set_option linter.unusedSimpArgs false
namespace Go.Proofs.YthahgmncnbeddaaGreatDoorA
open Go Go.RowKit Go.Proofs.YthahgmncnbeddaaGreatDoorFx Go.Proofs
attribute [local go_sem] List.take_succ_cons List.take_zero List.take_nil List.drop_succ_cons List.drop_nil List.cons_append List.nil_append List.set_cons_zero List.set_cons_succ
variable {m : Int}
set_option maxRecDepth 100000 in
set_option maxHeartbeats 4000000 in
theorem betweenP {t : Fs} (hw : t.wf Known) (hd : t.depth ≤ 10) (hs : t.size ≤ 40) (hc : MeetsP Tryz.prog (glF m) 15 [.agg t.row] (.i .i64 0)) {lo hi : Int} (h1 : chkDay lo = 0) (h2 : chkDay hi = 0) {N : Nat} (hN : hi - lo + 1 = N) (hN1 : 1 ≤ N) (hN2 : N ≤ 3001) :
    MeetsP Tryz.prog (glF m) 23 [.agg t.row, .i .i64 lo, .i .i64 hi] (.tup [lstA (fil (t.on dN) lo N), .i .i64 0]) := by
  have bd1 := chkDay_bb h1
  have bd2 := chkDay_bb h2
  obtain ⟨id, b', n', p1, p2, p3, p4, p0, p5, p6, p7, k1⟩ := daysAll m t hw lo hi N hN (by omega) (by omega) (by omega) (by omega) [] (by simp; omega) 1 2 4 (by omega) (by omega)
  have k2 := MeetsH.pre (h1 := ⟨finI 1 [] 2 3, 4⟩) (h := ⟨[(1, .rows 2 [[.nils, .nils]])], 2⟩) ⟨fun _ q => q, fun q => q, show (2 : Nat) ≤ 4 by omega⟩ (k1.to (ew m) (glF_of m) (M' := fun _ _ => none))
  have hck1 := weakP (glF_of m) (lineCheck (m := m) lo)
  have hck2 := weakP (glF_of m) (lineCheck (m := m) hi)
  rw [h1] at hck1
  rw [h2] at hck2
  have hat : ∀ j, j < N → (boL (t.on dN) lo N N)[j]? = some [.b (t.on dN (lo + j))] := fun j hj => by
    rw [boL_at hj]; simp [hj]
  have hlen := boL_len (t.on dN) lo N N
  have hfs : ∀ j : Nat, fil (t.on dN) lo (j + 1) = fil (t.on dN) lo j ++ (if t.on dN (lo + j) then [lo + (j : Int)] else []) := fun j => rfl
  have hf0 : fil (t.on dN) lo 0 = [] := rfl
  have hfl := fil_len (g := t.on dN) (lo := lo)
  generalize boL (t.on dN) lo N N = BL at *
  generalize fil (t.on dN) lo = FL at *
  generalize t.on dN = g at *
  obtain ⟨xk, xa, xb, xn, xs, hx⟩ := t.row5
  rw [hx] at k2 hc ⊢
  generalize finI 1 (t.add []) b' (b' + 1) = F1 at *
  have w0 : hi - lo + 1 = (N : Int) := hN
  clear k1 p3 p4 p0 p5 p6 hw hd hs hx h1 h2 hN
  refine meetsP (E := (EG (glF m))) 52 [.tmp 6, .tmp 7] (eg (glF m)) Tryz.func23 rfl (by decide) rfl rfl (by simp) ?_
  repeat' first | (with_reducible refine t_bx 3 (id := 0) (kk := 5) (row := [.i .i64 xk, .i .i64 xa, .i .i64 xb, .s xn, .isl false 5 xs]) (C := [(0, .rows 5 [_])]) (C' := []) rfl rfl rfl rfl ?_) | ((with_reducible refine wr_isCall ?_); first | refine wr_P hc rfl ?_ | refine wr_P hck1 rfl ?_ | refine wr_P hck2 rfl ?_ | refine wr_ret k2 ?_) | (with_reducible first | refine t_seq ?_ | refine t_skip ?_ | refine t_ret ?_ | refine t_end ?_ | refine t_cond ?_ | refine t_region ?_ | refine wr_done ?_ | refine WD.done _ ?_ | refine wdp_done ?_ | refine wdg_done ?_ | refine tr_some ?_ | refine t_inBlock ?_) | ((with_reducible refine t_isDraw ?_); refine t_draw rfl (by kernel_rfl) ?_) | ((fail_if_success with_reducible refine t_bl ?_); (with_reducible refine t_block ?_)) | ((with_reducible refine t_isExit ?_); refine t_exit rfl ?_) | simp only [decide_eq_true_eq, decide_eq_false_iff_not, Bool.not_eq_true', Bool.not_eq_false'] at * | simp (disch := omega) only [go_sem, Nat.reduceLT, Nat.reduceEqDiff, Nat.reduceAdd, Nat.reduceLeDiff, Nat.reduceMul, Int.reduceLT, Int.reduceLE, Int.reduceAdd, Int.reduceSub, Int.reduceNeg, Int.reduceToNat, Int.reduceBEq, Int.reduceEq, reduceCtorEq, ↓reduceIte, *] | (with_reducible first | refine tb_true ?_ | refine tb_false ?_) | ((with_reducible first | refine tb_split ?_ ?_ | refine wg_f ?_ ?_ | refine wg_t ?_ ?_ | refine wd_f ?_ ?_ | refine wd_t ?_ ?_) <;> intro _)
  all_goals first | (exfalso; omega) | skip
  refine t_while (I := fun (j : Nat) t h => j ≤ N ∧ (∃ n e L, n' ≤ n ∧ LpB n' (FL j) n e L ∧ h = ⟨L ++ (id, .rows 1 BL) :: F1, n⟩ ∧ get t 10 = e) ∧ get t 1 = .i .i64 lo ∧ get t 36 = .osl id 0 N ∧ get t 37 = .i .i64 N ∧ get t 38 = .i .i64 j) (m := fun j => N - j)
    (J := fun t h => ∃ n e L, n' ≤ n ∧ LpB n' (FL N) n e L ∧ h = ⟨L ++ (id, .rows 1 BL) :: F1, n⟩ ∧ get t 10 = e) 0
    ⟨by omega, ⟨n', .nils, [], by omega, .inl ⟨hf0, rfl, rfl⟩, rfl, by simp [get]⟩, by simp [get], by simp [get], by simp [get], by simp [get]⟩ ?_ ?_
  · rintro j t h ⟨hj, ⟨n, e, L, hn, hLp, rfl, g10⟩, g1, g36, g37, g38⟩ hrec hex
    by_cases hj' : j < N
    · have hb := hat j hj'
      have hs1 := hfs j
      have hlen2 := hfl j
      clear hat hfs hfl k2 hc hck1 hck2
      generalize g (lo + j) = x at *
      rcases hLp with ⟨z1, rfl, rfl⟩ | ⟨i2, i0, i1, i3, rfl, rfl⟩
      · rw [z1] at hs1
        simp only [List.nil_append] at *
        cases x
        · rw [if_neg (by simp)] at hs1
          repeat' first | (with_reducible first | refine t_seq ?_ | refine t_skip ?_ | refine t_ret ?_ | refine t_end ?_ | refine t_cond ?_ | refine t_region ?_ | refine wr_done ?_ | refine WD.done _ ?_ | refine wdp_done ?_ | refine wdg_done ?_ | refine tr_some ?_ | refine t_inBlock ?_) | ((with_reducible refine t_isDraw ?_); refine t_draw rfl (by kernel_rfl) ?_) | ((fail_if_success with_reducible refine t_bl ?_); (with_reducible refine t_block ?_)) | ((with_reducible refine t_isExit ?_); refine t_exit rfl ?_) | simp only [decide_eq_true_eq, decide_eq_false_iff_not, Bool.not_eq_true', Bool.not_eq_false'] at * | simp (disch := omega) only [go_sem, Nat.reduceLT, Nat.reduceEqDiff, Nat.reduceAdd, Nat.reduceLeDiff, Nat.reduceMul, Int.reduceLT, Int.reduceLE, Int.reduceAdd, Int.reduceSub, Int.reduceNeg, Int.reduceToNat, Int.reduceBEq, Int.reduceEq, reduceCtorEq, ↓reduceIte, *] | (with_reducible first | refine tb_true ?_ | refine tb_false ?_) | ((with_reducible first | refine tb_split ?_ ?_ | refine wg_f ?_ ?_ | refine wg_t ?_ ?_ | refine wd_f ?_ ?_ | refine wd_t ?_ ?_) <;> intro _)
          all_goals first | (exfalso; omega) | skip
          exact hrec (j + 1) _ _ ⟨by omega, ⟨n, .nils, [], by omega, .inl ⟨hs1, rfl, rfl⟩, rfl, by simp [get, g10]⟩, by simp [get, g1], by simp [get, g36], by simp [get, g37], by simp [get] <;> omega⟩ (by omega)
        · rw [if_pos rfl] at hs1
          repeat' first | (with_reducible first | refine t_seq ?_ | refine t_skip ?_ | refine t_ret ?_ | refine t_end ?_ | refine t_cond ?_ | refine t_region ?_ | refine wr_done ?_ | refine WD.done _ ?_ | refine wdp_done ?_ | refine wdg_done ?_ | refine tr_some ?_ | refine t_inBlock ?_) | ((with_reducible refine t_isDraw ?_); refine t_draw rfl (by kernel_rfl) ?_) | ((fail_if_success with_reducible refine t_bl ?_); (with_reducible refine t_block ?_)) | ((with_reducible refine t_isExit ?_); refine t_exit rfl ?_) | simp only [decide_eq_true_eq, decide_eq_false_iff_not, Bool.not_eq_true', Bool.not_eq_false'] at * | simp (disch := omega) only [go_sem, Nat.reduceLT, Nat.reduceEqDiff, Nat.reduceAdd, Nat.reduceLeDiff, Nat.reduceMul, Int.reduceLT, Int.reduceLE, Int.reduceAdd, Int.reduceSub, Int.reduceNeg, Int.reduceToNat, Int.reduceBEq, Int.reduceEq, reduceCtorEq, ↓reduceIte, *] | (with_reducible first | refine tb_true ?_ | refine tb_false ?_) | ((with_reducible first | refine tb_split ?_ ?_ | refine wg_f ?_ ?_ | refine wg_t ?_ ?_ | refine wd_f ?_ ?_ | refine wd_t ?_ ?_) <;> intro _)
          all_goals first | (exfalso; omega) | skip
          refine t_fg (Sub.of_sublist (.cons_cons _ (.cons _ (List.Sublist.refl _))) (Nat.le_refl _)) ?_
          exact hrec (j + 1) _ _ ⟨by omega, ⟨n + 2, .osl (n + 1) 0 1, [(n + 1, .rows 1 [[.i .i64 (lo + j)]])], by omega, .inr ⟨n + 1, by rw [hs1]; simp, by omega, by omega, by rw [hs1]; rfl, by rw [hs1]; rfl⟩, rfl, by simp [get]⟩, by simp [get, g1], by simp [get, g36], by simp [get, g37], by simp [get] <;> omega⟩ (by omega)
      · have hil := intR_len (FL j)
        have hle : ((FL j).length + 1) * 8 ≤ 70368744177664 := by omega
        have q1 : ¬ i2 = id := by omega
        have q2 : ¬ n = i2 := by omega
        have q3 : ¬ n = id := by omega
        simp only [List.cons_append, List.nil_append] at *
        cases x
        · rw [if_neg (by simp), List.append_nil] at hs1
          repeat' first | (with_reducible first | refine t_seq ?_ | refine t_skip ?_ | refine t_ret ?_ | refine t_end ?_ | refine t_cond ?_ | refine t_region ?_ | refine wr_done ?_ | refine WD.done _ ?_ | refine wdp_done ?_ | refine wdg_done ?_ | refine tr_some ?_ | refine t_inBlock ?_) | ((with_reducible refine t_isDraw ?_); refine t_draw rfl (by kernel_rfl) ?_) | ((fail_if_success with_reducible refine t_bl ?_); (with_reducible refine t_block ?_)) | ((with_reducible refine t_isExit ?_); refine t_exit rfl ?_) | simp only [decide_eq_true_eq, decide_eq_false_iff_not, Bool.not_eq_true', Bool.not_eq_false'] at * | simp (disch := omega) only [go_sem, Nat.reduceLT, Nat.reduceEqDiff, Nat.reduceAdd, Nat.reduceLeDiff, Nat.reduceMul, Int.reduceLT, Int.reduceLE, Int.reduceAdd, Int.reduceSub, Int.reduceNeg, Int.reduceToNat, Int.reduceBEq, Int.reduceEq, reduceCtorEq, ↓reduceIte, *] | (with_reducible first | refine tb_true ?_ | refine tb_false ?_) | ((with_reducible first | refine tb_split ?_ ?_ | refine wg_f ?_ ?_ | refine wg_t ?_ ?_ | refine wd_f ?_ ?_ | refine wd_t ?_ ?_) <;> intro _)
          all_goals first | (exfalso; omega) | skip
          exact hrec (j + 1) _ _ ⟨by omega, ⟨n, .osl i2 0 (FL j).length, [(i2, .rows 1 (intR (FL j)))], by omega, .inr ⟨i2, by rw [hs1]; exact i0, i1, i3, by rw [hs1], by rw [hs1]⟩, rfl, by simp [get, g10]⟩, by simp [get, g1], by simp [get, g36], by simp [get, g37], by simp [get] <;> omega⟩ (by omega)
        · rw [if_pos rfl] at hs1
          repeat' first | (with_reducible first | refine t_seq ?_ | refine t_skip ?_ | refine t_ret ?_ | refine t_end ?_ | refine t_cond ?_ | refine t_region ?_ | refine wr_done ?_ | refine WD.done _ ?_ | refine wdp_done ?_ | refine wdg_done ?_ | refine tr_some ?_ | refine t_inBlock ?_) | ((with_reducible refine t_isDraw ?_); refine t_draw rfl (by kernel_rfl) ?_) | ((fail_if_success with_reducible refine t_bl ?_); (with_reducible refine t_block ?_)) | ((with_reducible refine t_isExit ?_); refine t_exit rfl ?_) | simp only [decide_eq_true_eq, decide_eq_false_iff_not, Bool.not_eq_true', Bool.not_eq_false'] at * | simp (disch := omega) only [go_sem, Nat.reduceLT, Nat.reduceEqDiff, Nat.reduceAdd, Nat.reduceLeDiff, Nat.reduceMul, Int.reduceLT, Int.reduceLE, Int.reduceAdd, Int.reduceSub, Int.reduceNeg, Int.reduceToNat, Int.reduceBEq, Int.reduceEq, reduceCtorEq, ↓reduceIte, *] | (with_reducible first | refine tb_true ?_ | refine tb_false ?_) | ((with_reducible first | refine tb_split ?_ ?_ | refine wg_f ?_ ?_ | refine wg_t ?_ ?_ | refine wd_f ?_ ?_ | refine wd_t ?_ ?_) <;> intro _)
          all_goals first | (exfalso; omega) | skip
          refine t_fg (Sub.of_sublist (.cons_cons _ (.cons _ (List.Sublist.refl _))) (Nat.le_refl _)) ?_
          exact hrec (j + 1) _ _ ⟨by omega, ⟨n + 2, .osl (n + 1) 0 ((FL j).length + 1), [(n + 1, .rows 1 (intR (FL j) ++ [[.i .i64 (lo + j)]]))], by omega, .inr ⟨n + 1, by rw [hs1]; simp, by omega, by omega, by rw [hs1]; simp, by rw [hs1, intR_snoc]⟩, rfl, by simp [get]⟩, by simp [get, g1], by simp [get, g36], by simp [get, g37], by simp [get] <;> omega⟩ (by omega)
    · have hjj : j = N := by omega
      rw [hjj] at hLp
      clear hat hfs hfl k2 hc hck1 hck2
      rcases hLp with ⟨z1, rfl, rfl⟩ | ⟨i2, i0, i1, i3, rfl, rfl⟩
      · simp only [List.nil_append] at *
        repeat' first | refine hex _ _ ?_ | (with_reducible first | refine t_seq ?_ | refine t_skip ?_ | refine t_ret ?_ | refine t_end ?_ | refine t_cond ?_ | refine t_region ?_ | refine wr_done ?_ | refine WD.done _ ?_ | refine wdp_done ?_ | refine wdg_done ?_ | refine tr_some ?_ | refine t_inBlock ?_) | ((with_reducible refine t_isDraw ?_); refine t_draw rfl (by kernel_rfl) ?_) | ((fail_if_success with_reducible refine t_bl ?_); (with_reducible refine t_block ?_)) | ((with_reducible refine t_isExit ?_); refine t_exit rfl ?_) | simp only [decide_eq_true_eq, decide_eq_false_iff_not, Bool.not_eq_true', Bool.not_eq_false'] at * | simp (disch := omega) only [go_sem, Nat.reduceLT, Nat.reduceEqDiff, Nat.reduceAdd, Nat.reduceLeDiff, Nat.reduceMul, Int.reduceLT, Int.reduceLE, Int.reduceAdd, Int.reduceSub, Int.reduceNeg, Int.reduceToNat, Int.reduceBEq, Int.reduceEq, reduceCtorEq, ↓reduceIte, *] | (with_reducible first | refine tb_true ?_ | refine tb_false ?_) | ((with_reducible first | refine tb_split ?_ ?_ | refine wg_f ?_ ?_ | refine wg_t ?_ ?_ | refine wd_f ?_ ?_ | refine wd_t ?_ ?_) <;> intro _)
        all_goals first | (exfalso; omega) | skip
        first | (exact ⟨n, .nils, [], hn, .inl ⟨z1, rfl, rfl⟩, rfl, by simp [get, g10]⟩) | (exact ⟨by simp [fz, lstA], rfl⟩)
      · simp only [List.cons_append, List.nil_append] at *
        repeat' first | refine hex _ _ ?_ | (with_reducible first | refine t_seq ?_ | refine t_skip ?_ | refine t_ret ?_ | refine t_end ?_ | refine t_cond ?_ | refine t_region ?_ | refine wr_done ?_ | refine WD.done _ ?_ | refine wdp_done ?_ | refine wdg_done ?_ | refine tr_some ?_ | refine t_inBlock ?_) | ((with_reducible refine t_isDraw ?_); refine t_draw rfl (by kernel_rfl) ?_) | ((fail_if_success with_reducible refine t_bl ?_); (with_reducible refine t_block ?_)) | ((with_reducible refine t_isExit ?_); refine t_exit rfl ?_) | simp only [decide_eq_true_eq, decide_eq_false_iff_not, Bool.not_eq_true', Bool.not_eq_false'] at * | simp (disch := omega) only [go_sem, Nat.reduceLT, Nat.reduceEqDiff, Nat.reduceAdd, Nat.reduceLeDiff, Nat.reduceMul, Int.reduceLT, Int.reduceLE, Int.reduceAdd, Int.reduceSub, Int.reduceNeg, Int.reduceToNat, Int.reduceBEq, Int.reduceEq, reduceCtorEq, ↓reduceIte, *] | (with_reducible first | refine tb_true ?_ | refine tb_false ?_) | ((with_reducible first | refine tb_split ?_ ?_ | refine wg_f ?_ ?_ | refine wg_t ?_ ?_ | refine wd_f ?_ ?_ | refine wd_t ?_ ?_) <;> intro _)
        all_goals first | (exfalso; omega) | skip
        exact ⟨n, _, _, hn, .inr ⟨i2, i0, i1, i3, rfl, rfl⟩, rfl, by simp [get, g10]⟩
  · rintro t h ⟨n, e, L, hn, hLp, rfl, g10⟩
    clear hat hfs hfl k2 hc hck1 hck2
    unfold lstA
    rcases hLp with ⟨z1, rfl, rfl⟩ | ⟨i2, i0, i1, i3, rfl, rfl⟩
    · rw [z1]
      simp only [List.nil_append] at *
      repeat' first | (with_reducible first | refine t_seq ?_ | refine t_skip ?_ | refine t_ret ?_ | refine t_end ?_ | refine t_cond ?_ | refine t_region ?_ | refine wr_done ?_ | refine WD.done _ ?_ | refine wdp_done ?_ | refine wdg_done ?_ | refine tr_some ?_ | refine t_inBlock ?_) | ((with_reducible refine t_isDraw ?_); refine t_draw rfl (by kernel_rfl) ?_) | ((fail_if_success with_reducible refine t_bl ?_); (with_reducible refine t_block ?_)) | ((with_reducible refine t_isExit ?_); refine t_exit rfl ?_) | simp only [decide_eq_true_eq, decide_eq_false_iff_not, Bool.not_eq_true', Bool.not_eq_false'] at * | simp (disch := omega) only [go_sem, Nat.reduceLT, Nat.reduceEqDiff, Nat.reduceAdd, Nat.reduceLeDiff, Nat.reduceMul, Int.reduceLT, Int.reduceLE, Int.reduceAdd, Int.reduceSub, Int.reduceNeg, Int.reduceToNat, Int.reduceBEq, Int.reduceEq, reduceCtorEq, ↓reduceIte, *] | (with_reducible first | refine tb_true ?_ | refine tb_false ?_) | ((with_reducible first | refine tb_split ?_ ?_ | refine wg_f ?_ ?_ | refine wg_t ?_ ?_ | refine wd_f ?_ ?_ | refine wd_t ?_ ?_) <;> intro _)
      exact ⟨rfl, rfl⟩
    · have hil := intR_len (FL N)
      have hfl := intR_flat (FL N)
      rw [if_neg i0]
      simp only [List.cons_append, List.nil_append] at *
      repeat' first | (with_reducible first | refine t_seq ?_ | refine t_skip ?_ | refine t_ret ?_ | refine t_end ?_ | refine t_cond ?_ | refine t_region ?_ | refine wr_done ?_ | refine WD.done _ ?_ | refine wdp_done ?_ | refine wdg_done ?_ | refine tr_some ?_ | refine t_inBlock ?_) | ((with_reducible refine t_isDraw ?_); refine t_draw rfl (by kernel_rfl) ?_) | ((fail_if_success with_reducible refine t_bl ?_); (with_reducible refine t_block ?_)) | ((with_reducible refine t_isExit ?_); refine t_exit rfl ?_) | simp only [decide_eq_true_eq, decide_eq_false_iff_not, Bool.not_eq_true', Bool.not_eq_false'] at * | simp (disch := omega) only [go_sem, Nat.reduceLT, Nat.reduceEqDiff, Nat.reduceAdd, Nat.reduceLeDiff, Nat.reduceMul, Int.reduceLT, Int.reduceLE, Int.reduceAdd, Int.reduceSub, Int.reduceNeg, Int.reduceToNat, Int.reduceBEq, Int.reduceEq, reduceCtorEq, ↓reduceIte, *] | (with_reducible first | refine tb_true ?_ | refine tb_false ?_) | ((with_reducible first | refine tb_split ?_ ?_ | refine wg_f ?_ ?_ | refine wg_t ?_ ?_ | refine wd_f ?_ ?_ | refine wd_t ?_ ?_) <;> intro _)
      refine ⟨?_, rfl⟩
      simp only [fz_tup, List.map_cons, List.map_nil, fz_i]
      rw [show (11 : Nat) = 9 + 2 from rfl, fz_own (l := intR (FL N)) (k := 1) (by simp (disch := omega) only [go_sem, ↓reduceIte]) (by rw [hil]; omega) hfl]
      rw [List.drop_zero, List.take_of_length_le (by rw [hil]; omega)]
theorem lstA_wk (l : List Int) : Wk (lstA l) (.isl false 1 (intR l)) := by
  unfold lstA
  by_cases h : l = []
  · rw [if_pos h, h]; exact Wk.nils 1
  · rw [if_neg h]; exact Wk.isl _ _
theorem Wk.pair {x y z : AV} (h : Wk x y) : Wk (.tup [x, z]) (.tup [y, z]) := Wk.tup rfl (fun j a b h1 h2 => by
  match j, h1, h2 with
  | 0, h1, h2 => cases h1; cases h2; exact h
  | 1, h1, h2 => cases h1; cases h2; exact .refl _
  | n + 2, h1, h2 => simp at h1)
theorem betweenW {t : Fs} (hw : t.wf Known) (hd : t.depth ≤ 10) (hs : t.size ≤ 40) (hc : MeetsP Tryz.prog (glF m) 15 [.agg t.row] (.i .i64 0)) {lo hi : Int} (h1 : chkDay lo = 0) (h2 : chkDay hi = 0) {N : Nat} (hN : hi - lo + 1 = N) (hN1 : 1 ≤ N) (hN2 : N ≤ 3001) :
    MeetsP Tryz.prog (glF m) 23 [.agg t.row, .i .i64 lo, .i .i64 hi] (.tup [.isl false 1 (intR (fil (t.on dN) lo N)), .i .i64 0]) := (betweenP hw hd hs hc h1 h2 hN hN1 hN2).weaken (Wk.pair (lstA_wk _))
set_option maxRecDepth 100000 in
theorem betweenNo {r : List AV} (h : FeR r) {e : Int} (he : e ≠ 0) (hc : MeetsP Tryz.prog (glF m) 15 [.agg r] (.i .i64 e)) (lo hi : Int) :
    MeetsP Tryz.prog (glF m) 23 [.agg r, .i .i64 lo, .i .i64 hi] (.tup [.nils, .i .i64 e]) := by
  obtain ⟨xk, xa, xb, xn, xs, rfl⟩ := h.row
  clear h
  refine meetsP (E := (EG (glF m))) 52 [.tmp 6, .tmp 7] (eg (glF m)) Tryz.func23 rfl (by decide) rfl rfl (by simp) ?_
  repeat' first | (with_reducible refine t_bx 3 (id := 0) (kk := 5) (row := [.i .i64 xk, .i .i64 xa, .i .i64 xb, .s xn, .isl false 5 xs]) (C := [(0, .rows 5 [_])]) (C' := []) rfl rfl rfl rfl ?_) | ((with_reducible refine wr_isCall ?_); refine wr_P hc rfl ?_) | (with_reducible first | refine t_seq ?_ | refine t_skip ?_ | refine t_ret ?_ | refine t_end ?_ | refine t_cond ?_ | refine t_region ?_ | refine wr_done ?_ | refine WD.done _ ?_ | refine wdp_done ?_ | refine wdg_done ?_ | refine tr_some ?_ | refine t_inBlock ?_) | ((with_reducible refine t_isDraw ?_); refine t_draw rfl (by kernel_rfl) ?_) | ((fail_if_success with_reducible refine t_bl ?_); (with_reducible refine t_block ?_)) | ((with_reducible refine t_isExit ?_); refine t_exit rfl ?_) | simp only [decide_eq_true_eq, decide_eq_false_iff_not, Bool.not_eq_true', Bool.not_eq_false'] at * | simp (disch := omega) only [go_sem, Nat.reduceLT, Nat.reduceEqDiff, Nat.reduceAdd, Nat.reduceLeDiff, Nat.reduceMul, Int.reduceLT, Int.reduceLE, Int.reduceAdd, Int.reduceSub, Int.reduceNeg, Int.reduceToNat, Int.reduceBEq, Int.reduceEq, reduceCtorEq, ↓reduceIte, *] | (with_reducible first | refine tb_true ?_ | refine tb_false ?_) | ((with_reducible first | refine tb_split ?_ ?_ | refine wg_f ?_ ?_ | refine wg_t ?_ ?_ | refine wd_f ?_ ?_ | refine wd_t ?_ ?_) <;> intro _)
  all_goals first | (exfalso; omega) | exact ⟨rfl, rfl⟩
set_option maxRecDepth 100000 in
theorem countP {t : Fs} (hw : t.wf Known) (hd : t.depth ≤ 10) (hs : t.size ≤ 40) (hc : MeetsP Tryz.prog (glF m) 15 [.agg t.row] (.i .i64 0)) {lo hi : Int} (h1 : chkDay lo = 0) (h2 : chkDay hi = 0) {N : Nat} (hN : hi - lo + 1 = N) (hN1 : 1 ≤ N) (hN2 : N ≤ 3001) :
    MeetsP Tryz.prog (glF m) 22 [.agg t.row, .i .i64 lo, .i .i64 hi] (.tup [.i .i64 (fil (t.on dN) lo N).length, .i .i64 0]) := by
  have hb := betweenW hw hd hs hc h1 h2 hN hN1 hN2
  have hl := fil_len (g := t.on dN) (lo := lo) N
  have hil := intR_len (fil (t.on dN) lo N)
  generalize fil (t.on dN) lo N = FL at *
  obtain ⟨xk, xa, xb, xn, xs, hrow⟩ := t.row5
  rw [hrow] at hb ⊢
  clear hw hd hs hc h1 h2 hN hrow
  refine meetsP (E := (EG (glF m))) 20 [.tmp 6, .tmp 7] (eg (glF m)) Tryz.func22 rfl (by decide) rfl rfl (by simp) ?_
  repeat' first | ((with_reducible refine wr_isCall ?_); refine wr_P hb rfl ?_) | (with_reducible first | refine t_seq ?_ | refine t_skip ?_ | refine t_ret ?_ | refine t_end ?_ | refine t_cond ?_ | refine t_region ?_ | refine wr_done ?_ | refine WD.done _ ?_ | refine wdp_done ?_ | refine wdg_done ?_ | refine tr_some ?_ | refine t_inBlock ?_) | ((with_reducible refine t_isDraw ?_); refine t_draw rfl (by kernel_rfl) ?_) | ((fail_if_success with_reducible refine t_bl ?_); (with_reducible refine t_block ?_)) | ((with_reducible refine t_isExit ?_); refine t_exit rfl ?_) | simp only [decide_eq_true_eq, decide_eq_false_iff_not, Bool.not_eq_true', Bool.not_eq_false'] at * | simp (disch := omega) only [go_sem, Nat.reduceLT, Nat.reduceEqDiff, Nat.reduceAdd, Nat.reduceLeDiff, Nat.reduceMul, Int.reduceLT, Int.reduceLE, Int.reduceAdd, Int.reduceSub, Int.reduceNeg, Int.reduceToNat, Int.reduceBEq, Int.reduceEq, reduceCtorEq, ↓reduceIte, *] | (with_reducible first | refine tb_true ?_ | refine tb_false ?_) | ((with_reducible first | refine tb_split ?_ ?_ | refine wg_f ?_ ?_ | refine wg_t ?_ ?_ | refine wd_f ?_ ?_ | refine wd_t ?_ ?_) <;> intro _)
  all_goals first | (exfalso; omega) | exact ⟨rfl, rfl⟩
set_option maxRecDepth 100000 in
theorem countNo {r : List AV} (h : FeR r) {e : Int} (he : e ≠ 0) (hc : MeetsP Tryz.prog (glF m) 15 [.agg r] (.i .i64 e)) (lo hi : Int) :
    MeetsP Tryz.prog (glF m) 22 [.agg r, .i .i64 lo, .i .i64 hi] (.tup [.i .i64 0, .i .i64 e]) := by
  have hb := betweenNo h he hc lo hi
  obtain ⟨xk, xa, xb, xn, xs, rfl⟩ := h.row
  clear h hc
  refine meetsP (E := (EG (glF m))) 20 [.tmp 6, .tmp 7] (eg (glF m)) Tryz.func22 rfl (by decide) rfl rfl (by simp) ?_
  repeat' first | ((with_reducible refine wr_isCall ?_); refine wr_P hb rfl ?_) | (with_reducible first | refine t_seq ?_ | refine t_skip ?_ | refine t_ret ?_ | refine t_end ?_ | refine t_cond ?_ | refine t_region ?_ | refine wr_done ?_ | refine WD.done _ ?_ | refine wdp_done ?_ | refine wdg_done ?_ | refine tr_some ?_ | refine t_inBlock ?_) | ((with_reducible refine t_isDraw ?_); refine t_draw rfl (by kernel_rfl) ?_) | ((fail_if_success with_reducible refine t_bl ?_); (with_reducible refine t_block ?_)) | ((with_reducible refine t_isExit ?_); refine t_exit rfl ?_) | simp only [decide_eq_true_eq, decide_eq_false_iff_not, Bool.not_eq_true', Bool.not_eq_false'] at * | simp (disch := omega) only [go_sem, Nat.reduceLT, Nat.reduceEqDiff, Nat.reduceAdd, Nat.reduceLeDiff, Nat.reduceMul, Int.reduceLT, Int.reduceLE, Int.reduceAdd, Int.reduceSub, Int.reduceNeg, Int.reduceToNat, Int.reduceBEq, Int.reduceEq, reduceCtorEq, ↓reduceIte, *] | (with_reducible first | refine tb_true ?_ | refine tb_false ?_) | ((with_reducible first | refine tb_split ?_ ?_ | refine wg_f ?_ ?_ | refine wg_t ?_ ?_ | refine wd_f ?_ ?_ | refine wd_t ?_ ?_) <;> intro _)
  all_goals first | (exfalso; omega) | exact ⟨rfl, rfl⟩
end Go.Proofs.YthahgmncnbeddaaGreatDoorA
