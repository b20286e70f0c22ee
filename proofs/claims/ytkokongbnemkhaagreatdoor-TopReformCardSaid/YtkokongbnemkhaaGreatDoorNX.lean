/- Package reform. -/
import Derived.Test.YtkokongbnemkhaaGreatDoorNA
import Derived.Test.YtkokongbnemkhaaGreatDoorPW12
set_option linter.unusedVariables false
set_option linter.unusedSimpArgs false
namespace Go.Proofs.YtkokongbnemkhaaGreatDoorA
open Go Go.RowKit Go.Proofs.YtkokongbnemkhaaGreatDoorFx Go.Proofs
variable {m : Int}
theorem fstE_step {f : Nat → Int} {i k : Nat} (h : f i = 0) : fstE f i (k + 1) = fstE f (i + 1) k := by
  show (if f i ≠ 0 then f i else fstE f (i + 1) k) = _
  rw [if_neg (by simp [h])]
theorem fstE_hit {f : Nat → Int} {i k : Nat} (h : f i ≠ 0) : fstE f i (k + 1) = f i := by
  show (if f i ≠ 0 then f i else fstE f (i + 1) k) = _
  rw [if_pos h]
/-- A text of the catalog, or none. -/
theorem text_any (s : List UInt8) : ∃ x e, MeetsP Tryz.prog (glT m) 47 [.s s] (.tup [.s x, .i .i64 e]) ∧ (Unknown s → e = 5) ∧ (¬ Unknown s → e = 0) := by
  by_cases h : Unknown s
  · exact ⟨[], 5, textNo h, fun _ => rfl, fun q => absurd h q⟩
  · obtain ⟨x, hx⟩ := calN_text (m := m) h
    exact ⟨x, 0, hx, fun q => absurd q h, fun _ => rfl⟩
set_option maxRecDepth 100000 in
set_option maxHeartbeats 2000000 in
theorem refCheckP (r : Ref) (hs : r.nm.length ≤ 140737488351232) : MeetsP Tryz.prog (glT m) 31 [r.A] (.i .i64 r.chk) := by
  have hN := ruleNameP (m := m) r.nm (by omega)
  have hrow := fun i h => Ref.row (r := r) (i := i) h
  have hlen := r.rows_len
  unfold Ref.chk Ref.A
  generalize r.rows = R at *
  by_cases h1 : nameB r.nm = false
  · rw [if_pos h1]
    rw [h1] at hN
    refine meetsP (E := (EW m)) 62 [.tmp 2] (ew m) Tryz.func31 rfl (by decide) rfl rfl (by simp) ?_
    repeat' first
      | ((with_reducible refine wr_isCall ?_); refine wr_P hN rfl ?_)
      | (with_reducible refine t_seq ?_)
      | (with_reducible refine t_skip ?_)
      | (with_reducible refine t_ret ?_)
      | (with_reducible refine t_end ?_)
      | (with_reducible refine t_cond ?_)
      | (with_reducible refine t_region ?_)
      | (with_reducible refine wr_done ?_)
      | ((with_reducible refine t_isDraw ?_); refine t_draw rfl (by kernel_rfl) ?_)
      | (with_reducible refine WD.done _ ?_)
      | (with_reducible refine wdp_done ?_)
      | (with_reducible refine tr_some ?_)
      | ((fail_if_success with_reducible refine t_bl ?_); (with_reducible refine t_block ?_))
      | (with_reducible refine t_inBlock ?_)
      | ((with_reducible refine t_isExit ?_); refine t_exit rfl ?_)
      | simp only [decide_eq_true_eq, decide_eq_false_iff_not, Bool.not_eq_true', Bool.not_eq_false'] at *
      | simp (disch := omega) only [go_sem, Nat.reduceLT, Nat.reduceEqDiff, Nat.reduceAdd, Nat.reduceLeDiff, Nat.reduceMul, Int.reduceLT, Int.reduceLE, Int.reduceAdd, Int.reduceSub, Int.reduceNeg, Int.reduceToNat, Int.reduceBEq, Int.reduceEq, reduceCtorEq, List.take_succ_cons, List.take_zero, List.take_nil, List.drop_succ_cons, List.drop_nil, List.cons_append, List.nil_append, List.set_cons_zero, List.set_cons_succ, ↓reduceIte, *]
      | (with_reducible refine tb_true ?_)
      | (with_reducible refine tb_false ?_)
      | (with_reducible refine tb_split (fun _ => ?_) (fun _ => ?_))
      | (with_reducible refine wg_f (fun _ => ?_) (fun _ => ?_))
      | (with_reducible refine wg_t (fun _ => ?_) (fun _ => ?_))
      | (with_reducible refine wd_f (fun _ => ?_) (fun _ => ?_))
      | (with_reducible refine wd_t (fun _ => ?_) (fun _ => ?_))
    exact ⟨rfl, rfl⟩
  rw [if_neg h1]
  rw [show nameB r.nm = true by simpa using h1] at hN
  by_cases h2 : r.ps.length < 1 ∨ 10 < r.ps.length
  · rw [if_pos h2]
    rw [← hlen] at h2
    refine meetsP (E := (EW m)) 62 [.tmp 2] (ew m) Tryz.func31 rfl (by decide) rfl rfl (by simp) ?_
    repeat' first
      | ((with_reducible refine wr_isCall ?_); refine wr_P hN rfl ?_)
      | (with_reducible refine t_seq ?_)
      | (with_reducible refine t_skip ?_)
      | (with_reducible refine t_ret ?_)
      | (with_reducible refine t_end ?_)
      | (with_reducible refine t_cond ?_)
      | (with_reducible refine t_region ?_)
      | (with_reducible refine wr_done ?_)
      | ((with_reducible refine t_isDraw ?_); refine t_draw rfl (by kernel_rfl) ?_)
      | (with_reducible refine WD.done _ ?_)
      | (with_reducible refine wdp_done ?_)
      | (with_reducible refine tr_some ?_)
      | ((fail_if_success with_reducible refine t_bl ?_); (with_reducible refine t_block ?_))
      | (with_reducible refine t_inBlock ?_)
      | ((with_reducible refine t_isExit ?_); refine t_exit rfl ?_)
      | simp only [decide_eq_true_eq, decide_eq_false_iff_not, Bool.not_eq_true', Bool.not_eq_false'] at *
      | simp (disch := omega) only [go_sem, Nat.reduceLT, Nat.reduceEqDiff, Nat.reduceAdd, Nat.reduceLeDiff, Nat.reduceMul, Int.reduceLT, Int.reduceLE, Int.reduceAdd, Int.reduceSub, Int.reduceNeg, Int.reduceToNat, Int.reduceBEq, Int.reduceEq, reduceCtorEq, List.take_succ_cons, List.take_zero, List.take_nil, List.drop_succ_cons, List.drop_nil, List.cons_append, List.nil_append, List.set_cons_zero, List.set_cons_succ, ↓reduceIte, *]
      | (with_reducible refine tb_true ?_)
      | (with_reducible refine tb_false ?_)
      | (with_reducible refine tb_split (fun _ => ?_) (fun _ => ?_))
      | (with_reducible refine wg_f (fun _ => ?_) (fun _ => ?_))
      | (with_reducible refine wg_t (fun _ => ?_) (fun _ => ?_))
      | (with_reducible refine wd_f (fun _ => ?_) (fun _ => ?_))
      | (with_reducible refine wd_t (fun _ => ?_) (fun _ => ?_))
    all_goals first | (exfalso; omega) | exact ⟨rfl, rfl⟩
  rw [if_neg h2]
  have h0 := hrow 0 (by omega)
  have hl1 : 1 ≤ R.length := by omega
  have hl2 : R.length ≤ 10 := by omega
  by_cases h3 : r.f 0 ≠ -4000000
  · rw [if_pos h3]
    refine meetsP (E := (EW m)) 62 [.tmp 2] (ew m) Tryz.func31 rfl (by decide) rfl rfl (by simp) ?_
    repeat' first
      | ((with_reducible refine wr_isCall ?_); refine wr_P hN rfl ?_)
      | (with_reducible refine t_seq ?_)
      | (with_reducible refine t_skip ?_)
      | (with_reducible refine t_ret ?_)
      | (with_reducible refine t_end ?_)
      | (with_reducible refine t_cond ?_)
      | (with_reducible refine t_region ?_)
      | (with_reducible refine wr_done ?_)
      | ((with_reducible refine t_isDraw ?_); refine t_draw rfl (by kernel_rfl) ?_)
      | (with_reducible refine WD.done _ ?_)
      | (with_reducible refine wdp_done ?_)
      | (with_reducible refine tr_some ?_)
      | ((fail_if_success with_reducible refine t_bl ?_); (with_reducible refine t_block ?_))
      | (with_reducible refine t_inBlock ?_)
      | ((with_reducible refine t_isExit ?_); refine t_exit rfl ?_)
      | simp only [decide_eq_true_eq, decide_eq_false_iff_not, Bool.not_eq_true', Bool.not_eq_false'] at *
      | simp (disch := omega) only [go_sem, Nat.reduceLT, Nat.reduceEqDiff, Nat.reduceAdd, Nat.reduceLeDiff, Nat.reduceMul, Int.reduceLT, Int.reduceLE, Int.reduceAdd, Int.reduceSub, Int.reduceNeg, Int.reduceToNat, Int.reduceBEq, Int.reduceEq, reduceCtorEq, List.take_succ_cons, List.take_zero, List.take_nil, List.drop_succ_cons, List.drop_nil, List.cons_append, List.nil_append, List.set_cons_zero, List.set_cons_succ, ↓reduceIte, *]
      | (with_reducible refine tb_true ?_)
      | (with_reducible refine tb_false ?_)
      | (with_reducible refine tb_split (fun _ => ?_) (fun _ => ?_))
      | (with_reducible refine wg_f (fun _ => ?_) (fun _ => ?_))
      | (with_reducible refine wg_t (fun _ => ?_) (fun _ => ?_))
      | (with_reducible refine wd_f (fun _ => ?_) (fun _ => ?_))
      | (with_reducible refine wd_t (fun _ => ?_) (fun _ => ?_))
    all_goals first | (exfalso; omega) | exact ⟨rfl, rfl⟩
  rw [if_neg h3]
  have h3' : r.f 0 = -4000000 := by simpa using h3
  generalize hE : fstE r.flt 0 r.ps.length = E
  refine meetsP (E := (EW m)) 62 [.tmp 2] (ew m) Tryz.func31 rfl (by decide) rfl rfl (by simp) ?_
  repeat' first
    | ((with_reducible refine wr_isCall ?_); refine wr_P hN rfl ?_)
    | (with_reducible refine t_seq ?_)
    | (with_reducible refine t_skip ?_)
    | (with_reducible refine t_ret ?_)
    | (with_reducible refine t_end ?_)
    | (with_reducible refine t_cond ?_)
    | (with_reducible refine t_region ?_)
    | (with_reducible refine wr_done ?_)
    | ((with_reducible refine t_isDraw ?_); refine t_draw rfl (by kernel_rfl) ?_)
    | (with_reducible refine WD.done _ ?_)
    | (with_reducible refine wdp_done ?_)
    | (with_reducible refine tr_some ?_)
    | ((fail_if_success with_reducible refine t_bl ?_); (with_reducible refine t_block ?_))
    | (with_reducible refine t_inBlock ?_)
    | ((with_reducible refine t_isExit ?_); refine t_exit rfl ?_)
    | simp only [decide_eq_true_eq, decide_eq_false_iff_not, Bool.not_eq_true', Bool.not_eq_false'] at *
    | simp (disch := omega) only [go_sem, Nat.reduceLT, Nat.reduceEqDiff, Nat.reduceAdd, Nat.reduceLeDiff, Nat.reduceMul, Int.reduceLT, Int.reduceLE, Int.reduceAdd, Int.reduceSub, Int.reduceNeg, Int.reduceToNat, Int.reduceBEq, Int.reduceEq, reduceCtorEq, List.take_succ_cons, List.take_zero, List.take_nil, List.drop_succ_cons, List.drop_nil, List.cons_append, List.nil_append, List.set_cons_zero, List.set_cons_succ, ↓reduceIte, *]
    | (with_reducible refine tb_true ?_)
    | (with_reducible refine tb_false ?_)
    | (with_reducible refine tb_split (fun _ => ?_) (fun _ => ?_))
    | (with_reducible refine wg_f (fun _ => ?_) (fun _ => ?_))
    | (with_reducible refine wg_t (fun _ => ?_) (fun _ => ?_))
    | (with_reducible refine wd_f (fun _ => ?_) (fun _ => ?_))
    | (with_reducible refine wd_t (fun _ => ?_) (fun _ => ?_))
  all_goals first | (exfalso; omega) | skip
  refine t_while (I := fun (i : Nat) t h => i ≤ R.length ∧ (∃ n, 1 ≤ n ∧ h = ⟨[(0, .rows 2 [[.s r.nm, .isl false 2 R]])], n⟩) ∧ get t 1 = .ptr 0 0 0 ∧ get t 28 = .isl false 2 R ∧ get t 29 = .i .i64 R.length ∧ get t 30 = .i .i64 i ∧ fstE r.flt i (R.length - i) = E) (m := fun i => R.length - i)
    (J := fun t h => E = 0) 0 ⟨by omega, ⟨1, by omega, rfl⟩, by simp [get], by simp [get], by simp [get, hlen], by simp [get], by rw [hlen]; exact hE⟩ ?_ ?_
  · rintro i t h ⟨hi, ⟨n, hn, rfl⟩, g1, g28, g29, g30, hE'⟩ hrec hex
    have hn1 : ¬ n = 0 := by omega
    have hn2 : ¬ 0 = n := by omega
    by_cases hi' : i < R.length
    · have hr := hrow i (by omega)
      have hc := lineCheck (m := m) (r.f i)
      obtain ⟨x, e, hT, he1, he2⟩ := text_any (m := m) (r.c i)
      rw [show R.length - i = (R.length - i - 1) + 1 by omega] at hE'
      have hgo : r.flt i = 0 → fstE r.flt (i + 1) (R.length - (i + 1)) = E := fun h => by
        rw [fstE_step h] at hE'
        rwa [show R.length - i - 1 = R.length - (i + 1) by omega] at hE'
      have hno : r.flt i ≠ 0 → r.flt i = E := fun h => by rwa [fstE_hit h] at hE'
      unfold Ref.flt at hgo hno
      have hp := fun (h : 0 < i) => hrow (i - 1) (by omega)
      have hpi : 0 < i → ((i : Int) - 1).toNat = i - 1 := fun h => by omega
      by_cases c1 : chkDay (r.f i) = 0
      · rw [c1] at hc hgo hno
        by_cases c2 : 0 < i ∧ r.f i ≤ r.f (i - 1)
        · have hq := hno (by rw [if_neg (by simp), if_pos c2]; decide)
          rw [if_neg (by simp), if_pos c2] at hq
          have hp' := hp c2.1
          have hpi' := hpi c2.1
          have ci : (0 : Int) < i := by omega
          have c22 := c2.2
          clear hgo hno hp hpi
          subst hq
          repeat' first
            | ((with_reducible refine wr_isCall ?_); refine wr_P hc rfl ?_)
            | (with_reducible refine t_seq ?_)
            | (with_reducible refine t_skip ?_)
            | (with_reducible refine t_ret ?_)
            | (with_reducible refine t_end ?_)
            | (with_reducible refine t_cond ?_)
            | (with_reducible refine t_region ?_)
            | (with_reducible refine wr_done ?_)
            | ((with_reducible refine t_isDraw ?_); refine t_draw rfl (by kernel_rfl) ?_)
            | (with_reducible refine WD.done _ ?_)
            | (with_reducible refine wdp_done ?_)
            | (with_reducible refine tr_some ?_)
            | ((fail_if_success with_reducible refine t_bl ?_); (with_reducible refine t_block ?_))
            | (with_reducible refine t_inBlock ?_)
            | ((with_reducible refine t_isExit ?_); refine t_exit rfl ?_)
            | simp only [decide_eq_true_eq, decide_eq_false_iff_not, Bool.not_eq_true', Bool.not_eq_false'] at *
            | simp (disch := omega) only [go_sem, Nat.reduceLT, Nat.reduceEqDiff, Nat.reduceAdd, Nat.reduceLeDiff, Nat.reduceMul, Int.reduceLT, Int.reduceLE, Int.reduceAdd, Int.reduceSub, Int.reduceNeg, Int.reduceToNat, Int.reduceBEq, Int.reduceEq, reduceCtorEq, List.take_succ_cons, List.take_zero, List.take_nil, List.drop_succ_cons, List.drop_nil, List.cons_append, List.nil_append, List.set_cons_zero, List.set_cons_succ, ↓reduceIte, *]
            | (with_reducible refine tb_true ?_)
            | (with_reducible refine tb_false ?_)
            | (with_reducible refine tb_split (fun _ => ?_) (fun _ => ?_))
            | (with_reducible refine wg_f (fun _ => ?_) (fun _ => ?_))
            | (with_reducible refine wg_t (fun _ => ?_) (fun _ => ?_))
            | (with_reducible refine wd_f (fun _ => ?_) (fun _ => ?_))
            | (with_reducible refine wd_t (fun _ => ?_) (fun _ => ?_))
          all_goals first | (exfalso; omega) | exact ⟨rfl, rfl⟩
        · by_cases c3 : Unknown (r.c i)
          · have hq := hno (by rw [if_neg (by simp), if_neg c2, if_pos c3]; decide)
            rw [if_neg (by simp), if_neg c2, if_pos c3] at hq
            have he := he1 c3
            subst he
            clear hgo hno he1 he2
            subst hq
            by_cases c4 : 0 < i
            · have hp' := hp c4
              have hpi' := hpi c4
              clear hp hpi
              repeat' first
                | ((with_reducible refine wr_isCall ?_); refine wr_P hc rfl ?_)
                | ((with_reducible refine wr_isCall ?_); refine wr_P hT rfl ?_)
                | (with_reducible refine t_seq ?_)
                | (with_reducible refine t_skip ?_)
                | (with_reducible refine t_ret ?_)
                | (with_reducible refine t_end ?_)
                | (with_reducible refine t_cond ?_)
                | (with_reducible refine t_region ?_)
                | (with_reducible refine wr_done ?_)
                | ((with_reducible refine t_isDraw ?_); refine t_draw rfl (by kernel_rfl) ?_)
                | (with_reducible refine WD.done _ ?_)
                | (with_reducible refine wdp_done ?_)
                | (with_reducible refine tr_some ?_)
                | ((fail_if_success with_reducible refine t_bl ?_); (with_reducible refine t_block ?_))
                | (with_reducible refine t_inBlock ?_)
                | ((with_reducible refine t_isExit ?_); refine t_exit rfl ?_)
                | simp only [decide_eq_true_eq, decide_eq_false_iff_not, Bool.not_eq_true', Bool.not_eq_false'] at *
                | simp (disch := omega) only [go_sem, Nat.reduceLT, Nat.reduceEqDiff, Nat.reduceAdd, Nat.reduceLeDiff, Nat.reduceMul, Int.reduceLT, Int.reduceLE, Int.reduceAdd, Int.reduceSub, Int.reduceNeg, Int.reduceToNat, Int.reduceBEq, Int.reduceEq, reduceCtorEq, List.take_succ_cons, List.take_zero, List.take_nil, List.drop_succ_cons, List.drop_nil, List.cons_append, List.nil_append, List.set_cons_zero, List.set_cons_succ, ↓reduceIte, *]
                | (with_reducible refine tb_true ?_)
                | (with_reducible refine tb_false ?_)
                | (with_reducible refine tb_split (fun _ => ?_) (fun _ => ?_))
                | (with_reducible refine wg_f (fun _ => ?_) (fun _ => ?_))
                | (with_reducible refine wg_t (fun _ => ?_) (fun _ => ?_))
                | (with_reducible refine wd_f (fun _ => ?_) (fun _ => ?_))
                | (with_reducible refine wd_t (fun _ => ?_) (fun _ => ?_))
              all_goals first | (exfalso; omega) | exact ⟨rfl, rfl⟩
            · clear hp hpi
              repeat' first
                | ((with_reducible refine wr_isCall ?_); refine wr_P hc rfl ?_)
                | ((with_reducible refine wr_isCall ?_); refine wr_P hT rfl ?_)
                | (with_reducible refine t_seq ?_)
                | (with_reducible refine t_skip ?_)
                | (with_reducible refine t_ret ?_)
                | (with_reducible refine t_end ?_)
                | (with_reducible refine t_cond ?_)
                | (with_reducible refine t_region ?_)
                | (with_reducible refine wr_done ?_)
                | ((with_reducible refine t_isDraw ?_); refine t_draw rfl (by kernel_rfl) ?_)
                | (with_reducible refine WD.done _ ?_)
                | (with_reducible refine wdp_done ?_)
                | (with_reducible refine tr_some ?_)
                | ((fail_if_success with_reducible refine t_bl ?_); (with_reducible refine t_block ?_))
                | (with_reducible refine t_inBlock ?_)
                | ((with_reducible refine t_isExit ?_); refine t_exit rfl ?_)
                | simp only [decide_eq_true_eq, decide_eq_false_iff_not, Bool.not_eq_true', Bool.not_eq_false'] at *
                | simp (disch := omega) only [go_sem, Nat.reduceLT, Nat.reduceEqDiff, Nat.reduceAdd, Nat.reduceLeDiff, Nat.reduceMul, Int.reduceLT, Int.reduceLE, Int.reduceAdd, Int.reduceSub, Int.reduceNeg, Int.reduceToNat, Int.reduceBEq, Int.reduceEq, reduceCtorEq, List.take_succ_cons, List.take_zero, List.take_nil, List.drop_succ_cons, List.drop_nil, List.cons_append, List.nil_append, List.set_cons_zero, List.set_cons_succ, ↓reduceIte, *]
                | (with_reducible refine tb_true ?_)
                | (with_reducible refine tb_false ?_)
                | (with_reducible refine tb_split (fun _ => ?_) (fun _ => ?_))
                | (with_reducible refine wg_f (fun _ => ?_) (fun _ => ?_))
                | (with_reducible refine wg_t (fun _ => ?_) (fun _ => ?_))
                | (with_reducible refine wd_f (fun _ => ?_) (fun _ => ?_))
                | (with_reducible refine wd_t (fun _ => ?_) (fun _ => ?_))
              all_goals first | (exfalso; omega) | exact ⟨rfl, rfl⟩
          · have hq := hgo (by rw [if_neg (by simp), if_neg c2, if_neg c3])
            have he := he2 c3
            subst he
            clear hgo hno he1 he2
            by_cases c4 : 0 < i
            · have hp' := hp c4
              have hpi' := hpi c4
              clear hp hpi
              repeat' first
                | ((with_reducible refine wr_isCall ?_); refine wr_P hc rfl ?_)
                | ((with_reducible refine wr_isCall ?_); refine wr_P hT rfl ?_)
                | (with_reducible refine t_seq ?_)
                | (with_reducible refine t_skip ?_)
                | (with_reducible refine t_ret ?_)
                | (with_reducible refine t_end ?_)
                | (with_reducible refine t_cond ?_)
                | (with_reducible refine t_region ?_)
                | (with_reducible refine wr_done ?_)
                | ((with_reducible refine t_isDraw ?_); refine t_draw rfl (by kernel_rfl) ?_)
                | (with_reducible refine WD.done _ ?_)
                | (with_reducible refine wdp_done ?_)
                | (with_reducible refine tr_some ?_)
                | ((fail_if_success with_reducible refine t_bl ?_); (with_reducible refine t_block ?_))
                | (with_reducible refine t_inBlock ?_)
                | ((with_reducible refine t_isExit ?_); refine t_exit rfl ?_)
                | simp only [decide_eq_true_eq, decide_eq_false_iff_not, Bool.not_eq_true', Bool.not_eq_false'] at *
                | simp (disch := omega) only [go_sem, Nat.reduceLT, Nat.reduceEqDiff, Nat.reduceAdd, Nat.reduceLeDiff, Nat.reduceMul, Int.reduceLT, Int.reduceLE, Int.reduceAdd, Int.reduceSub, Int.reduceNeg, Int.reduceToNat, Int.reduceBEq, Int.reduceEq, reduceCtorEq, List.take_succ_cons, List.take_zero, List.take_nil, List.drop_succ_cons, List.drop_nil, List.cons_append, List.nil_append, List.set_cons_zero, List.set_cons_succ, ↓reduceIte, *]
                | (with_reducible refine tb_true ?_)
                | (with_reducible refine tb_false ?_)
                | (with_reducible refine tb_split (fun _ => ?_) (fun _ => ?_))
                | (with_reducible refine wg_f (fun _ => ?_) (fun _ => ?_))
                | (with_reducible refine wg_t (fun _ => ?_) (fun _ => ?_))
                | (with_reducible refine wd_f (fun _ => ?_) (fun _ => ?_))
                | (with_reducible refine wd_t (fun _ => ?_) (fun _ => ?_))
              all_goals first | (exfalso; omega) | skip
              all_goals refine t_pop ?_
              all_goals exact hrec (i + 1) _ _ ⟨by omega, ⟨n + 1, by omega, rfl⟩, by simp [get, g1], by simp [get, g28], by simp [get, g29], by simp [get], hq⟩ (by omega)
            · clear hp hpi
              repeat' first
                | ((with_reducible refine wr_isCall ?_); refine wr_P hc rfl ?_)
                | ((with_reducible refine wr_isCall ?_); refine wr_P hT rfl ?_)
                | (with_reducible refine t_seq ?_)
                | (with_reducible refine t_skip ?_)
                | (with_reducible refine t_ret ?_)
                | (with_reducible refine t_end ?_)
                | (with_reducible refine t_cond ?_)
                | (with_reducible refine t_region ?_)
                | (with_reducible refine wr_done ?_)
                | ((with_reducible refine t_isDraw ?_); refine t_draw rfl (by kernel_rfl) ?_)
                | (with_reducible refine WD.done _ ?_)
                | (with_reducible refine wdp_done ?_)
                | (with_reducible refine tr_some ?_)
                | ((fail_if_success with_reducible refine t_bl ?_); (with_reducible refine t_block ?_))
                | (with_reducible refine t_inBlock ?_)
                | ((with_reducible refine t_isExit ?_); refine t_exit rfl ?_)
                | simp only [decide_eq_true_eq, decide_eq_false_iff_not, Bool.not_eq_true', Bool.not_eq_false'] at *
                | simp (disch := omega) only [go_sem, Nat.reduceLT, Nat.reduceEqDiff, Nat.reduceAdd, Nat.reduceLeDiff, Nat.reduceMul, Int.reduceLT, Int.reduceLE, Int.reduceAdd, Int.reduceSub, Int.reduceNeg, Int.reduceToNat, Int.reduceBEq, Int.reduceEq, reduceCtorEq, List.take_succ_cons, List.take_zero, List.take_nil, List.drop_succ_cons, List.drop_nil, List.cons_append, List.nil_append, List.set_cons_zero, List.set_cons_succ, ↓reduceIte, *]
                | (with_reducible refine tb_true ?_)
                | (with_reducible refine tb_false ?_)
                | (with_reducible refine tb_split (fun _ => ?_) (fun _ => ?_))
                | (with_reducible refine wg_f (fun _ => ?_) (fun _ => ?_))
                | (with_reducible refine wg_t (fun _ => ?_) (fun _ => ?_))
                | (with_reducible refine wd_f (fun _ => ?_) (fun _ => ?_))
                | (with_reducible refine wd_t (fun _ => ?_) (fun _ => ?_))
              all_goals first | (exfalso; omega) | skip
              all_goals refine t_pop ?_
              all_goals exact hrec (i + 1) _ _ ⟨by omega, ⟨n + 1, by omega, rfl⟩, by simp [get, g1], by simp [get, g28], by simp [get, g29], by simp [get], hq⟩ (by omega)
      · have hq := hno (by rw [if_pos c1]; decide)
        rw [if_pos c1] at hq
        have hc3 : chkDay (r.f i) = 3 := by unfold chkDay at c1 ⊢; split <;> simp_all
        rw [hc3] at hc
        clear hgo hno hp hpi
        subst hq
        repeat' first
          | ((with_reducible refine wr_isCall ?_); refine wr_P hc rfl ?_)
          | (with_reducible refine t_seq ?_)
          | (with_reducible refine t_skip ?_)
          | (with_reducible refine t_ret ?_)
          | (with_reducible refine t_end ?_)
          | (with_reducible refine t_cond ?_)
          | (with_reducible refine t_region ?_)
          | (with_reducible refine wr_done ?_)
          | ((with_reducible refine t_isDraw ?_); refine t_draw rfl (by kernel_rfl) ?_)
          | (with_reducible refine WD.done _ ?_)
          | (with_reducible refine wdp_done ?_)
          | (with_reducible refine tr_some ?_)
          | ((fail_if_success with_reducible refine t_bl ?_); (with_reducible refine t_block ?_))
          | (with_reducible refine t_inBlock ?_)
          | ((with_reducible refine t_isExit ?_); refine t_exit rfl ?_)
          | simp only [decide_eq_true_eq, decide_eq_false_iff_not, Bool.not_eq_true', Bool.not_eq_false'] at *
          | simp (disch := omega) only [go_sem, Nat.reduceLT, Nat.reduceEqDiff, Nat.reduceAdd, Nat.reduceLeDiff, Nat.reduceMul, Int.reduceLT, Int.reduceLE, Int.reduceAdd, Int.reduceSub, Int.reduceNeg, Int.reduceToNat, Int.reduceBEq, Int.reduceEq, reduceCtorEq, List.take_succ_cons, List.take_zero, List.take_nil, List.drop_succ_cons, List.drop_nil, List.cons_append, List.nil_append, List.set_cons_zero, List.set_cons_succ, ↓reduceIte, *]
          | (with_reducible refine tb_true ?_)
          | (with_reducible refine tb_false ?_)
          | (with_reducible refine tb_split (fun _ => ?_) (fun _ => ?_))
          | (with_reducible refine wg_f (fun _ => ?_) (fun _ => ?_))
          | (with_reducible refine wg_t (fun _ => ?_) (fun _ => ?_))
          | (with_reducible refine wd_f (fun _ => ?_) (fun _ => ?_))
          | (with_reducible refine wd_t (fun _ => ?_) (fun _ => ?_))
        all_goals first | (exfalso; omega) | exact ⟨rfl, rfl⟩
    · have hz : R.length - i = 0 := by omega
      rw [hz] at hE'
      have hE0 : E = 0 := hE'.symm
      subst hE0
      repeat' first
        | (with_reducible refine t_seq ?_)
        | (with_reducible refine t_skip ?_)
        | (with_reducible refine t_ret ?_)
        | (with_reducible refine t_end ?_)
        | (with_reducible refine t_cond ?_)
        | (with_reducible refine t_region ?_)
        | (with_reducible refine wr_done ?_)
        | ((with_reducible refine t_isDraw ?_); refine t_draw rfl (by kernel_rfl) ?_)
        | (with_reducible refine WD.done _ ?_)
        | (with_reducible refine wdp_done ?_)
        | (with_reducible refine tr_some ?_)
        | ((fail_if_success with_reducible refine t_bl ?_); (with_reducible refine t_block ?_))
        | (with_reducible refine t_inBlock ?_)
        | ((with_reducible refine t_isExit ?_); refine t_exit rfl ?_)
        | simp only [decide_eq_true_eq, decide_eq_false_iff_not, Bool.not_eq_true', Bool.not_eq_false'] at *
        | simp (disch := omega) only [go_sem, Nat.reduceLT, Nat.reduceEqDiff, Nat.reduceAdd, Nat.reduceLeDiff, Nat.reduceMul, Int.reduceLT, Int.reduceLE, Int.reduceAdd, Int.reduceSub, Int.reduceNeg, Int.reduceToNat, Int.reduceBEq, Int.reduceEq, reduceCtorEq, List.take_succ_cons, List.take_zero, List.take_nil, List.drop_succ_cons, List.drop_nil, List.cons_append, List.nil_append, List.set_cons_zero, List.set_cons_succ, ↓reduceIte, *]
        | (with_reducible refine tb_true ?_)
        | (with_reducible refine tb_false ?_)
        | (with_reducible refine tb_split (fun _ => ?_) (fun _ => ?_))
        | (with_reducible refine wg_f (fun _ => ?_) (fun _ => ?_))
        | (with_reducible refine wg_t (fun _ => ?_) (fun _ => ?_))
        | (with_reducible refine wd_f (fun _ => ?_) (fun _ => ?_))
        | (with_reducible refine wd_t (fun _ => ?_) (fun _ => ?_))
      all_goals first | (exfalso; omega) | exact ⟨rfl, rfl⟩
  · rintro t h rfl
    repeat' first
      | (with_reducible refine t_seq ?_)
      | (with_reducible refine t_skip ?_)
      | (with_reducible refine t_ret ?_)
      | (with_reducible refine t_end ?_)
      | (with_reducible refine t_cond ?_)
      | (with_reducible refine t_region ?_)
      | (with_reducible refine wr_done ?_)
      | ((with_reducible refine t_isDraw ?_); refine t_draw rfl (by kernel_rfl) ?_)
      | (with_reducible refine WD.done _ ?_)
      | (with_reducible refine wdp_done ?_)
      | (with_reducible refine tr_some ?_)
      | ((fail_if_success with_reducible refine t_bl ?_); (with_reducible refine t_block ?_))
      | (with_reducible refine t_inBlock ?_)
      | ((with_reducible refine t_isExit ?_); refine t_exit rfl ?_)
      | simp only [decide_eq_true_eq, decide_eq_false_iff_not, Bool.not_eq_true', Bool.not_eq_false'] at *
      | simp (disch := omega) only [go_sem, Nat.reduceLT, Nat.reduceEqDiff, Nat.reduceAdd, Nat.reduceLeDiff, Nat.reduceMul, Int.reduceLT, Int.reduceLE, Int.reduceAdd, Int.reduceSub, Int.reduceNeg, Int.reduceToNat, Int.reduceBEq, Int.reduceEq, reduceCtorEq, List.take_succ_cons, List.take_zero, List.take_nil, List.drop_succ_cons, List.drop_nil, List.cons_append, List.nil_append, List.set_cons_zero, List.set_cons_succ, ↓reduceIte, *]
      | (with_reducible refine tb_true ?_)
      | (with_reducible refine tb_false ?_)
      | (with_reducible refine tb_split (fun _ => ?_) (fun _ => ?_))
      | (with_reducible refine wg_f (fun _ => ?_) (fun _ => ?_))
      | (with_reducible refine wg_t (fun _ => ?_) (fun _ => ?_))
      | (with_reducible refine wd_f (fun _ => ?_) (fun _ => ?_))
      | (with_reducible refine wd_t (fun _ => ?_) (fun _ => ?_))
    exact ⟨rfl, rfl⟩
end Go.Proofs.YtkokongbnemkhaaGreatDoorA
/- reform.FromDay, reform.Days. -/
set_option linter.unusedVariables false
set_option linter.unusedSimpArgs false
namespace Go.Proofs.YtkokongbnemkhaaGreatDoorA
open Go Go.RowKit Go.Proofs.YtkokongbnemkhaaGreatDoorFx Go.Proofs
variable {m : Int}
theorem Ref.A_no (r : Ref) : [r.A].all (noid 12) = true := rfl
set_option maxRecDepth 100000 in
theorem refFromBad (r : Ref) (hs : r.nm.length ≤ 140737488351232) (h : r.chk ≠ 0) (day : Int) : MeetsP Tryz.prog (glT m) 13 [r.A, .i .i64 day] (resD (dateA 0 0 0) r.chk) := by
  have hc := refCheckP (m := m) r hs
  have hno := r.A_no
  unfold resD dateA
  unfold Ref.A at hc hno ⊢
  generalize r.chk = e at *
  generalize r.rows = R at *
  refine meetsP (E := (EW m)) 47 [.cell 4 32, .tmp 5] (ew m) Tryz.func13 rfl (by decide) rfl rfl (by simp) ?_
  repeat' first
    | ((with_reducible refine wr_isCall ?_); refine wr_P hc hno ?_)
    | (with_reducible refine t_seq ?_)
    | (with_reducible refine t_skip ?_)
    | (with_reducible refine t_ret ?_)
    | (with_reducible refine t_end ?_)
    | (with_reducible refine t_cond ?_)
    | (with_reducible refine t_region ?_)
    | (with_reducible refine wr_done ?_)
    | ((with_reducible refine t_isDraw ?_); refine t_draw rfl (by kernel_rfl) ?_)
    | (with_reducible refine WD.done _ ?_)
    | (with_reducible refine wdp_done ?_)
    | (with_reducible refine tr_some ?_)
    | ((fail_if_success with_reducible refine t_bl ?_); (with_reducible refine t_block ?_))
    | (with_reducible refine t_inBlock ?_)
    | ((with_reducible refine t_isExit ?_); refine t_exit rfl ?_)
    | simp only [decide_eq_true_eq, decide_eq_false_iff_not, Bool.not_eq_true', Bool.not_eq_false'] at *
    | simp (disch := omega) only [go_sem, Nat.reduceLT, Nat.reduceEqDiff, Nat.reduceAdd, Nat.reduceLeDiff, Nat.reduceMul, Int.reduceLT, Int.reduceLE, Int.reduceAdd, Int.reduceSub, Int.reduceNeg, Int.reduceToNat, Int.reduceBEq, Int.reduceEq, reduceCtorEq, List.take_succ_cons, List.take_zero, List.take_nil, List.drop_succ_cons, List.drop_nil, List.cons_append, List.nil_append, List.set_cons_zero, List.set_cons_succ, ↓reduceIte, *]
    | (with_reducible refine tb_true ?_)
    | (with_reducible refine tb_false ?_)
    | (with_reducible refine tb_split (fun _ => ?_) (fun _ => ?_))
    | (with_reducible refine wg_f (fun _ => ?_) (fun _ => ?_))
    | (with_reducible refine wg_t (fun _ => ?_) (fun _ => ?_))
    | (with_reducible refine wd_f (fun _ => ?_) (fun _ => ?_))
    | (with_reducible refine wd_t (fun _ => ?_) (fun _ => ?_))
  all_goals first | (exfalso; omega) | exact ⟨rfl, rfl⟩
set_option maxRecDepth 100000 in
theorem refFromFar (r : Ref) (hs : r.nm.length ≤ 140737488351232) (h : r.chk = 0) {day : Int} (hd : chkDay day = 3) : MeetsP Tryz.prog (glT m) 13 [r.A, .i .i64 day] (resD (dateA 0 0 0) 3) := by
  have hc := refCheckP (m := m) r hs
  have hl := lineCheck (m := m) day
  rw [h] at hc
  rw [hd] at hl
  have hno := r.A_no
  unfold resD dateA
  unfold Ref.A at hc hno ⊢
  generalize r.rows = R at *
  refine meetsP (E := (EW m)) 47 [.cell 4 32, .tmp 5] (ew m) Tryz.func13 rfl (by decide) rfl rfl (by simp) ?_
  repeat' first
    | ((with_reducible refine wr_isCall ?_); refine wr_P hc hno ?_)
    | ((with_reducible refine wr_isCall ?_); refine wr_P hl rfl ?_)
    | (with_reducible refine t_seq ?_)
    | (with_reducible refine t_skip ?_)
    | (with_reducible refine t_ret ?_)
    | (with_reducible refine t_end ?_)
    | (with_reducible refine t_cond ?_)
    | (with_reducible refine t_region ?_)
    | (with_reducible refine wr_done ?_)
    | ((with_reducible refine t_isDraw ?_); refine t_draw rfl (by kernel_rfl) ?_)
    | (with_reducible refine WD.done _ ?_)
    | (with_reducible refine wdp_done ?_)
    | (with_reducible refine tr_some ?_)
    | ((fail_if_success with_reducible refine t_bl ?_); (with_reducible refine t_block ?_))
    | (with_reducible refine t_inBlock ?_)
    | ((with_reducible refine t_isExit ?_); refine t_exit rfl ?_)
    | simp only [decide_eq_true_eq, decide_eq_false_iff_not, Bool.not_eq_true', Bool.not_eq_false'] at *
    | simp (disch := omega) only [go_sem, Nat.reduceLT, Nat.reduceEqDiff, Nat.reduceAdd, Nat.reduceLeDiff, Nat.reduceMul, Int.reduceLT, Int.reduceLE, Int.reduceAdd, Int.reduceSub, Int.reduceNeg, Int.reduceToNat, Int.reduceBEq, Int.reduceEq, reduceCtorEq, List.take_succ_cons, List.take_zero, List.take_nil, List.drop_succ_cons, List.drop_nil, List.cons_append, List.nil_append, List.set_cons_zero, List.set_cons_succ, ↓reduceIte, *]
    | (with_reducible refine tb_true ?_)
    | (with_reducible refine tb_false ?_)
    | (with_reducible refine tb_split (fun _ => ?_) (fun _ => ?_))
    | (with_reducible refine wg_f (fun _ => ?_) (fun _ => ?_))
    | (with_reducible refine wg_t (fun _ => ?_) (fun _ => ?_))
    | (with_reducible refine wd_f (fun _ => ?_) (fun _ => ?_))
    | (with_reducible refine wd_t (fun _ => ?_) (fun _ => ?_))
  all_goals first | (exfalso; omega) | exact ⟨rfl, rfl⟩
set_option maxRecDepth 100000 in
theorem refFrom (r : Ref) (hs : r.nm.length ≤ 140737488351232) (hr : r.Ok) {day y mo d e : Int} {k : Nat} (hd : chkDay day = 0) (hin : r.In day k) (hD : MeetsP Tryz.prog (glT m) 16 [.s (r.c k), .i .i64 day] (resD (dateA y mo d) e)) :
    MeetsP Tryz.prog (glT m) 13 [r.A, .i .i64 day] (resD (dateA y mo d) e) := by
  have hc := refCheckP (m := m) r hs
  have hl := lineCheck (m := m) day
  rw [Ref.chk_ok.2 hr] at hc
  rw [hd] at hl
  have hno := r.A_no
  have hrow := fun i h => Ref.row (r := r) (i := i) h
  have hlen := r.rows_len
  have hl2 := hr.l2
  have hklt := hin.lt
  have hnx := hin.nx
  have hle : ∀ j, j < k → r.f (j + 1) ≤ day := fun j hj => by
    rcases Nat.lt_or_ge (j + 1) k with q | q
    · have := hr.mono q hin.lt; have := hin.le; omega
    · have : j + 1 = k := by omega
      rw [this]; exact hin.le
  unfold resD dateA at *
  unfold Ref.A at hc hno ⊢
  generalize r.rows = R at *
  refine meetsP (E := (EW m)) 47 [.cell 4 32, .tmp 5] (ew m) Tryz.func13 rfl (by decide) rfl rfl (by simp) ?_
  repeat' first
    | ((with_reducible refine wr_isCall ?_); refine wr_P hc hno ?_)
    | ((with_reducible refine wr_isCall ?_); refine wr_P hl rfl ?_)
    | (with_reducible refine t_seq ?_)
    | (with_reducible refine t_skip ?_)
    | (with_reducible refine t_ret ?_)
    | (with_reducible refine t_end ?_)
    | (with_reducible refine t_cond ?_)
    | (with_reducible refine t_region ?_)
    | (with_reducible refine wr_done ?_)
    | ((with_reducible refine t_isDraw ?_); refine t_draw rfl (by kernel_rfl) ?_)
    | (with_reducible refine WD.done _ ?_)
    | (with_reducible refine wdp_done ?_)
    | (with_reducible refine tr_some ?_)
    | ((fail_if_success with_reducible refine t_bl ?_); (with_reducible refine t_block ?_))
    | (with_reducible refine t_inBlock ?_)
    | ((with_reducible refine t_isExit ?_); refine t_exit rfl ?_)
    | simp only [decide_eq_true_eq, decide_eq_false_iff_not, Bool.not_eq_true', Bool.not_eq_false'] at *
    | simp (disch := omega) only [go_sem, Nat.reduceLT, Nat.reduceEqDiff, Nat.reduceAdd, Nat.reduceLeDiff, Nat.reduceMul, Int.reduceLT, Int.reduceLE, Int.reduceAdd, Int.reduceSub, Int.reduceNeg, Int.reduceToNat, Int.reduceBEq, Int.reduceEq, reduceCtorEq, List.take_succ_cons, List.take_zero, List.take_nil, List.drop_succ_cons, List.drop_nil, List.cons_append, List.nil_append, List.set_cons_zero, List.set_cons_succ, ↓reduceIte, *]
    | (with_reducible refine tb_true ?_)
    | (with_reducible refine tb_false ?_)
    | (with_reducible refine tb_split (fun _ => ?_) (fun _ => ?_))
    | (with_reducible refine wg_f (fun _ => ?_) (fun _ => ?_))
    | (with_reducible refine wg_t (fun _ => ?_) (fun _ => ?_))
    | (with_reducible refine wd_f (fun _ => ?_) (fun _ => ?_))
    | (with_reducible refine wd_t (fun _ => ?_) (fun _ => ?_))
  all_goals first | (exfalso; omega) | skip
  refine t_while (I := fun (j : Nat) t h => j ≤ k ∧ h = ⟨[(1, .rows 3 [[.i .i64 0, .i .i64 0, .i .i64 0]]), (0, .rows 2 [[.s r.nm, .isl false 2 R]])], 2⟩ ∧ get t 7 = .i .i64 j ∧ get t 1 = .i .i64 day ∧ get t 2 = .ptr 0 0 0 ∧ get t 4 = .ptr 1 0 0) (m := fun j => k - j)
    (J := fun t h => h = ⟨[(1, .rows 3 [[.i .i64 0, .i .i64 0, .i .i64 0]]), (0, .rows 2 [[.s r.nm, .isl false 2 R]])], 2⟩ ∧ get t 7 = .i .i64 k ∧ get t 1 = .i .i64 day ∧ get t 2 = .ptr 0 0 0 ∧ get t 4 = .ptr 1 0 0) 0 ⟨by omega, rfl, by simp [get], by simp [get], by simp [get], by simp [get]⟩ ?_ ?_
  · rintro j t h ⟨hj, rfl, g7, g1, g2, g4⟩ hrec hex
    by_cases hjk : j < k
    · have hrw := hrow (j + 1) (by omega)
      have hq := hle j hjk
      have e1 : ((j : Int) + 1).toNat = j + 1 := by omega
      have e2 : (j : Int) + 1 < r.ps.length := by omega
      clear hrow hnx
      repeat' first
        | (with_reducible refine t_seq ?_)
        | (with_reducible refine t_skip ?_)
        | (with_reducible refine t_ret ?_)
        | (with_reducible refine t_end ?_)
        | (with_reducible refine t_cond ?_)
        | (with_reducible refine t_region ?_)
        | (with_reducible refine wr_done ?_)
        | ((with_reducible refine t_isDraw ?_); refine t_draw rfl (by kernel_rfl) ?_)
        | (with_reducible refine WD.done _ ?_)
        | (with_reducible refine wdp_done ?_)
        | (with_reducible refine tr_some ?_)
        | ((fail_if_success with_reducible refine t_bl ?_); (with_reducible refine t_block ?_))
        | (with_reducible refine t_inBlock ?_)
        | ((with_reducible refine t_isExit ?_); refine t_exit rfl ?_)
        | simp only [decide_eq_true_eq, decide_eq_false_iff_not, Bool.not_eq_true', Bool.not_eq_false'] at *
        | simp (disch := omega) only [go_sem, Nat.reduceLT, Nat.reduceEqDiff, Nat.reduceAdd, Nat.reduceLeDiff, Nat.reduceMul, Int.reduceLT, Int.reduceLE, Int.reduceAdd, Int.reduceSub, Int.reduceNeg, Int.reduceToNat, Int.reduceBEq, Int.reduceEq, reduceCtorEq, List.take_succ_cons, List.take_zero, List.take_nil, List.drop_succ_cons, List.drop_nil, List.cons_append, List.nil_append, List.set_cons_zero, List.set_cons_succ, ↓reduceIte, *]
        | (with_reducible refine tb_true ?_)
        | (with_reducible refine tb_false ?_)
        | (with_reducible refine tb_split (fun _ => ?_) (fun _ => ?_))
        | (with_reducible refine wg_f (fun _ => ?_) (fun _ => ?_))
        | (with_reducible refine wg_t (fun _ => ?_) (fun _ => ?_))
        | (with_reducible refine wd_f (fun _ => ?_) (fun _ => ?_))
        | (with_reducible refine wd_t (fun _ => ?_) (fun _ => ?_))
      all_goals first | (exfalso; omega) | skip
      exact hrec (j + 1) _ _ ⟨by omega, rfl, by simp [get], by simp [get, g1], by simp [get, g2], by simp [get, g4]⟩ (by omega)
    · have hjk' : j = k := by omega
      subst hjk'
      by_cases hN : j + 1 < r.ps.length
      · have hrw := hrow (j + 1) hN
        have hq := hnx hN
        have e1 : ((j : Int) + 1).toNat = j + 1 := by omega
        have e2 : (j : Int) + 1 < r.ps.length := by omega
        clear hrow hnx
        repeat' first
          | refine hex _ _ ?_
          | (with_reducible refine t_seq ?_)
          | (with_reducible refine t_skip ?_)
          | (with_reducible refine t_ret ?_)
          | (with_reducible refine t_end ?_)
          | (with_reducible refine t_cond ?_)
          | (with_reducible refine t_region ?_)
          | (with_reducible refine wr_done ?_)
          | ((with_reducible refine t_isDraw ?_); refine t_draw rfl (by kernel_rfl) ?_)
          | (with_reducible refine WD.done _ ?_)
          | (with_reducible refine wdp_done ?_)
          | (with_reducible refine tr_some ?_)
          | ((fail_if_success with_reducible refine t_bl ?_); (with_reducible refine t_block ?_))
          | (with_reducible refine t_inBlock ?_)
          | ((with_reducible refine t_isExit ?_); refine t_exit rfl ?_)
          | simp only [decide_eq_true_eq, decide_eq_false_iff_not, Bool.not_eq_true', Bool.not_eq_false'] at *
          | simp (disch := omega) only [go_sem, Nat.reduceLT, Nat.reduceEqDiff, Nat.reduceAdd, Nat.reduceLeDiff, Nat.reduceMul, Int.reduceLT, Int.reduceLE, Int.reduceAdd, Int.reduceSub, Int.reduceNeg, Int.reduceToNat, Int.reduceBEq, Int.reduceEq, reduceCtorEq, List.take_succ_cons, List.take_zero, List.take_nil, List.drop_succ_cons, List.drop_nil, List.cons_append, List.nil_append, List.set_cons_zero, List.set_cons_succ, ↓reduceIte, *]
          | (with_reducible refine tb_true ?_)
          | (with_reducible refine tb_false ?_)
          | (with_reducible refine tb_split (fun _ => ?_) (fun _ => ?_))
          | (with_reducible refine wg_f (fun _ => ?_) (fun _ => ?_))
          | (with_reducible refine wg_t (fun _ => ?_) (fun _ => ?_))
          | (with_reducible refine wd_f (fun _ => ?_) (fun _ => ?_))
          | (with_reducible refine wd_t (fun _ => ?_) (fun _ => ?_))
        all_goals first | (exfalso; omega) | simp [get, g7, g1, g2, g4]
      · have e2 : ¬ (j : Int) + 1 < r.ps.length := by omega
        clear hrow hnx
        repeat' first
          | refine hex _ _ ?_
          | (with_reducible refine t_seq ?_)
          | (with_reducible refine t_skip ?_)
          | (with_reducible refine t_ret ?_)
          | (with_reducible refine t_end ?_)
          | (with_reducible refine t_cond ?_)
          | (with_reducible refine t_region ?_)
          | (with_reducible refine wr_done ?_)
          | ((with_reducible refine t_isDraw ?_); refine t_draw rfl (by kernel_rfl) ?_)
          | (with_reducible refine WD.done _ ?_)
          | (with_reducible refine wdp_done ?_)
          | (with_reducible refine tr_some ?_)
          | ((fail_if_success with_reducible refine t_bl ?_); (with_reducible refine t_block ?_))
          | (with_reducible refine t_inBlock ?_)
          | ((with_reducible refine t_isExit ?_); refine t_exit rfl ?_)
          | simp only [decide_eq_true_eq, decide_eq_false_iff_not, Bool.not_eq_true', Bool.not_eq_false'] at *
          | simp (disch := omega) only [go_sem, Nat.reduceLT, Nat.reduceEqDiff, Nat.reduceAdd, Nat.reduceLeDiff, Nat.reduceMul, Int.reduceLT, Int.reduceLE, Int.reduceAdd, Int.reduceSub, Int.reduceNeg, Int.reduceToNat, Int.reduceBEq, Int.reduceEq, reduceCtorEq, List.take_succ_cons, List.take_zero, List.take_nil, List.drop_succ_cons, List.drop_nil, List.cons_append, List.nil_append, List.set_cons_zero, List.set_cons_succ, ↓reduceIte, *]
          | (with_reducible refine tb_true ?_)
          | (with_reducible refine tb_false ?_)
          | (with_reducible refine tb_split (fun _ => ?_) (fun _ => ?_))
          | (with_reducible refine wg_f (fun _ => ?_) (fun _ => ?_))
          | (with_reducible refine wg_t (fun _ => ?_) (fun _ => ?_))
          | (with_reducible refine wd_f (fun _ => ?_) (fun _ => ?_))
          | (with_reducible refine wd_t (fun _ => ?_) (fun _ => ?_))
        all_goals first | (exfalso; omega) | simp [get, g7, g1, g2, g4]
  rintro t h ⟨rfl, g7, g1, g2, g4⟩
  have hrw := hrow k (by omega)
  clear hrow
  repeat' first
    | ((with_reducible refine wr_isCall ?_); refine wr_P hD rfl ?_)
    | (with_reducible refine t_seq ?_)
    | (with_reducible refine t_skip ?_)
    | (with_reducible refine t_ret ?_)
    | (with_reducible refine t_end ?_)
    | (with_reducible refine t_cond ?_)
    | (with_reducible refine t_region ?_)
    | (with_reducible refine wr_done ?_)
    | ((with_reducible refine t_isDraw ?_); refine t_draw rfl (by kernel_rfl) ?_)
    | (with_reducible refine WD.done _ ?_)
    | (with_reducible refine wdp_done ?_)
    | (with_reducible refine tr_some ?_)
    | ((fail_if_success with_reducible refine t_bl ?_); (with_reducible refine t_block ?_))
    | (with_reducible refine t_inBlock ?_)
    | ((with_reducible refine t_isExit ?_); refine t_exit rfl ?_)
    | simp only [decide_eq_true_eq, decide_eq_false_iff_not, Bool.not_eq_true', Bool.not_eq_false'] at *
    | simp (disch := omega) only [go_sem, Nat.reduceLT, Nat.reduceEqDiff, Nat.reduceAdd, Nat.reduceLeDiff, Nat.reduceMul, Int.reduceLT, Int.reduceLE, Int.reduceAdd, Int.reduceSub, Int.reduceNeg, Int.reduceToNat, Int.reduceBEq, Int.reduceEq, reduceCtorEq, List.take_succ_cons, List.take_zero, List.take_nil, List.drop_succ_cons, List.drop_nil, List.cons_append, List.nil_append, List.set_cons_zero, List.set_cons_succ, ↓reduceIte, *]
    | (with_reducible refine tb_true ?_)
    | (with_reducible refine tb_false ?_)
    | (with_reducible refine tb_split (fun _ => ?_) (fun _ => ?_))
    | (with_reducible refine wg_f (fun _ => ?_) (fun _ => ?_))
    | (with_reducible refine wg_t (fun _ => ?_) (fun _ => ?_))
    | (with_reducible refine wd_f (fun _ => ?_) (fun _ => ?_))
    | (with_reducible refine wd_t (fun _ => ?_) (fun _ => ?_))
  all_goals first | (exfalso; omega) | exact ⟨rfl, rfl⟩
end Go.Proofs.YtkokongbnemkhaaGreatDoorA
/- reform.Days. -/
set_option linter.unusedVariables false
set_option linter.unusedSimpArgs false
namespace Go.Proofs.YtkokongbnemkhaaGreatDoorA
open Go Go.RowKit Go.Proofs.YtkokongbnemkhaaGreatDoorFx Go.Proofs
variable {m : Int}
/-- A list of whole numbers that grows by append: nil, or an own block. -/
def LpB (b : Nat) (l : List Int) (n : Nat) (e : AV) (L : List (Nat × Ent)) : Prop := (l = [] ∧ e = .nils ∧ L = []) ∨ ∃ id, l ≠ [] ∧ b ≤ id ∧ id < n ∧ e = .osl id 0 l.length ∧ L = [(id, .rows 1 (intR l))]
theorem intR_len (l : List Int) : (intR l).length = l.length := by simp [intR]
theorem intR_snoc (l : List Int) (x : Int) : intR l ++ [[.i .i64 x]] = intR (l ++ [x]) := by simp [intR]
theorem intR_flat (l : List Int) : ((intR l).all fun (row : List AV) => row.all flat) = true := by simp [intR, flat]
set_option maxRecDepth 100000 in
theorem refDaysBad (r : Ref) (hs : r.nm.length ≤ 140737488351232) (h : r.chk ≠ 0) (y mo d : Int) : MeetsP Tryz.prog (glT m) 11 [r.A, dateA y mo d] (resD .nils r.chk) := by
  have hc := refCheckP (m := m) r hs
  have hno := r.A_no
  unfold resD dateA
  unfold Ref.A at hc hno ⊢
  generalize r.chk = e at *
  generalize r.rows = R at *
  refine meetsP (E := (EW m)) 65 [.tmp 4, .tmp 5] (ew m) Tryz.func11 rfl (by decide) rfl rfl (by simp) ?_
  repeat' first
    | ((with_reducible refine wr_isCall ?_); refine wr_P hc hno ?_)
    | (with_reducible refine t_seq ?_)
    | (with_reducible refine t_skip ?_)
    | (with_reducible refine t_ret ?_)
    | (with_reducible refine t_end ?_)
    | (with_reducible refine t_cond ?_)
    | (with_reducible refine t_region ?_)
    | (with_reducible refine wr_done ?_)
    | ((with_reducible refine t_isDraw ?_); refine t_draw rfl (by kernel_rfl) ?_)
    | (with_reducible refine WD.done _ ?_)
    | (with_reducible refine wdp_done ?_)
    | (with_reducible refine tr_some ?_)
    | ((fail_if_success with_reducible refine t_bl ?_); (with_reducible refine t_block ?_))
    | (with_reducible refine t_inBlock ?_)
    | ((with_reducible refine t_isExit ?_); refine t_exit rfl ?_)
    | simp only [decide_eq_true_eq, decide_eq_false_iff_not, Bool.not_eq_true', Bool.not_eq_false'] at *
    | simp (disch := omega) only [go_sem, Nat.reduceLT, Nat.reduceEqDiff, Nat.reduceAdd, Nat.reduceLeDiff, Nat.reduceMul, Int.reduceLT, Int.reduceLE, Int.reduceAdd, Int.reduceSub, Int.reduceNeg, Int.reduceToNat, Int.reduceBEq, Int.reduceEq, reduceCtorEq, List.take_succ_cons, List.take_zero, List.take_nil, List.drop_succ_cons, List.drop_nil, List.cons_append, List.nil_append, List.set_cons_zero, List.set_cons_succ, ↓reduceIte, *]
    | (with_reducible refine tb_true ?_)
    | (with_reducible refine tb_false ?_)
    | (with_reducible refine tb_split (fun _ => ?_) (fun _ => ?_))
    | (with_reducible refine wg_f (fun _ => ?_) (fun _ => ?_))
    | (with_reducible refine wg_t (fun _ => ?_) (fun _ => ?_))
    | (with_reducible refine wd_f (fun _ => ?_) (fun _ => ?_))
    | (with_reducible refine wd_t (fun _ => ?_) (fun _ => ?_))
  all_goals first | (exfalso; omega) | exact ⟨rfl, rfl⟩
set_option maxRecDepth 100000 in
set_option maxHeartbeats 4000000 in
theorem refDays (r : Ref) (hs : r.nm.length ≤ 140737488351232) (hr : r.Ok) {y mo d : Int} {N E : Nat → Int} (hask : ∀ i, i < r.ps.length → MeetsP Tryz.prog (glT m) 32 [.s (r.c i), dateA y mo d] (resD (.i .i64 (N i)) (E i))) :
    MeetsP Tryz.prog (glT m) 11 [r.A, dateA y mo d] (resD (lstA (r.days N E r.ps.length)) 0) := by
  have hc := refCheckP (m := m) r hs
  rw [Ref.chk_ok.2 hr] at hc
  have hno := r.A_no
  have hrow := fun i h => Ref.row (r := r) (i := i) h
  have hlen := r.rows_len
  have hl2 := hr.l2
  have hdl := r.days_len N E
  have hd0 : r.days N E 0 = [] := rfl
  have hds : ∀ i, r.days N E (i + 1) = r.days N E i ++ r.pick N E i := fun i => rfl
  have hpk : ∀ i, (E i = 0 ∧ r.f i ≤ N i ∧ (i + 1 = r.ps.length ∨ N i < r.f (i + 1))) → r.pick N E i = [N i] := fun i h => by unfold Ref.pick; rw [if_pos h]
  have hpn : ∀ i, ¬ (E i = 0 ∧ r.f i ≤ N i ∧ (i + 1 = r.ps.length ∨ N i < r.f (i + 1))) → r.pick N E i = [] := fun i h => by unfold Ref.pick; rw [if_neg h]
  generalize r.days N E = DL at *
  generalize r.pick N E = PK at *
  unfold resD dateA at *
  unfold Ref.A at hc hno ⊢
  generalize r.rows = R at *
  refine meetsP (E := (EW m)) 65 [.tmp 4, .tmp 5] (ew m) Tryz.func11 rfl (by decide) rfl rfl (by simp) ?_
  repeat' first
    | ((with_reducible refine wr_isCall ?_); refine wr_P hc hno ?_)
    | (with_reducible refine t_seq ?_)
    | (with_reducible refine t_skip ?_)
    | (with_reducible refine t_ret ?_)
    | (with_reducible refine t_end ?_)
    | (with_reducible refine t_cond ?_)
    | (with_reducible refine t_region ?_)
    | (with_reducible refine wr_done ?_)
    | ((with_reducible refine t_isDraw ?_); refine t_draw rfl (by kernel_rfl) ?_)
    | (with_reducible refine WD.done _ ?_)
    | (with_reducible refine wdp_done ?_)
    | (with_reducible refine tr_some ?_)
    | ((fail_if_success with_reducible refine t_bl ?_); (with_reducible refine t_block ?_))
    | (with_reducible refine t_inBlock ?_)
    | ((with_reducible refine t_isExit ?_); refine t_exit rfl ?_)
    | simp only [decide_eq_true_eq, decide_eq_false_iff_not, Bool.not_eq_true', Bool.not_eq_false'] at *
    | simp (disch := omega) only [go_sem, Nat.reduceLT, Nat.reduceEqDiff, Nat.reduceAdd, Nat.reduceLeDiff, Nat.reduceMul, Int.reduceLT, Int.reduceLE, Int.reduceAdd, Int.reduceSub, Int.reduceNeg, Int.reduceToNat, Int.reduceBEq, Int.reduceEq, reduceCtorEq, List.take_succ_cons, List.take_zero, List.take_nil, List.drop_succ_cons, List.drop_nil, List.cons_append, List.nil_append, List.set_cons_zero, List.set_cons_succ, ↓reduceIte, *]
    | (with_reducible refine tb_true ?_)
    | (with_reducible refine tb_false ?_)
    | (with_reducible refine tb_split (fun _ => ?_) (fun _ => ?_))
    | (with_reducible refine wg_f (fun _ => ?_) (fun _ => ?_))
    | (with_reducible refine wg_t (fun _ => ?_) (fun _ => ?_))
    | (with_reducible refine wd_f (fun _ => ?_) (fun _ => ?_))
    | (with_reducible refine wd_t (fun _ => ?_) (fun _ => ?_))
  all_goals first | (exfalso; omega) | skip
  refine t_while (I := fun (i : Nat) t h => i ≤ r.ps.length ∧ (∃ n e L, 2 ≤ n ∧ LpB 2 (DL i) n e L ∧ h = ⟨L ++ [(1, .rows 3 [[.i .i64 y, .i .i64 mo, .i .i64 d]]), (0, .rows 2 [[.s r.nm, .isl false 2 R]])], n⟩ ∧ get t 7 = e) ∧ get t 2 = .ptr 0 0 0 ∧ get t 3 = .ptr 1 0 0 ∧ get t 18 = .isl false 2 R ∧ get t 19 = .i .i64 r.ps.length ∧ get t 20 = .i .i64 i) (m := fun i => r.ps.length - i)
    (J := fun t h => ∃ n e L, 2 ≤ n ∧ LpB 2 (DL r.ps.length) n e L ∧ h = ⟨L ++ [(1, .rows 3 [[.i .i64 y, .i .i64 mo, .i .i64 d]]), (0, .rows 2 [[.s r.nm, .isl false 2 R]])], n⟩ ∧ get t 7 = e) 0
    ⟨by omega, ⟨2, .nils, [], by omega, .inl ⟨hd0, rfl, rfl⟩, rfl, by simp [get]⟩, by simp [get], by simp [get], by simp [get], by simp [get], by simp [get]⟩ ?_ ?_
  · rintro i t h ⟨hi, ⟨n, e, L, hn, hLp, rfl, g7⟩, g2, g3, g18, g19, g20⟩ hrec hex
    by_cases hi' : i < r.ps.length
    · have hrw := hrow i (by omega)
      have hD := hask i (by omega)
      have hs1 := hds i
      have hp1 := hpk i
      have hp2 := hpn i
      have hlen2 := hdl i
      have hnx := fun h => hrow (i + 1) h
      have e1 : ((i : Int) + 1).toNat = i + 1 := by omega
      clear hrow hask hds hpk hpn
      generalize N i = Ni at *
      generalize E i = Ei at *
      have hn0 : ¬ n = 0 := by omega
      have hn1 : ¬ n = 1 := by omega
      rcases hLp with ⟨z1, rfl, rfl⟩ | ⟨id, i0, i1, i2, rfl, rfl⟩
      · rw [z1] at hs1
        simp only [List.nil_append] at *
        by_cases c4 : i + 1 < r.ps.length
        · have hrw2 := hnx c4
          have c6 : ¬ (i : Int) + 1 = r.ps.length := by omega
          clear hnx
          repeat' first
            | ((with_reducible refine wr_isCall ?_); refine wr_P hD rfl ?_)
            | (with_reducible refine t_seq ?_)
            | (with_reducible refine t_skip ?_)
            | (with_reducible refine t_ret ?_)
            | (with_reducible refine t_end ?_)
            | (with_reducible refine t_cond ?_)
            | (with_reducible refine t_region ?_)
            | (with_reducible refine wr_done ?_)
            | ((with_reducible refine t_isDraw ?_); refine t_draw rfl (by kernel_rfl) ?_)
            | (with_reducible refine WD.done _ ?_)
            | (with_reducible refine wdp_done ?_)
            | (with_reducible refine tr_some ?_)
            | ((fail_if_success with_reducible refine t_bl ?_); (with_reducible refine t_block ?_))
            | (with_reducible refine t_inBlock ?_)
            | ((with_reducible refine t_isExit ?_); refine t_exit rfl ?_)
            | simp only [decide_eq_true_eq, decide_eq_false_iff_not, Bool.not_eq_true', Bool.not_eq_false'] at *
            | simp (disch := omega) only [go_sem, Nat.reduceLT, Nat.reduceEqDiff, Nat.reduceAdd, Nat.reduceLeDiff, Nat.reduceMul, Int.reduceLT, Int.reduceLE, Int.reduceAdd, Int.reduceSub, Int.reduceNeg, Int.reduceToNat, Int.reduceBEq, Int.reduceEq, reduceCtorEq, List.take_succ_cons, List.take_zero, List.take_nil, List.drop_succ_cons, List.drop_nil, List.cons_append, List.nil_append, List.set_cons_zero, List.set_cons_succ, ↓reduceIte, *]
            | (with_reducible refine tb_true ?_)
            | (with_reducible refine tb_false ?_)
            | (with_reducible refine tb_split (fun _ => ?_) (fun _ => ?_))
            | (with_reducible refine wg_f (fun _ => ?_) (fun _ => ?_))
            | (with_reducible refine wg_t (fun _ => ?_) (fun _ => ?_))
            | (with_reducible refine wd_f (fun _ => ?_) (fun _ => ?_))
            | (with_reducible refine wd_t (fun _ => ?_) (fun _ => ?_))
          all_goals first
            | (exfalso; omega)
            | (have hpe := hp1 (by omega)
               rw [hpe] at hs1
               refine t_fg (Sub.of_sublist (.cons_cons _ (.cons _ (.cons _ (List.Sublist.refl _)))) (Nat.le_refl _)) ?_
               exact hrec (i + 1) _ _ ⟨by omega, ⟨n + 3, .osl (n + 2) 0 1, [(n + 2, .rows 1 [[.i .i64 Ni]])], by omega, .inr ⟨n + 2, by rw [hs1]; simp, by omega, by omega, by rw [hs1]; rfl, by rw [hs1]; rfl⟩, rfl, by simp [get]⟩, by simp [get, g2], by simp [get, g3], by simp [get, g18], by simp [get, g19], by simp [get] <;> omega⟩ (by omega))
            | (have hpe := hp2 (by omega)
               rw [hpe] at hs1
               refine t_pop ?_
               exact hrec (i + 1) _ _ ⟨by omega, ⟨n + 1, .nils, [], by omega, .inl ⟨hs1, rfl, rfl⟩, rfl, by simp [get, g7]⟩, by simp [get, g2], by simp [get, g3], by simp [get, g18], by simp [get, g19], by simp [get] <;> omega⟩ (by omega))
        · have c6 : (i : Int) + 1 = r.ps.length := by omega
          clear hnx
          repeat' first
            | ((with_reducible refine wr_isCall ?_); refine wr_P hD rfl ?_)
            | (with_reducible refine t_seq ?_)
            | (with_reducible refine t_skip ?_)
            | (with_reducible refine t_ret ?_)
            | (with_reducible refine t_end ?_)
            | (with_reducible refine t_cond ?_)
            | (with_reducible refine t_region ?_)
            | (with_reducible refine wr_done ?_)
            | ((with_reducible refine t_isDraw ?_); refine t_draw rfl (by kernel_rfl) ?_)
            | (with_reducible refine WD.done _ ?_)
            | (with_reducible refine wdp_done ?_)
            | (with_reducible refine tr_some ?_)
            | ((fail_if_success with_reducible refine t_bl ?_); (with_reducible refine t_block ?_))
            | (with_reducible refine t_inBlock ?_)
            | ((with_reducible refine t_isExit ?_); refine t_exit rfl ?_)
            | simp only [decide_eq_true_eq, decide_eq_false_iff_not, Bool.not_eq_true', Bool.not_eq_false'] at *
            | simp (disch := omega) only [go_sem, Nat.reduceLT, Nat.reduceEqDiff, Nat.reduceAdd, Nat.reduceLeDiff, Nat.reduceMul, Int.reduceLT, Int.reduceLE, Int.reduceAdd, Int.reduceSub, Int.reduceNeg, Int.reduceToNat, Int.reduceBEq, Int.reduceEq, reduceCtorEq, List.take_succ_cons, List.take_zero, List.take_nil, List.drop_succ_cons, List.drop_nil, List.cons_append, List.nil_append, List.set_cons_zero, List.set_cons_succ, ↓reduceIte, *]
            | (with_reducible refine tb_true ?_)
            | (with_reducible refine tb_false ?_)
            | (with_reducible refine tb_split (fun _ => ?_) (fun _ => ?_))
            | (with_reducible refine wg_f (fun _ => ?_) (fun _ => ?_))
            | (with_reducible refine wg_t (fun _ => ?_) (fun _ => ?_))
            | (with_reducible refine wd_f (fun _ => ?_) (fun _ => ?_))
            | (with_reducible refine wd_t (fun _ => ?_) (fun _ => ?_))
          all_goals first
            | (exfalso; omega)
            | (have hpe := hp1 (by omega)
               rw [hpe] at hs1
               refine t_fg (Sub.of_sublist (.cons_cons _ (.cons _ (.cons _ (List.Sublist.refl _)))) (Nat.le_refl _)) ?_
               exact hrec (i + 1) _ _ ⟨by omega, ⟨n + 3, .osl (n + 2) 0 1, [(n + 2, .rows 1 [[.i .i64 Ni]])], by omega, .inr ⟨n + 2, by rw [hs1]; simp, by omega, by omega, by rw [hs1]; rfl, by rw [hs1]; rfl⟩, rfl, by simp [get]⟩, by simp [get, g2], by simp [get, g3], by simp [get, g18], by simp [get, g19], by simp [get] <;> omega⟩ (by omega))
            | (have hpe := hp2 (by omega)
               rw [hpe] at hs1
               refine t_pop ?_
               exact hrec (i + 1) _ _ ⟨by omega, ⟨n + 1, .nils, [], by omega, .inl ⟨hs1, rfl, rfl⟩, rfl, by simp [get, g7]⟩, by simp [get, g2], by simp [get, g3], by simp [get, g18], by simp [get, g19], by simp [get] <;> omega⟩ (by omega))
      · have hil := intR_len (DL i)
        have hle : ((DL i).length + 1) * 8 ≤ 70368744177664 := by omega
        have hid0 : ¬ id = 0 := by omega
        have hid1 : ¬ id = 1 := by omega
        have hidn : ¬ n = id := by omega
        simp only [List.cons_append, List.nil_append] at *
        by_cases c4 : i + 1 < r.ps.length
        · have hrw2 := hnx c4
          have c6 : ¬ (i : Int) + 1 = r.ps.length := by omega
          clear hnx
          repeat' first
            | ((with_reducible refine wr_isCall ?_); refine wr_P hD rfl ?_)
            | (with_reducible refine t_seq ?_)
            | (with_reducible refine t_skip ?_)
            | (with_reducible refine t_ret ?_)
            | (with_reducible refine t_end ?_)
            | (with_reducible refine t_cond ?_)
            | (with_reducible refine t_region ?_)
            | (with_reducible refine wr_done ?_)
            | ((with_reducible refine t_isDraw ?_); refine t_draw rfl (by kernel_rfl) ?_)
            | (with_reducible refine WD.done _ ?_)
            | (with_reducible refine wdp_done ?_)
            | (with_reducible refine tr_some ?_)
            | ((fail_if_success with_reducible refine t_bl ?_); (with_reducible refine t_block ?_))
            | (with_reducible refine t_inBlock ?_)
            | ((with_reducible refine t_isExit ?_); refine t_exit rfl ?_)
            | simp only [decide_eq_true_eq, decide_eq_false_iff_not, Bool.not_eq_true', Bool.not_eq_false'] at *
            | simp (disch := omega) only [go_sem, Nat.reduceLT, Nat.reduceEqDiff, Nat.reduceAdd, Nat.reduceLeDiff, Nat.reduceMul, Int.reduceLT, Int.reduceLE, Int.reduceAdd, Int.reduceSub, Int.reduceNeg, Int.reduceToNat, Int.reduceBEq, Int.reduceEq, reduceCtorEq, List.take_succ_cons, List.take_zero, List.take_nil, List.drop_succ_cons, List.drop_nil, List.cons_append, List.nil_append, List.set_cons_zero, List.set_cons_succ, ↓reduceIte, *]
            | (with_reducible refine tb_true ?_)
            | (with_reducible refine tb_false ?_)
            | (with_reducible refine tb_split (fun _ => ?_) (fun _ => ?_))
            | (with_reducible refine wg_f (fun _ => ?_) (fun _ => ?_))
            | (with_reducible refine wg_t (fun _ => ?_) (fun _ => ?_))
            | (with_reducible refine wd_f (fun _ => ?_) (fun _ => ?_))
            | (with_reducible refine wd_t (fun _ => ?_) (fun _ => ?_))
          all_goals first
            | (exfalso; omega)
            | (have hpe := hp1 (by omega)
               rw [hpe] at hs1
               refine t_fg (Sub.of_sublist (.cons_cons _ (.cons _ (.cons _ (List.Sublist.refl _)))) (Nat.le_refl _)) ?_
               exact hrec (i + 1) _ _ ⟨by omega, ⟨n + 3, .osl (n + 2) 0 ((DL i).length + 1), [(n + 2, .rows 1 (intR (DL i) ++ [[.i .i64 Ni]]))], by omega, .inr ⟨n + 2, by rw [hs1]; simp, by omega, by omega, by rw [hs1]; simp, by rw [hs1, intR_snoc]⟩, rfl, by simp [get]⟩, by simp [get, g2], by simp [get, g3], by simp [get, g18], by simp [get, g19], by simp [get] <;> omega⟩ (by omega))
            | (have hpe := hp2 (by omega)
               rw [hpe, List.append_nil] at hs1
               refine t_pop ?_
               exact hrec (i + 1) _ _ ⟨by omega, ⟨n + 1, .osl id 0 (DL i).length, [(id, .rows 1 (intR (DL i)))], by omega, .inr ⟨id, by rw [hs1]; exact i0, i1, by omega, by rw [hs1], by rw [hs1]⟩, rfl, by simp [get, g7]⟩, by simp [get, g2], by simp [get, g3], by simp [get, g18], by simp [get, g19], by simp [get] <;> omega⟩ (by omega))
        · have c6 : (i : Int) + 1 = r.ps.length := by omega
          clear hnx
          repeat' first
            | ((with_reducible refine wr_isCall ?_); refine wr_P hD rfl ?_)
            | (with_reducible refine t_seq ?_)
            | (with_reducible refine t_skip ?_)
            | (with_reducible refine t_ret ?_)
            | (with_reducible refine t_end ?_)
            | (with_reducible refine t_cond ?_)
            | (with_reducible refine t_region ?_)
            | (with_reducible refine wr_done ?_)
            | ((with_reducible refine t_isDraw ?_); refine t_draw rfl (by kernel_rfl) ?_)
            | (with_reducible refine WD.done _ ?_)
            | (with_reducible refine wdp_done ?_)
            | (with_reducible refine tr_some ?_)
            | ((fail_if_success with_reducible refine t_bl ?_); (with_reducible refine t_block ?_))
            | (with_reducible refine t_inBlock ?_)
            | ((with_reducible refine t_isExit ?_); refine t_exit rfl ?_)
            | simp only [decide_eq_true_eq, decide_eq_false_iff_not, Bool.not_eq_true', Bool.not_eq_false'] at *
            | simp (disch := omega) only [go_sem, Nat.reduceLT, Nat.reduceEqDiff, Nat.reduceAdd, Nat.reduceLeDiff, Nat.reduceMul, Int.reduceLT, Int.reduceLE, Int.reduceAdd, Int.reduceSub, Int.reduceNeg, Int.reduceToNat, Int.reduceBEq, Int.reduceEq, reduceCtorEq, List.take_succ_cons, List.take_zero, List.take_nil, List.drop_succ_cons, List.drop_nil, List.cons_append, List.nil_append, List.set_cons_zero, List.set_cons_succ, ↓reduceIte, *]
            | (with_reducible refine tb_true ?_)
            | (with_reducible refine tb_false ?_)
            | (with_reducible refine tb_split (fun _ => ?_) (fun _ => ?_))
            | (with_reducible refine wg_f (fun _ => ?_) (fun _ => ?_))
            | (with_reducible refine wg_t (fun _ => ?_) (fun _ => ?_))
            | (with_reducible refine wd_f (fun _ => ?_) (fun _ => ?_))
            | (with_reducible refine wd_t (fun _ => ?_) (fun _ => ?_))
          all_goals first
            | (exfalso; omega)
            | (have hpe := hp1 (by omega)
               rw [hpe] at hs1
               refine t_fg (Sub.of_sublist (.cons_cons _ (.cons _ (.cons _ (List.Sublist.refl _)))) (Nat.le_refl _)) ?_
               exact hrec (i + 1) _ _ ⟨by omega, ⟨n + 3, .osl (n + 2) 0 ((DL i).length + 1), [(n + 2, .rows 1 (intR (DL i) ++ [[.i .i64 Ni]]))], by omega, .inr ⟨n + 2, by rw [hs1]; simp, by omega, by omega, by rw [hs1]; simp, by rw [hs1, intR_snoc]⟩, rfl, by simp [get]⟩, by simp [get, g2], by simp [get, g3], by simp [get, g18], by simp [get, g19], by simp [get] <;> omega⟩ (by omega))
            | (have hpe := hp2 (by omega)
               rw [hpe, List.append_nil] at hs1
               refine t_pop ?_
               exact hrec (i + 1) _ _ ⟨by omega, ⟨n + 1, .osl id 0 (DL i).length, [(id, .rows 1 (intR (DL i)))], by omega, .inr ⟨id, by rw [hs1]; exact i0, i1, by omega, by rw [hs1], by rw [hs1]⟩, rfl, by simp [get, g7]⟩, by simp [get, g2], by simp [get, g3], by simp [get, g18], by simp [get, g19], by simp [get] <;> omega⟩ (by omega))
    · have hii : i = r.ps.length := by omega
      rw [hii] at hLp
      clear hrow hask hds hpk hpn
      rcases hLp with ⟨z1, rfl, rfl⟩ | ⟨id, i0, i1, i2, rfl, rfl⟩
      · simp only [List.nil_append] at *
        repeat' first
          | refine hex _ _ ?_
          | (with_reducible refine t_seq ?_)
          | (with_reducible refine t_skip ?_)
          | (with_reducible refine t_ret ?_)
          | (with_reducible refine t_end ?_)
          | (with_reducible refine t_cond ?_)
          | (with_reducible refine t_region ?_)
          | (with_reducible refine wr_done ?_)
          | ((with_reducible refine t_isDraw ?_); refine t_draw rfl (by kernel_rfl) ?_)
          | (with_reducible refine WD.done _ ?_)
          | (with_reducible refine wdp_done ?_)
          | (with_reducible refine tr_some ?_)
          | ((fail_if_success with_reducible refine t_bl ?_); (with_reducible refine t_block ?_))
          | (with_reducible refine t_inBlock ?_)
          | ((with_reducible refine t_isExit ?_); refine t_exit rfl ?_)
          | simp only [decide_eq_true_eq, decide_eq_false_iff_not, Bool.not_eq_true', Bool.not_eq_false'] at *
          | simp (disch := omega) only [go_sem, Nat.reduceLT, Nat.reduceEqDiff, Nat.reduceAdd, Nat.reduceLeDiff, Nat.reduceMul, Int.reduceLT, Int.reduceLE, Int.reduceAdd, Int.reduceSub, Int.reduceNeg, Int.reduceToNat, Int.reduceBEq, Int.reduceEq, reduceCtorEq, List.take_succ_cons, List.take_zero, List.take_nil, List.drop_succ_cons, List.drop_nil, List.cons_append, List.nil_append, List.set_cons_zero, List.set_cons_succ, ↓reduceIte, *]
          | (with_reducible refine tb_true ?_)
          | (with_reducible refine tb_false ?_)
          | (with_reducible refine tb_split (fun _ => ?_) (fun _ => ?_))
          | (with_reducible refine wg_f (fun _ => ?_) (fun _ => ?_))
          | (with_reducible refine wg_t (fun _ => ?_) (fun _ => ?_))
          | (with_reducible refine wd_f (fun _ => ?_) (fun _ => ?_))
          | (with_reducible refine wd_t (fun _ => ?_) (fun _ => ?_))
        all_goals first | (exfalso; omega) | skip
        first | (exact ⟨n, .nils, [], hn, .inl ⟨z1, rfl, rfl⟩, rfl, by simp [get, g7]⟩) | (exact ⟨by simp [fz, lstA], rfl⟩)
      · simp only [List.cons_append, List.nil_append] at *
        repeat' first
          | refine hex _ _ ?_
          | (with_reducible refine t_seq ?_)
          | (with_reducible refine t_skip ?_)
          | (with_reducible refine t_ret ?_)
          | (with_reducible refine t_end ?_)
          | (with_reducible refine t_cond ?_)
          | (with_reducible refine t_region ?_)
          | (with_reducible refine wr_done ?_)
          | ((with_reducible refine t_isDraw ?_); refine t_draw rfl (by kernel_rfl) ?_)
          | (with_reducible refine WD.done _ ?_)
          | (with_reducible refine wdp_done ?_)
          | (with_reducible refine tr_some ?_)
          | ((fail_if_success with_reducible refine t_bl ?_); (with_reducible refine t_block ?_))
          | (with_reducible refine t_inBlock ?_)
          | ((with_reducible refine t_isExit ?_); refine t_exit rfl ?_)
          | simp only [decide_eq_true_eq, decide_eq_false_iff_not, Bool.not_eq_true', Bool.not_eq_false'] at *
          | simp (disch := omega) only [go_sem, Nat.reduceLT, Nat.reduceEqDiff, Nat.reduceAdd, Nat.reduceLeDiff, Nat.reduceMul, Int.reduceLT, Int.reduceLE, Int.reduceAdd, Int.reduceSub, Int.reduceNeg, Int.reduceToNat, Int.reduceBEq, Int.reduceEq, reduceCtorEq, List.take_succ_cons, List.take_zero, List.take_nil, List.drop_succ_cons, List.drop_nil, List.cons_append, List.nil_append, List.set_cons_zero, List.set_cons_succ, ↓reduceIte, *]
          | (with_reducible refine tb_true ?_)
          | (with_reducible refine tb_false ?_)
          | (with_reducible refine tb_split (fun _ => ?_) (fun _ => ?_))
          | (with_reducible refine wg_f (fun _ => ?_) (fun _ => ?_))
          | (with_reducible refine wg_t (fun _ => ?_) (fun _ => ?_))
          | (with_reducible refine wd_f (fun _ => ?_) (fun _ => ?_))
          | (with_reducible refine wd_t (fun _ => ?_) (fun _ => ?_))
        all_goals first | (exfalso; omega) | skip
        exact ⟨n, _, _, hn, .inr ⟨id, i0, i1, i2, rfl, rfl⟩, rfl, by simp [get, g7]⟩
  · rintro t h ⟨n, e, L, hn, hLp, rfl, g7⟩
    unfold lstA
    rcases hLp with ⟨z1, rfl, rfl⟩ | ⟨id, i0, i1, i2, rfl, rfl⟩
    · rw [if_pos z1]
      simp only [List.nil_append] at *
      repeat' first
        | (with_reducible refine t_seq ?_)
        | (with_reducible refine t_skip ?_)
        | (with_reducible refine t_ret ?_)
        | (with_reducible refine t_end ?_)
        | (with_reducible refine t_cond ?_)
        | (with_reducible refine t_region ?_)
        | (with_reducible refine wr_done ?_)
        | ((with_reducible refine t_isDraw ?_); refine t_draw rfl (by kernel_rfl) ?_)
        | (with_reducible refine WD.done _ ?_)
        | (with_reducible refine wdp_done ?_)
        | (with_reducible refine tr_some ?_)
        | ((fail_if_success with_reducible refine t_bl ?_); (with_reducible refine t_block ?_))
        | (with_reducible refine t_inBlock ?_)
        | ((with_reducible refine t_isExit ?_); refine t_exit rfl ?_)
        | simp only [decide_eq_true_eq, decide_eq_false_iff_not, Bool.not_eq_true', Bool.not_eq_false'] at *
        | simp (disch := omega) only [go_sem, Nat.reduceLT, Nat.reduceEqDiff, Nat.reduceAdd, Nat.reduceLeDiff, Nat.reduceMul, Int.reduceLT, Int.reduceLE, Int.reduceAdd, Int.reduceSub, Int.reduceNeg, Int.reduceToNat, Int.reduceBEq, Int.reduceEq, reduceCtorEq, List.take_succ_cons, List.take_zero, List.take_nil, List.drop_succ_cons, List.drop_nil, List.cons_append, List.nil_append, List.set_cons_zero, List.set_cons_succ, ↓reduceIte, *]
        | (with_reducible refine tb_true ?_)
        | (with_reducible refine tb_false ?_)
        | (with_reducible refine tb_split (fun _ => ?_) (fun _ => ?_))
        | (with_reducible refine wg_f (fun _ => ?_) (fun _ => ?_))
        | (with_reducible refine wg_t (fun _ => ?_) (fun _ => ?_))
        | (with_reducible refine wd_f (fun _ => ?_) (fun _ => ?_))
        | (with_reducible refine wd_t (fun _ => ?_) (fun _ => ?_))
      exact ⟨rfl, rfl⟩
    · rw [if_neg i0]
      have hil := intR_len (DL r.ps.length)
      have hfl := intR_flat (DL r.ps.length)
      simp only [List.cons_append, List.nil_append] at *
      repeat' first
        | (with_reducible refine t_seq ?_)
        | (with_reducible refine t_skip ?_)
        | (with_reducible refine t_ret ?_)
        | (with_reducible refine t_end ?_)
        | (with_reducible refine t_cond ?_)
        | (with_reducible refine t_region ?_)
        | (with_reducible refine wr_done ?_)
        | ((with_reducible refine t_isDraw ?_); refine t_draw rfl (by kernel_rfl) ?_)
        | (with_reducible refine WD.done _ ?_)
        | (with_reducible refine wdp_done ?_)
        | (with_reducible refine tr_some ?_)
        | ((fail_if_success with_reducible refine t_bl ?_); (with_reducible refine t_block ?_))
        | (with_reducible refine t_inBlock ?_)
        | ((with_reducible refine t_isExit ?_); refine t_exit rfl ?_)
        | simp only [decide_eq_true_eq, decide_eq_false_iff_not, Bool.not_eq_true', Bool.not_eq_false'] at *
        | simp (disch := omega) only [go_sem, Nat.reduceLT, Nat.reduceEqDiff, Nat.reduceAdd, Nat.reduceLeDiff, Nat.reduceMul, Int.reduceLT, Int.reduceLE, Int.reduceAdd, Int.reduceSub, Int.reduceNeg, Int.reduceToNat, Int.reduceBEq, Int.reduceEq, reduceCtorEq, List.take_succ_cons, List.take_zero, List.take_nil, List.drop_succ_cons, List.drop_nil, List.cons_append, List.nil_append, List.set_cons_zero, List.set_cons_succ, ↓reduceIte, *]
        | (with_reducible refine tb_true ?_)
        | (with_reducible refine tb_false ?_)
        | (with_reducible refine tb_split (fun _ => ?_) (fun _ => ?_))
        | (with_reducible refine wg_f (fun _ => ?_) (fun _ => ?_))
        | (with_reducible refine wg_t (fun _ => ?_) (fun _ => ?_))
        | (with_reducible refine wd_f (fun _ => ?_) (fun _ => ?_))
        | (with_reducible refine wd_t (fun _ => ?_) (fun _ => ?_))
      refine ⟨?_, rfl⟩
      simp only [fz_tup, List.map_cons, List.map_nil, fz_i]
      rw [show (11 : Nat) = 9 + 2 from rfl, fz_own (l := intR (DL r.ps.length)) (k := 1) (by simp (disch := omega) only [go_sem, ↓reduceIte]) (by rw [hil]; omega) hfl]
      rw [List.drop_zero, List.take_of_length_le (by rw [hil]; omega)]
end Go.Proofs.YtkokongbnemkhaaGreatDoorA
