/- SpanBack as a contract. -/
import Derived.Test.YtkokongbnemkhaaGreatDoorPW44
import Derived.Test.YtkokongbnemkhaaGreatDoorPJG
set_option linter.unusedVariables false
set_option linter.unusedSimpArgs false
namespace Go.Proofs.YtkokongbnemkhaaGreatDoorA
open Go Go.RowKit Go.Proofs.YtkokongbnemkhaaGreatDoorFx Go.Proofs
variable {m : Int}
set_option maxRecDepth 10000000 in
theorem grgAtD {d : Int} (h : d = 1 ∨ d = 2) : (calOf 0 grgR).At d 1 0 := by
  have e1 : (calOf 0 grgR).first 1 = 1 := by kernel_rfl
  have e2 : (calOf 0 grgR).first (1 + 1) = 366 := by kernel_rfl
  have e3 : (calOf 0 grgR).bef 1 0 = 0 := rfl
  have e4 : (calOf 0 grgR).bef 1 (0 + 1) = 31 := by kernel_rfl
  exact ⟨chkDay_ok (by omega) (by omega), by omega, by omega, by omega, by omega, by decide +kernel, by omega, by omega⟩
theorem upM_none {fit : Nat → Bool} (h : ∀ M, M ≤ 10000 → M ≠ 0 → fit M = false) : ∀ p, upM fit p 0 = 0
  | 0 => rfl
  | p + 1 => by
    unfold upM
    have hp : 0 < 2 ^ p := Nat.two_pow_pos p
    rw [if_neg (fun q => by rw [h _ q.1 (by omega)] at q; cases q.2)]
    exact upM_none h p
set_option maxRecDepth 10000000 in
theorem grgBetween : MeetsP Tryz.prog (glT m) 20 [.s grgS, .i .i64 86400000, .i .i64 172800005] (.tup [durA 0 0 1 5, .i .i64 0]) := by
  have hg := calGood (m := m) grgIn
  have e1 : (calOf 0 grgR).first 1 = 1 := by kernel_rfl
  have e4 : (calOf 0 grgR).bef 1 (0 + 1) = 31 := by kernel_rfl
  obtain ⟨N, E, hm⟩ := moved hg (q := 1) (by kernel_rfl)
  have hz := hm.zero
  have hmon := hm.mon
  have h := betweenP hg (calP (m := m) grgIn) (a := 86400000) (b := 172800005) (by kernel_rfl) (by kernel_rfl) (by omega) (ya := 1) (yb := 1) (moa := 0) (mob := 0) (grgAtD (.inl rfl)) (grgAtD (.inr rfl)) (N := N) (E := E) hm (Y0 := 0) (by decide) (Ys := 0) (Ms := 0) rfl
    (upM_none (fun M h1 h2 => by
      unfold fitS
      by_cases h0 : E 0 M = 0
      · have := hmon M h1 h2 1 0 (grgAtD (.inl rfl)) h0
        rw [e1, e4] at this
        rw [decide_eq_false (p := N 0 M * 86400000 + 86400000 % 86400000 ≤ 172800005) (by omega)]
        simp
      · simp [h0]) 14)
    (by unfold fitS; rw [hz.1, hz.2]; decide) (by omega)
  rw [hz.1] at h
  exact h
set_option maxRecDepth 100000 in
set_option maxHeartbeats 8000000 in
theorem spanBackP (k a b : Int) : MeetsP Tryz.prog (glT m) 6 [.i .i64 k, .i .i64 a, .i .i64 b] (.b true) := by
  have hone := grgBetween (m := m)
  have hn := nameP (m := m) k
  have hC := calAtP (m := m) k
  have hg := calAt_good (m := m) k
  have hct := kcutP (m := m) (a := a) (lo := 0) (n := 60480000000000) (by omega) (by omega) (by omega) (by omega)
  have hct2 := kcutP (m := m) (a := b) (lo := 0) (n := 259200000000) (by omega) (by omega) (by omega) (by omega)
  rw [Int.zero_add] at hct hct2
  have hm1 := Int.emod_nonneg a (show (60480000000000 : Int) ≠ 0 by omega)
  have hm2 := Int.emod_lt_of_pos a (show (0 : Int) < 60480000000000 by omega)
  have hm3 := Int.emod_nonneg b (show (259200000000 : Int) ≠ 0 by omega)
  have hm4 := Int.emod_lt_of_pos b (show (0 : Int) < 259200000000 by omega)
  generalize a % 60480000000000 = A at *
  generalize b % 259200000000 = B at *
  have ha : chkDay (A / 86400000) = 0 := chkDay_ok (by omega) (by omega)
  have hb : chkDay ((A + B) / 86400000) = 0 := chkDay_ok (by omega) (by omega)
  have hbad : MeetsP Tryz.prog (glT m) 20 [.s (rowAt k).name, .i .i64 A, .i .i64 (A + B)] (.tup [durA 0 0 0 0, .i .i64 3]) → MeetsP Tryz.prog (glT m) 6 [.i .i64 k, .i .i64 a, .i .i64 b] (.b true) := fun hS => by
    clear ha hb hC hg
    unfold durA grgS at *
    refine meetsP (E := (EW m)) 73 [.tmp 6] (ew m) Tryz.func6 rfl (by decide) rfl rfl (by simp) ?_
    repeat' first
      | ((with_reducible refine wr_isCall ?_); refine wr_P hone rfl ?_)
      | ((with_reducible refine wr_isCall ?_); refine wr_P hct rfl ?_)
      | ((with_reducible refine wr_isCall ?_); refine wr_P hct2 rfl ?_)
      | ((with_reducible refine wr_isCall ?_); refine wr_P hn rfl ?_)
      | ((with_reducible refine wr_isCall ?_); refine wr_P hS rfl ?_)
      | (with_reducible refine t_seq ?_)
      | (with_reducible refine t_skip ?_)
      | (with_reducible refine t_ret ?_)
      | (with_reducible refine t_end ?_)
      | (with_reducible refine t_cond ?_)
      | (with_reducible refine t_region ?_)
      | (with_reducible refine wr_done ?_)
      | ((with_reducible refine t_isDraw ?_); refine t_draw rfl (by kernel_rfl) ?_)
      | (with_reducible refine WD.done _ ?_)
      | (with_reducible refine wdp_done ?_)
      | (with_reducible refine tr_some ?_)
      | ((fail_if_success with_reducible refine t_bl ?_); (with_reducible refine t_block ?_))
      | (with_reducible refine t_inBlock ?_)
      | ((with_reducible refine t_isExit ?_); refine t_exit rfl ?_)
      | simp only [decide_eq_true_eq, decide_eq_false_iff_not, Bool.not_eq_true', Bool.not_eq_false'] at *
      | simp (disch := omega) only [go_sem, Nat.reduceLT, Nat.reduceEqDiff, Nat.reduceAdd, Nat.reduceLeDiff, Nat.reduceMul, Int.reduceLT, Int.reduceLE, Int.reduceAdd, Int.reduceSub, Int.reduceNeg, Int.reduceToNat, Int.reduceBEq, Int.reduceEq, reduceCtorEq, List.take_succ_cons, List.take_zero, List.take_nil, List.drop_succ_cons, List.drop_nil, List.cons_append, List.nil_append, List.set_cons_zero, List.set_cons_succ, ↓reduceIte, *]
      | (with_reducible refine tb_true ?_)
      | (with_reducible refine tb_false ?_)
      | (with_reducible refine tb_split (fun _ => ?_) (fun _ => ?_))
      | (with_reducible refine wg_f (fun _ => ?_) (fun _ => ?_))
      | (with_reducible refine wg_t (fun _ => ?_) (fun _ => ?_))
      | (with_reducible refine wd_f (fun _ => ?_) (fun _ => ?_))
      | (with_reducible refine wd_t (fun _ => ?_) (fun _ => ?_))
    all_goals first | (exfalso; omega) | exact ⟨rfl, rfl⟩
  rcases fromDay_all hg (A / 86400000) with hf | ⟨ya, moa, hata⟩
  · exact hbad (betweenBad hg hC ha hb (by omega) (.inl hf))
  rcases fromDay_all hg ((A + B) / 86400000) with hf | ⟨yb, mob, hatb⟩
  · exact hbad (betweenBad hg hC ha hb (by omega) (.inr ⟨⟨_, _, _, hata.run hg⟩, hf⟩))
  clear hbad
  obtain ⟨N, E, hm⟩ := moved hg ha
  have hz := hm.zero
  have hY0 : min (10000 : Int) (max 0 (yb - ya)) = ((min (10000 : Int) (max 0 (yb - ya))).toNat : Int) := by omega
  generalize hY0e : (min (10000 : Int) (max 0 (yb - ya))).toNat = Y0 at hY0
  have hY0b : Y0 ≤ 10000 := by omega
  obtain ⟨y1, y2, -⟩ := downY_spec (fun Y => fitS N E (A % 86400000) (A + B) Y 0) Y0
  generalize hYs : downY (fun Y => fitS N E (A % 86400000) (A + B) Y 0) Y0 = Ys at *
  have hf0 : fitS N E (A % 86400000) (A + B) Ys 0 = true := by
    rcases y1 with h | h
    · rw [h]; unfold fitS; rw [hz.1, hz.2]; simp; omega
    · exact h
  obtain ⟨u1, u2⟩ := upM_spec (fitS N E (A % 86400000) (A + B) Ys) 14 0 (by omega) hf0
  generalize hMs : upM (fitS N E (A % 86400000) (A + B) Ys) 14 0 = Ms at *
  have hS := betweenP hg hC ha hb (by omega) hata hatb hm hY0 hYs hMs u2 u1
  obtain ⟨v1, v2⟩ : E Ys Ms = 0 ∧ N Ys Ms * 86400000 + A % 86400000 ≤ A + B := by unfold fitS at u2; simpa using u2
  have v3 := chkDay_b (hm.far Ys Ms v1)
  have hD := addP hg ha hm (Y := Ys) (M := Ms) (by omega) u1 (D := (A + B - (N Ys Ms * 86400000 + A % 86400000)) / 86400000) (Ms := (A + B - (N Ys Ms * 86400000 + A % 86400000)) % 86400000) (by omega) (by omega)
  have he : (N Ys Ms + (A + B - (N Ys Ms * 86400000 + A % 86400000)) / 86400000) * 86400000 + A % 86400000 + (A + B - (N Ys Ms * 86400000 + A % 86400000)) % 86400000 = A + B := by omega
  unfold spR at hD
  rw [if_neg (by simp [v1]), he, if_neg (by rw [chkDay_ok (by omega) (by omega)]; simp), if_neg (by rw [hb]; simp)] at hD
  have hA := spanAddP (m := m) (by unfold inLen; omega) hC hD
  have w1 : 0 ≤ (A + B - (N Ys Ms * 86400000 + A % 86400000)) / 86400000 := by omega
  have w2 : 0 ≤ (A + B - (N Ys Ms * 86400000 + A % 86400000)) % 86400000 ∧ (A + B - (N Ys Ms * 86400000 + A % 86400000)) % 86400000 < 86400000 := by omega
  generalize (A + B - (N Ys Ms * 86400000 + A % 86400000)) / 86400000 = DD at *
  generalize (A + B - (N Ys Ms * 86400000 + A % 86400000)) % 86400000 = RR at *
  clear ha hb hC hg hata hatb hm hz hY0 hY0e y1 y2 hYs hf0 u1 u2 hMs v1 v2 v3 hD he
  unfold durA grgS at *
  refine meetsP (E := (EW m)) 73 [.tmp 6] (ew m) Tryz.func6 rfl (by decide) rfl rfl (by simp) ?_
  repeat' first
    | ((with_reducible refine wr_isCall ?_); refine wr_P hone rfl ?_)
    | ((with_reducible refine wr_isCall ?_); refine wr_P hct rfl ?_)
    | ((with_reducible refine wr_isCall ?_); refine wr_P hct2 rfl ?_)
    | ((with_reducible refine wr_isCall ?_); refine wr_P hn rfl ?_)
    | ((with_reducible refine wr_isCall ?_); refine wr_P hS rfl ?_)
    | ((with_reducible refine t_isDraw ?_); refine t_draw2 hn hA (by kernel_rfl) ?_)
    | (with_reducible refine t_seq ?_)
    | (with_reducible refine t_skip ?_)
    | (with_reducible refine t_ret ?_)
    | (with_reducible refine t_end ?_)
    | (with_reducible refine t_cond ?_)
    | (with_reducible refine t_region ?_)
    | (with_reducible refine wr_done ?_)
    | ((with_reducible refine t_isDraw ?_); refine t_draw rfl (by kernel_rfl) ?_)
    | (with_reducible refine WD.done _ ?_)
    | (with_reducible refine wdp_done ?_)
    | (with_reducible refine tr_some ?_)
    | ((fail_if_success with_reducible refine t_bl ?_); (with_reducible refine t_block ?_))
    | (with_reducible refine t_inBlock ?_)
    | ((with_reducible refine t_isExit ?_); refine t_exit rfl ?_)
    | simp only [decide_eq_true_eq, decide_eq_false_iff_not, Bool.not_eq_true', Bool.not_eq_false'] at *
    | simp (disch := omega) only [go_sem, Nat.reduceLT, Nat.reduceEqDiff, Nat.reduceAdd, Nat.reduceLeDiff, Nat.reduceMul, Int.reduceLT, Int.reduceLE, Int.reduceAdd, Int.reduceSub, Int.reduceNeg, Int.reduceToNat, Int.reduceBEq, Int.reduceEq, reduceCtorEq, List.take_succ_cons, List.take_zero, List.take_nil, List.drop_succ_cons, List.drop_nil, List.cons_append, List.nil_append, List.set_cons_zero, List.set_cons_succ, ↓reduceIte, *]
    | (with_reducible refine tb_true ?_)
    | (with_reducible refine tb_false ?_)
    | (with_reducible refine tb_split (fun _ => ?_) (fun _ => ?_))
    | (with_reducible refine wg_f (fun _ => ?_) (fun _ => ?_))
    | (with_reducible refine wg_t (fun _ => ?_) (fun _ => ?_))
    | (with_reducible refine wd_f (fun _ => ?_) (fun _ => ?_))
    | (with_reducible refine wd_t (fun _ => ?_) (fun _ => ?_))
  all_goals first | (exfalso; omega) | exact ⟨rfl, rfl⟩
end Go.Proofs.YtkokongbnemkhaaGreatDoorA
