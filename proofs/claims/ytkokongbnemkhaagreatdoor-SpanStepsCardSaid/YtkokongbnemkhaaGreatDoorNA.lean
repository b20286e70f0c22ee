/- What follows a day: plain laws of a calendar. -/
import Derived.Test.YtkokongbnemkhaaGreatDoorPW16
set_option linter.unusedVariables false
set_option linter.unusedSimpArgs false
namespace Go.Proofs.YtkokongbnemkhaaGreatDoorA
open Go Go.RowKit Go.Proofs
variable {c : Cal}
/-- A day within a month that is not its last: the next day is in the month, too. -/
theorem Cal.At.stay (hc : c.Ok) {day y : Int} {mo : Nat} (h : c.At day y mo) (hn : day - c.first y + 1 - c.bef y mo < c.mlen y (mo + 1)) (hf : chkDay (day + 1) = 0) : c.At (day + 1) y mo := by
  have h2 : c.bef y (mo + 1) = c.bef y mo + c.mlen y (mo + 1) := rfl
  have h3 := hc.bef_mono y (show mo + 1 ≤ c.ms.length from h.hmo)
  have h4 := hc.first_succ y
  have h5 := c.bef_all y
  have := h.r1
  have := h.a
  exact ⟨hf, h.y1, h.y2, by omega, by omega, h.hmo, by omega, by omega⟩
/-- Behind the last day of a month. -/
theorem Cal.At.next (hc : c.Ok) (hpos : ∀ y, 0 < c.ylen y) {day y y' : Int} {mo mo' : Nat} (h : c.At day y mo) (hn : ¬ day - c.first y + 1 - c.bef y mo < c.mlen y (mo + 1)) (h' : c.At (day + 1) y' mo') :
    day + 1 - c.first y' + 1 - c.bef y' mo' = 1 ∧ ((y' = y ∧ mo < mo' ∧ ∀ j : Nat, mo + 1 ≤ j → j < mo' → c.mlen y (j + 1) = 0) ∨ (y' = y + 1 ∧ ∀ j : Nat, mo + 1 ≤ j → j < c.ms.length → c.mlen y (j + 1) = 0)) := by
  have h2 : c.bef y (mo + 1) = c.bef y mo + c.mlen y (mo + 1) := rfl
  have h3 := hc.bef_mono y (show mo + 1 ≤ c.ms.length from h.hmo)
  have h4 := hc.first_succ y
  have h5 := c.bef_all y
  have r1 := h.r1
  have r2 := h.r2
  have a := h.a
  have b := h.b
  have a' := h'.a
  have b' := h'.b
  have r1' := h'.r1
  have r2' := h'.r2
  have hzero : ∀ (n j : Nat), mo + 1 ≤ j → j < n → c.bef y n ≤ c.bef y (mo + 1) → c.mlen y (j + 1) = 0 := fun n j h1 h2 h3 => by
    have e1 : c.bef y (j + 1) = c.bef y j + c.mlen y (j + 1) := rfl
    have e2 := hc.bef_mono y h1
    have e3 := hc.bef_mono y (show j + 1 ≤ n from h2)
    have e4 := (hc.mlen_bounds y (j + 1)).1
    omega
  have hge : y ≤ y' := by
    rcases Int.lt_or_le y' y with q | q
    · have := hc.first_mono (show y' + 1 ≤ y from q)
      omega
    · exact q
  rcases Int.lt_or_le y y' with q | q
  · have e1 := hc.first_mono (show y + 1 ≤ y' from q)
    have e0 : y' = y + 1 := by
      rcases Int.lt_or_le (y + 1) y' with q2 | q2
      · have e2 := hc.first_mono (show y + 1 + 1 ≤ y' from q2)
        have e3 := hc.first_succ (y + 1)
        have e4 := hpos (y + 1)
        omega
      · omega
    subst e0
    have e2 := (hc.bef_bounds (y + 1) mo').1
    exact ⟨by omega, .inr ⟨rfl, fun j h1 h2 => hzero _ j h1 h2 (by omega)⟩⟩
  · have e0 : y' = y := by omega
    subst e0
    have hlt : mo < mo' := by
      rcases Nat.lt_or_ge mo mo' with q2 | q2
      · exact q2
      · have := hc.bef_mono y' (show mo' + 1 ≤ mo + 1 by omega)
        omega
    have e1 := hc.bef_mono y' (show mo + 1 ≤ mo' from hlt)
    exact ⟨by omega, .inl ⟨rfl, hlt, fun j h1 h2 => hzero _ j h1 h2 (by omega)⟩⟩
set_option maxRecDepth 10000000
theorem yearsPos : (catT.zipIdx.all fun p => decide (0 < sumS (calOf p.2 p.1).ms) && decide (0 < sumL (calOf p.2 p.1).ms) && decide (1400000 ≤ (calOf p.2 p.1).first 10001) && decide ((calOf p.2 p.1).first (-10000) ≤ -1500000)) = true := by kernel_rfl
theorem ylen_pos {r : CatRow} {k : Nat} (h : (r, k) ∈ catT.zipIdx) (y : Int) : 0 < (calOf k r).ylen y := by
  have h1 := List.all_eq_true.1 yearsPos (r, k) h
  simp only [Bool.and_eq_true, decide_eq_true_eq] at h1
  unfold Cal.ylen
  split
  · exact h1.1.1.2
  · exact h1.1.1.1
theorem first_far {r : CatRow} {k : Nat} (h : (r, k) ∈ catT.zipIdx) : 1400000 ≤ (calOf k r).first 10001 ∧ (calOf k r).first (-10000) ≤ -1500000 := by
  have h1 := List.all_eq_true.1 yearsPos (r, k) h
  simp only [Bool.and_eq_true, decide_eq_true_eq] at h1
  exact ⟨h1.1.2, h1.2⟩
end Go.Proofs.YtkokongbnemkhaaGreatDoorA
/- rule.Name of any text; the catalog's answers to unknown names; ToDay of any date. -/
set_option linter.unusedVariables false
set_option linter.unusedSimpArgs false
namespace Go.Proofs.YtkokongbnemkhaaGreatDoorA
open Go Go.RowKit Go.Proofs.YtkokongbnemkhaaGreatDoorFx Go.Proofs
variable {m : Int}
/-- What is a name. -/
def nameB (s : List UInt8) : Bool := decide (1 ≤ s.length) && decide (s.length ≤ 12) && !decide (s = [121]) && !decide (s = [97, 110, 100]) && !decide (s = [111, 114]) && !decide (s = [110, 111, 116]) && s.all fun b => decide (97 ≤ (b.toNat : Int)) && decide ((b.toNat : Int) ≤ 122)
set_option maxRecDepth 100000 in
theorem ruleNameP (s : List UInt8) (hs : s.length ≤ 9223372036854775807) : MeetsP Tryz.prog (glT m) 55 [.s s] (.b (nameB s)) := by
  by_cases h0 : s.length < 1
  · have e : nameB s = false := by unfold nameB; simp; omega
    rw [e]
    refine meetsP (E := (EW m)) 43 [.tmp 2] (ew m) Tryz.func55 rfl (by decide) rfl rfl (by simp) ?_
    repeat' first
      | (with_reducible refine t_seq ?_)
      | (with_reducible refine t_skip ?_)
      | (with_reducible refine t_ret ?_)
      | (with_reducible refine t_end ?_)
      | (with_reducible refine t_cond ?_)
      | (with_reducible refine t_region ?_)
      | (with_reducible refine wr_done ?_)
      | ((with_reducible refine t_isDraw ?_); refine t_draw rfl (by kernel_rfl) ?_)
      | (with_reducible refine WD.done _ ?_)
      | (with_reducible refine wdp_done ?_)
      | (with_reducible refine tr_some ?_)
      | ((fail_if_success with_reducible refine t_bl ?_); (with_reducible refine t_block ?_))
      | (with_reducible refine t_inBlock ?_)
      | ((with_reducible refine t_isExit ?_); refine t_exit rfl ?_)
      | simp only [decide_eq_true_eq, decide_eq_false_iff_not, Bool.not_eq_true', Bool.not_eq_false'] at *
      | simp (disch := omega) only [go_sem, Nat.reduceLT, Nat.reduceEqDiff, Nat.reduceAdd, Nat.reduceLeDiff, Nat.reduceMul, Int.reduceLT, Int.reduceLE, Int.reduceAdd, Int.reduceSub, Int.reduceNeg, Int.reduceToNat, Int.reduceBEq, Int.reduceEq, reduceCtorEq, List.take_succ_cons, List.take_zero, List.take_nil, List.drop_succ_cons, List.drop_nil, List.cons_append, List.nil_append, List.set_cons_zero, List.set_cons_succ, ↓reduceIte, *]
      | (with_reducible refine tb_true ?_)
      | (with_reducible refine tb_false ?_)
      | (with_reducible refine tb_split (fun _ => ?_) (fun _ => ?_))
      | (with_reducible refine wg_f (fun _ => ?_) (fun _ => ?_))
      | (with_reducible refine wg_t (fun _ => ?_) (fun _ => ?_))
      | (with_reducible refine wd_f (fun _ => ?_) (fun _ => ?_))
      | (with_reducible refine wd_t (fun _ => ?_) (fun _ => ?_))
    all_goals first | (exfalso; omega) | exact ⟨rfl, rfl⟩
  by_cases h1 : 12 < s.length
  · have e : nameB s = false := by unfold nameB; simp; omega
    rw [e]
    refine meetsP (E := (EW m)) 43 [.tmp 2] (ew m) Tryz.func55 rfl (by decide) rfl rfl (by simp) ?_
    repeat' first
      | (with_reducible refine t_seq ?_)
      | (with_reducible refine t_skip ?_)
      | (with_reducible refine t_ret ?_)
      | (with_reducible refine t_end ?_)
      | (with_reducible refine t_cond ?_)
      | (with_reducible refine t_region ?_)
      | (with_reducible refine wr_done ?_)
      | ((with_reducible refine t_isDraw ?_); refine t_draw rfl (by kernel_rfl) ?_)
      | (with_reducible refine WD.done _ ?_)
      | (with_reducible refine wdp_done ?_)
      | (with_reducible refine tr_some ?_)
      | ((fail_if_success with_reducible refine t_bl ?_); (with_reducible refine t_block ?_))
      | (with_reducible refine t_inBlock ?_)
      | ((with_reducible refine t_isExit ?_); refine t_exit rfl ?_)
      | simp only [decide_eq_true_eq, decide_eq_false_iff_not, Bool.not_eq_true', Bool.not_eq_false'] at *
      | simp (disch := omega) only [go_sem, Nat.reduceLT, Nat.reduceEqDiff, Nat.reduceAdd, Nat.reduceLeDiff, Nat.reduceMul, Int.reduceLT, Int.reduceLE, Int.reduceAdd, Int.reduceSub, Int.reduceNeg, Int.reduceToNat, Int.reduceBEq, Int.reduceEq, reduceCtorEq, List.take_succ_cons, List.take_zero, List.take_nil, List.drop_succ_cons, List.drop_nil, List.cons_append, List.nil_append, List.set_cons_zero, List.set_cons_succ, ↓reduceIte, *]
      | (with_reducible refine tb_true ?_)
      | (with_reducible refine tb_false ?_)
      | (with_reducible refine tb_split (fun _ => ?_) (fun _ => ?_))
      | (with_reducible refine wg_f (fun _ => ?_) (fun _ => ?_))
      | (with_reducible refine wg_t (fun _ => ?_) (fun _ => ?_))
      | (with_reducible refine wd_f (fun _ => ?_) (fun _ => ?_))
      | (with_reducible refine wd_t (fun _ => ?_) (fun _ => ?_))
    all_goals first | (exfalso; omega) | exact ⟨rfl, rfl⟩
  by_cases h2 : s = [121] ∨ s = [97, 110, 100] ∨ s = [111, 114] ∨ s = [110, 111, 116]
  · have e : nameB s = false := by rcases h2 with rfl | rfl | rfl | rfl <;> rfl
    rw [e]
    refine meetsP (E := (EW m)) 43 [.tmp 2] (ew m) Tryz.func55 rfl (by decide) rfl rfl (by simp) ?_
    repeat' first
      | (with_reducible refine t_seq ?_)
      | (with_reducible refine t_skip ?_)
      | (with_reducible refine t_ret ?_)
      | (with_reducible refine t_end ?_)
      | (with_reducible refine t_cond ?_)
      | (with_reducible refine t_region ?_)
      | (with_reducible refine wr_done ?_)
      | ((with_reducible refine t_isDraw ?_); refine t_draw rfl (by kernel_rfl) ?_)
      | (with_reducible refine WD.done _ ?_)
      | (with_reducible refine wdp_done ?_)
      | (with_reducible refine tr_some ?_)
      | ((fail_if_success with_reducible refine t_bl ?_); (with_reducible refine t_block ?_))
      | (with_reducible refine t_inBlock ?_)
      | ((with_reducible refine t_isExit ?_); refine t_exit rfl ?_)
      | simp only [decide_eq_true_eq, decide_eq_false_iff_not, Bool.not_eq_true', Bool.not_eq_false'] at *
      | simp (disch := omega) only [go_sem, Nat.reduceLT, Nat.reduceEqDiff, Nat.reduceAdd, Nat.reduceLeDiff, Nat.reduceMul, Int.reduceLT, Int.reduceLE, Int.reduceAdd, Int.reduceSub, Int.reduceNeg, Int.reduceToNat, Int.reduceBEq, Int.reduceEq, reduceCtorEq, List.take_succ_cons, List.take_zero, List.take_nil, List.drop_succ_cons, List.drop_nil, List.cons_append, List.nil_append, List.set_cons_zero, List.set_cons_succ, ↓reduceIte, *]
      | (with_reducible refine tb_true ?_)
      | (with_reducible refine tb_false ?_)
      | (with_reducible refine tb_split (fun _ => ?_) (fun _ => ?_))
      | (with_reducible refine wg_f (fun _ => ?_) (fun _ => ?_))
      | (with_reducible refine wg_t (fun _ => ?_) (fun _ => ?_))
      | (with_reducible refine wd_f (fun _ => ?_) (fun _ => ?_))
      | (with_reducible refine wd_t (fun _ => ?_) (fun _ => ?_))
    all_goals first | (exfalso; omega) | exact ⟨rfl, rfl⟩ | skip
    all_goals (exfalso; simp_all)
  simp only [not_or] at h2
  obtain ⟨k1, k2, k3, k4⟩ := h2
  have e : nameB s = s.all fun b => decide (97 ≤ (b.toNat : Int)) && decide ((b.toNat : Int) ≤ 122) := by
    unfold nameB
    simp only [k1, k2, k3, k4, decide_false, Bool.not_false, Bool.and_true, show decide (1 ≤ s.length) = true from decide_eq_true (by omega), show decide (s.length ≤ 12) = true from decide_eq_true (by omega), Bool.true_and]
  rw [e]
  refine meetsP (E := (EW m)) 43 [.tmp 2] (ew m) Tryz.func55 rfl (by decide) rfl rfl (by simp) ?_
  repeat' first
    | (with_reducible refine t_seq ?_)
    | (with_reducible refine t_skip ?_)
    | (with_reducible refine t_ret ?_)
    | (with_reducible refine t_end ?_)
    | (with_reducible refine t_cond ?_)
    | (with_reducible refine t_region ?_)
    | (with_reducible refine wr_done ?_)
    | ((with_reducible refine t_isDraw ?_); refine t_draw rfl (by kernel_rfl) ?_)
    | (with_reducible refine WD.done _ ?_)
    | (with_reducible refine wdp_done ?_)
    | (with_reducible refine tr_some ?_)
    | ((fail_if_success with_reducible refine t_bl ?_); (with_reducible refine t_block ?_))
    | (with_reducible refine t_inBlock ?_)
    | ((with_reducible refine t_isExit ?_); refine t_exit rfl ?_)
    | simp only [decide_eq_true_eq, decide_eq_false_iff_not, Bool.not_eq_true', Bool.not_eq_false'] at *
    | simp (disch := omega) only [go_sem, Nat.reduceLT, Nat.reduceEqDiff, Nat.reduceAdd, Nat.reduceLeDiff, Nat.reduceMul, Int.reduceLT, Int.reduceLE, Int.reduceAdd, Int.reduceSub, Int.reduceNeg, Int.reduceToNat, Int.reduceBEq, Int.reduceEq, reduceCtorEq, List.take_succ_cons, List.take_zero, List.take_nil, List.drop_succ_cons, List.drop_nil, List.cons_append, List.nil_append, List.set_cons_zero, List.set_cons_succ, ↓reduceIte, *]
    | (with_reducible refine tb_true ?_)
    | (with_reducible refine tb_false ?_)
    | (with_reducible refine tb_split (fun _ => ?_) (fun _ => ?_))
    | (with_reducible refine wg_f (fun _ => ?_) (fun _ => ?_))
    | (with_reducible refine wg_t (fun _ => ?_) (fun _ => ?_))
    | (with_reducible refine wd_f (fun _ => ?_) (fun _ => ?_))
    | (with_reducible refine wd_t (fun _ => ?_) (fun _ => ?_))
  all_goals first | (exfalso; omega) | skip
  have hall : ∀ i (hi : i ≤ s.length), (∀ j (hj : j < s.length), j < i → 97 ≤ (s[j].toNat : Int) ∧ (s[j].toNat : Int) ≤ 122) → i = s.length → (s.all fun b => decide (97 ≤ (b.toNat : Int)) && decide ((b.toNat : Int) ≤ 122)) = true := fun i hi h e => by
    rw [List.all_eq_true]
    intro b hb
    obtain ⟨j, hj, rfl⟩ := List.mem_iff_getElem.1 hb
    have := h j hj (by omega)
    simp only [Bool.and_eq_true, decide_eq_true_eq]; exact this
  have hno : ∀ i (hi : i < s.length), ¬ (97 ≤ (s[i].toNat : Int) ∧ (s[i].toNat : Int) ≤ 122) → (s.all fun b => decide (97 ≤ (b.toNat : Int)) && decide ((b.toNat : Int) ≤ 122)) = false := fun i hi h => by
    rw [List.all_eq_false]
    exact ⟨s[i], List.getElem_mem hi, by simp only [Bool.and_eq_true, decide_eq_true_eq]; exact h⟩
  generalize (s.all fun b => decide (97 ≤ (b.toNat : Int)) && decide ((b.toNat : Int) ≤ 122)) = R at *
  refine t_while (I := fun (i : Nat) t h => i ≤ s.length ∧ h = ⟨[(0, .rows 1 (s.map fun b => [.i .u8 b.toNat]))], 1⟩ ∧ get t 30 = .osl 0 0 s.length ∧ get t 31 = .i .i64 s.length ∧ get t 32 = .i .i64 i ∧ ∀ j (hj : j < s.length), j < i → 97 ≤ (s[j].toNat : Int) ∧ (s[j].toNat : Int) ≤ 122) (m := fun i => s.length - i)
    (J := fun t h => R = true) 0 ⟨by omega, rfl, by simp [get], by simp [get], by simp [get], fun j hj h => by omega⟩ ?_ ?_
  · rintro i t h ⟨hi, rfl, h30, h31, h32, hal⟩ hrec hex
    by_cases hi' : i < s.length
    · have hb := hno i hi'
      have hg : (s.map fun b => [AV.i .u8 (b.toNat : Int)])[i]? = some [AV.i .u8 ((s[i]).toNat : Int)] := by simp [hi']
      generalize hc : (s[i].toNat : Int) = c at *
      repeat' first
        | (with_reducible refine t_seq ?_)
        | (with_reducible refine t_skip ?_)
        | (with_reducible refine t_ret ?_)
        | (with_reducible refine t_end ?_)
        | (with_reducible refine t_cond ?_)
        | (with_reducible refine t_region ?_)
        | (with_reducible refine wr_done ?_)
        | ((with_reducible refine t_isDraw ?_); refine t_draw rfl (by kernel_rfl) ?_)
        | (with_reducible refine WD.done _ ?_)
        | (with_reducible refine wdp_done ?_)
        | (with_reducible refine tr_some ?_)
        | ((fail_if_success with_reducible refine t_bl ?_); (with_reducible refine t_block ?_))
        | (with_reducible refine t_inBlock ?_)
        | ((with_reducible refine t_isExit ?_); refine t_exit rfl ?_)
        | simp only [decide_eq_true_eq, decide_eq_false_iff_not, Bool.not_eq_true', Bool.not_eq_false'] at *
        | simp (disch := omega) only [go_sem, Nat.reduceLT, Nat.reduceEqDiff, Nat.reduceAdd, Nat.reduceLeDiff, Nat.reduceMul, Int.reduceLT, Int.reduceLE, Int.reduceAdd, Int.reduceSub, Int.reduceNeg, Int.reduceToNat, Int.reduceBEq, Int.reduceEq, reduceCtorEq, List.take_succ_cons, List.take_zero, List.take_nil, List.drop_succ_cons, List.drop_nil, List.cons_append, List.nil_append, List.set_cons_zero, List.set_cons_succ, ↓reduceIte, *]
        | (with_reducible refine tb_true ?_)
        | (with_reducible refine tb_false ?_)
        | (with_reducible refine tb_split (fun _ => ?_) (fun _ => ?_))
        | (with_reducible refine wg_f (fun _ => ?_) (fun _ => ?_))
        | (with_reducible refine wg_t (fun _ => ?_) (fun _ => ?_))
        | (with_reducible refine wd_f (fun _ => ?_) (fun _ => ?_))
        | (with_reducible refine wd_t (fun _ => ?_) (fun _ => ?_))
      all_goals first | (exfalso; omega) | skip
      all_goals first
        | (have hR := hb (by omega); subst hR; exact ⟨rfl, rfl⟩)
        | refine hrec (i + 1) _ _ ⟨by omega, rfl, by simp [get, h30], by simp [get, h31], by simp [get], fun j hj hji => ?_⟩ (by omega)
      by_cases e : j = i
      · subst e; rw [hc]; omega
      · exact hal j hj (by omega)
    · repeat' first
        | (with_reducible refine t_seq ?_)
        | (with_reducible refine t_skip ?_)
        | (with_reducible refine t_ret ?_)
        | (with_reducible refine t_end ?_)
        | (with_reducible refine t_cond ?_)
        | (with_reducible refine t_region ?_)
        | (with_reducible refine wr_done ?_)
        | ((with_reducible refine t_isDraw ?_); refine t_draw rfl (by kernel_rfl) ?_)
        | (with_reducible refine WD.done _ ?_)
        | (with_reducible refine wdp_done ?_)
        | (with_reducible refine tr_some ?_)
        | ((fail_if_success with_reducible refine t_bl ?_); (with_reducible refine t_block ?_))
        | (with_reducible refine t_inBlock ?_)
        | ((with_reducible refine t_isExit ?_); refine t_exit rfl ?_)
        | simp only [decide_eq_true_eq, decide_eq_false_iff_not, Bool.not_eq_true', Bool.not_eq_false'] at *
        | simp (disch := omega) only [go_sem, Nat.reduceLT, Nat.reduceEqDiff, Nat.reduceAdd, Nat.reduceLeDiff, Nat.reduceMul, Int.reduceLT, Int.reduceLE, Int.reduceAdd, Int.reduceSub, Int.reduceNeg, Int.reduceToNat, Int.reduceBEq, Int.reduceEq, reduceCtorEq, List.take_succ_cons, List.take_zero, List.take_nil, List.drop_succ_cons, List.drop_nil, List.cons_append, List.nil_append, List.set_cons_zero, List.set_cons_succ, ↓reduceIte, *]
        | (with_reducible refine tb_true ?_)
        | (with_reducible refine tb_false ?_)
        | (with_reducible refine tb_split (fun _ => ?_) (fun _ => ?_))
        | (with_reducible refine wg_f (fun _ => ?_) (fun _ => ?_))
        | (with_reducible refine wg_t (fun _ => ?_) (fun _ => ?_))
        | (with_reducible refine wd_f (fun _ => ?_) (fun _ => ?_))
        | (with_reducible refine wd_t (fun _ => ?_) (fun _ => ?_))
      all_goals first | (exfalso; omega) | skip
      all_goals exact ⟨rfl, rfl⟩
  · rintro t h hR
    rw [hR]
    repeat' first
      | (with_reducible refine t_seq ?_)
      | (with_reducible refine t_skip ?_)
      | (with_reducible refine t_ret ?_)
      | (with_reducible refine t_end ?_)
      | (with_reducible refine t_cond ?_)
      | (with_reducible refine t_region ?_)
      | (with_reducible refine wr_done ?_)
      | ((with_reducible refine t_isDraw ?_); refine t_draw rfl (by kernel_rfl) ?_)
      | (with_reducible refine WD.done _ ?_)
      | (with_reducible refine wdp_done ?_)
      | (with_reducible refine tr_some ?_)
      | ((fail_if_success with_reducible refine t_bl ?_); (with_reducible refine t_block ?_))
      | (with_reducible refine t_inBlock ?_)
      | ((with_reducible refine t_isExit ?_); refine t_exit rfl ?_)
      | simp only [decide_eq_true_eq, decide_eq_false_iff_not, Bool.not_eq_true', Bool.not_eq_false'] at *
      | simp (disch := omega) only [go_sem, Nat.reduceLT, Nat.reduceEqDiff, Nat.reduceAdd, Nat.reduceLeDiff, Nat.reduceMul, Int.reduceLT, Int.reduceLE, Int.reduceAdd, Int.reduceSub, Int.reduceNeg, Int.reduceToNat, Int.reduceBEq, Int.reduceEq, reduceCtorEq, List.take_succ_cons, List.take_zero, List.take_nil, List.drop_succ_cons, List.drop_nil, List.cons_append, List.nil_append, List.set_cons_zero, List.set_cons_succ, ↓reduceIte, *]
      | (with_reducible refine tb_true ?_)
      | (with_reducible refine tb_false ?_)
      | (with_reducible refine tb_split (fun _ => ?_) (fun _ => ?_))
      | (with_reducible refine wg_f (fun _ => ?_) (fun _ => ?_))
      | (with_reducible refine wg_t (fun _ => ?_) (fun _ => ?_))
      | (with_reducible refine wd_f (fun _ => ?_) (fun _ => ?_))
      | (with_reducible refine wd_t (fun _ => ?_) (fun _ => ?_))
    exact ⟨rfl, rfl⟩
/-- A name that the catalog does not have. -/
def Unknown (s : List UInt8) : Prop := ∀ r ∈ catT, r.name ≠ s
set_option maxRecDepth 100000 in
theorem textNo {s : List UInt8} (hs : Unknown s) : MeetsP Tryz.prog (glT m) 47 [.s s] (.tup [.s [], .i .i64 5]) := by
  have ht := tableP m
  have h40 : catT.length ≤ 1000 := by rw [show catT.length = 40 by kernel_rfl]; omega
  unfold Unknown at hs
  unfold tableA at ht
  generalize catT = C at *
  refine meetsP (E := (EW m)) 68 [.tmp 2, .tmp 3] (ew m) Tryz.func47 rfl (by decide) rfl rfl (by simp) ?_
  repeat' first
    | ((with_reducible refine wr_isCall ?_); refine wr_P ht rfl ?_)
    | (with_reducible refine t_seq ?_)
    | (with_reducible refine t_skip ?_)
    | (with_reducible refine t_ret ?_)
    | (with_reducible refine t_end ?_)
    | (with_reducible refine t_cond ?_)
    | (with_reducible refine t_region ?_)
    | (with_reducible refine wr_done ?_)
    | ((with_reducible refine t_isDraw ?_); refine t_draw rfl (by kernel_rfl) ?_)
    | (with_reducible refine WD.done _ ?_)
    | (with_reducible refine wdp_done ?_)
    | (with_reducible refine tr_some ?_)
    | ((fail_if_success with_reducible refine t_bl ?_); (with_reducible refine t_block ?_))
    | (with_reducible refine t_inBlock ?_)
    | ((with_reducible refine t_isExit ?_); refine t_exit rfl ?_)
    | simp only [decide_eq_true_eq, decide_eq_false_iff_not, Bool.not_eq_true', Bool.not_eq_false'] at *
    | simp (disch := omega) only [go_sem, Nat.reduceLT, Nat.reduceEqDiff, Nat.reduceAdd, Nat.reduceLeDiff, Nat.reduceMul, Int.reduceLT, Int.reduceLE, Int.reduceAdd, Int.reduceSub, Int.reduceNeg, Int.reduceToNat, Int.reduceBEq, Int.reduceEq, reduceCtorEq, List.take_succ_cons, List.take_zero, List.take_nil, List.drop_succ_cons, List.drop_nil, List.cons_append, List.nil_append, List.set_cons_zero, List.set_cons_succ, ↓reduceIte, *]
    | (with_reducible refine tb_true ?_)
    | (with_reducible refine tb_false ?_)
    | (with_reducible refine tb_split (fun _ => ?_) (fun _ => ?_))
    | (with_reducible refine wg_f (fun _ => ?_) (fun _ => ?_))
    | (with_reducible refine wg_t (fun _ => ?_) (fun _ => ?_))
    | (with_reducible refine wd_f (fun _ => ?_) (fun _ => ?_))
    | (with_reducible refine wd_t (fun _ => ?_) (fun _ => ?_))
  refine t_while (I := fun (i : Nat) t h => i ≤ C.length ∧ (∃ n, h = ⟨[], n⟩) ∧ get t 9 = .isl true 5 (C.map rowA) ∧ get t 10 = .i .i64 C.length ∧ get t 11 = .i .i64 i ∧ get t 0 = .s s) (m := fun i => C.length - i)
    (J := fun t h => True) 0 ⟨by omega, ⟨0, rfl⟩, by simp [get], by simp [get], by simp [get], by simp [get]⟩ ?_ ?_
  · rintro i t h ⟨hi, ⟨n, rfl⟩, h9, h10, h11, h0⟩ hrec hex
    by_cases hi' : i < C.length
    · have hne := hs C[i] (List.getElem_mem hi')
      have hg : (C.map rowA)[i]? = some [.s C[i].name, .i .i64 C[i].epoch, .i .i64 C[i].cycle, .s C[i].leap, .i .u8 C[i].months] := by simp [hi', rowA]
      generalize C[i].name = nm at *
      generalize C[i].epoch = x1 at *
      generalize C[i].cycle = x2 at *
      generalize C[i].leap = x3 at *
      generalize (C[i].months : Int) = x4 at *
      repeat' first
        | (with_reducible refine t_seq ?_)
        | (with_reducible refine t_skip ?_)
        | (with_reducible refine t_ret ?_)
        | (with_reducible refine t_end ?_)
        | (with_reducible refine t_cond ?_)
        | (with_reducible refine t_region ?_)
        | (with_reducible refine wr_done ?_)
        | ((with_reducible refine t_isDraw ?_); refine t_draw rfl (by kernel_rfl) ?_)
        | (with_reducible refine WD.done _ ?_)
        | (with_reducible refine wdp_done ?_)
        | (with_reducible refine tr_some ?_)
        | ((fail_if_success with_reducible refine t_bl ?_); (with_reducible refine t_block ?_))
        | (with_reducible refine t_inBlock ?_)
        | ((with_reducible refine t_isExit ?_); refine t_exit rfl ?_)
        | simp only [decide_eq_true_eq, decide_eq_false_iff_not, Bool.not_eq_true', Bool.not_eq_false'] at *
        | simp (disch := omega) only [go_sem, Nat.reduceLT, Nat.reduceEqDiff, Nat.reduceAdd, Nat.reduceLeDiff, Nat.reduceMul, Int.reduceLT, Int.reduceLE, Int.reduceAdd, Int.reduceSub, Int.reduceNeg, Int.reduceToNat, Int.reduceBEq, Int.reduceEq, reduceCtorEq, List.take_succ_cons, List.take_zero, List.take_nil, List.drop_succ_cons, List.drop_nil, List.cons_append, List.nil_append, List.set_cons_zero, List.set_cons_succ, ↓reduceIte, *]
        | (with_reducible refine tb_true ?_)
        | (with_reducible refine tb_false ?_)
        | (with_reducible refine tb_split (fun _ => ?_) (fun _ => ?_))
        | (with_reducible refine wg_f (fun _ => ?_) (fun _ => ?_))
        | (with_reducible refine wg_t (fun _ => ?_) (fun _ => ?_))
        | (with_reducible refine wd_f (fun _ => ?_) (fun _ => ?_))
        | (with_reducible refine wd_t (fun _ => ?_) (fun _ => ?_))
      all_goals first | (exfalso; omega) | skip
      refine t_pop ?_
      exact hrec (i + 1) _ _ ⟨by omega, ⟨n + 1, rfl⟩, by simp [get, h9], by simp [get, h10], by simp [get], by simp [get, h0]⟩ (by omega)
    · repeat' first
        | (with_reducible refine t_seq ?_)
        | (with_reducible refine t_skip ?_)
        | (with_reducible refine t_ret ?_)
        | (with_reducible refine t_end ?_)
        | (with_reducible refine t_cond ?_)
        | (with_reducible refine t_region ?_)
        | (with_reducible refine wr_done ?_)
        | ((with_reducible refine t_isDraw ?_); refine t_draw rfl (by kernel_rfl) ?_)
        | (with_reducible refine WD.done _ ?_)
        | (with_reducible refine wdp_done ?_)
        | (with_reducible refine tr_some ?_)
        | ((fail_if_success with_reducible refine t_bl ?_); (with_reducible refine t_block ?_))
        | (with_reducible refine t_inBlock ?_)
        | ((with_reducible refine t_isExit ?_); refine t_exit rfl ?_)
        | simp only [decide_eq_true_eq, decide_eq_false_iff_not, Bool.not_eq_true', Bool.not_eq_false'] at *
        | simp (disch := omega) only [go_sem, Nat.reduceLT, Nat.reduceEqDiff, Nat.reduceAdd, Nat.reduceLeDiff, Nat.reduceMul, Int.reduceLT, Int.reduceLE, Int.reduceAdd, Int.reduceSub, Int.reduceNeg, Int.reduceToNat, Int.reduceBEq, Int.reduceEq, reduceCtorEq, List.take_succ_cons, List.take_zero, List.take_nil, List.drop_succ_cons, List.drop_nil, List.cons_append, List.nil_append, List.set_cons_zero, List.set_cons_succ, ↓reduceIte, *]
        | (with_reducible refine tb_true ?_)
        | (with_reducible refine tb_false ?_)
        | (with_reducible refine tb_split (fun _ => ?_) (fun _ => ?_))
        | (with_reducible refine wg_f (fun _ => ?_) (fun _ => ?_))
        | (with_reducible refine wg_t (fun _ => ?_) (fun _ => ?_))
        | (with_reducible refine wd_f (fun _ => ?_) (fun _ => ?_))
        | (with_reducible refine wd_t (fun _ => ?_) (fun _ => ?_))
      all_goals first | (exfalso; omega) | exact ⟨rfl, rfl⟩
  · rintro t h -
    repeat' first
      | (with_reducible refine t_seq ?_)
      | (with_reducible refine t_skip ?_)
      | (with_reducible refine t_ret ?_)
      | (with_reducible refine t_end ?_)
      | (with_reducible refine t_cond ?_)
      | (with_reducible refine t_region ?_)
      | (with_reducible refine wr_done ?_)
      | ((with_reducible refine t_isDraw ?_); refine t_draw rfl (by kernel_rfl) ?_)
      | (with_reducible refine WD.done _ ?_)
      | (with_reducible refine wdp_done ?_)
      | (with_reducible refine tr_some ?_)
      | ((fail_if_success with_reducible refine t_bl ?_); (with_reducible refine t_block ?_))
      | (with_reducible refine t_inBlock ?_)
      | ((with_reducible refine t_isExit ?_); refine t_exit rfl ?_)
      | simp only [decide_eq_true_eq, decide_eq_false_iff_not, Bool.not_eq_true', Bool.not_eq_false'] at *
      | simp (disch := omega) only [go_sem, Nat.reduceLT, Nat.reduceEqDiff, Nat.reduceAdd, Nat.reduceLeDiff, Nat.reduceMul, Int.reduceLT, Int.reduceLE, Int.reduceAdd, Int.reduceSub, Int.reduceNeg, Int.reduceToNat, Int.reduceBEq, Int.reduceEq, reduceCtorEq, List.take_succ_cons, List.take_zero, List.take_nil, List.drop_succ_cons, List.drop_nil, List.cons_append, List.nil_append, List.set_cons_zero, List.set_cons_succ, ↓reduceIte, *]
      | (with_reducible refine tb_true ?_)
      | (with_reducible refine tb_false ?_)
      | (with_reducible refine tb_split (fun _ => ?_) (fun _ => ?_))
      | (with_reducible refine wg_f (fun _ => ?_) (fun _ => ?_))
      | (with_reducible refine wg_t (fun _ => ?_) (fun _ => ?_))
      | (with_reducible refine wd_f (fun _ => ?_) (fun _ => ?_))
      | (with_reducible refine wd_t (fun _ => ?_) (fun _ => ?_))
    exact ⟨rfl, rfl⟩
def cal0 : AV := .agg [.s [], .i .i64 0, .i .i64 0, .nils, .nils]
set_option maxRecDepth 100000 in
theorem calNo {s : List UInt8} (hs : Unknown s) : MeetsP Tryz.prog (glT m) 26 [.s s] (.tup [cal0, .i .i64 5]) := by
  have ht := textNo (m := m) hs
  refine meetsP (E := (EW m)) 31 [.cell 2 62, .tmp 3] (ew m) Tryz.func26 rfl (by decide) rfl rfl (by simp) ?_
  repeat' first
    | ((with_reducible refine wr_isCall ?_); refine wr_P ht rfl ?_)
    | (with_reducible refine t_seq ?_)
    | (with_reducible refine t_skip ?_)
    | (with_reducible refine t_ret ?_)
    | (with_reducible refine t_end ?_)
    | (with_reducible refine t_cond ?_)
    | (with_reducible refine t_region ?_)
    | (with_reducible refine wr_done ?_)
    | ((with_reducible refine t_isDraw ?_); refine t_draw rfl (by kernel_rfl) ?_)
    | (with_reducible refine WD.done _ ?_)
    | (with_reducible refine wdp_done ?_)
    | (with_reducible refine tr_some ?_)
    | ((fail_if_success with_reducible refine t_bl ?_); (with_reducible refine t_block ?_))
    | (with_reducible refine t_inBlock ?_)
    | ((with_reducible refine t_isExit ?_); refine t_exit rfl ?_)
    | simp only [decide_eq_true_eq, decide_eq_false_iff_not, Bool.not_eq_true', Bool.not_eq_false'] at *
    | simp (disch := omega) only [go_sem, Nat.reduceLT, Nat.reduceEqDiff, Nat.reduceAdd, Nat.reduceLeDiff, Nat.reduceMul, Int.reduceLT, Int.reduceLE, Int.reduceAdd, Int.reduceSub, Int.reduceNeg, Int.reduceToNat, Int.reduceBEq, Int.reduceEq, reduceCtorEq, List.take_succ_cons, List.take_zero, List.take_nil, List.drop_succ_cons, List.drop_nil, List.cons_append, List.nil_append, List.set_cons_zero, List.set_cons_succ, ↓reduceIte, *]
    | (with_reducible refine tb_true ?_)
    | (with_reducible refine tb_false ?_)
    | (with_reducible refine tb_split (fun _ => ?_) (fun _ => ?_))
    | (with_reducible refine wg_f (fun _ => ?_) (fun _ => ?_))
    | (with_reducible refine wg_t (fun _ => ?_) (fun _ => ?_))
    | (with_reducible refine wd_f (fun _ => ?_) (fun _ => ?_))
    | (with_reducible refine wd_t (fun _ => ?_) (fun _ => ?_))
  exact ⟨rfl, rfl⟩
set_option maxRecDepth 100000 in
theorem dateNo {s : List UInt8} (hs : Unknown s) (day : Int) : MeetsP Tryz.prog (glT m) 16 [.s s, .i .i64 day] (resD (dateA 0 0 0) 5) := by
  have ht := calNo (m := m) hs
  unfold cal0 at ht
  unfold resD dateA
  refine meetsP (E := (EW m)) 22 [.cell 4 32, .tmp 5] (ew m) Tryz.func16 rfl (by decide) rfl rfl (by simp) ?_
  repeat' first
    | ((with_reducible refine wr_isCall ?_); refine wr_P ht rfl ?_)
    | (with_reducible refine t_seq ?_)
    | (with_reducible refine t_skip ?_)
    | (with_reducible refine t_ret ?_)
    | (with_reducible refine t_end ?_)
    | (with_reducible refine t_cond ?_)
    | (with_reducible refine t_region ?_)
    | (with_reducible refine wr_done ?_)
    | ((with_reducible refine t_isDraw ?_); refine t_draw rfl (by kernel_rfl) ?_)
    | (with_reducible refine WD.done _ ?_)
    | (with_reducible refine wdp_done ?_)
    | (with_reducible refine tr_some ?_)
    | ((fail_if_success with_reducible refine t_bl ?_); (with_reducible refine t_block ?_))
    | (with_reducible refine t_inBlock ?_)
    | ((with_reducible refine t_isExit ?_); refine t_exit rfl ?_)
    | simp only [decide_eq_true_eq, decide_eq_false_iff_not, Bool.not_eq_true', Bool.not_eq_false'] at *
    | simp (disch := omega) only [go_sem, Nat.reduceLT, Nat.reduceEqDiff, Nat.reduceAdd, Nat.reduceLeDiff, Nat.reduceMul, Int.reduceLT, Int.reduceLE, Int.reduceAdd, Int.reduceSub, Int.reduceNeg, Int.reduceToNat, Int.reduceBEq, Int.reduceEq, reduceCtorEq, List.take_succ_cons, List.take_zero, List.take_nil, List.drop_succ_cons, List.drop_nil, List.cons_append, List.nil_append, List.set_cons_zero, List.set_cons_succ, ↓reduceIte, *]
    | (with_reducible refine tb_true ?_)
    | (with_reducible refine tb_false ?_)
    | (with_reducible refine tb_split (fun _ => ?_) (fun _ => ?_))
    | (with_reducible refine wg_f (fun _ => ?_) (fun _ => ?_))
    | (with_reducible refine wg_t (fun _ => ?_) (fun _ => ?_))
    | (with_reducible refine wd_f (fun _ => ?_) (fun _ => ?_))
    | (with_reducible refine wd_t (fun _ => ?_) (fun _ => ?_))
  exact ⟨rfl, rfl⟩
set_option maxRecDepth 100000 in
theorem dayNo {s : List UInt8} (hs : Unknown s) (y mo d : Int) : MeetsP Tryz.prog (glT m) 32 [.s s, dateA y mo d] (resD (.i .i64 0) 5) := by
  have ht := calNo (m := m) hs
  unfold cal0 at ht
  unfold resD dateA
  refine meetsP (E := (EW m)) 21 [.tmp 4, .tmp 5] (ew m) Tryz.func32 rfl (by decide) rfl rfl (by simp) ?_
  repeat' first
    | ((with_reducible refine wr_isCall ?_); refine wr_P ht rfl ?_)
    | (with_reducible refine t_seq ?_)
    | (with_reducible refine t_skip ?_)
    | (with_reducible refine t_ret ?_)
    | (with_reducible refine t_end ?_)
    | (with_reducible refine t_cond ?_)
    | (with_reducible refine t_region ?_)
    | (with_reducible refine wr_done ?_)
    | ((with_reducible refine t_isDraw ?_); refine t_draw rfl (by kernel_rfl) ?_)
    | (with_reducible refine WD.done _ ?_)
    | (with_reducible refine wdp_done ?_)
    | (with_reducible refine tr_some ?_)
    | ((fail_if_success with_reducible refine t_bl ?_); (with_reducible refine t_block ?_))
    | (with_reducible refine t_inBlock ?_)
    | ((with_reducible refine t_isExit ?_); refine t_exit rfl ?_)
    | simp only [decide_eq_true_eq, decide_eq_false_iff_not, Bool.not_eq_true', Bool.not_eq_false'] at *
    | simp (disch := omega) only [go_sem, Nat.reduceLT, Nat.reduceEqDiff, Nat.reduceAdd, Nat.reduceLeDiff, Nat.reduceMul, Int.reduceLT, Int.reduceLE, Int.reduceAdd, Int.reduceSub, Int.reduceNeg, Int.reduceToNat, Int.reduceBEq, Int.reduceEq, reduceCtorEq, List.take_succ_cons, List.take_zero, List.take_nil, List.drop_succ_cons, List.drop_nil, List.cons_append, List.nil_append, List.set_cons_zero, List.set_cons_succ, ↓reduceIte, *]
    | (with_reducible refine tb_true ?_)
    | (with_reducible refine tb_false ?_)
    | (with_reducible refine tb_split (fun _ => ?_) (fun _ => ?_))
    | (with_reducible refine wg_f (fun _ => ?_) (fun _ => ?_))
    | (with_reducible refine wg_t (fun _ => ?_) (fun _ => ?_))
    | (with_reducible refine wd_f (fun _ => ?_) (fun _ => ?_))
    | (with_reducible refine wd_t (fun _ => ?_) (fun _ => ?_))
  exact ⟨rfl, rfl⟩
/-- A name is in the catalog, or not. -/
theorem known_or (s : List UInt8) : Unknown s ∨ ∃ r k, (r, k) ∈ catT.zipIdx ∧ r.name = s := by
  by_cases h : ∃ r ∈ catT, r.name = s
  · obtain ⟨r, hr, e⟩ := h
    obtain ⟨k, hk, rfl⟩ := List.mem_iff_getElem.1 hr
    exact .inr ⟨_, k, List.mem_zipIdx_iff_getElem?.2 (List.getElem?_eq_getElem hk), e⟩
  · exact .inl fun r hr e => h ⟨r, hr, e⟩
section
variable {c : Cal}
set_option maxRecDepth 100000 in
theorem toDay_big {y d : Int} {mo : Nat} (hc : c.Good m) (hy1 : -10000 ≤ y) (hy2 : y ≤ 10000) (hmo : mo < c.ms.length) (hd : c.mlen y (mo + 1) < d) :
    MeetsP Tryz.prog (glT m) 37 [c.A, dateA y (mo + 1) d] (resD (.i .i64 0) 1) := by
  have hb := beginP hc y
  rw [show chkYear y = 0 from if_neg (by omega)] at hb
  have mp := monthP (m := m) c hc.toOk y (mo + 1) (by omega) (by omega) (by omega) (by omega)
  have mb1 := hc.toOk.mlen_bounds y (mo + 1)
  have hl20 := hc.len2
  generalize c.mlen y (mo + 1) = M at *
  obtain ⟨nm, ep, cy, ms, ls⟩ := c
  simp only [Cal.A, resD, dateA] at *
  have k1 : ¬ (mo : Int) + 1 < 1 := by omega
  have k2 : ¬ (ms.length : Int) < mo + 1 := by omega
  have k3 : ¬ d < 1 := by omega
  refine meetsP (E := (EW m)) 68 [.tmp 4, .tmp 5] (ew m) Tryz.func37 rfl (by decide) rfl rfl (by simp) ?_
  repeat' first
    | ((with_reducible refine wr_isCall ?_); refine wr_P hb rfl ?_)
    | ((with_reducible refine t_isDraw ?_); refine t_draw1 mp (by kernel_rfl) ?_)
    | (with_reducible refine t_seq ?_)
    | (with_reducible refine t_skip ?_)
    | (with_reducible refine t_ret ?_)
    | (with_reducible refine t_end ?_)
    | (with_reducible refine t_cond ?_)
    | (with_reducible refine t_region ?_)
    | (with_reducible refine wr_done ?_)
    | ((with_reducible refine t_isDraw ?_); refine t_draw rfl (by kernel_rfl) ?_)
    | (with_reducible refine WD.done _ ?_)
    | (with_reducible refine wdp_done ?_)
    | (with_reducible refine tr_some ?_)
    | ((fail_if_success with_reducible refine t_bl ?_); (with_reducible refine t_block ?_))
    | (with_reducible refine t_inBlock ?_)
    | ((with_reducible refine t_isExit ?_); refine t_exit rfl ?_)
    | simp only [decide_eq_true_eq, decide_eq_false_iff_not, Bool.not_eq_true', Bool.not_eq_false'] at *
    | simp (disch := omega) only [go_sem, Nat.reduceLT, Nat.reduceEqDiff, Nat.reduceAdd, Nat.reduceLeDiff, Nat.reduceMul, Int.reduceLT, Int.reduceLE, Int.reduceAdd, Int.reduceSub, Int.reduceNeg, Int.reduceToNat, Int.reduceBEq, Int.reduceEq, reduceCtorEq, List.take_succ_cons, List.take_zero, List.take_nil, List.drop_succ_cons, List.drop_nil, List.cons_append, List.nil_append, List.set_cons_zero, List.set_cons_succ, ↓reduceIte, *]
    | (with_reducible refine tb_true ?_)
    | (with_reducible refine tb_false ?_)
    | (with_reducible refine tb_split (fun _ => ?_) (fun _ => ?_))
    | (with_reducible refine wg_f (fun _ => ?_) (fun _ => ?_))
    | (with_reducible refine wg_t (fun _ => ?_) (fun _ => ?_))
    | (with_reducible refine wd_f (fun _ => ?_) (fun _ => ?_))
    | (with_reducible refine wd_t (fun _ => ?_) (fun _ => ?_))
  exact ⟨rfl, rfl⟩
set_option maxRecDepth 100000 in
theorem toDay_year {y mo d : Int} (hc : c.Good m) (hy : chkYear y = 3) : MeetsP Tryz.prog (glT m) 37 [c.A, dateA y mo d] (resD (.i .i64 0) 3) := by
  have hb := beginP hc y
  rw [hy] at hb
  obtain ⟨nm, ep, cy, ms, ls⟩ := c
  simp only [Cal.A, resD, dateA] at *
  refine meetsP (E := (EW m)) 68 [.tmp 4, .tmp 5] (ew m) Tryz.func37 rfl (by decide) rfl rfl (by simp) ?_
  repeat' first
    | ((with_reducible refine wr_isCall ?_); refine wr_P hb rfl ?_)
    | (with_reducible refine t_seq ?_)
    | (with_reducible refine t_skip ?_)
    | (with_reducible refine t_ret ?_)
    | (with_reducible refine t_end ?_)
    | (with_reducible refine t_cond ?_)
    | (with_reducible refine t_region ?_)
    | (with_reducible refine wr_done ?_)
    | ((with_reducible refine t_isDraw ?_); refine t_draw rfl (by kernel_rfl) ?_)
    | (with_reducible refine WD.done _ ?_)
    | (with_reducible refine wdp_done ?_)
    | (with_reducible refine tr_some ?_)
    | ((fail_if_success with_reducible refine t_bl ?_); (with_reducible refine t_block ?_))
    | (with_reducible refine t_inBlock ?_)
    | ((with_reducible refine t_isExit ?_); refine t_exit rfl ?_)
    | simp only [decide_eq_true_eq, decide_eq_false_iff_not, Bool.not_eq_true', Bool.not_eq_false'] at *
    | simp (disch := omega) only [go_sem, Nat.reduceLT, Nat.reduceEqDiff, Nat.reduceAdd, Nat.reduceLeDiff, Nat.reduceMul, Int.reduceLT, Int.reduceLE, Int.reduceAdd, Int.reduceSub, Int.reduceNeg, Int.reduceToNat, Int.reduceBEq, Int.reduceEq, reduceCtorEq, List.take_succ_cons, List.take_zero, List.take_nil, List.drop_succ_cons, List.drop_nil, List.cons_append, List.nil_append, List.set_cons_zero, List.set_cons_succ, ↓reduceIte, *]
    | (with_reducible refine tb_true ?_)
    | (with_reducible refine tb_false ?_)
    | (with_reducible refine tb_split (fun _ => ?_) (fun _ => ?_))
    | (with_reducible refine wg_f (fun _ => ?_) (fun _ => ?_))
    | (with_reducible refine wg_t (fun _ => ?_) (fun _ => ?_))
    | (with_reducible refine wd_f (fun _ => ?_) (fun _ => ?_))
    | (with_reducible refine wd_t (fun _ => ?_) (fun _ => ?_))
  exact ⟨rfl, rfl⟩
set_option maxRecDepth 100000 in
theorem toDay_mon {y mo d : Int} (hc : c.Good m) (hy : chkYear y = 0) (h : mo < 1 ∨ (c.ms.length : Int) < mo ∨ d < 1) : MeetsP Tryz.prog (glT m) 37 [c.A, dateA y mo d] (resD (.i .i64 0) 1) := by
  have hb := beginP hc y
  rw [hy] at hb
  have hl20 := hc.len2
  obtain ⟨nm, ep, cy, ms, ls⟩ := c
  simp only [Cal.A, resD, dateA] at *
  by_cases k1 : mo < 1
  · refine meetsP (E := (EW m)) 68 [.tmp 4, .tmp 5] (ew m) Tryz.func37 rfl (by decide) rfl rfl (by simp) ?_
    repeat' first
      | ((with_reducible refine wr_isCall ?_); refine wr_P hb rfl ?_)
      | (with_reducible refine t_seq ?_)
      | (with_reducible refine t_skip ?_)
      | (with_reducible refine t_ret ?_)
      | (with_reducible refine t_end ?_)
      | (with_reducible refine t_cond ?_)
      | (with_reducible refine t_region ?_)
      | (with_reducible refine wr_done ?_)
      | ((with_reducible refine t_isDraw ?_); refine t_draw rfl (by kernel_rfl) ?_)
      | (with_reducible refine WD.done _ ?_)
      | (with_reducible refine wdp_done ?_)
      | (with_reducible refine tr_some ?_)
      | ((fail_if_success with_reducible refine t_bl ?_); (with_reducible refine t_block ?_))
      | (with_reducible refine t_inBlock ?_)
      | ((with_reducible refine t_isExit ?_); refine t_exit rfl ?_)
      | simp only [decide_eq_true_eq, decide_eq_false_iff_not, Bool.not_eq_true', Bool.not_eq_false'] at *
      | simp (disch := omega) only [go_sem, Nat.reduceLT, Nat.reduceEqDiff, Nat.reduceAdd, Nat.reduceLeDiff, Nat.reduceMul, Int.reduceLT, Int.reduceLE, Int.reduceAdd, Int.reduceSub, Int.reduceNeg, Int.reduceToNat, Int.reduceBEq, Int.reduceEq, reduceCtorEq, List.take_succ_cons, List.take_zero, List.take_nil, List.drop_succ_cons, List.drop_nil, List.cons_append, List.nil_append, List.set_cons_zero, List.set_cons_succ, ↓reduceIte, *]
      | (with_reducible refine tb_true ?_)
      | (with_reducible refine tb_false ?_)
      | (with_reducible refine tb_split (fun _ => ?_) (fun _ => ?_))
      | (with_reducible refine wg_f (fun _ => ?_) (fun _ => ?_))
      | (with_reducible refine wg_t (fun _ => ?_) (fun _ => ?_))
      | (with_reducible refine wd_f (fun _ => ?_) (fun _ => ?_))
      | (with_reducible refine wd_t (fun _ => ?_) (fun _ => ?_))
    exact ⟨rfl, rfl⟩
  by_cases k2 : (ms.length : Int) < mo
  · refine meetsP (E := (EW m)) 68 [.tmp 4, .tmp 5] (ew m) Tryz.func37 rfl (by decide) rfl rfl (by simp) ?_
    repeat' first
      | ((with_reducible refine wr_isCall ?_); refine wr_P hb rfl ?_)
      | (with_reducible refine t_seq ?_)
      | (with_reducible refine t_skip ?_)
      | (with_reducible refine t_ret ?_)
      | (with_reducible refine t_end ?_)
      | (with_reducible refine t_cond ?_)
      | (with_reducible refine t_region ?_)
      | (with_reducible refine wr_done ?_)
      | ((with_reducible refine t_isDraw ?_); refine t_draw rfl (by kernel_rfl) ?_)
      | (with_reducible refine WD.done _ ?_)
      | (with_reducible refine wdp_done ?_)
      | (with_reducible refine tr_some ?_)
      | ((fail_if_success with_reducible refine t_bl ?_); (with_reducible refine t_block ?_))
      | (with_reducible refine t_inBlock ?_)
      | ((with_reducible refine t_isExit ?_); refine t_exit rfl ?_)
      | simp only [decide_eq_true_eq, decide_eq_false_iff_not, Bool.not_eq_true', Bool.not_eq_false'] at *
      | simp (disch := omega) only [go_sem, Nat.reduceLT, Nat.reduceEqDiff, Nat.reduceAdd, Nat.reduceLeDiff, Nat.reduceMul, Int.reduceLT, Int.reduceLE, Int.reduceAdd, Int.reduceSub, Int.reduceNeg, Int.reduceToNat, Int.reduceBEq, Int.reduceEq, reduceCtorEq, List.take_succ_cons, List.take_zero, List.take_nil, List.drop_succ_cons, List.drop_nil, List.cons_append, List.nil_append, List.set_cons_zero, List.set_cons_succ, ↓reduceIte, *]
      | (with_reducible refine tb_true ?_)
      | (with_reducible refine tb_false ?_)
      | (with_reducible refine tb_split (fun _ => ?_) (fun _ => ?_))
      | (with_reducible refine wg_f (fun _ => ?_) (fun _ => ?_))
      | (with_reducible refine wg_t (fun _ => ?_) (fun _ => ?_))
      | (with_reducible refine wd_f (fun _ => ?_) (fun _ => ?_))
      | (with_reducible refine wd_t (fun _ => ?_) (fun _ => ?_))
    exact ⟨rfl, rfl⟩
  have k3 : d < 1 := by omega
  refine meetsP (E := (EW m)) 68 [.tmp 4, .tmp 5] (ew m) Tryz.func37 rfl (by decide) rfl rfl (by simp) ?_
  repeat' first
    | ((with_reducible refine wr_isCall ?_); refine wr_P hb rfl ?_)
    | (with_reducible refine t_seq ?_)
    | (with_reducible refine t_skip ?_)
    | (with_reducible refine t_ret ?_)
    | (with_reducible refine t_end ?_)
    | (with_reducible refine t_cond ?_)
    | (with_reducible refine t_region ?_)
    | (with_reducible refine wr_done ?_)
    | ((with_reducible refine t_isDraw ?_); refine t_draw rfl (by kernel_rfl) ?_)
    | (with_reducible refine WD.done _ ?_)
    | (with_reducible refine wdp_done ?_)
    | (with_reducible refine tr_some ?_)
    | ((fail_if_success with_reducible refine t_bl ?_); (with_reducible refine t_block ?_))
    | (with_reducible refine t_inBlock ?_)
    | ((with_reducible refine t_isExit ?_); refine t_exit rfl ?_)
    | simp only [decide_eq_true_eq, decide_eq_false_iff_not, Bool.not_eq_true', Bool.not_eq_false'] at *
    | simp (disch := omega) only [go_sem, Nat.reduceLT, Nat.reduceEqDiff, Nat.reduceAdd, Nat.reduceLeDiff, Nat.reduceMul, Int.reduceLT, Int.reduceLE, Int.reduceAdd, Int.reduceSub, Int.reduceNeg, Int.reduceToNat, Int.reduceBEq, Int.reduceEq, reduceCtorEq, List.take_succ_cons, List.take_zero, List.take_nil, List.drop_succ_cons, List.drop_nil, List.cons_append, List.nil_append, List.set_cons_zero, List.set_cons_succ, ↓reduceIte, *]
    | (with_reducible refine tb_true ?_)
    | (with_reducible refine tb_false ?_)
    | (with_reducible refine tb_split (fun _ => ?_) (fun _ => ?_))
    | (with_reducible refine wg_f (fun _ => ?_) (fun _ => ?_))
    | (with_reducible refine wg_t (fun _ => ?_) (fun _ => ?_))
    | (with_reducible refine wd_f (fun _ => ?_) (fun _ => ?_))
    | (with_reducible refine wd_t (fun _ => ?_) (fun _ => ?_))
  exact ⟨rfl, rfl⟩
/-- What ToDay answers, whatever the date is. -/
theorem toDay_any (hc : c.Good m) (y mo d : Int) : ∃ n e, MeetsP Tryz.prog (glT m) 37 [c.A, dateA y mo d] (resD (.i .i64 n) e) ∧ (e = 0 ∨ e = 1 ∨ e = 3) ∧ (e = 0 → ∃ k : Nat, mo = k + 1 ∧ c.At n y k ∧ n - c.first y + 1 - c.bef y k = d) := by
  by_cases hy : y < -10000 ∨ 10000 < y
  · exact ⟨_, _, toDay_year hc (if_pos hy), by omega, fun e => by cases e⟩
  by_cases hm : mo < 1 ∨ (c.ms.length : Int) < mo ∨ d < 1
  · exact ⟨_, _, toDay_mon hc (if_neg hy) hm, by omega, fun e => by cases e⟩
  obtain ⟨k, rfl⟩ : ∃ k : Nat, mo = k + 1 := ⟨(mo - 1).toNat, by omega⟩
  by_cases hd : c.mlen y (k + 1) < d
  · exact ⟨_, _, toDay_big hc (by omega) (by omega) (by omega) hd, by omega, fun e => by cases e⟩
  have h := toDayP (m := m) hc (y := y) (d := d) (mo := k) (by omega) (by omega) (by omega) (by omega) (by omega)
  split at h
  · rename_i hch
    have b1 := hc.toOk.bef_bounds y k
    have b2 := hc.toOk.bef_mono y (show k + 1 ≤ c.ms.length by omega)
    have b3 := c.bef_all y
    have b4 := hc.toOk.first_succ y
    have b5 : c.bef y (k + 1) = c.bef y k + c.mlen y (k + 1) := rfl
    exact ⟨_, _, h, by omega, fun _ => ⟨k, rfl, ⟨hch, by omega, by omega, by omega, by omega, by omega, by omega, by omega⟩, by omega⟩⟩
  · exact ⟨_, _, h, by omega, fun e => by cases e⟩
end
end Go.Proofs.YtkokongbnemkhaaGreatDoorA
/- The calendar of a name; tools for loops that look for the first fault. -/
set_option linter.unusedVariables false
set_option linter.unusedSimpArgs false
namespace Go.Proofs.YtkokongbnemkhaaGreatDoorA
open Go Go.RowKit Go.Proofs.YtkokongbnemkhaaGreatDoorFx Go.Proofs
variable {m : Int}
open Classical in
/-- The calendar of a name that the catalog has. -/
noncomputable def calN (s : List UInt8) : Cal := if h : ∃ r k, (r, k) ∈ catT.zipIdx ∧ r.name = s then calOf h.choose_spec.choose h.choose else ⟨[], 0, 0, [], []⟩
theorem calN_spec {s : List UInt8} (h : ¬ Unknown s) : ∃ r k, (r, k) ∈ catT.zipIdx ∧ r.name = s ∧ calN s = calOf k r := by
  have h' : ∃ r k, (r, k) ∈ catT.zipIdx ∧ r.name = s := (known_or s).resolve_left h
  refine ⟨h'.choose, h'.choose_spec.choose, h'.choose_spec.choose_spec.1, h'.choose_spec.choose_spec.2, ?_⟩
  unfold calN
  rw [dif_pos h']
theorem calN_good {s : List UInt8} (h : ¬ Unknown s) : (calN s).Good m := by
  obtain ⟨r, k, hm, _, e⟩ := calN_spec h
  rw [e]; exact calGood hm
theorem calN_pos {s : List UInt8} (h : ¬ Unknown s) : ∀ y, 0 < (calN s).ylen y := by
  obtain ⟨r, k, hm, _, e⟩ := calN_spec h
  rw [e]; exact ylen_pos hm
theorem calN_far {s : List UInt8} (h : ¬ Unknown s) : 1400000 ≤ (calN s).first 10001 ∧ (calN s).first (-10000) ≤ -1500000 := by
  obtain ⟨r, k, hm, _, e⟩ := calN_spec h
  rw [e]; exact first_far hm
theorem calN_P {s : List UInt8} (h : ¬ Unknown s) : MeetsP Tryz.prog (glT m) 26 [.s s] (.tup [(calN s).A, .i .i64 0]) := by
  obtain ⟨r, k, hm, rfl, e⟩ := calN_spec h
  rw [e]; exact calP hm
theorem calN_text {s : List UInt8} (h : ¬ Unknown s) : ∃ x, MeetsP Tryz.prog (glT m) 47 [.s s] (.tup [.s x, .i .i64 0]) := by
  obtain ⟨r, k, hm, rfl, e⟩ := calN_spec h
  exact ⟨_, textP (row_mem hm)⟩
theorem calN_date {s : List UInt8} (h : ¬ Unknown s) {day y mo d e : Int} (hd : MeetsP Tryz.prog (glT m) 27 [(calN s).A, .i .i64 day] (resD (dateA y mo d) e)) : MeetsP Tryz.prog (glT m) 16 [.s s, .i .i64 day] (resD (dateA y mo d) e) := by
  obtain ⟨r, k, hm, rfl, e⟩ := calN_spec h
  rw [e] at hd; exact dateP hm hd
theorem calN_day {s : List UInt8} (h : ¬ Unknown s) {y mo d n e : Int} (hd : MeetsP Tryz.prog (glT m) 37 [(calN s).A, dateA y mo d] (resD (.i .i64 n) e)) : MeetsP Tryz.prog (glT m) 32 [.s s, dateA y mo d] (resD (.i .i64 n) e) := by
  obtain ⟨r, k, hm, rfl, e⟩ := calN_spec h
  rw [e] at hd; exact dayP hm hd
/-- The name that a number picks is known. -/
theorem rowAt_known (a : Int) : ¬ Unknown (rowAt a).name := fun h => h (rowAt a) (row_mem (pick_mem a)) rfl
/-- The first fault from a place on. -/
def fstE (f : Nat → Int) : Nat → Nat → Int
  | _, 0 => 0
  | i, k + 1 => if f i ≠ 0 then f i else fstE f (i + 1) k
theorem fstE_zero {f : Nat → Int} : ∀ {k i : Nat}, fstE f i k = 0 ↔ ∀ j, i ≤ j → j < i + k → f j = 0
  | 0, i => ⟨fun _ j h1 h2 => by omega, fun _ => rfl⟩
  | k + 1, i => by
    unfold fstE
    constructor
    · intro h j h1 h2
      split at h
      · rename_i q; exact absurd h q
      · rename_i q
        rcases Nat.lt_or_ge i j with e | e
        · exact fstE_zero.1 h j (by omega) (by omega)
        · have : j = i := by omega
          subst this; simpa using q
    · intro h
      rw [if_neg (by simp [h i (Nat.le_refl _) (by omega)])]
      exact fstE_zero.2 fun j h1 h2 => h j (by omega) (by omega)
/-- What ToDay answers: the day of the date, if there is one. -/
theorem toDay_is {c : Cal} (hc : c.Good m) (y mo d : Int) : ∃ n e, MeetsP Tryz.prog (glT m) 37 [c.A, dateA y mo d] (resD (.i .i64 n) e) ∧ (e = 0 ∨ e = 1 ∨ e = 3) ∧ (e = 0 → ∃ k : Nat, mo = k + 1 ∧ c.At n y k ∧ n - c.first y + 1 - c.bef y k = d) ∧
    (∀ x (k : Nat), mo = k + 1 → c.At x y k → x - c.first y + 1 - c.bef y k = d → e = 0 ∧ n = x) := by
  by_cases hex : ∃ x, ∃ k : Nat, mo = k + 1 ∧ c.At x y k ∧ x - c.first y + 1 - c.bef y k = d
  · obtain ⟨x, k, rfl, hat, rfl⟩ := hex
    refine ⟨x, 0, hat.back hc, .inl rfl, fun _ => ⟨k, rfl, hat, rfl⟩, fun x' k' hk hat' hd => ⟨rfl, ?_⟩⟩
    have : k' = k := by omega
    subst this; omega
  · obtain ⟨n, e, h1, h2, h3⟩ := toDay_any hc y mo d
    exact ⟨n, e, h1, h2, h3, fun x k hk hat hd => absurd ⟨x, k, hk, hat, hd⟩ hex⟩
/-- The whole numbers of a list as rows. -/
def lstA (l : List Int) : AV := if l = [] then .nils else .isl true 1 (intR l)
end Go.Proofs.YtkokongbnemkhaaGreatDoorA
/- Calendars that were changed: plain laws. -/
set_option linter.unusedVariables false
set_option linter.unusedSimpArgs false
namespace Go.Proofs.YtkokongbnemkhaaGreatDoorA
open Go Go.RowKit Go.Proofs
variable {m : Int}
structure Ref where
  nm : List UInt8
  ps : List (Int × List UInt8)
def Ref.rows (r : Ref) : List (List AV) := r.ps.map fun p => [.i .i64 p.1, .s p.2]
def Ref.A (r : Ref) : AV := .agg [.s r.nm, .isl false 2 r.rows]
def Ref.f (r : Ref) (i : Nat) : Int := ((r.ps[i]?).getD (0, [])).1
def Ref.c (r : Ref) (i : Nat) : List UInt8 := ((r.ps[i]?).getD (0, [])).2
theorem Ref.row {r : Ref} {i : Nat} (h : i < r.ps.length) : r.rows[i]? = some [.i .i64 (r.f i), .s (r.c i)] := by
  simp [Ref.rows, Ref.f, Ref.c, h]
theorem Ref.rows_len (r : Ref) : r.rows.length = r.ps.length := by simp [Ref.rows]
open Classical in
/-- What is wrong with a part. -/
noncomputable def Ref.flt (r : Ref) (i : Nat) : Int := if chkDay (r.f i) ≠ 0 then 3 else if 0 < i ∧ r.f i ≤ r.f (i - 1) then 9 else if Unknown (r.c i) then 5 else 0
noncomputable def Ref.chk (r : Ref) : Int := if nameB r.nm = false then 5 else if r.ps.length < 1 ∨ 10 < r.ps.length then 2 else if r.f 0 ≠ -4000000 then 8 else fstE r.flt 0 r.ps.length
structure Ref.Ok (r : Ref) : Prop where
  nm : nameB r.nm = true
  l1 : 1 ≤ r.ps.length
  l2 : r.ps.length ≤ 10
  fst : r.f 0 = -4000000
  far : ∀ i, i < r.ps.length → chkDay (r.f i) = 0
  inc : ∀ i, i + 1 < r.ps.length → r.f i < r.f (i + 1)
  known : ∀ i, i < r.ps.length → ¬ Unknown (r.c i)
theorem Ref.chk_ok {r : Ref} : r.chk = 0 ↔ r.Ok := by
  unfold Ref.chk
  constructor
  · intro h
    split at h
    · cases h
    rename_i h1
    split at h
    · cases h
    rename_i h2
    split at h
    · cases h
    rename_i h3
    have h4 := fstE_zero.1 h
    have hf : ∀ i, i < r.ps.length → chkDay (r.f i) = 0 ∧ ¬ (0 < i ∧ r.f i ≤ r.f (i - 1)) ∧ ¬ Unknown (r.c i) := fun i hi => by
      have := h4 i (by omega) (by omega)
      unfold Ref.flt at this
      split at this
      · cases this
      rename_i q1
      split at this
      · cases this
      rename_i q2
      split at this
      · cases this
      rename_i q3
      exact ⟨by simpa using q1, q2, q3⟩
    exact ⟨by simpa using h1, by omega, by omega, by simpa using h3, fun i hi => (hf i hi).1, fun i hi => by
      have := (hf (i + 1) hi).2.1
      simp only [Nat.add_sub_cancel] at this
      omega, fun i hi => (hf i hi).2.2⟩
  · intro h
    rw [if_neg (by simp [h.nm]), if_neg (by have := h.l1; have := h.l2; omega), if_neg (by simp [h.fst])]
    refine fstE_zero.2 fun j _ hj => ?_
    unfold Ref.flt
    rw [if_neg (by simp [h.far j (by omega)]), if_neg, if_neg (h.known j (by omega))]
    rintro ⟨q1, q2⟩
    have := h.inc (j - 1) (by omega)
    rw [show j - 1 + 1 = j by omega] at this
    omega
/-- A day lies in a part. -/
structure Ref.In (r : Ref) (day : Int) (k : Nat) : Prop where
  lt : k < r.ps.length
  le : r.f k ≤ day
  nx : k + 1 < r.ps.length → day < r.f (k + 1)
theorem Ref.Ok.mono {r : Ref} (h : r.Ok) {i : Nat} : ∀ {j : Nat}, i < j → j < r.ps.length → r.f i < r.f j := by
  intro j
  induction j with
  | zero => intro h1; omega
  | succ j ih =>
    intro h1 h2
    have a := h.inc j h2
    rcases Nat.lt_or_ge i j with q | q
    · have := ih q (by omega); omega
    · have : i = j := by omega
      subst this; exact a
/-- A day that is not ahead of the first part lies in a part. -/
theorem Ref.part0 {r : Ref} {day : Int} (l1 : 1 ≤ r.ps.length) (h0 : r.f 0 ≤ day) : ∃ k, r.In day k := by
  have key : ∀ n, 1 ≤ n → n ≤ r.ps.length → ∃ k, k < n ∧ r.f k ≤ day ∧ (k + 1 < n → day < r.f (k + 1)) := by
    intro n
    induction n with
    | zero => intro h1; omega
    | succ n ih =>
      intro h1 h2
      rcases Nat.lt_or_ge n 1 with q | q
      · have : n = 0 := by omega
        subst this
        exact ⟨0, by omega, h0, fun h => by omega⟩
      · by_cases hn : r.f n ≤ day
        · exact ⟨n, by omega, hn, fun h => by omega⟩
        · obtain ⟨k, a, b, c⟩ := ih q (by omega)
          refine ⟨k, by omega, b, fun h3 => ?_⟩
          rcases Nat.lt_or_ge (k + 1) n with q2 | q2
          · exact c q2
          · have : k + 1 = n := by omega
            rw [this]; omega
  obtain ⟨k, a, b, c⟩ := key r.ps.length l1 (Nat.le_refl _)
  exact ⟨k, a, b, c⟩
theorem Ref.Ok.part {r : Ref} (h : r.Ok) {day : Int} (hd : chkDay day = 0) : ∃ k, r.In day k :=
  Ref.part0 h.l1 (by rw [h.fst]; unfold chkDay at hd; split at hd <;> omega)
theorem Ref.In.uniq {r : Ref} (h : r.Ok) {day : Int} {k j : Nat} (a : r.In day k) (b : r.In day j) : k = j := by
  rcases Nat.lt_trichotomy k j with q | q | q
  · exfalso
    have h1 := a.nx (by have := b.lt; omega)
    have h2 := b.le
    rcases Nat.lt_or_ge (k + 1) j with q2 | q2
    · have := h.mono q2 b.lt; omega
    · have : k + 1 = j := by omega
      rw [this] at h1; omega
  · exact q
  · exfalso
    have h1 := b.nx (by have := a.lt; omega)
    have h2 := a.le
    rcases Nat.lt_or_ge (j + 1) k with q2 | q2
    · have := h.mono q2 a.lt; omega
    · have : j + 1 = k := by omega
      rw [this] at h1; omega
open Classical in
/-- The days of a date in a part. -/
noncomputable def Ref.pick (r : Ref) (n e : Nat → Int) (i : Nat) : List Int := if e i = 0 ∧ r.f i ≤ n i ∧ (i + 1 = r.ps.length ∨ n i < r.f (i + 1)) then [n i] else []
noncomputable def Ref.days (r : Ref) (n e : Nat → Int) : Nat → List Int
  | 0 => []
  | i + 1 => r.days n e i ++ r.pick n e i
theorem Ref.days_len (r : Ref) (n e : Nat → Int) : ∀ i, (r.days n e i).length ≤ i
  | 0 => Nat.le_refl _
  | i + 1 => by
    have := Ref.days_len r n e i
    simp only [Ref.days, List.length_append]
    unfold Ref.pick
    split <;> simp <;> omega
theorem Ref.mem_days {r : Ref} {n e : Nat → Int} {x : Int} : ∀ {i : Nat}, x ∈ r.days n e i ↔ ∃ j, j < i ∧ e j = 0 ∧ r.f j ≤ n j ∧ (j + 1 = r.ps.length ∨ n j < r.f (j + 1)) ∧ x = n j
  | 0 => ⟨fun h => by simp [Ref.days] at h, fun ⟨j, h, _⟩ => by omega⟩
  | i + 1 => by
    simp only [Ref.days, List.mem_append]
    rw [Ref.mem_days (i := i)]
    constructor
    · rintro (⟨j, h, r⟩ | h)
      · exact ⟨j, by omega, r⟩
      · unfold Ref.pick at h
        split at h
        · rename_i q
          exact ⟨i, by omega, q.1, q.2.1, q.2.2, by simpa using h⟩
        · simp at h
    · rintro ⟨j, h, h1, h2, h3, rfl⟩
      rcases Nat.lt_or_ge j i with q | q
      · exact .inl ⟨j, q, h1, h2, h3, rfl⟩
      · have : j = i := by omega
        subst this
        right
        unfold Ref.pick
        rw [if_pos ⟨h1, h2, h3⟩]; simp
theorem Ref.Ok.days_sorted {r : Ref} (h : r.Ok) (n e : Nat → Int) : ∀ i, i ≤ r.ps.length → (r.days n e i).Pairwise (· < ·) ∧ ∀ x ∈ r.days n e i, i < r.ps.length → x < r.f i
  | 0, _ => ⟨by simp [Ref.days], by simp [Ref.days]⟩
  | i + 1, hi => by
    obtain ⟨h1, h2⟩ := h.days_sorted n e i (by omega)
    have hp : ∀ y ∈ r.pick n e i, r.f i ≤ y ∧ (i + 1 < r.ps.length → y < r.f (i + 1)) := fun y hy => by
      unfold Ref.pick at hy
      split at hy
      · rename_i q
        simp only [List.mem_singleton] at hy
        subst hy
        exact ⟨q.2.1, fun h => by rcases q.2.2 with q | q <;> omega⟩
      · simp at hy
    refine ⟨?_, fun x hx hlt => ?_⟩
    · simp only [Ref.days]
      rw [List.pairwise_append]
      refine ⟨h1, by unfold Ref.pick; split <;> simp, fun a ha b hb => ?_⟩
      have := h2 a ha (by omega)
      have := (hp b hb).1
      omega
    · simp only [Ref.days, List.mem_append] at hx
      rcases hx with hx | hx
      · have := h2 x hx (by omega)
        have := h.inc i hlt
        omega
      · exact (hp x hx).2 hlt
/-- What the calendars of the parts say of a date; the part k has a day with this date. -/
theorem Ref.Ok.ask {r : Ref} (h : r.Ok) (y mo d : Int) : ∃ n e : Nat → Int, ∀ i, i < r.ps.length → MeetsP Tryz.prog (glT m) 32 [.s (r.c i), dateA y mo d] (resD (.i .i64 (n i)) (e i)) ∧
    (e i = 0 → ∃ k : Nat, mo = k + 1 ∧ (calN (r.c i)).At (n i) y k ∧ n i - (calN (r.c i)).first y + 1 - (calN (r.c i)).bef y k = d) ∧
    (∀ x (k : Nat), mo = k + 1 → (calN (r.c i)).At x y k → x - (calN (r.c i)).first y + 1 - (calN (r.c i)).bef y k = d → e i = 0 ∧ n i = x) := by
  have key : ∀ i : Nat, ∃ p : Int × Int, i < r.ps.length → MeetsP Tryz.prog (glT m) 32 [.s (r.c i), dateA y mo d] (resD (.i .i64 p.1) p.2) ∧
      (p.2 = 0 → ∃ k : Nat, mo = k + 1 ∧ (calN (r.c i)).At p.1 y k ∧ p.1 - (calN (r.c i)).first y + 1 - (calN (r.c i)).bef y k = d) ∧
      (∀ x (k : Nat), mo = k + 1 → (calN (r.c i)).At x y k → x - (calN (r.c i)).first y + 1 - (calN (r.c i)).bef y k = d → p.2 = 0 ∧ p.1 = x) := fun i => by
    by_cases hi : i < r.ps.length
    · obtain ⟨n, e, h1, _, h2, h3⟩ := toDay_is (m := m) (calN_good (h.known i hi)) y mo d
      exact ⟨(n, e), fun _ => ⟨calN_day (h.known i hi) h1, h2, h3⟩⟩
    · exact ⟨(0, 0), fun q => absurd q hi⟩
  obtain ⟨p, hp⟩ := Classical.axiomOfChoice key
  exact ⟨fun i => (p i).1, fun i => (p i).2, hp⟩
end Go.Proofs.YtkokongbnemkhaaGreatDoorA
/- Reigns: plain laws. -/
set_option linter.unusedVariables false
set_option linter.unusedSimpArgs false
namespace Go.Proofs.YtkokongbnemkhaaGreatDoorA
open Go Go.RowKit Go.Proofs
variable {m : Int}
/-- Reigns: names and first days. -/
abbrev Reigns := List (List UInt8 × Int)
def rgRows (l : Reigns) : List (List AV) := l.map fun p => [.s p.1, .i .i64 p.2]
def rgA (l : Reigns) : AV := .isl false 2 (rgRows l)
def rgN (l : Reigns) (i : Nat) : List UInt8 := ((l[i]?).getD ([], 0)).1
/-- The first days, as parts. -/
def rgR (l : Reigns) : Ref := ⟨[], l.map fun p => (p.2, p.1)⟩
theorem rgR_len (l : Reigns) : (rgR l).ps.length = l.length := by simp [rgR]
theorem rgRows_len (l : Reigns) : (rgRows l).length = l.length := by simp [rgRows]
theorem rg_row {l : Reigns} {i : Nat} (h : i < l.length) : (rgRows l)[i]? = some [.s (rgN l i), .i .i64 ((rgR l).f i)] := by
  simp [rgRows, rgN, rgR, Ref.f, h]
noncomputable def rgFlt (l : Reigns) (i : Nat) : Int := if nameB (rgN l i) = false then 5 else if chkDay ((rgR l).f i) ≠ 0 then 3 else if 0 < i ∧ (rgR l).f i ≤ (rgR l).f (i - 1) then 9 else 0
noncomputable def rgChk (l : Reigns) : Int := if l.length < 1 ∨ 30 < l.length then 2 else fstE (rgFlt l) 0 l.length
structure RgOk (l : Reigns) : Prop where
  l1 : 1 ≤ l.length
  l2 : l.length ≤ 30
  far : ∀ i, i < l.length → chkDay ((rgR l).f i) = 0
  inc : ∀ i, i + 1 < l.length → (rgR l).f i < (rgR l).f (i + 1)
theorem rgChk_ok {l : Reigns} (h : rgChk l = 0) : RgOk l := by
  unfold rgChk at h
  split at h
  · cases h
  rename_i h1
  have h4 := fstE_zero.1 h
  have hf : ∀ i, i < l.length → chkDay ((rgR l).f i) = 0 ∧ ¬ (0 < i ∧ (rgR l).f i ≤ (rgR l).f (i - 1)) := fun i hi => by
    have := h4 i (by omega) (by omega)
    unfold rgFlt at this
    split at this
    · cases this
    split at this
    · cases this
    rename_i q1
    split at this
    · cases this
    rename_i q2
    exact ⟨by simpa using q1, q2⟩
  exact ⟨by omega, by omega, fun i hi => (hf i hi).1, fun i hi => by
    have := (hf (i + 1) hi).2
    simp only [Nat.add_sub_cancel] at this
    omega⟩
theorem RgOk.mono {l : Reigns} (h : RgOk l) {i : Nat} : ∀ {j : Nat}, i < j → j < l.length → (rgR l).f i < (rgR l).f j := by
  intro j
  induction j with
  | zero => intro h1; omega
  | succ j ih =>
    intro h1 h2
    have a := h.inc j h2
    rcases Nat.lt_or_ge i j with q | q
    · have := ih q (by omega); omega
    · have : i = j := by omega
      subst this; exact a
/-- The first year of a reign is year 1, or the second one is. -/
def xtr (mode : Int) : Int := if mode = 1 then 1 else 0
/-- What the calendar says of a regnal date, reign by reign; the reign k has the day of the date. -/
theorem rg_ask {c : Cal} (hc : c.Good m) (l : Reigns) (s : List UInt8) (mode y mo d : Int) : ∃ n e : Nat → Int, ∀ i, i < l.length →
    (rgN l i ≠ s → e i ≠ 0) ∧
    (rgN l i = s →
      (MeetsP Tryz.prog (glT m) 27 [c.A, .i .i64 ((rgR l).f i)] (resD (dateA 0 0 0) 3) ∧ e i ≠ 0) ∨
      ∃ fy fm fd, -10000 ≤ fy ∧ fy ≤ 10000 ∧ MeetsP Tryz.prog (glT m) 27 [c.A, .i .i64 ((rgR l).f i)] (resD (dateA fy fm fd) 0) ∧
        MeetsP Tryz.prog (glT m) 37 [c.A, dateA (fy + y - xtr mode) mo d] (resD (.i .i64 (n i)) (e i)) ∧
        (∀ x (k : Nat), mo = k + 1 → c.At x (fy + y - xtr mode) k → x - c.first (fy + y - xtr mode) + 1 - c.bef (fy + y - xtr mode) k = d → e i = 0 ∧ n i = x) ∧ (∃ k, c.At ((rgR l).f i) fy k)) := by
  have key : ∀ i : Nat, ∃ p : Int × Int, i < l.length →
    (rgN l i ≠ s → p.2 ≠ 0) ∧
    (rgN l i = s →
      (MeetsP Tryz.prog (glT m) 27 [c.A, .i .i64 ((rgR l).f i)] (resD (dateA 0 0 0) 3) ∧ p.2 ≠ 0) ∨
      ∃ fy fm fd, -10000 ≤ fy ∧ fy ≤ 10000 ∧ MeetsP Tryz.prog (glT m) 27 [c.A, .i .i64 ((rgR l).f i)] (resD (dateA fy fm fd) 0) ∧
        MeetsP Tryz.prog (glT m) 37 [c.A, dateA (fy + y - xtr mode) mo d] (resD (.i .i64 p.1) p.2) ∧
        (∀ x (k : Nat), mo = k + 1 → c.At x (fy + y - xtr mode) k → x - c.first (fy + y - xtr mode) + 1 - c.bef (fy + y - xtr mode) k = d → p.2 = 0 ∧ p.1 = x) ∧ (∃ k, c.At ((rgR l).f i) fy k)) := fun i => by
    by_cases hs : rgN l i = s
    · rcases fromDay_all hc ((rgR l).f i) with hf | ⟨fy, k, hat⟩
      · exact ⟨(0, 1), fun _ => ⟨fun q => absurd hs q, fun _ => .inl ⟨hf, by simp⟩⟩⟩
      · obtain ⟨n, e, h1, _, _, h3⟩ := toDay_is (m := m) hc (fy + y - xtr mode) mo d
        exact ⟨(n, e), fun _ => ⟨fun q => absurd hs q, fun _ => .inr ⟨fy, _, _, hat.y1, hat.y2, hat.run hc, h1, h3, k, hat⟩⟩⟩
    · exact ⟨(0, 1), fun _ => ⟨fun _ => by simp, fun q => absurd q hs⟩⟩
  obtain ⟨p, hp⟩ := Classical.axiomOfChoice key
  exact ⟨fun i => (p i).1, fun i => (p i).2, hp⟩
end Go.Proofs.YtkokongbnemkhaaGreatDoorA
