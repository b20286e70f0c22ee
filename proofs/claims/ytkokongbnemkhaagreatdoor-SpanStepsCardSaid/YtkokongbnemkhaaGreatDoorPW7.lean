/- arith.month, arith.first. -/
import Derived.Test.YtkokongbnemkhaaGreatDoorPW6
set_option linter.unusedVariables false
set_option linter.unusedSimpArgs false
namespace Go.Proofs.YtkokongbnemkhaaGreatDoorA
open Go Go.RowKit Go.Proofs.YtkokongbnemkhaaGreatDoorFx Go.Proofs
variable {m : Int}
def Cal.mlen (c : Cal) (y k : Int) : Int := if c.leap y then ((c.ms[(k - 1).toNat]?).getD ([], 0, 0)).2.2 else ((c.ms[(k - 1).toNat]?).getD ([], 0, 0)).2.1
set_option maxHeartbeats 1000000 in
set_option maxRecDepth 100000 in
theorem monthP (c : Cal) (hc : c.Ok) (y k : Int) (h1 : -1000000 ≤ y) (h2 : y ≤ 1000000) (hk : 1 ≤ k) (hk2 : k ≤ c.ms.length) : MeetsP Tryz.prog (glT m) 52 [c.A, .i .i64 y, .i .i64 k] (.i .i64 (c.mlen y k)) := by
  have hL := leapP (m := m) c hc y h1 h2
  have h20 := hc.len2
  unfold Cal.mlen
  obtain ⟨nm, ep, cy, ms, ls⟩ := c
  generalize Cal.leap ⟨nm, ep, cy, ms, ls⟩ y = b at *
  simp only [Cal.A] at *
  refine meetsP (E := (EW m)) 24 [.tmp 6] (ew m) Tryz.func52 rfl (by decide) rfl rfl (by simp) ?_
  repeat' first
    | ((with_reducible refine wr_isCall ?_); refine wr_P hL rfl ?_)
    | (with_reducible refine t_seq ?_)
    | (with_reducible refine t_skip ?_)
    | (with_reducible refine t_ret ?_)
    | (with_reducible refine t_end ?_)
    | (with_reducible refine t_cond ?_)
    | (with_reducible refine t_region ?_)
    | (with_reducible refine wr_done ?_)
    | ((with_reducible refine t_isDraw ?_); refine t_draw rfl (by kernel_rfl) ?_)
    | (with_reducible refine WD.done _ ?_)
    | (with_reducible refine wdp_done ?_)
    | (with_reducible refine tr_some ?_)
    | ((fail_if_success with_reducible refine t_bl ?_); (with_reducible refine t_block ?_))
    | (with_reducible refine t_inBlock ?_)
    | ((with_reducible refine t_isExit ?_); refine t_exit rfl ?_)
    | simp only [decide_eq_true_eq, decide_eq_false_iff_not, Bool.not_eq_true', Bool.not_eq_false'] at *
    | simp (disch := omega) only [go_sem, Nat.reduceLT, Nat.reduceEqDiff, Nat.reduceAdd, Nat.reduceLeDiff, Nat.reduceMul, Int.reduceLT, Int.reduceLE, Int.reduceAdd, Int.reduceSub, Int.reduceNeg, Int.reduceToNat, Int.reduceBEq, Int.reduceEq, reduceCtorEq, List.take_succ_cons, List.take_zero, List.take_nil, List.drop_succ_cons, List.drop_nil, List.cons_append, List.nil_append, List.set_cons_zero, List.set_cons_succ, ↓reduceIte, *]
    | (with_reducible refine tb_true ?_)
    | (with_reducible refine tb_false ?_)
    | (with_reducible refine tb_split (fun _ => ?_) (fun _ => ?_))
    | (with_reducible refine wg_f (fun _ => ?_) (fun _ => ?_))
    | (with_reducible refine wg_t (fun _ => ?_) (fun _ => ?_))
    | (with_reducible refine wd_f (fun _ => ?_) (fun _ => ?_))
    | (with_reducible refine wd_t (fun _ => ?_) (fun _ => ?_))
  all_goals exact ⟨rfl, rfl⟩
theorem cnt_bound {ls : List Int} {r : Int} (hs : ls.Pairwise (· < ·)) (hw : ∀ z ∈ ls, 1 ≤ z) (hr : 0 ≤ r) : (cnt ls (r + 1) : Int) ≤ r := by
  have key : ∀ (l : List Int) (a : Int), l.Pairwise (· < ·) → (∀ z ∈ l, a ≤ z) → a ≤ r + 1 → (cnt l (r + 1) : Int) ≤ r + 1 - a := by
    intro l
    induction l with
    | nil => intro a _ _ ha; simp [cnt]; omega
    | cons z l ih =>
      intro a hp hw ha
      have h1 := List.pairwise_cons.1 hp
      have hz := hw z (List.mem_cons_self ..)
      by_cases hy : z < r + 1
      · have hc : cnt (z :: l) (r + 1) = cnt l (r + 1) + 1 := by simp [cnt, hy]
        have := ih (z + 1) h1.2 (fun x hx => by have := h1.1 x hx; omega) (by omega)
        omega
      · have hc : cnt (z :: l) (r + 1) = 0 := by
          simp only [cnt, List.length_eq_zero_iff, List.filter_eq_nil_iff, List.mem_cons, decide_eq_true_eq]
          rintro x (rfl | hx)
          · exact hy
          · have := h1.1 x hx; omega
        rw [hc]; omega
  have := key ls 1 hs hw (by omega)
  omega
/-- The days of a cycle. -/
def Cal.total (c : Cal) : Int := sumS c.ms * (c.cy - c.ls.length) + sumL c.ms * c.ls.length
/-- The first day of a year. -/
def Cal.first (c : Cal) (y : Int) : Int := c.ep + (y - 1) / c.cy * c.total + sumS c.ms * ((y - 1) % c.cy - cnt c.ls ((y - 1) % c.cy + 1)) + sumL c.ms * cnt c.ls ((y - 1) % c.cy + 1)
set_option maxHeartbeats 1000000 in
set_option maxRecDepth 100000 in
theorem firstP (c : Cal) (hc : c.Ok) (y : Int) (h1 : -1000000 ≤ y) (h2 : y ≤ 1000000) : MeetsP Tryz.prog (glT m) 51 [c.A, .i .i64 y] (.i .i64 (c.first y)) := by
  have hLe := lengthsP (m := m) c hc
  have hl := hc.lsl
  have hs := hc.sorted
  have hcy := hc.cy1
  have hcy2 := hc.cy2
  have hep1 := hc.ep1
  have hep2 := hc.ep2
  have h20 := hc.len2
  have hsum := sums_le c.ms hc.mon
  have hw := hc.within
  have hlc := hc.lsc
  obtain ⟨nm, ep, cy, ms, ls⟩ := c
  simp only [Cal.A, Cal.first, Cal.total] at *
  have hm1 := Int.emod_nonneg (y - 1) (show cy ≠ 0 by omega)
  have hm2 := Int.emod_lt_of_pos (y - 1) (show 0 < cy by omega)
  have hq := ediv_small (a := y - 1) (b := cy) (M := 1000001) (by omega) (by omega) (by omega) (by omega)
  have hD := divP (m := m) (a := y - 1) (b := cy) (by omega) (by omega) (by omega) (by omega)
  have hS := searchP (m := m) ls ((y - 1) % cy + 1) hs (by omega)
  have hcl := cnt_le ls ((y - 1) % cy + 1)
  have hcr : (cnt ls ((y - 1) % cy + 1) : Int) ≤ (y - 1) % cy := cnt_bound hs (fun z hz => (hw z hz).1) hm1
  generalize (y - 1) % cy = r at *
  generalize (y - 1) / cy = q at *
  generalize cnt ls (r + 1) = n at *
  generalize sumS ms = a at *
  generalize sumL ms = b at *
  have p1 : 0 ≤ a * (cy - ls.length) ∧ a * (cy - ls.length) ≤ 8000 * 3000 := ⟨Int.mul_nonneg (by omega) (by omega), (Int.mul_le_mul (show a ≤ 8000 by omega) (show cy - (ls.length : Int) ≤ 3000 by omega) (by omega) (by omega))⟩
  have p2 : 0 ≤ b * (ls.length : Int) ∧ b * (ls.length : Int) ≤ 8000 * 3000 := ⟨Int.mul_nonneg (by omega) (by omega), (Int.mul_le_mul (show b ≤ 8000 by omega) (show (ls.length : Int) ≤ 3000 by omega) (by omega) (by omega))⟩
  have p3 : -96000000000000 ≤ q * (a * (cy - ls.length) + b * ls.length) ∧ q * (a * (cy - ls.length) + b * ls.length) ≤ 96000000000000 := by
    have t1 : 0 ≤ a * (cy - (ls.length : Int)) + b * (ls.length : Int) ∧ a * (cy - (ls.length : Int)) + b * (ls.length : Int) ≤ 48000000 := by omega
    generalize a * (cy - (ls.length : Int)) + b * (ls.length : Int) = tt at *
    constructor
    · have := Int.mul_le_mul_of_nonneg_right (show -1000001 ≤ q by omega) t1.1
      have := Int.mul_le_mul_of_nonneg_left t1.2 (show (0 : Int) ≤ 1000001 by omega)
      omega
    · have := Int.mul_le_mul_of_nonneg_right (show q ≤ 1000001 by omega) t1.1
      have := Int.mul_le_mul_of_nonneg_left t1.2 (show (0 : Int) ≤ 1000001 by omega)
      omega
  have p4 : -24000000 ≤ a * (r - n) ∧ a * (r - n) ≤ 24000000 := by
    have := Int.mul_nonneg (show 0 ≤ a by omega) (show 0 ≤ r - (n : Int) by omega)
    have := Int.mul_le_mul (show a ≤ 8000 by omega) (show r - (n : Int) ≤ 3000 by omega) (by omega) (show (0 : Int) ≤ 8000 by omega)
    omega
  have p5 : 0 ≤ b * (n : Int) ∧ b * (n : Int) ≤ 24000000 := ⟨Int.mul_nonneg (by omega) (by omega), (Int.mul_le_mul (show b ≤ 8000 by omega) (show (n : Int) ≤ 3000 by omega) (by omega) (by omega))⟩
  refine meetsP (E := (EW m)) 61 [.tmp 4] (ew m) Tryz.func51 rfl (by decide) rfl rfl (by simp) ?_
  repeat' first
    | ((with_reducible refine wr_isCall ?_); refine wr_P hD rfl ?_)
    | ((with_reducible refine wr_isCall ?_); refine wr_P hLe rfl ?_)
    | ((with_reducible refine wr_isCall ?_); refine wr_P hS rfl ?_)
    | (with_reducible refine t_seq ?_)
    | (with_reducible refine t_skip ?_)
    | (with_reducible refine t_ret ?_)
    | (with_reducible refine t_end ?_)
    | (with_reducible refine t_cond ?_)
    | (with_reducible refine t_region ?_)
    | (with_reducible refine wr_done ?_)
    | ((with_reducible refine t_isDraw ?_); refine t_draw rfl (by kernel_rfl) ?_)
    | (with_reducible refine WD.done _ ?_)
    | (with_reducible refine wdp_done ?_)
    | (with_reducible refine tr_some ?_)
    | ((fail_if_success with_reducible refine t_bl ?_); (with_reducible refine t_block ?_))
    | (with_reducible refine t_inBlock ?_)
    | ((with_reducible refine t_isExit ?_); refine t_exit rfl ?_)
    | simp only [decide_eq_true_eq, decide_eq_false_iff_not, Bool.not_eq_true', Bool.not_eq_false'] at *
    | simp (disch := omega) only [go_sem, Nat.reduceLT, Nat.reduceEqDiff, Nat.reduceAdd, Nat.reduceLeDiff, Nat.reduceMul, Int.reduceLT, Int.reduceLE, Int.reduceAdd, Int.reduceSub, Int.reduceNeg, Int.reduceToNat, Int.reduceBEq, Int.reduceEq, reduceCtorEq, List.take_succ_cons, List.take_zero, List.take_nil, List.drop_succ_cons, List.drop_nil, List.cons_append, List.nil_append, List.set_cons_zero, List.set_cons_succ, ↓reduceIte, *]
    | (with_reducible refine tb_true ?_)
    | (with_reducible refine tb_false ?_)
    | (with_reducible refine tb_split (fun _ => ?_) (fun _ => ?_))
    | (with_reducible refine wg_f (fun _ => ?_) (fun _ => ?_))
    | (with_reducible refine wg_t (fun _ => ?_) (fun _ => ?_))
    | (with_reducible refine wd_f (fun _ => ?_) (fun _ => ?_))
    | (with_reducible refine wd_t (fun _ => ?_) (fun _ => ?_))
  all_goals exact ⟨rfl, rfl⟩
end Go.Proofs.YtkokongbnemkhaaGreatDoorA
