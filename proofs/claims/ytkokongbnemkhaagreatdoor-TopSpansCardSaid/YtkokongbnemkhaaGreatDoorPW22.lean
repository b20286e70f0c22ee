/- arith.Later as a contract. -/
import Derived.Test.YtkokongbnemkhaaGreatDoorPL4
import Derived.Test.YtkokongbnemkhaaGreatDoorPW16
set_option linter.unusedVariables false
set_option linter.unusedSimpArgs false
namespace Go.Proofs.YtkokongbnemkhaaGreatDoorA
open Go Go.RowKit Go.Proofs.YtkokongbnemkhaaGreatDoorFx Go.Proofs
variable {m : Int}
@[go_sem] theorem blt_min (E : Env) (S : St) (ts : Array TypeId) (x : AV) (l : List AV) : bltA E S .min ts (x :: l) = .of S.h (mmA true x l) := rfl
@[go_sem] theorem blt_max (E : Env) (S : St) (ts : Array TypeId) (x : AV) (l : List AV) : bltA E S .max ts (x :: l) = .of S.h (mmA false x l) := rfl
@[go_sem] theorem mm_nil (lo : Bool) (k : IntKind) (x : Int) : mmA lo (.i k x) [] = some (.i k x) := rfl
@[go_sem] theorem mm_min (k k' : IntKind) (x y : Int) (r : List AV) : mmA true (.i k x) (.i k' y :: r) = mmA true (.i k (min x y)) r := by
  simp only [mmA]; congr 2; split <;> omega
@[go_sem] theorem mm_max (k k' : IntKind) (x y : Int) (r : List AV) : mmA false (.i k x) (.i k' y :: r) = mmA false (.i k (max x y)) r := by
  simp only [mmA]; congr 2; split <;> omega
/-- The own blocks of Later: the date, the calendar. -/
abbrev ltH (y1 y2 y3 y5 : AV) (L : List (List AV)) (y M d : Int) : Hp := ⟨[(1, .rows 3 [[.i .i64 y, .i .i64 M, .i .i64 d]]), (0, .rows 5 [[y1, y2, y3, .isl false 3 L, y5]])], 2⟩
section
variable {y1 y2 y3 y5 : AV} {L : List (List AV)} {y b : Int}
/-- A closure that looks at the year. -/
theorem badP {a : Int} : MeetsH (EW m) 81 [.ptr 1 0 0] (ltH y1 y2 y3 y5 L y a b) (Is (.ret (.b (badY y))) (ltH y1 y2 y3 y5 L y a b)) := by
  unfold ltH
  refine meetsH (E := (EW m)) 10 [.tmp 1] Tryz.func81 rfl (by decide) rfl rfl (by simp) ?_
  repeat' first
    | (with_reducible refine t_seq ?_)
    | (with_reducible refine t_skip ?_)
    | (with_reducible refine t_ret ?_)
    | (with_reducible refine t_end ?_)
    | (with_reducible refine t_cond ?_)
    | (with_reducible refine t_region ?_)
    | (with_reducible refine wr_done ?_)
    | ((with_reducible refine t_isDraw ?_); refine t_draw rfl (by kernel_rfl) ?_)
    | (with_reducible refine WD.done _ ?_)
    | (with_reducible refine wdp_done ?_)
    | (with_reducible refine tr_some ?_)
    | ((fail_if_success with_reducible refine t_bl ?_); (with_reducible refine t_block ?_))
    | (with_reducible refine t_inBlock ?_)
    | ((with_reducible refine t_isExit ?_); refine t_exit rfl ?_)
    | simp only [decide_eq_true_eq, decide_eq_false_iff_not, Bool.not_eq_true', Bool.not_eq_false'] at *
    | simp (disch := omega) only [go_sem, Nat.reduceLT, Nat.reduceEqDiff, Nat.reduceAdd, Nat.reduceLeDiff, Nat.reduceMul, Int.reduceLT, Int.reduceLE, Int.reduceAdd, Int.reduceSub, Int.reduceNeg, Int.reduceToNat, Int.reduceBEq, Int.reduceEq, reduceCtorEq, List.take_succ_cons, List.take_zero, List.take_nil, List.drop_succ_cons, List.drop_nil, List.cons_append, List.nil_append, List.set_cons_zero, List.set_cons_succ, ↓reduceIte, *]
    | (with_reducible refine tb_true ?_)
    | (with_reducible refine tb_false ?_)
    | (with_reducible refine tb_split (fun _ => ?_) (fun _ => ?_))
    | (with_reducible refine wg_f (fun _ => ?_) (fun _ => ?_))
    | (with_reducible refine wg_t (fun _ => ?_) (fun _ => ?_))
    | (with_reducible refine wd_f (fun _ => ?_) (fun _ => ?_))
    | (with_reducible refine wd_t (fun _ => ?_) (fun _ => ?_))
  · rename_i q; simp [badY, q, Is]
  · rename_i q; simp [badY, q, Is]
/-- A closure that goes one month on. -/
theorem turnP {C : Cal} {M : Nat} (hL : L.length = C.ms.length) (hy : -100000 ≤ y ∧ y ≤ 100000) (hM : M ≤ 1000) (hl : L.length ≤ 1000) :
    MeetsH (EW m) 80 [.i .i64 1, .ptr 1 0 0, .ptr 0 0 0] (ltH y1 y2 y3 y5 L y M b) (Is (.ret (.tup [])) (ltH y1 y2 y3 y5 L (C.turn (y, M)).1 (C.turn (y, M)).2 b)) := by
  unfold ltH
  refine meetsH (E := (EW m)) 31 [] Tryz.func80 rfl (by decide) rfl rfl (by simp) ?_
  repeat' first
    | (with_reducible refine t_seq ?_)
    | (with_reducible refine t_skip ?_)
    | (with_reducible refine t_ret ?_)
    | (with_reducible refine t_end ?_)
    | (with_reducible refine t_cond ?_)
    | (with_reducible refine t_region ?_)
    | (with_reducible refine wr_done ?_)
    | ((with_reducible refine t_isDraw ?_); refine t_draw rfl (by kernel_rfl) ?_)
    | (with_reducible refine WD.done _ ?_)
    | (with_reducible refine wdp_done ?_)
    | (with_reducible refine tr_some ?_)
    | ((fail_if_success with_reducible refine t_bl ?_); (with_reducible refine t_block ?_))
    | (with_reducible refine t_inBlock ?_)
    | ((with_reducible refine t_isExit ?_); refine t_exit rfl ?_)
    | simp only [decide_eq_true_eq, decide_eq_false_iff_not, Bool.not_eq_true', Bool.not_eq_false'] at *
    | simp (disch := omega) only [go_sem, Nat.reduceLT, Nat.reduceEqDiff, Nat.reduceAdd, Nat.reduceLeDiff, Nat.reduceMul, Int.reduceLT, Int.reduceLE, Int.reduceAdd, Int.reduceSub, Int.reduceNeg, Int.reduceToNat, Int.reduceBEq, Int.reduceEq, reduceCtorEq, List.take_succ_cons, List.take_zero, List.take_nil, List.drop_succ_cons, List.drop_nil, List.cons_append, List.nil_append, List.set_cons_zero, List.set_cons_succ, ↓reduceIte, *]
    | (with_reducible refine tb_true ?_)
    | (with_reducible refine tb_false ?_)
    | (with_reducible refine tb_split (fun _ => ?_) (fun _ => ?_))
    | (with_reducible refine wg_f (fun _ => ?_) (fun _ => ?_))
    | (with_reducible refine wg_t (fun _ => ?_) (fun _ => ?_))
    | (with_reducible refine wd_f (fun _ => ?_) (fun _ => ?_))
    | (with_reducible refine wd_t (fun _ => ?_) (fun _ => ?_))
  all_goals first | (exfalso; omega) | skip
  all_goals first
    | (have e : C.turn (y, M) = (y + 1, 1) := by unfold Cal.turn; rw [if_neg (by simp only; omega)]
       rw [e]; exact ⟨rfl, rfl⟩)
    | (have e : C.turn (y, M) = (y, M + 1) := by unfold Cal.turn; rw [if_pos (by simp only; omega)]
       rw [e]; exact ⟨rfl, rfl⟩)
end
/-- What Later answers, from the month to which it comes. -/
def Cal.laterR (c : Cal) (d : Int) (p : Int × Nat) : AV := if badY p.1 = true then resD (.i .i64 0) 3 else
  if chkDay (c.first p.1 + min d (c.mlen p.1 p.2) - 1 + c.bef p.1 (p.2 - 1)) = 0 then resD (.i .i64 (c.first p.1 + min d (c.mlen p.1 p.2) - 1 + c.bef p.1 (p.2 - 1))) 0 else resD (.i .i64 0) 3
theorem turn_less {c : Cal} {p : Int × Nat} (h : p.1 ≤ 10000) (h2 : p.2 ≤ c.ms.length) (hl : 1 ≤ c.ms.length) : (10001 - (c.turn p).1).toNat * (c.ms.length + 1) + (c.ms.length - (c.turn p).2) < (10001 - p.1).toNat * (c.ms.length + 1) + (c.ms.length - p.2) := by
  unfold Cal.turn
  split
  · simp only; omega
  · simp only
    have e : (10001 - p.1).toNat = (10001 - (p.1 + 1)).toNat + 1 := by omega
    rw [e, Nat.add_mul, Nat.one_mul]
    generalize (10001 - (p.1 + 1)).toNat * (c.ms.length + 1) = z
    omega
set_option maxRecDepth 100000 in
set_option maxHeartbeats 4000000 in
theorem laterP {c : Cal} (hc : c.Good m) {day y : Int} {mo : Nat} (hat : c.At day y mo) {Y Mo : Int} (hY : 0 ≤ Y ∧ Y ≤ 10000) (hMo : 0 ≤ Mo ∧ Mo ≤ 10000) :
    MeetsP Tryz.prog (glT m) 59 [c.A, .i .i64 day, .i .i64 Y, .i .i64 Mo] (c.laterR (day - c.first y + 1 - c.bef y mo) (c.walkM (c.skip (y + Y, mo + 1)) Mo.toNat)) := by
  have hf := hat.run hc
  have hmo := hat.hmo
  have q1 := hat.y1
  have q2 := hat.y2
  have hd1 : 1 ≤ day - c.first y + 1 - c.bef y mo := by have := hat.r1; omega
  have hd2 : day - c.first y + 1 - c.bef y mo ≤ 1000000 := by
    have h1 := hat.r2
    have h2 : c.bef y (mo + 1) = c.bef y mo + c.mlen y (mo + 1) := rfl
    have h3 := hc.toOk.mlen_bounds y (mo + 1)
    omega
  have hlen1 := hc.len1
  have hlen2 := hc.len2
  have mp := fun yy k h1 h2 h3 h4 => monthP (m := m) c hc.toOk yy k h1 h2 h3 h4
  have hend := Cal.skip_end (c := c) hlen1 (y + Y, mo + 1) (by simp only; omega) (by simp only; omega)
  have hwalk := Cal.walkM_ok (c := c) hlen1 (p := c.skip (y + Y, mo + 1)) hend.1.1 hend.1.2.1 hend.2
  have hday := fun (p : Int × Nat) (h1 : 1 ≤ p.2) (h2 : p.2 ≤ c.ms.length) (h3 : badY p.1 = false) (h4 : c.mlen p.1 p.2 ≠ 0) => by
    have hb := badY_f.1 h3
    have hml := (hc.toOk.mlen_bounds p.1 p.2).1
    have e : ((p.2 - 1 : Nat) : Int) + 1 = p.2 := by omega
    have := toDayP (m := m) hc (y := p.1) (d := min (day - c.first y + 1 - c.bef y mo) (c.mlen p.1 p.2)) (mo := p.2 - 1) hb.1 hb.2 (by omega) (by omega) (by rw [e]; omega)
    rwa [e] at this
  generalize day - c.first y + 1 - c.bef y mo = Dd at *
  generalize hp0 : c.skip (y + Y, mo + 1) = p0 at *
  obtain ⟨y1, y2, y3, y5, L, hy, hL, ⟨o1, o2, o3, o5⟩, n1, n2, n3⟩ := c.A_parts2
  simp only [hy] at hf mp hday ⊢
  unfold resD dateA at hf hday
  clear hat
  refine meetsP (E := (EW m)) 108 [.tmp 8, .tmp 9] (ew m) Tryz.func59 rfl (by decide) rfl rfl (by simp) ?_
  repeat' first
    | ((with_reducible refine wr_isCall ?_); refine wr_P hf (n2 _) ?_)
    | (with_reducible refine t_seq ?_)
    | (with_reducible refine t_skip ?_)
    | (with_reducible refine t_ret ?_)
    | (with_reducible refine t_end ?_)
    | (with_reducible refine t_cond ?_)
    | (with_reducible refine t_region ?_)
    | (with_reducible refine wr_done ?_)
    | ((with_reducible refine t_isDraw ?_); refine t_draw rfl (by kernel_rfl) ?_)
    | (with_reducible refine WD.done _ ?_)
    | (with_reducible refine wdp_done ?_)
    | (with_reducible refine tr_some ?_)
    | ((fail_if_success with_reducible refine t_bl ?_); (with_reducible refine t_block ?_))
    | (with_reducible refine t_inBlock ?_)
    | ((with_reducible refine t_isExit ?_); refine t_exit rfl ?_)
    | simp only [decide_eq_true_eq, decide_eq_false_iff_not, Bool.not_eq_true', Bool.not_eq_false'] at *
    | simp (disch := omega) only [go_sem, Nat.reduceLT, Nat.reduceEqDiff, Nat.reduceAdd, Nat.reduceLeDiff, Nat.reduceMul, Int.reduceLT, Int.reduceLE, Int.reduceAdd, Int.reduceSub, Int.reduceNeg, Int.reduceToNat, Int.reduceBEq, Int.reduceEq, reduceCtorEq, List.take_succ_cons, List.take_zero, List.take_nil, List.drop_succ_cons, List.drop_nil, List.cons_append, List.nil_append, List.set_cons_zero, List.set_cons_succ, ↓reduceIte, *]
    | (with_reducible refine tb_true ?_)
    | (with_reducible refine tb_false ?_)
    | (with_reducible refine tb_split (fun _ => ?_) (fun _ => ?_))
    | (with_reducible refine wg_f (fun _ => ?_) (fun _ => ?_))
    | (with_reducible refine wg_t (fun _ => ?_) (fun _ => ?_))
    | (with_reducible refine wd_f (fun _ => ?_) (fun _ => ?_))
    | (with_reducible refine wd_t (fun _ => ?_) (fun _ => ?_))
  all_goals first | (exfalso; omega) | skip
  -- months without days are passed
  refine t_while (α := Int × Nat) (I := fun p t h => (1 ≤ p.2 ∧ p.2 ≤ L.length ∧ y + Y ≤ p.1 ∧ p.1 ≤ 20001) ∧ c.skip p = p0 ∧ h = ltH y1 y2 y3 y5 L p.1 p.2 Dd ∧ get t 4 = .ptr 0 0 0 ∧ get t 10 = .ptr 1 0 0 ∧ get t 12 = .fn 80 [] [.ptr 1 0 0, .ptr 0 0 0] ∧ get t 13 = .fn 81 [] [.ptr 1 0 0] ∧ get t 3 = .i .i64 Mo)
    (m := fun p => (10001 - p.1).toNat * (c.ms.length + 1) + (c.ms.length - p.2))
    (J := fun t h => h = ltH y1 y2 y3 y5 L p0.1 p0.2 Dd ∧ get t 4 = .ptr 0 0 0 ∧ get t 10 = .ptr 1 0 0 ∧ get t 12 = .fn 80 [] [.ptr 1 0 0, .ptr 0 0 0] ∧ get t 13 = .fn 81 [] [.ptr 1 0 0] ∧ get t 3 = .i .i64 Mo)
    (y + Y, mo + 1) ⟨by simp only; omega, hp0, rfl, by simp [get], by simp [get], by simp [get], by simp [get], by simp [get]⟩ ?_ ?_
  · rintro ⟨y', M'⟩ t h ⟨⟨i1, i2, i3, i4⟩, hsk, rfl, g4, g10, g12, g13, g3⟩ hrec hex
    simp only at i1 i2 i3 i4
    have hB := badP (m := m) (y1 := y1) (y2 := y2) (y3 := y3) (y5 := y5) (L := L) (y := y') (b := Dd) (a := M')
    have hT := turnP (m := m) (y1 := y1) (y2 := y2) (y3 := y3) (y5 := y5) (L := L) (y := y') (b := Dd) (M := M') hL (by omega) (by omega) (by omega)
    by_cases hb : badY y' = true
    · have e0 : (y', M') = p0 := by rw [← hsk, Cal.skip_stop (.inl hb)]
      rw [hb] at hB
      repeat' first
        | ((with_reducible refine wr_isCall ?_); refine wr_ret hB ?_)
        | refine hex _ _ ?_
        | (with_reducible refine t_seq ?_)
        | (with_reducible refine t_skip ?_)
        | (with_reducible refine t_ret ?_)
        | (with_reducible refine t_end ?_)
        | (with_reducible refine t_cond ?_)
        | (with_reducible refine t_region ?_)
        | (with_reducible refine wr_done ?_)
        | ((with_reducible refine t_isDraw ?_); refine t_draw rfl (by kernel_rfl) ?_)
        | (with_reducible refine WD.done _ ?_)
        | (with_reducible refine wdp_done ?_)
        | (with_reducible refine tr_some ?_)
        | ((fail_if_success with_reducible refine t_bl ?_); (with_reducible refine t_block ?_))
        | (with_reducible refine t_inBlock ?_)
        | ((with_reducible refine t_isExit ?_); refine t_exit rfl ?_)
        | simp only [decide_eq_true_eq, decide_eq_false_iff_not, Bool.not_eq_true', Bool.not_eq_false'] at *
        | simp (disch := omega) only [go_sem, Nat.reduceLT, Nat.reduceEqDiff, Nat.reduceAdd, Nat.reduceLeDiff, Nat.reduceMul, Int.reduceLT, Int.reduceLE, Int.reduceAdd, Int.reduceSub, Int.reduceNeg, Int.reduceToNat, Int.reduceBEq, Int.reduceEq, reduceCtorEq, List.take_succ_cons, List.take_zero, List.take_nil, List.drop_succ_cons, List.drop_nil, List.cons_append, List.nil_append, List.set_cons_zero, List.set_cons_succ, ↓reduceIte, *]
        | (with_reducible refine tb_true ?_)
        | (with_reducible refine tb_false ?_)
        | (with_reducible refine tb_split (fun _ => ?_) (fun _ => ?_))
        | (with_reducible refine wg_f (fun _ => ?_) (fun _ => ?_))
        | (with_reducible refine wg_t (fun _ => ?_) (fun _ => ?_))
        | (with_reducible refine wd_f (fun _ => ?_) (fun _ => ?_))
        | (with_reducible refine wd_t (fun _ => ?_) (fun _ => ?_))
      subst e0
      simp [get, g4, g10, g12, g13, g3]
    · have hb' : badY y' = false := by simpa using hb
      have hbb := badY_f.1 hb'
      have hm := mp y' M' (by omega) (by omega) (by omega) (by omega)
      have tk := Cal.turn_ok (c := c) (p := (y', M')) hlen1
      have tk2 := tk.2 (by simp only; omega)
      have ty : y' ≤ (c.turn (y', M')).1 ∧ (c.turn (y', M')).1 ≤ y' + 1 := by unfold Cal.turn; split <;> simp only <;> omega
      have tl := turn_less (c := c) (p := (y', M')) (by simp only; omega) (by simp only; omega) hlen1
      rw [hb'] at hB
      by_cases hz : c.mlen y' M' = 0
      · have e0 := Cal.skip_go (c := c) (p := (y', M')) hb' hz
        rw [hz] at hm
        repeat' first
          | ((with_reducible refine wr_isCall ?_); refine wr_ret hB ?_)
          | ((with_reducible refine wr_isCall ?_); refine wr_P hm (n3 _ _) ?_)
          | ((with_reducible refine wr_isCall ?_); refine wr_ret hT ?_)
          | (with_reducible refine t_seq ?_)
          | (with_reducible refine t_skip ?_)
          | (with_reducible refine t_ret ?_)
          | (with_reducible refine t_end ?_)
          | (with_reducible refine t_cond ?_)
          | (with_reducible refine t_region ?_)
          | (with_reducible refine wr_done ?_)
          | ((with_reducible refine t_isDraw ?_); refine t_draw rfl (by kernel_rfl) ?_)
          | (with_reducible refine WD.done _ ?_)
          | (with_reducible refine wdp_done ?_)
          | (with_reducible refine tr_some ?_)
          | ((fail_if_success with_reducible refine t_bl ?_); (with_reducible refine t_block ?_))
          | (with_reducible refine t_inBlock ?_)
          | ((with_reducible refine t_isExit ?_); refine t_exit rfl ?_)
          | simp only [decide_eq_true_eq, decide_eq_false_iff_not, Bool.not_eq_true', Bool.not_eq_false'] at *
          | simp (disch := omega) only [go_sem, Nat.reduceLT, Nat.reduceEqDiff, Nat.reduceAdd, Nat.reduceLeDiff, Nat.reduceMul, Int.reduceLT, Int.reduceLE, Int.reduceAdd, Int.reduceSub, Int.reduceNeg, Int.reduceToNat, Int.reduceBEq, Int.reduceEq, reduceCtorEq, List.take_succ_cons, List.take_zero, List.take_nil, List.drop_succ_cons, List.drop_nil, List.cons_append, List.nil_append, List.set_cons_zero, List.set_cons_succ, ↓reduceIte, *]
          | (with_reducible refine tb_true ?_)
          | (with_reducible refine tb_false ?_)
          | (with_reducible refine tb_split (fun _ => ?_) (fun _ => ?_))
          | (with_reducible refine wg_f (fun _ => ?_) (fun _ => ?_))
          | (with_reducible refine wg_t (fun _ => ?_) (fun _ => ?_))
          | (with_reducible refine wd_f (fun _ => ?_) (fun _ => ?_))
          | (with_reducible refine wd_t (fun _ => ?_) (fun _ => ?_))
        exact hrec (c.turn (y', M')) _ _ ⟨by omega, by rw [← e0]; exact hsk, rfl, by simp [get, g4], by simp [get, g10], by simp [get, g12], by simp [get, g13], by simp [get, g3]⟩ tl
      · have e0 : (y', M') = p0 := by rw [← hsk, Cal.skip_stop (.inr hz)]
        repeat' first
          | ((with_reducible refine wr_isCall ?_); refine wr_ret hB ?_)
          | ((with_reducible refine wr_isCall ?_); refine wr_P hm (n3 _ _) ?_)
          | refine hex _ _ ?_
          | (with_reducible refine t_seq ?_)
          | (with_reducible refine t_skip ?_)
          | (with_reducible refine t_ret ?_)
          | (with_reducible refine t_end ?_)
          | (with_reducible refine t_cond ?_)
          | (with_reducible refine t_region ?_)
          | (with_reducible refine wr_done ?_)
          | ((with_reducible refine t_isDraw ?_); refine t_draw rfl (by kernel_rfl) ?_)
          | (with_reducible refine WD.done _ ?_)
          | (with_reducible refine wdp_done ?_)
          | (with_reducible refine tr_some ?_)
          | ((fail_if_success with_reducible refine t_bl ?_); (with_reducible refine t_block ?_))
          | (with_reducible refine t_inBlock ?_)
          | ((with_reducible refine t_isExit ?_); refine t_exit rfl ?_)
          | simp only [decide_eq_true_eq, decide_eq_false_iff_not, Bool.not_eq_true', Bool.not_eq_false'] at *
          | simp (disch := omega) only [go_sem, Nat.reduceLT, Nat.reduceEqDiff, Nat.reduceAdd, Nat.reduceLeDiff, Nat.reduceMul, Int.reduceLT, Int.reduceLE, Int.reduceAdd, Int.reduceSub, Int.reduceNeg, Int.reduceToNat, Int.reduceBEq, Int.reduceEq, reduceCtorEq, List.take_succ_cons, List.take_zero, List.take_nil, List.drop_succ_cons, List.drop_nil, List.cons_append, List.nil_append, List.set_cons_zero, List.set_cons_succ, ↓reduceIte, *]
          | (with_reducible refine tb_true ?_)
          | (with_reducible refine tb_false ?_)
          | (with_reducible refine tb_split (fun _ => ?_) (fun _ => ?_))
          | (with_reducible refine wg_f (fun _ => ?_) (fun _ => ?_))
          | (with_reducible refine wg_t (fun _ => ?_) (fun _ => ?_))
          | (with_reducible refine wd_f (fun _ => ?_) (fun _ => ?_))
          | (with_reducible refine wd_t (fun _ => ?_) (fun _ => ?_))
        subst e0
        simp [get, g4, g10, g12, g13, g3]
  rintro t h ⟨rfl, g4, g10, g12, g13, g3⟩
  repeat' first
    | (with_reducible refine t_seq ?_)
    | (with_reducible refine t_skip ?_)
    | (with_reducible refine t_ret ?_)
    | (with_reducible refine t_end ?_)
    | (with_reducible refine t_cond ?_)
    | (with_reducible refine t_region ?_)
    | (with_reducible refine wr_done ?_)
    | ((with_reducible refine t_isDraw ?_); refine t_draw rfl (by kernel_rfl) ?_)
    | (with_reducible refine WD.done _ ?_)
    | (with_reducible refine wdp_done ?_)
    | (with_reducible refine tr_some ?_)
    | ((fail_if_success with_reducible refine t_bl ?_); (with_reducible refine t_block ?_))
    | (with_reducible refine t_inBlock ?_)
    | ((with_reducible refine t_isExit ?_); refine t_exit rfl ?_)
    | simp only [decide_eq_true_eq, decide_eq_false_iff_not, Bool.not_eq_true', Bool.not_eq_false'] at *
    | simp (disch := omega) only [go_sem, Nat.reduceLT, Nat.reduceEqDiff, Nat.reduceAdd, Nat.reduceLeDiff, Nat.reduceMul, Int.reduceLT, Int.reduceLE, Int.reduceAdd, Int.reduceSub, Int.reduceNeg, Int.reduceToNat, Int.reduceBEq, Int.reduceEq, reduceCtorEq, List.take_succ_cons, List.take_zero, List.take_nil, List.drop_succ_cons, List.drop_nil, List.cons_append, List.nil_append, List.set_cons_zero, List.set_cons_succ, ↓reduceIte, *]
    | (with_reducible refine tb_true ?_)
    | (with_reducible refine tb_false ?_)
    | (with_reducible refine tb_split (fun _ => ?_) (fun _ => ?_))
    | (with_reducible refine wg_f (fun _ => ?_) (fun _ => ?_))
    | (with_reducible refine wg_t (fun _ => ?_) (fun _ => ?_))
    | (with_reducible refine wd_f (fun _ => ?_) (fun _ => ?_))
    | (with_reducible refine wd_t (fun _ => ?_) (fun _ => ?_))
  have hstep : ∀ n, c.walkM p0 (n + 1) = c.stepM (c.walkM p0 n) := fun n => rfl
  have hstay : ∀ n, n ≤ Mo.toNat → badY (c.walkM p0 n).1 = true → c.walkM p0 n = c.walkM p0 Mo.toNat := fun n hn hb => by
    have := Cal.walkM_bad (c := c) hb (Mo.toNat - n)
    rw [show n + (Mo.toNat - n) = Mo.toNat by omega] at this
    exact this.symm
  have hp0u : p0.1 ≤ 20001 := by have := hend.1.2.2.2; omega
  have hw0 : c.walkM p0 0 = p0 := rfl
  generalize hW : c.walkM p0 = wk at *
  refine t_while (I := fun (n : Nat) t h => n ≤ Mo.toNat ∧ h = ltH y1 y2 y3 y5 L (wk n).1 (wk n).2 Dd ∧ get t 14 = .i .i64 n ∧ get t 4 = .ptr 0 0 0 ∧ get t 10 = .ptr 1 0 0 ∧ get t 12 = .fn 80 [] [.ptr 1 0 0, .ptr 0 0 0] ∧ get t 13 = .fn 81 [] [.ptr 1 0 0] ∧ get t 3 = .i .i64 Mo)
    (m := fun n => Mo.toNat - n)
    (J := fun t h => h = ltH y1 y2 y3 y5 L (wk Mo.toNat).1 (wk Mo.toNat).2 Dd ∧ get t 4 = .ptr 0 0 0 ∧ get t 10 = .ptr 1 0 0 ∧ get t 13 = .fn 81 [] [.ptr 1 0 0])
    0 ⟨by omega, by rw [hw0], by simp [get], by simp [get, g4], by simp [get, g10], by simp [get, g12], by simp [get, g13], by simp [get, g3]⟩ ?_ ?_
  · rintro n t h ⟨hn, rfl, g14, g4, g10, g12, g13, g3⟩ hrec hex
    obtain ⟨w1, w2, w3, w4, w5⟩ := hwalk n
    have hs := hstep n
    have hst := hstay n hn
    by_cases hnm : n = Mo.toNat
    · have e1 : (n : Int) = Mo := by omega
      subst hnm
      repeat' first
        | refine hex _ _ ?_
        | (with_reducible refine t_seq ?_)
        | (with_reducible refine t_skip ?_)
        | (with_reducible refine t_ret ?_)
        | (with_reducible refine t_end ?_)
        | (with_reducible refine t_cond ?_)
        | (with_reducible refine t_region ?_)
        | (with_reducible refine wr_done ?_)
        | ((with_reducible refine t_isDraw ?_); refine t_draw rfl (by kernel_rfl) ?_)
        | (with_reducible refine WD.done _ ?_)
        | (with_reducible refine wdp_done ?_)
        | (with_reducible refine tr_some ?_)
        | ((fail_if_success with_reducible refine t_bl ?_); (with_reducible refine t_block ?_))
        | (with_reducible refine t_inBlock ?_)
        | ((with_reducible refine t_isExit ?_); refine t_exit rfl ?_)
        | simp only [decide_eq_true_eq, decide_eq_false_iff_not, Bool.not_eq_true', Bool.not_eq_false'] at *
        | simp (disch := omega) only [go_sem, Nat.reduceLT, Nat.reduceEqDiff, Nat.reduceAdd, Nat.reduceLeDiff, Nat.reduceMul, Int.reduceLT, Int.reduceLE, Int.reduceAdd, Int.reduceSub, Int.reduceNeg, Int.reduceToNat, Int.reduceBEq, Int.reduceEq, reduceCtorEq, List.take_succ_cons, List.take_zero, List.take_nil, List.drop_succ_cons, List.drop_nil, List.cons_append, List.nil_append, List.set_cons_zero, List.set_cons_succ, ↓reduceIte, *]
        | (with_reducible refine tb_true ?_)
        | (with_reducible refine tb_false ?_)
        | (with_reducible refine tb_split (fun _ => ?_) (fun _ => ?_))
        | (with_reducible refine wg_f (fun _ => ?_) (fun _ => ?_))
        | (with_reducible refine wg_t (fun _ => ?_) (fun _ => ?_))
        | (with_reducible refine wd_f (fun _ => ?_) (fun _ => ?_))
        | (with_reducible refine wd_t (fun _ => ?_) (fun _ => ?_))
      all_goals first | (exfalso; omega) | simp [get, g4, g10, g13] | skip
    have e1 : ¬ (n : Int) = Mo := by omega
    generalize hq : wk n = q at *
    obtain ⟨y', M'⟩ := q
    simp only at w1 w2 w3 w4 w5
    have hB := badP (m := m) (y1 := y1) (y2 := y2) (y3 := y3) (y5 := y5) (L := L) (y := y') (b := Dd) (a := M')
    have hT := turnP (m := m) (y1 := y1) (y2 := y2) (y3 := y3) (y5 := y5) (L := L) (y := y') (b := Dd) (M := M') hL (by omega) (by omega) (by omega)
    by_cases hb : badY y' = true
    · have e0 := hst hb
      rw [hb] at hB
      repeat' first
        | ((with_reducible refine wr_isCall ?_); refine wr_ret hB ?_)
        | refine hex _ _ ?_
        | (with_reducible refine t_seq ?_)
        | (with_reducible refine t_skip ?_)
        | (with_reducible refine t_ret ?_)
        | (with_reducible refine t_end ?_)
        | (with_reducible refine t_cond ?_)
        | (with_reducible refine t_region ?_)
        | (with_reducible refine wr_done ?_)
        | ((with_reducible refine t_isDraw ?_); refine t_draw rfl (by kernel_rfl) ?_)
        | (with_reducible refine WD.done _ ?_)
        | (with_reducible refine wdp_done ?_)
        | (with_reducible refine tr_some ?_)
        | ((fail_if_success with_reducible refine t_bl ?_); (with_reducible refine t_block ?_))
        | (with_reducible refine t_inBlock ?_)
        | ((with_reducible refine t_isExit ?_); refine t_exit rfl ?_)
        | simp only [decide_eq_true_eq, decide_eq_false_iff_not, Bool.not_eq_true', Bool.not_eq_false'] at *
        | simp (disch := omega) only [go_sem, Nat.reduceLT, Nat.reduceEqDiff, Nat.reduceAdd, Nat.reduceLeDiff, Nat.reduceMul, Int.reduceLT, Int.reduceLE, Int.reduceAdd, Int.reduceSub, Int.reduceNeg, Int.reduceToNat, Int.reduceBEq, Int.reduceEq, reduceCtorEq, List.take_succ_cons, List.take_zero, List.take_nil, List.drop_succ_cons, List.drop_nil, List.cons_append, List.nil_append, List.set_cons_zero, List.set_cons_succ, ↓reduceIte, *]
        | (with_reducible refine tb_true ?_)
        | (with_reducible refine tb_false ?_)
        | (with_reducible refine tb_split (fun _ => ?_) (fun _ => ?_))
        | (with_reducible refine wg_f (fun _ => ?_) (fun _ => ?_))
        | (with_reducible refine wg_t (fun _ => ?_) (fun _ => ?_))
        | (with_reducible refine wd_f (fun _ => ?_) (fun _ => ?_))
        | (with_reducible refine wd_t (fun _ => ?_) (fun _ => ?_))
      all_goals simp [get, g4, g10, g13, ← e0]
    have hb' : badY y' = false := by simpa using hb
    have hbb := badY_f.1 hb'
    rw [hb'] at hB
    have hs' : wk (n + 1) = c.skip (c.turn (y', M')) := by rw [hs]; unfold Cal.stepM; rw [if_neg hb]
    generalize hp1 : c.skip (c.turn (y', M')) = p1 at *
    have tk0 := Cal.turn_ok (c := c) (p := (y', M')) hlen1
    have ty0 : y' ≤ (c.turn (y', M')).1 ∧ (c.turn (y', M')).1 ≤ y' + 1 := by unfold Cal.turn; split <;> simp only <;> omega
    generalize c.turn (y', M') = pt at *
    have tk02 := tk0.2 (by simp only; omega)
    repeat' first
      | ((with_reducible refine wr_isCall ?_); refine wr_ret hB ?_)
      | ((with_reducible refine wr_isCall ?_); refine wr_ret hT ?_)
      | (with_reducible refine t_seq ?_)
      | (with_reducible refine t_skip ?_)
      | (with_reducible refine t_ret ?_)
      | (with_reducible refine t_end ?_)
      | (with_reducible refine t_cond ?_)
      | (with_reducible refine t_region ?_)
      | (with_reducible refine wr_done ?_)
      | ((with_reducible refine t_isDraw ?_); refine t_draw rfl (by kernel_rfl) ?_)
      | (with_reducible refine WD.done _ ?_)
      | (with_reducible refine wdp_done ?_)
      | (with_reducible refine tr_some ?_)
      | ((fail_if_success with_reducible refine t_bl ?_); (with_reducible refine t_block ?_))
      | (with_reducible refine t_inBlock ?_)
      | ((with_reducible refine t_isExit ?_); refine t_exit rfl ?_)
      | simp only [decide_eq_true_eq, decide_eq_false_iff_not, Bool.not_eq_true', Bool.not_eq_false'] at *
      | simp (disch := omega) only [go_sem, Nat.reduceLT, Nat.reduceEqDiff, Nat.reduceAdd, Nat.reduceLeDiff, Nat.reduceMul, Int.reduceLT, Int.reduceLE, Int.reduceAdd, Int.reduceSub, Int.reduceNeg, Int.reduceToNat, Int.reduceBEq, Int.reduceEq, reduceCtorEq, List.take_succ_cons, List.take_zero, List.take_nil, List.drop_succ_cons, List.drop_nil, List.cons_append, List.nil_append, List.set_cons_zero, List.set_cons_succ, ↓reduceIte, *]
      | (with_reducible refine tb_true ?_)
      | (with_reducible refine tb_false ?_)
      | (with_reducible refine tb_split (fun _ => ?_) (fun _ => ?_))
      | (with_reducible refine wg_f (fun _ => ?_) (fun _ => ?_))
      | (with_reducible refine wg_t (fun _ => ?_) (fun _ => ?_))
      | (with_reducible refine wd_f (fun _ => ?_) (fun _ => ?_))
      | (with_reducible refine wd_t (fun _ => ?_) (fun _ => ?_))
    all_goals first | (exfalso; omega) | skip
    refine t_while (α := Int × Nat) (I := fun p t h => (1 ≤ p.2 ∧ p.2 ≤ L.length ∧ -10000 ≤ p.1 ∧ p.1 ≤ 20001) ∧ c.skip p = p1 ∧ h = ltH y1 y2 y3 y5 L p.1 p.2 Dd ∧ get t 14 = .i .i64 n ∧ get t 15 = .i .i64 1 ∧ get t 4 = .ptr 0 0 0 ∧ get t 10 = .ptr 1 0 0 ∧ get t 12 = .fn 80 [] [.ptr 1 0 0, .ptr 0 0 0] ∧ get t 13 = .fn 81 [] [.ptr 1 0 0] ∧ get t 3 = .i .i64 Mo)
      (m := fun p => (10001 - p.1).toNat * (c.ms.length + 1) + (c.ms.length - p.2))
      (J := fun t h => h = ltH y1 y2 y3 y5 L p1.1 p1.2 Dd ∧ get t 14 = .i .i64 n ∧ get t 15 = .i .i64 1 ∧ get t 4 = .ptr 0 0 0 ∧ get t 10 = .ptr 1 0 0 ∧ get t 12 = .fn 80 [] [.ptr 1 0 0, .ptr 0 0 0] ∧ get t 13 = .fn 81 [] [.ptr 1 0 0] ∧ get t 3 = .i .i64 Mo)
      pt ⟨by omega, hp1, rfl, by simp [get, g14], by simp [get], by simp [get, g4], by simp [get, g10], by simp [get, g12], by simp [get, g13], by simp [get, g3]⟩ ?_ ?_
    · rintro ⟨y', M'⟩ t h ⟨⟨i1, i2, i3, i4⟩, hsk, rfl, g14, g15, g4, g10, g12, g13, g3⟩ hrec hex
      simp only at i1 i2 i3 i4
      have hB := badP (m := m) (y1 := y1) (y2 := y2) (y3 := y3) (y5 := y5) (L := L) (y := y') (b := Dd) (a := M')
      have hT := turnP (m := m) (y1 := y1) (y2 := y2) (y3 := y3) (y5 := y5) (L := L) (y := y') (b := Dd) (M := M') hL (by omega) (by omega) (by omega)
      by_cases hb : badY y' = true
      · have e0 : (y', M') = p1 := by rw [← hsk, Cal.skip_stop (.inl hb)]
        rw [hb] at hB
        repeat' first
          | ((with_reducible refine wr_isCall ?_); refine wr_ret hB ?_)
          | refine hex _ _ ?_
          | (with_reducible refine t_seq ?_)
          | (with_reducible refine t_skip ?_)
          | (with_reducible refine t_ret ?_)
          | (with_reducible refine t_end ?_)
          | (with_reducible refine t_cond ?_)
          | (with_reducible refine t_region ?_)
          | (with_reducible refine wr_done ?_)
          | ((with_reducible refine t_isDraw ?_); refine t_draw rfl (by kernel_rfl) ?_)
          | (with_reducible refine WD.done _ ?_)
          | (with_reducible refine wdp_done ?_)
          | (with_reducible refine tr_some ?_)
          | ((fail_if_success with_reducible refine t_bl ?_); (with_reducible refine t_block ?_))
          | (with_reducible refine t_inBlock ?_)
          | ((with_reducible refine t_isExit ?_); refine t_exit rfl ?_)
          | simp only [decide_eq_true_eq, decide_eq_false_iff_not, Bool.not_eq_true', Bool.not_eq_false'] at *
          | simp (disch := omega) only [go_sem, Nat.reduceLT, Nat.reduceEqDiff, Nat.reduceAdd, Nat.reduceLeDiff, Nat.reduceMul, Int.reduceLT, Int.reduceLE, Int.reduceAdd, Int.reduceSub, Int.reduceNeg, Int.reduceToNat, Int.reduceBEq, Int.reduceEq, reduceCtorEq, List.take_succ_cons, List.take_zero, List.take_nil, List.drop_succ_cons, List.drop_nil, List.cons_append, List.nil_append, List.set_cons_zero, List.set_cons_succ, ↓reduceIte, *]
          | (with_reducible refine tb_true ?_)
          | (with_reducible refine tb_false ?_)
          | (with_reducible refine tb_split (fun _ => ?_) (fun _ => ?_))
          | (with_reducible refine wg_f (fun _ => ?_) (fun _ => ?_))
          | (with_reducible refine wg_t (fun _ => ?_) (fun _ => ?_))
          | (with_reducible refine wd_f (fun _ => ?_) (fun _ => ?_))
          | (with_reducible refine wd_t (fun _ => ?_) (fun _ => ?_))
        subst e0
        simp [get, g14, g15, g4, g10, g12, g13, g3]
      · have hb' : badY y' = false := by simpa using hb
        have hbb := badY_f.1 hb'
        have hm := mp y' M' (by omega) (by omega) (by omega) (by omega)
        have tk := Cal.turn_ok (c := c) (p := (y', M')) hlen1
        have tk2 := tk.2 (by simp only; omega)
        have ty : y' ≤ (c.turn (y', M')).1 ∧ (c.turn (y', M')).1 ≤ y' + 1 := by unfold Cal.turn; split <;> simp only <;> omega
        have tl := turn_less (c := c) (p := (y', M')) (by simp only; omega) (by simp only; omega) hlen1
        rw [hb'] at hB
        by_cases hz : c.mlen y' M' = 0
        · have e0 := Cal.skip_go (c := c) (p := (y', M')) hb' hz
          rw [hz] at hm
          repeat' first
            | ((with_reducible refine wr_isCall ?_); refine wr_ret hB ?_)
            | ((with_reducible refine wr_isCall ?_); refine wr_P hm (n3 _ _) ?_)
            | ((with_reducible refine wr_isCall ?_); refine wr_ret hT ?_)
            | (with_reducible refine t_seq ?_)
            | (with_reducible refine t_skip ?_)
            | (with_reducible refine t_ret ?_)
            | (with_reducible refine t_end ?_)
            | (with_reducible refine t_cond ?_)
            | (with_reducible refine t_region ?_)
            | (with_reducible refine wr_done ?_)
            | ((with_reducible refine t_isDraw ?_); refine t_draw rfl (by kernel_rfl) ?_)
            | (with_reducible refine WD.done _ ?_)
            | (with_reducible refine wdp_done ?_)
            | (with_reducible refine tr_some ?_)
            | ((fail_if_success with_reducible refine t_bl ?_); (with_reducible refine t_block ?_))
            | (with_reducible refine t_inBlock ?_)
            | ((with_reducible refine t_isExit ?_); refine t_exit rfl ?_)
            | simp only [decide_eq_true_eq, decide_eq_false_iff_not, Bool.not_eq_true', Bool.not_eq_false'] at *
            | simp (disch := omega) only [go_sem, Nat.reduceLT, Nat.reduceEqDiff, Nat.reduceAdd, Nat.reduceLeDiff, Nat.reduceMul, Int.reduceLT, Int.reduceLE, Int.reduceAdd, Int.reduceSub, Int.reduceNeg, Int.reduceToNat, Int.reduceBEq, Int.reduceEq, reduceCtorEq, List.take_succ_cons, List.take_zero, List.take_nil, List.drop_succ_cons, List.drop_nil, List.cons_append, List.nil_append, List.set_cons_zero, List.set_cons_succ, ↓reduceIte, *]
            | (with_reducible refine tb_true ?_)
            | (with_reducible refine tb_false ?_)
            | (with_reducible refine tb_split (fun _ => ?_) (fun _ => ?_))
            | (with_reducible refine wg_f (fun _ => ?_) (fun _ => ?_))
            | (with_reducible refine wg_t (fun _ => ?_) (fun _ => ?_))
            | (with_reducible refine wd_f (fun _ => ?_) (fun _ => ?_))
            | (with_reducible refine wd_t (fun _ => ?_) (fun _ => ?_))
          exact hrec (c.turn (y', M')) _ _ ⟨by omega, by rw [← e0]; exact hsk, rfl, by simp [get, g14], by simp [get, g15], by simp [get, g4], by simp [get, g10], by simp [get, g12], by simp [get, g13], by simp [get, g3]⟩ tl
        · have e0 : (y', M') = p1 := by rw [← hsk, Cal.skip_stop (.inr hz)]
          repeat' first
            | ((with_reducible refine wr_isCall ?_); refine wr_ret hB ?_)
            | ((with_reducible refine wr_isCall ?_); refine wr_P hm (n3 _ _) ?_)
            | refine hex _ _ ?_
            | (with_reducible refine t_seq ?_)
            | (with_reducible refine t_skip ?_)
            | (with_reducible refine t_ret ?_)
            | (with_reducible refine t_end ?_)
            | (with_reducible refine t_cond ?_)
            | (with_reducible refine t_region ?_)
            | (with_reducible refine wr_done ?_)
            | ((with_reducible refine t_isDraw ?_); refine t_draw rfl (by kernel_rfl) ?_)
            | (with_reducible refine WD.done _ ?_)
            | (with_reducible refine wdp_done ?_)
            | (with_reducible refine tr_some ?_)
            | ((fail_if_success with_reducible refine t_bl ?_); (with_reducible refine t_block ?_))
            | (with_reducible refine t_inBlock ?_)
            | ((with_reducible refine t_isExit ?_); refine t_exit rfl ?_)
            | simp only [decide_eq_true_eq, decide_eq_false_iff_not, Bool.not_eq_true', Bool.not_eq_false'] at *
            | simp (disch := omega) only [go_sem, Nat.reduceLT, Nat.reduceEqDiff, Nat.reduceAdd, Nat.reduceLeDiff, Nat.reduceMul, Int.reduceLT, Int.reduceLE, Int.reduceAdd, Int.reduceSub, Int.reduceNeg, Int.reduceToNat, Int.reduceBEq, Int.reduceEq, reduceCtorEq, List.take_succ_cons, List.take_zero, List.take_nil, List.drop_succ_cons, List.drop_nil, List.cons_append, List.nil_append, List.set_cons_zero, List.set_cons_succ, ↓reduceIte, *]
            | (with_reducible refine tb_true ?_)
            | (with_reducible refine tb_false ?_)
            | (with_reducible refine tb_split (fun _ => ?_) (fun _ => ?_))
            | (with_reducible refine wg_f (fun _ => ?_) (fun _ => ?_))
            | (with_reducible refine wg_t (fun _ => ?_) (fun _ => ?_))
            | (with_reducible refine wd_f (fun _ => ?_) (fun _ => ?_))
            | (with_reducible refine wd_t (fun _ => ?_) (fun _ => ?_))
          subst e0
          simp [get, g14, g15, g4, g10, g12, g13, g3]
    rintro t h ⟨rfl, g14, g15, g4, g10, g12, g13, g3⟩
    repeat' first
      | (with_reducible refine t_seq ?_)
      | (with_reducible refine t_skip ?_)
      | (with_reducible refine t_ret ?_)
      | (with_reducible refine t_end ?_)
      | (with_reducible refine t_cond ?_)
      | (with_reducible refine t_region ?_)
      | (with_reducible refine wr_done ?_)
      | ((with_reducible refine t_isDraw ?_); refine t_draw rfl (by kernel_rfl) ?_)
      | (with_reducible refine WD.done _ ?_)
      | (with_reducible refine wdp_done ?_)
      | (with_reducible refine tr_some ?_)
      | ((fail_if_success with_reducible refine t_bl ?_); (with_reducible refine t_block ?_))
      | (with_reducible refine t_inBlock ?_)
      | ((with_reducible refine t_isExit ?_); refine t_exit rfl ?_)
      | simp only [decide_eq_true_eq, decide_eq_false_iff_not, Bool.not_eq_true', Bool.not_eq_false'] at *
      | simp (disch := omega) only [go_sem, Nat.reduceLT, Nat.reduceEqDiff, Nat.reduceAdd, Nat.reduceLeDiff, Nat.reduceMul, Int.reduceLT, Int.reduceLE, Int.reduceAdd, Int.reduceSub, Int.reduceNeg, Int.reduceToNat, Int.reduceBEq, Int.reduceEq, reduceCtorEq, List.take_succ_cons, List.take_zero, List.take_nil, List.drop_succ_cons, List.drop_nil, List.cons_append, List.nil_append, List.set_cons_zero, List.set_cons_succ, ↓reduceIte, *]
      | (with_reducible refine tb_true ?_)
      | (with_reducible refine tb_false ?_)
      | (with_reducible refine tb_split (fun _ => ?_) (fun _ => ?_))
      | (with_reducible refine wg_f (fun _ => ?_) (fun _ => ?_))
      | (with_reducible refine wg_t (fun _ => ?_) (fun _ => ?_))
      | (with_reducible refine wd_f (fun _ => ?_) (fun _ => ?_))
      | (with_reducible refine wd_t (fun _ => ?_) (fun _ => ?_))
    exact hrec (n + 1) _ _ ⟨by omega, by rw [hs'], by simp [get], by simp [get, g4], by simp [get, g10], by simp [get, g12], by simp [get, g13], by simp [get, g3]⟩ (by omega)
  rintro t h ⟨rfl, g4, g10, g13⟩
  obtain ⟨w1, w2, w3, w4, w5⟩ := hwalk Mo.toNat
  generalize wk Mo.toNat = q at *
  obtain ⟨y', M'⟩ := q
  simp only at w1 w2 w3 w4 w5
  have hB := badP (m := m) (y1 := y1) (y2 := y2) (y3 := y3) (y5 := y5) (L := L) (y := y') (b := Dd) (a := M')
  by_cases hb : badY y' = true
  · rw [hb] at hB
    repeat' first
      | ((with_reducible refine wr_isCall ?_); refine wr_ret hB ?_)
      | (with_reducible refine t_seq ?_)
      | (with_reducible refine t_skip ?_)
      | (with_reducible refine t_ret ?_)
      | (with_reducible refine t_end ?_)
      | (with_reducible refine t_cond ?_)
      | (with_reducible refine t_region ?_)
      | (with_reducible refine wr_done ?_)
      | ((with_reducible refine t_isDraw ?_); refine t_draw rfl (by kernel_rfl) ?_)
      | (with_reducible refine WD.done _ ?_)
      | (with_reducible refine wdp_done ?_)
      | (with_reducible refine tr_some ?_)
      | ((fail_if_success with_reducible refine t_bl ?_); (with_reducible refine t_block ?_))
      | (with_reducible refine t_inBlock ?_)
      | ((with_reducible refine t_isExit ?_); refine t_exit rfl ?_)
      | simp only [decide_eq_true_eq, decide_eq_false_iff_not, Bool.not_eq_true', Bool.not_eq_false'] at *
      | simp (disch := omega) only [go_sem, Nat.reduceLT, Nat.reduceEqDiff, Nat.reduceAdd, Nat.reduceLeDiff, Nat.reduceMul, Int.reduceLT, Int.reduceLE, Int.reduceAdd, Int.reduceSub, Int.reduceNeg, Int.reduceToNat, Int.reduceBEq, Int.reduceEq, reduceCtorEq, List.take_succ_cons, List.take_zero, List.take_nil, List.drop_succ_cons, List.drop_nil, List.cons_append, List.nil_append, List.set_cons_zero, List.set_cons_succ, ↓reduceIte, *]
      | (with_reducible refine tb_true ?_)
      | (with_reducible refine tb_false ?_)
      | (with_reducible refine tb_split (fun _ => ?_) (fun _ => ?_))
      | (with_reducible refine wg_f (fun _ => ?_) (fun _ => ?_))
      | (with_reducible refine wg_t (fun _ => ?_) (fun _ => ?_))
      | (with_reducible refine wd_f (fun _ => ?_) (fun _ => ?_))
      | (with_reducible refine wd_t (fun _ => ?_) (fun _ => ?_))
    unfold Cal.laterR
    rw [if_pos hb]
    exact ⟨rfl, rfl⟩
  have hb' : badY y' = false := by simpa using hb
  have hbb := badY_f.1 hb'
  have hm := mp y' M' (by omega) (by omega) (by omega) (by omega)
  have hd := hday (y', M') w1 (by omega) hb' (w5.resolve_left hb)
  rw [hb'] at hB
  simp only at hd
  unfold Cal.laterR
  rw [if_neg hb]
  simp only
  split at hd
  · rename_i hch
    rw [if_pos hch]
    repeat' first
      | ((with_reducible refine wr_isCall ?_); refine wr_ret hB ?_)
      | ((with_reducible refine wr_isCall ?_); refine wr_P hd (n2 _) ?_)
      | ((with_reducible refine t_isDraw ?_); refine t_draw1 hm (by kernel_rfl) ?_)
      | (with_reducible refine t_seq ?_)
      | (with_reducible refine t_skip ?_)
      | (with_reducible refine t_ret ?_)
      | (with_reducible refine t_end ?_)
      | (with_reducible refine t_cond ?_)
      | (with_reducible refine t_region ?_)
      | (with_reducible refine wr_done ?_)
      | ((with_reducible refine t_isDraw ?_); refine t_draw rfl (by kernel_rfl) ?_)
      | (with_reducible refine WD.done _ ?_)
      | (with_reducible refine wdp_done ?_)
      | (with_reducible refine tr_some ?_)
      | ((fail_if_success with_reducible refine t_bl ?_); (with_reducible refine t_block ?_))
      | (with_reducible refine t_inBlock ?_)
      | ((with_reducible refine t_isExit ?_); refine t_exit rfl ?_)
      | simp only [decide_eq_true_eq, decide_eq_false_iff_not, Bool.not_eq_true', Bool.not_eq_false'] at *
      | simp (disch := omega) only [go_sem, Nat.reduceLT, Nat.reduceEqDiff, Nat.reduceAdd, Nat.reduceLeDiff, Nat.reduceMul, Int.reduceLT, Int.reduceLE, Int.reduceAdd, Int.reduceSub, Int.reduceNeg, Int.reduceToNat, Int.reduceBEq, Int.reduceEq, reduceCtorEq, List.take_succ_cons, List.take_zero, List.take_nil, List.drop_succ_cons, List.drop_nil, List.cons_append, List.nil_append, List.set_cons_zero, List.set_cons_succ, ↓reduceIte, *]
      | (with_reducible refine tb_true ?_)
      | (with_reducible refine tb_false ?_)
      | (with_reducible refine tb_split (fun _ => ?_) (fun _ => ?_))
      | (with_reducible refine wg_f (fun _ => ?_) (fun _ => ?_))
      | (with_reducible refine wg_t (fun _ => ?_) (fun _ => ?_))
      | (with_reducible refine wd_f (fun _ => ?_) (fun _ => ?_))
      | (with_reducible refine wd_t (fun _ => ?_) (fun _ => ?_))
    all_goals exact ⟨rfl, rfl⟩
  · rename_i hch
    rw [if_neg hch]
    repeat' first
      | ((with_reducible refine wr_isCall ?_); refine wr_ret hB ?_)
      | ((with_reducible refine wr_isCall ?_); refine wr_P hd (n2 _) ?_)
      | ((with_reducible refine t_isDraw ?_); refine t_draw1 hm (by kernel_rfl) ?_)
      | (with_reducible refine t_seq ?_)
      | (with_reducible refine t_skip ?_)
      | (with_reducible refine t_ret ?_)
      | (with_reducible refine t_end ?_)
      | (with_reducible refine t_cond ?_)
      | (with_reducible refine t_region ?_)
      | (with_reducible refine wr_done ?_)
      | ((with_reducible refine t_isDraw ?_); refine t_draw rfl (by kernel_rfl) ?_)
      | (with_reducible refine WD.done _ ?_)
      | (with_reducible refine wdp_done ?_)
      | (with_reducible refine tr_some ?_)
      | ((fail_if_success with_reducible refine t_bl ?_); (with_reducible refine t_block ?_))
      | (with_reducible refine t_inBlock ?_)
      | ((with_reducible refine t_isExit ?_); refine t_exit rfl ?_)
      | simp only [decide_eq_true_eq, decide_eq_false_iff_not, Bool.not_eq_true', Bool.not_eq_false'] at *
      | simp (disch := omega) only [go_sem, Nat.reduceLT, Nat.reduceEqDiff, Nat.reduceAdd, Nat.reduceLeDiff, Nat.reduceMul, Int.reduceLT, Int.reduceLE, Int.reduceAdd, Int.reduceSub, Int.reduceNeg, Int.reduceToNat, Int.reduceBEq, Int.reduceEq, reduceCtorEq, List.take_succ_cons, List.take_zero, List.take_nil, List.drop_succ_cons, List.drop_nil, List.cons_append, List.nil_append, List.set_cons_zero, List.set_cons_succ, ↓reduceIte, *]
      | (with_reducible refine tb_true ?_)
      | (with_reducible refine tb_false ?_)
      | (with_reducible refine tb_split (fun _ => ?_) (fun _ => ?_))
      | (with_reducible refine wg_f (fun _ => ?_) (fun _ => ?_))
      | (with_reducible refine wg_t (fun _ => ?_) (fun _ => ?_))
      | (with_reducible refine wd_f (fun _ => ?_) (fun _ => ?_))
      | (with_reducible refine wd_t (fun _ => ?_) (fun _ => ?_))
    all_goals exact ⟨rfl, rfl⟩
end Go.Proofs.YtkokongbnemkhaaGreatDoorA
