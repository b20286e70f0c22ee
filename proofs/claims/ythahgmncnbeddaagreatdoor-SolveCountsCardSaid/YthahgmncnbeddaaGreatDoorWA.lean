/- strings.Builder: what copyCheck and String do. -/
import Derived.Test.YthahgmncnbeddaaGreatDoorMC
import Derived.Test.YthahgmncnbeddaaGreatDoorPFx
import Derived.Test.YthahgmncnbeddaaGreatDoorPShelf
import Derived.Lib.AppendIntMem
import Derived.Lib.SmallJoins
import Derived.Lib.AtoiErrMem
import Derived.Test.YthahgmncnbeddaaGreatDoorME
import Derived.Lib.Builder
import Derived.Lib.UnsafeStr
import Derived.Laws.Externs
import Derived.WalkKit
import Derived.Shelf.RegionOpenPlain
import Derived.Laws.IdiomCopy
import Derived.Laws.Rows
set_option linter.unusedVariables false
set_option linter.unusedSimpArgs false
namespace Go.Proofs.YthahgmncnbeddaaGreatDoorA
open Go Go.RowKit Go.Proofs.YthahgmncnbeddaaGreatDoorFx Go.Proofs
attribute [local go_sem] List.take_succ_cons List.take_zero List.take_nil List.drop_succ_cons List.drop_nil List.cons_append List.nil_append List.set_cons_zero List.set_cons_succ
noncomputable def E0 : Env := ⟨Tryz.prog, fun _ => none, fun _ _ => none⟩
@[go_sem] theorem e0P : E0.P = Tryz.prog := rfl
theorem e0 : ModOk E0 := fun f args r h => by cases h
def letterB (n : Int) : Bool := decide (97 ≤ n) && decide (n ≤ 122)
def digitB (n : Int) : Bool := decide (48 ≤ n) && decide (n ≤ 57)
theorem letter (n : Int) : MeetsP Tryz.prog (fun _ => none) 116 [.i .u8 n] (.b (letterB n)) := by
  refine meetsP (E := E0) 9 [.tmp 2] e0 Tryz.func116 rfl (by decide) rfl rfl (by simp) ?_
  repeat' first | (with_reducible first | refine t_seq ?_ | refine t_skip ?_ | refine t_ret ?_ | refine t_end ?_ | refine t_cond ?_ | refine t_region ?_ | refine wr_done ?_ | refine WD.done _ ?_ | refine wdp_done ?_ | refine tr_some ?_ | refine t_inBlock ?_) | ((with_reducible refine t_isDraw ?_); refine t_draw rfl (by kernel_rfl) ?_) | ((fail_if_success with_reducible refine t_bl ?_); (with_reducible refine t_block ?_)) | ((with_reducible refine t_isExit ?_); refine t_exit rfl ?_) | simp only [decide_eq_true_eq, decide_eq_false_iff_not, Bool.not_eq_true', Bool.not_eq_false'] at * | simp (disch := omega) only [go_sem, Nat.reduceLT, Nat.reduceEqDiff, Nat.reduceAdd, Nat.reduceLeDiff, Nat.reduceMul, Int.reduceLT, Int.reduceLE, Int.reduceAdd, Int.reduceSub, Int.reduceNeg, Int.reduceToNat, Int.reduceBEq, Int.reduceEq, reduceCtorEq, ↓reduceIte, *] | (with_reducible first | refine tb_true ?_ | refine tb_false ?_) | ((with_reducible first | refine tb_split ?_ ?_ | refine wg_f ?_ ?_ | refine wg_t ?_ ?_ | refine wd_f ?_ ?_ | refine wd_t ?_ ?_) <;> intro _)
  all_goals exact ⟨by simp [fz, letterB, *], rfl⟩
theorem digit (n : Int) : MeetsP Tryz.prog (fun _ => none) 119 [.i .u8 n] (.b (digitB n)) := by
  refine meetsP (E := E0) 9 [.tmp 2] e0 Tryz.func119 rfl (by decide) rfl rfl (by simp) ?_
  repeat' first | (with_reducible first | refine t_seq ?_ | refine t_skip ?_ | refine t_ret ?_ | refine t_end ?_ | refine t_cond ?_ | refine t_region ?_ | refine wr_done ?_ | refine WD.done _ ?_ | refine wdp_done ?_ | refine tr_some ?_ | refine t_inBlock ?_) | ((with_reducible refine t_isDraw ?_); refine t_draw rfl (by kernel_rfl) ?_) | ((fail_if_success with_reducible refine t_bl ?_); (with_reducible refine t_block ?_)) | ((with_reducible refine t_isExit ?_); refine t_exit rfl ?_) | simp only [decide_eq_true_eq, decide_eq_false_iff_not, Bool.not_eq_true', Bool.not_eq_false'] at * | simp (disch := omega) only [go_sem, Nat.reduceLT, Nat.reduceEqDiff, Nat.reduceAdd, Nat.reduceLeDiff, Nat.reduceMul, Int.reduceLT, Int.reduceLE, Int.reduceAdd, Int.reduceSub, Int.reduceNeg, Int.reduceToNat, Int.reduceBEq, Int.reduceEq, reduceCtorEq, ↓reduceIte, *] | (with_reducible first | refine tb_true ?_ | refine tb_false ?_) | ((with_reducible first | refine tb_split ?_ ?_ | refine wg_f ?_ ?_ | refine wg_t ?_ ?_ | refine wd_f ?_ ?_ | refine wd_t ?_ ?_) <;> intro _)
  all_goals exact ⟨by simp [fz, digitB, *], rfl⟩
def M1 : FuncId → List AV → Option AV
  | 116, [.i .u8 n] => some (.b (letterB n))
  | 119, [.i .u8 n] => some (.b (digitB n))
  | _, _ => none
noncomputable def E1 : Env := ⟨Tryz.prog, fun _ => none, M1⟩
@[go_sem] theorem e1P : E1.P = Tryz.prog := rfl
@[go_sem] theorem e1M : E1.M = M1 := rfl
@[go_sem] theorem m1l (n : Int) : M1 116 [.i .u8 n] = some (.b (letterB n)) := rfl
@[go_sem] theorem m1d (n : Int) : M1 119 [.i .u8 n] = some (.b (digitB n)) := rfl
@[go_sem] theorem e1cl (h : Hp) (n : Int) : callA E1 h 116 [.i .u8 n] = .val (.b (letterB n)) h := rfl
@[go_sem] theorem e1cd (h : Hp) (n : Int) : callA E1 h 119 [.i .u8 n] = .val (.b (digitB n)) h := rfl
theorem e1 : ModOk E1 := fun f args r h => by
  change M1 f args = some r at h
  unfold M1 at h
  split at h
  · cases h; exact letter _
  · cases h; exact digit _
  · cases h
/-- Where the blanks behind place n end. -/
def skipN (s : List UInt8) (n : Nat) : Nat := n + ((s.drop n).takeWhile fun b => b.toNat == 32).length
theorem skip_step {s : List UInt8} {n : Nat} (h : n < s.length) (h1 : (s[n].toNat : Int) = 32) : skipN s (n + 1) = skipN s n := by
  unfold skipN
  rw [List.drop_eq_getElem_cons h, List.takeWhile_cons, if_pos (by simp; omega), List.length_cons]
  omega
theorem skip_stop {s : List UInt8} {n : Nat} (h1 : ∀ h : n < s.length, ¬ (s[n].toNat : Int) = 32) : skipN s n = n := by
  unfold skipN
  by_cases h : n < s.length
  · rw [List.drop_eq_getElem_cons h, List.takeWhile_cons, if_neg (by have := h1 h; simp; omega)]; rfl
  · rw [List.drop_eq_nil_of_le (by omega)]; rfl
theorem skip_le {s : List UInt8} {n : Nat} (h : n ≤ s.length) : skipN s n ≤ s.length := by
  unfold skipN
  have := (List.takeWhile_sublist (l := s.drop n) (fun b => b.toNat == 32)).length_le
  rw [List.length_drop] at this
  omega
/-- What a parser holds. -/
def pars (s : List UInt8) (n : Nat) (o : Int) : Ent := .rows 3 [[.s s, .i .i64 n, .i .i64 o]]
set_option maxRecDepth 100000 in
theorem blanks {c : List (Nat × Ent)} {id m n : Nat} {s : List UInt8} {o : Int} (hl : look c id = some (pars s n o)) (hn : n ≤ s.length) (hs : s.length ≤ 140737488355328) :
    MeetsH E1 118 [.ptr id 0 0] ⟨c, m⟩ (Is (.ret (.tup [])) ⟨upd c id (pars s (skipN s n) o), m⟩) := by
  refine meetsH (E := E1) 31 [] Tryz.func118 rfl (by decide) rfl rfl (by simp) ?_
  have hu : ∀ k l, look (upd c id (.rows k l)) id = some (.rows k l) := fun k l => look_updR k l hl
  repeat' first | (with_reducible first | refine t_seq ?_ | refine t_skip ?_ | refine t_ret ?_ | refine t_end ?_ | refine t_cond ?_ | refine t_region ?_ | refine wr_done ?_ | refine WD.done _ ?_ | refine wdp_done ?_ | refine tr_some ?_ | refine t_inBlock ?_) | ((with_reducible refine t_isDraw ?_); refine t_draw rfl (by kernel_rfl) ?_) | ((fail_if_success with_reducible refine t_bl ?_); (with_reducible refine t_block ?_)) | ((with_reducible refine t_isExit ?_); refine t_exit rfl ?_) | simp only [decide_eq_true_eq, decide_eq_false_iff_not, Bool.not_eq_true', Bool.not_eq_false'] at * | simp (disch := omega) only [go_sem, Nat.reduceLT, Nat.reduceEqDiff, Nat.reduceAdd, Nat.reduceLeDiff, Nat.reduceMul, Int.reduceLT, Int.reduceLE, Int.reduceAdd, Int.reduceSub, Int.reduceNeg, Int.reduceToNat, Int.reduceBEq, Int.reduceEq, reduceCtorEq, ↓reduceIte, *] | (with_reducible first | refine tb_true ?_ | refine tb_false ?_) | ((with_reducible first | refine tb_split ?_ ?_ | refine wg_f ?_ ?_ | refine wg_t ?_ ?_ | refine wd_f ?_ ?_ | refine wd_t ?_ ?_) <;> intro _)
  refine t_block ?_
  refine t_inv (I := fun (i : Nat) t h => n ≤ i ∧ i ≤ s.length ∧ skipN s i = skipN s n ∧ h = ⟨upd c id (pars s i o), m⟩ ∧ get t 0 = .ptr id 0 0) (m := fun i => s.length - i) n ⟨by omega, by omega, rfl, by rw [upd_same hl], rfl⟩ ?_
  rintro i t h ⟨hi, hi2, hk, rfl, h0⟩ hrec
  simp only [pars] at *
  repeat' first | (with_reducible first | refine t_seq ?_ | refine t_skip ?_ | refine t_ret ?_ | refine t_end ?_ | refine t_cond ?_ | refine t_region ?_ | refine wr_done ?_ | refine WD.done _ ?_ | refine wdp_done ?_ | refine tr_some ?_ | refine t_inBlock ?_) | ((with_reducible refine t_isDraw ?_); refine t_draw rfl (by kernel_rfl) ?_) | ((fail_if_success with_reducible refine t_bl ?_); (with_reducible refine t_block ?_)) | ((with_reducible refine t_isExit ?_); refine t_exit rfl ?_) | simp only [decide_eq_true_eq, decide_eq_false_iff_not, Bool.not_eq_true', Bool.not_eq_false'] at * | simp (disch := omega) only [go_sem, Nat.reduceLT, Nat.reduceEqDiff, Nat.reduceAdd, Nat.reduceLeDiff, Nat.reduceMul, Int.reduceLT, Int.reduceLE, Int.reduceAdd, Int.reduceSub, Int.reduceNeg, Int.reduceToNat, Int.reduceBEq, Int.reduceEq, reduceCtorEq, ↓reduceIte, *] | (with_reducible first | refine tb_true ?_ | refine tb_false ?_) | ((with_reducible first | refine tb_split ?_ ?_ | refine wg_f ?_ ?_ | refine wg_t ?_ ?_ | refine wd_f ?_ ?_ | refine wd_t ?_ ?_) <;> intro _)
  · rename_i q1 q2
    exact hrec (i + 1) _ _ ⟨by omega, by omega, (skip_step (by omega) q2).trans hk, by simp [upd_upd], by simp [get, h0]⟩ (by omega)
  · rename_i q1 q2
    exact ⟨rfl, by rw [← hk, skip_stop (fun _ => q2)]⟩
  · rename_i q1
    exact ⟨rfl, by rw [← hk, skip_stop (fun h => absurd h (by omega))]⟩
end Go.Proofs.YthahgmncnbeddaaGreatDoorA
set_option linter.unusedVariables false
set_option linter.unusedSimpArgs false
namespace Go.Proofs.YthahgmncnbeddaaGreatDoorA
open Go Go.RowKit Go.Proofs.YthahgmncnbeddaaGreatDoorFx Go.Proofs
attribute [local go_sem] List.take_succ_cons List.take_zero List.take_nil List.drop_succ_cons List.drop_nil List.cons_append List.nil_append List.set_cons_zero List.set_cons_succ
/-- Where a run of bytes ends. -/
def runE' (p : Int → Bool) (s : List UInt8) (n : Nat) : Nat := n + ((s.drop n).takeWhile fun b => p b.toNat).length
theorem run_step {p : Int → Bool} {s : List UInt8} {n : Nat} (h : n < s.length) (h1 : p s[n].toNat = true) : runE' p s (n + 1) = runE' p s n := by
  unfold runE'
  rw [List.drop_eq_getElem_cons h, List.takeWhile_cons, if_pos h1, List.length_cons]
  omega
theorem run_stop {p : Int → Bool} {s : List UInt8} {n : Nat} (h1 : ∀ h : n < s.length, p s[n].toNat = false) : runE' p s n = n := by
  unfold runE'
  by_cases h : n < s.length
  · rw [List.drop_eq_getElem_cons h, List.takeWhile_cons, if_neg (by rw [h1 h]; simp)]; rfl
  · rw [List.drop_eq_nil_of_le (by omega)]; rfl
theorem run_ge {p : Int → Bool} {s : List UInt8} {n : Nat} : n ≤ runE' p s n := Nat.le_add_right ..
theorem run_le {p : Int → Bool} {s : List UInt8} {n : Nat} (h : n ≤ s.length) : runE' p s n ≤ s.length := by
  unfold runE'
  have := (List.takeWhile_sublist (l := s.drop n) (fun b => p b.toNat)).length_le
  rw [List.length_drop] at this
  omega
def wordE (s : List UInt8) (a : Nat) : Nat := if runE' letterB s a = a then (if runE' digitB s a = a then a + 1 else runE' digitB s a) else runE' letterB s a
def wordS (s : List UInt8) (n : Nat) : List UInt8 := if skipN s n = s.length then [] else (s.take (wordE s (skipN s n))).drop (skipN s n)
set_option maxRecDepth 100000 in
theorem word {c : List (Nat × Ent)} {id m n : Nat} {s : List UInt8} {o : Int} (hl : look c id = some (pars s n o)) (hn : n ≤ s.length) (hs : s.length ≤ 140737488355328) :
    MeetsH E1 100 [.ptr id 0 0] ⟨c, m⟩ (Is (.ret (.s (wordS s n))) ⟨upd c id (pars s (skipN s n) o), m⟩) := by
  refine meetsH (E := E1) 80 [.tmp 2] Tryz.func100 rfl (by decide) rfl rfl (by simp) ?_
  have hu : ∀ k l, look (upd c id (.rows k l)) id = some (.rows k l) := fun k l => look_updR k l hl
  have hb := blanks (m := m) hl hn hs
  have ha := skip_le hn
  have hw : wordS s n = if skipN s n = s.length then [] else (s.take (wordE s (skipN s n))).drop (skipN s n) := rfl
  rw [hw]
  clear hw
  generalize skipN s n = a at *
  simp only [pars] at *
  repeat' first | ((with_reducible refine wr_isCall ?_); refine wr_ret hb ?_) | (with_reducible first | refine t_seq ?_ | refine t_skip ?_ | refine t_ret ?_ | refine t_end ?_ | refine t_cond ?_ | refine t_region ?_ | refine wr_done ?_ | refine WD.done _ ?_ | refine wdp_done ?_ | refine tr_some ?_ | refine t_inBlock ?_) | ((with_reducible refine t_isDraw ?_); refine t_draw rfl (by kernel_rfl) ?_) | ((fail_if_success with_reducible refine t_bl ?_); (with_reducible refine t_block ?_)) | ((with_reducible refine t_isExit ?_); refine t_exit rfl ?_) | simp only [decide_eq_true_eq, decide_eq_false_iff_not, Bool.not_eq_true', Bool.not_eq_false'] at * | simp (disch := omega) only [go_sem, Nat.reduceLT, Nat.reduceEqDiff, Nat.reduceAdd, Nat.reduceLeDiff, Nat.reduceMul, Int.reduceLT, Int.reduceLE, Int.reduceAdd, Int.reduceSub, Int.reduceNeg, Int.reduceToNat, Int.reduceBEq, Int.reduceEq, reduceCtorEq, ↓reduceIte, *] | (with_reducible first | refine tb_true ?_ | refine tb_false ?_) | ((with_reducible first | refine tb_split ?_ ?_ | refine wg_f ?_ ?_ | refine wg_t ?_ ?_ | refine wd_f ?_ ?_ | refine wd_t ?_ ?_) <;> intro _)
  · rename_i q
    exact ⟨by rw [if_pos (by omega)], rfl⟩
  · rename_i q
    rw [if_neg (by omega)]
    refine t_while (I := fun (i : Nat) t h => a ≤ i ∧ i ≤ s.length ∧ runE' letterB s i = runE' letterB s a ∧ h = ⟨upd c id (pars s a o), m⟩ ∧ get t 0 = .ptr id 0 0 ∧ get t 3 = .i .i64 i) (m := fun i => s.length - i) (J := fun t h => h = ⟨upd c id (pars s a o), m⟩ ∧ get t 0 = .ptr id 0 0 ∧ get t 3 = .i .i64 (runE' letterB s a)) a ⟨by omega, by omega, rfl, rfl, by simp [get], by simp [get]⟩ ?_ ?_
    · rintro i t h ⟨hi, hi2, hk, rfl, h0, h3⟩ hrec hex
      simp only [pars] at *
      repeat' first | refine hex _ _ ?_ | (with_reducible first | refine t_seq ?_ | refine t_skip ?_ | refine t_ret ?_ | refine t_end ?_ | refine t_cond ?_ | refine t_region ?_ | refine wr_done ?_ | refine WD.done _ ?_ | refine wdp_done ?_ | refine tr_some ?_ | refine t_inBlock ?_) | ((with_reducible refine t_isDraw ?_); refine t_draw rfl (by kernel_rfl) ?_) | ((fail_if_success with_reducible refine t_bl ?_); (with_reducible refine t_block ?_)) | ((with_reducible refine t_isExit ?_); refine t_exit rfl ?_) | simp only [decide_eq_true_eq, decide_eq_false_iff_not, Bool.not_eq_true', Bool.not_eq_false'] at * | simp (disch := omega) only [go_sem, Nat.reduceLT, Nat.reduceEqDiff, Nat.reduceAdd, Nat.reduceLeDiff, Nat.reduceMul, Int.reduceLT, Int.reduceLE, Int.reduceAdd, Int.reduceSub, Int.reduceNeg, Int.reduceToNat, Int.reduceBEq, Int.reduceEq, reduceCtorEq, ↓reduceIte, *] | (with_reducible first | refine tb_true ?_ | refine tb_false ?_) | ((with_reducible first | refine tb_split ?_ ?_ | refine wg_f ?_ ?_ | refine wg_t ?_ ?_ | refine wd_f ?_ ?_ | refine wd_t ?_ ?_) <;> intro _)
      · rename_i q1 q2
        exact hrec (i + 1) _ _ ⟨by omega, by omega, (run_step (by omega) q2).trans hk, rfl, by simp [get, h0], by simp [get]⟩ (by omega)
      · rename_i q1 q2
        exact ⟨by simp, by simp [get, h0], by simp [get, h3]; rw [← hk, run_stop (fun _ => q2)]⟩
      · rename_i q1
        exact ⟨by simp, by simp [get, h0], by simp [get, h3]; rw [← hk, run_stop (fun h => absurd h (by omega))]⟩
    · rintro t h ⟨rfl, h0, h3⟩
      simp only [pars] at *
      have g1 : a ≤ runE' letterB s a := run_ge
      have g2 := run_le (p := letterB) ha
      repeat' first | (with_reducible first | refine t_seq ?_ | refine t_skip ?_ | refine t_ret ?_ | refine t_end ?_ | refine t_cond ?_ | refine t_region ?_ | refine wr_done ?_ | refine WD.done _ ?_ | refine wdp_done ?_ | refine tr_some ?_ | refine t_inBlock ?_) | ((with_reducible refine t_isDraw ?_); refine t_draw rfl (by kernel_rfl) ?_) | ((fail_if_success with_reducible refine t_bl ?_); (with_reducible refine t_block ?_)) | ((with_reducible refine t_isExit ?_); refine t_exit rfl ?_) | simp only [decide_eq_true_eq, decide_eq_false_iff_not, Bool.not_eq_true', Bool.not_eq_false'] at * | simp (disch := omega) only [go_sem, Nat.reduceLT, Nat.reduceEqDiff, Nat.reduceAdd, Nat.reduceLeDiff, Nat.reduceMul, Int.reduceLT, Int.reduceLE, Int.reduceAdd, Int.reduceSub, Int.reduceNeg, Int.reduceToNat, Int.reduceBEq, Int.reduceEq, reduceCtorEq, ↓reduceIte, *] | (with_reducible first | refine tb_true ?_ | refine tb_false ?_) | ((with_reducible first | refine tb_split ?_ ?_ | refine wg_f ?_ ?_ | refine wg_t ?_ ?_ | refine wd_f ?_ ?_ | refine wd_t ?_ ?_) <;> intro _)
      · rename_i q
        refine t_while (I := fun (i : Nat) t h => a ≤ i ∧ i ≤ s.length ∧ runE' digitB s i = runE' digitB s a ∧ h = ⟨upd c id (pars s a o), m⟩ ∧ get t 0 = .ptr id 0 0 ∧ get t 3 = .i .i64 i) (m := fun i => s.length - i) (J := fun t h => h = ⟨upd c id (pars s a o), m⟩ ∧ get t 0 = .ptr id 0 0 ∧ get t 3 = .i .i64 (runE' digitB s a)) a ⟨by omega, by omega, rfl, rfl, by simp [get, h0], by simp [get, h3, q]⟩ ?_ ?_
        · rintro i t h ⟨hi, hi2, hk, rfl, h0, h3⟩ hrec hex
          simp only [pars] at *
          repeat' first | refine hex _ _ ?_ | (with_reducible first | refine t_seq ?_ | refine t_skip ?_ | refine t_ret ?_ | refine t_end ?_ | refine t_cond ?_ | refine t_region ?_ | refine wr_done ?_ | refine WD.done _ ?_ | refine wdp_done ?_ | refine tr_some ?_ | refine t_inBlock ?_) | ((with_reducible refine t_isDraw ?_); refine t_draw rfl (by kernel_rfl) ?_) | ((fail_if_success with_reducible refine t_bl ?_); (with_reducible refine t_block ?_)) | ((with_reducible refine t_isExit ?_); refine t_exit rfl ?_) | simp only [decide_eq_true_eq, decide_eq_false_iff_not, Bool.not_eq_true', Bool.not_eq_false'] at * | simp (disch := omega) only [go_sem, Nat.reduceLT, Nat.reduceEqDiff, Nat.reduceAdd, Nat.reduceLeDiff, Nat.reduceMul, Int.reduceLT, Int.reduceLE, Int.reduceAdd, Int.reduceSub, Int.reduceNeg, Int.reduceToNat, Int.reduceBEq, Int.reduceEq, reduceCtorEq, ↓reduceIte, *] | (with_reducible first | refine tb_true ?_ | refine tb_false ?_) | ((with_reducible first | refine tb_split ?_ ?_ | refine wg_f ?_ ?_ | refine wg_t ?_ ?_ | refine wd_f ?_ ?_ | refine wd_t ?_ ?_) <;> intro _)
          · rename_i q1 q2
            exact hrec (i + 1) _ _ ⟨by omega, by omega, (run_step (by omega) q2).trans hk, rfl, by simp [get, h0], by simp [get]⟩ (by omega)
          · rename_i q1 q2
            exact ⟨by simp, by simp [get, h0], by simp [get, h3]; rw [← hk, run_stop (fun _ => q2)]⟩
          · rename_i q1
            exact ⟨by simp, by simp [get, h0], by simp [get, h3]; rw [← hk, run_stop (fun h => absurd h (by omega))]⟩
        · rintro t h ⟨rfl, h0, h3⟩
          simp only [pars] at *
          have g1 : a ≤ runE' digitB s a := run_ge
          have g2 := run_le (p := digitB) ha
          repeat' first | (with_reducible first | refine t_seq ?_ | refine t_skip ?_ | refine t_ret ?_ | refine t_end ?_ | refine t_cond ?_ | refine t_region ?_ | refine wr_done ?_ | refine WD.done _ ?_ | refine wdp_done ?_ | refine tr_some ?_ | refine t_inBlock ?_) | ((with_reducible refine t_isDraw ?_); refine t_draw rfl (by kernel_rfl) ?_) | ((fail_if_success with_reducible refine t_bl ?_); (with_reducible refine t_block ?_)) | ((with_reducible refine t_isExit ?_); refine t_exit rfl ?_) | simp only [decide_eq_true_eq, decide_eq_false_iff_not, Bool.not_eq_true', Bool.not_eq_false'] at * | simp (disch := omega) only [go_sem, Nat.reduceLT, Nat.reduceEqDiff, Nat.reduceAdd, Nat.reduceLeDiff, Nat.reduceMul, Int.reduceLT, Int.reduceLE, Int.reduceAdd, Int.reduceSub, Int.reduceNeg, Int.reduceToNat, Int.reduceBEq, Int.reduceEq, reduceCtorEq, ↓reduceIte, *] | (with_reducible first | refine tb_true ?_ | refine tb_false ?_) | ((with_reducible first | refine tb_split ?_ ?_ | refine wg_f ?_ ?_ | refine wg_t ?_ ?_ | refine wd_f ?_ ?_ | refine wd_t ?_ ?_) <;> intro _)
          · rename_i q1
            exact ⟨by rw [wordE, if_pos (by omega), if_pos (by omega)]; congr 2, rfl⟩
          · rename_i q1
            exact ⟨by rw [wordE, if_pos (by omega), if_neg (by omega)], rfl⟩
      · rename_i q
        exact ⟨by rw [wordE, if_neg (by omega)], rfl⟩
end Go.Proofs.YthahgmncnbeddaaGreatDoorA
set_option linter.unusedVariables false
set_option linter.unusedSimpArgs false
namespace Go.Proofs.YthahgmncnbeddaaGreatDoorA
open Go Go.RowKit Go.Proofs
theorem glob_cell {ok : Okc} {w : World} {g j : Nat} {row : List AV} {a : AV} (h : Rep ok w G0 (.pointer (some ⟨g, 0, none⟩)) (.ip row 0)) (hj : row[j]? = some a) : ∃ v, w.cell? ⟨g, j, none⟩ = some v ∧ Rep ok w G0 v a := by
  generalize hp : Value.pointer (some ⟨g, 0, none⟩) = p at h
  cases h with
  | ip _ _ _ bb o vs h1 h2 =>
    cases hp
    have hlt : j < row.length := (List.getElem?_eq_some_iff.1 hj).1
    exact ⟨vs j, by have := (h1 j hlt).1; simpa using this, h2 j a hj⟩
theorem glob_int {gl : Nat → Option (List AV)} {ok : Okc} {w : World} {g : Nat} {k : IntKind} {m : Int} (hg : Globs gl ok w) (h : gl g = some [.i k m]) : w.cell? ⟨g, 0, none⟩ = some (.int k m) := by
  obtain ⟨v, h1, h2⟩ := glob_cell (j := 0) (hg g _ h).1 rfl
  cases h2
  exact h1
theorem tab_of {P : Program} {gl : Nat → Option (List AV)} {ok : Okc} {w : World} {g : Nat} {name : String} {k : IntKind} {zs : List Int} (hg : Globs gl ok w) (h : gl g = some (zs.map fun z => AV.i k z)) (hn : P.globalNamed name = some g) : Lib.TabIs P w name k zs := by
  obtain ⟨h1, t, h2⟩ := hg g _ h
  unfold Lib.TabIs World.var?
  rw [hn]
  unfold World.shape? at h2
  split at h2
  · rename_i cs t' fz hq
    simp only [Option.some.injEq, Prod.mk.injEq, List.length_map] at h2
    simp only [Option.bind_some, hq]
    congr 1
    apply Array.ext
    · simpa using h2.2
    · intro j hj hj2
      have hz : j < zs.length := by simpa using hj2
      obtain ⟨v, q1, q2⟩ := glob_cell (j := j) (a := .i k zs[j]) h1 (by simp [hz])
      rw [cell_of_row w g j cs t' fz hq, Array.getElem?_eq_getElem hj] at q1
      cases q1
      generalize cs[j] = v at q2
      cases q2
      simp
  · cases h2
/-- A function that answers what names no memory. -/
theorem pure_of {P : Program} {gl : Nat → Option (List AV)} {f : FuncId} {args : List AV} {r : AV} (hb : HasBody P f) (hs : scal 12 r = true)
    (h : ∀ (ok : Okc) (w : World) (vals : Array Value), Globs gl ok w → vals.size = args.length → (∀ (j : Nat) v a, vals[j]? = some v → args[j]? = some a → Rep ok w G0 v a) → ∃ v, Rep ok w G0 v r ∧ Calls P f vals w fun e w' => e = .returned v ∧ Below w.heap.size w w') : MeetsP P gl f args r := by
  refine ⟨hb, fun ok w vals hg hlt hl hr => ?_⟩
  obtain ⟨v, rv, hc⟩ := h ok w vals hg hl hr
  refine hc.mono ?_
  rintro e w' ⟨rfl, B⟩
  exact ⟨v, ok, rfl, B, fun _ _ _ q => q, fun _ _ q => q, fun b i q => Nat.lt_of_lt_of_le (hlt b i q) B.size, scal_rep 12 v r hs rv⟩
theorem args1 {ok : Okc} {w : World} {vals : Array Value} {a : AV} (hl : vals.size = 1) (hr : ∀ (j : Nat) v b, vals[j]? = some v → [a][j]? = some b → Rep ok w G0 v b) : ∃ x, vals = #[x] ∧ Rep ok w G0 x a := by
  obtain ⟨l⟩ := vals
  match l, hl with
  | [x], _ => exact ⟨x, rfl, hr 0 x a rfl rfl⟩
theorem args2 {ok : Okc} {w : World} {vals : Array Value} {a b : AV} (hl : vals.size = 2) (hr : ∀ (j : Nat) v c, vals[j]? = some v → [a, b][j]? = some c → Rep ok w G0 v c) : ∃ x y, vals = #[x, y] ∧ Rep ok w G0 x a ∧ Rep ok w G0 y b := by
  obtain ⟨l⟩ := vals
  match l, hl with
  | [x, y], _ => exact ⟨x, y, rfl, hr 0 x a rfl rfl, hr 1 y b rfl rfl⟩
theorem args3 {ok : Okc} {w : World} {vals : Array Value} {a b c : AV} (hl : vals.size = 3) (hr : ∀ (j : Nat) v d, vals[j]? = some v → [a, b, c][j]? = some d → Rep ok w G0 v d) : ∃ x y z, vals = #[x, y, z] ∧ Rep ok w G0 x a ∧ Rep ok w G0 y b ∧ Rep ok w G0 z c := by
  obtain ⟨l⟩ := vals
  match l, hl with
  | [x, y, z], _ => exact ⟨x, y, z, rfl, hr 0 x a rfl rfl, hr 1 y b rfl rfl, hr 2 z c rfl rfl⟩
theorem rep_s {ok : Okc} {w : World} {G : Gh} (l : List UInt8) : Rep ok w G (.string ⟨l.toArray⟩) (.s l) := .s G ⟨l.toArray⟩
variable {gl : Nat → Option (List AV)}
theorem cutP {m : Int} (hm : gl 6 = some [.i .i64 m]) {a b : List UInt8} (ha : a.length < 4294967281) : MeetsP Tryz.prog gl 75 [.s a, .s b] (.tup [.s (Lib.cut a b).1, .s (Lib.cut a b).2.1, .b (Lib.cut a b).2.2]) := by
  refine pure_of ⟨_, Tryz.func75, rfl, by decide⟩ rfl (fun ok w vals hg hl hr => ?_)
  obtain ⟨x, y, rfl, r0, r1⟩ := args2 hl hr
  cases r0 with
  | s _ s => cases r1 with
    | s _ t =>
      refine ⟨.tuple #[.string ⟨(Lib.cut s.data.toList t.data.toList).1.toArray⟩, .string ⟨(Lib.cut s.data.toList t.data.toList).2.1.toArray⟩, .bool (Lib.cut s.data.toList t.data.toList).2.2], ?_, (Tryz.strings_Cut s t m w (by rw [size_str]; omega) (glob_int hg hm)).mono ?_⟩
      · refine .tup _ _ _ (by simp) (fun j v c e e' => ?_)
        match j, e, e' with
        | 0, e, e' => cases e; cases e'; exact rep_s _
        | 1, e, e' => cases e; cases e'; exact rep_s _
        | 2, e, e' => cases e; cases e'; exact .b ..
        | n + 3, e, e' => simp at e
      · rintro e w' ⟨rfl, n, rfl⟩
        exact ⟨rfl, ⟨rfl, rfl, rfl, Nat.le_refl _, fun _ _ => rfl⟩⟩
theorem atoiP {a : List UInt8} {n : Int} (ha : a.length ≤ 18) (h : Lib.atoi a = some n) : MeetsP Tryz.prog gl 135 [.s a] (.tup [.i .i64 n, .ni]) := by
  refine pure_of ⟨_, Tryz.func135, rfl, by decide⟩ rfl (fun ok w vals hg hl hr => ?_)
  obtain ⟨x, rfl, r0⟩ := args1 hl hr
  cases r0 with
  | s _ s =>
    refine ⟨.tuple #[.int .i64 n, .nilIface], ?_, (Tryz.strconv_Atoi s n (by rw [size_str]; omega) h w).mono ?_⟩
    · refine .tup _ _ _ (by simp) (fun j v c e e' => ?_)
      match j, e, e' with
      | 0, e, e' => cases e; cases e'; exact .i ..
      | 1, e, e' => cases e; cases e'; exact .ni _
      | n + 2, e, e' => simp at e
    · rintro e w' ⟨rfl, t, rfl⟩
      exact ⟨rfl, Lib.bytesWorld_below _ _ _⟩
theorem itoaP (htab : gl 7 = some (Lib.pow10Tab.map fun z => AV.i .u64 z)) {n : Int} (h0 : -9223372036854775808 ≤ n) (h1 : n ≤ 9223372036854775807) : MeetsP Tryz.prog gl 72 [.i .i64 n] (.s (Lib.itoa n)) := by
  refine pure_of ⟨_, Tryz.func72, rfl, by decide⟩ rfl (fun ok w vals hg hl hr => ?_)
  obtain ⟨x, rfl, r0⟩ := args1 hl hr
  cases r0
  refine ⟨.string ⟨(Lib.itoa n).toArray⟩, rep_s _, (Tryz.strconv_Itoa n h0 h1 w (tab_of hg htab (by kernel_rfl))).mono ?_⟩
  rintro e w' ⟨rfl, k, os, rfl⟩
  exact ⟨rfl, Lib.below_grow _ _ (Nat.le_refl _) _ _⟩
theorem replaceP {m : Int} (hm : gl 6 = some [.i .i64 m]) {a b c : List UInt8} (ha : a.length < 4294967281) (hb : 1 ≤ b.length) (hc : a.length + Lib.countB ⟨a.toArray⟩ ⟨b.toArray⟩ * c.length ≤ 140737488355328) : MeetsP Tryz.prog gl 73 [.s a, .s b, .s c] (.s (Lib.replaceAll a b c)) := by
  refine pure_of ⟨_, Tryz.func73, rfl, by decide⟩ rfl (fun ok w vals hg hl hr => ?_)
  obtain ⟨x, y, z, rfl, r0, r1, r2⟩ := args3 hl hr
  cases r0 with
  | s _ s => cases r1 with
    | s _ t => cases r2 with
      | s _ u =>
        refine ⟨_, rep_s _, (Tryz.strings_ReplaceAll s t u m w (by rw [size_str]; omega) (glob_int hg hm) (by rw [size_str]; omega) (by rw [size_str s, size_str u]; exact hc)).mono ?_⟩
        rintro e w' ⟨rfl, B⟩
        exact ⟨rfl, B⟩
theorem fieldsP (htab : gl 1 = some (Lib.asciiSpaceTab.map fun z => AV.i .u8 z)) {a : List UInt8} (ha : a.length < 4294967281) (hascii : ∀ b ∈ a, b.toNat < 128) :
    MeetsP Tryz.prog gl 69 [.s a] (.isl true 1 ((Lib.fields a).map fun l => [AV.s l])) := by
  refine ⟨⟨_, Tryz.func69, rfl, by decide⟩, fun ok w vals hg hlt hl hr => ?_⟩
  obtain ⟨x, rfl, r0⟩ := args1 hl hr
  cases r0 with
  | s _ s =>
    refine (Tryz.strings_Fields s w (by rw [size_str]; omega) (fun j b hb => hascii b (List.mem_of_getElem? hb)) (tab_of hg htab (by kernel_rfl))).mono ?_
    rintro e w' ⟨rfl, rfl⟩
    generalize Lib.fields s.data.toList = L
    have hB : Below w.heap.size w (w.alloc (.cells (L.map fun l => Value.string ⟨l.toArray⟩).toArray 9)) := (Below.refl _ _).alloc (Nat.le_refl _) _
    have hheap : (w.alloc (.cells (L.map fun l => Value.string ⟨l.toArray⟩).toArray 9)).heap[w.heap.size]? = some (.cells (L.map fun l => Value.string ⟨l.toArray⟩).toArray 9 (0, 0)) := by
      rw [show (w.alloc (.cells (L.map fun l => Value.string ⟨l.toArray⟩).toArray 9)).heap = w.heap.push (.cells (L.map fun l => Value.string ⟨l.toArray⟩).toArray 9) from rfl]
      simp
    refine ⟨_, fun b i => ok b i ∨ b = w.heap.size, rfl, hB, fun b i q1 q2 => ?_, fun b i q => .inl q, fun b i q => ?_, ?_⟩
    · rcases q2 with q2 | q2
      · exact q2
      · omega
    · have := hB.size
      rcases q with q | q
      · have := hlt b i q; omega
      · subst q; simp
    · refine .isl _ true 1 _ _ w.heap.size 0 L.length (fun i _ => ((L.map fun l => Value.string ⟨l.toArray⟩)[i]?).getD undef) (by simp) (by simp) (fun row hrow => ?_) (fun i row hi j hj => ?_) (fun i row hi j b hb => ?_)
      · obtain ⟨l, _, rfl⟩ := List.mem_map.1 hrow; rfl
      · rw [List.getElem?_map] at hi
        cases hl' : L[i]? with
        | none => rw [hl'] at hi; cases hi
        | some l =>
          rw [hl'] at hi
          cases hi
          have : j = 0 := by simpa using hj
          subst this
          refine ⟨?_, .inr rfl, ?_⟩
          · rw [cell_of_row _ _ _ _ _ _ hheap]
            simp [hl']
          · simp [hl', Value.oneCell']
      · rw [List.getElem?_map] at hi
        cases hl' : L[i]? with
        | none => rw [hl'] at hi; cases hi
        | some l =>
          rw [hl'] at hi
          cases hi
          match j, hb with
          | 0, hb => cases hb; simp only [List.getElem?_map, hl', Option.map_some, Option.getD_some]; exact rep_s l
          | n + 1, hb => simp at hb
end Go.Proofs.YthahgmncnbeddaaGreatDoorA
set_option linter.unusedVariables false
set_option linter.unusedSimpArgs false
namespace Go.Proofs.YthahgmncnbeddaaGreatDoorA
open Go Go.RowKit Go.Proofs
theorem lies0 {P : Program} {e : TypeId} {c : Nat} (hc : P.cellsOf e = c) (h0 : 0 < c) (count n : Nat) (hn : n ≤ count) : liesAt P P.depth e count 0 e n = true := by
  have hd : P.depth = (2 * (P.types.size + Made.depth) + 1) + 1 := rfl
  have h1 : ¬ c = 0 := by omega
  rw [hd]
  simp only [liesAt, Bool.or_eq_true]
  left
  rw [hd]
  simp [rowAt, hc, hn, sameLayout, h1]
theorem szB : (Tryz.prog.info? 114).map (·.size) = some 2 := by kernel_rfl
theorem clB : Tryz.prog.cellsOf 114 = 2 := by kernel_rfl
set_option maxHeartbeats 1000000 in
set_option maxRecDepth 100000 in
theorem copyCheck_used (b : Nat) (w : World) (h0 : w.cell? ⟨b, 0, none⟩ = some (.pointer (some ⟨b, 0, none⟩))) :
    Calls Tryz.prog 91 #[.pointer (some ⟨b, 0, none⟩)] w fun e w' => e = .returned (.tuple #[]) ∧ w' = w := by
  obtain ⟨j, hj, _⟩ := Option.map_eq_some_iff.1 szB
  go_enter Tryz.func91, Tryz.ntmps91
  go_wp2
  rw [Lib.run_neq_ptr_same w _ Tryz.underlying111 hj]
  go_wp2
  go_end0
  exact ⟨rfl, rfl⟩
set_option maxHeartbeats 1000000 in
set_option maxRecDepth 100000 in
theorem copyCheck_fresh (b n : Nat) (hn : 2 ≤ n) (w : World) (h0 : w.cell? ⟨b, 0, none⟩ = some (.pointer none)) (hsh : w.shape? b = some (114, n)) (hfz : w.frozen? ⟨b, 0, none⟩ = false) :
    Calls Tryz.prog 91 #[.pointer (some ⟨b, 0, none⟩)] w fun e w' => e = .returned (.tuple #[]) ∧ w' = w.setCell ⟨b, 0, none⟩ (.pointer (some ⟨b, 0, none⟩)) := by
  obtain ⟨j, hj, hjs⟩ := Option.map_eq_some_iff.1 szB
  go_enter Tryz.func91, Tryz.ntmps91
  go_wp2
  rw [Lib.run_to_unsafe w ⟨b, 0, none⟩ Tryz.underlying111 Tryz.underlying166 hj (by rw [hjs]; decide) hsh (by show 0 < n; omega)]
  simp only [Result.andThen]
  rw [Oper.upon_value]
  go_wp2
  rw [run_callFunc_extern Tryz.func108 (by kernel_rfl) (by kernel_rfl) (by kernel_rfl) (e := Extern.AbiNoEscape.same) (by kernel_rfl)]
  rw [Lib.run_noEscape]
  simp only [Result.andThen]
  rw [Oper.upon_value]
  go_wp2
  rw [Lib.run_from_unsafe w ⟨b, 0, none⟩ Tryz.underlying166 Tryz.underlying111 hj hsh (by rw [clB]; exact lies0 clB (by decide) _ _ (by omega))]
  simp only [Result.andThen]
  rw [Oper.upon_value]
  go_wp2
  go_end0
  exact ⟨rfl, rfl⟩
set_option maxHeartbeats 1000000 in
set_option maxRecDepth 100000 in
theorem string_row (b g cap sz : Nat) (l : List UInt8) (h0 : l ≠ []) (w : World) (c1 : w.drew.cell? ⟨b, 1, none⟩ = some (.slice (some ⟨g, 0, none⟩) l.length cap)) (hsh : w.drew.shape? g = some (5, sz)) (hn : l.length ≤ sz) (hc : l.length ≤ cap) (h63 : l.length ≤ 9223372036854775807)
    (hcell : ∀ j x, l[j]? = some x → w.drew.cell? ((⟨g, 0, none⟩ : Addr).add j) = some (.int .u8 x.toNat)) :
    Calls Tryz.prog 74 #[.pointer (some ⟨b, 0, none⟩)] w fun e w' => e = .returned (.string ⟨l.toArray⟩) ∧ w' = w.drew.freeze ⟨g, 0, none⟩ l.length := by
  have hl0 : l.length ≠ 0 := by simpa using h0
  have hSD : (Builtin.unsafeSliceData_ #[112] 143 #[.slice (some ⟨g, 0, none⟩) l.length cap]).run Tryz.prog w.drew = .ok (.pointer (some ⟨g, 0, none⟩)) w.drew := Lib.run_unsafeSliceData_row _ _ _ _ _ _ (by omega)
  have hUS : (Builtin.unsafeString_ #[143, 3] 9 #[.pointer (some ⟨g, 0, none⟩), .int .i64 l.length]).run Tryz.prog w.drew = .ok (.string ⟨l.toArray⟩) (w.drew.freeze ⟨g, 0, none⟩ l.length) :=
    Lib.run_unsafeString_row w.drew 143 3 9 5 Tryz.underlying143 (by kernel_rfl) g sz hsh l h0 hn h63 hcell
  have mixed : Tryz.prog.follows .mixedOrders = true := by kernel_rfl
  go_enter Tryz.func74, Tryz.ntmps74
  go_wp2
  go_region_o
  all_goals (go_wp2; go_ret; exact ⟨rfl, rfl⟩)
set_option maxHeartbeats 1000000 in
set_option maxRecDepth 100000 in
theorem string_nil (b : Nat) (w : World) (c1 : w.drew.cell? ⟨b, 1, none⟩ = some (.slice none 0 0)) :
    Calls Tryz.prog 74 #[.pointer (some ⟨b, 0, none⟩)] w fun e w' => e = .returned (.string ⟨#[]⟩) ∧ w' = w.drew := by
  have hUS : ∀ (W : World) (q : Option Addr), (Builtin.unsafeString_ #[143, 3] 9 #[.pointer q, .int .i64 0]).run Tryz.prog W = .ok (.string .empty) W := fun W q => Lib.run_unsafeString_none W _ _ _ q
  have hSD : (Builtin.unsafeSliceData_ #[112] 143 #[.slice none 0 0]).run Tryz.prog w.drew = .ok (.pointer none) w.drew := rfl
  have mixed : Tryz.prog.follows .mixedOrders = true := by kernel_rfl
  go_enter Tryz.func74, Tryz.ntmps74
  go_wp2
  go_region_o
  all_goals (go_wp2; go_ret; exact ⟨rfl, rfl⟩)
end Go.Proofs.YthahgmncnbeddaaGreatDoorA
/- strings.Builder: its methods as contracts over own blocks. -/
set_option linter.unusedVariables false
set_option linter.unusedSimpArgs false
namespace Go.Proofs.YthahgmncnbeddaaGreatDoorA
open Go Go.RowKit Go.Proofs
theorem setCell_row {w : World} {b i : Nat} {cs : Array Value} {t : TypeId} {fz : Nat × Nat} (h : w.heap[b]? = some (.cells cs t fz)) (v : Value) : w.setCell ⟨b, i, none⟩ v = w.setRow b (cs.setIfInBounds i v) := by
  unfold World.setCell World.setRow
  have hlt : b < w.heap.size := (Array.getElem?_eq_some_iff.1 h).1
  have hv : w.heap[b] = .cells cs t fz := (Array.getElem?_eq_some_iff.1 h).2
  congr 1
  apply Array.ext
  · simp
  · intro j h1 h2
    simp only [Array.getElem_modify]
    split
    · rename_i hj; subst hj; simp [hv]
    · rfl
theorem rep1 {ok : Okc} {w : World} {G : Gh} {vals : Array Value} {a : AV} (hl : vals.size = 1) (hr : ∀ (j : Nat) v b, vals[j]? = some v → [a][j]? = some b → Rep ok w G v b) : ∃ x, vals = #[x] ∧ Rep ok w G x a := by
  obtain ⟨l⟩ := vals
  match l, hl with
  | [x], _ => exact ⟨x, rfl, hr 0 x a rfl rfl⟩
section
variable {E : Env}
theorem copyCheckH (hP : E.P = Tryz.prog) {c : List (Nat × Ent)} {id m : Nat} {a b : AV} (ht : tyOf c id = some 114) (hl : look c id = some (.rows 2 [[a, b]])) (ha : a = .np ∨ a = .ptr id 0 0) :
    MeetsH E 91 [.ptr id 0 0] ⟨c, m⟩ (Is (.ret (.tup [])) ⟨upd c id (.rows 2 [[.ptr id 0 0, b]]), m⟩) := by
  refine ⟨by rw [hP]; exact ⟨_, Tryz.func91, rfl, by decide⟩, fun F G ok w vals hM hg I hs hr => ?_⟩
  rw [hP]
  obtain ⟨x, rfl, rx⟩ := rep1 hs hr
  cases rx with
  | ptr _ _ _ _ p hp =>
  obtain ⟨hbase, n, hsh⟩ := I.ty ht hp
  obtain ⟨p', hp', ⟨hk, cs, t, fz, e1, e2, e3, e4, e5, e6⟩, hno⟩ := I.rel.look' hl
  rw [hp] at hp'; cases hp'
  simp only [hbase, Nat.zero_mul, Nat.zero_add]
  simp only [hbase, hk, Nat.zero_add, List.length_cons, List.length_nil, Nat.one_mul] at e3 e4 e6
  obtain ⟨v0, h0, r0, _⟩ := e6 0 _ rfl 0 a rfl
  obtain ⟨v1, h1, r1, o1⟩ := e6 0 _ rfl 1 b rfl
  simp only [Nat.zero_mul, Nat.zero_add] at h0 h1
  have hc0 : w.cell? ⟨p.b, 0, none⟩ = some v0 := by rw [cell_of_row w p.b 0 cs t fz e1]; exact h0
  have hn : n = cs.size := by unfold World.shape? at hsh; rw [e1] at hsh; cases hsh; rfl
  have hsz : 2 ≤ cs.size := by omega
  rcases ha with rfl | rfl
  · have hv0 : v0 = .pointer none := by cases r0; rfl
    subst hv0
    refine (copyCheck_fresh p.b n (by omega) w hc0 hsh ?_).mono ?_
    · unfold World.frozen?
      rw [e1]
      rw [Bool.eq_false_iff]
      intro hf
      have := e4 0 (Nat.zero_le _) (by simpa using hf)
      omega
    · rintro e w' ⟨rfl, rfl⟩
      rw [setCell_row e1]
      have st := I.store (l' := [[.ptr id 0 0, b]]) hl hp e1 (cs' := cs.setIfInBounds 0 (.pointer (some ⟨p.b, 0, none⟩))) (by simp) (fun i hi => absurd hi (by rw [hbase]; omega)) rfl (by simp) (fun i row hi j a hj => by
        rw [hbase, hk]
        match i, hi with
        | 0, hi =>
          cases hi
          match j, hj with
          | 0, hj =>
            cases hj
            refine ⟨.pointer (some ⟨p.b, 0, none⟩), by (have h2 : 0 < cs.size := by omega); simp [h2], ?_, rfl⟩
            have := Rep.ptr (ok := ok) (w := w) G id 0 0 p hp
            simpa [hbase] using this
          | 1, hj => cases hj; exact ⟨v1, by simp [Array.getElem?_setIfInBounds, h1], r1, o1⟩
          | j + 2, hj => simp at hj
        | i + 1, hi => simp at hi)
      exact ⟨.tup [], _, G, ok, ⟨rfl, rfl⟩, st.1, .tup _ #[] [] rfl (fun j v a q => by simp at q), st.2⟩
  · have hv0 : v0 = .pointer (some ⟨p.b, 0, none⟩) := by
      cases r0 with
      | ptr _ _ _ _ q hq => rw [hp] at hq; cases hq; simp [hbase]
    subst hv0
    refine (copyCheck_used p.b w hc0).mono ?_
    rintro e w' ⟨rfl, rfl⟩
    exact ⟨.tup [], ⟨c, m⟩, G, ok, ⟨rfl, by rw [upd_same hl]⟩, .refl .., .tup _ #[] [] rfl (fun j v a q => by simp at q), I⟩
theorem freeze_heap {w : World} {g n : Nat} {cs : Array Value} {t : TypeId} {fz : Nat × Nat} (h : w.heap[g]? = some (.cells cs t fz)) : ∃ fz', (w.freeze ⟨g, 0, none⟩ n).heap[g]? = some (.cells cs t fz') := by
  unfold World.freeze
  split
  · exact ⟨fz, h⟩
  · have hlt : g < w.heap.size := (Array.getElem?_eq_some_iff.1 h).1
    have hv : w.heap[g] = .cells cs t fz := (Array.getElem?_eq_some_iff.1 h).2
    obtain ⟨lo, hi⟩ := fz
    refine ⟨if lo == hi then (0, 0 + n) else (min lo 0, max hi (0 + n)), ?_⟩
    simp only [Array.getElem?_modify, ↓reduceIte, h, Option.map_some]
theorem freeze_other (w : World) (g n b : Nat) (h : b ≠ g) : (w.freeze ⟨g, 0, none⟩ n).heap[b]? = w.heap[b]? := by
  unfold World.freeze
  split
  · rfl
  · simp [Array.getElem?_modify, Ne.symm h]
theorem freeze_size (w : World) (g n : Nat) : (w.freeze ⟨g, 0, none⟩ n).heap.size = w.heap.size := by
  unfold World.freeze
  split <;> simp
/-- A string goes on in the place of an own block. -/
theorem Inv.frozen {F : Fr} {G : Gh} {ok : Okc} {w : World} {h : Hp} (I : Inv F G ok w h) {id : Nat} {e0 : Ent} {p : Pl} {cs : Array Value} {t : TypeId} {fz : Nat × Nat} (hm : (id, e0) ∈ h.c) (hp : G id = some p) (hg : w.heap[p.b]? = some (.cells cs t fz)) (n : Nat) :
    Adv G ok w G ok (w.freeze ⟨p.b, 0, none⟩ n) ∧ Inv F G ok (w.freeze ⟨p.b, 0, none⟩ n) ⟨rmv h.c id, h.n⟩ := by
  obtain ⟨fz', hg'⟩ := freeze_heap (n := n) hg
  have hcell : ∀ b i, (w.freeze ⟨p.b, 0, none⟩ n).cell? ⟨b, i, none⟩ = w.cell? ⟨b, i, none⟩ := fun b i => by
    by_cases hb : b = p.b
    · subst hb; rw [cell_of_row w p.b i cs t fz hg, cell_of_row _ p.b i cs t fz' hg']
    · unfold World.cell?; rw [freeze_other w p.b n b hb]
  have hsh : ∀ b, (w.freeze ⟨p.b, 0, none⟩ n).shape? b = w.shape? b := fun b => by
    unfold World.shape?
    by_cases hb : b = p.b
    · subst hb; rw [hg, hg']
    · rw [freeze_other w p.b n b hb]
  have A : Adv G ok w G ok (w.freeze ⟨p.b, 0, none⟩ n) := ⟨fun _ _ e => e, fun b i e => ⟨e, hcell b i⟩, fun b s e => by rw [hsh]; exact e⟩
  have hos : (w.freeze ⟨p.b, 0, none⟩ n).os = w.os ∧ (w.freeze ⟨p.b, 0, none⟩ n).tape = w.tape ∧ (w.freeze ⟨p.b, 0, none⟩ n).output = w.output := by
    unfold World.freeze
    split <;> exact ⟨rfl, rfl, rfl⟩
  refine ⟨A, hos.1.trans I.os, hos.2.1.trans I.tape, hos.2.2.trans I.output, by rw [freeze_size]; exact I.size, fun b hb hd => ?_, I.okeep, I.adv.trans A, fun b i q => by rw [freeze_size]; exact I.lt b i q, fun id' e q hm' hq => I.own id' e q (mem_rmv I.rel.nodup hm').2 hq, fun id' e' hm' => ?_, fun i1 i2 a1 a2 q1 q2 m1 m2 => I.rel.inj i1 i2 a1 a2 q1 q2 (mem_rmv I.rel.nodup m1).2 (mem_rmv I.rel.nodup m2).2, (sub_rmv id h.c).nodup I.rel.nodup, I.rel.fresh⟩
  · rw [freeze_other _ _ _ _ (fun q => ?_)]
    · exact I.keep b hb hd
    · subst q
      rcases I.own id e0 p hm hp with q | q
      · exact hd q
      · omega
  · obtain ⟨hne, hm'⟩ := mem_rmv I.rel.nodup hm'
    obtain ⟨q, hq, h1, h2⟩ := I.rel.look id' e' hm'
    exact ⟨q, hq, h1.adv A (freeze_other _ _ _ _ (I.rel.inj id' id _ _ q p hm' hm hne hq hp)), h2⟩
def byteRows (l : List UInt8) : List (List AV) := l.map fun b => [AV.i .u8 b.toNat]
theorem stringH (hP : E.P = Tryz.prog) {c : List (Nat × Ent)} {id idb m : Nat} {a : AV} {l : List UInt8} (h0 : l ≠ []) (h63 : l.length ≤ 9223372036854775807) (ht : tyOf c id = some 114) (hl : look c id = some (.rows 2 [[a, .osl idb 0 l.length]])) (htb : tyOf c idb = some 5) (hlb : look c idb = some (.rows 1 (byteRows l))) :
    MeetsH E 74 [.ptr id 0 0] ⟨c, m⟩ (Is (.ret (.s l)) ⟨rmv c idb, m⟩) := by
  refine ⟨by rw [hP]; exact ⟨_, Tryz.func74, rfl, by decide⟩, fun F G ok w vals hM hg I hs hr => ?_⟩
  rw [hP]
  obtain ⟨x, rfl, rx⟩ := rep1 hs hr
  obtain ⟨A0, I0⟩ := I.drawn (w' := w.drew) rfl rfl rfl rfl
  cases rx with
  | ptr _ _ _ _ p hp =>
  obtain ⟨hbase, n, hsh⟩ := I0.ty ht hp
  obtain ⟨p', hp', ⟨hk, cs, t, fz, e1, e2, e3, e4, e5, e6⟩, hno⟩ := I0.rel.look' hl
  rw [hp] at hp'; cases hp'
  simp only [hbase, Nat.zero_mul, Nat.zero_add]
  simp only [hbase, hk, Nat.zero_add, List.length_cons, List.length_nil, Nat.one_mul] at e3 e4 e6
  obtain ⟨v1, h1, r1, o1⟩ := e6 0 _ rfl 1 _ rfl
  simp only [Nat.zero_mul, Nat.zero_add] at h1
  have hc1 : w.drew.cell? ⟨p.b, 1, none⟩ = some v1 := by rw [cell_of_row w.drew p.b 1 cs t fz e1]; exact h1
  cases r1 with
  | osl _ _ _ _ cap q hq q1 q2 =>
  obtain ⟨hbq, sz, hshq⟩ := I0.ty htb hq
  obtain ⟨e00, hmb, _⟩ := look_mem hlb
  obtain ⟨q', hq', ⟨hkq, cq, tq, fq, g1, g2, g3, g4, g5, g6⟩, hnoq⟩ := I0.rel.look' hlb
  rw [hq] at hq'; cases hq'
  simp only [hbq, Nat.zero_mul, Nat.zero_add] at hc1
  simp only [hbq, hkq, Nat.zero_add, Nat.mul_one, byteRows, List.length_map] at g3 g6
  have hsz : sz = cq.size := by unfold World.shape? at hshq; rw [g1] at hshq; cases hshq; rfl
  refine (string_row p.b q.b cap sz l h0 w hc1 hshq (by omega) q1 h63 (fun j x hx => ?_)).mono ?_
  · obtain ⟨v, hv, rv, _⟩ := g6 j [.i .u8 x.toNat] (by rw [List.getElem?_map, hx]; rfl) 0 _ rfl
    rw [show (⟨q.b, 0, none⟩ : Addr).add j = ⟨q.b, j, none⟩ by (simp [Addr.add]; intro h; exact h.symm), cell_of_row w.drew q.b j cq tq fq g1]
    simp only [Nat.add_zero] at hv
    rw [hv]
    cases rv; rfl
  · rintro e w' ⟨rfl, rfl⟩
    obtain ⟨A1, I1⟩ := I0.frozen hmb hq g1 l.length
    exact ⟨.s l, _, G, ok, ⟨rfl, rfl⟩, A0.trans A1, by simpa using Rep.s (ok := ok) (w := w.drew.freeze ⟨q.b, 0, none⟩ l.length) G ⟨l.toArray⟩, I1⟩
theorem stringNilH (hP : E.P = Tryz.prog) {c : List (Nat × Ent)} {id m : Nat} {a : AV} (ht : tyOf c id = some 114) (hl : look c id = some (.rows 2 [[a, .nils]])) :
    MeetsH E 74 [.ptr id 0 0] ⟨c, m⟩ (Is (.ret (.s [])) ⟨c, m⟩) := by
  refine ⟨by rw [hP]; exact ⟨_, Tryz.func74, rfl, by decide⟩, fun F G ok w vals hM hg I hs hr => ?_⟩
  rw [hP]
  obtain ⟨x, rfl, rx⟩ := rep1 hs hr
  obtain ⟨A0, I0⟩ := I.drawn (w' := w.drew) rfl rfl rfl rfl
  cases rx with
  | ptr _ _ _ _ p hp =>
  obtain ⟨hbase, n, hsh⟩ := I0.ty ht hp
  obtain ⟨p', hp', ⟨hk, cs, t, fz, e1, e2, e3, e4, e5, e6⟩, hno⟩ := I0.rel.look' hl
  rw [hp] at hp'; cases hp'
  simp only [hbase, Nat.zero_mul, Nat.zero_add]
  simp only [hbase, hk, Nat.zero_add, List.length_cons, List.length_nil, Nat.one_mul] at e3 e4 e6
  obtain ⟨v1, h1, r1, o1⟩ := e6 0 _ rfl 1 _ rfl
  simp only [Nat.zero_mul, Nat.zero_add] at h1
  have hc1 : w.drew.cell? ⟨p.b, 1, none⟩ = some v1 := by rw [cell_of_row w.drew p.b 1 cs t fz e1]; exact h1
  cases r1 with
  | nils =>
  refine (string_nil p.b w hc1).mono ?_
  rintro e w' ⟨rfl, rfl⟩
  exact ⟨.s [], _, G, ok, ⟨rfl, rfl⟩, A0, by simpa using Rep.s (ok := ok) (w := w.drew) G ⟨#[]⟩, I0⟩
end
end Go.Proofs.YthahgmncnbeddaaGreatDoorA
