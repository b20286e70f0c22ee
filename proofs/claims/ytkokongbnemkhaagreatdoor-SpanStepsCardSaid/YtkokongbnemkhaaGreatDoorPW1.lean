import Derived.Test.YtkokongbnemkhaaGreatDoorMD
import Derived.Test.YtkokongbnemkhaaGreatDoorPFx
set_option linter.unusedVariables false
set_option linter.unusedSimpArgs false
namespace Go.Proofs.YtkokongbnemkhaaGreatDoorA
open Go Go.RowKit Go.Proofs.YtkokongbnemkhaaGreatDoorFx Go.Proofs
noncomputable def E0 : Env := ⟨Tryz.prog, fun _ => none, fun _ _ => none⟩
@[go_sem] theorem e0P : E0.P = Tryz.prog := rfl
theorem e0 : ModOk E0 := fun f args r h => by cases h
def letterB (n : Int) : Bool := decide (97 ≤ n) && decide (n ≤ 122)
def digitB (n : Int) : Bool := decide (48 ≤ n) && decide (n ≤ 57)
theorem letter (n : Int) : MeetsP Tryz.prog (fun _ => none) 124 [.i .u8 n] (.b (letterB n)) := by
  refine meetsP (E := E0) 9 [.tmp 2] e0 Tryz.func124 rfl (by decide) rfl rfl (by simp) ?_
  repeat' first
    | (with_reducible refine t_seq ?_)
    | (with_reducible refine t_skip ?_)
    | (with_reducible refine t_ret ?_)
    | (with_reducible refine t_end ?_)
    | (with_reducible refine t_cond ?_)
    | (with_reducible refine t_region ?_)
    | (with_reducible refine wr_done ?_)
    | ((with_reducible refine t_isDraw ?_); refine t_draw rfl (by kernel_rfl) ?_)
    | (with_reducible refine WD.done _ ?_)
    | (with_reducible refine wdp_done ?_)
    | (with_reducible refine tr_some ?_)
    | ((fail_if_success with_reducible refine t_bl ?_); (with_reducible refine t_block ?_))
    | (with_reducible refine t_inBlock ?_)
    | ((with_reducible refine t_isExit ?_); refine t_exit rfl ?_)
    | simp only [decide_eq_true_eq, decide_eq_false_iff_not, Bool.not_eq_true', Bool.not_eq_false'] at *
    | simp (disch := omega) only [go_sem, Nat.reduceLT, Nat.reduceEqDiff, Nat.reduceAdd, Nat.reduceLeDiff, Nat.reduceMul, Int.reduceLT, Int.reduceLE, Int.reduceAdd, Int.reduceSub, Int.reduceNeg, Int.reduceToNat, Int.reduceBEq, Int.reduceEq, reduceCtorEq, List.take_succ_cons, List.take_zero, List.take_nil, List.drop_succ_cons, List.drop_nil, List.cons_append, List.nil_append, List.set_cons_zero, List.set_cons_succ, ↓reduceIte, *]
    | (with_reducible refine tb_true ?_)
    | (with_reducible refine tb_false ?_)
    | (with_reducible refine tb_split (fun _ => ?_) (fun _ => ?_))
    | (with_reducible refine wg_f (fun _ => ?_) (fun _ => ?_))
    | (with_reducible refine wg_t (fun _ => ?_) (fun _ => ?_))
    | (with_reducible refine wd_f (fun _ => ?_) (fun _ => ?_))
    | (with_reducible refine wd_t (fun _ => ?_) (fun _ => ?_))
  all_goals exact ⟨by simp [fz, letterB, *], rfl⟩
theorem digit (n : Int) : MeetsP Tryz.prog (fun _ => none) 127 [.i .u8 n] (.b (digitB n)) := by
  refine meetsP (E := E0) 9 [.tmp 2] e0 Tryz.func127 rfl (by decide) rfl rfl (by simp) ?_
  repeat' first
    | (with_reducible refine t_seq ?_)
    | (with_reducible refine t_skip ?_)
    | (with_reducible refine t_ret ?_)
    | (with_reducible refine t_end ?_)
    | (with_reducible refine t_cond ?_)
    | (with_reducible refine t_region ?_)
    | (with_reducible refine wr_done ?_)
    | ((with_reducible refine t_isDraw ?_); refine t_draw rfl (by kernel_rfl) ?_)
    | (with_reducible refine WD.done _ ?_)
    | (with_reducible refine wdp_done ?_)
    | (with_reducible refine tr_some ?_)
    | ((fail_if_success with_reducible refine t_bl ?_); (with_reducible refine t_block ?_))
    | (with_reducible refine t_inBlock ?_)
    | ((with_reducible refine t_isExit ?_); refine t_exit rfl ?_)
    | simp only [decide_eq_true_eq, decide_eq_false_iff_not, Bool.not_eq_true', Bool.not_eq_false'] at *
    | simp (disch := omega) only [go_sem, Nat.reduceLT, Nat.reduceEqDiff, Nat.reduceAdd, Nat.reduceLeDiff, Nat.reduceMul, Int.reduceLT, Int.reduceLE, Int.reduceAdd, Int.reduceSub, Int.reduceNeg, Int.reduceToNat, Int.reduceBEq, Int.reduceEq, reduceCtorEq, List.take_succ_cons, List.take_zero, List.take_nil, List.drop_succ_cons, List.drop_nil, List.cons_append, List.nil_append, List.set_cons_zero, List.set_cons_succ, ↓reduceIte, *]
    | (with_reducible refine tb_true ?_)
    | (with_reducible refine tb_false ?_)
    | (with_reducible refine tb_split (fun _ => ?_) (fun _ => ?_))
    | (with_reducible refine wg_f (fun _ => ?_) (fun _ => ?_))
    | (with_reducible refine wg_t (fun _ => ?_) (fun _ => ?_))
    | (with_reducible refine wd_f (fun _ => ?_) (fun _ => ?_))
    | (with_reducible refine wd_t (fun _ => ?_) (fun _ => ?_))
  all_goals exact ⟨by simp [fz, digitB, *], rfl⟩
def M1 : FuncId → List AV → Option AV
  | 124, [.i .u8 n] => some (.b (letterB n))
  | 127, [.i .u8 n] => some (.b (digitB n))
  | _, _ => none
noncomputable def E1 : Env := ⟨Tryz.prog, fun _ => none, M1⟩
@[go_sem] theorem e1P : E1.P = Tryz.prog := rfl
@[go_sem] theorem e1M : E1.M = M1 := rfl
@[go_sem] theorem m1l (n : Int) : M1 124 [.i .u8 n] = some (.b (letterB n)) := rfl
@[go_sem] theorem m1d (n : Int) : M1 127 [.i .u8 n] = some (.b (digitB n)) := rfl
@[go_sem] theorem e1cl (h : Hp) (n : Int) : callA E1 h 124 [.i .u8 n] = .val (.b (letterB n)) h := rfl
@[go_sem] theorem e1cd (h : Hp) (n : Int) : callA E1 h 127 [.i .u8 n] = .val (.b (digitB n)) h := rfl
theorem e1 : ModOk E1 := fun f args r h => by
  change M1 f args = some r at h
  unfold M1 at h
  split at h
  · cases h; exact letter _
  · cases h; exact digit _
  · cases h
/-- Where the blanks behind place n end. -/
def skipN (s : List UInt8) (n : Nat) : Nat := n + ((s.drop n).takeWhile fun b => b.toNat == 32).length
theorem skip_step {s : List UInt8} {n : Nat} (h : n < s.length) (h1 : (s[n].toNat : Int) = 32) : skipN s (n + 1) = skipN s n := by
  unfold skipN
  rw [List.drop_eq_getElem_cons h, List.takeWhile_cons, if_pos (by simp; omega), List.length_cons]
  omega
theorem skip_stop {s : List UInt8} {n : Nat} (h1 : ∀ h : n < s.length, ¬ (s[n].toNat : Int) = 32) : skipN s n = n := by
  unfold skipN
  by_cases h : n < s.length
  · rw [List.drop_eq_getElem_cons h, List.takeWhile_cons, if_neg (by have := h1 h; simp; omega)]; rfl
  · rw [List.drop_eq_nil_of_le (by omega)]; rfl
theorem skip_le {s : List UInt8} {n : Nat} (h : n ≤ s.length) : skipN s n ≤ s.length := by
  unfold skipN
  have := (List.takeWhile_sublist (l := s.drop n) (fun b => b.toNat == 32)).length_le
  rw [List.length_drop] at this
  omega
/-- What a parser holds. -/
def pars (s : List UInt8) (n : Nat) (o : Int) : Ent := .rows 3 [[.s s, .i .i64 n, .i .i64 o]]
set_option maxRecDepth 100000 in
theorem blanks {c : List (Nat × Ent)} {id m n : Nat} {s : List UInt8} {o : Int} (hl : look c id = some (pars s n o)) (hn : n ≤ s.length) (hs : s.length ≤ 140737488355328) :
    MeetsH E1 126 [.ptr id 0 0] ⟨c, m⟩ (Is (.ret (.tup [])) ⟨upd c id (pars s (skipN s n) o), m⟩) := by
  refine meetsH (E := E1) 31 [] Tryz.func126 rfl (by decide) rfl rfl (by simp) ?_
  have hu : ∀ k l, look (upd c id (.rows k l)) id = some (.rows k l) := fun k l => look_updR k l hl
  repeat' first
    | (with_reducible refine t_seq ?_)
    | (with_reducible refine t_skip ?_)
    | (with_reducible refine t_ret ?_)
    | (with_reducible refine t_end ?_)
    | (with_reducible refine t_cond ?_)
    | (with_reducible refine t_region ?_)
    | (with_reducible refine wr_done ?_)
    | ((with_reducible refine t_isDraw ?_); refine t_draw rfl (by kernel_rfl) ?_)
    | (with_reducible refine WD.done _ ?_)
    | (with_reducible refine wdp_done ?_)
    | (with_reducible refine tr_some ?_)
    | ((fail_if_success with_reducible refine t_bl ?_); (with_reducible refine t_block ?_))
    | (with_reducible refine t_inBlock ?_)
    | ((with_reducible refine t_isExit ?_); refine t_exit rfl ?_)
    | simp only [decide_eq_true_eq, decide_eq_false_iff_not, Bool.not_eq_true', Bool.not_eq_false'] at *
    | simp (disch := omega) only [go_sem, Nat.reduceLT, Nat.reduceEqDiff, Nat.reduceAdd, Nat.reduceLeDiff, Nat.reduceMul, Int.reduceLT, Int.reduceLE, Int.reduceAdd, Int.reduceSub, Int.reduceNeg, Int.reduceToNat, Int.reduceBEq, Int.reduceEq, reduceCtorEq, List.take_succ_cons, List.take_zero, List.take_nil, List.drop_succ_cons, List.drop_nil, List.cons_append, List.nil_append, List.set_cons_zero, List.set_cons_succ, ↓reduceIte, *]
    | (with_reducible refine tb_true ?_)
    | (with_reducible refine tb_false ?_)
    | (with_reducible refine tb_split (fun _ => ?_) (fun _ => ?_))
    | (with_reducible refine wg_f (fun _ => ?_) (fun _ => ?_))
    | (with_reducible refine wg_t (fun _ => ?_) (fun _ => ?_))
    | (with_reducible refine wd_f (fun _ => ?_) (fun _ => ?_))
    | (with_reducible refine wd_t (fun _ => ?_) (fun _ => ?_))
  refine t_block ?_
  refine t_inv (I := fun (i : Nat) t h => n ≤ i ∧ i ≤ s.length ∧ skipN s i = skipN s n ∧ h = ⟨upd c id (pars s i o), m⟩ ∧ get t 0 = .ptr id 0 0) (m := fun i => s.length - i) n ⟨by omega, by omega, rfl, by rw [upd_same hl], rfl⟩ ?_
  rintro i t h ⟨hi, hi2, hk, rfl, h0⟩ hrec
  simp only [pars] at *
  repeat' first
    | (with_reducible refine t_seq ?_)
    | (with_reducible refine t_skip ?_)
    | (with_reducible refine t_ret ?_)
    | (with_reducible refine t_end ?_)
    | (with_reducible refine t_cond ?_)
    | (with_reducible refine t_region ?_)
    | (with_reducible refine wr_done ?_)
    | ((with_reducible refine t_isDraw ?_); refine t_draw rfl (by kernel_rfl) ?_)
    | (with_reducible refine WD.done _ ?_)
    | (with_reducible refine wdp_done ?_)
    | (with_reducible refine tr_some ?_)
    | ((fail_if_success with_reducible refine t_bl ?_); (with_reducible refine t_block ?_))
    | (with_reducible refine t_inBlock ?_)
    | ((with_reducible refine t_isExit ?_); refine t_exit rfl ?_)
    | simp only [decide_eq_true_eq, decide_eq_false_iff_not, Bool.not_eq_true', Bool.not_eq_false'] at *
    | simp (disch := omega) only [go_sem, Nat.reduceLT, Nat.reduceEqDiff, Nat.reduceAdd, Nat.reduceLeDiff, Nat.reduceMul, Int.reduceLT, Int.reduceLE, Int.reduceAdd, Int.reduceSub, Int.reduceNeg, Int.reduceToNat, Int.reduceBEq, Int.reduceEq, reduceCtorEq, List.take_succ_cons, List.take_zero, List.take_nil, List.drop_succ_cons, List.drop_nil, List.cons_append, List.nil_append, List.set_cons_zero, List.set_cons_succ, ↓reduceIte, *]
    | (with_reducible refine tb_true ?_)
    | (with_reducible refine tb_false ?_)
    | (with_reducible refine tb_split (fun _ => ?_) (fun _ => ?_))
    | (with_reducible refine wg_f (fun _ => ?_) (fun _ => ?_))
    | (with_reducible refine wg_t (fun _ => ?_) (fun _ => ?_))
    | (with_reducible refine wd_f (fun _ => ?_) (fun _ => ?_))
    | (with_reducible refine wd_t (fun _ => ?_) (fun _ => ?_))
  · rename_i q1 q2
    exact hrec (i + 1) _ _ ⟨by omega, by omega, (skip_step (by omega) q2).trans hk, by simp [upd_upd], by simp [get, h0]⟩ (by omega)
  · rename_i q1 q2
    exact ⟨rfl, by rw [← hk, skip_stop (fun _ => q2)]⟩
  · rename_i q1
    exact ⟨rfl, by rw [← hk, skip_stop (fun h => absurd h (by omega))]⟩
end Go.Proofs.YtkokongbnemkhaaGreatDoorA
