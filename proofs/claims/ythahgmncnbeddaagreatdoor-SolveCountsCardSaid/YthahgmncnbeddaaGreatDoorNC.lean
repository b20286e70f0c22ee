/- Small functions of the calendars: line.Check, whole.Div, whole.Mod, compile.Lengths. -/
import Derived.Test.YthahgmncnbeddaaGreatDoorKA
set_option linter.unusedVariables false
set_option linter.unusedSimpArgs false
namespace Go.Proofs.YthahgmncnbeddaaGreatDoorA
open Go Go.RowKit Go.Proofs.YthahgmncnbeddaaGreatDoorFx Go.Proofs
attribute [local go_sem] List.take_succ_cons List.take_zero List.take_nil List.drop_succ_cons List.drop_nil List.cons_append List.nil_append List.set_cons_zero List.set_cons_succ
/-- The environment of walks: every call is told by a contract. -/
noncomputable def EW (m : Int) : Env := ⟨Tryz.prog, glT m, fun _ _ => none⟩
@[go_sem] theorem ewP (m : Int) : (EW m).P = Tryz.prog := rfl
@[go_sem] theorem ewM (m : Int) (f : FuncId) (args : List AV) : (EW m).M f args = none := rfl
@[go_sem] theorem ewG (m : Int) : (EW m).gl = glT m := rfl
@[go_sem] theorem ewC (m : Int) (h : Hp) (f : FuncId) (args : List AV) : callA (EW m) h f args = .call f args := by
  unfold callA
  simp only [ewM]
  split
  · rfl
  · split <;> rfl
theorem ew (m : Int) : ModOk (EW m) := fun f args r h => by cases h
theorem wr_P {E : Env} {f : FuncId} {all os : List Oper} {K : List Item} {S : St} {X : Ex → St → Prop} {g : FuncId} {args : List AV} {d : Option Nat} {r : AV} (hp : MeetsP E.P E.gl g args r) (hn : args.all (noid 12) = true) (h : WR E f all K X (runA E all os (St.put S d r))) : WR E f all K X (.call g args d os S) :=
  wr_ret (meetsH_of_P hp hn) h
theorem t_pop {E : Env} {f : FuncId} {K : List Item} {X : Ex → St → Prop} {t : List (Nat × AV)} {N n : Nat} {x : Nat × Ent} {c : List (Nat × Ent)} (h : T E f K ⟨t, N, ⟨c, n⟩⟩ X) : T E f K ⟨t, N, ⟨x :: c, n⟩⟩ X := t_forget (S := ⟨t, N, ⟨x :: c, n⟩⟩) ⟨c, n⟩ (Sub.tail _ _ _ _ (Nat.le_refl _)) h
attribute [go_sem] List.getElem_map
/-- A compiled calendar. -/
structure Cal where
  nm : List UInt8
  ep : Int
  cy : Int
  ms : List (List UInt8 × Int × Int)
  ls : List Int
def monF (l : List (List UInt8 × Int × Int)) : AV := .isl false 3 (l.map fun q => [.s q.1, .i .i64 q.2.1, .i .i64 q.2.2])
def intF (l : List Int) : AV := .isl false 1 (l.map fun y => [.i .i64 y])
def Cal.A (c : Cal) : AV := .agg [.s c.nm, .i .i64 c.ep, .i .i64 c.cy, monF c.ms, intF c.ls]
structure Cal.Ok (c : Cal) : Prop where
  ep1 : -4000000 ≤ c.ep
  ep2 : c.ep ≤ 4000000
  cy1 : 1 ≤ c.cy
  cy2 : c.cy ≤ 3000
  len1 : 1 ≤ c.ms.length
  len2 : c.ms.length ≤ 20
  mon : ∀ q ∈ c.ms, 0 ≤ q.2.1 ∧ q.2.1 ≤ 400 ∧ 0 ≤ q.2.2 ∧ q.2.2 ≤ 400
  sorted : c.ls.Pairwise (· < ·)
  within : ∀ y ∈ c.ls, 1 ≤ y ∧ y ≤ c.cy
def sumS (l : List (List UInt8 × Int × Int)) : Int := (l.map (·.2.1)).sum
def sumL (l : List (List UInt8 × Int × Int)) : Int := (l.map (·.2.2)).sum
theorem sums_le : ∀ (l : List (List UInt8 × Int × Int)), (∀ q ∈ l, 0 ≤ q.2.1 ∧ q.2.1 ≤ 400 ∧ 0 ≤ q.2.2 ∧ q.2.2 ≤ 400) → 0 ≤ sumS l ∧ sumS l ≤ 400 * l.length ∧ 0 ≤ sumL l ∧ sumL l ≤ 400 * l.length
  | [], _ => by simp [sumS, sumL]
  | q :: l, h => by
    have h1 := h q (List.mem_cons_self ..)
    have h2 := sums_le l (fun x hx => h x (List.mem_cons_of_mem _ hx))
    simp only [sumS, sumL, List.map_cons, List.sum_cons, List.length_cons] at h2 ⊢
    omega
theorem sum_take {l : List (List UInt8 × Int × Int)} {i : Nat} (h : i < l.length) : sumS (l.take (i + 1)) = sumS (l.take i) + l[i].2.1 ∧ sumL (l.take (i + 1)) = sumL (l.take i) + l[i].2.2 := by
  unfold sumS sumL
  rw [List.take_succ_eq_append_getElem h]
  simp only [List.map_append, List.map_cons, List.map_nil, List.sum_append, List.sum_cons, List.sum_nil, Int.add_zero, and_self]
variable {m : Int}
@[go_sem] theorem bfF (x : Bool) : (x == false) = !x := by cases x <;> rfl
@[go_sem] theorem bnn (x : Bool) : (!!x) = x := by cases x <;> rfl
theorem tup3 {k : IntKind} {a b c a' b' c' : Int} (h1 : a = a') (h2 : b = b') (h3 : c = c') : AV.tup [.i k a, .i k b, .i k c] = .tup [.i k a', .i k b', .i k c'] := by rw [h1, h2, h3]
def chkDay (d : Int) : Int := if d < -4000000 ∨ 4000000 < d then 3 else 0
theorem lineCheck (d : Int) : MeetsP Tryz.prog (glT m) 32 [.i .i64 d] (.i .i64 (chkDay d)) := by
  refine meetsP (E := (EW m)) 9 [.tmp 2] (ew m) Tryz.func32 rfl (by decide) rfl rfl (by simp) ?_
  repeat' first | (with_reducible first | refine t_seq ?_ | refine t_skip ?_ | refine t_ret ?_ | refine t_end ?_ | refine t_cond ?_ | refine t_region ?_ | refine wr_done ?_ | refine WD.done _ ?_ | refine wdp_done ?_ | refine tr_some ?_ | refine t_inBlock ?_) | ((with_reducible refine t_isDraw ?_); refine t_draw rfl (by kernel_rfl) ?_) | ((fail_if_success with_reducible refine t_bl ?_); (with_reducible refine t_block ?_)) | ((with_reducible refine t_isExit ?_); refine t_exit rfl ?_) | simp only [decide_eq_true_eq, decide_eq_false_iff_not, Bool.not_eq_true', Bool.not_eq_false'] at * | simp (disch := omega) only [go_sem, Nat.reduceLT, Nat.reduceEqDiff, Nat.reduceAdd, Nat.reduceLeDiff, Nat.reduceMul, Int.reduceLT, Int.reduceLE, Int.reduceAdd, Int.reduceSub, Int.reduceNeg, Int.reduceToNat, Int.reduceBEq, Int.reduceEq, reduceCtorEq, ↓reduceIte, *] | (with_reducible first | refine tb_true ?_ | refine tb_false ?_) | ((with_reducible first | refine tb_split ?_ ?_ | refine wg_f ?_ ?_ | refine wg_t ?_ ?_ | refine wd_f ?_ ?_ | refine wd_t ?_ ?_) <;> intro _)
  all_goals refine ⟨?_, rfl⟩
  all_goals simp [fz, chkDay, *]
theorem tmod_cases {a b : Int} (hb : 0 < b) : (Int.tmod a b = a % b ∧ Int.tdiv a b = a / b ∧ (0 ≤ a ∨ a % b = 0)) ∨ (a < 0 ∧ a % b ≠ 0 ∧ Int.tmod a b = a % b - b ∧ Int.tdiv a b = a / b + 1) := by
  by_cases h : 0 ≤ a ∨ b ∣ a
  · left
    refine ⟨by rw [Int.tmod_eq_emod, if_pos h]; simp, by rw [Int.tdiv_eq_ediv, if_pos h]; simp, h.imp id Int.emod_eq_zero_of_dvd⟩
  · right
    have h' := not_or.mp h
    refine ⟨by omega, fun e => h'.2 (Int.dvd_of_emod_eq_zero e), ?_, ?_⟩
    · rw [Int.tmod_eq_emod, if_neg h]; omega
    · rw [Int.tdiv_eq_ediv, if_neg h, Int.sign_eq_one_of_pos hb]
theorem ediv_small {a b M : Int} (hb : 0 < b) (h0 : 0 ≤ M) (h1 : -M ≤ a) (h2 : a ≤ M) : -M ≤ a / b ∧ a / b ≤ M := by
  constructor
  · rw [Int.le_ediv_iff_mul_le hb]
    have : -M * b ≤ -M * 1 := Int.mul_le_mul_of_nonpos_left (by omega) (by omega)
    omega
  · have h3 : a / b ≤ M / b := Int.ediv_le_ediv hb h2
    have h4 : M / b ≤ M := Int.ediv_le_self b h0
    omega
theorem divP {a b : Int} (ha : -1000000000000000 ≤ a) (ha2 : a ≤ 1000000000000000) (hb : 0 < b) (hb2 : b ≤ 1000000000000000) : MeetsP Tryz.prog (glT m) 82 [.i .i64 a, .i .i64 b] (.tup [.i .i64 (a / b), .i .i64 (a % b), .i .i64 0]) := by
  have hm1 := Int.emod_nonneg a (show b ≠ 0 by omega)
  have hm2 := Int.emod_lt_of_pos a hb
  have hd := ediv_small (M := 1000000000000000) hb (by omega) ha ha2
  have hc := tmod_cases (a := a) hb
  have hb0 : (b == 0) = false := by rw [beq_eq_false_iff_ne]; omega
  have ha0 : ¬ a = -9223372036854775808 := by omega
  have hbn : ¬ b < 0 := by omega
  refine meetsP (E := (EW m)) 39 [.tmp 4, .tmp 5, .tmp 6] (ew m) Tryz.func82 rfl (by decide) rfl rfl (by simp) ?_
  repeat' first | (with_reducible first | refine t_seq ?_ | refine t_skip ?_ | refine t_ret ?_ | refine t_end ?_ | refine t_cond ?_ | refine t_region ?_ | refine wr_done ?_ | refine WD.done _ ?_ | refine wdp_done ?_ | refine tr_some ?_ | refine t_inBlock ?_) | ((with_reducible refine t_isDraw ?_); refine t_draw rfl (by kernel_rfl) ?_) | ((fail_if_success with_reducible refine t_bl ?_); (with_reducible refine t_block ?_)) | ((with_reducible refine t_isExit ?_); refine t_exit rfl ?_) | simp only [decide_eq_true_eq, decide_eq_false_iff_not, Bool.not_eq_true', Bool.not_eq_false'] at * | simp (disch := omega) only [go_sem, Nat.reduceLT, Nat.reduceEqDiff, Nat.reduceAdd, Nat.reduceLeDiff, Nat.reduceMul, Int.reduceLT, Int.reduceLE, Int.reduceAdd, Int.reduceSub, Int.reduceNeg, Int.reduceToNat, Int.reduceBEq, Int.reduceEq, reduceCtorEq, ↓reduceIte, *] | (with_reducible first | refine tb_true ?_ | refine tb_false ?_) | ((with_reducible first | refine tb_split ?_ ?_ | refine wg_f ?_ ?_ | refine wg_t ?_ ?_ | refine wd_f ?_ ?_ | refine wd_t ?_ ?_) <;> intro _)
  all_goals refine ⟨?_, rfl⟩
  all_goals (simp only [fz, List.map_cons, List.map_nil]; rcases hc with ⟨e1, e2, e3⟩ | ⟨e1, e2, e3, e4⟩)
  all_goals first
    | (exfalso; omega)
    | (refine tup3 ?_ ?_ rfl <;> (simp (disch := omega) only [w64]; omega))
    | (refine tup3 ?_ ?_ rfl <;> omega)
theorem modP {a b : Int} (ha : -1000000000000000 ≤ a) (ha2 : a ≤ 1000000000000000) (hb : 0 < b) (hb2 : b ≤ 1000000000000000) : MeetsP Tryz.prog (glT m) 39 [.i .i64 a, .i .i64 b] (.i .i64 (a % b)) := by
  have hm1 := Int.emod_nonneg a (show b ≠ 0 by omega)
  have hm2 := Int.emod_lt_of_pos a hb
  have hc := tmod_cases (a := a) hb
  refine meetsP (E := (EW m)) 14 [.tmp 4] (ew m) Tryz.func39 rfl (by decide) rfl rfl (by simp) ?_
  repeat' first | (with_reducible first | refine t_seq ?_ | refine t_skip ?_ | refine t_ret ?_ | refine t_end ?_ | refine t_cond ?_ | refine t_region ?_ | refine wr_done ?_ | refine WD.done _ ?_ | refine wdp_done ?_ | refine tr_some ?_ | refine t_inBlock ?_) | ((with_reducible refine t_isDraw ?_); refine t_draw rfl (by kernel_rfl) ?_) | ((fail_if_success with_reducible refine t_bl ?_); (with_reducible refine t_block ?_)) | ((with_reducible refine t_isExit ?_); refine t_exit rfl ?_) | simp only [decide_eq_true_eq, decide_eq_false_iff_not, Bool.not_eq_true', Bool.not_eq_false'] at * | simp (disch := omega) only [go_sem, Nat.reduceLT, Nat.reduceEqDiff, Nat.reduceAdd, Nat.reduceLeDiff, Nat.reduceMul, Int.reduceLT, Int.reduceLE, Int.reduceAdd, Int.reduceSub, Int.reduceNeg, Int.reduceToNat, Int.reduceBEq, Int.reduceEq, reduceCtorEq, ↓reduceIte, *] | (with_reducible first | refine tb_true ?_ | refine tb_false ?_) | ((with_reducible first | refine tb_split ?_ ?_ | refine wg_f ?_ ?_ | refine wg_t ?_ ?_ | refine wd_f ?_ ?_ | refine wd_t ?_ ?_) <;> intro _)
  all_goals refine ⟨?_, rfl⟩
  all_goals (simp only [fz]; rcases hc with ⟨e1, e2, e3⟩ | ⟨e1, e2, e3, e4⟩)
  all_goals first
    | (exfalso; omega)
    | (congr 1 <;> omega)
set_option maxRecDepth 100000 in
theorem lengthsP (c : Cal) (hc : c.Ok) : MeetsP Tryz.prog (glT m) 83 [c.A] (.tup [.i .i64 (sumS c.ms), .i .i64 (sumL c.ms)]) := by
  obtain ⟨nm, ep, cy, ms, ls⟩ := c
  have h20 := hc.len2
  have hmon := hc.mon
  simp only [Cal.A, monF, intF] at *
  refine meetsP (E := (EW m)) 26 [.tmp 2, .tmp 3] (ew m) Tryz.func83 rfl (by decide) rfl rfl (by simp) ?_
  repeat' first | (with_reducible first | refine t_seq ?_ | refine t_skip ?_ | refine t_ret ?_ | refine t_end ?_ | refine t_cond ?_ | refine t_region ?_ | refine wr_done ?_ | refine WD.done _ ?_ | refine wdp_done ?_ | refine tr_some ?_ | refine t_inBlock ?_) | ((with_reducible refine t_isDraw ?_); refine t_draw rfl (by kernel_rfl) ?_) | ((fail_if_success with_reducible refine t_bl ?_); (with_reducible refine t_block ?_)) | ((with_reducible refine t_isExit ?_); refine t_exit rfl ?_) | simp only [decide_eq_true_eq, decide_eq_false_iff_not, Bool.not_eq_true', Bool.not_eq_false'] at * | simp (disch := omega) only [go_sem, Nat.reduceLT, Nat.reduceEqDiff, Nat.reduceAdd, Nat.reduceLeDiff, Nat.reduceMul, Int.reduceLT, Int.reduceLE, Int.reduceAdd, Int.reduceSub, Int.reduceNeg, Int.reduceToNat, Int.reduceBEq, Int.reduceEq, reduceCtorEq, ↓reduceIte, *] | (with_reducible first | refine tb_true ?_ | refine tb_false ?_) | ((with_reducible first | refine tb_split ?_ ?_ | refine wg_f ?_ ?_ | refine wg_t ?_ ?_ | refine wd_f ?_ ?_ | refine wd_t ?_ ?_) <;> intro _)
  refine t_while (I := fun (i : Nat) t h => i ≤ ms.length ∧ (∃ n, 1 ≤ n ∧ h = ⟨[(0, .rows 5 [[.s nm, .i .i64 ep, .i .i64 cy, .isl false 3 (ms.map fun q => [.s q.1, .i .i64 q.2.1, .i .i64 q.2.2]), .isl false 1 (ls.map fun y => [.i .i64 y])]])], n⟩) ∧ get t 9 = .isl false 3 (ms.map fun q => [.s q.1, .i .i64 q.2.1, .i .i64 q.2.2]) ∧ get t 10 = .i .i64 ms.length ∧ get t 11 = .i .i64 i ∧ get t 4 = .i .i64 (sumS (ms.take i)) ∧ get t 5 = .i .i64 (sumL (ms.take i))) (m := fun i => ms.length - i)
    (J := fun t h => get t 4 = .i .i64 (sumS ms) ∧ get t 5 = .i .i64 (sumL ms)) 0 ⟨by omega, ⟨1, by omega, rfl⟩, by simp [get], by simp [get], by simp [get], by simp [get, sumS], by simp [get, sumL]⟩ ?_ ?_
  · rintro i t h ⟨hi, ⟨n, hn, rfl⟩, h9, h10, h11, h4, h5⟩ hrec hex
    have hn1 : ¬ n = 0 := by omega
    have hn2 : ¬ 0 = n := by omega
    have hsum := sums_le (ms.take i) (fun q hq => hmon q (List.mem_of_mem_take hq))
    have hlen : (ms.take i).length = i := by simp; omega
    repeat' first | refine hex _ _ ?_ | (with_reducible first | refine t_seq ?_ | refine t_skip ?_ | refine t_ret ?_ | refine t_end ?_ | refine t_cond ?_ | refine t_region ?_ | refine wr_done ?_ | refine WD.done _ ?_ | refine wdp_done ?_ | refine tr_some ?_ | refine t_inBlock ?_) | ((with_reducible refine t_isDraw ?_); refine t_draw rfl (by kernel_rfl) ?_) | ((fail_if_success with_reducible refine t_bl ?_); (with_reducible refine t_block ?_)) | ((with_reducible refine t_isExit ?_); refine t_exit rfl ?_) | simp only [decide_eq_true_eq, decide_eq_false_iff_not, Bool.not_eq_true', Bool.not_eq_false'] at * | simp (disch := omega) only [go_sem, Nat.reduceLT, Nat.reduceEqDiff, Nat.reduceAdd, Nat.reduceLeDiff, Nat.reduceMul, Int.reduceLT, Int.reduceLE, Int.reduceAdd, Int.reduceSub, Int.reduceNeg, Int.reduceToNat, Int.reduceBEq, Int.reduceEq, reduceCtorEq, ↓reduceIte, *] | (with_reducible first | refine tb_true ?_ | refine tb_false ?_) | ((with_reducible first | refine tb_split ?_ ?_ | refine wg_f ?_ ?_ | refine wg_t ?_ ?_ | refine wd_f ?_ ?_ | refine wd_t ?_ ?_) <;> intro _)
    · rename_i q
      have hi' : i < ms.length := by omega
      have hst := sum_take hi'
      have hq := hmon _ (List.getElem_mem hi')
      refine t_pop ?_
      refine hrec (i + 1) _ _ ⟨by omega, ⟨n + 1, by omega, rfl⟩, by simp [get, h9], by simp [get, h10], by simp [get], ?_, ?_⟩ (by omega)
      · simp only [get, List.getElem_map, ↓reduceIte, Nat.reduceEqDiff]; rw [w64 (by omega) (by omega), hst.1]
      · simp only [get, List.getElem_map, ↓reduceIte, Nat.reduceEqDiff]; rw [w64 (by omega) (by omega), hst.2]
    · rename_i q
      have : i = ms.length := by omega
      subst this
      exact ⟨by simp [get, h4], by simp [get, h5]⟩
  · rintro t h ⟨h4, h5⟩
    repeat' first | (with_reducible first | refine t_seq ?_ | refine t_skip ?_ | refine t_ret ?_ | refine t_end ?_ | refine t_cond ?_ | refine t_region ?_ | refine wr_done ?_ | refine WD.done _ ?_ | refine wdp_done ?_ | refine tr_some ?_ | refine t_inBlock ?_) | ((with_reducible refine t_isDraw ?_); refine t_draw rfl (by kernel_rfl) ?_) | ((fail_if_success with_reducible refine t_bl ?_); (with_reducible refine t_block ?_)) | ((with_reducible refine t_isExit ?_); refine t_exit rfl ?_) | simp only [decide_eq_true_eq, decide_eq_false_iff_not, Bool.not_eq_true', Bool.not_eq_false'] at * | simp (disch := omega) only [go_sem, Nat.reduceLT, Nat.reduceEqDiff, Nat.reduceAdd, Nat.reduceLeDiff, Nat.reduceMul, Int.reduceLT, Int.reduceLE, Int.reduceAdd, Int.reduceSub, Int.reduceNeg, Int.reduceToNat, Int.reduceBEq, Int.reduceEq, reduceCtorEq, ↓reduceIte, *] | (with_reducible first | refine tb_true ?_ | refine tb_false ?_) | ((with_reducible first | refine tb_split ?_ ?_ | refine wg_f ?_ ?_ | refine wg_t ?_ ?_ | refine wd_f ?_ ?_ | refine wd_t ?_ ?_) <;> intro _)
    exact ⟨by simp [fz], rfl⟩
end Go.Proofs.YthahgmncnbeddaaGreatDoorA
/- sort.SearchInts, and what leans on it: arith.leap, arith.month, arith.first. -/
set_option linter.unusedVariables false
set_option linter.unusedSimpArgs false
namespace Go.Proofs.YthahgmncnbeddaaGreatDoorA
open Go Go.RowKit Go.Proofs.YthahgmncnbeddaaGreatDoorFx Go.Proofs
attribute [local go_sem] List.take_succ_cons List.take_zero List.take_nil List.drop_succ_cons List.drop_nil List.cons_append List.nil_append List.set_cons_zero List.set_cons_succ
variable {m : Int}
@[go_sem high] theorem one_mon (l : List (List UInt8 × Int × Int)) : one (monF l) = true := rfl
@[go_sem high] theorem one_int (l : List Int) : one (intF l) = true := rfl
@[go_sem high] theorem cells_mon (l : List (List UInt8 × Int × Int)) : cellsA (monF l) = some [monF l] := rfl
@[go_sem high] theorem cells_int (l : List Int) : cellsA (intF l) = some [intF l] := rfl
@[go_sem high] theorem noid_mon (d : Nat) (l : List (List UInt8 × Int × Int)) : noid (d + 1) (monF l) = true := rfl
@[go_sem high] theorem noid_int (d : Nat) (l : List Int) : noid (d + 1) (intF l) = true := rfl
@[go_sem high] theorem fz_mon (h : Hp) (d : Nat) (l : List (List UInt8 × Int × Int)) : fz h (d + 1) (monF l) = monF l := rfl
@[go_sem high] theorem fz_int (h : Hp) (d : Nat) (l : List Int) : fz h (d + 1) (intF l) = intF l := rfl
@[go_sem high] theorem len_mon (l : List (List UInt8 × Int × Int)) : lenA (monF l) = some (l.length : Int) := by simp [lenA, monF]
@[go_sem high] theorem len_int (l : List Int) : lenA (intF l) = some (l.length : Int) := by simp [lenA, intF]
@[go_sem] theorem lenT_mon (h : Hp) (e : TypeId) (l : List (List UInt8 × Int × Int)) : lenT h (monF l) (some (.slice e)) = .val (.i .i64 l.length) h := by simp [lenT, lenA, monF]
@[go_sem] theorem lenT_int (h : Hp) (e : TypeId) (l : List Int) : lenT h (intF l) (some (.slice e)) = .val (.i .i64 l.length) h := by simp [lenT, lenA, intF]
@[go_sem high] theorem idx_mon {h : Hp} {l : List (List UInt8 × Int × Int)} {i : Int} (h0 : 0 ≤ i) (h1 : i < (l.length : Int)) : idxA h 3 (monF l) i = some (.ip [.s (l[i.toNat]'(by omega)).1, .i .i64 (l[i.toNat]'(by omega)).2.1, .i .i64 (l[i.toNat]'(by omega)).2.2] 0) := by
  simp only [monF]
  rw [idx_isl h0, List.getElem?_map, List.getElem?_eq_getElem (show i.toNat < l.length by omega)]; rfl
@[go_sem high] theorem idx_int {h : Hp} {l : List Int} {i : Int} (h0 : 0 ≤ i) (h1 : i < (l.length : Int)) : idxA h 1 (intF l) i = some (.ip [.i .i64 (l[i.toNat]'(by omega))] 0) := by
  simp only [intF]
  rw [idx_isl h0, List.getElem?_map, List.getElem?_eq_getElem (show i.toNat < l.length by omega)]; rfl
/-- How many are less than x. -/
def cnt (ls : List Int) (x : Int) : Nat := (ls.filter fun y => decide (y < x)).length
theorem cnt_le (ls : List Int) (x : Int) : cnt ls x ≤ ls.length := List.length_filter_le ..
theorem cnt_spec : ∀ {ls : List Int} {x : Int}, ls.Pairwise (· < ·) → ∀ (k : Nat) (h : k < ls.length), (ls[k] < x ↔ k < cnt ls x)
  | [], x, _, k, h => by simp at h
  | y :: ls, x, hs, k, h => by
    have h1 := List.pairwise_cons.1 hs
    by_cases hy : y < x
    · have hc : cnt (y :: ls) x = cnt ls x + 1 := by simp [cnt, hy]
      cases k with
      | zero => simp [hc, hy]
      | succ k =>
        have := cnt_spec (x := x) h1.2 k (by simpa using h)
        simp only [List.getElem_cons_succ, hc]
        omega
    · have hall : ∀ z ∈ ls, ¬ z < x := fun z hz => by have := h1.1 z hz; omega
      have hc : cnt (y :: ls) x = 0 := by
        simp only [cnt, List.length_eq_zero_iff, List.filter_eq_nil_iff, List.mem_cons, decide_eq_true_eq]
        rintro z (rfl | hz)
        · exact hy
        · exact hall z hz
      rw [hc]
      constructor
      · intro q
        exfalso
        cases k with
        | zero => exact hy q
        | succ k => exact hall _ (List.getElem_mem _) q
      · omega
@[go_sem] theorem wu64 {x : Int} (h1 : 0 ≤ x) (h2 : x ≤ 18446744073709551615) : IntKind.u64.wrap x = x := by
  simp only [IntKind.wrap, IntKind.bits, IntKind.signed]; simp; omega
@[go_sem] theorem shr1 {x : Int} : x.fdiv (2 ^ min (Int.toNat 1) 64) = x / 2 := by
  rw [show ((2 : Int) ^ min (Int.toNat 1) 64) = 2 by decide]
  exact Int.fdiv_eq_ediv_of_nonneg x (by omega)
@[go_sem] theorem shr2 {x : Int} : x.fdiv (2 ^ min 1 64) = x / 2 := by
  rw [show ((2 : Int) ^ min 1 64) = 2 by decide]
  exact Int.fdiv_eq_ediv_of_nonneg x (by omega)
def seaH (ls : List Int) (x : Int) : List (Nat × Ent) := [(1, .rows 1 [[.i .i64 x]]), (0, .rows 1 [[intF ls]])]
set_option maxRecDepth 100000 in
theorem seaF (ls : List Int) (x : Int) (k : Nat) (h : k < ls.length) : MeetsH (EW m) 105 [.i .i64 k, .ptr 0 0 0, .ptr 1 0 0] ⟨seaH ls x, 2⟩ (Is (.ret (.b (!decide (ls[k] < x)))) ⟨seaH ls x, 2⟩) := by
  refine meetsH (E := (EW m)) 11 [.tmp 4] Tryz.func105 rfl (by decide) rfl rfl (by simp) ?_
  simp only [seaH]
  repeat' first | (with_reducible first | refine t_seq ?_ | refine t_skip ?_ | refine t_ret ?_ | refine t_end ?_ | refine t_cond ?_ | refine t_region ?_ | refine wr_done ?_ | refine WD.done _ ?_ | refine wdp_done ?_ | refine tr_some ?_ | refine t_inBlock ?_) | ((with_reducible refine t_isDraw ?_); refine t_draw rfl (by kernel_rfl) ?_) | ((fail_if_success with_reducible refine t_bl ?_); (with_reducible refine t_block ?_)) | ((with_reducible refine t_isExit ?_); refine t_exit rfl ?_) | simp only [decide_eq_true_eq, decide_eq_false_iff_not, Bool.not_eq_true', Bool.not_eq_false'] at * | simp (disch := omega) only [go_sem, Nat.reduceLT, Nat.reduceEqDiff, Nat.reduceAdd, Nat.reduceLeDiff, Nat.reduceMul, Int.reduceLT, Int.reduceLE, Int.reduceAdd, Int.reduceSub, Int.reduceNeg, Int.reduceToNat, Int.reduceBEq, Int.reduceEq, reduceCtorEq, ↓reduceIte, *] | (with_reducible first | refine tb_true ?_ | refine tb_false ?_) | ((with_reducible first | refine tb_split ?_ ?_ | refine wg_f ?_ ?_ | refine wg_t ?_ ?_ | refine wd_f ?_ ?_ | refine wd_t ?_ ?_) <;> intro _)
  exact ⟨by rw [show (decide (x ≤ ls[k])) = !decide (ls[k] < x) by rw [Bool.eq_iff_iff]; simp], rfl⟩
set_option maxRecDepth 100000 in
theorem seaS (ls : List Int) (x : Int) (hs : ls.Pairwise (· < ·)) (hl : ls.length ≤ 1000000) : MeetsH (EW m) 104 [.i .i64 ls.length, .fn 105 [] [.ptr 0 0 0, .ptr 1 0 0]] ⟨seaH ls x, 2⟩ (Is (.ret (.i .i64 (cnt ls x))) ⟨seaH ls x, 2⟩) := by
  refine meetsH (E := (EW m)) 26 [.tmp 4] Tryz.func104 rfl (by decide) rfl rfl (by simp) ?_
  have hcl := cnt_le ls x
  repeat' first | (with_reducible first | refine t_seq ?_ | refine t_skip ?_ | refine t_ret ?_ | refine t_end ?_ | refine t_cond ?_ | refine t_region ?_ | refine wr_done ?_ | refine WD.done _ ?_ | refine wdp_done ?_ | refine tr_some ?_ | refine t_inBlock ?_) | ((with_reducible refine t_isDraw ?_); refine t_draw rfl (by kernel_rfl) ?_) | ((fail_if_success with_reducible refine t_bl ?_); (with_reducible refine t_block ?_)) | ((with_reducible refine t_isExit ?_); refine t_exit rfl ?_) | simp only [decide_eq_true_eq, decide_eq_false_iff_not, Bool.not_eq_true', Bool.not_eq_false'] at * | simp (disch := omega) only [go_sem, Nat.reduceLT, Nat.reduceEqDiff, Nat.reduceAdd, Nat.reduceLeDiff, Nat.reduceMul, Int.reduceLT, Int.reduceLE, Int.reduceAdd, Int.reduceSub, Int.reduceNeg, Int.reduceToNat, Int.reduceBEq, Int.reduceEq, reduceCtorEq, ↓reduceIte, *] | (with_reducible first | refine tb_true ?_ | refine tb_false ?_) | ((with_reducible first | refine tb_split ?_ ?_ | refine wg_f ?_ ?_ | refine wg_t ?_ ?_ | refine wd_f ?_ ?_ | refine wd_t ?_ ?_) <;> intro _)
  refine t_while (I := fun (p : Nat × Nat) t h => p.1 ≤ cnt ls x ∧ cnt ls x ≤ p.2 ∧ p.2 ≤ ls.length ∧ h = ⟨seaH ls x, 2⟩ ∧ get t 1 = .fn 105 [] [.ptr 0 0 0, .ptr 1 0 0] ∧ get t 5 = .i .i64 p.1 ∧ get t 6 = .i .i64 p.2) (m := fun p => p.2 - p.1)
    (J := fun t h => h = ⟨seaH ls x, 2⟩ ∧ get t 5 = .i .i64 (cnt ls x)) (0, ls.length) ⟨by omega, by omega, by omega, rfl, by simp [get], by simp [get], by simp [get]⟩ ?_ ?_
  · rintro ⟨i, j⟩ t h ⟨hi, hj, hjl, rfl, h1, h5, h6⟩ hrec hex
    simp only at hi hj hjl h5 h6
    have hmid : ((i : Int) + (j : Int)) / 2 = (((i + j) / 2 : Nat) : Int) := by omega
    have hsp := cnt_spec (x := x) hs ((i + j) / 2)
    repeat' first | refine hex _ _ ?_ | ((with_reducible refine wr_isCall ?_); refine wr_ret (seaF ls x ((i + j) / 2) (by omega)) ?_) | (with_reducible first | refine t_seq ?_ | refine t_skip ?_ | refine t_ret ?_ | refine t_end ?_ | refine t_cond ?_ | refine t_region ?_ | refine wr_done ?_ | refine WD.done _ ?_ | refine wdp_done ?_ | refine tr_some ?_ | refine t_inBlock ?_) | ((with_reducible refine t_isDraw ?_); refine t_draw rfl (by kernel_rfl) ?_) | ((fail_if_success with_reducible refine t_bl ?_); (with_reducible refine t_block ?_)) | ((with_reducible refine t_isExit ?_); refine t_exit rfl ?_) | simp only [decide_eq_true_eq, decide_eq_false_iff_not, Bool.not_eq_true', Bool.not_eq_false'] at * | simp (disch := omega) only [go_sem, Nat.reduceLT, Nat.reduceEqDiff, Nat.reduceAdd, Nat.reduceLeDiff, Nat.reduceMul, Int.reduceLT, Int.reduceLE, Int.reduceAdd, Int.reduceSub, Int.reduceNeg, Int.reduceToNat, Int.reduceBEq, Int.reduceEq, reduceCtorEq, ↓reduceIte, *] | (with_reducible first | refine tb_true ?_ | refine tb_false ?_) | ((with_reducible first | refine tb_split ?_ ?_ | refine wg_f ?_ ?_ | refine wg_t ?_ ?_ | refine wd_f ?_ ?_ | refine wd_t ?_ ?_) <;> intro _)
    · refine hrec ((i + j) / 2 + 1, j) _ _ ⟨by simp only; omega, hj, hjl, rfl, by simp [get, h1], by simp [get], by simp [get, h6]⟩ (by simp only; omega)
    · refine hrec (i, (i + j) / 2) _ _ ⟨hi, by simp only; omega, by simp only; omega, rfl, by simp [get, h1], by simp [get, h5], by simp [get]⟩ (by simp only; omega)
    · rename_i q
      have : i = cnt ls x := by omega
      exact ⟨trivial, by rw [this]⟩
  · rintro t h ⟨rfl, h5⟩
    repeat' first | (with_reducible first | refine t_seq ?_ | refine t_skip ?_ | refine t_ret ?_ | refine t_end ?_ | refine t_cond ?_ | refine t_region ?_ | refine wr_done ?_ | refine WD.done _ ?_ | refine wdp_done ?_ | refine tr_some ?_ | refine t_inBlock ?_) | ((with_reducible refine t_isDraw ?_); refine t_draw rfl (by kernel_rfl) ?_) | ((fail_if_success with_reducible refine t_bl ?_); (with_reducible refine t_block ?_)) | ((with_reducible refine t_isExit ?_); refine t_exit rfl ?_) | simp only [decide_eq_true_eq, decide_eq_false_iff_not, Bool.not_eq_true', Bool.not_eq_false'] at * | simp (disch := omega) only [go_sem, Nat.reduceLT, Nat.reduceEqDiff, Nat.reduceAdd, Nat.reduceLeDiff, Nat.reduceMul, Int.reduceLT, Int.reduceLE, Int.reduceAdd, Int.reduceSub, Int.reduceNeg, Int.reduceToNat, Int.reduceBEq, Int.reduceEq, reduceCtorEq, ↓reduceIte, *] | (with_reducible first | refine tb_true ?_ | refine tb_false ?_) | ((with_reducible first | refine tb_split ?_ ?_ | refine wg_f ?_ ?_ | refine wg_t ?_ ?_ | refine wd_f ?_ ?_ | refine wd_t ?_ ?_) <;> intro _)
    exact ⟨rfl, rfl⟩
set_option maxRecDepth 100000 in
theorem searchP (ls : List Int) (x : Int) (hs : ls.Pairwise (· < ·)) (hl : ls.length ≤ 1000000) : MeetsP Tryz.prog (glT m) 84 [intF ls, .i .i64 x] (.i .i64 (cnt ls x)) := by
  have hh := seaS (m := m) ls x hs hl
  simp only [seaH] at hh ⊢
  refine meetsP (E := (EW m)) 9 [.tmp 4] (ew m) Tryz.func84 rfl (by decide) rfl rfl (by simp) ?_
  repeat' first | ((with_reducible refine wr_isCall ?_); refine wr_ret hh ?_) | (with_reducible first | refine t_seq ?_ | refine t_skip ?_ | refine t_ret ?_ | refine t_end ?_ | refine t_cond ?_ | refine t_region ?_ | refine wr_done ?_ | refine WD.done _ ?_ | refine wdp_done ?_ | refine tr_some ?_ | refine t_inBlock ?_) | ((with_reducible refine t_isDraw ?_); refine t_draw rfl (by kernel_rfl) ?_) | ((fail_if_success with_reducible refine t_bl ?_); (with_reducible refine t_block ?_)) | ((with_reducible refine t_isExit ?_); refine t_exit rfl ?_) | simp only [decide_eq_true_eq, decide_eq_false_iff_not, Bool.not_eq_true', Bool.not_eq_false'] at * | simp (disch := omega) only [go_sem, Nat.reduceLT, Nat.reduceEqDiff, Nat.reduceAdd, Nat.reduceLeDiff, Nat.reduceMul, Int.reduceLT, Int.reduceLE, Int.reduceAdd, Int.reduceSub, Int.reduceNeg, Int.reduceToNat, Int.reduceBEq, Int.reduceEq, reduceCtorEq, ↓reduceIte, *] | (with_reducible first | refine tb_true ?_ | refine tb_false ?_) | ((with_reducible first | refine tb_split ?_ ?_ | refine wg_f ?_ ?_ | refine wg_t ?_ ?_ | refine wd_f ?_ ?_ | refine wd_t ?_ ?_) <;> intro _)
  exact ⟨by simp [fz], rfl⟩
/-- The place of a year in its cycle. -/
def Cal.place (c : Cal) (y : Int) : Int := (y - 1) % c.cy
def Cal.leap (c : Cal) (y : Int) : Bool := decide ((y - 1) % c.cy + 1 ∈ c.ls)
theorem mem_cnt {ls : List Int} {x : Int} (hs : ls.Pairwise (· < ·)) : x ∈ ls ↔ ∃ h : cnt ls x < ls.length, ls[cnt ls x] = x := by
  constructor
  · intro hx
    obtain ⟨k, hk, rfl⟩ := List.mem_iff_getElem.1 hx
    have h1 := cnt_spec (x := ls[k]) hs k hk
    have h2 : ¬ k < cnt ls ls[k] := fun q => by have := h1.2 q; omega
    have h3 : ¬ cnt ls ls[k] < k := fun q => by
      have h4 := (cnt_spec (x := ls[k]) hs (cnt ls ls[k]) (by omega))
      have h5 : ls[cnt ls ls[k]]'(by omega) < ls[k] := List.pairwise_iff_getElem.1 hs _ _ _ _ q
      have := h4.1 h5
      omega
    have h6 : cnt ls ls[k] = k := by omega
    exact ⟨by omega, by simp only [h6]⟩
  · rintro ⟨h, e⟩
    rw [← e]; exact List.getElem_mem h
theorem Cal.Ok.lsc {c : Cal} (h : c.Ok) : (c.ls.length : Int) ≤ c.cy := by
  have key : ∀ (l : List Int) (a b : Int), l.Pairwise (· < ·) → (∀ y ∈ l, a ≤ y ∧ y ≤ b) → a ≤ b + 1 → (l.length : Int) ≤ b - a + 1 := by
    intro l
    induction l with
    | nil => intro a b _ _ hab; simp; omega
    | cons y l ih =>
      intro a b hp hw hab
      have h1 := List.pairwise_cons.1 hp
      have h2 := hw y (List.mem_cons_self ..)
      have := ih (y + 1) b h1.2 (fun z hz => ⟨by have := h1.1 z hz; omega, (hw z (List.mem_cons_of_mem _ hz)).2⟩) (by omega)
      simp only [List.length_cons]; omega
  have := key c.ls 1 c.cy h.sorted h.within (by have := h.cy1; omega)
  omega
theorem Cal.Ok.lsl {c : Cal} (h : c.Ok) : c.ls.length ≤ 3000 := by
  have := h.lsc
  have := h.cy2
  omega
set_option maxHeartbeats 1000000 in
set_option maxRecDepth 100000 in
theorem leapP (c : Cal) (hc : c.Ok) (y : Int) (h1 : -1000000 ≤ y) (h2 : y ≤ 1000000) : MeetsP Tryz.prog (glT m) 85 [c.A, .i .i64 y] (.b (c.leap y)) := by
  have hl := hc.lsl
  have hs := hc.sorted
  have hcy := hc.cy1
  have hcy2 := hc.cy2
  obtain ⟨nm, ep, cy, ms, ls⟩ := c
  simp only [Cal.A, Cal.leap] at *
  have hm1 := Int.emod_nonneg (y - 1) (show cy ≠ 0 by omega)
  have hm2 := Int.emod_lt_of_pos (y - 1) (show 0 < cy by omega)
  have hM := modP (m := m) (a := y - 1) (b := cy) (by omega) (by omega) (by omega) (by omega)
  have hS := searchP (m := m) ls ((y - 1) % cy + 1) hs (by omega)
  generalize (y - 1) % cy = r at *
  have hcl := cnt_le ls (r + 1)
  refine meetsP (E := (EW m)) 31 [.tmp 4] (ew m) Tryz.func85 rfl (by decide) rfl rfl (by simp) ?_
  repeat' first | ((with_reducible refine wr_isCall ?_); first | refine wr_P hM rfl ?_ | refine wr_P hS rfl ?_) | (with_reducible first | refine t_seq ?_ | refine t_skip ?_ | refine t_ret ?_ | refine t_end ?_ | refine t_cond ?_ | refine t_region ?_ | refine wr_done ?_ | refine WD.done _ ?_ | refine wdp_done ?_ | refine tr_some ?_ | refine t_inBlock ?_) | ((with_reducible refine t_isDraw ?_); refine t_draw rfl (by kernel_rfl) ?_) | ((fail_if_success with_reducible refine t_bl ?_); (with_reducible refine t_block ?_)) | ((with_reducible refine t_isExit ?_); refine t_exit rfl ?_) | simp only [decide_eq_true_eq, decide_eq_false_iff_not, Bool.not_eq_true', Bool.not_eq_false'] at * | simp (disch := omega) only [go_sem, Nat.reduceLT, Nat.reduceEqDiff, Nat.reduceAdd, Nat.reduceLeDiff, Nat.reduceMul, Int.reduceLT, Int.reduceLE, Int.reduceAdd, Int.reduceSub, Int.reduceNeg, Int.reduceToNat, Int.reduceBEq, Int.reduceEq, reduceCtorEq, ↓reduceIte, *] | (with_reducible first | refine tb_true ?_ | refine tb_false ?_) | ((with_reducible first | refine tb_split ?_ ?_ | refine wg_f ?_ ?_ | refine wg_t ?_ ?_ | refine wd_f ?_ ?_ | refine wd_t ?_ ?_) <;> intro _)
  all_goals (have hmem := mem_cnt (x := r + 1) hs; refine ⟨?_, rfl⟩)
  · rename_i q
    have e : decide (ls[cnt ls (r + 1)] = r + 1) = decide (r + 1 ∈ ls) := decide_eq_decide.2 ⟨fun e => hmem.2 ⟨by omega, e⟩, fun h => (hmem.1 h).2⟩
    simp only [fz, e]
  · rename_i q
    have e : decide (r + 1 ∈ ls) = false := decide_eq_false (fun h => by obtain ⟨h, _⟩ := hmem.1 h; omega)
    simp only [fz, e]
end Go.Proofs.YthahgmncnbeddaaGreatDoorA
/- arith.month, arith.first. -/
set_option linter.unusedVariables false
set_option linter.unusedSimpArgs false
namespace Go.Proofs.YthahgmncnbeddaaGreatDoorA
open Go Go.RowKit Go.Proofs.YthahgmncnbeddaaGreatDoorFx Go.Proofs
attribute [local go_sem] List.take_succ_cons List.take_zero List.take_nil List.drop_succ_cons List.drop_nil List.cons_append List.nil_append List.set_cons_zero List.set_cons_succ
variable {m : Int}
def Cal.mlen (c : Cal) (y k : Int) : Int := if c.leap y then ((c.ms[(k - 1).toNat]?).getD ([], 0, 0)).2.2 else ((c.ms[(k - 1).toNat]?).getD ([], 0, 0)).2.1
set_option maxHeartbeats 1000000 in
set_option maxRecDepth 100000 in
theorem monthP (c : Cal) (hc : c.Ok) (y k : Int) (h1 : -1000000 ≤ y) (h2 : y ≤ 1000000) (hk : 1 ≤ k) (hk2 : k ≤ c.ms.length) : MeetsP Tryz.prog (glT m) 61 [c.A, .i .i64 y, .i .i64 k] (.i .i64 (c.mlen y k)) := by
  have hL := leapP (m := m) c hc y h1 h2
  have h20 := hc.len2
  unfold Cal.mlen
  obtain ⟨nm, ep, cy, ms, ls⟩ := c
  generalize Cal.leap ⟨nm, ep, cy, ms, ls⟩ y = b at *
  simp only [Cal.A] at *
  refine meetsP (E := (EW m)) 24 [.tmp 6] (ew m) Tryz.func61 rfl (by decide) rfl rfl (by simp) ?_
  repeat' first | ((with_reducible refine wr_isCall ?_); refine wr_P hL rfl ?_) | (with_reducible first | refine t_seq ?_ | refine t_skip ?_ | refine t_ret ?_ | refine t_end ?_ | refine t_cond ?_ | refine t_region ?_ | refine wr_done ?_ | refine WD.done _ ?_ | refine wdp_done ?_ | refine tr_some ?_ | refine t_inBlock ?_) | ((with_reducible refine t_isDraw ?_); refine t_draw rfl (by kernel_rfl) ?_) | ((fail_if_success with_reducible refine t_bl ?_); (with_reducible refine t_block ?_)) | ((with_reducible refine t_isExit ?_); refine t_exit rfl ?_) | simp only [decide_eq_true_eq, decide_eq_false_iff_not, Bool.not_eq_true', Bool.not_eq_false'] at * | simp (disch := omega) only [go_sem, Nat.reduceLT, Nat.reduceEqDiff, Nat.reduceAdd, Nat.reduceLeDiff, Nat.reduceMul, Int.reduceLT, Int.reduceLE, Int.reduceAdd, Int.reduceSub, Int.reduceNeg, Int.reduceToNat, Int.reduceBEq, Int.reduceEq, reduceCtorEq, ↓reduceIte, *] | (with_reducible first | refine tb_true ?_ | refine tb_false ?_) | ((with_reducible first | refine tb_split ?_ ?_ | refine wg_f ?_ ?_ | refine wg_t ?_ ?_ | refine wd_f ?_ ?_ | refine wd_t ?_ ?_) <;> intro _)
  all_goals exact ⟨rfl, rfl⟩
theorem cnt_bound {ls : List Int} {r : Int} (hs : ls.Pairwise (· < ·)) (hw : ∀ z ∈ ls, 1 ≤ z) (hr : 0 ≤ r) : (cnt ls (r + 1) : Int) ≤ r := by
  have key : ∀ (l : List Int) (a : Int), l.Pairwise (· < ·) → (∀ z ∈ l, a ≤ z) → a ≤ r + 1 → (cnt l (r + 1) : Int) ≤ r + 1 - a := by
    intro l
    induction l with
    | nil => intro a _ _ ha; simp [cnt]; omega
    | cons z l ih =>
      intro a hp hw ha
      have h1 := List.pairwise_cons.1 hp
      have hz := hw z (List.mem_cons_self ..)
      by_cases hy : z < r + 1
      · have hc : cnt (z :: l) (r + 1) = cnt l (r + 1) + 1 := by simp [cnt, hy]
        have := ih (z + 1) h1.2 (fun x hx => by have := h1.1 x hx; omega) (by omega)
        omega
      · have hc : cnt (z :: l) (r + 1) = 0 := by
          simp only [cnt, List.length_eq_zero_iff, List.filter_eq_nil_iff, List.mem_cons, decide_eq_true_eq]
          rintro x (rfl | hx)
          · exact hy
          · have := h1.1 x hx; omega
        rw [hc]; omega
  have := key ls 1 hs hw (by omega)
  omega
/-- The days of a cycle. -/
def Cal.total (c : Cal) : Int := sumS c.ms * (c.cy - c.ls.length) + sumL c.ms * c.ls.length
/-- The first day of a year. -/
def Cal.first (c : Cal) (y : Int) : Int := c.ep + (y - 1) / c.cy * c.total + sumS c.ms * ((y - 1) % c.cy - cnt c.ls ((y - 1) % c.cy + 1)) + sumL c.ms * cnt c.ls ((y - 1) % c.cy + 1)
set_option maxHeartbeats 1000000 in
set_option maxRecDepth 100000 in
theorem firstP (c : Cal) (hc : c.Ok) (y : Int) (h1 : -1000000 ≤ y) (h2 : y ≤ 1000000) : MeetsP Tryz.prog (glT m) 60 [c.A, .i .i64 y] (.i .i64 (c.first y)) := by
  have hLe := lengthsP (m := m) c hc
  have hl := hc.lsl
  have hs := hc.sorted
  have hcy := hc.cy1
  have hcy2 := hc.cy2
  have hep1 := hc.ep1
  have hep2 := hc.ep2
  have h20 := hc.len2
  have hsum := sums_le c.ms hc.mon
  have hw := hc.within
  have hlc := hc.lsc
  obtain ⟨nm, ep, cy, ms, ls⟩ := c
  simp only [Cal.A, Cal.first, Cal.total] at *
  have hm1 := Int.emod_nonneg (y - 1) (show cy ≠ 0 by omega)
  have hm2 := Int.emod_lt_of_pos (y - 1) (show 0 < cy by omega)
  have hq := ediv_small (a := y - 1) (b := cy) (M := 1000001) (by omega) (by omega) (by omega) (by omega)
  have hD := divP (m := m) (a := y - 1) (b := cy) (by omega) (by omega) (by omega) (by omega)
  have hS := searchP (m := m) ls ((y - 1) % cy + 1) hs (by omega)
  have hcl := cnt_le ls ((y - 1) % cy + 1)
  have hcr : (cnt ls ((y - 1) % cy + 1) : Int) ≤ (y - 1) % cy := cnt_bound hs (fun z hz => (hw z hz).1) hm1
  generalize (y - 1) % cy = r at *
  generalize (y - 1) / cy = q at *
  generalize cnt ls (r + 1) = n at *
  generalize sumS ms = a at *
  generalize sumL ms = b at *
  have p1 : 0 ≤ a * (cy - ls.length) ∧ a * (cy - ls.length) ≤ 8000 * 3000 := ⟨Int.mul_nonneg (by omega) (by omega), (Int.mul_le_mul (show a ≤ 8000 by omega) (show cy - (ls.length : Int) ≤ 3000 by omega) (by omega) (by omega))⟩
  have p2 : 0 ≤ b * (ls.length : Int) ∧ b * (ls.length : Int) ≤ 8000 * 3000 := ⟨Int.mul_nonneg (by omega) (by omega), (Int.mul_le_mul (show b ≤ 8000 by omega) (show (ls.length : Int) ≤ 3000 by omega) (by omega) (by omega))⟩
  have p3 : -96000000000000 ≤ q * (a * (cy - ls.length) + b * ls.length) ∧ q * (a * (cy - ls.length) + b * ls.length) ≤ 96000000000000 := by
    have t1 : 0 ≤ a * (cy - (ls.length : Int)) + b * (ls.length : Int) ∧ a * (cy - (ls.length : Int)) + b * (ls.length : Int) ≤ 48000000 := by omega
    generalize a * (cy - (ls.length : Int)) + b * (ls.length : Int) = tt at *
    constructor
    · have := Int.mul_le_mul_of_nonneg_right (show -1000001 ≤ q by omega) t1.1
      have := Int.mul_le_mul_of_nonneg_left t1.2 (show (0 : Int) ≤ 1000001 by omega)
      omega
    · have := Int.mul_le_mul_of_nonneg_right (show q ≤ 1000001 by omega) t1.1
      have := Int.mul_le_mul_of_nonneg_left t1.2 (show (0 : Int) ≤ 1000001 by omega)
      omega
  have p4 : -24000000 ≤ a * (r - n) ∧ a * (r - n) ≤ 24000000 := by
    have := Int.mul_nonneg (show 0 ≤ a by omega) (show 0 ≤ r - (n : Int) by omega)
    have := Int.mul_le_mul (show a ≤ 8000 by omega) (show r - (n : Int) ≤ 3000 by omega) (by omega) (show (0 : Int) ≤ 8000 by omega)
    omega
  have p5 : 0 ≤ b * (n : Int) ∧ b * (n : Int) ≤ 24000000 := ⟨Int.mul_nonneg (by omega) (by omega), (Int.mul_le_mul (show b ≤ 8000 by omega) (show (n : Int) ≤ 3000 by omega) (by omega) (by omega))⟩
  refine meetsP (E := (EW m)) 61 [.tmp 4] (ew m) Tryz.func60 rfl (by decide) rfl rfl (by simp) ?_
  repeat' first | ((with_reducible refine wr_isCall ?_); first | refine wr_P hD rfl ?_ | refine wr_P hLe rfl ?_ | refine wr_P hS rfl ?_) | (with_reducible first | refine t_seq ?_ | refine t_skip ?_ | refine t_ret ?_ | refine t_end ?_ | refine t_cond ?_ | refine t_region ?_ | refine wr_done ?_ | refine WD.done _ ?_ | refine wdp_done ?_ | refine tr_some ?_ | refine t_inBlock ?_) | ((with_reducible refine t_isDraw ?_); refine t_draw rfl (by kernel_rfl) ?_) | ((fail_if_success with_reducible refine t_bl ?_); (with_reducible refine t_block ?_)) | ((with_reducible refine t_isExit ?_); refine t_exit rfl ?_) | simp only [decide_eq_true_eq, decide_eq_false_iff_not, Bool.not_eq_true', Bool.not_eq_false'] at * | simp (disch := omega) only [go_sem, Nat.reduceLT, Nat.reduceEqDiff, Nat.reduceAdd, Nat.reduceLeDiff, Nat.reduceMul, Int.reduceLT, Int.reduceLE, Int.reduceAdd, Int.reduceSub, Int.reduceNeg, Int.reduceToNat, Int.reduceBEq, Int.reduceEq, reduceCtorEq, ↓reduceIte, *] | (with_reducible first | refine tb_true ?_ | refine tb_false ?_) | ((with_reducible first | refine tb_split ?_ ?_ | refine wg_f ?_ ?_ | refine wg_t ?_ ?_ | refine wd_f ?_ ?_ | refine wd_t ?_ ?_) <;> intro _)
  all_goals exact ⟨rfl, rfl⟩
end Go.Proofs.YthahgmncnbeddaaGreatDoorA
/- compile.Check, arith.begin, NewYear, Month, ToDay. -/
set_option linter.unusedVariables false
set_option linter.unusedSimpArgs false
namespace Go.Proofs.YthahgmncnbeddaaGreatDoorA
open Go Go.RowKit Go.Proofs.YthahgmncnbeddaaGreatDoorFx Go.Proofs
attribute [local go_sem] List.take_succ_cons List.take_zero List.take_nil List.drop_succ_cons List.drop_nil List.cons_append List.nil_append List.set_cons_zero List.set_cons_succ
variable {m : Int}
open Classical in
/-- Pure calls that are told beforehand: for regions that draw. -/
noncomputable def EL (m : Int) (L : List (FuncId × List AV × AV)) : Env := ⟨Tryz.prog, glT m, fun f args => (L.find? fun e => decide (e.1 = f ∧ e.2.1 = args)).map (·.2.2)⟩
@[go_sem] theorem elP (m : Int) (L : List (FuncId × List AV × AV)) : (EL m L).P = Tryz.prog := rfl
@[go_sem] theorem elG (m : Int) (L : List (FuncId × List AV × AV)) : (EL m L).gl = glT m := rfl
theorem el_ok {L : List (FuncId × List AV × AV)} (h : ∀ e ∈ L, MeetsP Tryz.prog (glT m) e.1 e.2.1 e.2.2) : ModOk (EL m L) := by
  intro f args r e
  simp only [EL, Option.map_eq_some_iff] at e
  obtain ⟨x, hx, rfl⟩ := e
  have h1 := List.find?_some hx
  simp only [decide_eq_true_eq] at h1
  have := h x (List.mem_of_find?_eq_some hx)
  rw [h1.1, h1.2] at this
  exact this
def callZ (E : Env) (h : Hp) (f : FuncId) (args : List AV) : OR := callA E h f args
@[go_sem] theorem el_hit (m : Int) (L : List (FuncId × List AV × AV)) (h : Hp) (f : FuncId) (args : List AV) (r : AV) : callA (EL m ((f, args, r) :: L)) h f args = if args.all (noid 12) = true then .val r h else callZ (EL m ((f, args, r) :: L)) h f args := by
  split
  · rename_i hn
    unfold callA
    rw [if_pos hn]
    simp [EL]
  · rfl
@[go_sem] theorem el_nil (m : Int) (h : Hp) (f : FuncId) (args : List AV) : callA (EL m []) h f args = .call f args := by
  unfold callA
  split
  · rfl
  · split <;> rfl
@[go_sem low] theorem el_miss (m : Int) (L : List (FuncId × List AV × AV)) (h : Hp) (f f0 : FuncId) (args a0 : List AV) (r : AV) : callA (EL m ((f0, a0, r) :: L)) h f args = if f0 = f then callZ (EL m ((f0, a0, r) :: L)) h f args else callA (EL m L) h f args := by
  split
  · rfl
  · rename_i hf
    unfold callA
    simp [EL, hf]
theorem t_with {f : FuncId} {K : List Item} {S : St} {X : Ex → St → Prop} (L : List (FuncId × List AV × AV)) (h : ∀ e ∈ L, MeetsP Tryz.prog (glT m) e.1 e.2.1 e.2.2) (hT : T (EL m L) f K S X) : T (EW m) f K S X :=
  fun F G ok w a b cs _ q3 q5 q6 q7 => hT F G ok w a b cs (el_ok h) q3 q5 q6 q7
theorem t_back {f : FuncId} {K : List Item} {S : St} {X : Ex → St → Prop} {L : List (FuncId × List AV × AV)} (hT : T (EW m) f K S X) : T (EL m L) f K S X :=
  fun F G ok w a b cs _ q3 q5 q6 q7 => hT F G ok w a b cs (ew m) q3 q5 q6 q7
inductive WDP (m : Int) (L : List (FuncId × List AV × AV)) (f : FuncId) (K : List Item) (X : Ex → St → Prop) (r : RR) : Prop
  | done (S : St) (h : T (EW m) f K S X) (e : r = .done S) : WDP m L f K X r
theorem wdp_done {L : List (FuncId × List AV × AV)} {f : FuncId} {K : List Item} {X : Ex → St → Prop} {S : St} (h : T (EW m) f K S X) : WDP m L f K X (.done S) := .done S h rfl
/-- A region that draws, with pure calls. -/
theorem t_drawP {f : FuncId} {K : List Item} {S : St} {X : Ex → St → Prop} {id : Nat} {ops : Array Oper} (L : List (FuncId × List AV × AV)) (h : ∀ e ∈ L, MeetsP Tryz.prog (glT m) e.1 e.2.1 e.2.2) (hO : orderB ops = true) (hT : WDP m L f K X (runA (EL m L) ops.toList ops.toList S)) : T (EW m) f (.code (.region id ops true) :: K) S X := by
  refine t_with L h (t_draw (E := EL m L) (by kernel_rfl) hO ?_)
  cases hT with
  | done S' hT e => rw [e]; exact .done S' (t_back hT)
theorem t_draw1 {f : FuncId} {K : List Item} {S : St} {X : Ex → St → Prop} {id : Nat} {ops : Array Oper} {g : FuncId} {args : List AV} {r : AV} (hp : MeetsP Tryz.prog (glT m) g args r) (hO : orderB ops = true) (hT : WDP m [(g, args, r)] f K X (runA (EL m [(g, args, r)]) ops.toList ops.toList S)) : T (EW m) f (.code (.region id ops true) :: K) S X :=
  t_drawP _ (fun e he => by simp only [List.mem_cons, List.not_mem_nil, or_false] at he; subst he; exact hp) hO hT
theorem t_draw2 {f : FuncId} {K : List Item} {S : St} {X : Ex → St → Prop} {id : Nat} {ops : Array Oper} {g g2 : FuncId} {args args2 : List AV} {r r2 : AV} (hp : MeetsP Tryz.prog (glT m) g args r) (hp2 : MeetsP Tryz.prog (glT m) g2 args2 r2) (hO : orderB ops = true) (hT : WDP m [(g, args, r), (g2, args2, r2)] f K X (runA (EL m [(g, args, r), (g2, args2, r2)]) ops.toList ops.toList S)) : T (EW m) f (.code (.region id ops true) :: K) S X :=
  t_drawP _ (fun e he => by simp only [List.mem_cons, List.not_mem_nil, or_false] at he; rcases he with rfl | rfl; exact hp; exact hp2) hO hT
theorem chkDay_ok {d : Int} (h1 : -4000000 ≤ d) (h2 : d ≤ 4000000) : chkDay d = 0 := by unfold chkDay; rw [if_neg (by omega)]
set_option maxRecDepth 100000 in
theorem checkP (c : Cal) (hc : c.Ok) (hname : MeetsP Tryz.prog (glT m) 80 [.s c.nm] (.b true)) (hmon : MeetsP Tryz.prog (glT m) 81 [monF c.ms] (.i .i64 0)) : MeetsP Tryz.prog (glT m) 59 [c.A] (.i .i64 0) := by
  have hl := hc.lsl
  have hs := hc.sorted
  have hw := hc.within
  have hcy := hc.cy1
  have hcy2 := hc.cy2
  have hday := lineCheck (m := m) c.ep
  rw [chkDay_ok hc.ep1 hc.ep2] at hday
  obtain ⟨nm, ep, cy, ms, ls⟩ := c
  simp only [Cal.A] at *
  have k1 : ¬ cy < 1 := by omega
  have k2 : ¬ 3000 < cy := by omega
  refine meetsP (E := (EW m)) 51 [.tmp 2] (ew m) Tryz.func59 rfl (by decide) rfl rfl (by simp) ?_
  repeat' first | ((with_reducible refine wr_isCall ?_); first | refine wr_P hname rfl ?_ | refine wr_P hmon rfl ?_ | refine wr_P hday rfl ?_) | (with_reducible first | refine t_seq ?_ | refine t_skip ?_ | refine t_ret ?_ | refine t_end ?_ | refine t_cond ?_ | refine t_region ?_ | refine wr_done ?_ | refine WD.done _ ?_ | refine wdp_done ?_ | refine tr_some ?_ | refine t_inBlock ?_) | ((with_reducible refine t_isDraw ?_); refine t_draw rfl (by kernel_rfl) ?_) | ((fail_if_success with_reducible refine t_bl ?_); (with_reducible refine t_block ?_)) | ((with_reducible refine t_isExit ?_); refine t_exit rfl ?_) | simp only [decide_eq_true_eq, decide_eq_false_iff_not, Bool.not_eq_true', Bool.not_eq_false'] at * | simp (disch := omega) only [go_sem, Nat.reduceLT, Nat.reduceEqDiff, Nat.reduceAdd, Nat.reduceLeDiff, Nat.reduceMul, Int.reduceLT, Int.reduceLE, Int.reduceAdd, Int.reduceSub, Int.reduceNeg, Int.reduceToNat, Int.reduceBEq, Int.reduceEq, reduceCtorEq, ↓reduceIte, *] | (with_reducible first | refine tb_true ?_ | refine tb_false ?_) | ((with_reducible first | refine tb_split ?_ ?_ | refine wg_f ?_ ?_ | refine wg_t ?_ ?_ | refine wd_f ?_ ?_ | refine wd_t ?_ ?_) <;> intro _)
  refine t_while (I := fun (i : Nat) t h => i ≤ ls.length ∧ h = ⟨[(0, .rows 5 [[.s nm, .i .i64 ep, .i .i64 cy, monF ms, intF ls]])], 1⟩ ∧ get t 1 = .ptr 0 0 0 ∧ get t 32 = intF ls ∧ get t 33 = .i .i64 ls.length ∧ get t 34 = .i .i64 i ∧ ∃ last : Int, get t 4 = .i .i64 last ∧ last < cy + 1 ∧ ∀ h : i < ls.length, last < ls[i]) (m := fun i => ls.length - i)
    (J := fun t h => True) 0 ⟨by omega, rfl, by simp [get], by simp [get], by simp [get], by simp [get], 0, by simp [get], by omega, fun h => by have := (hw _ (List.getElem_mem h)).1; omega⟩ ?_ ?_
  · rintro i t h ⟨hi, rfl, h1, h32, h33, h34, last, h4, hlast, hlt⟩ hrec hex
    repeat' first | refine hex _ _ trivial | (with_reducible first | refine t_seq ?_ | refine t_skip ?_ | refine t_ret ?_ | refine t_end ?_ | refine t_cond ?_ | refine t_region ?_ | refine wr_done ?_ | refine WD.done _ ?_ | refine wdp_done ?_ | refine tr_some ?_ | refine t_inBlock ?_) | ((with_reducible refine t_isDraw ?_); refine t_draw rfl (by kernel_rfl) ?_) | ((fail_if_success with_reducible refine t_bl ?_); (with_reducible refine t_block ?_)) | ((with_reducible refine t_isExit ?_); refine t_exit rfl ?_) | simp only [decide_eq_true_eq, decide_eq_false_iff_not, Bool.not_eq_true', Bool.not_eq_false'] at * | simp (disch := omega) only [go_sem, Nat.reduceLT, Nat.reduceEqDiff, Nat.reduceAdd, Nat.reduceLeDiff, Nat.reduceMul, Int.reduceLT, Int.reduceLE, Int.reduceAdd, Int.reduceSub, Int.reduceNeg, Int.reduceToNat, Int.reduceBEq, Int.reduceEq, reduceCtorEq, ↓reduceIte, *] | (with_reducible first | refine tb_true ?_ | refine tb_false ?_) | ((with_reducible first | refine tb_split ?_ ?_ | refine wg_f ?_ ?_ | refine wg_t ?_ ?_ | refine wd_f ?_ ?_ | refine wd_t ?_ ?_) <;> intro _)
    all_goals try (exfalso; have h9 := hw _ (List.getElem_mem (show i < ls.length by omega)); have h10 := hlt (by omega); omega)
    rename_i q1 q2 q3 q4
    have hi' : i < ls.length := by omega
    exact hrec (i + 1) _ _ ⟨by omega, rfl, by simp [get, h1], by simp [get, h32], by simp [get, h33], by simp [get], ls[i], by simp [get], by have := (hw _ (List.getElem_mem hi')).2; omega, fun h => List.pairwise_iff_getElem.1 hs _ _ _ _ (by omega)⟩ (by omega)
  · rintro t h -
    repeat' first | (with_reducible first | refine t_seq ?_ | refine t_skip ?_ | refine t_ret ?_ | refine t_end ?_ | refine t_cond ?_ | refine t_region ?_ | refine wr_done ?_ | refine WD.done _ ?_ | refine wdp_done ?_ | refine tr_some ?_ | refine t_inBlock ?_) | ((with_reducible refine t_isDraw ?_); refine t_draw rfl (by kernel_rfl) ?_) | ((fail_if_success with_reducible refine t_bl ?_); (with_reducible refine t_block ?_)) | ((with_reducible refine t_isExit ?_); refine t_exit rfl ?_) | simp only [decide_eq_true_eq, decide_eq_false_iff_not, Bool.not_eq_true', Bool.not_eq_false'] at * | simp (disch := omega) only [go_sem, Nat.reduceLT, Nat.reduceEqDiff, Nat.reduceAdd, Nat.reduceLeDiff, Nat.reduceMul, Int.reduceLT, Int.reduceLE, Int.reduceAdd, Int.reduceSub, Int.reduceNeg, Int.reduceToNat, Int.reduceBEq, Int.reduceEq, reduceCtorEq, ↓reduceIte, *] | (with_reducible first | refine tb_true ?_ | refine tb_false ?_) | ((with_reducible first | refine tb_split ?_ ?_ | refine wg_f ?_ ?_ | refine wg_t ?_ ?_ | refine wd_f ?_ ?_ | refine wd_t ?_ ?_) <;> intro _)
    exact ⟨rfl, rfl⟩
/-- What a year is asked for. -/
def chkYear (y : Int) : Int := if y < -10000 ∨ 10000 < y then 3 else 0
/-- A calendar that is checked. -/
structure Cal.Good (m : Int) (c : Cal) : Prop extends c.Ok where
  check : MeetsP Tryz.prog (glT m) 59 [c.A] (.i .i64 0)
section
variable {c : Cal} (hc : c.Good m)
include hc
set_option maxRecDepth 100000 in
theorem beginP (y : Int) : MeetsP Tryz.prog (glT m) 88 [c.A, .i .i64 y] (.i .i64 (chkYear y)) := by
  have hk := hc.check
  obtain ⟨nm, ep, cy, ms, ls⟩ := c
  simp only [Cal.A] at *
  refine meetsP (E := (EW m)) 17 [.tmp 4] (ew m) Tryz.func88 rfl (by decide) rfl rfl (by simp) ?_
  repeat' first | ((with_reducible refine wr_isCall ?_); refine wr_P hk rfl ?_) | (with_reducible first | refine t_seq ?_ | refine t_skip ?_ | refine t_ret ?_ | refine t_end ?_ | refine t_cond ?_ | refine t_region ?_ | refine wr_done ?_ | refine WD.done _ ?_ | refine wdp_done ?_ | refine tr_some ?_ | refine t_inBlock ?_) | ((with_reducible refine t_isDraw ?_); refine t_draw rfl (by kernel_rfl) ?_) | ((fail_if_success with_reducible refine t_bl ?_); (with_reducible refine t_block ?_)) | ((with_reducible refine t_isExit ?_); refine t_exit rfl ?_) | simp only [decide_eq_true_eq, decide_eq_false_iff_not, Bool.not_eq_true', Bool.not_eq_false'] at * | simp (disch := omega) only [go_sem, Nat.reduceLT, Nat.reduceEqDiff, Nat.reduceAdd, Nat.reduceLeDiff, Nat.reduceMul, Int.reduceLT, Int.reduceLE, Int.reduceAdd, Int.reduceSub, Int.reduceNeg, Int.reduceToNat, Int.reduceBEq, Int.reduceEq, reduceCtorEq, ↓reduceIte, *] | (with_reducible first | refine tb_true ?_ | refine tb_false ?_) | ((with_reducible first | refine tb_split ?_ ?_ | refine wg_f ?_ ?_ | refine wg_t ?_ ?_ | refine wd_f ?_ ?_ | refine wd_t ?_ ?_) <;> intro _)
  all_goals refine ⟨?_, rfl⟩
  all_goals simp [fz, chkYear, *]
set_option maxRecDepth 100000 in
theorem monthLenP (y k : Int) (hk : 1 ≤ k) (hk2 : k ≤ c.ms.length) : MeetsP Tryz.prog (glT m) 68 [c.A, .i .i64 y, .i .i64 k] (if chkYear y = 0 then .tup [.i .i64 (c.mlen y k), .i .i64 0] else .tup [.i .i64 0, .i .i64 3]) := by
  have hb := beginP hc y
  have hf := fun h1 h2 => monthP (m := m) c hc.toOk y k h1 h2 hk hk2
  generalize hF : c.mlen y k = F at *
  obtain ⟨nm, ep, cy, ms, ls⟩ := c
  simp only [Cal.A] at *
  have k1 : ¬ k < 1 := by omega
  have k2 : ¬ (ms.length : Int) < k := by omega
  by_cases hy : y < -10000 ∨ 10000 < y
  · have e : chkYear y = 3 := if_pos hy
    rw [e] at hb ⊢
    refine meetsP (E := (EW m)) 28 [.tmp 6, .tmp 7] (ew m) Tryz.func68 rfl (by decide) rfl rfl (by simp) ?_
    repeat' first | ((with_reducible refine wr_isCall ?_); refine wr_P hb rfl ?_) | (with_reducible first | refine t_seq ?_ | refine t_skip ?_ | refine t_ret ?_ | refine t_end ?_ | refine t_cond ?_ | refine t_region ?_ | refine wr_done ?_ | refine WD.done _ ?_ | refine wdp_done ?_ | refine tr_some ?_ | refine t_inBlock ?_) | ((with_reducible refine t_isDraw ?_); refine t_draw rfl (by kernel_rfl) ?_) | ((fail_if_success with_reducible refine t_bl ?_); (with_reducible refine t_block ?_)) | ((with_reducible refine t_isExit ?_); refine t_exit rfl ?_) | simp only [decide_eq_true_eq, decide_eq_false_iff_not, Bool.not_eq_true', Bool.not_eq_false'] at * | simp (disch := omega) only [go_sem, Nat.reduceLT, Nat.reduceEqDiff, Nat.reduceAdd, Nat.reduceLeDiff, Nat.reduceMul, Int.reduceLT, Int.reduceLE, Int.reduceAdd, Int.reduceSub, Int.reduceNeg, Int.reduceToNat, Int.reduceBEq, Int.reduceEq, reduceCtorEq, ↓reduceIte, *] | (with_reducible first | refine tb_true ?_ | refine tb_false ?_) | ((with_reducible first | refine tb_split ?_ ?_ | refine wg_f ?_ ?_ | refine wg_t ?_ ?_ | refine wd_f ?_ ?_ | refine wd_t ?_ ?_) <;> intro _)
    exact ⟨rfl, rfl⟩
  · have e : chkYear y = 0 := if_neg hy
    have hf' := hf (by omega) (by omega)
    rw [e] at hb ⊢
    refine meetsP (E := (EW m)) 28 [.tmp 6, .tmp 7] (ew m) Tryz.func68 rfl (by decide) rfl rfl (by simp) ?_
    repeat' first | ((with_reducible refine wr_isCall ?_); first | refine wr_P hb rfl ?_ | refine wr_P hf' rfl ?_) | (with_reducible first | refine t_seq ?_ | refine t_skip ?_ | refine t_ret ?_ | refine t_end ?_ | refine t_cond ?_ | refine t_region ?_ | refine wr_done ?_ | refine WD.done _ ?_ | refine wdp_done ?_ | refine tr_some ?_ | refine t_inBlock ?_) | ((with_reducible refine t_isDraw ?_); refine t_draw rfl (by kernel_rfl) ?_) | ((fail_if_success with_reducible refine t_bl ?_); (with_reducible refine t_block ?_)) | ((with_reducible refine t_isExit ?_); refine t_exit rfl ?_) | simp only [decide_eq_true_eq, decide_eq_false_iff_not, Bool.not_eq_true', Bool.not_eq_false'] at * | simp (disch := omega) only [go_sem, Nat.reduceLT, Nat.reduceEqDiff, Nat.reduceAdd, Nat.reduceLeDiff, Nat.reduceMul, Int.reduceLT, Int.reduceLE, Int.reduceAdd, Int.reduceSub, Int.reduceNeg, Int.reduceToNat, Int.reduceBEq, Int.reduceEq, reduceCtorEq, ↓reduceIte, *] | (with_reducible first | refine tb_true ?_ | refine tb_false ?_) | ((with_reducible first | refine tb_split ?_ ?_ | refine wg_f ?_ ?_ | refine wg_t ?_ ?_ | refine wd_f ?_ ?_ | refine wd_t ?_ ?_) <;> intro _)
    all_goals exact ⟨by simp [fz, *], by simp [noid, *]⟩
end
end Go.Proofs.YthahgmncnbeddaaGreatDoorA
/- Plain laws of compiled calendars. -/
set_option linter.unusedVariables false
set_option linter.unusedSimpArgs false
namespace Go.Proofs.YthahgmncnbeddaaGreatDoorA
open Go
def Cal.ylen (c : Cal) (y : Int) : Int := if c.leap y then sumL c.ms else sumS c.ms
theorem cnt_succ : ∀ {ls : List Int} (x : Int), ls.Pairwise (· < ·) → (cnt ls (x + 1) : Int) = cnt ls x + if x ∈ ls then 1 else 0
  | [], x, _ => by simp [cnt]
  | y :: ls, x, hs => by
    have h1 := List.pairwise_cons.1 hs
    have ih := cnt_succ x h1.2
    have step : ∀ z, cnt (y :: ls) z = cnt ls z + if y < z then 1 else 0 := fun z => by
      by_cases hz : y < z <;> simp [cnt, hz]
    rw [step, step]
    by_cases hx : x = y
    · subst hx
      have : ¬ x ∈ ls := fun q => by have := h1.1 x q; omega
      rw [if_neg this] at ih
      rw [if_pos (by omega), if_neg (by omega), if_pos (List.mem_cons_self ..)]
      omega
    · have e : (x ∈ y :: ls) = (x ∈ ls) := by simp [hx]
      simp only [e]
      by_cases h2 : y < x
      · rw [if_pos (by omega), if_pos h2]; split at ih <;> simp_all <;> omega
      · rw [if_neg (by omega), if_neg h2]; split at ih <;> simp_all
theorem cnt_all {ls : List Int} {x : Int} (h : ∀ z ∈ ls, z < x) : cnt ls x = ls.length := by
  unfold cnt
  rw [List.filter_eq_self.2 (fun z hz => decide_eq_true (h z hz))]
theorem cnt_none {ls : List Int} {x : Int} (h : ∀ z ∈ ls, x ≤ z) : cnt ls x = 0 := by
  simp only [cnt, List.length_eq_zero_iff, List.filter_eq_nil_iff, decide_eq_true_eq]
  exact fun z hz => by have := h z hz; omega
theorem Cal.Ok.first_succ {c : Cal} (hc : c.Ok) (y : Int) : c.first (y + 1) = c.first y + c.ylen y := by
  have hcy := hc.cy1
  have hm1 := Int.emod_nonneg (y - 1) (show c.cy ≠ 0 by omega)
  have hm2 := Int.emod_lt_of_pos (y - 1) (show 0 < c.cy by omega)
  have hdm := Int.mul_ediv_add_emod (y - 1) c.cy
  have hs := cnt_succ ((y - 1) % c.cy + 1) hc.sorted
  unfold Cal.first Cal.ylen Cal.leap
  have hy : y + 1 - 1 = y := by omega
  rw [hy]
  generalize hr : (y - 1) % c.cy = r at *
  generalize hq : (y - 1) / c.cy = q at *
  by_cases h : r + 1 < c.cy
  · have e1 : y % c.cy = r + 1 := by
      rw [show y = (r + 1) + c.cy * q by omega, Int.add_mul_emod_self_left]; exact Int.emod_eq_of_lt (by omega) h
    have e2 : y / c.cy = q := by
      rw [show y = (r + 1) + c.cy * q by omega, Int.add_mul_ediv_left _ _ (by omega), Int.ediv_eq_zero_of_lt (by omega) h]; omega
    rw [e1, e2, hs]
    by_cases hx : r + 1 ∈ c.ls
    · simp only [hx, if_true, decide_true]
      generalize (cnt c.ls (r + 1) : Int) = n
      rw [show r + 1 - (n + 1) = r - n by omega, Int.mul_add, Int.mul_one]; omega
    · simp only [hx, if_false, decide_false, Bool.false_eq_true]
      generalize (cnt c.ls (r + 1) : Int) = n
      rw [show r + 1 - (n + 0) = (r - n) + 1 by omega, Int.mul_add, Int.mul_one, Int.add_zero]; omega
  · have h' : r + 1 = c.cy := by omega
    have e1 : y % c.cy = 0 := by
      rw [show y = c.cy * (q + 1) by rw [Int.mul_add]; omega]; exact Int.mul_emod_right _ _
    have e2 : y / c.cy = q + 1 := by
      rw [show y = c.cy * (q + 1) by rw [Int.mul_add]; omega]; exact Int.mul_ediv_cancel_left _ (by omega)
    have hall : cnt c.ls (r + 1 + 1) = c.ls.length := cnt_all (fun z hz => by have := (hc.within z hz).2; omega)
    have h0 : cnt c.ls (0 + 1) = 0 := cnt_none (fun z hz => by have := (hc.within z hz).1; omega)
    rw [e1, e2, h0]
    rw [hall] at hs
    unfold Cal.total
    simp only [Int.natCast_zero, Int.sub_zero, Int.mul_zero, Int.add_zero]
    by_cases hx : r + 1 ∈ c.ls
    · simp only [hx, if_true, decide_true] at hs ⊢
      generalize (cnt c.ls (r + 1) : Int) = n at hs
      rw [hs, ← h', show r + 1 - (n + 1) = r - n by omega]
      simp only [Int.add_mul, Int.mul_add, Int.mul_one, Int.one_mul]; omega
    · simp only [hx, if_false, decide_false, Bool.false_eq_true, Int.add_zero] at hs ⊢
      generalize (cnt c.ls (r + 1) : Int) = n at hs
      rw [hs, ← h', show r + 1 - n = (r - n) + 1 by omega]
      simp only [Int.add_mul, Int.mul_add, Int.mul_one, Int.one_mul]; omega
theorem Cal.Ok.ylen_nonneg {c : Cal} (hc : c.Ok) (y : Int) : 0 ≤ c.ylen y ∧ c.ylen y ≤ 8000 := by
  have := sums_le c.ms hc.mon
  have := hc.len2
  unfold Cal.ylen
  split <;> omega
theorem Cal.Ok.first_mono {c : Cal} (hc : c.Ok) {a b : Int} (h : a ≤ b) : c.first a ≤ c.first b := by
  obtain ⟨n, rfl⟩ : ∃ n : Nat, b = a + n := ⟨(b - a).toNat, by omega⟩
  clear h
  induction n with
  | zero => simp
  | succ n ih =>
    have := hc.first_succ (a + n)
    have := (hc.ylen_nonneg (a + n)).1
    rw [show a + ((n + 1 : Nat) : Int) = a + n + 1 by omega]
    omega
/-- The days of the first n months of a year. -/
def Cal.bef (c : Cal) (y : Int) : Nat → Int
  | 0 => 0
  | n + 1 => c.bef y n + c.mlen y (n + 1)
theorem Cal.bef_all (c : Cal) (y : Int) : c.bef y c.ms.length = c.ylen y := by
  have key : ∀ n, n ≤ c.ms.length → c.bef y n = if c.leap y then sumL (c.ms.take n) else sumS (c.ms.take n) := by
    intro n
    induction n with
    | zero => intro _; simp [Cal.bef, sumL, sumS]
    | succ n ih =>
      intro hn
      have hst := sum_take (l := c.ms) (i := n) (by omega)
      unfold Cal.bef
      rw [ih (by omega), hst.1, hst.2]
      unfold Cal.mlen
      rw [show ((n : Int) + 1 - 1).toNat = n by omega, List.getElem?_eq_getElem (by omega)]
      split <;> rfl
  have := key _ (Nat.le_refl _)
  rw [this]
  unfold Cal.ylen
  simp
theorem Cal.Ok.mlen_bounds {c : Cal} (hc : c.Ok) (y k : Int) : 0 ≤ c.mlen y k ∧ c.mlen y k ≤ 400 := by
  unfold Cal.mlen
  cases h : c.ms[(k - 1).toNat]? with
  | none => simp
  | some q =>
    have := hc.mon q (List.mem_of_getElem? h)
    simp only [Option.getD_some]
    split <;> omega
theorem Cal.Ok.bef_mono {c : Cal} (hc : c.Ok) (y : Int) {a b : Nat} (h : a ≤ b) : c.bef y a ≤ c.bef y b := by
  induction b with
  | zero => have : a = 0 := by omega
            subst this; exact Int.le_refl _
  | succ b ih =>
    by_cases e : a = b + 1
    · subst e; exact Int.le_refl _
    · have := ih (by omega)
      have := (hc.mlen_bounds y (b + 1)).1
      have e2 : c.bef y (b + 1) = c.bef y b + c.mlen y (b + 1) := rfl
      omega
theorem Cal.Ok.bef_bounds {c : Cal} (hc : c.Ok) (y : Int) (n : Nat) : 0 ≤ c.bef y n ∧ c.bef y n ≤ 400 * n := by
  induction n with
  | zero => simp [Cal.bef]
  | succ n ih =>
    have := hc.mlen_bounds y (n + 1)
    unfold Cal.bef
    omega
theorem Cal.Ok.first_bounds {c : Cal} (hc : c.Ok) {y : Int} (h1 : -20000 ≤ y) (h2 : y ≤ 20000) : -1000000000 ≤ c.first y ∧ c.first y ≤ 1000000000 := by
  have key : ∀ n : Nat, c.first 1 ≤ c.first (1 + n) ∧ c.first (1 + n) ≤ c.first 1 + 8000 * n ∧ c.first 1 - 8000 * n ≤ c.first (1 - n) := by
    intro n
    induction n with
    | zero => simp
    | succ n ih =>
      have a1 := hc.first_succ (1 + n)
      have a2 := hc.ylen_nonneg (1 + n)
      have a3 := hc.first_succ (1 - (n + 1 : Nat))
      have a4 := hc.ylen_nonneg (1 - (n + 1 : Nat))
      rw [show (1 : Int) - ((n + 1 : Nat) : Int) + 1 = 1 - n by omega] at a3
      rw [show (1 : Int) + ((n + 1 : Nat) : Int) = 1 + n + 1 by omega]
      omega
  have e1 : c.first 1 = c.ep := by
    have : cnt c.ls (0 + 1) = 0 := cnt_none (fun z hz => by have := (hc.within z hz).1; omega)
    have t2 : cnt c.ls 1 = 0 := this
    unfold Cal.first
    simp [t2]
  have := hc.ep1
  have := hc.ep2
  by_cases h : 1 ≤ y
  · have := key (y - 1).toNat
    rw [show (1 : Int) + ((y - 1).toNat : Int) = y by omega] at this
    omega
  · have := key (1 - y).toNat
    rw [show (1 : Int) - ((1 - y).toNat : Int) = y by omega] at this
    have := hc.first_mono (show y ≤ 1 by omega)
    omega
end Go.Proofs.YthahgmncnbeddaaGreatDoorA
/- arith.FromDay, arith.ToDay. -/
set_option linter.unusedVariables false
set_option linter.unusedSimpArgs false
namespace Go.Proofs.YthahgmncnbeddaaGreatDoorA
open Go Go.RowKit Go.Proofs.YthahgmncnbeddaaGreatDoorFx Go.Proofs
attribute [local go_sem] List.take_succ_cons List.take_zero List.take_nil List.drop_succ_cons List.drop_nil List.cons_append List.nil_append List.set_cons_zero List.set_cons_succ
variable {m : Int}
def dateA (y mo d : Int) : AV := .agg [.i .i64 y, .i .i64 mo, .i .i64 d]
def resD (v : AV) (e : Int) : AV := .tup [v, .i .i64 e]
section
variable {c : Cal} (hc : c.Good m)
include hc
set_option maxRecDepth 100000 in
theorem fromDay_far {day : Int} (h : chkDay day = 3) : MeetsP Tryz.prog (glT m) 38 [c.A, .i .i64 day] (resD (dateA 0 0 0) 3) := by
  have hk := hc.check
  have hd := lineCheck (m := m) day
  rw [h] at hd
  obtain ⟨nm, ep, cy, ms, ls⟩ := c
  simp only [Cal.A, resD, dateA] at *
  refine meetsP (E := (EW m)) 76 [.cell 4 41, .tmp 5] (ew m) Tryz.func38 rfl (by decide) rfl rfl (by simp) ?_
  repeat' first | ((with_reducible refine wr_isCall ?_); first | refine wr_P hk rfl ?_ | refine wr_P hd rfl ?_) | (with_reducible first | refine t_seq ?_ | refine t_skip ?_ | refine t_ret ?_ | refine t_end ?_ | refine t_cond ?_ | refine t_region ?_ | refine wr_done ?_ | refine WD.done _ ?_ | refine wdp_done ?_ | refine tr_some ?_ | refine t_inBlock ?_) | ((with_reducible refine t_isDraw ?_); refine t_draw rfl (by kernel_rfl) ?_) | ((fail_if_success with_reducible refine t_bl ?_); (with_reducible refine t_block ?_)) | ((with_reducible refine t_isExit ?_); refine t_exit rfl ?_) | simp only [decide_eq_true_eq, decide_eq_false_iff_not, Bool.not_eq_true', Bool.not_eq_false'] at * | simp (disch := omega) only [go_sem, Nat.reduceLT, Nat.reduceEqDiff, Nat.reduceAdd, Nat.reduceLeDiff, Nat.reduceMul, Int.reduceLT, Int.reduceLE, Int.reduceAdd, Int.reduceSub, Int.reduceNeg, Int.reduceToNat, Int.reduceBEq, Int.reduceEq, reduceCtorEq, ↓reduceIte, *] | (with_reducible first | refine tb_true ?_ | refine tb_false ?_) | ((with_reducible first | refine tb_split ?_ ?_ | refine wg_f ?_ ?_ | refine wg_t ?_ ?_ | refine wd_f ?_ ?_ | refine wd_t ?_ ?_) <;> intro _)
  all_goals exact ⟨rfl, rfl⟩
set_option maxRecDepth 100000 in
theorem fromDay_out {day : Int} (h : chkDay day = 0) (ho : day < c.first (-10000) ∨ c.first 10001 ≤ day) : MeetsP Tryz.prog (glT m) 38 [c.A, .i .i64 day] (resD (dateA 0 0 0) 3) := by
  have hk := hc.check
  have hd := lineCheck (m := m) day
  rw [h] at hd
  have f1 := firstP (m := m) c hc.toOk (-10000) (by omega) (by omega)
  have f2 := firstP (m := m) c hc.toOk 10001 (by omega) (by omega)
  generalize c.first (-10000) = a at *
  generalize c.first 10001 = b at *
  obtain ⟨nm, ep, cy, ms, ls⟩ := c
  simp only [Cal.A, resD, dateA] at *
  refine meetsP (E := (EW m)) 76 [.cell 4 41, .tmp 5] (ew m) Tryz.func38 rfl (by decide) rfl rfl (by simp) ?_
  repeat' first | ((with_reducible refine wr_isCall ?_); first | refine wr_P hk rfl ?_ | refine wr_P hd rfl ?_ | refine wr_P f1 rfl ?_ | refine wr_P f2 rfl ?_) | (with_reducible first | refine t_seq ?_ | refine t_skip ?_ | refine t_ret ?_ | refine t_end ?_ | refine t_cond ?_ | refine t_region ?_ | refine wr_done ?_ | refine WD.done _ ?_ | refine wdp_done ?_ | refine tr_some ?_ | refine t_inBlock ?_) | ((with_reducible refine t_isDraw ?_); refine t_draw rfl (by kernel_rfl) ?_) | ((fail_if_success with_reducible refine t_bl ?_); (with_reducible refine t_block ?_)) | ((with_reducible refine t_isExit ?_); refine t_exit rfl ?_) | simp only [decide_eq_true_eq, decide_eq_false_iff_not, Bool.not_eq_true', Bool.not_eq_false'] at * | simp (disch := omega) only [go_sem, Nat.reduceLT, Nat.reduceEqDiff, Nat.reduceAdd, Nat.reduceLeDiff, Nat.reduceMul, Int.reduceLT, Int.reduceLE, Int.reduceAdd, Int.reduceSub, Int.reduceNeg, Int.reduceToNat, Int.reduceBEq, Int.reduceEq, reduceCtorEq, ↓reduceIte, *] | (with_reducible first | refine tb_true ?_ | refine tb_false ?_) | ((with_reducible first | refine tb_split ?_ ?_ | refine wg_f ?_ ?_ | refine wg_t ?_ ?_ | refine wd_f ?_ ?_ | refine wd_t ?_ ?_) <;> intro _)
  all_goals try exact ⟨rfl, rfl⟩
  all_goals (exfalso; omega)
set_option maxRecDepth 100000 in
set_option maxHeartbeats 1000000 in
theorem fromDay_in {day y : Int} {mo : Nat} (h : chkDay day = 0) (hy1 : -10000 ≤ y) (hy2 : y ≤ 10000) (ha : c.first y ≤ day) (hb : day < c.first (y + 1)) (hmo : mo < c.ms.length) (hr1 : c.bef y mo < day - c.first y + 1) (hr2 : day - c.first y + 1 ≤ c.bef y (mo + 1)) :
    MeetsP Tryz.prog (glT m) 38 [c.A, .i .i64 day] (resD (dateA y (mo + 1) (day - c.first y + 1 - c.bef y mo)) 0) := by
  have hk := hc.check
  have hd := lineCheck (m := m) day
  have hday : -4000000 ≤ day ∧ day ≤ 4000000 := by unfold chkDay at h; split at h <;> omega
  rw [h] at hd
  have fp := fun z h1 h2 => firstP (m := m) c hc.toOk z h1 h2
  have mp := fun k h1 h2 => monthP (m := m) c hc.toOk y k (by omega) (by omega) h1 h2
  have mono := fun {a b : Int} (q : a ≤ b) => hc.toOk.first_mono q
  have fb := hc.toOk.first_bounds (show -20000 ≤ y by omega) (by omega)
  have bb := fun {a b : Nat} (q : a ≤ b) => hc.toOk.bef_mono y q
  have bd := hc.toOk.bef_bounds y
  have hl20 := hc.len2
  have mb := fun k => hc.toOk.mlen_bounds y k
  have bs : ∀ n, c.bef y (n + 1) = c.bef y n + c.mlen y (n + 1) := fun n => rfl
  have b0 : c.bef y 0 = 0 := rfl
  have q1 : ¬ day < c.first (-10000) := by have := mono hy1; omega
  have q2 : ¬ c.first 10001 ≤ day := by have := mono (show y + 1 ≤ 10001 by omega); omega
  generalize hF : c.first = F at *
  generalize hB : c.bef y = B at *
  generalize hM : c.mlen y = M at *
  obtain ⟨nm, ep, cy, ms, ls⟩ := c
  simp only [Cal.A, resD, dateA] at *
  have f1 := fp (-10000) (by omega) (by omega)
  have f2 := fp 10001 (by omega) (by omega)
  have f3 := fp y (by omega) (by omega)
  clear hF hB hM
  refine meetsP (E := (EW m)) 76 [.cell 4 41, .tmp 5] (ew m) Tryz.func38 rfl (by decide) rfl rfl (by simp) ?_
  repeat' first | ((with_reducible refine wr_isCall ?_); first | refine wr_P hk rfl ?_ | refine wr_P hd rfl ?_ | refine wr_P f1 rfl ?_ | refine wr_P f2 rfl ?_) | (with_reducible first | refine t_seq ?_ | refine t_skip ?_ | refine t_ret ?_ | refine t_end ?_ | refine t_cond ?_ | refine t_region ?_ | refine wr_done ?_ | refine WD.done _ ?_ | refine wdp_done ?_ | refine tr_some ?_ | refine t_inBlock ?_) | ((with_reducible refine t_isDraw ?_); refine t_draw rfl (by kernel_rfl) ?_) | ((fail_if_success with_reducible refine t_bl ?_); (with_reducible refine t_block ?_)) | ((with_reducible refine t_isExit ?_); refine t_exit rfl ?_) | simp only [decide_eq_true_eq, decide_eq_false_iff_not, Bool.not_eq_true', Bool.not_eq_false'] at * | simp (disch := omega) only [go_sem, Nat.reduceLT, Nat.reduceEqDiff, Nat.reduceAdd, Nat.reduceLeDiff, Nat.reduceMul, Int.reduceLT, Int.reduceLE, Int.reduceAdd, Int.reduceSub, Int.reduceNeg, Int.reduceToNat, Int.reduceBEq, Int.reduceEq, reduceCtorEq, ↓reduceIte, *] | (with_reducible first | refine tb_true ?_ | refine tb_false ?_) | ((with_reducible first | refine tb_split ?_ ?_ | refine wg_f ?_ ?_ | refine wg_t ?_ ?_ | refine wd_f ?_ ?_ | refine wd_t ?_ ?_) <;> intro _)
  refine t_while (I := fun (p : Int × Int) t h => p.1 < p.2 ∧ -10000 ≤ p.1 ∧ p.2 ≤ 10001 ∧ p.1 ≤ y ∧ y < p.2 ∧ h = ⟨[(1, .rows 3 [[.i .i64 0, .i .i64 0, .i .i64 0]]), (0, .rows 5 [[.s nm, .i .i64 ep, .i .i64 cy, monF ms, intF ls]])], 2⟩ ∧ get t 2 = .ptr 0 0 0 ∧ get t 1 = .i .i64 day ∧ get t 4 = .ptr 1 0 0 ∧ get t 7 = .i .i64 p.1 ∧ get t 8 = .i .i64 p.2) (m := fun p => (p.2 - p.1).toNat)
    (J := fun t h => h = ⟨[(1, .rows 3 [[.i .i64 0, .i .i64 0, .i .i64 0]]), (0, .rows 5 [[.s nm, .i .i64 ep, .i .i64 cy, monF ms, intF ls]])], 2⟩ ∧ get t 2 = .ptr 0 0 0 ∧ get t 1 = .i .i64 day ∧ get t 4 = .ptr 1 0 0 ∧ get t 7 = .i .i64 y) (-10000, 10001) ⟨by omega, by omega, by omega, hy1, by omega, rfl, by simp [get], by simp [get], by simp [get], by simp [get], by simp [get]⟩ ?_ ?_
  · rintro ⟨lo, hi⟩ t h ⟨i1, i2, i3, i4, i5, rfl, h2, h1, h4, h7, h8⟩ hrec hex
    simp only at i1 i2 i3 i4 i5 h7 h8
    have e2 : (hi - lo).tdiv 2 = (hi - lo) / 2 := by rw [Int.tdiv_eq_ediv, if_pos (.inl (by omega))]; simp
    have fm := fp (lo + (hi - lo) / 2) (by omega) (by omega)
    repeat' first | refine hex _ _ ?_ | ((with_reducible refine wr_isCall ?_); refine wr_P fm rfl ?_) | (with_reducible first | refine t_seq ?_ | refine t_skip ?_ | refine t_ret ?_ | refine t_end ?_ | refine t_cond ?_ | refine t_region ?_ | refine wr_done ?_ | refine WD.done _ ?_ | refine wdp_done ?_ | refine tr_some ?_ | refine t_inBlock ?_) | ((with_reducible refine t_isDraw ?_); refine t_draw rfl (by kernel_rfl) ?_) | ((fail_if_success with_reducible refine t_bl ?_); (with_reducible refine t_block ?_)) | ((with_reducible refine t_isExit ?_); refine t_exit rfl ?_) | simp only [decide_eq_true_eq, decide_eq_false_iff_not, Bool.not_eq_true', Bool.not_eq_false'] at * | simp (disch := omega) only [go_sem, Nat.reduceLT, Nat.reduceEqDiff, Nat.reduceAdd, Nat.reduceLeDiff, Nat.reduceMul, Int.reduceLT, Int.reduceLE, Int.reduceAdd, Int.reduceSub, Int.reduceNeg, Int.reduceToNat, Int.reduceBEq, Int.reduceEq, reduceCtorEq, ↓reduceIte, *] | (with_reducible first | refine tb_true ?_ | refine tb_false ?_) | ((with_reducible first | refine tb_split ?_ ?_ | refine wg_f ?_ ?_ | refine wg_t ?_ ?_ | refine wd_f ?_ ?_ | refine wd_t ?_ ?_) <;> intro _)
    · rename_i q3 q4
      have : lo + (hi - lo) / 2 ≤ y := by
        rcases Int.lt_or_le y (lo + (hi - lo) / 2) with q | q
        · have := mono (show y + 1 ≤ lo + (hi - lo) / 2 by omega); omega
        · exact q
      exact hrec (lo + (hi - lo) / 2, hi) _ _ ⟨by simp only; omega, by simp only; omega, i3, this, i5, rfl, by simp [get, h2], by simp [get, h1], by simp [get, h4], by simp [get], by simp [get, h8]⟩ (by simp only; omega)
    · rename_i q3 q4
      have : y < lo + (hi - lo) / 2 := by
        rcases Int.lt_or_le y (lo + (hi - lo) / 2) with q | q
        · exact q
        · have := mono q; omega
      exact hrec (lo, lo + (hi - lo) / 2) _ _ ⟨by simp only; omega, i2, by simp only; omega, i4, this, rfl, by simp [get, h2], by simp [get, h1], by simp [get, h4], by simp [get, h7], by simp [get]⟩ (by simp only; omega)
    · have : lo = y := by omega
      exact ⟨trivial, trivial, trivial, trivial, by rw [this]⟩
  · rintro t h ⟨rfl, h2, h1, h4, h7⟩
    repeat' first | ((with_reducible refine wr_isCall ?_); refine wr_P f3 rfl ?_) | (with_reducible first | refine t_seq ?_ | refine t_skip ?_ | refine t_ret ?_ | refine t_end ?_ | refine t_cond ?_ | refine t_region ?_ | refine wr_done ?_ | refine WD.done _ ?_ | refine wdp_done ?_ | refine tr_some ?_ | refine t_inBlock ?_) | ((with_reducible refine t_isDraw ?_); refine t_draw rfl (by kernel_rfl) ?_) | ((fail_if_success with_reducible refine t_bl ?_); (with_reducible refine t_block ?_)) | ((with_reducible refine t_isExit ?_); refine t_exit rfl ?_) | simp only [decide_eq_true_eq, decide_eq_false_iff_not, Bool.not_eq_true', Bool.not_eq_false'] at * | simp (disch := omega) only [go_sem, Nat.reduceLT, Nat.reduceEqDiff, Nat.reduceAdd, Nat.reduceLeDiff, Nat.reduceMul, Int.reduceLT, Int.reduceLE, Int.reduceAdd, Int.reduceSub, Int.reduceNeg, Int.reduceToNat, Int.reduceBEq, Int.reduceEq, reduceCtorEq, ↓reduceIte, *] | (with_reducible first | refine tb_true ?_ | refine tb_false ?_) | ((with_reducible first | refine tb_split ?_ ?_ | refine wg_f ?_ ?_ | refine wg_t ?_ ?_ | refine wd_f ?_ ?_ | refine wd_t ?_ ?_) <;> intro _)
    refine t_while (I := fun (k : Nat) t h => k ≤ mo ∧ h = ⟨[(1, .rows 3 [[.i .i64 0, .i .i64 0, .i .i64 0]]), (0, .rows 5 [[.s nm, .i .i64 ep, .i .i64 cy, monF ms, intF ls]])], 2⟩ ∧ get t 2 = .ptr 0 0 0 ∧ get t 4 = .ptr 1 0 0 ∧ get t 7 = .i .i64 y ∧ get t 10 = .i .i64 (day - F y + 1 - B k) ∧ get t 11 = .i .i64 (k + 1)) (m := fun k => mo - k)
      (J := fun t h => h = ⟨[(1, .rows 3 [[.i .i64 0, .i .i64 0, .i .i64 0]]), (0, .rows 5 [[.s nm, .i .i64 ep, .i .i64 cy, monF ms, intF ls]])], 2⟩ ∧ get t 4 = .ptr 1 0 0 ∧ get t 7 = .i .i64 y ∧ get t 10 = .i .i64 (day - F y + 1 - B mo) ∧ get t 11 = .i .i64 (mo + 1)) 0 ⟨by omega, rfl, by simp [get, h2], by simp [get, h4], by simp [get, h7], by simp [get, b0], by simp [get]⟩ ?_ ?_
    · rintro k t h ⟨hk', rfl, h2, h4, h7, h10, h11⟩ hrec hex
      have mk := mp ((k : Int) + 1) (by omega) (by omega)
      have e1 := bs k
      have e2 := bb hk'
      have e3 := bd k
      have e4 := bb (show k ≤ mo + 1 by omega)
      have e5 := bd mo
      have e6 := mb (k + 1)
      repeat' first | refine hex _ _ ?_ | ((with_reducible refine wr_isCall ?_); refine wr_P mk rfl ?_) | (with_reducible first | refine t_seq ?_ | refine t_skip ?_ | refine t_ret ?_ | refine t_end ?_ | refine t_cond ?_ | refine t_region ?_ | refine wr_done ?_ | refine WD.done _ ?_ | refine wdp_done ?_ | refine tr_some ?_ | refine t_inBlock ?_) | ((with_reducible refine t_isDraw ?_); refine t_draw rfl (by kernel_rfl) ?_) | ((fail_if_success with_reducible refine t_bl ?_); (with_reducible refine t_block ?_)) | ((with_reducible refine t_isExit ?_); refine t_exit rfl ?_) | simp only [decide_eq_true_eq, decide_eq_false_iff_not, Bool.not_eq_true', Bool.not_eq_false'] at * | simp (disch := omega) only [go_sem, Nat.reduceLT, Nat.reduceEqDiff, Nat.reduceAdd, Nat.reduceLeDiff, Nat.reduceMul, Int.reduceLT, Int.reduceLE, Int.reduceAdd, Int.reduceSub, Int.reduceNeg, Int.reduceToNat, Int.reduceBEq, Int.reduceEq, reduceCtorEq, ↓reduceIte, *] | (with_reducible first | refine tb_true ?_ | refine tb_false ?_) | ((with_reducible first | refine tb_split ?_ ?_ | refine wg_f ?_ ?_ | refine wg_t ?_ ?_ | refine wd_f ?_ ?_ | refine wd_t ?_ ?_) <;> intro _)
      · rename_i q
        have hlt : k < mo := by
          rcases Nat.lt_or_ge k mo with q2 | q2
          · exact q2
          · have : k = mo := by omega
            subst this; omega
        exact hrec (k + 1) _ _ ⟨by omega, rfl, by simp [get, h2], by simp [get, h4], by simp [get, h7], by simp [get]; omega, by simp [get]⟩ (by omega)
      · rename_i q
        have : k = mo := by
          rcases Nat.lt_or_ge k mo with q2 | q2
          · have := bb (show k + 1 ≤ mo by omega); omega
          · omega
        subst this
        simp
    · rintro t h ⟨rfl, h4, h7, h10, h11⟩
      repeat' first | (with_reducible first | refine t_seq ?_ | refine t_skip ?_ | refine t_ret ?_ | refine t_end ?_ | refine t_cond ?_ | refine t_region ?_ | refine wr_done ?_ | refine WD.done _ ?_ | refine wdp_done ?_ | refine tr_some ?_ | refine t_inBlock ?_) | ((with_reducible refine t_isDraw ?_); refine t_draw rfl (by kernel_rfl) ?_) | ((fail_if_success with_reducible refine t_bl ?_); (with_reducible refine t_block ?_)) | ((with_reducible refine t_isExit ?_); refine t_exit rfl ?_) | simp only [decide_eq_true_eq, decide_eq_false_iff_not, Bool.not_eq_true', Bool.not_eq_false'] at * | simp (disch := omega) only [go_sem, Nat.reduceLT, Nat.reduceEqDiff, Nat.reduceAdd, Nat.reduceLeDiff, Nat.reduceMul, Int.reduceLT, Int.reduceLE, Int.reduceAdd, Int.reduceSub, Int.reduceNeg, Int.reduceToNat, Int.reduceBEq, Int.reduceEq, reduceCtorEq, ↓reduceIte, *] | (with_reducible first | refine tb_true ?_ | refine tb_false ?_) | ((with_reducible first | refine tb_split ?_ ?_ | refine wg_f ?_ ?_ | refine wg_t ?_ ?_ | refine wd_f ?_ ?_ | refine wd_t ?_ ?_) <;> intro _)
      exact ⟨by simp [fz], rfl⟩
end
end Go.Proofs.YthahgmncnbeddaaGreatDoorA
