/- Small functions of the calendars: line.Check, whole.Div, whole.Mod, compile.Lengths. -/
import Derived.Test.YtkokongbnemkhaaGreatDoorPK3
set_option linter.unusedVariables false
set_option linter.unusedSimpArgs false
namespace Go.Proofs.YtkokongbnemkhaaGreatDoorA
open Go Go.RowKit Go.Proofs.YtkokongbnemkhaaGreatDoorFx Go.Proofs
/-- The environment of walks: every call is told by a contract. -/
noncomputable def EW (m : Int) : Env := ⟨Tryz.prog, glT m, fun _ _ => none⟩
@[go_sem] theorem ewP (m : Int) : (EW m).P = Tryz.prog := rfl
@[go_sem] theorem ewM (m : Int) (f : FuncId) (args : List AV) : (EW m).M f args = none := rfl
@[go_sem] theorem ewG (m : Int) : (EW m).gl = glT m := rfl
@[go_sem] theorem ewC (m : Int) (h : Hp) (f : FuncId) (args : List AV) : callA (EW m) h f args = .call f args := by
  unfold callA
  simp only [ewM]
  split
  · rfl
  · split <;> rfl
theorem ew (m : Int) : ModOk (EW m) := fun f args r h => by cases h
theorem wr_P {E : Env} {f : FuncId} {all os : List Oper} {K : List Item} {S : St} {X : Ex → St → Prop} {g : FuncId} {args : List AV} {d : Option Nat} {r : AV} (hp : MeetsP E.P E.gl g args r) (hn : args.all (noid 12) = true) (h : WR E f all K X (runA E all os (St.put S d r))) : WR E f all K X (.call g args d os S) :=
  wr_ret (meetsH_of_P hp hn) h
theorem t_pop {E : Env} {f : FuncId} {K : List Item} {X : Ex → St → Prop} {t : List (Nat × AV)} {N n : Nat} {x : Nat × Ent} {c : List (Nat × Ent)} (h : T E f K ⟨t, N, ⟨c, n⟩⟩ X) : T E f K ⟨t, N, ⟨x :: c, n⟩⟩ X := t_forget (S := ⟨t, N, ⟨x :: c, n⟩⟩) ⟨c, n⟩ (Sub.tail _ _ _ _ (Nat.le_refl _)) h
attribute [go_sem] List.getElem_map
/-- A compiled calendar. -/
structure Cal where
  nm : List UInt8
  ep : Int
  cy : Int
  ms : List (List UInt8 × Int × Int)
  ls : List Int
def monF (l : List (List UInt8 × Int × Int)) : AV := .isl false 3 (l.map fun q => [.s q.1, .i .i64 q.2.1, .i .i64 q.2.2])
def intF (l : List Int) : AV := .isl false 1 (l.map fun y => [.i .i64 y])
def Cal.A (c : Cal) : AV := .agg [.s c.nm, .i .i64 c.ep, .i .i64 c.cy, monF c.ms, intF c.ls]
structure Cal.Ok (c : Cal) : Prop where
  ep1 : -4000000 ≤ c.ep
  ep2 : c.ep ≤ 4000000
  cy1 : 1 ≤ c.cy
  cy2 : c.cy ≤ 3000
  len1 : 1 ≤ c.ms.length
  len2 : c.ms.length ≤ 20
  mon : ∀ q ∈ c.ms, 0 ≤ q.2.1 ∧ q.2.1 ≤ 400 ∧ 0 ≤ q.2.2 ∧ q.2.2 ≤ 400
  sorted : c.ls.Pairwise (· < ·)
  within : ∀ y ∈ c.ls, 1 ≤ y ∧ y ≤ c.cy
def sumS (l : List (List UInt8 × Int × Int)) : Int := (l.map (·.2.1)).sum
def sumL (l : List (List UInt8 × Int × Int)) : Int := (l.map (·.2.2)).sum
theorem sums_le : ∀ (l : List (List UInt8 × Int × Int)), (∀ q ∈ l, 0 ≤ q.2.1 ∧ q.2.1 ≤ 400 ∧ 0 ≤ q.2.2 ∧ q.2.2 ≤ 400) → 0 ≤ sumS l ∧ sumS l ≤ 400 * l.length ∧ 0 ≤ sumL l ∧ sumL l ≤ 400 * l.length
  | [], _ => by simp [sumS, sumL]
  | q :: l, h => by
    have h1 := h q (List.mem_cons_self ..)
    have h2 := sums_le l (fun x hx => h x (List.mem_cons_of_mem _ hx))
    simp only [sumS, sumL, List.map_cons, List.sum_cons, List.length_cons] at h2 ⊢
    omega
theorem sum_take {l : List (List UInt8 × Int × Int)} {i : Nat} (h : i < l.length) : sumS (l.take (i + 1)) = sumS (l.take i) + l[i].2.1 ∧ sumL (l.take (i + 1)) = sumL (l.take i) + l[i].2.2 := by
  unfold sumS sumL
  rw [List.take_succ_eq_append_getElem h]
  simp only [List.map_append, List.map_cons, List.map_nil, List.sum_append, List.sum_cons, List.sum_nil, Int.add_zero, and_self]
variable {m : Int}
@[go_sem] theorem bfF (x : Bool) : (x == false) = !x := by cases x <;> rfl
@[go_sem] theorem bnn (x : Bool) : (!!x) = x := by cases x <;> rfl
theorem tup3 {k : IntKind} {a b c a' b' c' : Int} (h1 : a = a') (h2 : b = b') (h3 : c = c') : AV.tup [.i k a, .i k b, .i k c] = .tup [.i k a', .i k b', .i k c'] := by rw [h1, h2, h3]
def chkDay (d : Int) : Int := if d < -4000000 ∨ 4000000 < d then 3 else 0
theorem lineCheck (d : Int) : MeetsP Tryz.prog (glT m) 33 [.i .i64 d] (.i .i64 (chkDay d)) := by
  refine meetsP (E := (EW m)) 9 [.tmp 2] (ew m) Tryz.func33 rfl (by decide) rfl rfl (by simp) ?_
  repeat' first
    | (with_reducible refine t_seq ?_)
    | (with_reducible refine t_skip ?_)
    | (with_reducible refine t_ret ?_)
    | (with_reducible refine t_end ?_)
    | (with_reducible refine t_cond ?_)
    | (with_reducible refine t_region ?_)
    | (with_reducible refine wr_done ?_)
    | ((with_reducible refine t_isDraw ?_); refine t_draw rfl (by kernel_rfl) ?_)
    | (with_reducible refine WD.done _ ?_)
    | (with_reducible refine wdp_done ?_)
    | (with_reducible refine tr_some ?_)
    | ((fail_if_success with_reducible refine t_bl ?_); (with_reducible refine t_block ?_))
    | (with_reducible refine t_inBlock ?_)
    | ((with_reducible refine t_isExit ?_); refine t_exit rfl ?_)
    | simp only [decide_eq_true_eq, decide_eq_false_iff_not, Bool.not_eq_true', Bool.not_eq_false'] at *
    | simp (disch := omega) only [go_sem, Nat.reduceLT, Nat.reduceEqDiff, Nat.reduceAdd, Nat.reduceLeDiff, Nat.reduceMul, Int.reduceLT, Int.reduceLE, Int.reduceAdd, Int.reduceSub, Int.reduceNeg, Int.reduceToNat, Int.reduceBEq, Int.reduceEq, reduceCtorEq, List.take_succ_cons, List.take_zero, List.take_nil, List.drop_succ_cons, List.drop_nil, List.cons_append, List.nil_append, List.set_cons_zero, List.set_cons_succ, ↓reduceIte, *]
    | (with_reducible refine tb_true ?_)
    | (with_reducible refine tb_false ?_)
    | (with_reducible refine tb_split (fun _ => ?_) (fun _ => ?_))
    | (with_reducible refine wg_f (fun _ => ?_) (fun _ => ?_))
    | (with_reducible refine wg_t (fun _ => ?_) (fun _ => ?_))
    | (with_reducible refine wd_f (fun _ => ?_) (fun _ => ?_))
    | (with_reducible refine wd_t (fun _ => ?_) (fun _ => ?_))
  all_goals refine ⟨?_, rfl⟩
  all_goals simp [fz, chkDay, *]
theorem tmod_cases {a b : Int} (hb : 0 < b) : (Int.tmod a b = a % b ∧ Int.tdiv a b = a / b ∧ (0 ≤ a ∨ a % b = 0)) ∨ (a < 0 ∧ a % b ≠ 0 ∧ Int.tmod a b = a % b - b ∧ Int.tdiv a b = a / b + 1) := by
  by_cases h : 0 ≤ a ∨ b ∣ a
  · left
    refine ⟨by rw [Int.tmod_eq_emod, if_pos h]; simp, by rw [Int.tdiv_eq_ediv, if_pos h]; simp, h.imp id Int.emod_eq_zero_of_dvd⟩
  · right
    have h' := not_or.mp h
    refine ⟨by omega, fun e => h'.2 (Int.dvd_of_emod_eq_zero e), ?_, ?_⟩
    · rw [Int.tmod_eq_emod, if_neg h]; omega
    · rw [Int.tdiv_eq_ediv, if_neg h, Int.sign_eq_one_of_pos hb]
theorem ediv_small {a b M : Int} (hb : 0 < b) (h0 : 0 ≤ M) (h1 : -M ≤ a) (h2 : a ≤ M) : -M ≤ a / b ∧ a / b ≤ M := by
  constructor
  · rw [Int.le_ediv_iff_mul_le hb]
    have : -M * b ≤ -M * 1 := Int.mul_le_mul_of_nonpos_left (by omega) (by omega)
    omega
  · have h3 : a / b ≤ M / b := Int.ediv_le_ediv hb h2
    have h4 : M / b ≤ M := Int.ediv_le_self b h0
    omega
theorem divP {a b : Int} (ha : -1000000000000000 ≤ a) (ha2 : a ≤ 1000000000000000) (hb : 0 < b) (hb2 : b ≤ 1000000000000000) : MeetsP Tryz.prog (glT m) 58 [.i .i64 a, .i .i64 b] (.tup [.i .i64 (a / b), .i .i64 (a % b), .i .i64 0]) := by
  have hm1 := Int.emod_nonneg a (show b ≠ 0 by omega)
  have hm2 := Int.emod_lt_of_pos a hb
  have hd := ediv_small (M := 1000000000000000) hb (by omega) ha ha2
  have hc := tmod_cases (a := a) hb
  have hb0 : (b == 0) = false := by rw [beq_eq_false_iff_ne]; omega
  have ha0 : ¬ a = -9223372036854775808 := by omega
  have hbn : ¬ b < 0 := by omega
  refine meetsP (E := (EW m)) 39 [.tmp 4, .tmp 5, .tmp 6] (ew m) Tryz.func58 rfl (by decide) rfl rfl (by simp) ?_
  repeat' first
    | (with_reducible refine t_seq ?_)
    | (with_reducible refine t_skip ?_)
    | (with_reducible refine t_ret ?_)
    | (with_reducible refine t_end ?_)
    | (with_reducible refine t_cond ?_)
    | (with_reducible refine t_region ?_)
    | (with_reducible refine wr_done ?_)
    | ((with_reducible refine t_isDraw ?_); refine t_draw rfl (by kernel_rfl) ?_)
    | (with_reducible refine WD.done _ ?_)
    | (with_reducible refine wdp_done ?_)
    | (with_reducible refine tr_some ?_)
    | ((fail_if_success with_reducible refine t_bl ?_); (with_reducible refine t_block ?_))
    | (with_reducible refine t_inBlock ?_)
    | ((with_reducible refine t_isExit ?_); refine t_exit rfl ?_)
    | simp only [decide_eq_true_eq, decide_eq_false_iff_not, Bool.not_eq_true', Bool.not_eq_false'] at *
    | simp (disch := omega) only [go_sem, Nat.reduceLT, Nat.reduceEqDiff, Nat.reduceAdd, Nat.reduceLeDiff, Nat.reduceMul, Int.reduceLT, Int.reduceLE, Int.reduceAdd, Int.reduceSub, Int.reduceNeg, Int.reduceToNat, Int.reduceBEq, Int.reduceEq, reduceCtorEq, List.take_succ_cons, List.take_zero, List.take_nil, List.drop_succ_cons, List.drop_nil, List.cons_append, List.nil_append, List.set_cons_zero, List.set_cons_succ, ↓reduceIte, *]
    | (with_reducible refine tb_true ?_)
    | (with_reducible refine tb_false ?_)
    | (with_reducible refine tb_split (fun _ => ?_) (fun _ => ?_))
    | (with_reducible refine wg_f (fun _ => ?_) (fun _ => ?_))
    | (with_reducible refine wg_t (fun _ => ?_) (fun _ => ?_))
    | (with_reducible refine wd_f (fun _ => ?_) (fun _ => ?_))
    | (with_reducible refine wd_t (fun _ => ?_) (fun _ => ?_))
  all_goals refine ⟨?_, rfl⟩
  all_goals (simp only [fz, List.map_cons, List.map_nil]; rcases hc with ⟨e1, e2, e3⟩ | ⟨e1, e2, e3, e4⟩)
  all_goals first
    | (exfalso; omega)
    | (refine tup3 ?_ ?_ rfl <;> (simp (disch := omega) only [w64]; omega))
    | (refine tup3 ?_ ?_ rfl <;> omega)
theorem modP {a b : Int} (ha : -1000000000000000 ≤ a) (ha2 : a ≤ 1000000000000000) (hb : 0 < b) (hb2 : b ≤ 1000000000000000) : MeetsP Tryz.prog (glT m) 108 [.i .i64 a, .i .i64 b] (.i .i64 (a % b)) := by
  have hm1 := Int.emod_nonneg a (show b ≠ 0 by omega)
  have hm2 := Int.emod_lt_of_pos a hb
  have hc := tmod_cases (a := a) hb
  refine meetsP (E := (EW m)) 14 [.tmp 4] (ew m) Tryz.func108 rfl (by decide) rfl rfl (by simp) ?_
  repeat' first
    | (with_reducible refine t_seq ?_)
    | (with_reducible refine t_skip ?_)
    | (with_reducible refine t_ret ?_)
    | (with_reducible refine t_end ?_)
    | (with_reducible refine t_cond ?_)
    | (with_reducible refine t_region ?_)
    | (with_reducible refine wr_done ?_)
    | ((with_reducible refine t_isDraw ?_); refine t_draw rfl (by kernel_rfl) ?_)
    | (with_reducible refine WD.done _ ?_)
    | (with_reducible refine wdp_done ?_)
    | (with_reducible refine tr_some ?_)
    | ((fail_if_success with_reducible refine t_bl ?_); (with_reducible refine t_block ?_))
    | (with_reducible refine t_inBlock ?_)
    | ((with_reducible refine t_isExit ?_); refine t_exit rfl ?_)
    | simp only [decide_eq_true_eq, decide_eq_false_iff_not, Bool.not_eq_true', Bool.not_eq_false'] at *
    | simp (disch := omega) only [go_sem, Nat.reduceLT, Nat.reduceEqDiff, Nat.reduceAdd, Nat.reduceLeDiff, Nat.reduceMul, Int.reduceLT, Int.reduceLE, Int.reduceAdd, Int.reduceSub, Int.reduceNeg, Int.reduceToNat, Int.reduceBEq, Int.reduceEq, reduceCtorEq, List.take_succ_cons, List.take_zero, List.take_nil, List.drop_succ_cons, List.drop_nil, List.cons_append, List.nil_append, List.set_cons_zero, List.set_cons_succ, ↓reduceIte, *]
    | (with_reducible refine tb_true ?_)
    | (with_reducible refine tb_false ?_)
    | (with_reducible refine tb_split (fun _ => ?_) (fun _ => ?_))
    | (with_reducible refine wg_f (fun _ => ?_) (fun _ => ?_))
    | (with_reducible refine wg_t (fun _ => ?_) (fun _ => ?_))
    | (with_reducible refine wd_f (fun _ => ?_) (fun _ => ?_))
    | (with_reducible refine wd_t (fun _ => ?_) (fun _ => ?_))
  all_goals refine ⟨?_, rfl⟩
  all_goals (simp only [fz]; rcases hc with ⟨e1, e2, e3⟩ | ⟨e1, e2, e3, e4⟩)
  all_goals first
    | (exfalso; omega)
    | (congr 1 <;> omega)
set_option maxRecDepth 100000 in
theorem lengthsP (c : Cal) (hc : c.Ok) : MeetsP Tryz.prog (glT m) 77 [c.A] (.tup [.i .i64 (sumS c.ms), .i .i64 (sumL c.ms)]) := by
  obtain ⟨nm, ep, cy, ms, ls⟩ := c
  have h20 := hc.len2
  have hmon := hc.mon
  simp only [Cal.A, monF, intF] at *
  refine meetsP (E := (EW m)) 26 [.tmp 2, .tmp 3] (ew m) Tryz.func77 rfl (by decide) rfl rfl (by simp) ?_
  repeat' first
    | (with_reducible refine t_seq ?_)
    | (with_reducible refine t_skip ?_)
    | (with_reducible refine t_ret ?_)
    | (with_reducible refine t_end ?_)
    | (with_reducible refine t_cond ?_)
    | (with_reducible refine t_region ?_)
    | (with_reducible refine wr_done ?_)
    | ((with_reducible refine t_isDraw ?_); refine t_draw rfl (by kernel_rfl) ?_)
    | (with_reducible refine WD.done _ ?_)
    | (with_reducible refine wdp_done ?_)
    | (with_reducible refine tr_some ?_)
    | ((fail_if_success with_reducible refine t_bl ?_); (with_reducible refine t_block ?_))
    | (with_reducible refine t_inBlock ?_)
    | ((with_reducible refine t_isExit ?_); refine t_exit rfl ?_)
    | simp only [decide_eq_true_eq, decide_eq_false_iff_not, Bool.not_eq_true', Bool.not_eq_false'] at *
    | simp (disch := omega) only [go_sem, Nat.reduceLT, Nat.reduceEqDiff, Nat.reduceAdd, Nat.reduceLeDiff, Nat.reduceMul, Int.reduceLT, Int.reduceLE, Int.reduceAdd, Int.reduceSub, Int.reduceNeg, Int.reduceToNat, Int.reduceBEq, Int.reduceEq, reduceCtorEq, List.take_succ_cons, List.take_zero, List.take_nil, List.drop_succ_cons, List.drop_nil, List.cons_append, List.nil_append, List.set_cons_zero, List.set_cons_succ, ↓reduceIte, *]
    | (with_reducible refine tb_true ?_)
    | (with_reducible refine tb_false ?_)
    | (with_reducible refine tb_split (fun _ => ?_) (fun _ => ?_))
    | (with_reducible refine wg_f (fun _ => ?_) (fun _ => ?_))
    | (with_reducible refine wg_t (fun _ => ?_) (fun _ => ?_))
    | (with_reducible refine wd_f (fun _ => ?_) (fun _ => ?_))
    | (with_reducible refine wd_t (fun _ => ?_) (fun _ => ?_))
  refine t_while (I := fun (i : Nat) t h => i ≤ ms.length ∧ (∃ n, 1 ≤ n ∧ h = ⟨[(0, .rows 5 [[.s nm, .i .i64 ep, .i .i64 cy, .isl false 3 (ms.map fun q => [.s q.1, .i .i64 q.2.1, .i .i64 q.2.2]), .isl false 1 (ls.map fun y => [.i .i64 y])]])], n⟩) ∧ get t 9 = .isl false 3 (ms.map fun q => [.s q.1, .i .i64 q.2.1, .i .i64 q.2.2]) ∧ get t 10 = .i .i64 ms.length ∧ get t 11 = .i .i64 i ∧ get t 4 = .i .i64 (sumS (ms.take i)) ∧ get t 5 = .i .i64 (sumL (ms.take i))) (m := fun i => ms.length - i)
    (J := fun t h => get t 4 = .i .i64 (sumS ms) ∧ get t 5 = .i .i64 (sumL ms)) 0 ⟨by omega, ⟨1, by omega, rfl⟩, by simp [get], by simp [get], by simp [get], by simp [get, sumS], by simp [get, sumL]⟩ ?_ ?_
  · rintro i t h ⟨hi, ⟨n, hn, rfl⟩, h9, h10, h11, h4, h5⟩ hrec hex
    have hn1 : ¬ n = 0 := by omega
    have hn2 : ¬ 0 = n := by omega
    have hsum := sums_le (ms.take i) (fun q hq => hmon q (List.mem_of_mem_take hq))
    have hlen : (ms.take i).length = i := by simp; omega
    repeat' first
      | refine hex _ _ ?_
      | (with_reducible refine t_seq ?_)
      | (with_reducible refine t_skip ?_)
      | (with_reducible refine t_ret ?_)
      | (with_reducible refine t_end ?_)
      | (with_reducible refine t_cond ?_)
      | (with_reducible refine t_region ?_)
      | (with_reducible refine wr_done ?_)
      | ((with_reducible refine t_isDraw ?_); refine t_draw rfl (by kernel_rfl) ?_)
      | (with_reducible refine WD.done _ ?_)
      | (with_reducible refine wdp_done ?_)
      | (with_reducible refine tr_some ?_)
      | ((fail_if_success with_reducible refine t_bl ?_); (with_reducible refine t_block ?_))
      | (with_reducible refine t_inBlock ?_)
      | ((with_reducible refine t_isExit ?_); refine t_exit rfl ?_)
      | simp only [decide_eq_true_eq, decide_eq_false_iff_not, Bool.not_eq_true', Bool.not_eq_false'] at *
      | simp (disch := omega) only [go_sem, Nat.reduceLT, Nat.reduceEqDiff, Nat.reduceAdd, Nat.reduceLeDiff, Nat.reduceMul, Int.reduceLT, Int.reduceLE, Int.reduceAdd, Int.reduceSub, Int.reduceNeg, Int.reduceToNat, Int.reduceBEq, Int.reduceEq, reduceCtorEq, List.take_succ_cons, List.take_zero, List.take_nil, List.drop_succ_cons, List.drop_nil, List.cons_append, List.nil_append, List.set_cons_zero, List.set_cons_succ, ↓reduceIte, *]
      | (with_reducible refine tb_true ?_)
      | (with_reducible refine tb_false ?_)
      | (with_reducible refine tb_split (fun _ => ?_) (fun _ => ?_))
      | (with_reducible refine wg_f (fun _ => ?_) (fun _ => ?_))
      | (with_reducible refine wg_t (fun _ => ?_) (fun _ => ?_))
      | (with_reducible refine wd_f (fun _ => ?_) (fun _ => ?_))
      | (with_reducible refine wd_t (fun _ => ?_) (fun _ => ?_))
    · rename_i q
      have hi' : i < ms.length := by omega
      have hst := sum_take hi'
      have hq := hmon _ (List.getElem_mem hi')
      refine t_pop ?_
      refine hrec (i + 1) _ _ ⟨by omega, ⟨n + 1, by omega, rfl⟩, by simp [get, h9], by simp [get, h10], by simp [get], ?_, ?_⟩ (by omega)
      · simp only [get, List.getElem_map, ↓reduceIte, Nat.reduceEqDiff]; rw [w64 (by omega) (by omega), hst.1]
      · simp only [get, List.getElem_map, ↓reduceIte, Nat.reduceEqDiff]; rw [w64 (by omega) (by omega), hst.2]
    · rename_i q
      have : i = ms.length := by omega
      subst this
      exact ⟨by simp [get, h4], by simp [get, h5]⟩
  · rintro t h ⟨h4, h5⟩
    repeat' first
      | (with_reducible refine t_seq ?_)
      | (with_reducible refine t_skip ?_)
      | (with_reducible refine t_ret ?_)
      | (with_reducible refine t_end ?_)
      | (with_reducible refine t_cond ?_)
      | (with_reducible refine t_region ?_)
      | (with_reducible refine wr_done ?_)
      | ((with_reducible refine t_isDraw ?_); refine t_draw rfl (by kernel_rfl) ?_)
      | (with_reducible refine WD.done _ ?_)
      | (with_reducible refine wdp_done ?_)
      | (with_reducible refine tr_some ?_)
      | ((fail_if_success with_reducible refine t_bl ?_); (with_reducible refine t_block ?_))
      | (with_reducible refine t_inBlock ?_)
      | ((with_reducible refine t_isExit ?_); refine t_exit rfl ?_)
      | simp only [decide_eq_true_eq, decide_eq_false_iff_not, Bool.not_eq_true', Bool.not_eq_false'] at *
      | simp (disch := omega) only [go_sem, Nat.reduceLT, Nat.reduceEqDiff, Nat.reduceAdd, Nat.reduceLeDiff, Nat.reduceMul, Int.reduceLT, Int.reduceLE, Int.reduceAdd, Int.reduceSub, Int.reduceNeg, Int.reduceToNat, Int.reduceBEq, Int.reduceEq, reduceCtorEq, List.take_succ_cons, List.take_zero, List.take_nil, List.drop_succ_cons, List.drop_nil, List.cons_append, List.nil_append, List.set_cons_zero, List.set_cons_succ, ↓reduceIte, *]
      | (with_reducible refine tb_true ?_)
      | (with_reducible refine tb_false ?_)
      | (with_reducible refine tb_split (fun _ => ?_) (fun _ => ?_))
      | (with_reducible refine wg_f (fun _ => ?_) (fun _ => ?_))
      | (with_reducible refine wg_t (fun _ => ?_) (fun _ => ?_))
      | (with_reducible refine wd_f (fun _ => ?_) (fun _ => ?_))
      | (with_reducible refine wd_t (fun _ => ?_) (fun _ => ?_))
    exact ⟨by simp [fz], rfl⟩
end Go.Proofs.YtkokongbnemkhaaGreatDoorA
