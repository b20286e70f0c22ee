/- feast.Check: what it finds before it looks at the kids. -/
import Derived.Test.YthahgmncnbeddaaGreatDoorSC
import Derived.Test.YthahgmncnbeddaaGreatDoorNA
import Derived.Test.YthahgmncnbeddaaGreatDoorPW11
set_option linter.unusedVariables false
set_option linter.unusedSimpArgs false
namespace Go.Proofs.YthahgmncnbeddaaGreatDoorA
open Go Go.RowKit Go.Proofs.YthahgmncnbeddaaGreatDoorFx Go.Proofs
attribute [local go_sem] List.take_succ_cons List.take_zero List.take_nil List.drop_succ_cons List.drop_nil List.cons_append List.nil_append List.set_cons_zero List.set_cons_succ
variable {m : Int}
/-- A row that is a feast's, whatever stands in it. -/
inductive FeR : List AV → Prop
  | mk (k a b : Int) (nm : List UInt8) (ks : List (List AV)) (hk : (Lit.int .i64 k).wf = true) (ha : (Lit.int .i64 a).wf = true) (hb : (Lit.int .i64 b).wf = true) (h : ∀ r ∈ ks, FeR r) (hl : ks.length ≤ 140737488351232) : FeR [.i .i64 k, .i .i64 a, .i .i64 b, .s nm, .isl false 5 ks]
/-- How many months the calendar of a name has, and the fault of the name. -/
noncomputable def mnF (m : Int) (s : List UInt8) : Int := (months_any m s).choose
noncomputable def meF (m : Int) (s : List UInt8) : Int := (months_any m s).choose_spec.choose
theorem monF_ok (m : Int) (s : List UInt8) : MeetsP Tryz.prog (glT m) 54 [.s s] (.tup [.i .i64 (mnF m s), .i .i64 (meF m s)]) ∧ (meF m s = 0 → ¬ Unknown s) ∧ (¬ Unknown s → meF m s = 0 ∧ 0 ≤ mnF m s) := (months_any m s).choose_spec.choose_spec
/-- What feast.Check asks of a set, below ab heavy ones. -/
def Fs.st (m : Int) : Fs → Int → Prop
  | .leaf k a b nm, _ => (k = 1 ∧ meF m nm = 0 ∧ 1 ≤ a ∧ a ≤ mnF m nm ∧ 1 ≤ b ∧ b ≤ 400) ∨ (k = 2 ∧ b = 0 ∧ meF m nm = 0 ∧ 1 ≤ a ∧ a ≤ mnF m nm) ∨ (k = 3 ∧ nm = [] ∧ b = 0 ∧ 0 ≤ a ∧ a ≤ 6) ∨
      (k = 4 ∧ nm = [] ∧ 1 ≤ a ∧ a ≤ 100000 ∧ 0 ≤ b ∧ b < a) ∨ (k = 5 ∧ nm = [] ∧ b = 0 ∧ chkDay a = 0) ∨ (k = 6 ∧ nm = [] ∧ chkDay a = 0 ∧ chkDay b = 0 ∧ a ≤ b)
  | .one k a b nm x, ab => (k = 7 ∧ nm = [] ∧ b = 0 ∧ -400 ≤ a ∧ a ≤ 400 ∧ x.st m ab) ∨ (k = 8 ∧ ab ≤ 1 ∧ nm = [] ∧ b = 0 ∧ 0 ≤ a ∧ a ≤ 6 ∧ x.st m (ab + 1)) ∨
      (k = 12 ∧ ab ≤ 1 ∧ meF m nm = 0 ∧ -50 ≤ a ∧ a ≤ 50 ∧ ¬ a = 0 ∧ 0 ≤ b ∧ b ≤ mnF m nm ∧ x.st m (ab + 1))
  | .two k a b nm x y, ab => (k = 9 ∨ k = 10 ∨ k = 11) ∧ nm = [] ∧ a = 0 ∧ b = 0 ∧ x.st m ab ∧ y.st m ab
theorem Fs.st_wf : ∀ (t : Fs) (ab : Int), t.st m ab → t.wf Known
  | .leaf k a b nm, ab, h => by
    simp only [Fs.st] at h
    simp only [Fs.wf]
    rcases h with ⟨rfl, h, -⟩ | ⟨rfl, -, h, -⟩ | ⟨rfl, -⟩ | ⟨rfl, -, h⟩ | ⟨rfl, -⟩ | ⟨rfl, -⟩
    · exact .inl ⟨.inl rfl, (monF_ok m nm).2.1 h⟩
    · exact .inl ⟨.inr rfl, (monF_ok m nm).2.1 h⟩
    · exact .inr (.inl rfl)
    · exact .inr (.inr (.inl ⟨rfl, h⟩))
    · exact .inr (.inr (.inr (.inl rfl)))
    · exact .inr (.inr (.inr (.inr rfl)))
  | .one k a b nm x, ab, h => by
    simp only [Fs.st] at h
    simp only [Fs.wf]
    rcases h with ⟨rfl, -, -, h1, h2, h3⟩ | ⟨rfl, -, -, -, -, -, h3⟩ | ⟨rfl, -, h, h1, h2, h4, -, -, h3⟩
    · exact ⟨.inl ⟨rfl, h1, h2⟩, x.st_wf ab h3⟩
    · exact ⟨.inr (.inl rfl), x.st_wf _ h3⟩
    · exact ⟨.inr (.inr ⟨rfl, (monF_ok m nm).2.1 h, h1, h2, h4⟩), x.st_wf _ h3⟩
  | .two k a b nm x y, ab, h => by
    simp only [Fs.st] at h
    simp only [Fs.wf]
    exact ⟨h.1, x.st_wf ab h.2.2.2.2.1, y.st_wf ab h.2.2.2.2.2⟩
theorem Fs.pos : ∀ t : Fs, 1 ≤ t.size ∧ 1 ≤ t.depth
  | .leaf .. => ⟨Nat.le_refl _, Nat.le_refl _⟩
  | .one .. => ⟨by simp only [Fs.size]; omega, by simp only [Fs.depth]; omega⟩
  | .two .. => ⟨by simp only [Fs.size]; omega, by simp only [Fs.depth]; omega⟩
theorem Fs.row_inj : ∀ t u : Fs, t.row = u.row → t = u
  | .leaf .., .leaf .., h => by simp only [Fs.row, List.cons.injEq, AV.i.injEq, AV.s.injEq, true_and, and_true] at h; obtain ⟨rfl, rfl, rfl, rfl⟩ := h; rfl
  | .leaf .., .one .., h => by simp [Fs.row] at h
  | .leaf .., .two .., h => by simp [Fs.row] at h
  | .one .., .leaf .., h => by simp [Fs.row] at h
  | .one k a b nm x, .one k' a' b' nm' x', h => by
    simp only [Fs.row, List.cons.injEq, AV.i.injEq, AV.s.injEq, AV.isl.injEq, true_and, and_true] at h
    obtain ⟨rfl, rfl, rfl, rfl, h⟩ := h
    rw [Fs.row_inj x x' h]
  | .one .., .two .., h => by simp [Fs.row] at h
  | .two .., .leaf .., h => by simp [Fs.row] at h
  | .two .., .one .., h => by simp [Fs.row] at h
  | .two k a b nm x y, .two k' a' b' nm' x' y', h => by
    simp only [Fs.row, List.cons.injEq, AV.i.injEq, AV.s.injEq, AV.isl.injEq, true_and, and_true] at h
    obtain ⟨rfl, rfl, rfl, rfl, h1, h2⟩ := h
    rw [Fs.row_inj x x' h1, Fs.row_inj y y' h2]
theorem row_leaf {t : Fs} {k a b : Int} {nm : List UInt8} (h : t.row = [.i .i64 k, .i .i64 a, .i .i64 b, .s nm, .isl false 5 []]) : t = .leaf k a b nm := by
  cases t with
  | leaf => simp only [Fs.row, List.cons.injEq, AV.i.injEq, AV.s.injEq, true_and, and_true] at h; obtain ⟨rfl, rfl, rfl, rfl⟩ := h; rfl
  | one => simp [Fs.row] at h
  | two => simp [Fs.row] at h
theorem row_one {t : Fs} {k a b : Int} {nm : List UInt8} {r : List AV} (h : t.row = [.i .i64 k, .i .i64 a, .i .i64 b, .s nm, .isl false 5 [r]]) : ∃ x, t = .one k a b nm x ∧ x.row = r := by
  cases t with
  | leaf => simp [Fs.row] at h
  | one => simp only [Fs.row, List.cons.injEq, AV.i.injEq, AV.s.injEq, AV.isl.injEq, true_and, and_true] at h; obtain ⟨rfl, rfl, rfl, rfl, h⟩ := h; exact ⟨_, rfl, h⟩
  | two => simp [Fs.row] at h
theorem row_two {t : Fs} {k a b : Int} {nm : List UInt8} {r s : List AV} (h : t.row = [.i .i64 k, .i .i64 a, .i .i64 b, .s nm, .isl false 5 [r, s]]) : ∃ x y, t = .two k a b nm x y ∧ x.row = r ∧ y.row = s := by
  cases t with
  | leaf => simp [Fs.row] at h
  | one => simp [Fs.row] at h
  | two => simp only [Fs.row, List.cons.injEq, AV.i.injEq, AV.s.injEq, AV.isl.injEq, true_and, and_true] at h; obtain ⟨rfl, rfl, rfl, rfl, h1, h2⟩ := h; exact ⟨_, _, rfl, h1, h2⟩
/-- A set that the row is, and that holds all that is asked: then there is no fault. -/
def CkUp (m : Int) (row : List AV) (d ab q e : Int) : Prop := (∃ t : Fs, t.row = row ∧ t.st m ab ∧ q + t.size ≤ 40 ∧ d + t.depth ≤ 11) → e = 0
/-- What is proved of a checker's visit. -/
def CkOk (m : Int) (row : List AV) : Prop := ∀ d ab q : Int, 1 ≤ d → d ≤ 11 → 0 ≤ ab → ab ≤ 2 → 0 ≤ q → q ≤ 40 → ∃ e q' : Int, 0 ≤ q' ∧ q' ≤ 41 ∧ (e = 0 → q' ≤ 40 ∧ ∃ t : Fs, t.row = row ∧ t.st m ab ∧ q' = q + t.size ∧ d + t.depth ≤ 11) ∧ CkUp m row d ab q e ∧
  ∀ (c : List (Nat × Ent)) (id n : Nat), look c id = some (.rows 1 [[.i .i64 q]]) → id < n → MeetsH (EG (glF m)) 34 [.ptr id 0 0, .agg row, .i .i64 d, .i .i64 ab] ⟨c, n⟩ (RetG (.i .i64 e) (upd c id (.rows 1 [[.i .i64 q']])) n)
set_option maxRecDepth 100000 in
theorem heavyP (k : Int) : MeetsP Tryz.prog (glF m) 53 [.i .i64 k] (.b (decide (k = 8) || decide (k = 12))) := by
  refine meetsP (E := (EG (glF m))) 9 [.tmp 2] (eg (glF m)) Tryz.func53 rfl (by decide) rfl rfl (by simp) ?_
  repeat' first | (with_reducible first | refine t_seq ?_ | refine t_skip ?_ | refine t_ret ?_ | refine t_end ?_ | refine t_cond ?_ | refine t_region ?_ | refine wr_done ?_ | refine WD.done _ ?_ | refine wdp_done ?_ | refine wdg_done ?_ | refine tr_some ?_ | refine t_inBlock ?_) | ((with_reducible refine t_isDraw ?_); refine t_draw rfl (by kernel_rfl) ?_) | ((fail_if_success with_reducible refine t_bl ?_); (with_reducible refine t_block ?_)) | ((with_reducible refine t_isExit ?_); refine t_exit rfl ?_) | simp only [decide_eq_true_eq, decide_eq_false_iff_not, Bool.not_eq_true', Bool.not_eq_false'] at * | simp (disch := omega) only [go_sem, Nat.reduceLT, Nat.reduceEqDiff, Nat.reduceAdd, Nat.reduceLeDiff, Nat.reduceMul, Int.reduceLT, Int.reduceLE, Int.reduceAdd, Int.reduceSub, Int.reduceNeg, Int.reduceToNat, Int.reduceBEq, Int.reduceEq, reduceCtorEq, ↓reduceIte, *] | (with_reducible first | refine tb_true ?_ | refine tb_false ?_) | ((with_reducible first | refine tb_split ?_ ?_ | refine wg_f ?_ ?_ | refine wg_t ?_ ?_ | refine wd_f ?_ ?_ | refine wd_t ?_ ?_) <;> intro _)
  all_goals first | (exfalso; omega) | exact ⟨by simp [fz, *], rfl⟩
section
variable {k a b : Int} {nm : List UInt8} {ks : List (List AV)}
set_option maxRecDepth 100000 in
set_option maxHeartbeats 2000000 in
theorem ckBig {d ab q : Int} (h1 : 1 ≤ d) (h2 : d ≤ 11) (h3 : 0 ≤ q) (h4 : q ≤ 40) (hb : 40 < q + 1 ∨ 10 < d ∨ ((k = 8 ∨ k = 12) ∧ ab = 2)) (c : List (Nat × Ent)) (id n : Nat) (hl : look c id = some (.rows 1 [[.i .i64 q]])) (hid : id < n) :
    MeetsH (EG (glF m)) 34 [.ptr id 0 0, .agg [.i .i64 k, .i .i64 a, .i .i64 b, .s nm, .isl false 5 ks], .i .i64 d, .i .i64 ab] ⟨c, n⟩ (RetG (.i .i64 2) (upd c id (.rows 1 [[.i .i64 (q + 1)]])) n) := by
  refine grow_forget ?_
  have hu : ∀ k l, look (upd c id (.rows k l)) id = some (.rows k l) := fun k l => look_updR k l hl
  have hne : ¬ n = id := by omega
  have hv := heavyP (m := m) k
  by_cases c1 : 40 < q + 1
  · clear hb
    refine meetsH (E := (EG (glF m))) 280 [.tmp 8] Tryz.func34 rfl (by decide) rfl rfl (by simp) ?_
    repeat' first | ((with_reducible refine wr_isCall ?_); refine wr_P hv rfl ?_) | (with_reducible first | refine t_seq ?_ | refine t_skip ?_ | refine t_ret ?_ | refine t_end ?_ | refine t_cond ?_ | refine t_region ?_ | refine wr_done ?_ | refine WD.done _ ?_ | refine wdp_done ?_ | refine wdg_done ?_ | refine tr_some ?_ | refine t_inBlock ?_) | ((with_reducible refine t_isDraw ?_); refine t_draw rfl (by kernel_rfl) ?_) | ((fail_if_success with_reducible refine t_bl ?_); (with_reducible refine t_block ?_)) | ((with_reducible refine t_isExit ?_); refine t_exit rfl ?_) | simp only [decide_eq_true_eq, decide_eq_false_iff_not, Bool.not_eq_true', Bool.not_eq_false'] at * | simp (disch := omega) only [go_sem, Nat.reduceLT, Nat.reduceEqDiff, Nat.reduceAdd, Nat.reduceLeDiff, Nat.reduceMul, Int.reduceLT, Int.reduceLE, Int.reduceAdd, Int.reduceSub, Int.reduceNeg, Int.reduceToNat, Int.reduceBEq, Int.reduceEq, reduceCtorEq, ↓reduceIte, *] | (with_reducible first | refine tb_true ?_ | refine tb_false ?_) | ((with_reducible first | refine tb_split ?_ ?_ | refine wg_f ?_ ?_ | refine wg_t ?_ ?_ | refine wd_f ?_ ?_ | refine wd_t ?_ ?_) <;> intro _)
    all_goals first | (exfalso; omega) | exact ⟨1, rfl, by simp only; omega⟩
  by_cases c2 : 10 < d
  · clear hb
    refine meetsH (E := (EG (glF m))) 280 [.tmp 8] Tryz.func34 rfl (by decide) rfl rfl (by simp) ?_
    repeat' first | ((with_reducible refine wr_isCall ?_); refine wr_P hv rfl ?_) | (with_reducible first | refine t_seq ?_ | refine t_skip ?_ | refine t_ret ?_ | refine t_end ?_ | refine t_cond ?_ | refine t_region ?_ | refine wr_done ?_ | refine WD.done _ ?_ | refine wdp_done ?_ | refine wdg_done ?_ | refine tr_some ?_ | refine t_inBlock ?_) | ((with_reducible refine t_isDraw ?_); refine t_draw rfl (by kernel_rfl) ?_) | ((fail_if_success with_reducible refine t_bl ?_); (with_reducible refine t_block ?_)) | ((with_reducible refine t_isExit ?_); refine t_exit rfl ?_) | simp only [decide_eq_true_eq, decide_eq_false_iff_not, Bool.not_eq_true', Bool.not_eq_false'] at * | simp (disch := omega) only [go_sem, Nat.reduceLT, Nat.reduceEqDiff, Nat.reduceAdd, Nat.reduceLeDiff, Nat.reduceMul, Int.reduceLT, Int.reduceLE, Int.reduceAdd, Int.reduceSub, Int.reduceNeg, Int.reduceToNat, Int.reduceBEq, Int.reduceEq, reduceCtorEq, ↓reduceIte, *] | (with_reducible first | refine tb_true ?_ | refine tb_false ?_) | ((with_reducible first | refine tb_split ?_ ?_ | refine wg_f ?_ ?_ | refine wg_t ?_ ?_ | refine wd_f ?_ ?_ | refine wd_t ?_ ?_) <;> intro _)
    all_goals first | (exfalso; omega) | exact ⟨1, rfl, by simp only; omega⟩
  obtain ⟨hk, rfl⟩ : (k = 8 ∨ k = 12) ∧ ab = 2 := by
    rcases hb with h | h | h
    · exact absurd h c1
    · exact absurd h c2
    · exact h
  have e : (decide (k = 8) || decide (k = 12)) = true := by rcases hk with rfl | rfl <;> decide
  rw [e] at hv
  clear hk e
  refine meetsH (E := (EG (glF m))) 280 [.tmp 8] Tryz.func34 rfl (by decide) rfl rfl (by simp) ?_
  repeat' first | ((with_reducible refine wr_isCall ?_); refine wr_P hv rfl ?_) | (with_reducible first | refine t_seq ?_ | refine t_skip ?_ | refine t_ret ?_ | refine t_end ?_ | refine t_cond ?_ | refine t_region ?_ | refine wr_done ?_ | refine WD.done _ ?_ | refine wdp_done ?_ | refine wdg_done ?_ | refine tr_some ?_ | refine t_inBlock ?_) | ((with_reducible refine t_isDraw ?_); refine t_draw rfl (by kernel_rfl) ?_) | ((fail_if_success with_reducible refine t_bl ?_); (with_reducible refine t_block ?_)) | ((with_reducible refine t_isExit ?_); refine t_exit rfl ?_) | simp only [decide_eq_true_eq, decide_eq_false_iff_not, Bool.not_eq_true', Bool.not_eq_false'] at * | simp (disch := omega) only [go_sem, Nat.reduceLT, Nat.reduceEqDiff, Nat.reduceAdd, Nat.reduceLeDiff, Nat.reduceMul, Int.reduceLT, Int.reduceLE, Int.reduceAdd, Int.reduceSub, Int.reduceNeg, Int.reduceToNat, Int.reduceBEq, Int.reduceEq, reduceCtorEq, ↓reduceIte, *] | (with_reducible first | refine tb_true ?_ | refine tb_false ?_) | ((with_reducible first | refine tb_split ?_ ?_ | refine wg_f ?_ ?_ | refine wg_t ?_ ?_ | refine wd_f ?_ ?_ | refine wd_t ?_ ?_) <;> intro _)
  all_goals first | (exfalso; omega) | exact ⟨1, rfl, by simp only; omega⟩
set_option maxRecDepth 100000 in
set_option maxHeartbeats 2000000 in
theorem ckOut {d ab q : Int} (h1 : 1 ≤ d) (h2 : d ≤ 10) (h3 : 0 ≤ q) (h4 : q ≤ 39) (hk : k < 1 ∨ 12 < k) (c : List (Nat × Ent)) (id n : Nat) (hl : look c id = some (.rows 1 [[.i .i64 q]])) (hid : id < n) :
    MeetsH (EG (glF m)) 34 [.ptr id 0 0, .agg [.i .i64 k, .i .i64 a, .i .i64 b, .s nm, .isl false 5 ks], .i .i64 d, .i .i64 ab] ⟨c, n⟩ (RetG (.i .i64 8) (upd c id (.rows 1 [[.i .i64 (q + 1)]])) n) := by
  refine grow_forget ?_
  have hu : ∀ k l, look (upd c id (.rows k l)) id = some (.rows k l) := fun k l => look_updR k l hl
  have hne : ¬ n = id := by omega
  have hv := heavyP (m := m) k
  have e : (decide (k = 8) || decide (k = 12)) = false := by simp; omega
  rw [e] at hv
  have c1 : ¬ 40 < q + 1 := by omega
  have c2 : ¬ 10 < d := by omega
  rcases hk with hk | hk
  all_goals
    refine meetsH (E := (EG (glF m))) 280 [.tmp 8] Tryz.func34 rfl (by decide) rfl rfl (by simp) ?_
    repeat' first | ((with_reducible refine wr_isCall ?_); refine wr_P hv rfl ?_) | (with_reducible first | refine t_seq ?_ | refine t_skip ?_ | refine t_ret ?_ | refine t_end ?_ | refine t_cond ?_ | refine t_region ?_ | refine wr_done ?_ | refine WD.done _ ?_ | refine wdp_done ?_ | refine wdg_done ?_ | refine tr_some ?_ | refine t_inBlock ?_) | ((with_reducible refine t_isDraw ?_); refine t_draw rfl (by kernel_rfl) ?_) | ((fail_if_success with_reducible refine t_bl ?_); (with_reducible refine t_block ?_)) | ((with_reducible refine t_isExit ?_); refine t_exit rfl ?_) | simp only [decide_eq_true_eq, decide_eq_false_iff_not, Bool.not_eq_true', Bool.not_eq_false'] at * | simp (disch := omega) only [go_sem, Nat.reduceLT, Nat.reduceEqDiff, Nat.reduceAdd, Nat.reduceLeDiff, Nat.reduceMul, Int.reduceLT, Int.reduceLE, Int.reduceAdd, Int.reduceSub, Int.reduceNeg, Int.reduceToNat, Int.reduceBEq, Int.reduceEq, reduceCtorEq, ↓reduceIte, *] | (with_reducible first | refine tb_true ?_ | refine tb_false ?_) | ((with_reducible first | refine tb_split ?_ ?_ | refine wg_f ?_ ?_ | refine wg_t ?_ ?_ | refine wd_f ?_ ?_ | refine wd_t ?_ ?_) <;> intro _)
    all_goals first | (exfalso; omega) | exact ⟨1, rfl, by simp only; omega⟩
end
end Go.Proofs.YthahgmncnbeddaaGreatDoorA
