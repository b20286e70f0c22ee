/- name, cut, known; Date and Day of the catalog. -/
import Derived.Test.YtkokongbnemkhaaGreatDoorPW14
import Derived.Test.YtkokongbnemkhaaGreatDoorPW9
set_option linter.unusedVariables false
set_option linter.unusedSimpArgs false
namespace Go.Proofs.YtkokongbnemkhaaGreatDoorA
open Go Go.RowKit Go.Proofs.YtkokongbnemkhaaGreatDoorFx Go.Proofs
variable {m : Int} {r : CatRow} {k : Nat}
theorem kmodP {a b : Int} (hb : 0 < b) (hb2 : b ≤ 1000000000000000) : MeetsP Tryz.prog (glT m) 17 [.i .i64 a, .i .i64 b] (.i .i64 (a % b)) := by
  have hm1 := Int.emod_nonneg a (show b ≠ 0 by omega)
  have hm2 := Int.emod_lt_of_pos a hb
  have hc := tmod_cases (a := a) hb
  have hz : ¬ b = 0 := by omega
  refine meetsP (E := (EW m)) 12 [.tmp 4] (ew m) Tryz.func17 rfl (by decide) rfl rfl (by simp) ?_
  repeat' first
    | (with_reducible refine t_seq ?_)
    | (with_reducible refine t_skip ?_)
    | (with_reducible refine t_ret ?_)
    | (with_reducible refine t_end ?_)
    | (with_reducible refine t_cond ?_)
    | (with_reducible refine t_region ?_)
    | (with_reducible refine wr_done ?_)
    | ((with_reducible refine t_isDraw ?_); refine t_draw rfl (by kernel_rfl) ?_)
    | (with_reducible refine WD.done _ ?_)
    | (with_reducible refine wdp_done ?_)
    | (with_reducible refine tr_some ?_)
    | ((fail_if_success with_reducible refine t_bl ?_); (with_reducible refine t_block ?_))
    | (with_reducible refine t_inBlock ?_)
    | ((with_reducible refine t_isExit ?_); refine t_exit rfl ?_)
    | simp only [decide_eq_true_eq, decide_eq_false_iff_not, Bool.not_eq_true', Bool.not_eq_false'] at *
    | simp (disch := omega) only [go_sem, Nat.reduceLT, Nat.reduceEqDiff, Nat.reduceAdd, Nat.reduceLeDiff, Nat.reduceMul, Int.reduceLT, Int.reduceLE, Int.reduceAdd, Int.reduceSub, Int.reduceNeg, Int.reduceToNat, Int.reduceBEq, Int.reduceEq, reduceCtorEq, List.take_succ_cons, List.take_zero, List.take_nil, List.drop_succ_cons, List.drop_nil, List.cons_append, List.nil_append, List.set_cons_zero, List.set_cons_succ, ↓reduceIte, *]
    | (with_reducible refine tb_true ?_)
    | (with_reducible refine tb_false ?_)
    | (with_reducible refine tb_split (fun _ => ?_) (fun _ => ?_))
    | (with_reducible refine wg_f (fun _ => ?_) (fun _ => ?_))
    | (with_reducible refine wg_t (fun _ => ?_) (fun _ => ?_))
    | (with_reducible refine wd_f (fun _ => ?_) (fun _ => ?_))
    | (with_reducible refine wd_t (fun _ => ?_) (fun _ => ?_))
  refine ⟨?_, rfl⟩
  simp only [fz]
  congr 1
  rcases hc with ⟨e1, e2, e3⟩ | ⟨e1, e2, e3, e4⟩
  · rw [e1, Int.tmod_eq_emod_of_nonneg (by omega), Int.add_emod_right, Int.emod_emod]
  · rw [e3, Int.sub_add_cancel, Int.tmod_eq_emod_of_nonneg (by omega), Int.emod_emod]
theorem kcutP {a lo n : Int} (hn : 0 < n) (hn2 : n ≤ 1000000000000000) (h1 : -1000000000000000 ≤ lo) (h2 : lo ≤ 1000000000000000) : MeetsP Tryz.prog (glT m) 12 [.i .i64 a, .i .i64 lo, .i .i64 n] (.i .i64 (lo + a % n)) := by
  have hm1 := Int.emod_nonneg a (show n ≠ 0 by omega)
  have hm2 := Int.emod_lt_of_pos a hn
  have hp := kmodP (m := m) (a := a) (b := n) hn (by omega)
  refine meetsP (E := (EW m)) 12 [.tmp 6] (ew m) Tryz.func12 rfl (by decide) rfl rfl (by simp) ?_
  repeat' first
    | ((with_reducible refine wr_isCall ?_); refine wr_P hp rfl ?_)
    | (with_reducible refine t_seq ?_)
    | (with_reducible refine t_skip ?_)
    | (with_reducible refine t_ret ?_)
    | (with_reducible refine t_end ?_)
    | (with_reducible refine t_cond ?_)
    | (with_reducible refine t_region ?_)
    | (with_reducible refine wr_done ?_)
    | ((with_reducible refine t_isDraw ?_); refine t_draw rfl (by kernel_rfl) ?_)
    | (with_reducible refine WD.done _ ?_)
    | (with_reducible refine wdp_done ?_)
    | (with_reducible refine tr_some ?_)
    | ((fail_if_success with_reducible refine t_bl ?_); (with_reducible refine t_block ?_))
    | (with_reducible refine t_inBlock ?_)
    | ((with_reducible refine t_isExit ?_); refine t_exit rfl ?_)
    | simp only [decide_eq_true_eq, decide_eq_false_iff_not, Bool.not_eq_true', Bool.not_eq_false'] at *
    | simp (disch := omega) only [go_sem, Nat.reduceLT, Nat.reduceEqDiff, Nat.reduceAdd, Nat.reduceLeDiff, Nat.reduceMul, Int.reduceLT, Int.reduceLE, Int.reduceAdd, Int.reduceSub, Int.reduceNeg, Int.reduceToNat, Int.reduceBEq, Int.reduceEq, reduceCtorEq, List.take_succ_cons, List.take_zero, List.take_nil, List.drop_succ_cons, List.drop_nil, List.cons_append, List.nil_append, List.set_cons_zero, List.set_cons_succ, ↓reduceIte, *]
    | (with_reducible refine tb_true ?_)
    | (with_reducible refine tb_false ?_)
    | (with_reducible refine tb_split (fun _ => ?_) (fun _ => ?_))
    | (with_reducible refine wg_f (fun _ => ?_) (fun _ => ?_))
    | (with_reducible refine wg_t (fun _ => ?_) (fun _ => ?_))
    | (with_reducible refine wd_f (fun _ => ?_) (fun _ => ?_))
    | (with_reducible refine wd_t (fun _ => ?_) (fun _ => ?_))
  exact ⟨rfl, rfl⟩
def namesA : AV := .isl true 1 (catT.map fun r => [.s r.name])
set_option maxRecDepth 10000000 in
theorem namesP (m : Int) : MeetsP Tryz.prog (glT m) 34 [] namesA :=
  evOP_ok (E := ET m) (et m) (xt m) (ekN m) (ekO m) (n := 10000) (by kernel_rfl)
/-- The row that a number picks. -/
def pick (a : Int) : Nat := (a % 40).toNat
theorem pick_lt (a : Int) : pick a < catT.length := by
  show (a % 40).toNat < 40
  omega
def rowAt (a : Int) : CatRow := catT[pick a]'(pick_lt a)
theorem pick_mem (a : Int) : (rowAt a, pick a) ∈ catT.zipIdx := by
  rw [List.mem_zipIdx_iff_getElem?]
  exact List.getElem?_eq_getElem (pick_lt a)
set_option maxRecDepth 10000000 in
theorem nameP (a : Int) : MeetsP Tryz.prog (glT m) 15 [.i .i64 a] (.s (rowAt a).name) := by
  have h1 := namesP m
  have h2 := kmodP (m := m) (a := a) (b := 40) (by omega) (by omega)
  have h3 := pick_lt a
  unfold namesA at h1
  have hl : (catT.map fun r => [AV.s r.name]).length = 40 := by kernel_rfl
  have hr : (catT.map fun r => [AV.s r.name])[(a % 40).toNat]? = some [.s (rowAt a).name] := by
    rw [List.getElem?_map]
    exact congrArg (Option.map _) (List.getElem?_eq_getElem h3)
  generalize (catT.map fun r => [AV.s r.name]) = L at *
  have hm1 := Int.emod_nonneg a (show (40 : Int) ≠ 0 by omega)
  have hm2 := Int.emod_lt_of_pos a (show (0 : Int) < 40 by omega)
  refine meetsP (E := (EW m)) 15 [.tmp 2] (ew m) Tryz.func15 rfl (by decide) rfl rfl (by simp) ?_
  repeat' first
    | ((with_reducible refine wr_isCall ?_); refine wr_P h1 rfl ?_)
    | ((with_reducible refine wr_isCall ?_); refine wr_P h2 rfl ?_)
    | (with_reducible refine t_seq ?_)
    | (with_reducible refine t_skip ?_)
    | (with_reducible refine t_ret ?_)
    | (with_reducible refine t_end ?_)
    | (with_reducible refine t_cond ?_)
    | (with_reducible refine t_region ?_)
    | (with_reducible refine wr_done ?_)
    | ((with_reducible refine t_isDraw ?_); refine t_draw rfl (by kernel_rfl) ?_)
    | (with_reducible refine WD.done _ ?_)
    | (with_reducible refine wdp_done ?_)
    | (with_reducible refine tr_some ?_)
    | ((fail_if_success with_reducible refine t_bl ?_); (with_reducible refine t_block ?_))
    | (with_reducible refine t_inBlock ?_)
    | ((with_reducible refine t_isExit ?_); refine t_exit rfl ?_)
    | simp only [decide_eq_true_eq, decide_eq_false_iff_not, Bool.not_eq_true', Bool.not_eq_false'] at *
    | simp (disch := omega) only [go_sem, Nat.reduceLT, Nat.reduceEqDiff, Nat.reduceAdd, Nat.reduceLeDiff, Nat.reduceMul, Int.reduceLT, Int.reduceLE, Int.reduceAdd, Int.reduceSub, Int.reduceNeg, Int.reduceToNat, Int.reduceBEq, Int.reduceEq, reduceCtorEq, List.take_succ_cons, List.take_zero, List.take_nil, List.drop_succ_cons, List.drop_nil, List.cons_append, List.nil_append, List.set_cons_zero, List.set_cons_succ, ↓reduceIte, *]
    | (with_reducible refine tb_true ?_)
    | (with_reducible refine tb_false ?_)
    | (with_reducible refine tb_split (fun _ => ?_) (fun _ => ?_))
    | (with_reducible refine wg_f (fun _ => ?_) (fun _ => ?_))
    | (with_reducible refine wg_t (fun _ => ?_) (fun _ => ?_))
    | (with_reducible refine wd_f (fun _ => ?_) (fun _ => ?_))
    | (with_reducible refine wd_t (fun _ => ?_) (fun _ => ?_))
  · exfalso; omega
  · exact ⟨rfl, rfl⟩
theorem Cal.A_parts (c : Cal) : ∃ y1 y2 y3 y4 y5, c.A = .agg [y1, y2, y3, y4, y5] ∧ (one y1 = true ∧ one y2 = true ∧ one y3 = true ∧ one y4 = true ∧ one y5 = true) ∧ [AV.agg [y1, y2, y3, y4, y5]].all (noid 12) = true ∧ ∀ a, [AV.agg [y1, y2, y3, y4, y5], a].all (noid 12) = noid 12 a :=
  ⟨_, _, _, _, _, rfl, ⟨rfl, rfl, rfl, rfl, rfl⟩, rfl, fun a => by simp only [List.all_cons, List.all_nil, Bool.and_true]; exact Bool.true_and _⟩
set_option maxRecDepth 100000 in
theorem dateP {day y mo d e : Int} (h : (r, k) ∈ catT.zipIdx) (hd : MeetsP Tryz.prog (glT m) 27 [(calOf k r).A, .i .i64 day] (resD (dateA y mo d) e)) : MeetsP Tryz.prog (glT m) 16 [.s r.name, .i .i64 day] (resD (dateA y mo d) e) := by
  have hc := calP (m := m) h
  obtain ⟨y1, y2, y3, y4, y5, hy, ⟨o1, o2, o3, o4, o5⟩, n1, n2⟩ := (calOf k r).A_parts
  rw [hy] at hc hd
  unfold resD dateA at *
  refine meetsP (E := (EW m)) 22 [.cell 4 32, .tmp 5] (ew m) Tryz.func16 rfl (by decide) rfl rfl (by simp) ?_
  repeat' first
    | ((with_reducible refine wr_isCall ?_); refine wr_P hc rfl ?_)
    | ((with_reducible refine wr_isCall ?_); refine wr_P hd (n2 _) ?_)
    | (with_reducible refine t_seq ?_)
    | (with_reducible refine t_skip ?_)
    | (with_reducible refine t_ret ?_)
    | (with_reducible refine t_end ?_)
    | (with_reducible refine t_cond ?_)
    | (with_reducible refine t_region ?_)
    | (with_reducible refine wr_done ?_)
    | ((with_reducible refine t_isDraw ?_); refine t_draw rfl (by kernel_rfl) ?_)
    | (with_reducible refine WD.done _ ?_)
    | (with_reducible refine wdp_done ?_)
    | (with_reducible refine tr_some ?_)
    | ((fail_if_success with_reducible refine t_bl ?_); (with_reducible refine t_block ?_))
    | (with_reducible refine t_inBlock ?_)
    | ((with_reducible refine t_isExit ?_); refine t_exit rfl ?_)
    | simp only [decide_eq_true_eq, decide_eq_false_iff_not, Bool.not_eq_true', Bool.not_eq_false'] at *
    | simp (disch := omega) only [go_sem, Nat.reduceLT, Nat.reduceEqDiff, Nat.reduceAdd, Nat.reduceLeDiff, Nat.reduceMul, Int.reduceLT, Int.reduceLE, Int.reduceAdd, Int.reduceSub, Int.reduceNeg, Int.reduceToNat, Int.reduceBEq, Int.reduceEq, reduceCtorEq, List.take_succ_cons, List.take_zero, List.take_nil, List.drop_succ_cons, List.drop_nil, List.cons_append, List.nil_append, List.set_cons_zero, List.set_cons_succ, ↓reduceIte, *]
    | (with_reducible refine tb_true ?_)
    | (with_reducible refine tb_false ?_)
    | (with_reducible refine tb_split (fun _ => ?_) (fun _ => ?_))
    | (with_reducible refine wg_f (fun _ => ?_) (fun _ => ?_))
    | (with_reducible refine wg_t (fun _ => ?_) (fun _ => ?_))
    | (with_reducible refine wd_f (fun _ => ?_) (fun _ => ?_))
    | (with_reducible refine wd_t (fun _ => ?_) (fun _ => ?_))
  exact ⟨rfl, rfl⟩
set_option maxRecDepth 100000 in
theorem dayP {y mo d n e : Int} (h : (r, k) ∈ catT.zipIdx) (hd : MeetsP Tryz.prog (glT m) 37 [(calOf k r).A, dateA y mo d] (resD (.i .i64 n) e)) : MeetsP Tryz.prog (glT m) 32 [.s r.name, dateA y mo d] (resD (.i .i64 n) e) := by
  have hc := calP (m := m) h
  obtain ⟨y1, y2, y3, y4, y5, hy, ⟨o1, o2, o3, o4, o5⟩, n1, n2⟩ := (calOf k r).A_parts
  rw [hy] at hc hd
  unfold resD dateA at *
  refine meetsP (E := (EW m)) 21 [.tmp 4, .tmp 5] (ew m) Tryz.func32 rfl (by decide) rfl rfl (by simp) ?_
  repeat' first
    | ((with_reducible refine wr_isCall ?_); refine wr_P hc rfl ?_)
    | ((with_reducible refine wr_isCall ?_); refine wr_P hd (n2 _) ?_)
    | (with_reducible refine t_seq ?_)
    | (with_reducible refine t_skip ?_)
    | (with_reducible refine t_ret ?_)
    | (with_reducible refine t_end ?_)
    | (with_reducible refine t_cond ?_)
    | (with_reducible refine t_region ?_)
    | (with_reducible refine wr_done ?_)
    | ((with_reducible refine t_isDraw ?_); refine t_draw rfl (by kernel_rfl) ?_)
    | (with_reducible refine WD.done _ ?_)
    | (with_reducible refine wdp_done ?_)
    | (with_reducible refine tr_some ?_)
    | ((fail_if_success with_reducible refine t_bl ?_); (with_reducible refine t_block ?_))
    | (with_reducible refine t_inBlock ?_)
    | ((with_reducible refine t_isExit ?_); refine t_exit rfl ?_)
    | simp only [decide_eq_true_eq, decide_eq_false_iff_not, Bool.not_eq_true', Bool.not_eq_false'] at *
    | simp (disch := omega) only [go_sem, Nat.reduceLT, Nat.reduceEqDiff, Nat.reduceAdd, Nat.reduceLeDiff, Nat.reduceMul, Int.reduceLT, Int.reduceLE, Int.reduceAdd, Int.reduceSub, Int.reduceNeg, Int.reduceToNat, Int.reduceBEq, Int.reduceEq, reduceCtorEq, List.take_succ_cons, List.take_zero, List.take_nil, List.drop_succ_cons, List.drop_nil, List.cons_append, List.nil_append, List.set_cons_zero, List.set_cons_succ, ↓reduceIte, *]
    | (with_reducible refine tb_true ?_)
    | (with_reducible refine tb_false ?_)
    | (with_reducible refine tb_split (fun _ => ?_) (fun _ => ?_))
    | (with_reducible refine wg_f (fun _ => ?_) (fun _ => ?_))
    | (with_reducible refine wg_t (fun _ => ?_) (fun _ => ?_))
    | (with_reducible refine wd_f (fun _ => ?_) (fun _ => ?_))
    | (with_reducible refine wd_t (fun _ => ?_) (fun _ => ?_))
  exact ⟨rfl, rfl⟩
set_option maxRecDepth 10000000 in
theorem copticIn : (⟨[99, 111, 112, 116, 105, 99], 103605, 4, [121, 32, 37, 32, 52, 32, 61, 32, 51], 66⟩, 4) ∈ catT.zipIdx := by
  rw [List.mem_zipIdx_iff_getElem?]; kernel_rfl
/-- What FromDay finds. -/
structure Cal.At (c : Cal) (day y : Int) (mo : Nat) : Prop where
  far : chkDay day = 0
  y1 : -10000 ≤ y
  y2 : y ≤ 10000
  a : c.first y ≤ day
  b : day < c.first (y + 1)
  hmo : mo < c.ms.length
  r1 : c.bef y mo < day - c.first y + 1
  r2 : day - c.first y + 1 ≤ c.bef y (mo + 1)
theorem Cal.At.run {c : Cal} {day y : Int} {mo : Nat} (h : c.At day y mo) (hc : c.Good m) : MeetsP Tryz.prog (glT m) 27 [c.A, .i .i64 day] (resD (dateA y (mo + 1) (day - c.first y + 1 - c.bef y mo)) 0) :=
  fromDay_in hc h.far h.y1 h.y2 h.a h.b h.hmo h.r1 h.r2
/-- A day has a date, or none. -/
theorem Cal.Ok.at_or {c : Cal} (hc : c.Ok) (day : Int) : chkDay day = 3 ∨ (chkDay day = 0 ∧ (day < c.first (-10000) ∨ c.first 10001 ≤ day)) ∨ ∃ y mo, c.At day y mo := by
  by_cases h3 : chkDay day = 3
  · exact .inl h3
  have h0 : chkDay day = 0 := by unfold chkDay at h3 ⊢; split at h3 <;> simp_all
  by_cases hl : day < c.first (-10000)
  · exact .inr (.inl ⟨h0, .inl hl⟩)
  by_cases hr : c.first 10001 ≤ day
  · exact .inr (.inl ⟨h0, .inr hr⟩)
  refine .inr (.inr ?_)
  have hy : ∀ n : Nat, day < c.first (-10000 + n) → ∃ y : Int, -10000 ≤ y ∧ y < -10000 + n ∧ c.first y ≤ day ∧ day < c.first (y + 1) := by
    intro n
    induction n with
    | zero => intro h; exfalso; simp at h; omega
    | succ n ih =>
      intro h
      by_cases hn : day < c.first (-10000 + n)
      · obtain ⟨y, a, b, d, e⟩ := ih hn
        exact ⟨y, a, by omega, d, e⟩
      · exact ⟨-10000 + n, by omega, by omega, by omega, by rw [show (-10000 + (n : Int) + 1) = -10000 + ((n + 1 : Nat) : Int) by omega]; exact h⟩
  obtain ⟨y, a, b, d, e⟩ := hy 20001 (by simp; omega)
  have hb := c.bef_all y
  rw [hc.first_succ y] at e
  have hm : ∀ n : Nat, n ≤ c.ms.length → day - c.first y + 1 ≤ c.bef y n → ∃ mo, mo < n ∧ c.bef y mo < day - c.first y + 1 ∧ day - c.first y + 1 ≤ c.bef y (mo + 1) := by
    intro n
    induction n with
    | zero => intro _ h; exfalso; simp [Cal.bef] at h; omega
    | succ n ih =>
      intro hn h
      by_cases h' : day - c.first y + 1 ≤ c.bef y n
      · obtain ⟨mo, q1, q2, q3⟩ := ih (by omega) h'
        exact ⟨mo, by omega, q2, q3⟩
      · exact ⟨n, by omega, by omega, h⟩
  obtain ⟨mo, q1, q2, q3⟩ := hm c.ms.length (Nat.le_refl _) (by omega)
  exact ⟨y, mo, h0, a, by omega, d, by rw [hc.first_succ y]; exact e, q1, q2, q3⟩
def coptic : CatRow := ⟨[99, 111, 112, 116, 105, 99], 103605, 4, [121, 32, 37, 32, 52, 32, 61, 32, 51], 66⟩
set_option maxRecDepth 10000000 in
theorem copticAt : (calOf 4 coptic).At 103605 1 0 := by
  have e1 : (calOf 4 coptic).first 1 = 103605 := by kernel_rfl
  have e2 : (calOf 4 coptic).first (1 + 1) = 103970 := by kernel_rfl
  have e3 : (calOf 4 coptic).bef 1 0 = 0 := rfl
  have e4 : (calOf 4 coptic).bef 1 (0 + 1) = 30 := by kernel_rfl
  refine ⟨by kernel_rfl, by omega, by omega, by omega, by omega, Nat.lt_of_lt_of_le Nat.zero_lt_one (calOk copticIn).len1, by omega, by omega⟩
theorem copticDate : MeetsP Tryz.prog (glT m) 16 [.s [99, 111, 112, 116, 105, 99], .i .i64 103605] (resD (dateA 1 1 1) 0) := by
  refine dateP copticIn ?_
  have h := copticAt.run (m := m) (calGood copticIn)
  have e1 : (calOf 4 coptic).first 1 = 103605 := by kernel_rfl
  rw [e1] at h
  exact h
end Go.Proofs.YtkokongbnemkhaaGreatDoorA
