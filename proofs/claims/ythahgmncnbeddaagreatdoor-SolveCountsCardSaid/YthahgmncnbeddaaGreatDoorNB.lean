/- The calendars of the catalog. -/
import Derived.Test.YthahgmncnbeddaaGreatDoorPW12
import Derived.Test.YthahgmncnbeddaaGreatDoorPK50
import Derived.Test.YthahgmncnbeddaaGreatDoorPK51
import Derived.Test.YthahgmncnbeddaaGreatDoorPK52
import Derived.Test.YthahgmncnbeddaaGreatDoorPK53
import Derived.Test.YthahgmncnbeddaaGreatDoorPK5t
import Derived.Test.YthahgmncnbeddaaGreatDoorPK6
import Derived.Test.YthahgmncnbeddaaGreatDoorNC
set_option linter.unusedVariables false
set_option linter.unusedSimpArgs false
namespace Go.Proofs.YthahgmncnbeddaaGreatDoorA
open Go Go.RowKit Go.Proofs.YthahgmncnbeddaaGreatDoorFx Go.Proofs
variable {m : Int}
/-- What reads as a reads as b. -/
def Wk (a b : AV) : Prop := ∀ (ok : Okc) (w : World) (v : Value), Rep ok w G0 v a → Rep ok w G0 v b
theorem Wk.refl (a : AV) : Wk a a := fun _ _ _ r => r
theorem MeetsP.weaken {P : Program} {gl : Nat → Option (List AV)} {f : FuncId} {args : List AV} {r r' : AV} (h : MeetsP P gl f args r) (hw : Wk r r') : MeetsP P gl f args r' :=
  ⟨h.1, fun ok w vals h1 h2 h3 h4 => (h.2 ok w vals h1 h2 h3 h4).mono fun e w' ⟨v, ok', h5, h6, h7, h8, h9, h10⟩ => ⟨v, ok', h5, h6, h7, h8, h9, hw ok' w' v h10⟩⟩
theorem Wk.isl (k : Nat) (rows : List (List AV)) : Wk (.isl true k rows) (.isl false k rows) := fun ok w v r => by
  cases r with
  | isl _ nn k rows n bb o cap vs q1 q2 q3 q4 q5 => exact .isl _ false k rows n bb o cap vs q1 q2 q3 q4 q5
theorem Wk.nils (k : Nat) : Wk .nils (.isl false k []) := fun ok w v r => by
  cases r with
  | nils => exact .isln _ k
theorem Wk.agg {xs ys : List AV} (hl : xs.length = ys.length) (h : ∀ (j : Nat) a b, xs[j]? = some a → ys[j]? = some b → Wk a b) : Wk (.agg xs) (.agg ys) := fun ok w v r => by
  cases r with
  | agg _ vs _ l q =>
    refine .agg _ vs ys (l.trans hl) (fun j v b e e' => ?_)
    have hj : j < xs.length := by have := (List.getElem?_eq_some_iff.1 e').1; omega
    exact h j xs[j] b (List.getElem?_eq_getElem hj) e' ok w v (q j v _ e (List.getElem?_eq_getElem hj))
theorem Wk.tup {xs ys : List AV} (hl : xs.length = ys.length) (h : ∀ (j : Nat) a b, xs[j]? = some a → ys[j]? = some b → Wk a b) : Wk (.tup xs) (.tup ys) := fun ok w v r => by
  cases r with
  | tup _ vs _ l q =>
    refine .tup _ vs ys (l.trans hl) (fun j v b e e' => ?_)
    have hj : j < xs.length := by have := (List.getElem?_eq_some_iff.1 e').1; omega
    exact h j xs[j] b (List.getElem?_eq_getElem hj) e' ok w v (q j v _ e (List.getElem?_eq_getElem hj))
theorem Wk.cal (nm : List UInt8) (ep cy : Int) (ms : List (List UInt8 × Int × Int)) (l : List Int) : Wk (calOut nm ep cy ms l) (Cal.A ⟨nm, ep, cy, ms, l⟩) := by
  refine Wk.agg rfl (fun j a b h1 h2 => ?_)
  match j, h1, h2 with
  | 0, h1, h2 => cases h1; cases h2; exact .refl _
  | 1, h1, h2 => cases h1; cases h2; exact .refl _
  | 2, h1, h2 => cases h1; cases h2; exact .refl _
  | 3, h1, h2 => cases h1; cases h2; exact Wk.isl _ _
  | 4, h1, h2 =>
    cases h1; cases h2
    by_cases h : l = []
    · rw [if_pos h, h]; exact Wk.nils 1
    · rw [if_neg h]; exact Wk.isl _ _
  | n + 5, h1, h2 => simp at h1
/-- A calendar of the catalog. -/
def calOf (k : Nat) (r : CatRow) : Cal := ⟨r.name, r.epoch, r.cycle, monOf r, leapsTo (leapOf k) r.cycle.toNat⟩
set_option maxRecDepth 10000000
/-- What is asked of a row, plainly. -/
def rowOk (p : CatRow × Nat) : Bool :=
  (leapOf p.2).wf && decide ((leapOf p.2).size ≤ 60) && decide ((leapOf p.2).depth ≤ 12) && decide (-4000000 ≤ p.1.epoch) && decide (p.1.epoch ≤ 4000000) && decide (1 ≤ p.1.cycle) && decide (p.1.cycle ≤ 3000) && decide (65 ≤ p.1.months) && decide (p.1.months - 65 < monT.length)
theorem rowsOk : catT.zipIdx.all rowOk = true := by kernel_rfl
def monOk (l : List (List UInt8 × Int × Int)) : Bool := decide (1 ≤ l.length) && decide (l.length ≤ 20) && l.all fun q => decide (0 ≤ q.2.1) && decide (q.2.1 ≤ 400) && decide (0 ≤ q.2.2) && decide (q.2.2 ≤ 400)
theorem monsOk : monT.all monOk = true := by kernel_rfl
theorem evsOk : (catT.zipIdx.all fun p => (List.range p.1.cycle.toNat).all fun i => (evS ((i : Nat) + 1 : Int) (leapOf p.2)).isSome) = true := by kernel_rfl
theorem parsedAll (m : Int) : (catT.zipIdx.all fun p => chkParse m p.2 p.1) = true := by
  have h0 := parsed0 m
  have h1 := parsed1 m
  have h2 := parsed2 m
  have h3 := parsed3 m
  have hs : catT.zipIdx = ((catT.zipIdx).drop 0).take 10 ++ ((catT.zipIdx).drop 10).take 10 ++ ((catT.zipIdx).drop 20).take 10 ++ ((catT.zipIdx).drop 30).take 10 := by kernel_rfl
  rw [hs, List.all_append, List.all_append, List.all_append, h0, h1, h2, h3]
  rfl
variable {r : CatRow} {k : Nat}
theorem row_mem (h : (r, k) ∈ catT.zipIdx) : r ∈ catT := by
  have := List.mem_zipIdx h
  rw [this.2.2]
  exact List.getElem_mem _
theorem textP (h : r ∈ catT) : MeetsP Tryz.prog (glT m) 56 [.s r.name] (.tup [.s (textOf r), .i .i64 0]) :=
  evOP_ok (E := ET m) (et m) (xt m) (ekN m) (ekO m) (isOut_eq (List.all_eq_true.1 (texts m) r h))
theorem parseP (h : (r, k) ∈ catT.zipIdx) : MeetsP Tryz.prog (glT m) 57 [.s (textOf r)] (.tup [treeA k r, .i .i64 0, .i .i64 0]) :=
  evOP_ok (E := ET m) (et m) (xt m) (ekN m) (ekO m) (isOut_eq (List.all_eq_true.1 (parsedAll m) (r, k) h))
theorem nameOkP (h : r ∈ catT) : MeetsP Tryz.prog (glT m) 80 [.s r.name] (.b true) :=
  evOP_ok (E := ET m) (et m) (xt m) (ekN m) (ekO m) (isOut_eq (List.all_eq_true.1 (namesOk m) r h))
theorem rowOf (h : (r, k) ∈ catT.zipIdx) : (leapOf k).wf = true ∧ (leapOf k).size ≤ 60 ∧ (leapOf k).depth ≤ 12 ∧ -4000000 ≤ r.epoch ∧ r.epoch ≤ 4000000 ∧ 1 ≤ r.cycle ∧ r.cycle ≤ 3000 ∧ monOf r ∈ monT := by
  have h1 := List.all_eq_true.1 rowsOk (r, k) h
  simp only [rowOk, Bool.and_eq_true, decide_eq_true_eq] at h1
  obtain ⟨⟨⟨⟨⟨⟨⟨⟨a, b⟩, c⟩, d⟩, e⟩, f⟩, g⟩, i⟩, j⟩ := h1
  refine ⟨a, b, c, d, e, f, g, ?_⟩
  unfold monOf
  rw [List.getElem?_eq_getElem j]
  exact List.getElem_mem j
theorem monOf_ok (h : monOf r ∈ monT) : 1 ≤ (monOf r).length ∧ (monOf r).length ≤ 20 ∧ ∀ q ∈ monOf r, 0 ≤ q.2.1 ∧ q.2.1 ≤ 400 ∧ 0 ≤ q.2.2 ∧ q.2.2 ≤ 400 := by
  have h1 := List.all_eq_true.1 monsOk _ h
  simp only [monOk, Bool.and_eq_true, decide_eq_true_eq, List.all_eq_true] at h1
  exact ⟨h1.1.1, h1.1.2, fun q hq => ⟨(h1.2 q hq).1.1.1, (h1.2 q hq).1.1.2, (h1.2 q hq).1.2, (h1.2 q hq).2⟩⟩
theorem monsP (h : monOf r ∈ monT) : MeetsP Tryz.prog (glT m) 81 [monF (monOf r)] (.i .i64 0) :=
  evOP_ok (E := ET m) (et m) (xt m) (ekN m) (ekO m) (isOut_eq (List.all_eq_true.1 (monthsOkF m) _ h))
theorem MeetsP.narrow {P : Program} {gl : Nat → Option (List AV)} {f : FuncId} {a a' r : AV} (h : MeetsP P gl f [a] r) (hw : Wk a' a) : MeetsP P gl f [a'] r :=
  ⟨h.1, fun ok w vals h1 h2 h3 h4 => h.2 ok w vals h1 h2 h3 fun j v b e e' => by
    cases j with
    | zero => cases e'; exact hw ok w v (h4 0 v a' e rfl)
    | succ n => simp at e'⟩
theorem monsP' (h : monOf r ∈ monT) : MeetsP Tryz.prog (glT m) 81 [monA (monOf r)] (.i .i64 0) := (monsP h).narrow (Wk.isl _ _)
theorem evsOf (h : (r, k) ∈ catT.zipIdx) (y : Int) (h1 : 1 ≤ y) (h2 : y ≤ r.cycle) : ∃ v, evS y (leapOf k) = some v := by
  have a := List.all_eq_true.1 (List.all_eq_true.1 evsOk (r, k) h) (y.toNat - 1) (by simp; omega)
  have e : (((y.toNat - 1 : Nat) : Int) + 1) = y := by omega
  rw [e] at a
  exact Option.isSome_iff_exists.1 a
theorem leapsTo_mem {t : RExpr} {n : Nat} {y : Int} (h : y ∈ leapsTo t n) : 1 ≤ y ∧ y ≤ n := by
  unfold leapsTo at h
  obtain ⟨h1, -⟩ := List.mem_filter.1 h
  obtain ⟨i, hi, rfl⟩ := List.mem_map.1 h1
  have := List.mem_range.1 hi
  omega
theorem leapsTo_sorted (t : RExpr) : ∀ n, (leapsTo t n).Pairwise (· < ·)
  | 0 => by simp [leapsTo]
  | n + 1 => by
    rw [leapsTo_succ]
    split
    · rw [List.append_nil]; exact leapsTo_sorted t n
    · refine List.pairwise_append.2 ⟨leapsTo_sorted t n, by simp, fun a ha b hb => ?_⟩
      have := leapsTo_mem ha
      have := List.mem_singleton.1 hb
      omega
theorem calOk (h : (r, k) ∈ catT.zipIdx) : (calOf k r).Ok := by
  obtain ⟨a, b, c, d, e, f, g, i⟩ := rowOf h
  obtain ⟨j, l, o⟩ := monOf_ok i
  refine ⟨d, e, f, g, j, l, o, leapsTo_sorted _ _, fun y hy => ?_⟩
  have := leapsTo_mem hy
  show 1 ≤ y ∧ y ≤ r.cycle
  omega
theorem calGood (h : (r, k) ∈ catT.zipIdx) : (calOf k r).Good m :=
  ⟨calOk h, checkP _ (calOk h) (nameOkP (row_mem h)) (monsP (rowOf h).2.2.2.2.2.2.2)⟩
theorem compP (h : (r, k) ∈ catT.zipIdx) : MeetsP Tryz.prog (glT m) 58 [treeA k r] (.tup [(calOf k r).A, .i .i64 0]) := by
  obtain ⟨a, b, c, d, e, f, g, i⟩ := rowOf h
  obtain ⟨j, l, o⟩ := monOf_ok i
  refine (compileP (m := m) a b c d e f g (fun q => by rw [q] at j; simp at j) l (nameOkP (row_mem h)) (monsP' i) (evsOf h)).weaken ?_
  refine Wk.tup rfl (fun j a b h1 h2 => ?_)
  match j, h1, h2 with
  | 0, h1, h2 => cases h1; cases h2; exact Wk.cal _ _ _ _ _
  | 1, h1, h2 => cases h1; cases h2; exact .refl _
  | n + 2, h1, h2 => simp at h1
end Go.Proofs.YthahgmncnbeddaaGreatDoorA
/- The catalog's calendars, by the program. -/
set_option linter.unusedVariables false
set_option linter.unusedSimpArgs false
namespace Go.Proofs.YthahgmncnbeddaaGreatDoorA
open Go Go.RowKit Go.Proofs.YthahgmncnbeddaaGreatDoorFx Go.Proofs
attribute [local go_sem] List.take_succ_cons List.take_zero List.take_nil List.drop_succ_cons List.drop_nil List.cons_append List.nil_append List.set_cons_zero List.set_cons_succ
variable {m : Int} {r : CatRow} {k : Nat}
set_option maxRecDepth 100000 in
theorem calP (h : (r, k) ∈ catT.zipIdx) : MeetsP Tryz.prog (glT m) 37 [.s r.name] (.tup [(calOf k r).A, .i .i64 0]) := by
  have h1 := textP (m := m) (row_mem h)
  have h2 := parseP (m := m) h
  have h3 := compP (m := m) h
  obtain ⟨x1, x2, x3, x4, x5, x6, x7, hx, z1⟩ : ∃ x1 x2 x3 x4 x5 x6 x7, treeA k r = .agg [x1, x2, x3, x4, x5, x6, x7] ∧ ([x1, x2, x3, x4, x5, x6, x7].all fun a => one a && noid 11 a) = true := by
    unfold treeA monA
    cases (leapOf k) <;> exact ⟨_, _, _, _, _, _, _, rfl, rfl⟩
  simp only [List.all_cons, List.all_nil, Bool.and_true, Bool.and_eq_true] at z1
  obtain ⟨⟨p1, q1⟩, ⟨p2, q2⟩, ⟨p3, q3⟩, ⟨p4, q4⟩, ⟨p5, q5⟩, ⟨p6, q6⟩, p7, q7⟩ := z1
  have hno : ([AV.agg [x1, x2, x3, x4, x5, x6, x7]].all (noid 12)) = true := by simp only [List.all_cons, List.all_nil, noid_agg, Bool.and_true, *]
  obtain ⟨y1, y2, y3, y4, y5, hy, o1, o2, o3, o4, o5⟩ : ∃ y1 y2 y3 y4 y5, (calOf k r).A = .agg [y1, y2, y3, y4, y5] ∧ one y1 = true ∧ one y2 = true ∧ one y3 = true ∧ one y4 = true ∧ one y5 = true := ⟨_, _, _, _, _, rfl, rfl, rfl, rfl, rfl, rfl⟩
  have hf : ∀ h, fz h 12 (.tup [(calOf k r).A, .i .i64 0]) = .tup [(calOf k r).A, .i .i64 0] := fun h => rfl
  have hn2 : noid 12 (.tup [(calOf k r).A, .i .i64 0]) = true := rfl
  rw [hx] at h2 h3
  rw [hy] at h3 hf hn2 ⊢
  refine meetsP (E := (EW m)) 31 [.cell 2 71, .tmp 3] (ew m) Tryz.func37 rfl (by decide) rfl rfl (by simp) ?_
  repeat' first | ((with_reducible refine wr_isCall ?_); first | refine wr_P h1 rfl ?_ | refine wr_P h2 rfl ?_ | refine wr_P h3 hno ?_) | (with_reducible first | refine t_seq ?_ | refine t_skip ?_ | refine t_ret ?_ | refine t_end ?_ | refine t_cond ?_ | refine t_region ?_ | refine wr_done ?_ | refine WD.done _ ?_ | refine wdp_done ?_ | refine tr_some ?_ | refine t_inBlock ?_) | ((with_reducible refine t_isDraw ?_); refine t_draw rfl (by kernel_rfl) ?_) | ((fail_if_success with_reducible refine t_bl ?_); (with_reducible refine t_block ?_)) | ((with_reducible refine t_isExit ?_); refine t_exit rfl ?_) | simp only [decide_eq_true_eq, decide_eq_false_iff_not, Bool.not_eq_true', Bool.not_eq_false'] at * | simp (disch := omega) only [go_sem, Nat.reduceLT, Nat.reduceEqDiff, Nat.reduceAdd, Nat.reduceLeDiff, Nat.reduceMul, Int.reduceLT, Int.reduceLE, Int.reduceAdd, Int.reduceSub, Int.reduceNeg, Int.reduceToNat, Int.reduceBEq, Int.reduceEq, reduceCtorEq, ↓reduceIte, *] | (with_reducible first | refine tb_true ?_ | refine tb_false ?_) | ((with_reducible first | refine tb_split ?_ ?_ | refine wg_f ?_ ?_ | refine wg_t ?_ ?_ | refine wd_f ?_ ?_ | refine wd_t ?_ ?_) <;> intro _)
  exact ⟨hf _, hn2⟩
end Go.Proofs.YthahgmncnbeddaaGreatDoorA
/- name, cut, known; Date and Day of the catalog. -/
set_option linter.unusedVariables false
set_option linter.unusedSimpArgs false
namespace Go.Proofs.YthahgmncnbeddaaGreatDoorA
open Go Go.RowKit Go.Proofs.YthahgmncnbeddaaGreatDoorFx Go.Proofs
attribute [local go_sem] List.take_succ_cons List.take_zero List.take_nil List.drop_succ_cons List.drop_nil List.cons_append List.nil_append List.set_cons_zero List.set_cons_succ
variable {m : Int} {r : CatRow} {k : Nat}
theorem kmodP {a b : Int} (hb : 0 < b) (hb2 : b ≤ 1000000000000000) : MeetsP Tryz.prog (glT m) 18 [.i .i64 a, .i .i64 b] (.i .i64 (a % b)) := by
  have hm1 := Int.emod_nonneg a (show b ≠ 0 by omega)
  have hm2 := Int.emod_lt_of_pos a hb
  have hc := tmod_cases (a := a) hb
  have hz : ¬ b = 0 := by omega
  refine meetsP (E := (EW m)) 12 [.tmp 4] (ew m) Tryz.func18 rfl (by decide) rfl rfl (by simp) ?_
  repeat' first | (with_reducible first | refine t_seq ?_ | refine t_skip ?_ | refine t_ret ?_ | refine t_end ?_ | refine t_cond ?_ | refine t_region ?_ | refine wr_done ?_ | refine WD.done _ ?_ | refine wdp_done ?_ | refine tr_some ?_ | refine t_inBlock ?_) | ((with_reducible refine t_isDraw ?_); refine t_draw rfl (by kernel_rfl) ?_) | ((fail_if_success with_reducible refine t_bl ?_); (with_reducible refine t_block ?_)) | ((with_reducible refine t_isExit ?_); refine t_exit rfl ?_) | simp only [decide_eq_true_eq, decide_eq_false_iff_not, Bool.not_eq_true', Bool.not_eq_false'] at * | simp (disch := omega) only [go_sem, Nat.reduceLT, Nat.reduceEqDiff, Nat.reduceAdd, Nat.reduceLeDiff, Nat.reduceMul, Int.reduceLT, Int.reduceLE, Int.reduceAdd, Int.reduceSub, Int.reduceNeg, Int.reduceToNat, Int.reduceBEq, Int.reduceEq, reduceCtorEq, ↓reduceIte, *] | (with_reducible first | refine tb_true ?_ | refine tb_false ?_) | ((with_reducible first | refine tb_split ?_ ?_ | refine wg_f ?_ ?_ | refine wg_t ?_ ?_ | refine wd_f ?_ ?_ | refine wd_t ?_ ?_) <;> intro _)
  refine ⟨?_, rfl⟩
  simp only [fz]
  congr 1
  rcases hc with ⟨e1, e2, e3⟩ | ⟨e1, e2, e3, e4⟩
  · rw [e1, Int.tmod_eq_emod_of_nonneg (by omega), Int.add_emod_right, Int.emod_emod]
  · rw [e3, Int.sub_add_cancel, Int.tmod_eq_emod_of_nonneg (by omega), Int.emod_emod]
theorem kcutP {a lo n : Int} (hn : 0 < n) (hn2 : n ≤ 1000000000000000) (h1 : -1000000000000000 ≤ lo) (h2 : lo ≤ 1000000000000000) : MeetsP Tryz.prog (glT m) 12 [.i .i64 a, .i .i64 lo, .i .i64 n] (.i .i64 (lo + a % n)) := by
  have hm1 := Int.emod_nonneg a (show n ≠ 0 by omega)
  have hm2 := Int.emod_lt_of_pos a hn
  have hp := kmodP (m := m) (a := a) (b := n) hn (by omega)
  refine meetsP (E := (EW m)) 12 [.tmp 6] (ew m) Tryz.func12 rfl (by decide) rfl rfl (by simp) ?_
  repeat' first | ((with_reducible refine wr_isCall ?_); refine wr_P hp rfl ?_) | (with_reducible first | refine t_seq ?_ | refine t_skip ?_ | refine t_ret ?_ | refine t_end ?_ | refine t_cond ?_ | refine t_region ?_ | refine wr_done ?_ | refine WD.done _ ?_ | refine wdp_done ?_ | refine tr_some ?_ | refine t_inBlock ?_) | ((with_reducible refine t_isDraw ?_); refine t_draw rfl (by kernel_rfl) ?_) | ((fail_if_success with_reducible refine t_bl ?_); (with_reducible refine t_block ?_)) | ((with_reducible refine t_isExit ?_); refine t_exit rfl ?_) | simp only [decide_eq_true_eq, decide_eq_false_iff_not, Bool.not_eq_true', Bool.not_eq_false'] at * | simp (disch := omega) only [go_sem, Nat.reduceLT, Nat.reduceEqDiff, Nat.reduceAdd, Nat.reduceLeDiff, Nat.reduceMul, Int.reduceLT, Int.reduceLE, Int.reduceAdd, Int.reduceSub, Int.reduceNeg, Int.reduceToNat, Int.reduceBEq, Int.reduceEq, reduceCtorEq, ↓reduceIte, *] | (with_reducible first | refine tb_true ?_ | refine tb_false ?_) | ((with_reducible first | refine tb_split ?_ ?_ | refine wg_f ?_ ?_ | refine wg_t ?_ ?_ | refine wd_f ?_ ?_ | refine wd_t ?_ ?_) <;> intro _)
  exact ⟨rfl, rfl⟩
/-- The row that a number picks. -/
def pick (a : Int) : Nat := (a % 40).toNat
theorem pick_lt (a : Int) : pick a < catT.length := by
  show (a % 40).toNat < 40
  omega
def rowAt (a : Int) : CatRow := catT[pick a]'(pick_lt a)
/-- What FromDay finds. -/
structure Cal.At (c : Cal) (day y : Int) (mo : Nat) : Prop where
  far : chkDay day = 0
  y1 : -10000 ≤ y
  y2 : y ≤ 10000
  a : c.first y ≤ day
  b : day < c.first (y + 1)
  hmo : mo < c.ms.length
  r1 : c.bef y mo < day - c.first y + 1
  r2 : day - c.first y + 1 ≤ c.bef y (mo + 1)
theorem Cal.At.run {c : Cal} {day y : Int} {mo : Nat} (h : c.At day y mo) (hc : c.Good m) : MeetsP Tryz.prog (glT m) 38 [c.A, .i .i64 day] (resD (dateA y (mo + 1) (day - c.first y + 1 - c.bef y mo)) 0) :=
  fromDay_in hc h.far h.y1 h.y2 h.a h.b h.hmo h.r1 h.r2
/-- A day has a date, or none. -/
theorem Cal.Ok.at_or {c : Cal} (hc : c.Ok) (day : Int) : chkDay day = 3 ∨ (chkDay day = 0 ∧ (day < c.first (-10000) ∨ c.first 10001 ≤ day)) ∨ ∃ y mo, c.At day y mo := by
  by_cases h3 : chkDay day = 3
  · exact .inl h3
  have h0 : chkDay day = 0 := by unfold chkDay at h3 ⊢; split at h3 <;> simp_all
  by_cases hl : day < c.first (-10000)
  · exact .inr (.inl ⟨h0, .inl hl⟩)
  by_cases hr : c.first 10001 ≤ day
  · exact .inr (.inl ⟨h0, .inr hr⟩)
  refine .inr (.inr ?_)
  have hy : ∀ n : Nat, day < c.first (-10000 + n) → ∃ y : Int, -10000 ≤ y ∧ y < -10000 + n ∧ c.first y ≤ day ∧ day < c.first (y + 1) := by
    intro n
    induction n with
    | zero => intro h; exfalso; simp at h; omega
    | succ n ih =>
      intro h
      by_cases hn : day < c.first (-10000 + n)
      · obtain ⟨y, a, b, d, e⟩ := ih hn
        exact ⟨y, a, by omega, d, e⟩
      · exact ⟨-10000 + n, by omega, by omega, by omega, by rw [show (-10000 + (n : Int) + 1) = -10000 + ((n + 1 : Nat) : Int) by omega]; exact h⟩
  obtain ⟨y, a, b, d, e⟩ := hy 20001 (by simp; omega)
  have hb := c.bef_all y
  rw [hc.first_succ y] at e
  have hm : ∀ n : Nat, n ≤ c.ms.length → day - c.first y + 1 ≤ c.bef y n → ∃ mo, mo < n ∧ c.bef y mo < day - c.first y + 1 ∧ day - c.first y + 1 ≤ c.bef y (mo + 1) := by
    intro n
    induction n with
    | zero => intro _ h; exfalso; simp [Cal.bef] at h; omega
    | succ n ih =>
      intro hn h
      by_cases h' : day - c.first y + 1 ≤ c.bef y n
      · obtain ⟨mo, q1, q2, q3⟩ := ih (by omega) h'
        exact ⟨mo, by omega, q2, q3⟩
      · exact ⟨n, by omega, by omega, h⟩
  obtain ⟨mo, q1, q2, q3⟩ := hm c.ms.length (Nat.le_refl _) (by omega)
  exact ⟨y, mo, h0, a, by omega, d, by rw [hc.first_succ y]; exact e, q1, q2, q3⟩
end Go.Proofs.YthahgmncnbeddaaGreatDoorA
/- The calendar that a number picks; there and back. -/
set_option linter.unusedVariables false
set_option linter.unusedSimpArgs false
namespace Go.Proofs.YthahgmncnbeddaaGreatDoorA
open Go Go.RowKit Go.Proofs.YthahgmncnbeddaaGreatDoorFx Go.Proofs
variable {m : Int}
/-- What FromDay answers. -/
theorem fromDay_all {c : Cal} (hc : c.Good m) (day : Int) : MeetsP Tryz.prog (glT m) 38 [c.A, .i .i64 day] (resD (dateA 0 0 0) 3) ∨ ∃ y mo, c.At day y mo := by
  rcases hc.toOk.at_or day with h | ⟨h, ho⟩ | h
  · exact .inl (fromDay_far hc h)
  · exact .inl (fromDay_out hc h ho)
  · exact .inr h
end Go.Proofs.YthahgmncnbeddaaGreatDoorA
