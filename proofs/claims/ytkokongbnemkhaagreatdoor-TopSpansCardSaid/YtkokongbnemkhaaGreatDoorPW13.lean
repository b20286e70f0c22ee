/- The calendars of the catalog. -/
import Derived.Test.YtkokongbnemkhaaGreatDoorPW12
import Derived.Test.YtkokongbnemkhaaGreatDoorPK50
import Derived.Test.YtkokongbnemkhaaGreatDoorPK51
import Derived.Test.YtkokongbnemkhaaGreatDoorPK52
import Derived.Test.YtkokongbnemkhaaGreatDoorPK53
import Derived.Test.YtkokongbnemkhaaGreatDoorPK5t
import Derived.Test.YtkokongbnemkhaaGreatDoorPK6
set_option linter.unusedVariables false
set_option linter.unusedSimpArgs false
namespace Go.Proofs.YtkokongbnemkhaaGreatDoorA
open Go Go.RowKit Go.Proofs.YtkokongbnemkhaaGreatDoorFx Go.Proofs
variable {m : Int}
/-- What reads as a reads as b. -/
def Wk (a b : AV) : Prop := ∀ (ok : Okc) (w : World) (v : Value), Rep ok w G0 v a → Rep ok w G0 v b
theorem Wk.refl (a : AV) : Wk a a := fun _ _ _ r => r
theorem MeetsP.weaken {P : Program} {gl : Nat → Option (List AV)} {f : FuncId} {args : List AV} {r r' : AV} (h : MeetsP P gl f args r) (hw : Wk r r') : MeetsP P gl f args r' :=
  ⟨h.1, fun ok w vals h1 h2 h3 h4 => (h.2 ok w vals h1 h2 h3 h4).mono fun e w' ⟨v, ok', h5, h6, h7, h8, h9, h10⟩ => ⟨v, ok', h5, h6, h7, h8, h9, hw ok' w' v h10⟩⟩
theorem Wk.isl (k : Nat) (rows : List (List AV)) : Wk (.isl true k rows) (.isl false k rows) := fun ok w v r => by
  cases r with
  | isl _ nn k rows n bb o cap vs q1 q2 q3 q4 q5 => exact .isl _ false k rows n bb o cap vs q1 q2 q3 q4 q5
theorem Wk.nils (k : Nat) : Wk .nils (.isl false k []) := fun ok w v r => by
  cases r with
  | nils => exact .isln _ k
theorem Wk.agg {xs ys : List AV} (hl : xs.length = ys.length) (h : ∀ (j : Nat) a b, xs[j]? = some a → ys[j]? = some b → Wk a b) : Wk (.agg xs) (.agg ys) := fun ok w v r => by
  cases r with
  | agg _ vs _ l q =>
    refine .agg _ vs ys (l.trans hl) (fun j v b e e' => ?_)
    have hj : j < xs.length := by have := (List.getElem?_eq_some_iff.1 e').1; omega
    exact h j xs[j] b (List.getElem?_eq_getElem hj) e' ok w v (q j v _ e (List.getElem?_eq_getElem hj))
theorem Wk.tup {xs ys : List AV} (hl : xs.length = ys.length) (h : ∀ (j : Nat) a b, xs[j]? = some a → ys[j]? = some b → Wk a b) : Wk (.tup xs) (.tup ys) := fun ok w v r => by
  cases r with
  | tup _ vs _ l q =>
    refine .tup _ vs ys (l.trans hl) (fun j v b e e' => ?_)
    have hj : j < xs.length := by have := (List.getElem?_eq_some_iff.1 e').1; omega
    exact h j xs[j] b (List.getElem?_eq_getElem hj) e' ok w v (q j v _ e (List.getElem?_eq_getElem hj))
theorem Wk.cal (nm : List UInt8) (ep cy : Int) (ms : List (List UInt8 × Int × Int)) (l : List Int) : Wk (calOut nm ep cy ms l) (Cal.A ⟨nm, ep, cy, ms, l⟩) := by
  refine Wk.agg rfl (fun j a b h1 h2 => ?_)
  match j, h1, h2 with
  | 0, h1, h2 => cases h1; cases h2; exact .refl _
  | 1, h1, h2 => cases h1; cases h2; exact .refl _
  | 2, h1, h2 => cases h1; cases h2; exact .refl _
  | 3, h1, h2 => cases h1; cases h2; exact Wk.isl _ _
  | 4, h1, h2 =>
    cases h1; cases h2
    by_cases h : l = []
    · rw [if_pos h, h]; exact Wk.nils 1
    · rw [if_neg h]; exact Wk.isl _ _
  | n + 5, h1, h2 => simp at h1
/-- A calendar of the catalog. -/
def calOf (k : Nat) (r : CatRow) : Cal := ⟨r.name, r.epoch, r.cycle, monOf r, leapsTo (leapOf k) r.cycle.toNat⟩
set_option maxRecDepth 10000000
/-- What is asked of a row, plainly. -/
def rowOk (p : CatRow × Nat) : Bool :=
  (leapOf p.2).wf && decide ((leapOf p.2).size ≤ 60) && decide ((leapOf p.2).depth ≤ 12) && decide (-4000000 ≤ p.1.epoch) && decide (p.1.epoch ≤ 4000000) && decide (1 ≤ p.1.cycle) && decide (p.1.cycle ≤ 3000) && decide (65 ≤ p.1.months) && decide (p.1.months - 65 < monT.length)
theorem rowsOk : catT.zipIdx.all rowOk = true := by kernel_rfl
def monOk (l : List (List UInt8 × Int × Int)) : Bool := decide (1 ≤ l.length) && decide (l.length ≤ 20) && l.all fun q => decide (0 ≤ q.2.1) && decide (q.2.1 ≤ 400) && decide (0 ≤ q.2.2) && decide (q.2.2 ≤ 400)
theorem monsOk : monT.all monOk = true := by kernel_rfl
theorem evsOk : (catT.zipIdx.all fun p => (List.range p.1.cycle.toNat).all fun i => (evS ((i : Nat) + 1 : Int) (leapOf p.2)).isSome) = true := by kernel_rfl
theorem parsedAll (m : Int) : (catT.zipIdx.all fun p => chkParse m p.2 p.1) = true := by
  have h0 := parsed0 m
  have h1 := parsed1 m
  have h2 := parsed2 m
  have h3 := parsed3 m
  have hs : catT.zipIdx = ((catT.zipIdx).drop 0).take 10 ++ ((catT.zipIdx).drop 10).take 10 ++ ((catT.zipIdx).drop 20).take 10 ++ ((catT.zipIdx).drop 30).take 10 := by kernel_rfl
  rw [hs, List.all_append, List.all_append, List.all_append, h0, h1, h2, h3]
  rfl
variable {r : CatRow} {k : Nat}
theorem row_mem (h : (r, k) ∈ catT.zipIdx) : r ∈ catT := by
  have := List.mem_zipIdx h
  rw [this.2.2]
  exact List.getElem_mem _
theorem textP (h : r ∈ catT) : MeetsP Tryz.prog (glT m) 47 [.s r.name] (.tup [.s (textOf r), .i .i64 0]) :=
  evOP_ok (E := ET m) (et m) (xt m) (ekN m) (ekO m) (isOut_eq (List.all_eq_true.1 (texts m) r h))
theorem parseP (h : (r, k) ∈ catT.zipIdx) : MeetsP Tryz.prog (glT m) 48 [.s (textOf r)] (.tup [treeA k r, .i .i64 0, .i .i64 0]) :=
  evOP_ok (E := ET m) (et m) (xt m) (ekN m) (ekO m) (isOut_eq (List.all_eq_true.1 (parsedAll m) (r, k) h))
theorem nameOkP (h : r ∈ catT) : MeetsP Tryz.prog (glT m) 55 [.s r.name] (.b true) :=
  evOP_ok (E := ET m) (et m) (xt m) (ekN m) (ekO m) (isOut_eq (List.all_eq_true.1 (namesOk m) r h))
theorem rowOf (h : (r, k) ∈ catT.zipIdx) : (leapOf k).wf = true ∧ (leapOf k).size ≤ 60 ∧ (leapOf k).depth ≤ 12 ∧ -4000000 ≤ r.epoch ∧ r.epoch ≤ 4000000 ∧ 1 ≤ r.cycle ∧ r.cycle ≤ 3000 ∧ monOf r ∈ monT := by
  have h1 := List.all_eq_true.1 rowsOk (r, k) h
  simp only [rowOk, Bool.and_eq_true, decide_eq_true_eq] at h1
  obtain ⟨⟨⟨⟨⟨⟨⟨⟨a, b⟩, c⟩, d⟩, e⟩, f⟩, g⟩, i⟩, j⟩ := h1
  refine ⟨a, b, c, d, e, f, g, ?_⟩
  unfold monOf
  rw [List.getElem?_eq_getElem j]
  exact List.getElem_mem j
theorem monOf_ok (h : monOf r ∈ monT) : 1 ≤ (monOf r).length ∧ (monOf r).length ≤ 20 ∧ ∀ q ∈ monOf r, 0 ≤ q.2.1 ∧ q.2.1 ≤ 400 ∧ 0 ≤ q.2.2 ∧ q.2.2 ≤ 400 := by
  have h1 := List.all_eq_true.1 monsOk _ h
  simp only [monOk, Bool.and_eq_true, decide_eq_true_eq, List.all_eq_true] at h1
  exact ⟨h1.1.1, h1.1.2, fun q hq => ⟨(h1.2 q hq).1.1.1, (h1.2 q hq).1.1.2, (h1.2 q hq).1.2, (h1.2 q hq).2⟩⟩
theorem monsP (h : monOf r ∈ monT) : MeetsP Tryz.prog (glT m) 76 [monF (monOf r)] (.i .i64 0) :=
  evOP_ok (E := ET m) (et m) (xt m) (ekN m) (ekO m) (isOut_eq (List.all_eq_true.1 (monthsOkF m) _ h))
theorem MeetsP.narrow {P : Program} {gl : Nat → Option (List AV)} {f : FuncId} {a a' r : AV} (h : MeetsP P gl f [a] r) (hw : Wk a' a) : MeetsP P gl f [a'] r :=
  ⟨h.1, fun ok w vals h1 h2 h3 h4 => h.2 ok w vals h1 h2 h3 fun j v b e e' => by
    cases j with
    | zero => cases e'; exact hw ok w v (h4 0 v a' e rfl)
    | succ n => simp at e'⟩
theorem monsP' (h : monOf r ∈ monT) : MeetsP Tryz.prog (glT m) 76 [monA (monOf r)] (.i .i64 0) := (monsP h).narrow (Wk.isl _ _)
theorem evsOf (h : (r, k) ∈ catT.zipIdx) (y : Int) (h1 : 1 ≤ y) (h2 : y ≤ r.cycle) : ∃ v, evS y (leapOf k) = some v := by
  have a := List.all_eq_true.1 (List.all_eq_true.1 evsOk (r, k) h) (y.toNat - 1) (by simp; omega)
  have e : (((y.toNat - 1 : Nat) : Int) + 1) = y := by omega
  rw [e] at a
  exact Option.isSome_iff_exists.1 a
theorem leapsTo_mem {t : RExpr} {n : Nat} {y : Int} (h : y ∈ leapsTo t n) : 1 ≤ y ∧ y ≤ n := by
  unfold leapsTo at h
  obtain ⟨h1, -⟩ := List.mem_filter.1 h
  obtain ⟨i, hi, rfl⟩ := List.mem_map.1 h1
  have := List.mem_range.1 hi
  omega
theorem leapsTo_sorted (t : RExpr) : ∀ n, (leapsTo t n).Pairwise (· < ·)
  | 0 => by simp [leapsTo]
  | n + 1 => by
    rw [leapsTo_succ]
    split
    · rw [List.append_nil]; exact leapsTo_sorted t n
    · refine List.pairwise_append.2 ⟨leapsTo_sorted t n, by simp, fun a ha b hb => ?_⟩
      have := leapsTo_mem ha
      have := List.mem_singleton.1 hb
      omega
theorem calOk (h : (r, k) ∈ catT.zipIdx) : (calOf k r).Ok := by
  obtain ⟨a, b, c, d, e, f, g, i⟩ := rowOf h
  obtain ⟨j, l, o⟩ := monOf_ok i
  refine ⟨d, e, f, g, j, l, o, leapsTo_sorted _ _, fun y hy => ?_⟩
  have := leapsTo_mem hy
  show 1 ≤ y ∧ y ≤ r.cycle
  omega
theorem calGood (h : (r, k) ∈ catT.zipIdx) : (calOf k r).Good m :=
  ⟨calOk h, checkP _ (calOk h) (nameOkP (row_mem h)) (monsP (rowOf h).2.2.2.2.2.2.2)⟩
theorem compP (h : (r, k) ∈ catT.zipIdx) : MeetsP Tryz.prog (glT m) 49 [treeA k r] (.tup [(calOf k r).A, .i .i64 0]) := by
  obtain ⟨a, b, c, d, e, f, g, i⟩ := rowOf h
  obtain ⟨j, l, o⟩ := monOf_ok i
  refine (compileP (m := m) a b c d e f g (fun q => by rw [q] at j; simp at j) l (nameOkP (row_mem h)) (monsP' i) (evsOf h)).weaken ?_
  refine Wk.tup rfl (fun j a b h1 h2 => ?_)
  match j, h1, h2 with
  | 0, h1, h2 => cases h1; cases h2; exact Wk.cal _ _ _ _ _
  | 1, h1, h2 => cases h1; cases h2; exact .refl _
  | n + 2, h1, h2 => simp at h1
end Go.Proofs.YtkokongbnemkhaaGreatDoorA
