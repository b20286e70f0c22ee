/- The calendar that a number picks; there and back. -/
import Derived.Test.YtkokongbnemkhaaGreatDoorPW15
set_option linter.unusedVariables false
set_option linter.unusedSimpArgs false
namespace Go.Proofs.YtkokongbnemkhaaGreatDoorA
open Go Go.RowKit Go.Proofs.YtkokongbnemkhaaGreatDoorFx Go.Proofs
variable {m : Int}
/-- The calendar that a number picks. -/
def calAt (a : Int) : Cal := calOf (pick a) (rowAt a)
theorem calAt_good (a : Int) : (calAt a).Good m := calGood (pick_mem a)
theorem calAtP (a : Int) : MeetsP Tryz.prog (glT m) 26 [.s (rowAt a).name] (.tup [(calAt a).A, .i .i64 0]) := calP (pick_mem a)
/-- What FromDay answers. -/
theorem fromDay_all {c : Cal} (hc : c.Good m) (day : Int) : MeetsP Tryz.prog (glT m) 27 [c.A, .i .i64 day] (resD (dateA 0 0 0) 3) ∨ ∃ y mo, c.At day y mo := by
  rcases hc.toOk.at_or day with h | ⟨h, ho⟩ | h
  · exact .inl (fromDay_far hc h)
  · exact .inl (fromDay_out hc h ho)
  · exact .inr h
theorem Cal.At.back {c : Cal} {day y : Int} {mo : Nat} (h : c.At day y mo) (hc : c.Good m) : MeetsP Tryz.prog (glT m) 37 [c.A, dateA y (mo + 1) (day - c.first y + 1 - c.bef y mo)] (resD (.i .i64 day) 0) := by
  have h1 := h.r1
  have h2 := h.r2
  rw [show c.bef y (mo + 1) = c.bef y mo + c.mlen y (mo + 1) from rfl] at h2
  have p := toDayP (m := m) hc (y := y) (d := day - c.first y + 1 - c.bef y mo) (mo := mo) h.y1 h.y2 h.hmo (by omega) (by omega)
  rw [show c.first y + (day - c.first y + 1 - c.bef y mo) - 1 + c.bef y mo = day by omega, if_pos h.far] at p
  exact p
theorem Cal.A_parts2 (c : Cal) : ∃ y1 y2 y3 y5 L, c.A = .agg [y1, y2, y3, .isl false 3 L, y5] ∧ L.length = c.ms.length ∧ (one y1 = true ∧ one y2 = true ∧ one y3 = true ∧ one y5 = true) ∧ [AV.agg [y1, y2, y3, .isl false 3 L, y5]].all (noid 12) = true ∧ (∀ a, [AV.agg [y1, y2, y3, .isl false 3 L, y5], a].all (noid 12) = noid 12 a) ∧ ∀ a b, [AV.agg [y1, y2, y3, .isl false 3 L, y5], a, b].all (noid 12) = (noid 12 a && noid 12 b) :=
  ⟨_, _, _, _, _, rfl, by simp, ⟨rfl, rfl, rfl, rfl⟩, rfl, fun a => by simp only [List.all_cons, List.all_nil, Bool.and_true]; exact Bool.true_and _, fun a b => by simp only [List.all_cons, List.all_nil, Bool.and_true]; exact Bool.true_and _⟩
end Go.Proofs.YtkokongbnemkhaaGreatDoorA
