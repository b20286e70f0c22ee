/- What follows a day: plain laws of a calendar. -/
import Derived.Test.YtdkifonomakcbaaGreatDoorPW16
set_option linter.unusedVariables false
set_option linter.unusedSimpArgs false
namespace Go.Proofs.YtdkifonomakcbaaGreatDoorA
open Go Go.RowKit Go.Proofs
variable {c : Cal}
/-- A day within a month that is not its last: the next day is in the month, too. -/
theorem Cal.At.stay (hc : c.Ok) {day y : Int} {mo : Nat} (h : c.At day y mo) (hn : day - c.first y + 1 - c.bef y mo < c.mlen y (mo + 1)) (hf : chkDay (day + 1) = 0) : c.At (day + 1) y mo := by
  have h2 : c.bef y (mo + 1) = c.bef y mo + c.mlen y (mo + 1) := rfl
  have h3 := hc.bef_mono y (show mo + 1 ≤ c.ms.length from h.hmo)
  have h4 := hc.first_succ y
  have h5 := c.bef_all y
  have := h.r1
  have := h.a
  exact ⟨hf, h.y1, h.y2, by omega, by omega, h.hmo, by omega, by omega⟩
/-- Behind the last day of a month. -/
theorem Cal.At.next (hc : c.Ok) (hpos : ∀ y, 0 < c.ylen y) {day y y' : Int} {mo mo' : Nat} (h : c.At day y mo) (hn : ¬ day - c.first y + 1 - c.bef y mo < c.mlen y (mo + 1)) (h' : c.At (day + 1) y' mo') :
    day + 1 - c.first y' + 1 - c.bef y' mo' = 1 ∧ ((y' = y ∧ mo < mo' ∧ ∀ j : Nat, mo + 1 ≤ j → j < mo' → c.mlen y (j + 1) = 0) ∨ (y' = y + 1 ∧ ∀ j : Nat, mo + 1 ≤ j → j < c.ms.length → c.mlen y (j + 1) = 0)) := by
  have h2 : c.bef y (mo + 1) = c.bef y mo + c.mlen y (mo + 1) := rfl
  have h3 := hc.bef_mono y (show mo + 1 ≤ c.ms.length from h.hmo)
  have h4 := hc.first_succ y
  have h5 := c.bef_all y
  have r1 := h.r1
  have r2 := h.r2
  have a := h.a
  have b := h.b
  have a' := h'.a
  have b' := h'.b
  have r1' := h'.r1
  have r2' := h'.r2
  have hzero : ∀ (n j : Nat), mo + 1 ≤ j → j < n → c.bef y n ≤ c.bef y (mo + 1) → c.mlen y (j + 1) = 0 := fun n j h1 h2 h3 => by
    have e1 : c.bef y (j + 1) = c.bef y j + c.mlen y (j + 1) := rfl
    have e2 := hc.bef_mono y h1
    have e3 := hc.bef_mono y (show j + 1 ≤ n from h2)
    have e4 := (hc.mlen_bounds y (j + 1)).1
    omega
  have hge : y ≤ y' := by
    rcases Int.lt_or_le y' y with q | q
    · have := hc.first_mono (show y' + 1 ≤ y from q)
      omega
    · exact q
  rcases Int.lt_or_le y y' with q | q
  · have e1 := hc.first_mono (show y + 1 ≤ y' from q)
    have e0 : y' = y + 1 := by
      rcases Int.lt_or_le (y + 1) y' with q2 | q2
      · have e2 := hc.first_mono (show y + 1 + 1 ≤ y' from q2)
        have e3 := hc.first_succ (y + 1)
        have e4 := hpos (y + 1)
        omega
      · omega
    subst e0
    have e2 := (hc.bef_bounds (y + 1) mo').1
    exact ⟨by omega, .inr ⟨rfl, fun j h1 h2 => hzero _ j h1 h2 (by omega)⟩⟩
  · have e0 : y' = y := by omega
    subst e0
    have hlt : mo < mo' := by
      rcases Nat.lt_or_ge mo mo' with q2 | q2
      · exact q2
      · have := hc.bef_mono y' (show mo' + 1 ≤ mo + 1 by omega)
        omega
    have e1 := hc.bef_mono y' (show mo + 1 ≤ mo' from hlt)
    exact ⟨by omega, .inl ⟨rfl, hlt, fun j h1 h2 => hzero _ j h1 h2 (by omega)⟩⟩
set_option maxRecDepth 10000000
theorem yearsPos : (catT.zipIdx.all fun p => decide (0 < sumS (calOf p.2 p.1).ms) && decide (0 < sumL (calOf p.2 p.1).ms) && decide (1400000 ≤ (calOf p.2 p.1).first 10001) && decide ((calOf p.2 p.1).first (-10000) ≤ -1500000)) = true := by kernel_rfl
theorem ylen_pos {r : CatRow} {k : Nat} (h : (r, k) ∈ catT.zipIdx) (y : Int) : 0 < (calOf k r).ylen y := by
  have h1 := List.all_eq_true.1 yearsPos (r, k) h
  simp only [Bool.and_eq_true, decide_eq_true_eq] at h1
  unfold Cal.ylen
  split
  · exact h1.1.1.2
  · exact h1.1.1.1
theorem first_far {r : CatRow} {k : Nat} (h : (r, k) ∈ catT.zipIdx) : 1400000 ≤ (calOf k r).first 10001 ∧ (calOf k r).first (-10000) ≤ -1500000 := by
  have h1 := List.all_eq_true.1 yearsPos (r, k) h
  simp only [Bool.and_eq_true, decide_eq_true_eq] at h1
  exact ⟨h1.1.2, h1.2⟩
end Go.Proofs.YtdkifonomakcbaaGreatDoorA
