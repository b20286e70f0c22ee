/- Months that follow each other: plain laws of arith.Later. -/
import Derived.Test.YtkokongbnemkhaaGreatDoorNA
set_option linter.unusedVariables false
set_option linter.unusedSimpArgs false
namespace Go.Proofs.YtkokongbnemkhaaGreatDoorA
open Go Go.RowKit Go.Proofs
variable {c : Cal}
def badY (y : Int) : Bool := decide (y < -10000) || decide (10000 < y)
theorem badY_f {y : Int} : badY y = false ↔ -10000 ≤ y ∧ y ≤ 10000 := by simp [badY]
theorem badY_t {y : Int} : badY y = true ↔ y < -10000 ∨ 10000 < y := by simp [badY]
/-- The month behind a month: year and month, the first month is 1. -/
def Cal.turn (c : Cal) (p : Int × Nat) : Int × Nat := if p.2 < c.ms.length then (p.1, p.2 + 1) else (p.1 + 1, 1)
/-- Months without days are passed. -/
def Cal.skip (c : Cal) (p : Int × Nat) : Int × Nat :=
  if h : badY p.1 = true ∨ c.mlen p.1 p.2 ≠ 0 then p else c.skip (c.turn p)
termination_by ((10001 - p.1).toNat, c.ms.length - p.2)
decreasing_by
  simp only [not_or, Bool.not_eq_true, badY_f] at h
  unfold Cal.turn
  split
  · exact Prod.Lex.right _ (by simp only; omega)
  · exact Prod.Lex.left _ _ (by simp only; omega)
theorem Cal.skip_stop {p : Int × Nat} (h : badY p.1 = true ∨ c.mlen p.1 p.2 ≠ 0) : c.skip p = p := by rw [Cal.skip, dif_pos h]
theorem Cal.skip_go {p : Int × Nat} (h1 : badY p.1 = false) (h2 : c.mlen p.1 p.2 = 0) : c.skip p = c.skip (c.turn p) := by
  rw [Cal.skip, dif_neg (by simp [h1, h2])]
theorem Cal.turn_ok {p : Int × Nat} (hl : 1 ≤ c.ms.length) : 1 ≤ (c.turn p).2 ∧ (p.2 ≤ c.ms.length → (c.turn p).2 ≤ c.ms.length) := by
  unfold Cal.turn; split
  · exact ⟨by simp only; omega, fun _ => by simp only; omega⟩
  · exact ⟨by simp only; omega, fun _ => by simp only; omega⟩
/-- Where the passing ends. -/
theorem Cal.skip_end (hl : 1 ≤ c.ms.length) : ∀ (p : Int × Nat), 1 ≤ p.2 → p.2 ≤ c.ms.length → (1 ≤ (c.skip p).2 ∧ (c.skip p).2 ≤ c.ms.length ∧ p.1 ≤ (c.skip p).1 ∧ (c.skip p).1 ≤ max p.1 10001) ∧ (badY (c.skip p).1 = true ∨ c.mlen (c.skip p).1 (c.skip p).2 ≠ 0) := by
  intro p
  induction p using Cal.skip.induct (c := c) with
  | case1 p h => intro h1 h2; rw [Cal.skip_stop h]; exact ⟨⟨h1, h2, by omega, by omega⟩, h⟩
  | case2 p h ih =>
    intro h1 h2
    simp only [not_or, Bool.not_eq_true, ne_eq, Decidable.not_not] at h
    rw [Cal.skip_go h.1 h.2]
    have ht := Cal.turn_ok (c := c) (p := p) hl
    obtain ⟨⟨i1, i2, i3, i4⟩, i5⟩ := ih ht.1 (ht.2 h2)
    have hb := badY_f.1 h.1
    have hy : p.1 ≤ (c.turn p).1 ∧ (c.turn p).1 ≤ p.1 + 1 := by unfold Cal.turn; split <;> simp only <;> omega
    exact ⟨⟨i1, i2, by omega, by omega⟩, i5⟩
/-- One month on. -/
def Cal.stepM (c : Cal) (p : Int × Nat) : Int × Nat := if badY p.1 = true then p else c.skip (c.turn p)
def Cal.walkM (c : Cal) (p : Int × Nat) : Nat → Int × Nat
  | 0 => p
  | n + 1 => c.stepM (c.walkM p n)
theorem Cal.stepM_ok (hl : 1 ≤ c.ms.length) {p : Int × Nat} (h1 : 1 ≤ p.2) (h2 : p.2 ≤ c.ms.length) : 1 ≤ (c.stepM p).2 ∧ (c.stepM p).2 ≤ c.ms.length ∧ p.1 ≤ (c.stepM p).1 ∧ (c.stepM p).1 ≤ max p.1 10001 ∧ (badY p.1 = true ∨ c.mlen p.1 p.2 ≠ 0 → badY (c.stepM p).1 = true ∨ c.mlen (c.stepM p).1 (c.stepM p).2 ≠ 0) := by
  unfold Cal.stepM
  split
  · rename_i h; exact ⟨h1, h2, by omega, by omega, fun _ => .inl h⟩
  · rename_i h
    have hb := badY_f.1 (by simpa using h)
    have ht := Cal.turn_ok (c := c) (p := p) hl
    obtain ⟨⟨i1, i2, i3, i4⟩, i5⟩ := Cal.skip_end hl (c.turn p) ht.1 (ht.2 h2)
    have hy : p.1 ≤ (c.turn p).1 ∧ (c.turn p).1 ≤ p.1 + 1 := by unfold Cal.turn; split <;> simp only <;> omega
    exact ⟨i1, i2, by omega, by omega, fun _ => i5⟩
theorem Cal.walkM_ok (hl : 1 ≤ c.ms.length) {p : Int × Nat} (h1 : 1 ≤ p.2) (h2 : p.2 ≤ c.ms.length) (h3 : badY p.1 = true ∨ c.mlen p.1 p.2 ≠ 0) : ∀ n, 1 ≤ (c.walkM p n).2 ∧ (c.walkM p n).2 ≤ c.ms.length ∧ p.1 ≤ (c.walkM p n).1 ∧ (c.walkM p n).1 ≤ max p.1 10001 ∧ (badY (c.walkM p n).1 = true ∨ c.mlen (c.walkM p n).1 (c.walkM p n).2 ≠ 0)
  | 0 => ⟨h1, h2, Int.le_refl _, by simp only [Cal.walkM]; omega, h3⟩
  | n + 1 => by
    obtain ⟨i1, i2, i3, i4, i5⟩ := Cal.walkM_ok hl h1 h2 h3 n
    obtain ⟨j1, j2, j3, j4, j5⟩ := Cal.stepM_ok hl i1 i2
    exact ⟨j1, j2, by show p.1 ≤ (c.stepM (c.walkM p n)).1; omega, by show (c.stepM (c.walkM p n)).1 ≤ _; omega, j5 i5⟩
theorem Cal.walkM_bad {p : Int × Nat} {n : Nat} (h : badY (c.walkM p n).1 = true) : ∀ k, c.walkM p (n + k) = c.walkM p n
  | 0 => rfl
  | k + 1 => by show c.stepM (c.walkM p (n + k)) = _; rw [Cal.walkM_bad h k]; unfold Cal.stepM; rw [if_pos h]
/-- Months without days are passed up to the next one with days. -/
theorem Cal.skip_to {y : Int} (hy : badY y = false) : ∀ (n j : Nat), (∀ i, j ≤ i → i < j + n → c.mlen y (i + 1) = 0) → j + n < c.ms.length → c.skip (y, j + 1) = c.skip (y, j + n + 1)
  | 0, j, _, _ => rfl
  | n + 1, j, h, hl => by
    rw [Cal.skip_go (p := (y, j + 1)) hy (h j (Nat.le_refl _) (by omega))]
    have e : c.turn (y, j + 1) = (y, j + 1 + 1) := by unfold Cal.turn; rw [if_pos (by simp only; omega)]
    rw [e, Cal.skip_to hy n (j + 1) (fun i h1 h2 => h i (by omega) (by omega)) (by omega), show j + 1 + n + 1 = j + (n + 1) + 1 by omega]
theorem Cal.skip_over {y : Int} (hy : badY y = false) : ∀ (n j : Nat), j + n + 1 = c.ms.length → (∀ i, j ≤ i → i < c.ms.length → c.mlen y (i + 1) = 0) → c.skip (y, j + 1) = c.skip (y + 1, 1)
  | 0, j, hl, h => by
    rw [Cal.skip_go (p := (y, j + 1)) hy (h j (Nat.le_refl _) (by omega))]
    have e : c.turn (y, j + 1) = (y + 1, 1) := by unfold Cal.turn; rw [if_neg (by simp only; omega)]
    rw [e]
  | n + 1, j, hl, h => by
    rw [Cal.skip_go (p := (y, j + 1)) hy (h j (Nat.le_refl _) (by omega))]
    have e : c.turn (y, j + 1) = (y, j + 1 + 1) := by unfold Cal.turn; rw [if_pos (by simp only; omega)]
    rw [e, Cal.skip_over hy n (j + 1) (by omega) (fun i h1 h2 => h i (by omega) h2)]
/-- The month in which the day behind a month's last one lies. -/
theorem Cal.At.stepM (hc : c.Ok) (hpos : ∀ y, 0 < c.ylen y) {day y y' : Int} {mo mo' : Nat} (h : c.At day y mo) (hn : ¬ day - c.first y + 1 - c.bef y mo < c.mlen y (mo + 1)) (h' : c.At (day + 1) y' mo') : c.stepM (y, mo + 1) = (y', mo' + 1) := by
  obtain ⟨e1, h1⟩ := h.next hc hpos hn h'
  have hm := h.hmo
  have hm' := h'.hmo
  have hb : badY y = false := badY_f.2 ⟨h.y1, h.y2⟩
  have hb' : badY y' = false := badY_f.2 ⟨h'.y1, h'.y2⟩
  have r1 := h'.r1
  have r2 := h'.r2
  have e2 : c.bef y' (mo' + 1) = c.bef y' mo' + c.mlen y' (mo' + 1) := rfl
  have hz' : c.mlen y' (mo' + 1) ≠ 0 := by omega
  have hbf : ∀ j, j < mo' → y' = y + 1 → c.mlen y' (j + 1) = 0 := fun j hj hy => by
    subst hy
    have a1 : c.bef (y + 1) (j + 1) = c.bef (y + 1) j + c.mlen (y + 1) (j + 1) := rfl
    have a2 := hc.bef_mono (y + 1) (show j + 1 ≤ mo' from hj)
    have a3 := (hc.bef_bounds (y + 1) j).1
    have a4 := (hc.mlen_bounds (y + 1) (j + 1)).1
    have a5 := hc.first_succ y
    have a6 := h.r2
    have a7 : c.bef y (mo + 1) = c.bef y mo + c.mlen y (mo + 1) := rfl
    have a8 := hc.bef_mono y (show mo + 1 ≤ c.ms.length from hm)
    have a9 := c.bef_all y
    omega
  unfold Cal.stepM
  rw [if_neg (by simp [hb])]
  rcases h1 with ⟨rfl, hlt, hz⟩ | ⟨rfl, hz⟩
  · have e : c.turn (y', mo + 1) = (y', mo + 1 + 1) := by unfold Cal.turn; rw [if_pos (by simp only; omega)]
    rw [e, Cal.skip_to hb (mo' - (mo + 1)) (mo + 1) (fun i a b => hz i a (by omega)) (by omega), show mo + 1 + (mo' - (mo + 1)) + 1 = mo' + 1 by omega]
    exact Cal.skip_stop (.inr hz')
  · have e3 : c.skip (y + 1, 1) = (y + 1, mo' + 1) := by
      have := Cal.skip_to (c := c) hb' mo' 0 (fun i a b => hbf i (by omega) rfl) (by omega)
      rw [Nat.zero_add, Nat.zero_add] at this
      rw [this]
      exact Cal.skip_stop (.inr hz')
    by_cases hq : mo + 1 < c.ms.length
    · have e : c.turn (y, mo + 1) = (y, mo + 1 + 1) := by unfold Cal.turn; rw [if_pos (by simp only; omega)]
      rw [e, Cal.skip_over hb (c.ms.length - (mo + 1) - 1) (mo + 1) (by omega) hz, e3]
    · have e : c.turn (y, mo + 1) = (y + 1, 1) := by unfold Cal.turn; rw [if_neg (by simp only; omega)]
      rw [e, e3]
end Go.Proofs.YtkokongbnemkhaaGreatDoorA
