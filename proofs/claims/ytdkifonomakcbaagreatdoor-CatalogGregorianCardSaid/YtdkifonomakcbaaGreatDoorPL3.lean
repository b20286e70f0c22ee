/- The calendar gregorian of the catalog counts as package line does. -/
import Derived.Test.YtdkifonomakcbaaGreatDoorPL2
set_option linter.unusedVariables false
set_option linter.unusedSimpArgs false
namespace Go.Proofs.YtdkifonomakcbaaGreatDoorA
open Go Go.RowKit Go.Proofs
def lp (y : Int) : Int := if y % 4 = 0 then (if y % 100 = 0 then (if y % 400 = 0 then 1 else 0) else 1) else 0
def bg (y : Int) : Int := 365 * (y - 1) + (y - 1) / 4 - (y - 1) / 100 + (y - 1) / 400
theorem bg_succ (y : Int) : bg (y + 1) = bg y + 365 + lp y := by
  unfold bg lp
  split <;> (try split) <;> (try split) <;> omega
def len (y m : Int) : Int := if m = 2 then 28 + lp y else if m = 4 then 30 else if m = 6 then 30 else if m = 9 then 30 else if m = 11 then 30 else 31
def gregRow : CatRow := catT[0]'(by decide)
def greg : Cal := calOf 0 gregRow
set_option maxRecDepth 10000000
theorem gregIn : (gregRow, 0) ∈ catT.zipIdx := by
  rw [List.mem_zipIdx_iff_getElem?]; rfl
theorem gregLeap : ((List.range 400).all fun i => decide (((i : Nat) : Int) + 1 ∈ greg.ls) == decide (lp ((i : Nat) + 1 : Int) = 1)) = true := by kernel_rfl
theorem lp_mod (y : Int) : lp y = lp ((y - 1) % 400 + 1) := by
  unfold lp
  have h4 : ((y - 1) % 400 + 1) % 4 = y % 4 := by omega
  have h100 : ((y - 1) % 400 + 1) % 100 = y % 100 := by omega
  have h400 : ((y - 1) % 400 + 1) % 400 = y % 400 := by omega
  rw [h4, h100, h400]
theorem greg_leap (y : Int) : greg.leap y = decide (lp y = 1) := by
  have h := List.all_eq_true.1 gregLeap ((y - 1) % 400).toNat (by simp; omega)
  have e : ((((y - 1) % 400).toNat : Nat) : Int) = (y - 1) % 400 := by omega
  simp only [e, beq_iff_eq] at h
  unfold Cal.leap
  rw [show greg.cy = 400 by kernel_rfl, h, ← lp_mod]
theorem greg_sums : sumS greg.ms = 365 ∧ sumL greg.ms = 366 := ⟨by kernel_rfl, by kernel_rfl⟩
theorem greg_ylen (y : Int) : greg.ylen y = 365 + lp y := by
  unfold Cal.ylen
  rw [greg_leap, greg_sums.1, greg_sums.2]
  have : lp y = 0 ∨ lp y = 1 := by unfold lp; split <;> (try split) <;> (try split) <;> simp
  rcases this with h | h <;> rw [h] <;> rfl
theorem greg_first1 : greg.first 1 = 1 := by kernel_rfl
theorem greg_first (y : Int) : greg.first y = bg y + 1 := by
  have up : ∀ n : Nat, greg.first (1 + n) = bg (1 + n) + 1 := by
    intro n
    induction n with
    | zero => rw [show (1 : Int) + ((0 : Nat) : Int) = 1 by omega, greg_first1]; rfl
    | succ n ih =>
      have h1 := (calOk gregIn).first_succ (1 + n)
      rw [show (1 : Int) + ((n + 1 : Nat) : Int) = 1 + n + 1 by omega, bg_succ]
      show (calOf 0 gregRow).first (1 + n + 1) = _
      have := greg_ylen (1 + n)
      have ih' : (calOf 0 gregRow).first (1 + n) = bg (1 + n) + 1 := ih
      have t' : (calOf 0 gregRow).ylen (1 + n) = 365 + lp (1 + n) := this
      omega
  have down : ∀ n : Nat, greg.first (1 - n) = bg (1 - n) + 1 := by
    intro n
    induction n with
    | zero => rw [show (1 : Int) - ((0 : Nat) : Int) = 1 by omega, greg_first1]; rfl
    | succ n ih =>
      have h1 := (calOk gregIn).first_succ (1 - ((n + 1 : Nat) : Int))
      have h2 := bg_succ (1 - ((n + 1 : Nat) : Int))
      have h3 : (calOf 0 gregRow).ylen (1 - ((n + 1 : Nat) : Int)) = 365 + lp (1 - ((n + 1 : Nat) : Int)) := greg_ylen _
      rw [show (1 : Int) - ((n + 1 : Nat) : Int) + 1 = 1 - n by omega] at h1 h2
      have ih' : (calOf 0 gregRow).first (1 - n) = bg (1 - n) + 1 := ih
      show (calOf 0 gregRow).first (1 - ((n + 1 : Nat) : Int)) = _
      omega
  rcases Int.le_total 1 y with h | h
  · have := up (y - 1).toNat
    rwa [show (1 : Int) + ((y - 1).toNat : Int) = y by omega] at this
  · have := down (1 - y).toNat
    rwa [show (1 : Int) - ((1 - y).toNat : Int) = y by omega] at this
theorem greg_len : greg.ms.length = 12 := by kernel_rfl
theorem greg_mlen (y : Int) {mo : Nat} (h : mo < 12) : greg.mlen y (mo + 1) = len y (mo + 1) := by
  have hl : lp y = 0 ∨ lp y = 1 := by unfold lp; split <;> (try split) <;> (try split) <;> simp
  unfold Cal.mlen len
  rw [greg_leap]
  have hc : ∀ i : Nat, i < 12 → ((greg.ms[((i : Int) + 1 - 1).toNat]?).getD ([], 0, 0)).2.2 = (if (i : Int) + 1 = 2 then 29 else if (i : Int) + 1 = 4 then 30 else if (i : Int) + 1 = 6 then 30 else if (i : Int) + 1 = 9 then 30 else if (i : Int) + 1 = 11 then 30 else 31) ∧ ((greg.ms[((i : Int) + 1 - 1).toNat]?).getD ([], 0, 0)).2.1 = (if (i : Int) + 1 = 2 then 28 else if (i : Int) + 1 = 4 then 30 else if (i : Int) + 1 = 6 then 30 else if (i : Int) + 1 = 9 then 30 else if (i : Int) + 1 = 11 then 30 else 31) := fun i hi => by
    match i, hi with
    | 0, _ => exact ⟨by kernel_rfl, by kernel_rfl⟩
    | 1, _ => exact ⟨by kernel_rfl, by kernel_rfl⟩
    | 2, _ => exact ⟨by kernel_rfl, by kernel_rfl⟩
    | 3, _ => exact ⟨by kernel_rfl, by kernel_rfl⟩
    | 4, _ => exact ⟨by kernel_rfl, by kernel_rfl⟩
    | 5, _ => exact ⟨by kernel_rfl, by kernel_rfl⟩
    | 6, _ => exact ⟨by kernel_rfl, by kernel_rfl⟩
    | 7, _ => exact ⟨by kernel_rfl, by kernel_rfl⟩
    | 8, _ => exact ⟨by kernel_rfl, by kernel_rfl⟩
    | 9, _ => exact ⟨by kernel_rfl, by kernel_rfl⟩
    | 10, _ => exact ⟨by kernel_rfl, by kernel_rfl⟩
    | 11, _ => exact ⟨by kernel_rfl, by kernel_rfl⟩
    | n + 12, h => omega
  obtain ⟨c1, c2⟩ := hc mo h
  rw [c1, c2]
  rcases hl with e | e <;> rw [e] <;> simp
end Go.Proofs.YtdkifonomakcbaaGreatDoorA
