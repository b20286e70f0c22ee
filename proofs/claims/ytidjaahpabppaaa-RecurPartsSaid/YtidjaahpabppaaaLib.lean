/- Contracts of library functions, in the form that the walks of this seat want: out of the kit's shelf. -/
import Derived.Test.YtidjaahpabppaaaShelf
import Derived.Test.YtidjaahpabppaaaWMore
import Derived.Test.YtidjaahpabppaaaWNEv
import Derived.WalkKit
set_option linter.unusedVariables false
set_option linter.unusedSimpArgs false
namespace Go.Proofs.Ytidjaahpabppaaa
open Go.RowKit Go.Proofs.YtidjaahpabppaaaW.PrintWords Go.Proofs.YtidjaahpabppaaaW.PrintLast
/-- A row of whole numbers that is read: where it lies. -/
theorem ints_form {w : World} {A : Option Addr} {l : List Int} (h : Kd.C (Kd.int .i64) w A l.length l) (hn : 0 < l.length) :
    l.length ≤ 9223372036854775807 ∧ ∃ b off, A = some ⟨b, off, none⟩ ∧ b < w.heap.size ∧ ∀ j, j < l.length → w.cell? ⟨b, off + j, none⟩ = some (.int .i64 (l.getD j 0)) := by
  obtain ⟨-, hm, h⟩ := Kd.reads_of_C (d := (0 : Int)) h
  obtain ⟨⟨b, off, sp⟩, rfl, hc⟩ := h hn
  have h0 := hc 0 hn
  have hsp : sp = none := by
    cases sp with
    | none => rfl
    | some s =>
      exfalso
      simp only [Addr.add, if_pos, World.cell?] at h0
      split at h0 <;> simp at h0
  subst hsp
  refine ⟨hm, b, off, rfl, World.block_lt_of_cell? _ _ (by simpa [Addr.add] using h0), fun j hj => ?_⟩
  have := hc j hj
  unfold Addr.add at this
  split at this
  · rename_i z; subst z; simpa using this
  · exact this

/-- sort.SearchInts, told at rising lists: how many elements are less. -/
def sort_SearchInts.f (l0 : List Int) (a1 : Int) : Option Int := if l0.Pairwise (· ≤ ·) ∧ l0.length < 4611686018427387904 then some ((l0.countP (fun y => !decide (a1 ≤ y)) : Nat) : Int) else none
theorem sort_SearchInts.calls (A0 : Option Addr) (c0 : Nat) (l0 : List Int) (a1 : Int) (r : Int) (w : World) (hr0 : Kd.C (Kd.int .i64) w A0 l0.length l0) (hc0 : l0.length ≤ c0) (h : sort_SearchInts.f l0 a1 = some r) :
    Calls Try.prog 66 #[.slice A0 l0.length c0, .int .i64 a1] w fun e w' => e = .returned (.int .i64 r) ∧ Below w.heap.size w w' := by
  unfold sort_SearchInts.f at h
  split at h
  · rename_i hs
    obtain rfl := Option.some.inj h
    rcases Nat.eq_zero_or_pos l0.length with z | z
    · obtain rfl := List.eq_nil_of_length_eq_zero z
      exact Any.sort_SearchInts_none Try.searchInts A0 c0 a1 w
    · obtain ⟨_, b, off, rfl, hb, hcell⟩ := ints_form hr0 z
      have hg : ∀ i, i < l0.length → l0.toArray[i]! = l0.getD i 0 := by
        intro i hi
        rw [getElem!_pos l0.toArray i (by simpa using hi)]
        simp [List.getD_eq_getElem?_getD, List.getElem?_eq_getElem hi]
      have := Any.sort_SearchInts Try.searchInts b off c0 l0.toArray a1 w (fun i hi => by rw [hg i (by simpa using hi)]; exact hcell i (by simpa using hi)) hb (by simpa using hs.2) (fun i j hij hj hx => by
        rw [hg i (by have : j < l0.length := by simpa using hj
                     omega)] at hx
        rw [hg j (by simpa using hj)]
        have hj' : j < l0.length := by simpa using hj
        have hx' := of_decide_eq_true hx
        refine decide_eq_true ?_
        rcases Nat.lt_or_ge i j with c | c
        · have := List.pairwise_iff_getElem.mp hs.1 i j (by omega) hj' c
          rw [List.getD_eq_getElem?_getD, List.getElem?_eq_getElem (by omega)] at hx' ⊢
          simp only [Option.getD_some] at hx' ⊢
          omega
        · obtain rfl : i = j := by omega
          exact hx')
      exact this
  · cases h

/-- slices.Clone at []int: the same elements in memory of the call's own. -/
def slices_Clone__int_int.f (l0 : List Int) : Option (List Int) := if l0.length * 8 ≤ 140737488355328 then some l0 else none
theorem slices_Clone__int_int.calls (A0 : Option Addr) (c0 : Nat) (l0 : List Int) (r : List Int) (w : World) (hr0 : Kd.C (Kd.int .i64) w A0 l0.length l0) (hc0 : l0.length ≤ c0) (h : slices_Clone__int_int.f l0 = some r) :
    Calls Try.prog 61 #[.slice A0 l0.length c0] w fun e w' => ∃ v0_ : Value, e = .returned v0_ ∧ Kd.R (Kd.int .i64) 3 w' w.heap.size (fun _ => True) v0_ r ∧ Below w.heap.size w w' := by
  unfold slices_Clone__int_int.f at h
  split at h
  · rename_i hs
    obtain rfl := Option.some.inj h
    rcases Nat.eq_zero_or_pos l0.length with z | z
    · obtain rfl := List.eq_nil_of_length_eq_zero z
      cases A0 with
      | none => exact (Try.slices_Clone_int_nil 0 c0 w).mono fun e w' ⟨he, hw⟩ => ⟨_, he, Kd.R_nil _ _ _ _ _, by rw [hw]; exact Below.refl _ _⟩
      | some a => exact (Try.slices_Clone_int_zero a c0 w).mono fun e w' ⟨v, he, ho, _, hb⟩ => ⟨v, he, (show (Kd.scalar (Value.int .i64) (fun _ => rfl)).R _ _ _ _ _ [] from Kd.R_of_own (xs := []) (by simpa [encs] using ho) (fun _ _ => trivial)), hb⟩
    · obtain ⟨_, b, off, rfl, hb, hcell⟩ := ints_form hr0 z
      refine (Try.slices_Clone_int b off l0.length c0 l0 w (Nat.le_refl _) hs hcell).mono fun e w' ⟨v, he, ho, _, hb⟩ => ⟨v, he, Kd.R_of_own (enc := Value.int .i64) ?_ (fun _ _ => trivial), hb⟩
      rw [List.take_length] at ho
      exact ho
  · cases h

end Go.Proofs.Ytidjaahpabppaaa
