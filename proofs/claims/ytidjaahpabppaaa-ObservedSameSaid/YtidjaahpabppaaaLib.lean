/- Contracts of library functions, in the form that the walks of this seat want: out of the kit's shelf. -/
import Derived.Test.YtidjaahpabppaaaShelfS
import Derived.Test.YtidjaahpabppaaaWMore
import Derived.Test.YtidjaahpabppaaaWNEv
import Derived.WalkKit
set_option linter.unusedVariables false
set_option linter.unusedSimpArgs false
namespace Go.Proofs.Ytidjaahpabppaaa
open Go.RowKit Go.Proofs.YtidjaahpabppaaaW.PrintWords Go.Proofs.YtidjaahpabppaaaW.PrintLast
/-- A row of whole numbers that is read: where it lies. -/
theorem ints_form {w : World} {A : Option Addr} {l : List Int} (h : Kd.C (Kd.int .i64) w A l.length l) (hn : 0 < l.length) :
    l.length ≤ 9223372036854775807 ∧ ∃ b off, A = some ⟨b, off, none⟩ ∧ b < w.heap.size ∧ ∀ j, j < l.length → w.cell? ⟨b, off + j, none⟩ = some (.int .i64 (l.getD j 0)) := by
  obtain ⟨-, hm, h⟩ := Kd.reads_of_C (d := (0 : Int)) h
  obtain ⟨⟨b, off, sp⟩, rfl, hc⟩ := h hn
  have h0 := hc 0 hn
  have hsp : sp = none := by
    cases sp with
    | none => rfl
    | some s =>
      exfalso
      simp only [Addr.add, if_pos, World.cell?] at h0
      split at h0 <;> simp at h0
  subst hsp
  refine ⟨hm, b, off, rfl, World.block_lt_of_cell? _ _ (by simpa [Addr.add] using h0), fun j hj => ?_⟩
  have := hc j hj
  unfold Addr.add at this
  split at this
  · rename_i z; subst z; simpa using this
  · exact this

/-- sort.SearchInts, told at rising lists: how many elements are less. -/
def sort_SearchInts.f (l0 : List Int) (a1 : Int) : Option Int := if l0.Pairwise (· ≤ ·) ∧ l0.length < 4611686018427387904 then some ((l0.countP (fun y => !decide (a1 ≤ y)) : Nat) : Int) else none
theorem sort_SearchInts.calls (A0 : Option Addr) (c0 : Nat) (l0 : List Int) (a1 : Int) (r : Int) (w : World) (hr0 : Kd.C (Kd.int .i64) w A0 l0.length l0) (hc0 : l0.length ≤ c0) (h : sort_SearchInts.f l0 a1 = some r) :
    Calls Try.prog 66 #[.slice A0 l0.length c0, .int .i64 a1] w fun e w' => e = .returned (.int .i64 r) ∧ Below w.heap.size w w' := by
  unfold sort_SearchInts.f at h
  split at h
  · rename_i hs
    obtain rfl := Option.some.inj h
    rcases Nat.eq_zero_or_pos l0.length with z | z
    · obtain rfl := List.eq_nil_of_length_eq_zero z
      exact Any.sort_SearchInts_none Try.searchInts A0 c0 a1 w
    · obtain ⟨_, b, off, rfl, hb, hcell⟩ := ints_form hr0 z
      have hg : ∀ i, i < l0.length → l0.toArray[i]! = l0.getD i 0 := by
        intro i hi
        rw [getElem!_pos l0.toArray i (by simpa using hi)]
        simp [List.getD_eq_getElem?_getD, List.getElem?_eq_getElem hi]
      have := Any.sort_SearchInts Try.searchInts b off c0 l0.toArray a1 w (fun i hi => by rw [hg i (by simpa using hi)]; exact hcell i (by simpa using hi)) hb (by simpa using hs.2) (fun i j hij hj hx => by
        rw [hg i (by have : j < l0.length := by simpa using hj
                     omega)] at hx
        rw [hg j (by simpa using hj)]
        have hj' : j < l0.length := by simpa using hj
        have hx' := of_decide_eq_true hx
        refine decide_eq_true ?_
        rcases Nat.lt_or_ge i j with c | c
        · have := List.pairwise_iff_getElem.mp hs.1 i j (by omega) hj' c
          rw [List.getD_eq_getElem?_getD, List.getElem?_eq_getElem (by omega)] at hx' ⊢
          simp only [Option.getD_some] at hx' ⊢
          omega
        · obtain rfl : i = j := by omega
          exact hx')
      exact this
  · cases h

end Go.Proofs.Ytidjaahpabppaaa
