/- Lists that grow by append. -/
import Derived.Test.YtkokongbnemkhaaGreatDoorPW12
import Derived.Test.YtkokongbnemkhaaGreatDoorNA
set_option linter.unusedVariables false
set_option linter.unusedSimpArgs false
namespace Go.Proofs.YtkokongbnemkhaaGreatDoorA
open Go Go.RowKit Go.Proofs.YtkokongbnemkhaaGreatDoorFx Go.Proofs
variable {m : Int}
/-- A list of whole numbers that grows by append: nil, or an own block. -/
def LpB (b : Nat) (l : List Int) (n : Nat) (e : AV) (L : List (Nat × Ent)) : Prop := (l = [] ∧ e = .nils ∧ L = []) ∨ ∃ id, l ≠ [] ∧ b ≤ id ∧ id < n ∧ e = .osl id 0 l.length ∧ L = [(id, .rows 1 (intR l))]
theorem intR_len (l : List Int) : (intR l).length = l.length := by simp [intR]
theorem intR_snoc (l : List Int) (x : Int) : intR l ++ [[.i .i64 x]] = intR (l ++ [x]) := by simp [intR]
theorem intR_flat (l : List Int) : ((intR l).all fun (row : List AV) => row.all flat) = true := by simp [intR, flat]
end Go.Proofs.YtkokongbnemkhaaGreatDoorA
