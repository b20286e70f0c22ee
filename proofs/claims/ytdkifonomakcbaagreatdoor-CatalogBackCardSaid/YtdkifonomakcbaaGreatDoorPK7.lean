/- What rule.Print makes of the rules of the catalog. -/
import Derived.Test.YtdkifonomakcbaaGreatDoorPK4
set_option linter.unusedVariables false
set_option linter.unusedSimpArgs false
namespace Go.Proofs.YtdkifonomakcbaaGreatDoorA
open Go Go.RowKit Go.Proofs
def lvlT : List AV := [.i .i64 0, .i .i64 8, .i .i64 8, .i .i64 7, .i .i64 5, .i .i64 5, .i .i64 6, .i .i64 6, .i .i64 6, .i .i64 4, .i .i64 4, .i .i64 3, .i .i64 2, .i .i64 1]
def sgnT : List AV := [.s [], .s [], .s [], .s [], .s [32, 43, 32], .s [32, 45, 32], .s [32, 42, 32], .s [32, 47, 32], .s [32, 37, 32], .s [32, 60, 32], .s [32, 61, 32], .s [], .s [32, 97, 110, 100, 32], .s [32, 111, 114, 32]]
/-- The tables, with those of rule.Print. -/
def glC (m : Int) (g : Nat) : Option (List AV) := match Nat.beq g 1 with
  | true => some lvlT
  | false => match Nat.beq g 2 with
    | true => some sgnT
    | false => glT m g
theorem glC_of (m : Int) : ∀ g row, glT m g = some row → glC m g = some row := by
  intro g row h
  unfold glC
  split
  · rename_i q; obtain rfl := Nat.eq_of_beq_eq_true q; cases h
  split
  · rename_i q; obtain rfl := Nat.eq_of_beq_eq_true q; cases h
  · exact h
noncomputable def EC (m : Int) : Env := ⟨Tryz.prog, glC m, MK⟩
theorem ec (m : Int) : ModOk (EC m) := fun f args r e => weakP (glC_of m) (mk m f args r e)
theorem xc (m : Int) : XOk (EC m) XK := fun f args h o h' e => (xk m f args h o h' e).to (ek m) (glC_of m)
set_option maxRecDepth 10000000
noncomputable def chkPrint (m : Int) (k : Nat) (r : CatRow) : Bool := isOut (outP (evO (EC m) XK 1000000 22 [treeA k r] ⟨[], 0⟩)) (.tup [.s (textOf r), .i .i64 0])
end Go.Proofs.YtdkifonomakcbaaGreatDoorA
