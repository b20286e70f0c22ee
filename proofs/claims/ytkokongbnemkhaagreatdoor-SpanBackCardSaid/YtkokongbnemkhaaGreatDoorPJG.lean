/- The calendars julian and gregorian by name. -/
import Derived.Test.YtkokongbnemkhaaGreatDoorNA
import Derived.Test.YtkokongbnemkhaaGreatDoorPW15
set_option linter.unusedVariables false
set_option linter.unusedSimpArgs false
namespace Go.Proofs.YtkokongbnemkhaaGreatDoorA
open Go Go.RowKit Go.Proofs.YtkokongbnemkhaaGreatDoorFx Go.Proofs
variable {m : Int}
@[go_sem] theorem beq_int (x : Int) : (x == x) = true := by simp
theorem MeetsP.narrow1 {P : Program} {gl : Nat → Option (List AV)} {f : FuncId} {a a' : AV} {as' : List AV} {r : AV} (h : MeetsP P gl f (a :: as') r) (hw : Wk a' a) : MeetsP P gl f (a' :: as') r :=
  ⟨h.1, fun ok w vals q1 q2 q3 q4 => h.2 ok w vals q1 q2 q3 (fun j v b hv hb => by
    cases j with
    | zero => cases hb; exact hw ok w v (q4 0 v a' hv rfl)
    | succ j => exact q4 (j + 1) v b hv hb)⟩
def julS : List UInt8 := [106, 117, 108, 105, 97, 110]
def grgS : List UInt8 := [103, 114, 101, 103, 111, 114, 105, 97, 110]
def julR : CatRow := ⟨julS, -1, 4, [121, 32, 37, 32, 52, 32, 61, 32, 48], 65⟩
def grgR : CatRow := ⟨grgS, 1, 400, [121, 32, 37, 32, 52, 32, 61, 32, 48, 32, 97, 110, 100, 32, 40, 110, 111, 116, 32, 121, 32, 37, 32, 49, 48, 48, 32, 61, 32, 48, 32, 111, 114, 32, 121, 32, 37, 32, 52, 48, 48, 32, 61, 32, 48, 41], 65⟩
set_option maxRecDepth 10000000 in
theorem julIn : (julR, 1) ∈ catT.zipIdx := by rw [List.mem_zipIdx_iff_getElem?]; kernel_rfl
set_option maxRecDepth 10000000 in
theorem grgIn : (grgR, 0) ∈ catT.zipIdx := by rw [List.mem_zipIdx_iff_getElem?]; kernel_rfl
theorem jul_known : ¬ Unknown julS := fun h => h julR (row_mem julIn) rfl
theorem grg_known : ¬ Unknown grgS := fun h => h grgR (row_mem grgIn) rfl
end Go.Proofs.YtkokongbnemkhaaGreatDoorA
