/- The contract of sort.SearchInts out of the kit's shelf. -/
import Derived.Test.YtidjaahpabppaaaDoorProg
import Derived.Shelf.SlSorted.Search

namespace Go.Proofs
open Go.Shelf
def Tryd.searchInts_ren : Go.Shelf.Ren := ⟨fun | 14 => 67 | 22 => 84 | 16 => 83 | n => n, fun | 28 => 32 | 3 => 3 | 0 => 0 | 35 => 116 | 4 => 4 | 38 => 130 | n => n, fun | n => n⟩
theorem Tryd.searchInts : Go.Proofs.SlLaysO.n14 Tryd.prog Tryd.searchInts_ren := {
  mixed := by kernel_rfl
  f14 := Tryd.func67.trans (congrArg some (by kernel_rfl))
  f16 := Tryd.func83.trans (congrArg some (by kernel_rfl))
  f22 := Tryd.func84.trans (congrArg some (by kernel_rfl))
  t0 := Tryd.underlying0
  a0 := Tryd.isAgg0
  z0 := Tryd.sizeOf0
  v0 := Tryd.zeroValue0
  t3 := Tryd.underlying3
  a3 := Tryd.isAgg3
  z3 := Tryd.sizeOf3
  v3 := Tryd.zeroValue3
  t4 := Tryd.underlying4
  a4 := Tryd.isAgg4
  z4 := Tryd.sizeOf4
  v4 := Tryd.zeroValue4
  t28 := Tryd.underlying32
  a28 := Tryd.isAgg32
  z28 := Tryd.sizeOf32
  v28 := Tryd.zeroValue32
  t35 := Tryd.underlying116
  a35 := Tryd.isAgg116
  z35 := Tryd.sizeOf116
  v35 := Tryd.zeroValue116
  t38 := Tryd.underlying130
  a38 := Tryd.isAgg130
  z38 := Tryd.sizeOf130
  v38 := Tryd.zeroValue130 }
end Go.Proofs
