/- The contract of sort.SearchInts out of the kit's shelf. -/
import Derived.Test.YtidjaahpabppaaaProg
import Derived.Shelf.SlSorted.Search

namespace Go.Proofs
open Go.Shelf
def Try.searchInts_ren : Go.Shelf.Ren := ⟨fun | 14 => 66 | 22 => 79 | 16 => 78 | n => n, fun | 28 => 24 | 3 => 3 | 0 => 0 | 35 => 100 | 4 => 4 | 38 => 121 | n => n, fun | n => n⟩
theorem Try.searchInts : Go.Proofs.SlLaysO.n14 Try.prog Try.searchInts_ren := {
  mixed := by kernel_rfl
  f14 := Try.func66.trans (congrArg some (by kernel_rfl))
  f16 := Try.func78.trans (congrArg some (by kernel_rfl))
  f22 := Try.func79.trans (congrArg some (by kernel_rfl))
  t0 := Try.underlying0
  a0 := Try.isAgg0
  z0 := Try.sizeOf0
  v0 := Try.zeroValue0
  t3 := Try.underlying3
  a3 := Try.isAgg3
  z3 := Try.sizeOf3
  v3 := Try.zeroValue3
  t4 := Try.underlying4
  a4 := Try.isAgg4
  z4 := Try.sizeOf4
  v4 := Try.zeroValue4
  t28 := Try.underlying24
  a28 := Try.isAgg24
  z28 := Try.sizeOf24
  v28 := Try.zeroValue24
  t35 := Try.underlying100
  a35 := Try.isAgg100
  z35 := Try.sizeOf100
  v35 := Try.zeroValue100
  t38 := Try.underlying121
  a38 := Try.isAgg121
  z38 := Try.sizeOf121
  v38 := Try.zeroValue121 }
end Go.Proofs
