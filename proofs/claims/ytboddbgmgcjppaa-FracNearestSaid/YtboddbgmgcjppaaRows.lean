/-
  No cell of these rows narrows 'for every input' (looked for: loops, veiled, ifaces, maps, wideKeys, modest, calm, conditions, laid).
  DERIVED. THE GIVEN ROWS OF THIS SEAT. 11 by the template 'for every input the law returns true; each argument reads behind the call as it read before'; 0 by the template 'total and deterministic' (their statements: YtboddbgmgcjppaaTotals.lean).
  GIVEN WITH THE SEED: the statements are not yours to turn. If you find one false, say at which input.
  Laid BY PROGRAM, IN A SANDBOX (cutbox-rows.mjs): the forced cells as the released guide's own fill.sh prints them over the translation 3655cf21087c9bc1… (all of the seat's roots in one cut). By AI agents, Wed Nov 11 2026. No macro, syntax, notation, axiom, sorry.
-/
import Derived.Test.YtboddbgmgcjppaaChecked
import GoSem.Claim
import GoSem.ClaimJoined
import GoSem.ClaimMapViews
import Derived.JoinedTies
import Derived.KernelRfl
namespace Go.Proofs.Ytboddbgmgcjppaa
/- THE CELL 'sum', in the pinned program and in every row, IS THE sha256 OF THE DUMP (.gsa) THAT YtboddbgmgcjppaaProg.lean LOADS. Nothing in Lean hashes anything: it is a label: what it is worth is what the hold of that sum in a sandbox is worth. -/
noncomputable def Try.pinned : Pinned := { name := "ytboddbgmgcjppaa", sum := "3655cf21087c9bc1dc6825d82d41881de22494feae063320a05258473c34bccc", checked := Try.checked }
namespace Rows
def none {H : Type} : Left H := { results := [], args := [] }

/-- 'ephemeriskeep1.LineWeeks': WHATEVER THE INPUT: true; the input reads as it did. -/
def lineWeeksSpec : ChangeSpec := { name := "lineWeeks", fn := fun _ => fun
  | [d1, d2, d3] => { results := [.lit (.bool true)], args := [d1, d2, d3] }
  | _ => none }
def lineWeeksRow : OpenClaim := { program := "ytboddbgmgcjppaa", sum := "3655cf21087c9bc1dc6825d82d41881de22494feae063320a05258473c34bccc", func := "ephemeris/ephemeriskeep1.LineWeeks", spec := "lineWeeks", apart := false }
def LineWeeksSaid : Prop := lineWeeksRow.holds Try.pinned (OpenSpec.ofChange lineWeeksSpec)

/-- ITS FALSE NEIGHBOUR: 'it returns false'. Refute it at one input. -/
def lineWeeksWrong : ChangeSpec := { name := "lineWeeks", fn := fun _ => fun
  | [d1, d2, d3] => { results := [.lit (.bool false)], args := [d1, d2, d3] }
  | _ => none }
def LineWeeksWrongFalsely : Prop := lineWeeksRow.holds Try.pinned (OpenSpec.ofChange lineWeeksWrong)

/-- 'ephemeriskeep1.WholeDistributes': WHATEVER THE INPUT: true; the input reads as it did. -/
def wholeDistributesSpec : ChangeSpec := { name := "wholeDistributes", fn := fun _ => fun
  | [d1, d2, d3] => { results := [.lit (.bool true)], args := [d1, d2, d3] }
  | _ => none }
def wholeDistributesRow : OpenClaim := { program := "ytboddbgmgcjppaa", sum := "3655cf21087c9bc1dc6825d82d41881de22494feae063320a05258473c34bccc", func := "ephemeris/ephemeriskeep1.WholeDistributes", spec := "wholeDistributes", apart := false }
def WholeDistributesSaid : Prop := wholeDistributesRow.holds Try.pinned (OpenSpec.ofChange wholeDistributesSpec)

/-- ITS FALSE NEIGHBOUR: 'it returns false'. Refute it at one input. -/
def wholeDistributesWrong : ChangeSpec := { name := "wholeDistributes", fn := fun _ => fun
  | [d1, d2, d3] => { results := [.lit (.bool false)], args := [d1, d2, d3] }
  | _ => none }
def WholeDistributesWrongFalsely : Prop := wholeDistributesRow.holds Try.pinned (OpenSpec.ofChange wholeDistributesWrong)

/-- 'ephemeriskeep1.LineSplits': WHATEVER THE INPUT: true; the input reads as it did. -/
def lineSplitsSpec : ChangeSpec := { name := "lineSplits", fn := fun _ => fun
  | [d1, d2, d3, d4] => { results := [.lit (.bool true)], args := [d1, d2, d3, d4] }
  | _ => none }
def lineSplitsRow : OpenClaim := { program := "ytboddbgmgcjppaa", sum := "3655cf21087c9bc1dc6825d82d41881de22494feae063320a05258473c34bccc", func := "ephemeris/ephemeriskeep1.LineSplits", spec := "lineSplits", apart := false }
def LineSplitsSaid : Prop := lineSplitsRow.holds Try.pinned (OpenSpec.ofChange lineSplitsSpec)

/-- ITS FALSE NEIGHBOUR: 'it returns false'. Refute it at one input. -/
def lineSplitsWrong : ChangeSpec := { name := "lineSplits", fn := fun _ => fun
  | [d1, d2, d3, d4] => { results := [.lit (.bool false)], args := [d1, d2, d3, d4] }
  | _ => none }
def LineSplitsWrongFalsely : Prop := lineSplitsRow.holds Try.pinned (OpenSpec.ofChange lineSplitsWrong)

/-- 'ephemeriskeep1.WholeBezout': WHATEVER THE INPUT: true; the input reads as it did. -/
def wholeBezoutSpec : ChangeSpec := { name := "wholeBezout", fn := fun _ => fun
  | [d1, d2] => { results := [.lit (.bool true)], args := [d1, d2] }
  | _ => none }
def wholeBezoutRow : OpenClaim := { program := "ytboddbgmgcjppaa", sum := "3655cf21087c9bc1dc6825d82d41881de22494feae063320a05258473c34bccc", func := "ephemeris/ephemeriskeep1.WholeBezout", spec := "wholeBezout", apart := false }
def WholeBezoutSaid : Prop := wholeBezoutRow.holds Try.pinned (OpenSpec.ofChange wholeBezoutSpec)

/-- ITS FALSE NEIGHBOUR: 'it returns false'. Refute it at one input. -/
def wholeBezoutWrong : ChangeSpec := { name := "wholeBezout", fn := fun _ => fun
  | [d1, d2] => { results := [.lit (.bool false)], args := [d1, d2] }
  | _ => none }
def WholeBezoutWrongFalsely : Prop := wholeBezoutRow.holds Try.pinned (OpenSpec.ofChange wholeBezoutWrong)

/-- 'ephemeriskeep1.LineBack': WHATEVER THE INPUT: true; the input reads as it did. -/
def lineBackSpec : ChangeSpec := { name := "lineBack", fn := fun _ => fun
  | [d] => { results := [.lit (.bool true)], args := [d] }
  | _ => none }
def lineBackRow : OpenClaim := { program := "ytboddbgmgcjppaa", sum := "3655cf21087c9bc1dc6825d82d41881de22494feae063320a05258473c34bccc", func := "ephemeris/ephemeriskeep1.LineBack", spec := "lineBack", apart := false }
def LineBackSaid : Prop := lineBackRow.holds Try.pinned (OpenSpec.ofChange lineBackSpec)

/-- ITS FALSE NEIGHBOUR: 'it returns false'. Refute it at one input. -/
def lineBackWrong : ChangeSpec := { name := "lineBack", fn := fun _ => fun
  | [d] => { results := [.lit (.bool false)], args := [d] }
  | _ => none }
def LineBackWrongFalsely : Prop := lineBackRow.holds Try.pinned (OpenSpec.ofChange lineBackWrong)

/-- 'ephemeriskeep1.FracField': WHATEVER THE INPUT: true; the input reads as it did. -/
def fracFieldSpec : ChangeSpec := { name := "fracField", fn := fun _ => fun
  | [d1, d2, d3, d4, d5, d6] => { results := [.lit (.bool true)], args := [d1, d2, d3, d4, d5, d6] }
  | _ => none }
def fracFieldRow : OpenClaim := { program := "ytboddbgmgcjppaa", sum := "3655cf21087c9bc1dc6825d82d41881de22494feae063320a05258473c34bccc", func := "ephemeris/ephemeriskeep1.FracField", spec := "fracField", apart := false }
def FracFieldSaid : Prop := fracFieldRow.holds Try.pinned (OpenSpec.ofChange fracFieldSpec)

/-- ITS FALSE NEIGHBOUR: 'it returns false'. Refute it at one input. -/
def fracFieldWrong : ChangeSpec := { name := "fracField", fn := fun _ => fun
  | [d1, d2, d3, d4, d5, d6] => { results := [.lit (.bool false)], args := [d1, d2, d3, d4, d5, d6] }
  | _ => none }
def FracFieldWrongFalsely : Prop := fracFieldRow.holds Try.pinned (OpenSpec.ofChange fracFieldWrong)

/-- 'ephemeriskeep1.CycleMeets': WHATEVER THE INPUT: true; the input reads as it did. -/
def cycleMeetsSpec : ChangeSpec := { name := "cycleMeets", fn := fun _ => fun
  | [d1, d2] => { results := [.lit (.bool true)], args := [d1, d2] }
  | _ => none }
def cycleMeetsRow : OpenClaim := { program := "ytboddbgmgcjppaa", sum := "3655cf21087c9bc1dc6825d82d41881de22494feae063320a05258473c34bccc", func := "ephemeris/ephemeriskeep1.CycleMeets", spec := "cycleMeets", apart := false }
def CycleMeetsSaid : Prop := cycleMeetsRow.holds Try.pinned (OpenSpec.ofChange cycleMeetsSpec)

/-- ITS FALSE NEIGHBOUR: 'it returns false'. Refute it at one input. -/
def cycleMeetsWrong : ChangeSpec := { name := "cycleMeets", fn := fun _ => fun
  | [d1, d2] => { results := [.lit (.bool false)], args := [d1, d2] }
  | _ => none }
def CycleMeetsWrongFalsely : Prop := cycleMeetsRow.holds Try.pinned (OpenSpec.ofChange cycleMeetsWrong)

/-- 'ephemeriskeep1.ZoneBack': WHATEVER THE INPUT: true; the input reads as it did. -/
def zoneBackSpec : ChangeSpec := { name := "zoneBack", fn := fun _ => fun
  | [d1, d2] => { results := [.lit (.bool true)], args := [d1, d2] }
  | _ => none }
def zoneBackRow : OpenClaim := { program := "ytboddbgmgcjppaa", sum := "3655cf21087c9bc1dc6825d82d41881de22494feae063320a05258473c34bccc", func := "ephemeris/ephemeriskeep1.ZoneBack", spec := "zoneBack", apart := false }
def ZoneBackSaid : Prop := zoneBackRow.holds Try.pinned (OpenSpec.ofChange zoneBackSpec)

/-- ITS FALSE NEIGHBOUR: 'it returns false'. Refute it at one input. -/
def zoneBackWrong : ChangeSpec := { name := "zoneBack", fn := fun _ => fun
  | [d1, d2] => { results := [.lit (.bool false)], args := [d1, d2] }
  | _ => none }
def ZoneBackWrongFalsely : Prop := zoneBackRow.holds Try.pinned (OpenSpec.ofChange zoneBackWrong)

/-- 'ephemeriskeep1.FracNearest': WHATEVER THE INPUT: true; the input reads as it did. -/
def fracNearestSpec : ChangeSpec := { name := "fracNearest", fn := fun _ => fun
  | [d1, d2, d3, d4, d5] => { results := [.lit (.bool true)], args := [d1, d2, d3, d4, d5] }
  | _ => none }
def fracNearestRow : OpenClaim := { program := "ytboddbgmgcjppaa", sum := "3655cf21087c9bc1dc6825d82d41881de22494feae063320a05258473c34bccc", func := "ephemeris/ephemeriskeep1.FracNearest", spec := "fracNearest", unfollowed := true, recurses := true, apart := false }
def FracNearestSaid : Prop := fracNearestRow.holds Try.pinned (OpenSpec.ofChange fracNearestSpec)

/-- ITS FALSE NEIGHBOUR: 'it returns false'. Refute it at one input. -/
def fracNearestWrong : ChangeSpec := { name := "fracNearest", fn := fun _ => fun
  | [d1, d2, d3, d4, d5] => { results := [.lit (.bool false)], args := [d1, d2, d3, d4, d5] }
  | _ => none }
def FracNearestWrongFalsely : Prop := fracNearestRow.holds Try.pinned (OpenSpec.ofChange fracNearestWrong)

/-- 'ephemeriskeep1.ZoneJumps': WHATEVER THE INPUT: true; the input reads as it did. -/
def zoneJumpsSpec : ChangeSpec := { name := "zoneJumps", fn := fun _ => fun
  | [d1, d2] => { results := [.lit (.bool true)], args := [d1, d2] }
  | _ => none }
def zoneJumpsRow : OpenClaim := { program := "ytboddbgmgcjppaa", sum := "3655cf21087c9bc1dc6825d82d41881de22494feae063320a05258473c34bccc", func := "ephemeris/ephemeriskeep1.ZoneJumps", spec := "zoneJumps", apart := false }
def ZoneJumpsSaid : Prop := zoneJumpsRow.holds Try.pinned (OpenSpec.ofChange zoneJumpsSpec)

/-- ITS FALSE NEIGHBOUR: 'it returns false'. Refute it at one input. -/
def zoneJumpsWrong : ChangeSpec := { name := "zoneJumps", fn := fun _ => fun
  | [d1, d2] => { results := [.lit (.bool false)], args := [d1, d2] }
  | _ => none }
def ZoneJumpsWrongFalsely : Prop := zoneJumpsRow.holds Try.pinned (OpenSpec.ofChange zoneJumpsWrong)

/-- 'ephemeriskeep1.ForecastWeekdays': WHATEVER THE INPUT: true; the input reads as it did. -/
def forecastWeekdaysSpec : ChangeSpec := { name := "forecastWeekdays", fn := fun _ => fun
  | [d1, d2, d3] => { results := [.lit (.bool true)], args := [d1, d2, d3] }
  | _ => none }
def forecastWeekdaysRow : OpenClaim := { program := "ytboddbgmgcjppaa", sum := "3655cf21087c9bc1dc6825d82d41881de22494feae063320a05258473c34bccc", func := "ephemeris/ephemeriskeep1.ForecastWeekdays", spec := "forecastWeekdays", apart := false }
def ForecastWeekdaysSaid : Prop := forecastWeekdaysRow.holds Try.pinned (OpenSpec.ofChange forecastWeekdaysSpec)

/-- ITS FALSE NEIGHBOUR: 'it returns false'. Refute it at one input. -/
def forecastWeekdaysWrong : ChangeSpec := { name := "forecastWeekdays", fn := fun _ => fun
  | [d1, d2, d3] => { results := [.lit (.bool false)], args := [d1, d2, d3] }
  | _ => none }
def ForecastWeekdaysWrongFalsely : Prop := forecastWeekdaysRow.holds Try.pinned (OpenSpec.ofChange forecastWeekdaysWrong)

/- THE SECOND FORM. 'bulk': how many values and letters a reading holds, each counted each time it is reached (what is shared counts as often as it is met; a slice's spare places count too). A statement '..UptoSaid' is the law's where the arguments, and the package variables that the reading takes, are together of bulk at most 1048576: NARROWER than '..Said'. Prove '..Said' where nothing that the law and all that it calls make is longer than what came in: it says more and counts as full. Else prove '..UptoSaid'. A law counts once. -/
mutual
def uptoBulk {H : Type} : DataW H → Nat
  | .lit (.string bytes) => bytes.length + 1
  | .lit _ => 1
  | .nil => 1
  | .ptr d => uptoBulk d + 1
  | .slice elems spare => uptoBulkAll elems + uptoBulkAll spare + 1
  | .agg parts => uptoBulkAll parts + 1
  | .iface _ d => uptoBulk d + 1
  | .map entries => uptoBulkEntries entries + 1
  | .held _ => 1
def uptoBulkAll {H : Type} : List (DataW H) → Nat
  | [] => 0
  | d :: r => uptoBulk d + uptoBulkAll r
def uptoBulkEntries {H : Type} : List (Lit × DataW H) → Nat
  | [] => 0
  | x :: r => uptoBulkEntry x + uptoBulkEntries r
def uptoBulkEntry {H : Type} : Lit × DataW H → Nat
  | (.string bytes, d) => bytes.length + uptoBulk d + 1
  | (_, d) => uptoBulk d + 1
 end
def uptoSmall : (H : Type) → List (DataW H) → Bool := fun _ ds => decide (uptoBulkAll ds ≤ 1048576)
def OpenSpec.upto (s : _root_.Go.ChangeSpec) : _root_.Go.OpenSpec := { _root_.Go.OpenSpec.ofChange s with cond := some uptoSmall }

/-- 'ephemeriskeep1.LineWeeks', WHERE WHAT IT READS IS OF BULK AT MOST 1048576: true; the input reads as it did. -/
def lineWeeksUptoRow : OpenClaim := { program := "ytboddbgmgcjppaa", sum := "3655cf21087c9bc1dc6825d82d41881de22494feae063320a05258473c34bccc", func := "ephemeris/ephemeriskeep1.LineWeeks", spec := "lineWeeks", apart := false, narrowed := true }
def LineWeeksUptoSaid : Prop := lineWeeksUptoRow.holds Try.pinned (OpenSpec.upto lineWeeksSpec)

/-- 'ephemeriskeep1.WholeDistributes', WHERE WHAT IT READS IS OF BULK AT MOST 1048576: true; the input reads as it did. -/
def wholeDistributesUptoRow : OpenClaim := { program := "ytboddbgmgcjppaa", sum := "3655cf21087c9bc1dc6825d82d41881de22494feae063320a05258473c34bccc", func := "ephemeris/ephemeriskeep1.WholeDistributes", spec := "wholeDistributes", apart := false, narrowed := true }
def WholeDistributesUptoSaid : Prop := wholeDistributesUptoRow.holds Try.pinned (OpenSpec.upto wholeDistributesSpec)

/-- 'ephemeriskeep1.LineSplits', WHERE WHAT IT READS IS OF BULK AT MOST 1048576: true; the input reads as it did. -/
def lineSplitsUptoRow : OpenClaim := { program := "ytboddbgmgcjppaa", sum := "3655cf21087c9bc1dc6825d82d41881de22494feae063320a05258473c34bccc", func := "ephemeris/ephemeriskeep1.LineSplits", spec := "lineSplits", apart := false, narrowed := true }
def LineSplitsUptoSaid : Prop := lineSplitsUptoRow.holds Try.pinned (OpenSpec.upto lineSplitsSpec)

/-- 'ephemeriskeep1.WholeBezout', WHERE WHAT IT READS IS OF BULK AT MOST 1048576: true; the input reads as it did. -/
def wholeBezoutUptoRow : OpenClaim := { program := "ytboddbgmgcjppaa", sum := "3655cf21087c9bc1dc6825d82d41881de22494feae063320a05258473c34bccc", func := "ephemeris/ephemeriskeep1.WholeBezout", spec := "wholeBezout", apart := false, narrowed := true }
def WholeBezoutUptoSaid : Prop := wholeBezoutUptoRow.holds Try.pinned (OpenSpec.upto wholeBezoutSpec)

/-- 'ephemeriskeep1.LineBack', WHERE WHAT IT READS IS OF BULK AT MOST 1048576: true; the input reads as it did. -/
def lineBackUptoRow : OpenClaim := { program := "ytboddbgmgcjppaa", sum := "3655cf21087c9bc1dc6825d82d41881de22494feae063320a05258473c34bccc", func := "ephemeris/ephemeriskeep1.LineBack", spec := "lineBack", apart := false, narrowed := true }
def LineBackUptoSaid : Prop := lineBackUptoRow.holds Try.pinned (OpenSpec.upto lineBackSpec)

/-- 'ephemeriskeep1.FracField', WHERE WHAT IT READS IS OF BULK AT MOST 1048576: true; the input reads as it did. -/
def fracFieldUptoRow : OpenClaim := { program := "ytboddbgmgcjppaa", sum := "3655cf21087c9bc1dc6825d82d41881de22494feae063320a05258473c34bccc", func := "ephemeris/ephemeriskeep1.FracField", spec := "fracField", apart := false, narrowed := true }
def FracFieldUptoSaid : Prop := fracFieldUptoRow.holds Try.pinned (OpenSpec.upto fracFieldSpec)

/-- 'ephemeriskeep1.CycleMeets', WHERE WHAT IT READS IS OF BULK AT MOST 1048576: true; the input reads as it did. -/
def cycleMeetsUptoRow : OpenClaim := { program := "ytboddbgmgcjppaa", sum := "3655cf21087c9bc1dc6825d82d41881de22494feae063320a05258473c34bccc", func := "ephemeris/ephemeriskeep1.CycleMeets", spec := "cycleMeets", apart := false, narrowed := true }
def CycleMeetsUptoSaid : Prop := cycleMeetsUptoRow.holds Try.pinned (OpenSpec.upto cycleMeetsSpec)

/-- 'ephemeriskeep1.ZoneBack', WHERE WHAT IT READS IS OF BULK AT MOST 1048576: true; the input reads as it did. -/
def zoneBackUptoRow : OpenClaim := { program := "ytboddbgmgcjppaa", sum := "3655cf21087c9bc1dc6825d82d41881de22494feae063320a05258473c34bccc", func := "ephemeris/ephemeriskeep1.ZoneBack", spec := "zoneBack", apart := false, narrowed := true }
def ZoneBackUptoSaid : Prop := zoneBackUptoRow.holds Try.pinned (OpenSpec.upto zoneBackSpec)

/-- 'ephemeriskeep1.FracNearest', WHERE WHAT IT READS IS OF BULK AT MOST 1048576: true; the input reads as it did. -/
def fracNearestUptoRow : OpenClaim := { program := "ytboddbgmgcjppaa", sum := "3655cf21087c9bc1dc6825d82d41881de22494feae063320a05258473c34bccc", func := "ephemeris/ephemeriskeep1.FracNearest", spec := "fracNearest", unfollowed := true, recurses := true, apart := false, narrowed := true }
def FracNearestUptoSaid : Prop := fracNearestUptoRow.holds Try.pinned (OpenSpec.upto fracNearestSpec)

/-- 'ephemeriskeep1.ZoneJumps', WHERE WHAT IT READS IS OF BULK AT MOST 1048576: true; the input reads as it did. -/
def zoneJumpsUptoRow : OpenClaim := { program := "ytboddbgmgcjppaa", sum := "3655cf21087c9bc1dc6825d82d41881de22494feae063320a05258473c34bccc", func := "ephemeris/ephemeriskeep1.ZoneJumps", spec := "zoneJumps", apart := false, narrowed := true }
def ZoneJumpsUptoSaid : Prop := zoneJumpsUptoRow.holds Try.pinned (OpenSpec.upto zoneJumpsSpec)

/-- 'ephemeriskeep1.ForecastWeekdays', WHERE WHAT IT READS IS OF BULK AT MOST 1048576: true; the input reads as it did. -/
def forecastWeekdaysUptoRow : OpenClaim := { program := "ytboddbgmgcjppaa", sum := "3655cf21087c9bc1dc6825d82d41881de22494feae063320a05258473c34bccc", func := "ephemeris/ephemeriskeep1.ForecastWeekdays", spec := "forecastWeekdays", apart := false, narrowed := true }
def ForecastWeekdaysUptoSaid : Prop := forecastWeekdaysUptoRow.holds Try.pinned (OpenSpec.upto forecastWeekdaysSpec)

end Rows
end Go.Proofs.Ytboddbgmgcjppaa
