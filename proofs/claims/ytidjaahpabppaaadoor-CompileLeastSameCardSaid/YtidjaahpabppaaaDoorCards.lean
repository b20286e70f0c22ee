/-
  DERIVED. GIVEN WITH THE SEED: THE CARDS: each row of YtidjaahpabppaaaDoorRows.lean that lists a variable, with what it lists TIED to the program's text (the seventh form; the later family's looks); each row that meets fmt, with fmt's text TOLD by the authors' own Lean function (tested against real Go, not proved from fmt's source: count such statements apart). THE CARD IS WHAT COUNTS. Prove the row's statement (the work); the ties are given (YtidjaahpabppaaaDoorTie.lean); close each card by the builder's one call (the guide's Derived/Test/ToyasCard.lean, 'card_holds'). Laid BY PROGRAM, IN A SANDBOX (cutbox-door.mjs). By AI agents, Wed Nov 11 2026. No macro, syntax, notation, axiom, sorry.
-/
import Derived.Test.YtidjaahpabppaaaDoorRows
import GoSem.ClaimSeven
namespace Go.Proofs.YtidjaahpabppaaaDoor
namespace Rows

/-- THE TIED CARD OF 'ephemeristop.TopZones'. -/
def topZonesCard : Claim7 := { stood := { row := topZonesRow, standIns := [], harness := (true, "8f3412075017ce7b38981c26e9453402b5850dd0e055e14372e5afe1bef21a84"), looks := true }, kinds := [], alts := [], laidByText := true, laidKinds := [.data, .data, .data, .data, .sentinel, .sentinel, .pinned], laidTests := true, laidLooks := .later }
def TopZonesCardSaid : Prop := Claim7.holds Tryd.pinned (.plain (OpenSpec.ofChange topZonesSpec)) topZonesCard

/-- THE TIED CARD OF 'ephemeriskeep1.CompileLeastSame'. -/
def compileLeastSameCard : Claim7 := { stood := { row := compileLeastSameRow, standIns := [], harness := (true, "8f3412075017ce7b38981c26e9453402b5850dd0e055e14372e5afe1bef21a84"), looks := true }, kinds := [], alts := [], laidByText := true, laidKinds := [.data], laidTests := true, laidLooks := .later }
def CompileLeastSameCardSaid : Prop := Claim7.holds Tryd.pinned (.plain (OpenSpec.ofChange compileLeastSameSpec)) compileLeastSameCard

/-- THE TIED CARD OF 'ephemeriskeep1.NumeralWidths'. -/
def numeralWidthsCard : Claim7 := { stood := { row := numeralWidthsRow, standIns := [], harness := (true, "8f3412075017ce7b38981c26e9453402b5850dd0e055e14372e5afe1bef21a84"), looks := true }, kinds := [], alts := [], laidByText := true, laidKinds := [.data, .data, .data, .data, .data, .data, .data, .data], laidTests := true, laidLooks := .later }
def NumeralWidthsCardSaid : Prop := Claim7.holds Tryd.pinned (.plain (OpenSpec.ofChange numeralWidthsSpec)) numeralWidthsCard

/-- THE TIED CARD OF 'ephemeriskeep1.ForecastOnce'. -/
def forecastOnceCard : Claim7 := { stood := { row := forecastOnceRow, standIns := [], harness := (true, "8f3412075017ce7b38981c26e9453402b5850dd0e055e14372e5afe1bef21a84"), looks := true }, kinds := [], alts := [], laidByText := true, laidKinds := [.data, .data, .data], laidTests := true, laidLooks := .later }
def ForecastOnceCardSaid : Prop := Claim7.holds Tryd.pinned (.plain (OpenSpec.ofChange forecastOnceSpec)) forecastOnceCard

/-- THE SECOND FORM's CARD OF 'ephemeristop.TopZones'. -/
def topZonesUptoCard : Claim7 := { stood := { row := topZonesUptoRow, standIns := [], harness := (true, "8f3412075017ce7b38981c26e9453402b5850dd0e055e14372e5afe1bef21a84"), looks := true }, kinds := [], alts := [], laidByText := true, laidKinds := [.data, .data, .data, .data, .sentinel, .sentinel, .pinned], laidTests := true, laidLooks := .later }
def TopZonesUptoCardSaid : Prop := Claim7.holds Tryd.pinned (.plain (OpenSpec.upto topZonesSpec)) topZonesUptoCard

/-- THE SECOND FORM's CARD OF 'ephemeriskeep1.CompileLeastSame'. -/
def compileLeastSameUptoCard : Claim7 := { stood := { row := compileLeastSameUptoRow, standIns := [], harness := (true, "8f3412075017ce7b38981c26e9453402b5850dd0e055e14372e5afe1bef21a84"), looks := true }, kinds := [], alts := [], laidByText := true, laidKinds := [.data], laidTests := true, laidLooks := .later }
def CompileLeastSameUptoCardSaid : Prop := Claim7.holds Tryd.pinned (.plain (OpenSpec.upto compileLeastSameSpec)) compileLeastSameUptoCard

/-- THE SECOND FORM's CARD OF 'ephemeriskeep1.NumeralWidths'. -/
def numeralWidthsUptoCard : Claim7 := { stood := { row := numeralWidthsUptoRow, standIns := [], harness := (true, "8f3412075017ce7b38981c26e9453402b5850dd0e055e14372e5afe1bef21a84"), looks := true }, kinds := [], alts := [], laidByText := true, laidKinds := [.data, .data, .data, .data, .data, .data, .data, .data], laidTests := true, laidLooks := .later }
def NumeralWidthsUptoCardSaid : Prop := Claim7.holds Tryd.pinned (.plain (OpenSpec.upto numeralWidthsSpec)) numeralWidthsUptoCard

/-- THE SECOND FORM's CARD OF 'ephemeriskeep1.ForecastOnce'. -/
def forecastOnceUptoCard : Claim7 := { stood := { row := forecastOnceUptoRow, standIns := [], harness := (true, "8f3412075017ce7b38981c26e9453402b5850dd0e055e14372e5afe1bef21a84"), looks := true }, kinds := [], alts := [], laidByText := true, laidKinds := [.data, .data, .data], laidTests := true, laidLooks := .later }
def ForecastOnceUptoCardSaid : Prop := Claim7.holds Tryd.pinned (.plain (OpenSpec.upto forecastOnceSpec)) forecastOnceUptoCard
end Rows
end Go.Proofs.YtidjaahpabppaaaDoor
