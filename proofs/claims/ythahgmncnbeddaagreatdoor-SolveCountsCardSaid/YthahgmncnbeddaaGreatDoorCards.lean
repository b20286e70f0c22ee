/-
  DERIVED. GIVEN WITH THE SEED: THE CARDS: each row of YthahgmncnbeddaaGreatDoorRows.lean that lists a variable, with what it lists TIED to the program's text (the seventh form; the later family's looks); each row that meets fmt, with fmt's text TOLD by the authors' own Lean function (tested against real Go, not proved from fmt's source: count such statements apart). THE CARD IS WHAT COUNTS. Prove the row's statement (the work); the ties are given (YthahgmncnbeddaaGreatDoorTie.lean); close each card by the builder's one call (the guide's Derived/Test/ToyasCard.lean, 'card_holds'). Laid BY PROGRAM, IN A SANDBOX (cutbox-door.mjs). By AI agents, Wed Nov 11 2026. No macro, syntax, notation, axiom, sorry.
-/
import Derived.Test.YthahgmncnbeddaaGreatDoorRows
import GoSem.ClaimSeven
namespace Go.Proofs.YthahgmncnbeddaaGreatDoor
namespace Rows

/-- THE TIED CARD OF 'ephemeriskeep1.SolveAlgebra'. -/
def solveAlgebraCard : Claim7 := { stood := { row := solveAlgebraRow, standIns := [], harness := (true, "0146e91338688e23cab8196a7fb1f9a0a2ef9dc4383bac5904487409a68654be"), looks := true }, kinds := [], alts := [], laidByText := true, laidKinds := [.data, .data, .data, .data, .sentinel, .sentinel, .listed, .data, .data, .data, .data, .data, .pinned], laidTests := true, laidLooks := .later }
def SolveAlgebraCardSaid : Prop := Claim7.holds Tryz.pinned (.plain (OpenSpec.ofChange solveAlgebraSpec)) solveAlgebraCard

/-- THE TIED CARD OF 'ephemeriskeep1.SolveShifts'. -/
def solveShiftsCard : Claim7 := { stood := { row := solveShiftsRow, standIns := [], harness := (true, "0146e91338688e23cab8196a7fb1f9a0a2ef9dc4383bac5904487409a68654be"), looks := true }, kinds := [], alts := [], laidByText := true, laidKinds := [.data, .data, .data, .data, .sentinel, .sentinel, .listed, .data, .data, .data, .data, .data, .pinned], laidTests := true, laidLooks := .later }
def SolveShiftsCardSaid : Prop := Claim7.holds Tryz.pinned (.plain (OpenSpec.ofChange solveShiftsSpec)) solveShiftsCard

/-- THE TIED CARD OF 'ephemeriskeep1.SolveMonths'. -/
def solveMonthsCard : Claim7 := { stood := { row := solveMonthsRow, standIns := [], harness := (true, "0146e91338688e23cab8196a7fb1f9a0a2ef9dc4383bac5904487409a68654be"), looks := true }, kinds := [], alts := [], laidByText := true, laidKinds := [.data, .data, .data, .data, .sentinel, .sentinel, .listed, .data, .data, .data, .data, .data, .pinned], laidTests := true, laidLooks := .later }
def SolveMonthsCardSaid : Prop := Claim7.holds Tryz.pinned (.plain (OpenSpec.ofChange solveMonthsSpec)) solveMonthsCard

/-- THE TIED CARD OF 'ephemeriskeep1.SolveCounts'. -/
def solveCountsCard : Claim7 := { stood := { row := solveCountsRow, standIns := [], harness := (true, "0146e91338688e23cab8196a7fb1f9a0a2ef9dc4383bac5904487409a68654be"), looks := true }, kinds := [], alts := [], laidByText := true, laidKinds := [.data, .data, .data, .data, .sentinel, .sentinel, .listed, .data, .data, .data, .data, .data, .pinned], laidTests := true, laidLooks := .later }
def SolveCountsCardSaid : Prop := Claim7.holds Tryz.pinned (.plain (OpenSpec.ofChange solveCountsSpec)) solveCountsCard

/-- THE TIED CARD OF 'ephemeriskeep1.PeriodRepeats'. -/
def periodRepeatsCard : Claim7 := { stood := { row := periodRepeatsRow, standIns := [], harness := (true, "0146e91338688e23cab8196a7fb1f9a0a2ef9dc4383bac5904487409a68654be"), looks := true }, kinds := [], alts := [], laidByText := true, laidKinds := [.data, .data, .data, .data, .sentinel, .sentinel, .listed, .data, .data, .data, .data, .data, .pinned], laidTests := true, laidLooks := .later }
def PeriodRepeatsCardSaid : Prop := Claim7.holds Tryz.pinned (.plain (OpenSpec.ofChange periodRepeatsSpec)) periodRepeatsCard

/-- THE TIED CARD OF 'ephemeriskeep1.TermsEnd'. -/
def termsEndCard : Claim7 := { stood := { row := termsEndRow, standIns := [], harness := (true, "0146e91338688e23cab8196a7fb1f9a0a2ef9dc4383bac5904487409a68654be"), looks := true }, kinds := [], alts := [], laidByText := true, laidKinds := [.data, .data, .data, .data, .sentinel, .sentinel, .listed, .data, .data, .data, .data, .data, .pinned], laidTests := true, laidLooks := .later }
def TermsEndCardSaid : Prop := Claim7.holds Tryz.pinned (.plain (OpenSpec.ofChange termsEndSpec)) termsEndCard

/-- THE TIED CARD OF 'ephemeriskeep1.TermsBack'. -/
def termsBackCard : Claim7 := { stood := { row := termsBackRow, standIns := [], harness := (true, "0146e91338688e23cab8196a7fb1f9a0a2ef9dc4383bac5904487409a68654be"), looks := true }, kinds := [], alts := [], laidByText := true, laidKinds := [.data, .data, .data, .data, .sentinel, .sentinel, .listed, .data, .data, .data, .data, .data, .pinned], laidTests := true, laidLooks := .later }
def TermsBackCardSaid : Prop := Claim7.holds Tryz.pinned (.plain (OpenSpec.ofChange termsBackSpec)) termsBackCard

/-- THE TIED CARD OF 'ephemeristop.TopTerms'. -/
def topTermsCard : Claim7 := { stood := { row := topTermsRow, standIns := [], harness := (true, "0146e91338688e23cab8196a7fb1f9a0a2ef9dc4383bac5904487409a68654be"), looks := true }, kinds := [], alts := [], laidByText := true, laidKinds := [.data, .data, .data, .data, .sentinel, .sentinel, .listed, .data, .data, .data, .data, .data, .pinned], laidTests := true, laidLooks := .later }
def TopTermsCardSaid : Prop := Claim7.holds Tryz.pinned (.plain (OpenSpec.ofChange topTermsSpec)) topTermsCard

/-- THE SECOND FORM's CARD OF 'ephemeriskeep1.SolveAlgebra'. -/
def solveAlgebraUptoCard : Claim7 := { stood := { row := solveAlgebraUptoRow, standIns := [], harness := (true, "0146e91338688e23cab8196a7fb1f9a0a2ef9dc4383bac5904487409a68654be"), looks := true }, kinds := [], alts := [], laidByText := true, laidKinds := [.data, .data, .data, .data, .sentinel, .sentinel, .listed, .data, .data, .data, .data, .data, .pinned], laidTests := true, laidLooks := .later }
def SolveAlgebraUptoCardSaid : Prop := Claim7.holds Tryz.pinned (.plain (OpenSpec.upto solveAlgebraSpec)) solveAlgebraUptoCard

/-- THE SECOND FORM's CARD OF 'ephemeriskeep1.SolveShifts'. -/
def solveShiftsUptoCard : Claim7 := { stood := { row := solveShiftsUptoRow, standIns := [], harness := (true, "0146e91338688e23cab8196a7fb1f9a0a2ef9dc4383bac5904487409a68654be"), looks := true }, kinds := [], alts := [], laidByText := true, laidKinds := [.data, .data, .data, .data, .sentinel, .sentinel, .listed, .data, .data, .data, .data, .data, .pinned], laidTests := true, laidLooks := .later }
def SolveShiftsUptoCardSaid : Prop := Claim7.holds Tryz.pinned (.plain (OpenSpec.upto solveShiftsSpec)) solveShiftsUptoCard

/-- THE SECOND FORM's CARD OF 'ephemeriskeep1.SolveMonths'. -/
def solveMonthsUptoCard : Claim7 := { stood := { row := solveMonthsUptoRow, standIns := [], harness := (true, "0146e91338688e23cab8196a7fb1f9a0a2ef9dc4383bac5904487409a68654be"), looks := true }, kinds := [], alts := [], laidByText := true, laidKinds := [.data, .data, .data, .data, .sentinel, .sentinel, .listed, .data, .data, .data, .data, .data, .pinned], laidTests := true, laidLooks := .later }
def SolveMonthsUptoCardSaid : Prop := Claim7.holds Tryz.pinned (.plain (OpenSpec.upto solveMonthsSpec)) solveMonthsUptoCard

/-- THE SECOND FORM's CARD OF 'ephemeriskeep1.SolveCounts'. -/
def solveCountsUptoCard : Claim7 := { stood := { row := solveCountsUptoRow, standIns := [], harness := (true, "0146e91338688e23cab8196a7fb1f9a0a2ef9dc4383bac5904487409a68654be"), looks := true }, kinds := [], alts := [], laidByText := true, laidKinds := [.data, .data, .data, .data, .sentinel, .sentinel, .listed, .data, .data, .data, .data, .data, .pinned], laidTests := true, laidLooks := .later }
def SolveCountsUptoCardSaid : Prop := Claim7.holds Tryz.pinned (.plain (OpenSpec.upto solveCountsSpec)) solveCountsUptoCard

/-- THE SECOND FORM's CARD OF 'ephemeriskeep1.PeriodRepeats'. -/
def periodRepeatsUptoCard : Claim7 := { stood := { row := periodRepeatsUptoRow, standIns := [], harness := (true, "0146e91338688e23cab8196a7fb1f9a0a2ef9dc4383bac5904487409a68654be"), looks := true }, kinds := [], alts := [], laidByText := true, laidKinds := [.data, .data, .data, .data, .sentinel, .sentinel, .listed, .data, .data, .data, .data, .data, .pinned], laidTests := true, laidLooks := .later }
def PeriodRepeatsUptoCardSaid : Prop := Claim7.holds Tryz.pinned (.plain (OpenSpec.upto periodRepeatsSpec)) periodRepeatsUptoCard

/-- THE SECOND FORM's CARD OF 'ephemeriskeep1.TermsEnd'. -/
def termsEndUptoCard : Claim7 := { stood := { row := termsEndUptoRow, standIns := [], harness := (true, "0146e91338688e23cab8196a7fb1f9a0a2ef9dc4383bac5904487409a68654be"), looks := true }, kinds := [], alts := [], laidByText := true, laidKinds := [.data, .data, .data, .data, .sentinel, .sentinel, .listed, .data, .data, .data, .data, .data, .pinned], laidTests := true, laidLooks := .later }
def TermsEndUptoCardSaid : Prop := Claim7.holds Tryz.pinned (.plain (OpenSpec.upto termsEndSpec)) termsEndUptoCard

/-- THE SECOND FORM's CARD OF 'ephemeriskeep1.TermsBack'. -/
def termsBackUptoCard : Claim7 := { stood := { row := termsBackUptoRow, standIns := [], harness := (true, "0146e91338688e23cab8196a7fb1f9a0a2ef9dc4383bac5904487409a68654be"), looks := true }, kinds := [], alts := [], laidByText := true, laidKinds := [.data, .data, .data, .data, .sentinel, .sentinel, .listed, .data, .data, .data, .data, .data, .pinned], laidTests := true, laidLooks := .later }
def TermsBackUptoCardSaid : Prop := Claim7.holds Tryz.pinned (.plain (OpenSpec.upto termsBackSpec)) termsBackUptoCard

/-- THE SECOND FORM's CARD OF 'ephemeristop.TopTerms'. -/
def topTermsUptoCard : Claim7 := { stood := { row := topTermsUptoRow, standIns := [], harness := (true, "0146e91338688e23cab8196a7fb1f9a0a2ef9dc4383bac5904487409a68654be"), looks := true }, kinds := [], alts := [], laidByText := true, laidKinds := [.data, .data, .data, .data, .sentinel, .sentinel, .listed, .data, .data, .data, .data, .data, .pinned], laidTests := true, laidLooks := .later }
def TopTermsUptoCardSaid : Prop := Claim7.holds Tryz.pinned (.plain (OpenSpec.upto topTermsSpec)) topTermsUptoCard
end Rows
end Go.Proofs.YthahgmncnbeddaaGreatDoor
